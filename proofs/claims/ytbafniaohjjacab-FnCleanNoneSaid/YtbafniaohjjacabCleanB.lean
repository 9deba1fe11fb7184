/-
  Contracts of CleanPeak of the program and of the reference, and of CleanNew of the reference.
-/
import Derived.Test.YtbafniaohjjacabClean
namespace Go.Proofs.Ytbafniaohjjacab
open Go.RowKit

def cpK (xs ys : List Int) : Int := if svB xs && svB ys then (pk ys : Int) else 0
def cpT (xs ys : List Int) : Int := if svB xs && svB ys then top ys else 0
theorem ret_iib {a b x y : Int} {c : Bool} (h : a = b) (h' : x = y) : Ending.returned (.tuple #[.int .i64 a, .int .i64 x, .bool c]) = .returned (.tuple #[.int .i64 b, .int .i64 y, .bool c]) := by rw [h, h']
set_option maxHeartbeats 400000 in
theorem cleanPeak_any (A B : Option Addr) (n c m d : Nat) (xs ys : List Int) (w : World) (hn : xs.length = n) (hm : ys.length = m) (h : Rd w w.heap.size A n c (ints xs)) (h' : Rd w w.heap.size B m d (ints ys)) :
    Calls Try.prog 21 #[.agg #[.slice A n c, .slice B m d]] w fun e w' => e = .returned (.tuple #[.int .i64 (cpK xs ys), .int .i64 (cpT xs ys), .bool (svB xs && svB ys)]) ∧ Ext w w' := by
  have x0 : Ext w (w.alloc (.cells #[.slice A n c, .slice B m d] 25)) := (Ext.refl w).alloc _
  have HC := Lib.hid (cleanValid_any A B n c m d xs ys _ hn hm (h.ext x0) (h'.ext x0))
  rcases hv : (svB xs && svB ys) with _ | _
  · rw [hv] at HC
    have HK : Hid (cpK xs ys = 0) := by show _ = _; simp [cpK, hv]
    have HT : Hid (cpT xs ys = 0) := by show _ = _; simp [cpT, hv]
    clear hn hm h h' hv
    go_enter Try.func21, Try.ntmps21
    go_wp2_with fail
    refine HC.out.mono ?_
    rintro e w1 ⟨rfl, x1⟩
    go_wp2
    go_ret3
    exact ⟨ret_iib HK.out.symm HT.out.symm, x0.trans x1⟩
  · rw [hv] at HC
    have HK : Hid (cpK xs ys = (pk ys : Int)) := by show _ = _; simp [cpK, hv]
    have HT : Hid (cpT xs ys = top ys) := by show _ = _; simp [cpT, hv]
    have hp := hv
    simp only [Bool.and_eq_true] at hp
    obtain rfl : m = 16 := by rw [← hm]; exact svB_16 hp.2
    have HM := Lib.hid (fun (W : World) (x : Ext w W) => slicesMax_any B d ys W hm (h'.ext x))
    have HI := Lib.hid (fun (W : World) (x : Ext w W) => slicesIndex_top B d ys W hm (h'.ext x))
    have HS := Lib.hid (St.new w #[.slice A n c, .slice B 16 d] 25)
    clear hn hm h h' hv hp
    go_enter Try.func21, Try.ntmps21
    go_wp2_with fail
    refine HC.out.mono ?_
    rintro e w1 ⟨rfl, x1⟩
    have k1 := (HS.out.ext x1).cell1
    go_wp2_with fail
    refine (HM.out _ (x0.trans x1)).mono ?_
    rintro e w' ⟨rfl, rfl⟩
    go_wp2_with fail
    refine (HI.out _ (x0.trans x1)).mono ?_
    rintro e w' ⟨rfl, rfl⟩
    go_wp2
    go_ret3
    exact ⟨ret_iib HK.out.symm HT.out.symm, x0.trans x1⟩
theorem Sl.of_made {w : World} {M : Nat} {E : TypeId} (h : w.heap[M]? = some (.cells (madeCells #[.int .i64 0] 16) E (0, 0))) : Sl w M (M + 1) E (some ⟨M, 0, none⟩) 16 16 (ints zero16) := by
  rw [← zero16_rep, ← ints_rep]
  refine ⟨Nat.le_refl _, fun _ => ⟨M, 0, _, rfl, Nat.le_refl _, Nat.lt_succ_self _, h, fun j u hu => ?_⟩⟩
  rw [← toList_madeCells_one] at hu
  simpa using hu
theorem own_block {w : World} {base g1 c n b : Nat} {E : TypeId} {size : Nat} {xs : List Value} (h : w.ownsRow base E size (.slice (some ⟨g1, 0, none⟩) n c) n xs) (hb : b < g1) : w.ownsRow (b + 1) E size (.slice (some ⟨g1, 0, none⟩) n c) n xs := by
  refine ⟨h.1, ?_⟩
  rcases h.2 with ⟨h0, _⟩ | ⟨g, cap, cur, h0, h1, h2⟩
  · cases h0
  · have : g = g1 := by simp at h0; omega
    exact .inr ⟨g, cap, cur, h0, by omega, h2⟩
theorem pair_ab {w w1 : World} {M g1 c1 base : Nat} {T : TypeId} {u v : Value} {xs : List Int} (Q : St w1 w.heap.size #[u, v] T) (ow : w1.ownsRow base 3 1 (.slice (some ⟨g1, 0, none⟩) 16 c1) 16 (ints xs)) (mm : w1.heap[M]? = some (.cells (madeCells #[.int .i64 0] 16) 3 (0, 0)))
    (s1 : Sl w1 g1 (g1 + 1) 3 (some ⟨g1, 0, none⟩) 16 c1 (ints xs)) (hM : w.heap.size < M) (hg : w.heap.size < g1) (hl : g1 < w1.heap.size) (hne : M ≠ g1) (x : Ext w w1) (hn : xs.length = 16) :
    ((w1.setCell ⟨w.heap.size, 0, none⟩ (.slice (some ⟨M, 0, none⟩) 16 16)).setCell ⟨w.heap.size, 1, none⟩ (.slice (some ⟨g1, 0, none⟩) 16 c1)).cell? ⟨w.heap.size, 0, none⟩ = some (.slice (some ⟨M, 0, none⟩) 16 16) ∧
    ((w1.setCell ⟨w.heap.size, 0, none⟩ (.slice (some ⟨M, 0, none⟩) 16 16)).setCell ⟨w.heap.size, 1, none⟩ (.slice (some ⟨g1, 0, none⟩) 16 c1)).cell? ⟨w.heap.size, 1, none⟩ = some (.slice (some ⟨g1, 0, none⟩) 16 c1) ∧
    RetCBO w 3 zero16 xs true (.returned (.tuple #[.agg #[.slice (some ⟨M, 0, none⟩) 16 16, .slice (some ⟨g1, 0, none⟩) 16 c1], .bool true])) ((w1.setCell ⟨w.heap.size, 0, none⟩ (.slice (some ⟨M, 0, none⟩) 16 16)).setCell ⟨w.heap.size, 1, none⟩ (.slice (some ⟨g1, 0, none⟩) 16 c1)) := by
  have R := Q.put2 (.slice (some ⟨M, 0, none⟩) 16 16) (.slice (some ⟨g1, 0, none⟩) 16 c1)
  have hml := lt_of_heap mm
  have T := (Two.of (lo := w.heap.size + 1) (hi := w1.heap.size) (Sl.of_made mm) s1 (by omega) (by omega) (by omega) (by omega) (by omega)).put2 (Nat.lt_succ_self w.heap.size) (.slice (some ⟨M, 0, none⟩) 16 16) (.slice (some ⟨g1, 0, none⟩) 16 c1)
  exact ⟨R.cell0, R.cell1, RetCBO.mk' rfl rfl zero16_length.symm hn.symm T (by omega) (by simp) (Ext.put2 x (Nat.le_refl _) _ _) (own_put2 (own_block ow hg) (own_low (own_block ow hg) (Nat.lt_succ_self _)) _ _) (by omega)⟩
theorem pair_c {w w1 : World} {g1 c1 base : Nat} {T : TypeId} {u v : Value} {xs : List Int} (Q : St w1 w.heap.size #[u, v] T) (ow : w1.ownsRow base 3 1 (.slice (some ⟨g1, 0, none⟩) 16 c1) 16 (ints xs))
    (s1 : Sl w1 g1 (g1 + 1) 3 (some ⟨g1, 0, none⟩) 16 c1 (ints xs)) (hg : w.heap.size < g1) (hl : g1 < w1.heap.size) (x : Ext w w1) (hn : xs.length = 16) :
    (((w1.setCell ⟨w.heap.size, 0, none⟩ (.slice (some ⟨w1.heap.size, 0, none⟩) 16 16)).setCell ⟨w.heap.size, 1, none⟩ (.slice (some ⟨g1, 0, none⟩) 16 c1)).alloc (.cells (madeCells #[.int .i64 0] 16) 3)).cell? ⟨w.heap.size, 0, none⟩ = some (.slice (some ⟨w1.heap.size, 0, none⟩) 16 16) ∧
    (((w1.setCell ⟨w.heap.size, 0, none⟩ (.slice (some ⟨w1.heap.size, 0, none⟩) 16 16)).setCell ⟨w.heap.size, 1, none⟩ (.slice (some ⟨g1, 0, none⟩) 16 c1)).alloc (.cells (madeCells #[.int .i64 0] 16) 3)).cell? ⟨w.heap.size, 1, none⟩ = some (.slice (some ⟨g1, 0, none⟩) 16 c1) ∧
    RetCBO w 3 zero16 xs true (.returned (.tuple #[.agg #[.slice (some ⟨w1.heap.size, 0, none⟩) 16 16, .slice (some ⟨g1, 0, none⟩) 16 c1], .bool true])) (((w1.setCell ⟨w.heap.size, 0, none⟩ (.slice (some ⟨w1.heap.size, 0, none⟩) 16 16)).setCell ⟨w.heap.size, 1, none⟩ (.slice (some ⟨g1, 0, none⟩) 16 c1)).alloc (.cells (madeCells #[.int .i64 0] 16) 3)) := by
  have R := (Q.put2 (.slice (some ⟨w1.heap.size, 0, none⟩) 16 16) (.slice (some ⟨g1, 0, none⟩) 16 c1)).ext ((Ext.refl _).alloc (.cells (madeCells #[.int .i64 0] 16) 3))
  have m0 := Sl.made ((w1.setCell ⟨w.heap.size, 0, none⟩ (.slice (some ⟨w1.heap.size, 0, none⟩) 16 16)).setCell ⟨w.heap.size, 1, none⟩ (.slice (some ⟨g1, 0, none⟩) 16 c1)) 3 (.int .i64 0) 16
  rw [size_put2, ints_rep, zero16_rep] at m0
  have s2 := ((s1.far (p := ⟨w.heap.size, 0, none⟩) (.inl hg) (.slice (some ⟨w1.heap.size, 0, none⟩) 16 16)).far (p := ⟨w.heap.size, 1, none⟩) (.inl hg) (.slice (some ⟨g1, 0, none⟩) 16 c1)).ext ((Ext.refl _).alloc (.cells (madeCells #[.int .i64 0] 16) 3))
  have hs := x.size
  have T := Two.of (lo := w.heap.size) (hi := w1.heap.size + 1) m0 s2 (.inr (by omega)) (by omega) (by omega) (by omega) (by omega)
  exact ⟨R.cell0, R.cell1, RetCBO.mk' rfl rfl zero16_length.symm hn.symm T (by omega) (by simp) ((Ext.put2 x (Nat.le_refl _) _ _).alloc _) (own_ext (own_put2 (own_block ow hg) (own_low (own_block ow hg) (Nat.lt_succ_self _)) _ _) ((Ext.refl _).alloc _)) (by omega)⟩
set_option maxHeartbeats 1000000 in
theorem specCleanNew_own (A : Option Addr) (n c : Nat) (xs : List Int) (w : World) (hn : xs.length = n) (hz : n ≤ 1048576) (h : Rd w w.heap.size A n c (ints xs)) :
    Calls Try.prog 48 #[.slice A n c] w (RetCBO w 3 (cnM xs) (cnL xs) (svB xs)) := by
  have HC := Lib.hid (fun (W : World) (x : Ext w W) => specSkyValid_any A n c xs W hn (by omega) (h.ext x))
  rcases hv : svB xs with _ | _
  · rw [hv] at HC
    have HM : Hid (cnM xs = []) := by show _ = _; simp [cnM, hv]
    have HL : Hid (cnL xs = []) := by show _ = _; simp [cnL, hv]
    clear hn h hv
    go_enter Try.func48, Try.ntmps48
    go_wp2_with fail
    refine (HC.out _ ((Ext.refl w).alloc _)).mono ?_
    rintro e w' ⟨rfl, rfl⟩
    go_wp2
    exact bodyPost_ret (v := .tuple #[.agg #[.slice none 0 0, .slice none 0 0], .bool false]) (by simp [results, Try.results48, go_sem]) rfl (RetCBO.nil HM.out HL.out ((Ext.refl w).alloc _))
  · rw [hv] at HC
    have HM : Hid (cnM xs = zero16) := by show _ = _; simp [cnM, hv]
    have HL : Hid (cnL xs = xs) := by show _ = _; simp [cnL, hv]
    obtain rfl : n = 16 := by rw [← hn]; exact svB_16 hv
    obtain ⟨g, off, rfl⟩ := h.addr (by rw [ints_length, hn]; omega)
    have hmk := makeInts16
    have HN := Lib.hid hn
    have HLn : Hid ((ints xs).length = 16 * 1) := by show _ = _; rw [ints_length, hn]
    clear hn hv
    go_enter Try.func48, Try.ntmps48
    go_wp2_with fail
    refine (HC.out _ ((Ext.refl w).alloc _)).mono ?_
    rintro e w' ⟨rfl, rfl⟩
    go_wp2
    go_region_held3 (fun _ => True) (trivial)
      (first
        | (go_at_call 47; refine (l21Cells_any _).mono ?_; rintro e w' ⟨rfl, rfl⟩)
        | ((refine step_appE (by rfl) _ _ _ (by rfl) 3 (.int .i64 0) 8 I.infoInt Try.underlying23 rfl _ (by rfl) (by repeat (first | exact heap_new (by simp) | (with_reducible refine heap_old ?_) | (with_reducible refine heap_drew ?_))) g off 16 c (ints xs) (by rfl) HLn.out (h.ext (by repeat (first | (with_reducible exact Ext.refl _) | (with_reducible refine Ext.drew ?_) | (with_reducible refine Ext.alloc ?_ _)))) (ints_one xs) (by omega) (by omega) (by omega) ?_; intro g1 c1 w1 s1 hg1 hl1 ch1 ow1;
            have xE := Ext.more (w := w.alloc (.cells #[.slice none 0 0, .slice none 0 0] 25)) (by repeat (first | (with_reducible exact Ext.refl _) | (with_reducible refine Ext.drew ?_) | (with_reducible refine Ext.alloc ?_ _))) ch1 (by simp); have q := (St.new w #[.slice none 0 0, .slice none 0 0] 25).ext xE; have q0 := q.cell0; have q1 := q.cell1; have q2 := q.frozen 0; have q3 := q.frozen 1; have q4 := q.lt; have q5 : w.heap.size ≠ w1.heap.size := Nat.ne_of_lt q4; have Q := Lib.hid q; clear q)))
    all_goals simp only [World.size_alloc, World.size_drew] at hg1
    all_goals have z1 := ch1.size
    all_goals simp only [World.size_alloc, World.size_drew] at z1
    · obtain ⟨r0, r1, R⟩ := pair_ab (M := w.heap.size + 1) Q.out ow1 ((ch1.block _ (by simp) (by omega)).trans (by repeat (first | exact heap_new (by simp) | (with_reducible refine heap_old ?_) | (with_reducible refine heap_drew ?_)))) s1 (by omega) (by omega) hl1 (by omega) (((Ext.refl w).alloc _).trans xE) HN.out
      go_wp2
      rw [HM.out, HL.out]
      exact bodyPost_ret (v := .tuple #[.agg #[.slice (some ⟨w.heap.size + 1, 0, none⟩) 16 16, .slice (some ⟨g1, 0, none⟩) 16 c1], .bool true]) (by simp [results, Try.results48, go_sem, r0, r1]) rfl R
    · obtain ⟨r0, r1, R⟩ := pair_ab (M := w.heap.size + 1 + 1) Q.out ow1 ((ch1.block _ (by simp) (by omega)).trans (by repeat (first | exact heap_new (by simp) | (with_reducible refine heap_old ?_) | (with_reducible refine heap_drew ?_)))) s1 (by omega) (by omega) hl1 (by omega) (((Ext.refl w).alloc _).trans xE) HN.out
      go_wp2
      rw [HM.out, HL.out]
      exact bodyPost_ret (v := .tuple #[.agg #[.slice (some ⟨w.heap.size + 1 + 1, 0, none⟩) 16 16, .slice (some ⟨g1, 0, none⟩) 16 c1], .bool true]) (by simp [results, Try.results48, go_sem, r0, r1]) rfl R
    · obtain ⟨r0, r1, R⟩ := pair_c Q.out ow1 s1 (by omega) hl1 (((Ext.refl w).alloc _).trans xE) HN.out
      go_wp2
      rw [HM.out, HL.out]
      exact bodyPost_ret (v := .tuple #[.agg #[.slice (some ⟨w1.heap.size, 0, none⟩) 16 16, .slice (some ⟨g1, 0, none⟩) 16 c1], .bool true]) (by simp [results, Try.results48, go_sem, r0, r1]) rfl R
    · obtain ⟨r0, r1, R⟩ := pair_ab (M := w.heap.size + 1 + 1) Q.out ow1 ((ch1.block _ (by simp) (by omega)).trans (by repeat (first | exact heap_new (by simp) | (with_reducible refine heap_old ?_) | (with_reducible refine heap_drew ?_)))) s1 (by omega) (by omega) hl1 (by omega) (((Ext.refl w).alloc _).trans xE) HN.out
      go_wp2
      rw [HM.out, HL.out]
      exact bodyPost_ret (v := .tuple #[.agg #[.slice (some ⟨w.heap.size + 1 + 1, 0, none⟩) 16 16, .slice (some ⟨g1, 0, none⟩) 16 c1], .bool true]) (by simp [results, Try.results48, go_sem, r0, r1]) rfl R
    · obtain ⟨r0, r1, R⟩ := pair_c Q.out ow1 s1 (by omega) hl1 (((Ext.refl w).alloc _).trans xE) HN.out
      go_wp2
      rw [HM.out, HL.out]
      exact bodyPost_ret (v := .tuple #[.agg #[.slice (some ⟨w1.heap.size, 0, none⟩) 16 16, .slice (some ⟨g1, 0, none⟩) 16 c1], .bool true]) (by simp [results, Try.results48, go_sem, r0, r1]) rfl R
theorem specCleanNew_any (A : Option Addr) (n c : Nat) (xs : List Int) (w : World) (hn : xs.length = n) (hz : n ≤ 1048576) (h : Rd w w.heap.size A n c (ints xs)) :
    Calls Try.prog 48 #[.slice A n c] w (RetCB w 3 (cnM xs) (cnL xs) (svB xs)) := (specCleanNew_own A n c xs w hn hz h).mono fun _ _ h => h.cb
end Go.Proofs.Ytbafniaohjjacab
