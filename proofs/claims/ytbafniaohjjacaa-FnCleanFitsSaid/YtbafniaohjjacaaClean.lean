/-
  Contracts of cleanValid, l24Valid, CleanNew, CleanPeak of the program and of the reference.
-/
import Derived.Test.YtbafniaohjjacaaSkySpec
import Derived.Test.YtbafniaohjjacaaStruct
import Derived.Test.YtbafniaohjjacaaCleanPlain
namespace Go.Proofs.Ytbafniaohjjacaa
open Go.RowKit

abbrev cl (A : Option Addr) (n c : Nat) (B : Option Addr) (m d : Nat) : Value := .agg #[.slice A n c, .slice B m d]

theorem cleanValid_any (A B : Option Addr) (n c m d : Nat) (xs ys : List Int) (w : World) (hn : xs.length = n) (hm : ys.length = m) (h : Rd w w.heap.size A n c (ints xs)) (h' : Rd w w.heap.size B m d (ints ys)) :
    Calls Try.prog 45 #[.agg #[.slice A n c, .slice B m d]] w fun e w' => e = .returned (.bool (svB xs && svB ys)) ∧ Ext w w' := by
  have HC := Lib.hid (skyValid_any A n c xs (w.alloc (.cells #[.slice A n c, .slice B m d] 24)) hn ((h.alloc (Nat.le_refl _) _).mono (by simp)))
  have HD := Lib.hid (skyValid_any B m d ys (w.alloc (.cells #[.slice A n c, .slice B m d] 24)) hm ((h'.alloc (Nat.le_refl _) _).mono (by simp)))
  clear hn hm h h'
  rcases hv : svB xs with _ | _
  · rw [hv] at HC
    clear hv
    go_enter Try.func45, Try.ntmps45
    go_wp2_with fail
    refine HC.out.mono ?_
    rintro e w' ⟨rfl, rfl⟩
    go_wp2
    go_ret
    exact ⟨ret_bool (by simp), (Ext.refl w).alloc _⟩
  · rw [hv] at HC
    clear hv
    go_enter Try.func45, Try.ntmps45
    go_wp2_with fail
    refine HC.out.mono ?_
    rintro e w' ⟨rfl, rfl⟩
    go_wp2_with fail
    refine HD.out.mono ?_
    rintro e w' ⟨rfl, rfl⟩
    go_wp2
    go_ret
    exact ⟨ret_bool (by simp), (Ext.refl w).alloc _⟩
theorem l24Valid_any (A B : Option Addr) (n c m d : Nat) (xs ys : List Int) (w : World) (hn : xs.length = n) (hm : ys.length = m) (hz1 : n ≤ 1048576) (hz2 : m ≤ 1048576) (h : Rd w w.heap.size A n c (ints xs)) (h' : Rd w w.heap.size B m d (ints ys)) :
    Calls Try.prog 43 #[.agg #[.slice A n c, .slice B m d]] w fun e w' => e = .returned (.bool (svB xs && svB ys)) ∧ Ext w w' := by
  have HC := Lib.hid (specSkyValid_any A n c xs (w.alloc (.cells #[.slice A n c, .slice B m d] 24)) hn (by omega) ((h.alloc (Nat.le_refl _) _).mono (by simp)))
  have HD := Lib.hid (specSkyValid_any B m d ys (w.alloc (.cells #[.slice A n c, .slice B m d] 24)) hm (by omega) ((h'.alloc (Nat.le_refl _) _).mono (by simp)))
  clear hn hm h h'
  rcases hv : svB xs with _ | _
  · rw [hv] at HC
    clear hv
    go_enter Try.func43, Try.ntmps43
    go_wp2_with fail
    refine HC.out.mono ?_
    rintro e w' ⟨rfl, rfl⟩
    go_wp2
    go_ret
    exact ⟨ret_bool (by simp), (Ext.refl w).alloc _⟩
  · rw [hv] at HC
    clear hv
    go_enter Try.func43, Try.ntmps43
    go_wp2_with fail
    refine HC.out.mono ?_
    rintro e w' ⟨rfl, rfl⟩
    go_wp2_with fail
    refine HD.out.mono ?_
    rintro e w' ⟨rfl, rfl⟩
    go_wp2
    go_ret
    exact ⟨ret_bool (by simp), (Ext.refl w).alloc _⟩
def cnM (s : List Int) : List Int := if svB s then zero16 else []
def cnL (s : List Int) : List Int := if svB s then s else []
theorem cnM_length (s : List Int) : (cnM s).length ≤ 16 := by
  unfold cnM
  split
  · rw [zero16_length]; omega
  · simp
theorem cnL_length (s : List Int) : (cnL s).length ≤ 16 := skyOr_length s
set_option maxHeartbeats 1000000 in
theorem cleanNew_any (A : Option Addr) (n c : Nat) (xs : List Int) (w : World) (hn : xs.length = n) (h : Rd w w.heap.size A n c (ints xs)) :
    Calls Try.prog 13 #[.slice A n c] w (RetCB w 3 (cnM xs) (cnL xs) (svB xs)) := by
  have HC := Lib.hid (fun (W : World) (x : Ext w W) => skyValid_any A n c xs W hn (h.ext x))
  rcases hv : svB xs with _ | _
  · rw [hv] at HC
    have HM : Hid (cnM xs = []) := by show _ = _; simp [cnM, hv]
    have HL : Hid (cnL xs = []) := by show _ = _; simp [cnL, hv]
    clear hn h hv
    go_enter Try.func13, Try.ntmps13
    go_wp2_with fail
    refine (HC.out _ ((Ext.refl w).alloc _)).mono ?_
    rintro e w' ⟨rfl, rfl⟩
    go_wp2
    exact bodyPost_ret (v := .tuple #[.agg #[.slice none 0 0, .slice none 0 0], .bool false]) (by simp [results, Try.results13, go_sem]) rfl (RetCB.nil HM.out HL.out ((Ext.refl w).alloc _))
  · rw [hv] at HC
    have HM : Hid (cnM xs = zero16) := by show _ = _; simp [cnM, hv]
    have HL : Hid (cnL xs = xs) := by show _ = _; simp [cnL, hv]
    obtain rfl : n = 16 := by rw [← hn]; exact svB_16 hv
    have HK := Lib.hid (fun (W : World) (x : Ext w W) => slicesClone_any A 16 c xs W hn (by omega) (by omega) (h.ext x))
    have hmk := makeInts16
    have HN := Lib.hid hn
    clear hn h hv
    go_enter Try.func13, Try.ntmps13
    go_wp2_with fail
    refine (HC.out _ ((Ext.refl w).alloc _)).mono ?_
    rintro e w' ⟨rfl, rfl⟩
    go_wp2
    go_region_with ((go_at_call 40; refine (HK.out _ (by repeat (first | (with_reducible exact Ext.refl _) | (with_reducible refine Ext.drew ?_) | (with_reducible refine Ext.alloc ?_ _)))).mono ?_; rintro e w1 ⟨A1, c1, rfl, s1, x1⟩; have q := ((St.new w #[.slice none 0 0, .slice none 0 0] 24).ext (by repeat (first | (with_reducible exact Ext.refl _) | (with_reducible refine Ext.drew ?_) | (with_reducible refine Ext.alloc ?_ _)))).ext x1; have q0 := q.cell0; have q1 := q.cell1; have q2 := q.frozen 0; have q3 := q.frozen 1; have q4 := q.lt; have q5 : w.heap.size ≠ w1.heap.size := Nat.ne_of_lt q4; have Q := Lib.hid q; clear q))
    · have m0 := (Sl.made (w.alloc (.cells #[.slice none 0 0, .slice none 0 0] 24)) 3 (.int .i64 0) 16).ext ((Ext.refl _).drew.trans x1)
      simp only [World.size_alloc, World.size_drew] at m0 s1
      rw [ints_rep, zero16_rep] at m0
      have hsz : w.heap.size + 2 ≤ w1.heap.size := by have := x1.size; simp at this; omega
      have R := Q.out.put2 (.slice (some ⟨w.heap.size + 1, 0, none⟩) 16 16) (.slice A1 16 c1)
      have r0 := R.cell0
      have r1 := R.cell1
      have T := (Two.of (lo := w.heap.size + 1) (hi := w1.heap.size) m0 s1 (.inl (Nat.le_refl _)) (by omega) (by omega) (by omega) (by omega)).put2 (Nat.lt_succ_self w.heap.size) (.slice (some ⟨w.heap.size + 1, 0, none⟩) 16 16) (.slice A1 16 c1)
      have xx := Ext.put2 ((((Ext.refl w).alloc (.cells #[.slice none 0 0, .slice none 0 0] 24)).alloc (.cells (madeCells #[.int .i64 0] 16) 3)).drew.trans x1) (Nat.le_refl _) (.slice (some ⟨w.heap.size + 1, 0, none⟩) 16 16) (.slice A1 16 c1)
      go_wp2
      exact bodyPost_ret (v := .tuple #[.agg #[.slice (some ⟨w.heap.size + 1, 0, none⟩) 16 16, .slice A1 16 c1], .bool true]) (by simp [results, Try.results13, go_sem, r0, r1]) rfl (RetCB.mk' HM.out.symm HL.out.symm zero16_length.symm HN.out.symm T (by omega) (by simp) xx)
    · simp only [World.size_alloc, World.size_drew] at s1
      have hsz : w.heap.size + 1 ≤ w1.heap.size := by have := x1.size; simp at this; omega
      have R := (Q.out.put2 (.slice (some ⟨w1.heap.size, 0, none⟩) 16 16) (.slice A1 16 c1)).ext ((Ext.refl _).alloc (.cells (madeCells #[.int .i64 0] 16) 3))
      have r0 := R.cell0
      have r1 := R.cell1
      have m0 := Sl.made ((w1.setCell ⟨w.heap.size, 0, none⟩ (.slice (some ⟨w1.heap.size, 0, none⟩) 16 16)).setCell ⟨w.heap.size, 1, none⟩ (.slice A1 16 c1)) 3 (.int .i64 0) 16
      rw [size_put2, ints_rep, zero16_rep] at m0
      have s2 := ((s1.far (p := ⟨w.heap.size, 0, none⟩) (.inl (Nat.lt_succ_self _)) (.slice (some ⟨w1.heap.size, 0, none⟩) 16 16)).far (p := ⟨w.heap.size, 1, none⟩) (.inl (Nat.lt_succ_self _)) (.slice A1 16 c1)).ext ((Ext.refl _).alloc (.cells (madeCells #[.int .i64 0] 16) 3))
      have T := Two.of (lo := w.heap.size + 1) (hi := w1.heap.size + 1) m0 s2 (.inr (Nat.le_refl _)) (by omega) (by omega) (by omega) (by omega)
      have xx := (Ext.put2 (((Ext.refl w).alloc (.cells #[.slice none 0 0, .slice none 0 0] 24)).drew.trans x1) (Nat.le_refl _) (.slice (some ⟨w1.heap.size, 0, none⟩) 16 16) (.slice A1 16 c1)).alloc (.cells (madeCells #[.int .i64 0] 16) 3)
      go_wp2
      exact bodyPost_ret (v := .tuple #[.agg #[.slice (some ⟨w1.heap.size, 0, none⟩) 16 16, .slice A1 16 c1], .bool true]) (by simp [results, Try.results13, go_sem, r0, r1]) rfl (RetCB.mk' HM.out.symm HL.out.symm zero16_length.symm HN.out.symm T (by omega) (by simp) xx)
end Go.Proofs.Ytbafniaohjjacaa
