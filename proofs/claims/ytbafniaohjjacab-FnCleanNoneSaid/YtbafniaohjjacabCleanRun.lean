/-
  The contract of CleanRun of the program.
-/
import Derived.Test.YtbafniaohjjacabSpecStep
namespace Go.Proofs.Ytbafniaohjjacab
open Go.RowKit

theorem RetCIB.no {w w' : World} {E : TypeId} {m l b : List Int} {k : Int} (h : crB m l b k = false) (x : Ext w w') : RetCIB w E (crM m l b k) (crL m l b k) (crN m l b k) (crB m l b k) (.returned (.tuple #[.agg #[.slice none 0 0, .slice none 0 0], .int .i64 0, .bool false])) w' := by
  rw [h]
  exact RetCIB.nil (by simp [crM, h]) (by simp [crL, h]) (by simp [crN, h]) x
theorem own_in_base {w : World} {base base' : Nat} {E : TypeId} {size n : Nat} {v : Value} {xs : List Value} (h : w.ownsRow base E size v n xs) (hb : ∀ g, v.ownBlock = some g → base' ≤ g) : w.ownsRow base' E size v n xs := by
  refine ⟨h.1, ?_⟩
  rcases h.2 with a | ⟨g, cap, cur, rfl, h1, h2⟩
  · exact .inl a
  · exact .inr ⟨g, cap, cur, rfl, hb g rfl, h2⟩
/-- a run under way: the cleaning lies in a variable at block g, the result's block is empty -/
def Run (o : Bool) (w : World) (T : TypeId) (g : Nat) (xs ls : List Int) (wr : World) : Prop :=
  ∃ (A : Option Addr) (c : Nat) (B : Option Addr) (d l1 i1 l2 i2 : Nat), St wr g #[.slice A 16 c, .slice B 16 d] T ∧ St wr (w.heap.size + 1) #[.slice none 0 0, .slice none 0 0] T ∧
    Sl wr l1 i1 3 A 16 c (ints xs) ∧ Sl wr l2 i2 3 B 16 d (ints ls) ∧ (i1 ≤ l2 ∨ i2 ≤ l1) ∧ i1 ≤ wr.heap.size ∧ i2 ≤ wr.heap.size ∧ (g < l1 ∨ i1 ≤ g) ∧ (g < l2 ∨ i2 ≤ g) ∧ w.heap.size + 1 < l1 ∧ w.heap.size + 1 < l2 ∧ w.heap.size + 1 < g ∧ Ext w wr ∧ (o = true → wr.ownsRow (w.heap.size + 1 + 1) 3 1 (.slice B 16 d) 16 (ints ls))
theorem run_put {o : Bool} {w w5 : World} {T : TypeId} {xs ls : List Int} {g c3 c5 l1 i1 l2 i2 : Nat} {u v : Value} {A3 A5 : Option Addr} (Q : St w5 g #[u, v] T) (SR : St w5 (w.heap.size + 1) #[.slice none 0 0, .slice none 0 0] T)
    (s3 : Sl w5 l1 i1 3 A3 16 c3 (ints xs)) (s5 : Sl w5 l2 i2 3 A5 16 c5 (ints ls)) (x : Ext w w5) (h1 : i1 ≤ l2 ∨ i2 ≤ l1) (h0 : i1 ≤ w5.heap.size) (h2 : i2 ≤ w5.heap.size) (h3 : g < l1 ∨ i1 ≤ g) (h4 : g < l2 ∨ i2 ≤ g) (h5 : w.heap.size + 1 < l1) (h5' : w.heap.size + 1 < l2) (h6 : w.heap.size + 1 < g) (hl : ls.length = 16) (ow : o = true → ∃ base, w5.ownsRow base 3 1 (.slice A5 16 c5) 16 (ints ls)) :
    Run o w T g xs ls ((w5.setCell ⟨g, 0, none⟩ (.slice A3 16 c3)).setCell ⟨g, 1, none⟩ (.slice A5 16 c5)) :=
  ⟨A3, c3, A5, c5, l1, i1, l2, i2, Q.put2 _ _, (SR.far (p := ⟨g, 0, none⟩) (by show _ ≠ g; omega) _).far (p := ⟨g, 1, none⟩) (by show _ ≠ g; omega) _, (s3.far (p := ⟨g, 0, none⟩) h3 _).far (p := ⟨g, 1, none⟩) h3 _, (s5.far (p := ⟨g, 0, none⟩) h4 _).far (p := ⟨g, 1, none⟩) h4 _, h1, by simpa using h0, by simpa using h2, h3, h4, h5, h5', h6, x.put2 (by omega) _ _, fun ho => by
    obtain ⟨base, hw⟩ := ow ho
    have hi := own_in s5 (by rw [ints_length, hl]; omega)
    exact own_put2 (own_in_base hw fun g' hg' => by have := hi g' hg'; omega) (fun g' hg' => by have := hi g' hg'; omega) _ _⟩
theorem run_new {o : Bool} {w w5 : World} {T : TypeId} {xs ls : List Int} {c3 c5 l1 i1 l2 i2 : Nat} {A3 A5 : Option Addr} (SR : St w5 (w.heap.size + 1) #[.slice none 0 0, .slice none 0 0] T)
    (s3 : Sl w5 l1 i1 3 A3 16 c3 (ints xs)) (s5 : Sl w5 l2 i2 3 A5 16 c5 (ints ls)) (x : Ext w w5) (h1 : i1 ≤ l2 ∨ i2 ≤ l1) (h0 : i1 ≤ w5.heap.size) (h2 : i2 ≤ w5.heap.size) (h5 : w.heap.size + 1 < l1) (h5' : w.heap.size + 1 < l2) (hl : ls.length = 16) (ow : o = true → ∃ base, w5.ownsRow base 3 1 (.slice A5 16 c5) 16 (ints ls)) :
    Run o w T w5.heap.size xs ls (w5.alloc (.cells #[.slice A3 16 c3, .slice A5 16 c5] T)) :=
  have y := (Ext.refl w5).alloc (.cells #[.slice A3 16 c3, .slice A5 16 c5] T)
  ⟨A3, c3, A5, c5, l1, i1, l2, i2, St.new w5 _ T, SR.ext y, s3.ext y, s5.ext y, h1, by simp; omega, by simp; omega, .inr h0, .inr h2, h5, h5', SR.lt, x.trans y, fun ho => by
    obtain ⟨base, hw⟩ := ow ho
    have hi := own_in s5 (by rw [ints_length, hl]; omega)
    exact own_ext (own_in_base hw fun g' hg' => by have := hi g' hg'; omega) y⟩
theorem Run.ext {o : Bool} {w wr wr' : World} {T : TypeId} {g : Nat} {xs ls : List Int} (h : Run o w T g xs ls wr) (x : Ext wr wr') : Run o w T g xs ls wr' := by
  obtain ⟨A, c, B, d, l1, i1, l2, i2, a1, a2, a3, a4, a5, a6, a7, a8, a9, b1, b2, b3, b4, b5⟩ := h
  have := x.size
  exact ⟨A, c, B, d, l1, i1, l2, i2, a1.ext x, a2.ext x, a3.ext x, a4.ext x, a5, by omega, by omega, a8, a9, b1, b2, b3, b4.trans x, fun ho => own_ext (b5 ho) x⟩
/-- the same at a block that a slot names -/
def RunAt (o : Bool) (w : World) (T : TypeId) (xs ls : List Int) (v : Value) (wr : World) : Prop := ∃ g : Nat, v = .pointer (some ⟨g, 0, none⟩) ∧ Run o w T g xs ls wr
theorem len16 {x : Cl} {b : List Int} {k : Nat} (h1 : svB x.1 = true) (h2 : svB x.2 = true) (h : goes b x k) : (itC b k x).1.length = 16 ∧ (itC b k x).2.length = 16 := ⟨svB_16 (goes_valid h1 h2 h).1, svB_16 (goes_valid h1 h2 h).2⟩
theorem run_end {b : List Int} {m l : List Int} {K k : Nat} (hB : crB m l b K = true) (hk : k ≤ K) (h : goes b (m, l) k) (hs : k < K → okC (itC b k (m, l)) b = false) : crM m l b K = (itC b k (m, l)).1 ∧ crL m l b K = (itC b k (m, l)).2 ∧ crN m l b K = (k : Int) := by
  have e := runC_uniq hk h hs
  unfold crM crL crN
  rw [if_pos hB, if_pos hB, if_pos hB, Int.toNat_natCast, e]
  exact ⟨rfl, rfl, rfl⟩
set_option maxHeartbeats 2000000 in
theorem cleanRun_any (A B D : Option Addr) (n c m d p q : Nat) (xs ys bs : List Int) (many : Int) (w : World) (h1 : xs.length = n) (h2 : ys.length = m) (h3 : bs.length = p)
    (r1 : Rd w w.heap.size A n c (ints xs)) (r2 : Rd w w.heap.size B m d (ints ys)) (r3 : Rd w w.heap.size D p q (ints bs)) :
    Calls Try.prog 12 #[.agg #[.slice A n c, .slice B m d], .slice D p q, .int .i64 many] w (RetCIB w 3 (crM xs ys bs many) (crL xs ys bs many) (crN xs ys bs many) (crB xs ys bs many)) := by
  have x0 : Ext w ((w.alloc (.cells #[.slice A n c, .slice B m d] 25)).alloc (.cells #[.slice none 0 0, .slice none 0 0] 25)) := ((Ext.refl w).alloc _).alloc _
  have HC := Lib.hid (cleanValid_any A B n c m d xs ys _ h1 h2 (r1.ext x0) (r2.ext x0))
  have HD := Lib.hid (fun (W : World) (x : Ext w W) => skyValid_any D p q bs W h3 (r3.ext x))
  have S1 := Lib.hid ((St.new w #[.slice A n c, .slice B m d] 25).ext ((Ext.refl _).alloc (.cells #[.slice none 0 0, .slice none 0 0] 25)))
  have S2 := Lib.hid (St.new (w.alloc (.cells #[.slice A n c, .slice B m d] 25)) #[.slice none 0 0, .slice none 0 0] 25)
  rw [World.size_alloc] at S2
  rcases hv : (svB xs && svB ys) with _ | _
  · rw [hv] at HC
    have HB : Hid (crB xs ys bs many = false) := by show _ = _; simp only [crB, hv, Bool.false_and]
    clear h1 h2 h3 r1 r2 r3 hv
    go_enter Try.func12, Try.ntmps12
    go_wp2_with fail
    refine HC.out.mono ?_
    rintro e w1 ⟨rfl, x1⟩
    have T := S2.out.ext x1
    have k0 := T.cell0
    have k1 := T.cell1
    have k2 := T.frozen 0
    have k3 := T.frozen 1
    have R := T.put2 (.slice none 0 0) (.slice none 0 0)
    have r0 := R.cell0
    have r1 := R.cell1
    have xx := (x0.trans x1).put2 (g := w.heap.size + 1) (by omega) (.slice none 0 0) (.slice none 0 0)
    clear T R
    go_wp2
    exact bodyPost_ret (v := .tuple #[.agg #[.slice none 0 0, .slice none 0 0], .int .i64 0, .bool false]) (by simp [results, Try.results12, go_sem, r0, r1]) rfl (RetCIB.no HB.out xx)
  rw [hv] at HC
  rcases hb : svB bs with _ | _
  · rw [hb] at HD
    have HB : Hid (crB xs ys bs many = false) := by show _ = _; simp [crB, hb]
    clear h1 h2 h3 r1 r2 r3 hv hb
    go_enter Try.func12, Try.ntmps12
    go_wp2_with fail
    refine HC.out.mono ?_
    rintro e w1 ⟨rfl, x1⟩
    go_wp2_with fail
    refine (HD.out _ (x0.trans x1)).mono ?_
    rintro e w_ ⟨rfl, rfl⟩
    have T := S2.out.ext x1
    have k0 := T.cell0
    have k1 := T.cell1
    have k2 := T.frozen 0
    have k3 := T.frozen 1
    have R := T.put2 (.slice none 0 0) (.slice none 0 0)
    have r0 := R.cell0
    have r1 := R.cell1
    have xx := (x0.trans x1).put2 (g := w.heap.size + 1) (by omega) (.slice none 0 0) (.slice none 0 0)
    clear T R
    go_wp2
    exact bodyPost_ret (v := .tuple #[.agg #[.slice none 0 0, .slice none 0 0], .int .i64 0, .bool false]) (by simp [results, Try.results12, go_sem, r0, r1]) rfl (RetCIB.no HB.out xx)
  rw [hb] at HD
  by_cases hm0 : many < 0
  · have HB : Hid (crB xs ys bs many = false) := by show _ = _; simp only [crB, Bool.and_eq_false_iff, decide_eq_false_iff_not]; left; right; omega
    clear h1 h2 h3 r1 r2 r3 hv hb
    go_enter Try.func12, Try.ntmps12
    go_wp2_with fail
    refine HC.out.mono ?_
    rintro e w1 ⟨rfl, x1⟩
    go_wp2_with fail
    refine (HD.out _ (x0.trans x1)).mono ?_
    rintro e w_ ⟨rfl, rfl⟩
    have T := S2.out.ext x1
    have k0 := T.cell0
    have k1 := T.cell1
    have k2 := T.frozen 0
    have k3 := T.frozen 1
    have R := T.put2 (.slice none 0 0) (.slice none 0 0)
    have r0 := R.cell0
    have r1 := R.cell1
    have xx := (x0.trans x1).put2 (g := w.heap.size + 1) (by omega) (.slice none 0 0) (.slice none 0 0)
    clear T R
    go_wp2
    exact bodyPost_ret (v := .tuple #[.agg #[.slice none 0 0, .slice none 0 0], .int .i64 0, .bool false]) (by simp [results, Try.results12, go_sem, r0, r1]) rfl (RetCIB.no HB.out xx)
  by_cases hm1 : 200 < many
  · have HB : Hid (crB xs ys bs many = false) := by show _ = _; simp only [crB, Bool.and_eq_false_iff, decide_eq_false_iff_not]; right; omega
    clear h1 h2 h3 r1 r2 r3 hv hb
    go_enter Try.func12, Try.ntmps12
    go_wp2_with fail
    refine HC.out.mono ?_
    rintro e w1 ⟨rfl, x1⟩
    go_wp2_with fail
    refine (HD.out _ (x0.trans x1)).mono ?_
    rintro e w_ ⟨rfl, rfl⟩
    have T := S2.out.ext x1
    have k0 := T.cell0
    have k1 := T.cell1
    have k2 := T.frozen 0
    have k3 := T.frozen 1
    have R := T.put2 (.slice none 0 0) (.slice none 0 0)
    have r0 := R.cell0
    have r1 := R.cell1
    have xx := (x0.trans x1).put2 (g := w.heap.size + 1) (by omega) (.slice none 0 0) (.slice none 0 0)
    clear T R
    go_wp2
    exact bodyPost_ret (v := .tuple #[.agg #[.slice none 0 0, .slice none 0 0], .int .i64 0, .bool false]) (by simp [results, Try.results12, go_sem, r0, r1]) rfl (RetCIB.no HB.out xx)
  obtain ⟨K, rfl⟩ := Int.eq_ofNat_of_zero_le (show 0 ≤ many by omega)
  have hp := hv
  simp only [Bool.and_eq_true] at hp
  have hB : crB xs ys bs K = true := by simp only [crB, hp.1, hp.2, hb, Bool.true_and, Bool.and_eq_true, decide_eq_true_eq]; omega
  obtain rfl : n = 16 := by rw [← h1]; exact svB_16 hp.1
  obtain rfl : m = 16 := by rw [← h2]; exact svB_16 hp.2
  obtain rfl : p = 16 := by rw [← h3]; exact svB_16 hb
  have HK1 := Lib.hid (fun (W : World) (x : Ext w W) => slicesClone_any A 16 c xs W h1 (by omega) (by omega) (r1.ext x))
  have HK2 := Lib.hid (fun (W : World) (x : Ext w W) => slicesClone_any B 16 d ys W h2 (by omega) (by omega) (r2.ext x))
  have HR3 := Lib.hid (fun (W : World) (x : Ext w W) => r3.ext x)
  have H3 := Lib.hid h3
  have HLY := Lib.hid h2
  have HV1 := Lib.hid hp.1
  have HV2 := Lib.hid hp.2
  have HBB := Lib.hid hB
  have hK1 : K ≤ 200 := by omega
  rw [hB]
  clear h1 h2 h3 r1 r2 r3 hv hb hp hB hm0 hm1
  go_enter Try.func12, Try.ntmps12
  go_wp2_with fail
  refine HC.out.mono ?_
  rintro e w1 ⟨rfl, x1⟩
  go_wp2_with fail
  refine (HD.out _ (x0.trans x1)).mono ?_
  rintro e w_ ⟨rfl, rfl⟩
  have E1 := x0.trans x1
  have SB := Lib.hid (S1.out.ext x1)
  have SR := Lib.hid (S2.out.ext x1)
  have k0 := SB.out.cell0
  have k1 := SB.out.cell1
  have z1 := E1.size
  have zr := SR.out.lt
  clear HC HD S1 S2 x0 x1
  go_wp2_with fail
  go_cut [9] (fun v wx => RunAt false w 25 xs ys v wx)
  case first =>
    go_region_held3 (fun w' => w'.cell? ⟨w.heap.size, 0, none⟩ = some (.slice A 16 c) ∧ w'.cell? ⟨w.heap.size, 1, none⟩ = some (.slice B 16 d)) (exact ⟨(SB.out.ext (by repeat (first | (with_reducible exact Ext.refl _) | (with_reducible assumption) | (with_reducible refine Ext.drew ?_) | (with_reducible refine Ext.alloc ?_ _) | (with_reducible refine Ext.setCell ?_ (by first | omega | (simp; done) | (simp; omega)) _)))).cell0, (SB.out.ext (by repeat (first | (with_reducible exact Ext.refl _) | (with_reducible assumption) | (with_reducible refine Ext.drew ?_) | (with_reducible refine Ext.alloc ?_ _) | (with_reducible refine Ext.setCell ?_ (by first | omega | (simp; done) | (simp; omega)) _)))).cell1⟩)
      (first
        | (go_at_call_of 29 (Value.slice A 16 c); refine (HK1.out _ (E1.trans (by repeat (first | (with_reducible exact Ext.refl _) | (with_reducible assumption) | (with_reducible refine Ext.drew ?_) | (with_reducible refine Ext.alloc ?_ _))))).mono ?_; rintro e w3 ⟨A3, c3, rfl, s3, x3⟩; have E3 : Ext w1 w3 := Ext.trans (by repeat (first | (with_reducible exact Ext.refl _) | (with_reducible assumption) | (with_reducible refine Ext.drew ?_) | (with_reducible refine Ext.alloc ?_ _))) x3; have z3 := E3.size)
        | (go_at_call_of 29 (Value.slice B 16 d); refine (HK2.out _ (E1.trans (by repeat (first | (with_reducible exact Ext.refl _) | (with_reducible assumption) | (with_reducible refine Ext.drew ?_) | (with_reducible refine Ext.alloc ?_ _))))).mono ?_; rintro e w4 ⟨A4, c4, rfl, s4, x4⟩; have E4 : Ext w3 w4 := Ext.trans (by repeat (first | (with_reducible exact Ext.refl _) | (with_reducible assumption) | (with_reducible refine Ext.drew ?_) | (with_reducible refine Ext.alloc ?_ _))) x4; have E4' := E3.trans E4; have z4 := E4.size; (try (refine cutP (P := Ext (w1.alloc (.cells #[.slice none 0 0, .slice none 0 0] 25)) w4) ?_ ?_; (focus ((repeat (first | (with_reducible exact Ext.refl _) | (with_reducible refine Ext.drew ?_) | (with_reducible refine Ext.alloc ?_ _) | (with_reducible refine Ext.trans ?_ x4) | (with_reducible refine Ext.trans ?_ x3))); done)); intro hq; have q := (St.new w1 #[.slice none 0 0, .slice none 0 0] 25).ext hq; have q0 := q.cell0; have q1 := q.cell1; have q2 := q.frozen 0; have q3 := q.frozen 1; have q4 := q.lt; have q5 := Nat.ne_of_lt q4; have Q := Lib.hid q; clear q)); (try (refine cutP (P := Ext (w3.alloc (.cells #[.slice none 0 0, .slice none 0 0] 25)) w4) ?_ ?_; (focus ((repeat (first | (with_reducible exact Ext.refl _) | (with_reducible refine Ext.drew ?_) | (with_reducible refine Ext.alloc ?_ _) | (with_reducible refine Ext.trans ?_ x4) | (with_reducible refine Ext.trans ?_ x3))); done)); intro hq; have q := (St.new w3 #[.slice none 0 0, .slice none 0 0] 25).ext hq; have q0 := q.cell0; have q1 := q.cell1; have q2 := q.frozen 0; have q3 := q.frozen 1; have q4 := q.lt; have q5 := Nat.ne_of_lt q4; have Q := Lib.hid q; clear q))))
    all_goals have y3 := x3.size
    all_goals have y4 := x4.size
    all_goals simp only [World.size_alloc, World.size_drew] at y3 y4 s3 s4
    all_goals go_wp2_with fail
    all_goals go_meet
    · exact ⟨_, rfl, run_new (SR.out.ext E4') (s3.ext E4) s4 (E1.trans E4') (.inl (by omega)) (by omega) (by omega) (by omega) (by omega) HLY.out (fun h => by cases h)⟩
    · exact ⟨_, rfl, run_put Q.out (SR.out.ext E4') (s3.ext E4) s4 (E1.trans E4') (.inl (by omega)) (by omega) (by omega) (by omega) (by omega) (by omega) (by omega) (by omega) HLY.out (fun h => by cases h)⟩
    · exact ⟨_, rfl, run_put Q.out (SR.out.ext E4') (s3.ext E4) s4 (E1.trans E4') (.inl (by omega)) (by omega) (by omega) (by omega) (by omega) (by omega) (by omega) (by omega) HLY.out (fun h => by cases h)⟩
  case rest =>
    obtain ⟨g, rfl, hrun⟩ := hcut
    clear HK1 HK2 k0 k1
    go_wp2_with fail
    go_loopw [38] (fun i wr => ∃ k : Nat, k ≤ K ∧ i = .int .i64 k ∧ Hid (goes bs (xs, ys) k) ∧ Run false w 25 g (itC bs k (xs, ys)).1 (itC bs k (xs, ys)).2 wr) (fun i _ => K - (intOf i).toNat)
    case atStart => exact ⟨0, Nat.zero_le _, rfl, fun i hi => by omega, hrun⟩
    case round =>
      clear hrun
      obtain ⟨k, hk, rfl, hgo, A6, c6, B6, d6, l1, i1, l2, i2, Sg, SR2, s6, t6, o1, o2, o3, o4, o5, o6, o7, o8, E6, OW⟩ := hrel
      clear OW
      have hl := len16 HV1.out HV2.out hgo.out
      by_cases hlt : k < K
      · have kc0 := Sg.cell0
        have kc1 := Sg.cell1
        have HCS := Lib.hid (cleanStep_any A6 B6 D 16 c6 16 d6 16 q (itC bs k (xs, ys)).1 (itC bs k (xs, ys)).2 bs wr hl.1 hl.2 H3.out s6.rd t6.rd (HR3.out _ E6))
        have HL := Lib.hid hl
        clear hl
        go_wp2_with fail
        refine HCS.out.mono ?_
        rintro e w7 ⟨A7, c7, B7, d7, rfl, t7, x7⟩
        clear kc0 kc1
        have Sg7 := Sg.ext x7
        have SR7 := SR2.ext x7
        have kg0 := Sg7.cell0
        have kg1 := Sg7.cell1
        have kg2 := Sg7.frozen 0
        have kg3 := Sg7.frozen 1
        have kg4 := Sg7.lt
        have kg5 := Nat.ne_of_lt kg4
        have kr0 := SR7.cell0
        have kr1 := SR7.cell1
        have kr2 := SR7.frozen 0
        have kr3 := SR7.frozen 1
        have kr4 := SR7.lt
        have kr5 := Nat.ne_of_lt kr4
        have z7 := x7.size
        rcases hst : stB (itC bs k (xs, ys)).1 (itC bs k (xs, ys)).2 bs with _ | _
        · have HEND := Lib.hid (run_end HBB.out hk hgo.out (fun _ => hst))
          clear hst
          have r0 := fun (o : Obj) => ((SR7.put2 (.slice A6 16 c6) (.slice B6 16 d6)).ext ((Ext.refl _).alloc o)).cell0
          have r1 := fun (o : Obj) => ((SR7.put2 (.slice A6 16 c6) (.slice B6 16 d6)).ext ((Ext.refl _).alloc o)).cell1
          have HR0 := Lib.hid r0
          have HR1 := Lib.hid r1
          clear r0 r1
          have xx := fun (o : Obj) => ((E6.trans x7).put2 (g := w.heap.size + 1) (by omega) (.slice A6 16 c6) (.slice B6 16 d6)).alloc o
          have TT := fun (o : Obj) => ((Two.of (lo := w.heap.size + 1 + 1) (hi := w7.heap.size) (s6.ext x7) (t6.ext x7) o1 (by omega) (by omega) (by omega) (by omega)).put2 (g := w.heap.size + 1) (by omega) (.slice A6 16 c6) (.slice B6 16 d6)).ext ((Ext.refl _).alloc o)
          have HXX := Lib.hid xx
          have HTT := Lib.hid TT
          clear xx TT
          go_wp2
          refine bodyPost_ret (v := .tuple #[.agg #[.slice A6 16 c6, .slice B6 16 d6], .int .i64 k, .bool true]) (by simp [results, Try.results12, go_sem, HR0.out, HR1.out]) rfl ?_
          obtain ⟨e1, e2, e3⟩ := HEND.out
          exact RetCIB.mk' e1.symm e2.symm e3.symm HL.out.1.symm HL.out.2.symm (HTT.out _) (by omega) (by simp) (HXX.out _)
        · have HST := Lib.hid hst
          clear hst
          have e1 : csM (itC bs k (xs, ys)).1 (itC bs k (xs, ys)).2 bs = (itC bs (k + 1) (xs, ys)).1 := by simp [csM, HST.out, itC, nxC]
          have e2 : csL (itC bs k (xs, ys)).1 (itC bs k (xs, ys)).2 bs = (itC bs (k + 1) (xs, ys)).2 := by simp [csL, HST.out, itC, nxC]
          have hgo2 : goes bs (xs, ys) (k + 1) := goes_succ hgo.out HST.out
          have hl2 := len16 HV1.out HV2.out hgo2
          rw [e1, e2, hl2.1, hl2.2] at t7
          rw [e1, e2, hl2.1, hl2.2]
          have HGO2 := Lib.hid hgo2
          have HLY2 := Lib.hid hl2.2
          have OWN7 : false = true → ∃ base, w7.ownsRow base 3 1 (.slice B7 16 d7) 16 (ints (itC bs (k + 1) (xs, ys)).2) := fun h => by cases h
          clear e1 e2 hl2 hgo2
          obtain ⟨j1, m1, j2, m2, a1, a2, a3, a4, ap, p7, v7⟩ := t7
          have gl := Sg.lt
          have rl := SR2.lt
          have RN := Lib.hid (fun (o : Obj) => (run_put (w := w) Sg7 SR7 p7 v7 (E6.trans x7) ap a2 a4 (.inl (by omega)) (.inl (by omega)) (by omega) (by omega) o8 HLY2.out OWN7).ext ((Ext.refl _).alloc o))
          go_wp2
          go_roundw
          case rel => exact ⟨k + 1, by omega, by go_num, HGO2.out, RN.out _⟩
          case measure => simp [intOf]; omega
      · obtain rfl : k = K := by omega
        have HEND := Lib.hid (run_end HBB.out hk hgo.out (fun h => by omega))
        have HL := Lib.hid hl
        clear hl
        have kg0 := Sg.cell0
        have kg1 := Sg.cell1
        have kr0 := SR2.cell0
        have kr1 := SR2.cell1
        have kr2 := SR2.frozen 0
        have kr3 := SR2.frozen 1
        have R := SR2.put2 (.slice A6 16 c6) (.slice B6 16 d6)
        have r0 := R.cell0
        have r1 := R.cell1
        have xx := E6.put2 (g := w.heap.size + 1) (by omega) (.slice A6 16 c6) (.slice B6 16 d6)
        have TT := (Two.of (lo := w.heap.size + 1 + 1) (hi := wr.heap.size) s6 t6 o1 (by omega) (by omega) (by omega) (by omega)).put2 (g := w.heap.size + 1) (by omega) (.slice A6 16 c6) (.slice B6 16 d6)
        clear R
        go_wp2
        refine bodyPost_ret (v := .tuple #[.agg #[.slice A6 16 c6, .slice B6 16 d6], .int .i64 k, .bool true]) (by simp [results, Try.results12, go_sem, r0, r1]) rfl ?_
        obtain ⟨e1, e2, e3⟩ := HEND.out
        exact RetCIB.mk' e1.symm e2.symm e3.symm HL.out.1.symm HL.out.2.symm TT (by omega) (by simp) xx
end Go.Proofs.Ytbafniaohjjacab
