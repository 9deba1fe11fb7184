/-
  Draw of the law on solving with bad baselines.
-/
import Derived.Test.YtpjglnmnfmibnabDrawF
namespace Go.Proofs.Ytpjglnmnfmibnab
open Go.RowKit
set_option linter.unusedVariables false

theorem Sl.farE {w : World} {lo hi g k n c : Nat} {E T : TypeId} {A : Option Addr} {xs : List Value} {vs : Array Value} (h : Sl w lo hi E A n c xs) (s : w.heap[g]? = some (.cells vs T (0, 0))) (hne : E ≠ T) (u : Value) : Sl (w.setCell ⟨g, k, none⟩ u) lo hi E A n c xs :=
  ⟨h.1, fun hx => by
    obtain ⟨g', off, cur, e, h3, h4, h5, h6⟩ := h.2 hx
    refine ⟨g', off, cur, e, h3, h4, (Below.heap_setCell w ⟨g, k, none⟩ u g' ?_).trans h5, h6⟩
    rintro rfl
    rw [h5] at s
    simp only [Option.some.injEq, Obj.cells.injEq] at s
    exact hne s.2.1⟩
/-- a number is written somewhere: the list is still a list of pairs -/
theorem Sl.poke {w : World} {lo hi n c : Nat} {E : TypeId} {A : Option Addr} {l : VL} (h : Sl w lo hi E A n c (pairs l)) (g k : Nat) (y : Int) : ∃ l' : VL, l'.length = l.length ∧ Sl (w.setCell ⟨g, k, none⟩ (.int .i64 y)) lo hi E A n c (pairs l') := by
  rcases Nat.eq_zero_or_pos l.length with h0 | h0
  · have : l = [] := List.length_eq_zero_iff.1 h0
    subst this
    exact ⟨[], rfl, Sl.nil h.1⟩
  obtain ⟨g', off, cur, e, h3, h4, h5, h6⟩ := h.2 (by rw [pairs_length]; omega)
  by_cases hg : g' = g
  · subst hg
    let l' : VL := (List.range l.length).map fun i => (if off + i * 2 = k then y else vAm l i, if off + (i * 2 + 1) = k then y else vPh l i)
    have hl' : l'.length = l.length := by simp [l']
    have hat : ∀ i, i < l.length → l'[i]? = some (if off + i * 2 = k then y else vAm l i, if off + (i * 2 + 1) = k then y else vPh l i) := fun i hi => by simp [l', hi]
    refine ⟨l', hl', h.1, fun _ => ⟨g', off, _, e, h3, h4, heap_setCell_same w g' k cur E _ h5, fun j u hu => ?_⟩⟩
    have hj : j < (pairs l').length := lt_of_at hu
    rw [pairs_length, hl'] at hj
    have key : ∀ (j : Nat) (z : Int), (pairs l)[j]? = some (.int .i64 z) → (cur.setIfInBounds k (.int .i64 y))[off + j]? = some (.int .i64 (if off + j = k then y else z)) := fun j z hz => by
      have hc := h6 j _ hz
      have hb := (Array.getElem?_eq_some_iff.1 hc).1
      by_cases e2 : off + j = k
      · subst e2
        rw [if_pos rfl, Array.getElem?_setIfInBounds_self_of_lt hb]
      · rw [if_neg e2, Array.getElem?_setIfInBounds_ne (Ne.symm e2)]
        exact hc
    have hi : j / 2 < l.length := by omega
    rcases Nat.mod_two_eq_zero_or_one j with hm | hm
    · have hj2 : j = j / 2 * 2 := by omega
      have a1 := pairs_at0 (hat (j / 2) hi)
      rw [← hj2] at a1
      rw [a1] at hu
      have := key j _ (by have := pairs_at0 (some_v (l := l) hi); rwa [← hj2] at this)
      rw [this]
      exact hu
    · have hj2 : j = j / 2 * 2 + 1 := by omega
      have a1 := pairs_at1 (hat (j / 2) hi)
      rw [← hj2] at a1
      rw [a1] at hu
      have := key j _ (by have := pairs_at1 (some_v (l := l) hi); rwa [← hj2] at this)
      rw [this]
      exact hu
  · refine ⟨l, rfl, h.1, fun _ => ⟨g', off, cur, e, h3, h4, (Below.heap_setCell w ⟨g, k, none⟩ _ g' hg).trans h5, h6⟩⟩
set_option maxRecDepth 100000 in
set_option maxHeartbeats 400000 in
theorem drawFlagSolve_any (A : Option Addr) (n c : Nat) (zs : List Int) (w : World) (hn : zs.length = n) (hm : n ≤ 9223372036854775807) (h : Rd w w.heap.size A n c (zs.map (.int .u8))) (hz : ∀ z ∈ zs, 0 ≤ z ∧ z ≤ 255) :
    Calls Try.prog 16 #[.slice A n c] w (Some2F w) := by
  have HO := Lib.hid (l6Open_any A n c zs w hn hm h hz)
  clear hn hz h
  go_enter Try.func16, Try.ntmps16
  go_wp2_with fail
  refine HO.out.mono ?_
  rintro e w1 ⟨rfl, R1, x1⟩
  have hr := R1.lt
  have z1 := x1.size
  go_wp2_with fail
  refine (l92Applied_any w.heap.size w.heap.size 0 2 _ (by omega) (by omega) (by omega) R1).mono ?_
  rintro e w2 ⟨N, A1, n1, c1, l1, A2, n2, c2, l2, p', rfl, a1, a2, a3, a4, a5, a6, a7, a8, s1, s2, R2, hp2, C⟩
  have z2 := C.size
  have H3 := Lib.hid a3
  have H6 := Lib.hid a6
  have HBM := Lib.hid (fun (W : World) => specBaseMany_any (N : Int) W)
  rw [nbI_nat a1 (by omega)] at HBM
  have X2 := x1.more C (Nat.le_refl _)
  clear a3 a6 x1 C HO R1
  go_wp2_with fail
  refine (l92Flags_any N w.heap.size w.heap.size p' _ a1 a2 (by omega) (by omega) R2).mono ?_
  rintro e w3 ⟨A3, n3, c3, fl, p3, rfl, hf, f1, f2, s3, R3, hp3, C3⟩
  have z3 := C3.size
  have HFL := Lib.hid hf
  have t1 := s1.chg C3 (.inr (by omega))
  have t2 := s2.chg C3 (.inr (by omega))
  have X3 := X2.more C3 (Nat.le_refl _)
  clear hf s1 s2 X2 C3 R2
  go_wp2_with fail
  refine (pick_any w.heap.size w.heap.size p3 3 _ (by omega) (by omega) (by omega) R3).mono ?_
  rintro e w4 ⟨v4, rfl, hv4, R4, C4⟩
  have z4 := C4.size
  have u1 := t1.chg C4 (.inr (by omega))
  have u2 := t2.chg C4 (.inr (by omega))
  have u3 := s3.chg C4 (.inr (by omega))
  have X4 := X3.more C4 (Nat.le_refl _)
  clear t1 t2 s3 X3 C4 R3
  by_cases k0 : v4 = 0 ∧ n1 = nb N ∧ n3 = nb N
  case neg =>
    have HU := Lib.hid (And.intro u1 (And.intro u2 (And.intro u3 X4)))
    have q1 : v4 = 0 → ((v4 : Int) == 0) = true := fun h => by simp [h]
    by_cases e0 : v4 = 0
    · subst e0
      by_cases e1 : n1 = nb N
      · have e3 : ((n3 : Int) == (nb N : Int)) = false := by simp; intro h; exact k0 ⟨rfl, e1, by omega⟩
        have e1' : ((n1 : Int) == (nb N : Int)) = true := by simp; omega
        clear k0 q1 u1 u2 u3 X4 e1
        generalize nb N = M at *
        go_wp2_with (go_at_call 38; refine (HBM.out _).mono ?_; rintro e w' ⟨rfl, rfl⟩)
        refine bodyPost_ret (results_tmp4 rfl _ _ _) rfl ?_
        obtain ⟨u1, u2, u3, X4⟩ := HU.out
        exact ⟨N, A1, n1, c1, l1, A2, n2, c2, l2, A3, n3, c3, fl, rfl, a1, a2, H3.out, a5, H6.out, a8, HFL.out, f2, u1.full.mono (by omega) (Nat.le_refl _), u2.full.mono (by omega) (Nat.le_refl _), u3.full.mono (by omega) (Nat.le_refl _), X4⟩
      · have e1' : ((n1 : Int) == (nb N : Int)) = false := by simp; omega
        clear k0 q1 u1 u2 u3 X4 e1
        generalize nb N = M at *
        go_wp2_with (go_at_call 38; refine (HBM.out _).mono ?_; rintro e w' ⟨rfl, rfl⟩)
        refine bodyPost_ret (results_tmp4 rfl _ _ _) rfl ?_
        obtain ⟨u1, u2, u3, X4⟩ := HU.out
        exact ⟨N, A1, n1, c1, l1, A2, n2, c2, l2, A3, n3, c3, fl, rfl, a1, a2, H3.out, a5, H6.out, a8, HFL.out, f2, u1.full.mono (by omega) (Nat.le_refl _), u2.full.mono (by omega) (Nat.le_refl _), u3.full.mono (by omega) (Nat.le_refl _), X4⟩
    · have e0' : ((v4 : Int) == 0) = false := by simp; omega
      clear k0 q1 u1 u2 u3 X4
      go_wp2
      refine bodyPost_ret (results_tmp4 rfl _ _ _) rfl ?_
      obtain ⟨u1, u2, u3, X4⟩ := HU.out
      exact ⟨N, A1, n1, c1, l1, A2, n2, c2, l2, A3, n3, c3, fl, rfl, a1, a2, H3.out, a5, H6.out, a8, HFL.out, f2, u1.full.mono (by omega) (Nat.le_refl _), u2.full.mono (by omega) (Nat.le_refl _), u3.full.mono (by omega) (Nat.le_refl _), X4⟩
  obtain ⟨rfl, e1, e3⟩ := k0
  have e1' : ((n1 : Int) == (nb N : Int)) = true := by simp; omega
  have e3' : ((n3 : Int) == (nb N : Int)) = true := by simp; omega
  have hv13 : ∀ v : Nat, v < n1 → v < n3 := fun v h => by omega
  clear e1 e3
  generalize nb N = M at *
  go_wp2_with (go_at_call 38; refine (HBM.out _).mono ?_; rintro e w' ⟨rfl, rfl⟩)
  refine (pick_any w.heap.size w.heap.size (p3 + 1) (n1 : Int) _ (by omega) (by omega) (by omega) R4).mono ?_
  rintro e w5 ⟨v5, rfl, hv5, R5, C5⟩
  have z5 := C5.size
  have t1 := u1.chg C5 (.inr (by omega))
  have t2 := u2.chg C5 (.inr (by omega))
  have t3 := u3.chg C5 (.inr (by omega))
  have X5 := X4.more C5 (Nat.le_refl _)
  clear u1 u2 u3 X4 C5 R4
  have hv50 : (0 : Int) ≤ (v5 : Int) := by omega
  have hv5' : v5 < n1 := by omega
  have hv53' : v5 < n3 := hv13 v5 hv5'
  have hv53 : (v5 : Int) < (n3 : Int) := by omega
  clear hv13
  go_wp2_with fail
  refine (l91Phase_any w.heap.size w.heap.size (p3 + 1 + 1) _ (by omega) R5).mono ?_
  rintro e w6 ⟨y, p6, rfl, hy1, hy2, R6, hp6, C6⟩
  have z6 := C6.size
  have u1 := t1.chg C6 (.inr (by omega))
  have u2 := t2.chg C6 (.inr (by omega))
  have u3 := t3.chg C6 (.inr (by omega))
  have X6 := X5.more C6 (Nat.le_refl _)
  clear t1 t2 t3 X5 C6 R5 R6
  obtain ⟨gg, off, ea, hg3, hg4, hg5⟩ := u1.addr (by rw [pairs_length, H3.out]; omega)
  obtain rfl := ea
  obtain ⟨gf, oof, ea, hf3, hf4, hf5⟩ := u3.addr (by rw [bools_length, HFL.out]; omega)
  obtain rfl := ea
  obtain ⟨⟨a, b⟩, hab⟩ := at_of_lt (l := l1) (k := v5) (by rw [H3.out]; omega)
  have fr1 := u1.frozen (by rw [pairs_length, H3.out]; omega) (off + v5 * 2 + 1)
  have cc1 := u1.snd hab
  have St1 : ∃ cur, w6.heap[gg]? = some (.cells cur 30 (0, 0)) := by
    obtain ⟨g', o', cur, e, _, _, h5, _⟩ := u1.2 (by rw [pairs_length, H3.out]; omega)
    cases e
    exact ⟨cur, h5⟩
  obtain ⟨cur1, St1⟩ := St1
  have m3 := u3.farE (k := off + v5 * 2 + 1) St1 (by decide) (.int .i64 y)
  obtain ⟨l1', hl1', m1⟩ := u1.poke gg (off + v5 * 2 + 1) y
  obtain ⟨l2', hl2', m2⟩ := u2.poke gg (off + v5 * 2 + 1) y
  have X7 := X6.setCell (p := ⟨gg, off + v5 * 2 + 1, none⟩) (by show _ ≤ gg; omega) (.int .i64 y)
  have fr3 := m3.frozen (by rw [bools_length, HFL.out]; omega) (oof + v5)
  have cc3 := m3.cell (bools_at (some_bAt0 (l := fl) (k := v5) (by rw [HFL.out]; exact hv53')))
  have St3 : ∃ cur, (w6.setCell ⟨gg, off + v5 * 2 + 1, none⟩ (.int .i64 y)).heap[gf]? = some (.cells cur 4 (0, 0)) := by
    obtain ⟨g', o', cur, e, _, _, h5, _⟩ := m3.2 (by rw [bools_length, HFL.out]; omega)
    cases e
    exact ⟨cur, h5⟩
  obtain ⟨cur3, St3⟩ := St3
  have k1 := m1.farE (k := oof + v5) St3 (by decide) (.bool true)
  have k2 := m2.farE (k := oof + v5) St3 (by decide) (.bool true)
  have k3 := m3.set_ v5 (.bool true)
  rw [bools_set] at k3
  have X8 := X7.setCell (p := ⟨gf, oof + v5, none⟩) (by show _ ≤ gf; omega) (.bool true)
  have HK := Lib.hid (And.intro k1 (And.intro k2 (And.intro k3 (And.intro X8 (And.intro hl1' hl2')))))
  have hz6 : w.heap.size ≤ w1.heap.size := by omega
  clear u1 u2 u3 X6 m1 m2 m3 X7 k1 k2 k3 X8 hl1' hl2' St1 St3 hab
  go_wp2
  refine bodyPost_ret (results_tmp4 rfl _ _ _) rfl ?_
  obtain ⟨k1, k2, k3, X8, hl1', hl2'⟩ := HK.out
  exact ⟨N, _, n1, c1, l1', A2, n2, c2, l2', _, n3, c3, fl.set v5 true, rfl, a1, a2, hl1'.trans H3.out, a5, hl2'.trans H6.out, a8, by rw [List.length_set]; exact HFL.out, f2, k1.full.mono (by omega) (Nat.le_refl _), k2.full.mono (by omega) (Nat.le_refl _), k3.full.mono (by omega) (Nat.le_refl _), X8⟩
end Go.Proofs.Ytpjglnmnfmibnab
