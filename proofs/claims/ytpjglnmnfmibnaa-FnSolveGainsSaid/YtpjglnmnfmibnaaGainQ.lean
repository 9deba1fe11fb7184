/-
  Plain law on solved gains: applied to the model they give the list, removed from the list they give the model. No program in sight.
-/
import Derived.Test.YtpjglnmnfmibnaaGainR
import Derived.Test.YtpjglnmnfmibnaaGainP
import Derived.Test.YtpjglnmnfmibnaaAmpJ
namespace Go.Proofs.Ytpjglnmnfmibnaa

theorem vl_ext {a b : VL} {n : Nat} (ha : a.length = n) (hb : b.length = n) (h : ∀ k, k < n → vAm a k = vAm b k ∧ vPh a k = vPh b k) : a = b := by
  apply List.ext_getElem?
  intro k
  by_cases hk : k < n
  · obtain ⟨h1, h2⟩ := h k hk
    rw [some_v (l := a) (by omega), some_v (l := b) (by omega), h1, h2]
  · rw [List.getElem?_eq_none (by omega), List.getElem?_eq_none (by omega)]
structure SgF (N : Nat) (l m g : VL) : Prop where
  n7 : N ≤ 7
  len : g.length = N
  ga : gaB (N : Int) g = true
  vl : visB (N : Int) l = true
  vm : visB (N : Int) m = true
  ll : l.length = nb N
  lm : m.length = nb N
  app : gappB (N : Int) m g = true
  appl : gappL (N : Int) m g = l
  goes : ∀ k p, (bp N)[k]? = some p → goesB l g k p
  rem : grM l g (bp N) = m
theorem sg_facts {N : Nat} {l m : VL} (h : sgB (N : Int) l m = true) : SgF N l m (sgL (N : Int) l m) := by
  have h' := h
  simp only [sgB, Bool.and_eq_true] at h'
  obtain ⟨N1, t, e, h3, h7, ht, v1, v2, hok, hsa⟩ := saB_yes h'.1
  obtain rfl : N1 = N := by omega
  obtain ⟨N2, e2, _, _, l1, l2, q1, q2, hsp, hfit⟩ := spB_yes h'.2
  obtain rfl : N2 = N1 := by omega
  obtain ⟨_, _, _, _, eg, _, _⟩ := sg_yes h'.1 h'.2
  have hg : sgL (N2 : Int) l m = sgOf N2 (saL (N2 : Int) l m) (spL (N2 : Int) l m) := by simp [sgL, h]
  rw [hg, hsa, hsp]
  generalize hgg : sgOf N2 (amL N2 l m ((t : Int) + 1) N2) (soL N2 l m N2) = g
  have gl : g.length = N2 := by rw [← hgg, sgOf_length]
  have ga : ∀ i, i < N2 → vAm g i = amT N2 l m ((t : Int) + 1) i ∧ vPh g i = soT N2 l m i := fun i hi => by
    rw [← hgg]
    have a := v_some (@sgOf_at N2 (amL N2 l m ((t : Int) + 1) N2) (soL N2 l m N2) i hi)
    rw [soL_at hi, pAt_some (amL_at hi)] at a
    exact a
  have hN : N2 < 8 := by omega
  have am1 : ∀ i, i < N2 → 1 ≤ amT N2 l m ((t : Int) + 1) i ∧ amT N2 l m ((t : Int) + 1) i ≤ 99 := fun i hi => by
    have a := amT_range (N := N2) (l := l) (m := m) (f := (t : Int) + 1) i (by omega) (by omega) (rg_nonneg q1) (rg_nonneg q2)
    refine ⟨?_, a.2⟩
    by_cases h0 : i = 0
    · subst h0; simp [amT]; omega
    · have : amT N2 l m ((t : Int) + 1) i ≠ 0 := fun e => by
        have := amOk_bad hN l1 q1 (by omega) hi e
        rw [hok] at this; cases this
      omega
  have am2 : ∀ i j, i < j → j < N2 → vAm l (bIx N2 i j) = vAm m (bIx N2 i j) * vAm g i * vAm g j := fun i j hij hj => by
    rw [(ga i (by omega)).1, (ga j hj).1]
    have := List.all_eq_true.1 hok (i, j) (mem_bp hN hij hj)
    simpa [amG] using this
  have ph2 : ∀ i j, i < j → j < N2 → (vPh l (bIx N2 i j) - (vPh m (bIx N2 i j) + vPh g j - vPh g i)) % 360 = 0 := fun i j hij hj => by
    have := fit_iff.1 hfit i j hij hj (bAt0_allF _ _)
    rw [soL_at hj, soL_at (by omega)] at this
    rw [(ga i (by omega)).2, (ga j hj).2]
    exact this
  have hga : gaB (N2 : Int) g = true := gaB_mk (by omega) h7 gl (rgB_mk fun k hk => by
    rw [gl] at hk
    have a := am1 k hk
    have b := soT_range N2 l m k
    rw [(ga k hk).1, (ga k hk).2]
    omega)
  have hgm : (gaM m g (bp N2)).length = nb N2 := by rw [gaM_length, bp_length N2 hN]
  have happ : gaM m g (bp N2) = l := vl_ext hgm l1 fun k hk => by
    obtain ⟨i, j, _, hij, hj, rfl⟩ := bp_inv hN hk
    rw [vam_gaM hN _ _ hij hj, vph_gaM hN _ _ hij hj]
    refine ⟨(am2 i j hij hj).symm, ?_⟩
    have a := ph2 i j hij hj
    have b := rgB_at q1 (k := bIx N2 i j) (by rw [l1]; exact hk)
    omega
  have hab : gappB (N2 : Int) m g = true := by simp [gappB, v2, hga, happ, v1]
  have hgo : ∀ k p, (bp N2)[k]? = some p → goesB l g k p := fun k p hk => by
    have hlt : k < nb N2 := by rw [← bp_length N2 hN]; exact lt_of_at hk
    obtain ⟨i, j, e, hij, hj, rfl⟩ := bp_inv hN hlt
    rw [hk] at e
    obtain rfl : p = (i, j) := Option.some.inj e
    show vAm l (bIx N2 i j) % (vAm g i * vAm g j) = 0
    rw [am2 i j hij hj, Int.mul_assoc]
    exact Int.mul_emod_left _ _
  refine ⟨h7, gl, hga, v1, v2, l1, l2, hab, by simp [gappL, hab, happ], hgo, vl_ext (by rw [grM_length, bp_length N2 hN]) l2 fun k hk => ?_⟩
  obtain ⟨i, j, e, hij, hj, rfl⟩ := bp_inv hN hk
  have a := v_some (byAt_at (f := grF l g) e)
  have hm0 : vAm g i * vAm g j ≠ 0 := by
    have a1 := am1 i (by omega)
    have a2 := am1 j hj
    rw [(ga i (by omega)).1, (ga j hj).1]
    have := (mul_in1' a1.1 a1.2 a2.1 a2.2).1
    omega
  refine ⟨?_, ?_⟩
  · rw [show vAm (grM l g (bp N2)) (bIx N2 i j) = _ from a.1, am2 i j hij hj, Int.mul_assoc]
    exact Int.mul_ediv_cancel _ hm0
  · rw [show vPh (grM l g (bp N2)) (bIx N2 i j) = _ from a.2]
    have a' := ph2 i j hij hj
    have b := rgB_at q2 (k := bIx N2 i j) (by rw [l2]; exact hk)
    show (vPh l (bIx N2 i j) + vPh g i - vPh g j) % 360 = _
    omega
end Go.Proofs.Ytpjglnmnfmibnaa
