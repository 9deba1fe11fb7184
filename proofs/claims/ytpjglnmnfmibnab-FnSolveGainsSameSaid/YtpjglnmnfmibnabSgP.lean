/-
  Plain law: lists that gains carry into each other have the same closures. No program in sight.
-/
import Derived.Test.YtpjglnmnfmibnabAmpJ
import Derived.Test.YtpjglnmnfmibnabCloseP
namespace Go.Proofs.Ytpjglnmnfmibnab

theorem sg_fit {N : Nat} {l m : VL} (h : sgB (N : Int) l m = true) : N ≤ 7 ∧ 3 ≤ N ∧ visB (N : Int) l = true ∧ visB (N : Int) m = true ∧ ∃ u q : Nat → Int, (∀ i, i < N → 1 ≤ u i) ∧
    (∀ i j, i < j → j < N → vAm l (bIx N i j) = vAm m (bIx N i j) * u i * u j) ∧ (∀ i j, i < j → j < N → (vPh l (bIx N i j) - (vPh m (bIx N i j) + q j - q i)) % 360 = 0) := by
  have h' := h
  simp only [sgB, Bool.and_eq_true] at h'
  obtain ⟨N1, t, e, h3, h7, ht, v1, v2, hok, hsa⟩ := saB_yes h'.1
  obtain rfl : N1 = N := by omega
  obtain ⟨N2, e2, _, _, l1, l2, q1, q2, hsp, hfit⟩ := spB_yes h'.2
  obtain rfl : N2 = N1 := by omega
  refine ⟨h7, h3, v1, v2, amT N2 l m ((t : Int) + 1), pAt (soL N2 l m N2), fun i hi => ?_, fun i j hij hj => ?_, fun i j hij hj => fit_iff.1 hfit i j hij hj (bAt0_allF _ _)⟩
  · have a := amT_range (N := N2) (l := l) (m := m) (f := (t : Int) + 1) i (by omega) (by omega) (rg_nonneg q1) (rg_nonneg q2)
    by_cases h0 : i = 0
    · subst h0; simp [amT]; omega
    · have : amT N2 l m ((t : Int) + 1) i ≠ 0 := fun e => by
        have := amOk_bad (by omega) l1 q1 (by omega) hi e
        rw [hok] at this; cases this
      omega
  · have := List.all_eq_true.1 hok (i, j) (mem_bp (by omega) hij hj)
    simpa [amG] using this
theorem gcdI_mul {a b c : Int} (ha : 0 ≤ a) (hb : 0 ≤ b) (hc : 0 ≤ c) : gcdI (a * c) (b * c) = gcdI a b * c := by
  obtain ⟨a', rfl⟩ := Int.eq_ofNat_of_zero_le ha
  obtain ⟨b', rfl⟩ := Int.eq_ofNat_of_zero_le hb
  obtain ⟨c', rfl⟩ := Int.eq_ofNat_of_zero_le hc
  unfold gcdI
  rw [← Int.natCast_mul, ← Int.natCast_mul, Int.toNat_natCast, Int.toNat_natCast, Int.toNat_natCast, Int.toNat_natCast, Nat.gcd_mul_right, Int.natCast_mul]
theorem low_mul {a b c : Int} (ha : 0 ≤ a) (hb : 0 ≤ b) (hc : 1 ≤ c) : a * c / gcdI (a * c) (b * c) = a / gcdI a b ∧ b * c / gcdI (a * c) (b * c) = b / gcdI a b := by
  rw [gcdI_mul ha hb (by omega)]
  exact ⟨Int.mul_ediv_mul_of_pos_left _ _ (by omega), Int.mul_ediv_mul_of_pos_left _ _ (by omega)⟩
theorem sg_same {N : Nat} {l m : VL} (h : sgB (N : Int) l m = true) : csB (N : Int) l m = true := by
  obtain ⟨h7, h3, v1, v2, u, q, hu, ha, hp⟩ := sg_fit h
  refine csB_iff.2 ⟨v1, v2, fun i j k hi hj hk => ?_⟩
  have vp : ∀ i j, i < N → j < N → i ≠ j → (vgP N l i j - (vgP N m i j + q j - q i)) % 360 = 0 := fun i j hi hj hne => by
    rcases Nat.lt_or_gt_of_ne hne with h1 | h1
    · have := hp i j h1 hj
      unfold vgP
      rw [if_neg (by omega), if_neg (by omega)]
      exact this
    · have := hp j i h1 hi
      unfold vgP
      rw [if_pos h1, if_pos h1]
      omega
  have va : ∀ i j, i < N → j < N → i ≠ j → vgA N l i j = vgA N m i j * u i * u j := fun i j hi hj hne => by
    rcases Nat.lt_or_gt_of_ne hne with h1 | h1
    · have := ha i j h1 hj
      unfold vgA bAt
      rw [if_neg (by omega)]
      exact this
    · have := ha j i h1 hi
      unfold vgA bAt
      rw [if_pos h1, this, Int.mul_assoc, Int.mul_assoc, Int.mul_comm (u i)]
  have vn : ∀ i j, 0 ≤ vgA N m i j := fun i j => by
    obtain ⟨_, _, _, _, _, g4⟩ := visB_parts v2
    exact rg_nonneg g4 _
  refine ⟨?_, fun t ht => ?_⟩
  · unfold cph
    split
    · next d =>
      have a := vp i j hi hj d.1
      have b := vp j k hj hk d.2.1
      have c := vp k i hk hi d.2.2
      omega
    · rfl
  · unfold same4 camT camB
    by_cases d : dis4 i j k t
    · obtain ⟨d1, d2, d3, d4, d5, d6⟩ := d
      have hc : 1 ≤ u i * u j * u k * u t := by
        have a := (mul_in1' (hu i hi) (Int.le_refl _) (hu j hj) (Int.le_refl _)).1
        have b := (mul_in1' a (Int.le_refl _) (hu k hk) (Int.le_refl _)).1
        exact (mul_in1' b (Int.le_refl _) (hu t ht) (Int.le_refl _)).1
      have eT : caT N l i j k t = caT N m i j k t * (u i * u j * u k * u t) := by
        unfold caT
        rw [va i j hi hj d1, va k t hk ht d6]
        simp only [Int.mul_assoc, Int.mul_comm, Int.mul_left_comm]
      have eB : caB N l i j k t = caB N m i j k t * (u i * u j * u k * u t) := by
        unfold caB
        rw [va i k hi hk d2, va j t hj ht d5]
        simp only [Int.mul_assoc, Int.mul_comm, Int.mul_left_comm]
      have := low_mul (a := caT N m i j k t) (b := caB N m i j k t) (c := u i * u j * u k * u t) (Int.mul_nonneg (vn _ _) (vn _ _)) (Int.mul_nonneg (vn _ _) (vn _ _)) hc
      rw [if_pos ⟨d1, d2, d3, d4, d5, d6⟩, if_pos ⟨d1, d2, d3, d4, d5, d6⟩, if_pos ⟨d1, d2, d3, d4, d5, d6⟩, if_pos ⟨d1, d2, d3, d4, d5, d6⟩, eT, eB]
      exact this
    · rw [if_neg d, if_neg d, if_neg d, if_neg d]
      exact ⟨rfl, rfl⟩
end Go.Proofs.Ytpjglnmnfmibnab
