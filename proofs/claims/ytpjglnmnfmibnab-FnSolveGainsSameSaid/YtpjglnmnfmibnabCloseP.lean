/-
  Closures in plain numbers: closing phases, closing amplitudes, lists with the same closures. No program in sight.
-/
import Derived.Test.YtpjglnmnfmibnabSolPlainB
namespace Go.Proofs.Ytpjglnmnfmibnab

def dis3 (i j k : Nat) : Prop := i ≠ j ∧ j ≠ k ∧ k ≠ i
instance (i j k : Nat) : Decidable (dis3 i j k) := by unfold dis3; infer_instance
def dis4 (i j k l : Nat) : Prop := i ≠ j ∧ i ≠ k ∧ i ≠ l ∧ j ≠ k ∧ j ≠ l ∧ k ≠ l
instance (i j k l : Nat) : Decidable (dis4 i j k l) := by unfold dis4; infer_instance
/-- the closing phase, 0 where the antennas are not different -/
def cph (N : Nat) (l : VL) (i j k : Nat) : Int := if dis3 i j k then (vgP N l i j + vgP N l j k + vgP N l k i) % 360 else 0
def gcdI (a b : Int) : Int := ((Nat.gcd a.toNat b.toNat : Nat) : Int)
def caT (N : Nat) (l : VL) (i j k m : Nat) : Int := vgA N l i j * vgA N l k m
def caB (N : Nat) (l : VL) (i j k m : Nat) : Int := vgA N l i k * vgA N l j m
/-- the closing amplitude in lowest terms, 0 and 0 where the antennas are not different -/
def camT (N : Nat) (l : VL) (i j k m : Nat) : Int := if dis4 i j k m then caT N l i j k m / gcdI (caT N l i j k m) (caB N l i j k m) else 0
def camB (N : Nat) (l : VL) (i j k m : Nat) : Int := if dis4 i j k m then caB N l i j k m / gcdI (caT N l i j k m) (caB N l i j k m) else 0
/-- three antennas, and a fourth, have the same closures -/
def same4 (N : Nat) (a b : VL) (i j k m : Nat) : Prop := camT N a i j k m = camT N b i j k m ∧ camB N a i j k m = camB N b i j k m
def sameA (N : Nat) (a b : VL) (i j k : Nat) : Prop := ∀ m, m < N → same4 N a b i j k m
def sameC (N : Nat) (a b : VL) (i j k : Nat) : Prop := cph N a i j k = cph N b i j k ∧ sameA N a b i j k
def csP (N : Nat) (a b : VL) : Prop := ∀ i j k, i < N → j < N → k < N → sameC N a b i j k
open Classical in
noncomputable def csB (n : Int) (a b : VL) : Bool := visB n a && visB n b && decide (csP n.toNat a b)
theorem csP.refl (N : Nat) (a : VL) : csP N a a := fun _ _ _ _ _ _ => ⟨rfl, fun _ _ => ⟨rfl, rfl⟩⟩
theorem csP.symm {N : Nat} {a b : VL} (h : csP N a b) : csP N b a := fun i j k h1 h2 h3 => ⟨(h i j k h1 h2 h3).1.symm, fun m hm => ⟨((h i j k h1 h2 h3).2 m hm).1.symm, ((h i j k h1 h2 h3).2 m hm).2.symm⟩⟩
theorem csB_iff {N : Nat} {a b : VL} : csB (N : Int) a b = true ↔ visB (N : Int) a = true ∧ visB (N : Int) b = true ∧ csP N a b := by
  simp [csB, and_assoc]
theorem csB_no {n : Int} {a b : VL} (h : (visB n a && visB n b) = false) : csB n a b = false := by simp only [csB, h, Bool.false_and]
theorem csB_not {N : Nat} {a b : VL} (h : ¬ csP N a b) : csB (N : Int) a b = false := by simp [csB, h]
theorem csB_same {n : Int} {a b : VL} (h : csB n a b = true) : csB n b a = true ∧ csB n a a = true ∧ csB n b b = true := by
  have h' := h
  simp only [csB, Bool.and_eq_true, decide_eq_true_eq] at h
  simp only [csB, Bool.and_eq_true, decide_eq_true_eq]
  exact ⟨⟨⟨h.1.2, h.1.1⟩, h.2.symm⟩, ⟨⟨h.1.1, h.1.1⟩, csP.refl _ _⟩, ⟨⟨h.1.2, h.1.2⟩, csP.refl _ _⟩⟩
/-! ### closing phases in any order -/
theorem cph_range (N : Nat) (l : VL) (i j k : Nat) : 0 ≤ cph N l i j k ∧ cph N l i j k < 360 := by unfold cph; split <;> omega
theorem cph_rot (N : Nat) (l : VL) (i j k : Nat) : cph N l j k i = cph N l i j k := by
  unfold cph
  by_cases h : dis3 i j k
  · rw [if_pos h, if_pos (by unfold dis3 at *; omega)]; congr 1; omega
  · rw [if_neg h, if_neg (by unfold dis3 at *; omega)]
theorem cph_rev (N : Nat) (l : VL) (i j k : Nat) : (cph N l i j k + cph N l k j i) % 360 = 0 := by
  unfold cph
  by_cases h : dis3 i j k
  · rw [if_pos h, if_pos (by unfold dis3 at *; omega)]
    have a := vgP_anti (n := N) (l := l) h.1
    have b := vgP_anti (n := N) (l := l) h.2.1
    have c := vgP_anti (n := N) (l := l) h.2.2
    omega
  · rw [if_neg h, if_neg (by unfold dis3 at *; omega)]; rfl
/-- it is enough to look at antennas in rising order -/
theorem cph_all {N : Nat} {a b : VL} (h : ∀ i j k, i < j → j < k → k < N → cph N a i j k = cph N b i j k) : ∀ i j k, i < N → j < N → k < N → cph N a i j k = cph N b i j k := by
  have rev : ∀ i j k, cph N a k j i = cph N b k j i → cph N a i j k = cph N b i j k := fun i j k e => by
    have h1 := cph_rev N a i j k
    have h2 := cph_rev N b i j k
    have h3 := cph_range N a i j k
    have h4 := cph_range N b i j k
    omega
  intro i j k hi hj hk
  by_cases hd : dis3 i j k
  · obtain ⟨d1, d2, d3⟩ := hd
    rcases Nat.lt_or_gt_of_ne d1 with h1 | h1 <;> rcases Nat.lt_or_gt_of_ne d2 with h2 | h2 <;> rcases Nat.lt_or_gt_of_ne d3 with h3 | h3
    · omega
    · exact h i j k h1 h2 hk
    · rw [cph_rot N a k i j, cph_rot N b k i j]; exact h k i j h3 h1 hj
    · refine rev i j k ?_
      rw [cph_rot N a i k j, cph_rot N b i k j]; exact h i k j h3 h2 hj
    · rw [← cph_rot N a i j k, ← cph_rot N b i j k]; exact h j k i h2 h3 hi
    · refine rev i j k ?_
      rw [← cph_rot N a k j i, ← cph_rot N b k j i]; exact h j i k h1 h3 hk
    · exact rev i j k (h k j i h2 h1 hi)
    · omega
  · unfold cph
    rw [if_neg hd, if_neg hd]
/-! ### one phase changed -/
theorem bIx_inj {N i j i' j' : Nat} (hN : N < 8) (h : i < j) (hj : j < N) (h' : i' < j') (hj' : j' < N) (e : bIx N i j = bIx N i' j') : i = i' ∧ j = j' := by
  have a := bp_at N hN i (by omega) j hj h
  have b := bp_at N hN i' (by omega) j' hj' h'
  rw [e, b] at a
  simp only [Option.some.injEq, Prod.mk.injEq] at a
  exact ⟨a.1.symm, a.2.symm⟩
def bump (b : VL) (k : Nat) : VL := b.set k (vAm b k, (vPh b k + 1) % 360)
theorem bump_length (b : VL) (k : Nat) : (bump b k).length = b.length := by simp [bump]
theorem bump_at {b : VL} {k : Nat} (hk : k < b.length) : vAm (bump b k) k = vAm b k ∧ vPh (bump b k) k = (vPh b k + 1) % 360 := by
  have : (bump b k)[k]? = some (vAm b k, (vPh b k + 1) % 360) := by unfold bump; rw [List.getElem?_set_self hk]
  exact v_some this
theorem bump_ne {b : VL} {k j : Nat} (h : j ≠ k) : vAm (bump b k) j = vAm b j ∧ vPh (bump b k) j = vPh b j := by
  simp [bump, vAm, vPh, List.getElem?_set_ne (Ne.symm h)]
theorem bump_valid {N : Nat} {b : VL} {k : Nat} (h : visB (N : Int) b = true) : visB (N : Int) (bump b k) = true := by
  obtain ⟨N', e, h1, h2, h3, h4⟩ := visB_parts h
  obtain rfl : N' = N := by omega
  refine visB_mk h1 h2 (by rw [bump_length]; exact h3) (rgB_mk fun j hj => ?_)
  rw [bump_length] at hj
  have r := rgB_at h4 hj
  by_cases e : j = k
  · subst e
    obtain ⟨e1, e2⟩ := bump_at hj
    rw [e1, e2]
    omega
  · obtain ⟨e1, e2⟩ := bump_ne (b := b) e
    rw [e1, e2]
    exact r
/-- with two antennas there are no closures -/
theorem csP_two (a b : VL) : csP 2 a b := by
  intro i j k hi hj hk
  have h3 : ¬ dis3 i j k := by unfold dis3; omega
  refine ⟨by unfold cph; rw [if_neg h3, if_neg h3], fun m hm => ?_⟩
  have h4 : ¬ dis4 i j k m := by unfold dis4; omega
  exact ⟨by unfold camT; rw [if_neg h4, if_neg h4], by unfold camB; rw [if_neg h4, if_neg h4]⟩
theorem csP_bump {N : Nat} {a b : VL} {k : Nat} (h3 : 3 ≤ N) (hN : N ≤ 7) (hb : visB (N : Int) b = true) (hk : k < b.length) (h : csP N a b) : ¬ csP N a (bump b k) := by
  obtain ⟨N', e, _, _, hl, hr⟩ := visB_parts hb
  obtain rfl : N' = N := by omega
  obtain ⟨i, j, _, hij, hj, rfl⟩ := bp_inv (n := N') (by omega) (k := k) (by omega)
  obtain ⟨t, ht, hti, htj⟩ : ∃ t, t < N' ∧ t ≠ i ∧ t ≠ j := by
    by_cases h0 : i ≠ 0 ∧ j ≠ 0
    · exact ⟨0, by omega, by omega, by omega⟩
    · by_cases h1 : i ≠ 1 ∧ j ≠ 1
      · exact ⟨1, by omega, by omega, by omega⟩
      · exact ⟨2, by omega, by omega, by omega⟩
  intro h'
  have e1 := (h i j t (by omega) hj ht).1
  have e2 := (h' i j t (by omega) hj ht).1
  rw [e1] at e2
  have hd : dis3 i j t := by unfold dis3; omega
  have o1 : vgP N' (bump b (bIx N' i j)) j t = vgP N' b j t := by
    unfold vgP
    split
    · next q => rw [(bump_ne (fun e => by have := bIx_inj (by omega) q hj hij hj e; omega)).2]
    · next q => rw [(bump_ne (fun e => by have := bIx_inj (by omega) (show j < t by omega) ht hij hj e; omega)).2]
  have o2 : vgP N' (bump b (bIx N' i j)) t i = vgP N' b t i := by
    unfold vgP
    split
    · next q => rw [(bump_ne (fun e => by have := bIx_inj (by omega) q ht hij hj e; omega)).2]
    · next q => rw [(bump_ne (fun e => by have := bIx_inj (by omega) (show t < i by omega) (by omega) hij hj e; omega)).2]
  have o3 : vgP N' (bump b (bIx N' i j)) i j = (vgP N' b i j + 1) % 360 := by
    unfold vgP
    rw [if_neg (by omega), if_neg (by omega)]
    exact (bump_at hk).2
  unfold cph at e2
  rw [if_pos hd, if_pos hd, o1, o2, o3] at e2
  omega
end Go.Proofs.Ytpjglnmnfmibnab
