/-
  Amplitudes of gains that explain visibilities, in plain numbers: those that follow from the first one, and the first one that serves. No program in sight.
-/
import Derived.Test.YtpjglnmnfmibnabSolPlainB
namespace Go.Proofs.Ytpjglnmnfmibnab

/-- the amplitude of antenna j that follows from that of antenna 0, or 0 -/
def amT (N : Nat) (l m : VL) (f : Int) (j : Nat) : Int :=
  if j = 0 then f else if vAm l (bIx N 0 j) % (vAm m (bIx N 0 j) * f) = 0 ∧ vAm l (bIx N 0 j) / (vAm m (bIx N 0 j) * f) ≤ 99 then vAm l (bIx N 0 j) / (vAm m (bIx N 0 j) * f) else 0
def amL (N : Nat) (l m : VL) (f : Int) (k : Nat) : List Int := (List.range k).map (amT N l m f)
def amG (N : Nat) (l m : VL) (f : Int) (p : Nat × Nat) : Bool := decide (vAm l (bIx N p.1 p.2) = vAm m (bIx N p.1 p.2) * amT N l m f p.1 * amT N l m f p.2)
/-- they explain all visibilities -/
def amOk (N : Nat) (l m : VL) (f : Int) : Bool := (bp N).all (amG N l m f)
def amF (N : Nat) (l m : VL) (f : Int) : List Int := if amOk N l m f then amL N l m f N else []
theorem amL_length (N : Nat) (l m : VL) (f : Int) (k : Nat) : (amL N l m f k).length = k := by simp [amL]
theorem amL_at {N : Nat} {l m : VL} {f : Int} {k j : Nat} (h : j < k) : (amL N l m f k)[j]? = some (amT N l m f j) := by simp [amL, h]
theorem amL_succ (N : Nat) (l m : VL) (f : Int) (k : Nat) : amL N l m f (k + 1) = amL N l m f k ++ [amT N l m f k] := by simp [amL, List.range_succ]
theorem amL_one (N : Nat) (l m : VL) (f : Int) : amL N l m f 1 = [f] := by simp [amL, amT]
theorem amT_range {N : Nat} {l m : VL} {f : Int} (j : Nat) (hf : 1 ≤ f) (hf2 : f ≤ 99) (hl : ∀ k, 0 ≤ vAm l k) (hm : ∀ k, 0 ≤ vAm m k) : 0 ≤ amT N l m f j ∧ amT N l m f j ≤ 99 := by
  unfold amT
  split
  · omega
  · split
    · next h => exact ⟨Int.ediv_nonneg (hl _) (Int.mul_nonneg (hm _) (by omega)), h.2⟩
    · omega
theorem rg_nonneg {lim : Int} {l : VL} (h : rgB lim l = true) (k : Nat) : 0 ≤ vAm l k := by
  by_cases hk : k < l.length
  · have := rgB_at h hk; omega
  · simp [vAm, List.getElem?_eq_none (Nat.le_of_not_lt hk)]
/-- an amplitude that does not follow spoils all -/
theorem amOk_bad {N : Nat} {l m : VL} {f : Int} {j : Nat} (hN : N < 8) (hl : l.length = nb N) (hr : rgB 1000000 l = true) (h1 : 1 ≤ j) (hj : j < N) (h : amT N l m f j = 0) : amOk N l m f = false := by
  rcases e : amOk N l m f with _ | _
  · rfl
  · exfalso
    have := List.all_eq_true.1 e (0, j) (mem_bp hN h1 hj)
    simp only [amG, decide_eq_true_eq, h, Int.mul_zero] at this
    have hb := rgB_at hr (k := bIx N 0 j) (by rw [hl]; exact bIx_lt N hN 0 (by omega) j hj h1)
    omega
theorem amOk_no {N : Nat} {l m : VL} {f : Int} {i j : Nat} (hN : N < 8) (hi : i < j) (hj : j < N) (h : vAm l (bIx N i j) ≠ vAm m (bIx N i j) * amT N l m f i * amT N l m f j) : amOk N l m f = false := by
  rcases e : amOk N l m f with _ | _
  · rfl
  · have := List.all_eq_true.1 e (i, j) (mem_bp hN hi hj)
    simp only [amG, decide_eq_true_eq] at this
    exact absurd this h
def saI (N : Nat) (l m : VL) : Option Nat := (List.range 99).find? fun t => amOk N l m ((t : Int) + 1)
def saB (n : Int) (l m : VL) : Bool := visB n l && visB n m && decide (3 ≤ n) && (saI n.toNat l m).isSome
def saL (n : Int) (l m : VL) : List Int := if saB n l m then amF n.toNat l m (((saI n.toNat l m).getD 0 : Nat) + 1) else []
theorem saI_some {N : Nat} {l m : VL} {k : Nat} (hk : k < 99) (h : amOk N l m ((k : Int) + 1) = true) (hn : ∀ j : Nat, j < k → amOk N l m ((j : Int) + 1) = false) : saI N l m = some k := by
  unfold saI
  rw [List.find?_range_eq_some]
  exact ⟨h, List.mem_range.2 hk, fun j hj => by simp [hn j hj]⟩
theorem saI_none {N : Nat} {l m : VL} (hn : ∀ j : Nat, j < 99 → amOk N l m ((j : Int) + 1) = false) : saI N l m = none := by
  unfold saI
  rw [List.find?_eq_none]
  intro j hj
  simp [hn j (List.mem_range.1 hj)]
theorem saB_yes {n : Int} {l m : VL} (h : saB n l m = true) : ∃ (N t : Nat), n = N ∧ 3 ≤ N ∧ N ≤ 7 ∧ t < 99 ∧ visB n l = true ∧ visB n m = true ∧ amOk N l m ((t : Int) + 1) = true ∧ saL n l m = amL N l m ((t : Int) + 1) N := by
  have h' := h
  simp only [saB, Bool.and_eq_true, decide_eq_true_eq] at h
  obtain ⟨⟨⟨h1, h2⟩, h3⟩, h4⟩ := h
  obtain ⟨N, rfl, _, h5, _, _⟩ := visB_parts h1
  rw [Int.toNat_natCast] at h4
  obtain ⟨t, ht⟩ := Option.isSome_iff_exists.1 h4
  have ht' := ht
  unfold saI at ht'
  rw [List.find?_range_eq_some] at ht'
  refine ⟨N, t, rfl, by omega, h5, List.mem_range.1 ht'.2.1, h1, h2, ht'.1, ?_⟩
  simp only [saL, h', if_true, Int.toNat_natCast, ht, Option.getD_some, amF, ht'.1]
theorem amF_length (N : Nat) (l m : VL) (f : Int) : (amF N l m f).length ≤ N := by
  unfold amF
  split
  · rw [amL_length]; exact Nat.le_refl _
  · exact Nat.zero_le _
theorem saL_length (n : Int) (l m : VL) : (saL n l m).length ≤ 7 := by
  rcases h : saB n l m with _ | _
  · simp [saL, h]
  · obtain ⟨N, t, _, _, h2, _, _, _, _, e⟩ := saB_yes h
    rw [e, amL_length]; exact h2
/-! ### gains -/
def sgB (n : Int) (l m : VL) : Bool := saB n l m && spB n l m
def sgOf (N : Nat) (as ps : List Int) : VL := (List.range N).map fun i => (pAt as i, pAt ps i)
def sgL (n : Int) (l m : VL) : VL := if sgB n l m then sgOf n.toNat (saL n l m) (spL n l m) else []
theorem sgOf_length (N : Nat) (as ps : List Int) : (sgOf N as ps).length = N := by simp [sgOf]
theorem sgOf_at {N : Nat} {as ps : List Int} {i : Nat} (h : i < N) : (sgOf N as ps)[i]? = some (pAt as i, pAt ps i) := by simp [sgOf, h]
theorem sgOf_succ {N : Nat} {as ps : List Int} {k : Nat} (h : k < N) : (sgOf N as ps).take (k + 1) = (sgOf N as ps).take k ++ [(pAt as k, pAt ps k)] := take_snoc_of (sgOf_at h)
end Go.Proofs.Ytpjglnmnfmibnab
