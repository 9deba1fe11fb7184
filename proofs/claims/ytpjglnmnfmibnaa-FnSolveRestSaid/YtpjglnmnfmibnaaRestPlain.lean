/-
  Plain law for FnSolveRest: turning all phases by one amount leaves the rest; the rest is zero just where the solved phases are these, seen from the first antenna. No program in sight.
-/
import Derived.Test.YtpjglnmnfmibnaaSolPlainB
namespace Go.Proofs.Ytpjglnmnfmibnaa

theorem rstL_congr {n : Nat} {l m : VL} {p q : List Int} (ps : List (Nat × Nat)) (h : ∀ x ∈ ps, rst n l m p x = rst n l m q x) : rstL n l m p ps = rstL n l m q ps := by
  unfold rstL
  have : ∀ (ps : List (Nat × Nat)) (r : Int), (∀ x ∈ ps, rst n l m p x = rst n l m q x) → ps.foldl (fun r x => mxI r (rst n l m p x)) r = ps.foldl (fun r x => mxI r (rst n l m q x)) r := by
    intro ps
    induction ps with
    | nil => intro r _; rfl
    | cons a ps ih =>
      intro r h
      simp only [List.foldl_cons]
      rw [h a (List.mem_cons_self ..)]
      exact ih _ fun x hx => h x (List.mem_cons_of_mem _ hx)
  exact this ps 0 h
/-- all phases turned -/
def turned (p : List Int) (t : Int) : List Int := p.map fun x => (x + t) % 360
/-- all phases, seen from the first -/
def based (p : List Int) : List Int := p.map fun x => (x - pAt p 0) % 360
theorem turned_at {p : List Int} {t : Int} {j : Nat} (h : j < p.length) : pAt (turned p t) j = (pAt p j + t) % 360 := by
  simp [turned, pAt, h]
theorem based_at {p : List Int} {j : Nat} (h : j < p.length) : pAt (based p) j = (pAt p j - pAt p 0) % 360 := by
  have h0 : 0 < p.length := by omega
  simp [based, pAt, h, h0]
theorem turned_phs (p : List Int) (t : Int) : phsB (turned p t) = true := by
  unfold phsB turned
  rw [List.all_eq_true]
  intro x hx
  obtain ⟨y, _, rfl⟩ := List.mem_map.1 hx
  simp; omega
theorem rest_turned {N : Nat} {l m : VL} {p : List Int} (t : Int) (h : srB (N : Int) l m p = true) : srF (N : Int) l m (turned p t) = srF (N : Int) l m p := by
  obtain ⟨h1, h2, h3, h4⟩ := srB_parts h
  obtain ⟨N', e, g1, g2, _, _⟩ := visB_parts h1
  have hb : srB (N : Int) l m (turned p t) = true := by
    simp only [srB, Bool.and_eq_true, decide_eq_true_eq]
    exact ⟨⟨⟨h1, h2⟩, by simp only [turned, List.length_map]; exact h3⟩, turned_phs _ _⟩
  have e1 : rstL N l m (turned p t) (bp N) = rstL N l m p (bp N) := by
    refine rstL_congr _ fun x hx => ?_
    obtain ⟨i, j⟩ := x
    obtain ⟨hij, hj⟩ := bp_mem (by omega) hx
    simp only [rst]
    rw [turned_at (by omega), turned_at (by omega)]
    congr 1
    omega
  simp [srF, h, hb, e1]
theorem rest_zero {N : Nat} {l m : VL} {p : List Int} (h : srB (N : Int) l m p = true) : (srF (N : Int) l m p = 0) ↔ (spB (N : Int) l m = true ∧ spL (N : Int) l m = based p) := by
  obtain ⟨h1, h2, h3, h4⟩ := srB_parts h
  obtain ⟨N', e, g1, g2, _, _⟩ := visB_parts h1
  obtain rfl : N' = N := by omega
  have hp : p.length = N' := by omega
  have hs : srF (N' : Int) l m p = rstL N' l m p (bp N') := by simp [srF, h]
  rw [hs, rst_fit g2]
  have hbl : (based p).length = N' := by simp [based, hp]
  constructor
  · intro hf
    have hf' := so_fit hf
    have hb : spB (N' : Int) l m = true := by
      simp only [spB, Bool.and_eq_true, decide_eq_true_eq, Int.toNat_natCast]
      exact ⟨⟨h1, h2⟩, (rst_fit g2).2 hf'⟩
    refine ⟨hb, ?_⟩
    simp only [spL, hb, if_true, Int.toNat_natCast]
    refine List.ext_getElem? fun j => ?_
    by_cases hj : j < N'
    · rw [some_pAt (l := soL N' l m N') (by rw [soL_length]; exact hj), some_pAt (l := based p) (by rw [hbl]; exact hj), soL_at hj, based_at (by rw [hp]; exact hj)]
      congr 1
      unfold soT
      split
      · next h0 => subst h0; simp
      · next h0 =>
        have := fit_iff.1 hf 0 j (by omega) hj (bAt0_allF _ _)
        omega
    · rw [List.getElem?_eq_none (by rw [soL_length]; omega), List.getElem?_eq_none (by rw [hbl]; omega)]
  · rintro ⟨hb, hl⟩
    obtain ⟨N2, e2, _, _, _, _, _, _, hso, hf⟩ := spB_yes hb
    obtain rfl : N2 = N' := by omega
    rw [← hso, hl] at hf
    rw [fit_iff] at hf ⊢
    intro i j hij hj hq
    have := hf i j hij hj hq
    rw [based_at (by omega), based_at (by omega)] at this
    omega
end Go.Proofs.Ytpjglnmnfmibnaa
