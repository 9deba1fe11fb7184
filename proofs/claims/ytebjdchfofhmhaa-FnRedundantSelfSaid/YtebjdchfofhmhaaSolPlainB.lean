/-
  Rests, the solution by the baselines of the first antenna, closure phases, gains: in plain numbers. No program in sight.
-/
import Derived.Test.YtebjdchfofhmhaaSolPlain
namespace Go.Proofs.Ytebjdchfofhmhaa

/-! ### the distance of two phases, and rests -/
def near (a b : Int) : Int := if 180 < (a - b) % 360 then 360 - (a - b) % 360 else (a - b) % 360
theorem near_range (a b : Int) : 0 ≤ near a b ∧ near a b ≤ 180 := by unfold near; split <;> omega
theorem near_zero {a b : Int} : near a b = 0 ↔ (a - b) % 360 = 0 := by unfold near; split <;> omega
theorem near_congr {a b c : Int} (h : (b - c) % 360 = 0) : near a b = near a c := by
  have e : (a - b) % 360 = (a - c) % 360 := by omega
  unfold near
  rw [e]
def mxI (a b : Int) : Int := if a < b then b else a
/-- the term of a baseline -/
def rst (n : Nat) (l m : VL) (ph : List Int) (p : Nat × Nat) : Int := near (vPh l (bIx n p.1 p.2)) ((vPh m (bIx n p.1 p.2) + pAt ph p.2 - pAt ph p.1) % 360)
def rstL (n : Nat) (l m : VL) (ph : List Int) (ps : List (Nat × Nat)) : Int := ps.foldl (fun r p => mxI r (rst n l m ph p)) 0
theorem rstL_snoc (n : Nat) (l m : VL) (ph : List Int) (ps : List (Nat × Nat)) (p : Nat × Nat) : rstL n l m ph (ps ++ [p]) = mxI (rstL n l m ph ps) (rst n l m ph p) := by simp [rstL]
theorem foldl_mx (f : Nat × Nat → Int) (h : ∀ p, 0 ≤ f p ∧ f p ≤ 180) : ∀ (ps : List (Nat × Nat)) (r : Int), 0 ≤ r → r ≤ 180 → (0 ≤ ps.foldl (fun r p => mxI r (f p)) r ∧ ps.foldl (fun r p => mxI r (f p)) r ≤ 180) ∧ (ps.foldl (fun r p => mxI r (f p)) r = 0 ↔ r = 0 ∧ ∀ p ∈ ps, f p = 0)
  | [], r, h1, h2 => by simp; omega
  | p :: ps, r, h1, h2 => by
    have hp := h p
    have hm : 0 ≤ mxI r (f p) ∧ mxI r (f p) ≤ 180 ∧ (mxI r (f p) = 0 ↔ r = 0 ∧ f p = 0) := by unfold mxI; split <;> omega
    have ih := foldl_mx f h ps (mxI r (f p)) hm.1 hm.2.1
    simp only [List.foldl_cons, List.mem_cons, forall_eq_or_imp]
    refine ⟨ih.1, ih.2.trans ?_⟩
    rw [hm.2.2, and_assoc]
theorem rst_range (n : Nat) (l m : VL) (ph : List Int) (p : Nat × Nat) : 0 ≤ rst n l m ph p ∧ rst n l m ph p ≤ 180 := near_range _ _
theorem rstL_range (n : Nat) (l m : VL) (ph : List Int) (ps : List (Nat × Nat)) : 0 ≤ rstL n l m ph ps ∧ rstL n l m ph ps ≤ 180 := (foldl_mx _ (rst_range n l m ph) ps 0 (by omega) (by omega)).1
def phsB (l : List Int) : Bool := l.all fun x => decide (0 ≤ x) && decide (x < 360)
theorem phsB_at {l : List Int} (h : phsB l = true) (k : Nat) : 0 ≤ pAt l k ∧ pAt l k < 360 := by
  by_cases hk : k < l.length
  · have := List.all_eq_true.1 h _ (List.mem_of_getElem? (some_pAt hk))
    simpa using this
  · simp [pAt, List.getElem?_eq_none (Nat.le_of_not_lt hk)]
theorem phsB_mk {l : List Int} (h : ∀ k, k < l.length → 0 ≤ pAt l k ∧ pAt l k < 360) : phsB l = true := by
  refine List.all_eq_true.2 fun x hx => ?_
  obtain ⟨k, hk, rfl⟩ := List.getElem_of_mem hx
  have h1 := h k hk
  have e := some_pAt hk
  rw [List.getElem?_eq_getElem hk, Option.some.injEq] at e
  rw [e]
  simpa using h1
/-- the arguments of a rest are in order -/
def srB (n : Int) (l m : VL) (ph : List Int) : Bool := visB n l && visB n m && decide ((ph.length : Int) = n) && phsB ph
def srF (n : Int) (l m : VL) (ph : List Int) : Int := if srB n l m ph then rstL n.toNat l m ph (bp n.toNat) else -1
theorem srB_parts {n : Int} {l m : VL} {ph : List Int} (h : srB n l m ph = true) : visB n l = true ∧ visB n m = true ∧ (ph.length : Int) = n ∧ phsB ph = true := by
  simp only [srB, Bool.and_eq_true, decide_eq_true_eq] at h
  exact ⟨h.1.1.1, h.1.1.2, h.1.2, h.2⟩
theorem srF_range (n : Int) (l m : VL) (ph : List Int) : -1 ≤ srF n l m ph ∧ srF n l m ph ≤ 180 := by
  unfold srF
  split
  · have := rstL_range n.toNat l m ph (bp n.toNat); omega
  · omega
/-- a rest is 0 just where the phases fit all baselines -/
theorem rst_fit {N : Nat} {l m : VL} {ph : List Int} (h2 : N ≤ 7) : rstL N l m ph (bp N) = 0 ↔ Fit (Eg N (allF (nb N))) (tn N l m) (pAt ph) := by
  rw [fit_iff]
  unfold rstL
  rw [(foldl_mx _ (rst_range N l m ph) (bp N) 0 (by omega) (by omega)).2]
  constructor
  · rintro ⟨_, h⟩ i j hij hj _
    have := h _ (mem_bp (by omega) hij hj)
    unfold rst at this
    rw [near_zero] at this
    simp only at this
    omega
  · intro h
    refine ⟨rfl, fun p hp => ?_⟩
    obtain ⟨i, j⟩ := p
    obtain ⟨h3, h4⟩ := bp_mem (by omega) hp
    have := h i j h3 h4 (bAt0_allF _ _)
    unfold rst
    rw [near_zero]
    simp only
    omega
/-! ### the solution by the baselines of the first antenna -/
def soT (n : Nat) (l m : VL) (j : Nat) : Int := if j = 0 then 0 else (vPh l (bIx n 0 j) - vPh m (bIx n 0 j)) % 360
def soL (n : Nat) (l m : VL) (k : Nat) : List Int := (List.range k).map (soT n l m)
theorem soL_length (n : Nat) (l m : VL) (k : Nat) : (soL n l m k).length = k := by simp [soL]
theorem soL_at {n : Nat} {l m : VL} {k j : Nat} (h : j < k) : pAt (soL n l m k) j = soT n l m j := by simp [soL, pAt, h]
theorem soL_succ (n : Nat) (l m : VL) (k : Nat) : soL n l m (k + 1) = soL n l m k ++ [soT n l m k] := by simp [soL, List.range_succ]
theorem soL_one (n : Nat) (l m : VL) : soL n l m 1 = [0] := rfl
theorem soT_range (n : Nat) (l m : VL) (j : Nat) : 0 ≤ soT n l m j ∧ soT n l m j < 360 := by unfold soT; split <;> omega
theorem soL_phs (n : Nat) (l m : VL) (k : Nat) : phsB (soL n l m k) = true := phsB_mk fun j hj => by
  rw [soL_length] at hj
  rw [soL_at hj]
  exact soT_range n l m j
def spB (n : Int) (l m : VL) : Bool := visB n l && visB n m && decide (rstL n.toNat l m (soL n.toNat l m n.toNat) (bp n.toNat) = 0)
def spL (n : Int) (l m : VL) : List Int := if spB n l m then soL n.toNat l m n.toNat else []
theorem spL_length (n : Int) (l m : VL) : (spL n l m).length ≤ 7 := by
  unfold spL
  split
  · next h =>
    simp only [spB, Bool.and_eq_true] at h
    obtain ⟨N, rfl, _, h2, _⟩ := visB_parts h.1.1
    rw [soL_length]; omega
  · simp
/-- what fits at all fits by the baselines of the first antenna -/
theorem so_fit {N : Nat} {l m : VL} {q : Nat → Int} (h : Fit (Eg N (allF (nb N))) (tn N l m) q) : Fit (Eg N (allF (nb N))) (tn N l m) (pAt (soL N l m N)) := by
  have e : ∀ j, j < N → (pAt (soL N l m N) j - (q j - q 0)) % 360 = 0 := by
    intro j hj
    rw [soL_at hj]
    unfold soT
    split
    · next h0 => subst h0; simp
    · next h0 =>
      have := fit_iff.1 h 0 j (by omega) hj (bAt0_allF _ _)
      omega
  rw [fit_iff] at h ⊢
  intro i j hij hj hf
  have a := h i j hij hj hf
  have b := e i (by omega)
  have c := e j hj
  omega
theorem sp_sol {n : Int} {l m : VL} : FSol n l m (allF (nbI n).toNat) (spL n l m) (spB n l m) := by
  by_cases hv : (visB n l && visB n m) = true
  · have hv' := hv
    simp only [Bool.and_eq_true] at hv'
    obtain ⟨N, rfl, h1, h2, h3, h4⟩ := visB_parts hv'.1
    rw [nbI_nat h1 h2, Int.toNat_natCast]
    refine FSol.of_sol h1 h2 hv'.1 hv'.2 (by simp [allF]) ?_
    by_cases hr : rstL N l m (soL N l m N) (bp N) = 0
    · have hb : spB (N : Int) l m = true := by simp [spB, hv'.1, hv'.2, hr]
      have hl : spL (N : Int) l m = soL N l m N := by simp [spL, hb]
      rw [hb, hl]
      refine .inl ⟨rfl, soL_length _ _ _ _, phsB_at (soL_phs _ _ _ _), (rst_fit h2).1 hr, fun r hr' hR => ?_⟩
      obtain rfl := root_all hr' hR
      rw [soL_at hr']; rfl
    · have hb : spB (N : Int) l m = false := by simp [spB, hr]
      have hl : spL (N : Int) l m = [] := by simp [spL, hb]
      rw [hb, hl]
      exact .inr ⟨rfl, rfl, fun q hq => hr ((rst_fit h2).2 (so_fit hq))⟩
  · have hb : spB n l m = false := by
      simp only [Bool.not_eq_true] at hv
      simp [spB, hv]
    have hl : spL n l m = [] := by simp [spL, hb]
    rw [hb, hl]
    refine FSol.bad ?_
    simp only [Bool.not_eq_true] at hv
    simp [hv]
theorem spB_yes {n : Int} {l m : VL} (h : spB n l m = true) : ∃ N : Nat, n = N ∧ 2 ≤ N ∧ N ≤ 7 ∧ l.length = nb N ∧ m.length = nb N ∧ rgB 1000000 l = true ∧ rgB 1000000 m = true ∧ spL n l m = soL N l m N ∧ Fit (Eg N (allF (nb N))) (tn N l m) (pAt (soL N l m N)) := by
  have h' := h
  simp only [spB, Bool.and_eq_true, decide_eq_true_eq] at h
  obtain ⟨N, rfl, h1, h2, h3, h4⟩ := visB_parts h.1.1
  obtain ⟨N', e, _, _, h5, h6⟩ := visB_parts h.1.2
  obtain rfl : N' = N := by omega
  refine ⟨N', rfl, h1, h2, h3, h5, h4, h6, by simp [spL, h'], (rst_fit h2).1 (by simpa using h.2)⟩
end Go.Proofs.Ytebjdchfofhmhaa
