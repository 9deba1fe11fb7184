/-
  Cleaning in plain numbers: a step, a run, what fits; and the laws about them. No program in sight.
-/
import Derived.Test.YtbafniaohjjacabSkyPlain
import Derived.Test.YtbafniaohjjacabSkyVal
namespace Go.Proofs.Ytbafniaohjjacab

theorem svB_at0 {s : List Int} (h : svB s = true) (k : Nat) : -100000 ≤ at0 s k ∧ at0 s k ≤ 100000 := by
  by_cases hk : k < s.length
  · exact svB_at h (some_at0 hk)
  · have : at0 s k = 0 := by simp [at0, List.getD, List.getElem?_eq_none (Nat.le_of_not_lt hk)]
    omega
theorem svB_mk {s : List Int} (h : s.length = 16) (k : ∀ j, j < 16 → -100000 ≤ at0 s j ∧ at0 s j ≤ 100000) : svB s = true := by
  simp only [svB, Bool.and_eq_true, decide_eq_true_eq, List.all_eq_true]
  refine ⟨h, fun x hx => ?_⟩
  obtain ⟨j, hj⟩ := List.mem_iff_getElem?.1 hx
  have := k j (by have := lt_of_at hj; omega)
  rw [at0_some hj] at this
  simpa [inB] using this

/-! ### a step -/
def stN (l b : List Int) : Int := top l / at0 b 0
def stM (m l b : List Int) : List Int := m.set (pk l) (at0 m (pk l) + stN l b)
def stL (l b : List Int) : List Int := addL l (shL b (pk l)) (-stN l b)
/-- the arguments are in order, and there is something to take -/
def goB (m l b : List Int) : Bool := svB m && svB l && svB b && decide (1 ≤ at0 b 0) && decide (at0 b 0 ≤ top l)
def stB (m l b : List Int) : Bool := goB m l b && svB (stM m l b) && svB (stL l b)
theorem goB_parts {m l b : List Int} (h : goB m l b = true) : svB m = true ∧ svB l = true ∧ svB b = true ∧ 1 ≤ at0 b 0 ∧ at0 b 0 ≤ top l := by
  simp only [goB, Bool.and_eq_true, decide_eq_true_eq] at h
  obtain ⟨⟨⟨⟨h1, h2⟩, h3⟩, h4⟩, h5⟩ := h
  exact ⟨h1, h2, h3, h4, h5⟩
theorem stB_parts {m l b : List Int} (h : stB m l b = true) : goB m l b = true ∧ svB (stM m l b) = true ∧ svB (stL l b) = true := by
  simp only [stB, Bool.and_eq_true] at h
  exact ⟨h.1.1, h.1.2, h.2⟩
theorem top_le {l : List Int} (h : svB l = true) : -100000 ≤ top l ∧ top l ≤ 100000 := svB_at0 h _
theorem stN_le {m l b : List Int} (h : goB m l b = true) : 1 ≤ stN l b ∧ stN l b ≤ 100000 := by
  obtain ⟨_, h2, _, h4, h5⟩ := goB_parts h
  have h6 := top_le h2
  unfold stN
  constructor
  · exact (Int.le_ediv_iff_mul_le (by omega)).2 (by omega)
  · have := Int.ediv_le_self (a := top l) (at0 b 0) (by omega); omega
/-- what a step returns -/
def csM (m l b : List Int) : List Int := if stB m l b then stM m l b else []
def csL (m l b : List Int) : List Int := if stB m l b then stL l b else []
theorem stM_length {m l b : List Int} : (stM m l b).length = m.length := by simp [stM]
theorem stL_length {l b : List Int} : (stL l b).length = 16 := addL_length _ _ _
theorem csM_length (m l b : List Int) : (csM m l b).length ≤ 16 := by
  unfold csM
  split
  · next h => rw [stM_length, svB_16 (goB_parts (stB_parts h).1).1]; omega
  · simp
theorem csL_length (m l b : List Int) : (csL m l b).length ≤ 16 := by
  unfold csL
  split
  · rw [stL_length]; omega
  · simp

/-! ### a run -/
abbrev Cl := List Int × List Int
def okC (x : Cl) (b : List Int) : Bool := stB x.1 x.2 b
def nxC (x : Cl) (b : List Int) : Cl := (stM x.1 x.2 b, stL x.2 b)
def itC (b : List Int) : Nat → Cl → Cl
  | 0, x => x
  | j + 1, x => nxC (itC b j x) b
/-- the first k steps can be done -/
def goes (b : List Int) (x : Cl) (k : Nat) : Prop := ∀ i, i < k → okC (itC b i x) b = true
theorem goes_succ {b : List Int} {x : Cl} {k : Nat} (h : goes b x k) (h' : okC (itC b k x) b = true) : goes b x (k + 1) := by
  intro i hi
  by_cases e : i = k
  · subst e; exact h'
  · exact h i (by omega)
def runC (b : List Int) : Nat → Cl → Cl × Nat
  | 0, x => (x, 0)
  | k + 1, x => if okC x b then ((runC b k (nxC x b)).1, (runC b k (nxC x b)).2 + 1) else (x, 0)
theorem itC_front (b : List Int) (j : Nat) (x : Cl) : itC b (j + 1) x = itC b j (nxC x b) := by
  induction j with
  | zero => rfl
  | succ j ih => rw [itC, ih]; rfl
/-- a run tells how far it goes -/
theorem runC_spec (b : List Int) (k : Nat) (x : Cl) : (runC b k x).2 ≤ k ∧ goes b x (runC b k x).2 ∧ (runC b k x).1 = itC b (runC b k x).2 x ∧ ((runC b k x).2 < k → okC (runC b k x).1 b = false) := by
  induction k generalizing x with
  | zero => exact ⟨Nat.le_refl _, fun i hi => by simp [runC] at hi, rfl, fun h => by simp [runC] at h⟩
  | succ k ih =>
    by_cases h : okC x b = true
    · obtain ⟨h1, h2, h3, h4⟩ := ih (nxC x b)
      simp only [runC, h, if_true]
      refine ⟨by omega, ?_, ?_, fun hk => h4 (by omega)⟩
      · intro i hi
        cases i with
        | zero => exact h
        | succ i => rw [itC_front]; exact h2 i (by omega)
      · rw [itC_front]; exact h3
    · simp only [runC, h]
      exact ⟨by simp, fun i hi => by simp at hi, rfl, fun _ => by simpa using h⟩
theorem runC_uniq {b : List Int} {k j : Nat} {x : Cl} (hj : j ≤ k) (h : goes b x j) (hs : j < k → okC (itC b j x) b = false) : runC b k x = (itC b j x, j) := by
  obtain ⟨h1, h2, h3, h4⟩ := runC_spec b k x
  have e : (runC b k x).2 = j := by
    rcases Nat.lt_trichotomy (runC b k x).2 j with a | a | a
    · have := h4 (by omega); rw [h3, h _ a] at this; cases this
    · exact a
    · have := hs (by omega); rw [h2 _ a] at this; cases this
  have e1 : (runC b k x).1 = itC b j x := by rw [h3, e]
  exact Prod.ext e1 e
def crB (m l b : List Int) (k : Int) : Bool := svB m && svB l && svB b && decide (0 ≤ k) && decide (k ≤ 200)
theorem crB_parts {m l b : List Int} {k : Int} (h : crB m l b k = true) : svB m = true ∧ svB l = true ∧ svB b = true ∧ 0 ≤ k ∧ k ≤ 200 := by
  simp only [crB, Bool.and_eq_true, decide_eq_true_eq] at h
  obtain ⟨⟨⟨⟨h1, h2⟩, h3⟩, h4⟩, h5⟩ := h
  exact ⟨h1, h2, h3, h4, h5⟩
theorem crB_range {m l b : List Int} {k : Int} (h : ¬ (0 ≤ k ∧ k ≤ 200)) : crB m l b k = false := by
  by_cases h1 : crB m l b k = true
  · exact absurd ⟨(crB_parts h1).2.2.2.1, (crB_parts h1).2.2.2.2⟩ h
  · simpa using h1
def crM (m l b : List Int) (k : Int) : List Int := if crB m l b k then (runC b k.toNat (m, l)).1.1 else []
def crL (m l b : List Int) (k : Int) : List Int := if crB m l b k then (runC b k.toNat (m, l)).1.2 else []
def crN (m l b : List Int) (k : Int) : Int := if crB m l b k then (runC b k.toNat (m, l)).2 else 0
/-- both skies are valid behind any step that can be done -/
theorem goes_valid {b : List Int} {x : Cl} (h1 : svB x.1 = true) (h2 : svB x.2 = true) {k : Nat} (h : goes b x k) : svB (itC b k x).1 = true ∧ svB (itC b k x).2 = true := by
  cases k with
  | zero => exact ⟨h1, h2⟩
  | succ k =>
    have := stB_parts (h k (by omega))
    exact ⟨this.2.1, this.2.2⟩
theorem run_valid {m l b : List Int} {k : Int} (h : crB m l b k = true) : svB (crM m l b k) = true ∧ svB (crL m l b k) = true := by
  obtain ⟨h1, h2, h3, _⟩ := crB_parts h
  obtain ⟨_, g, e, _⟩ := runC_spec b k.toNat (m, l)
  have := goes_valid (x := (m, l)) h1 h2 g
  unfold crM crL
  rw [if_pos h, if_pos h, e]
  exact this
theorem crM_length (m l b : List Int) (k : Int) : (crM m l b k).length ≤ 16 := by
  by_cases h : crB m l b k = true
  · rw [svB_16 (run_valid h).1]; omega
  · simp [crM, h]
theorem crL_length (m l b : List Int) (k : Int) : (crL m l b k).length ≤ 16 := by
  by_cases h : crB m l b k = true
  · rw [svB_16 (run_valid h).2]; omega
  · simp [crL, h]
theorem crN_le {m l b : List Int} {k : Int} (h : crB m l b k = true) : 0 ≤ crN m l b k ∧ crN m l b k ≤ k := by
  have := (runC_spec b k.toNat (m, l)).1
  have := crB_parts h
  unfold crN
  rw [if_pos h]
  omega

/-! ### what fits -/
def fitB (m l b d : List Int) : Bool := svB m && svB l && svB b && svB d && decide (addL (foldL m b) l 1 = d)
theorem fitB_parts {m l b d : List Int} (h : fitB m l b d = true) : svB m = true ∧ svB l = true ∧ svB b = true ∧ svB d = true ∧ addL (foldL m b) l 1 = d := by
  simp only [fitB, Bool.and_eq_true, decide_eq_true_eq] at h
  obtain ⟨⟨⟨⟨h1, h2⟩, h3⟩, h4⟩, h5⟩ := h
  exact ⟨h1, h2, h3, h4, h5⟩
theorem fitB_mk {m l b d : List Int} (h1 : svB m = true) (h2 : svB l = true) (h3 : svB b = true) (h4 : svB d = true) (h5 : addL (foldL m b) l 1 = d) : fitB m l b d = true := by
  simp [fitB, h1, h2, h3, h4, h5]
/-- the fold behind a step -/
theorem fold_set {m b : List Int} (hm : m.length = 16) {k : Nat} (hk : k < 16) (x : Int) {j : Nat} (hj : j < 16) : at0 (foldL (m.set k (at0 m k + x)) b) j = at0 (foldL m b) j + x * at0 b (csub j k) := by
  unfold foldL foldTo
  rw [at0_mk16 hj, at0_mk16 hj]
  have e : ∀ i, i < 16 → at0 (m.set k (at0 m k + x)) i * at0 b (csub j i) = at0 m i * at0 b (csub j i) + if i = k then x * at0 b (csub j k) else 0 := by
    intro i _
    rw [at0_set (by omega)]
    by_cases h : i = k
    · subst h; simp [Int.add_mul]
    · simp [h]
  rw [sumTo_congr e, sumTo_add, sumTo_one, if_pos hk]
/-- a step keeps the dirty image -/
theorem step_keeps {m l b : List Int} (h : goB m l b = true) : addL (foldL (stM m l b) b) (stL l b) 1 = addL (foldL m b) l 1 := by
  have hm := svB_16 (goB_parts h).1
  apply mk16_ext
  intro j hj
  unfold stM stL addL shL
  rw [fold_set hm (pk_lt l) _ hj, at0_mk16 hj, at0_mk16 hj, Int.neg_mul]
  omega
theorem run_keeps {b : List Int} {x : Cl} {k : Nat} (h : goes b x k) : addL (foldL (itC b k x).1 b) (itC b k x).2 1 = addL (foldL x.1 b) x.2 1 := by
  induction k with
  | zero => rfl
  | succ k ih =>
    rw [← ih (fun i hi => h i (by omega))]
    exact step_keeps (stB_parts (h k (by omega))).1

/-! ### the laws on a step -/
theorem step_left {l b : List Int} : at0 (stL l b) (pk l) = top l % at0 b 0 := by
  unfold stL addL shL
  rw [at0_mk16 (pk_lt l), at0_mk16 (pk_lt l), csub_self _ (pk_lt l)]
  show top l + -stN l b * at0 b 0 = _
  unfold stN
  rw [Int.emod_def, Int.neg_mul, Int.mul_comm]
  omega
theorem step_model_at {m l b : List Int} (hm : m.length = 16) (j : Nat) : at0 (stM m l b) j = if j = pk l then at0 m (pk l) + stN l b else at0 m j := by
  unfold stM
  exact at0_set (by rw [hm]; exact pk_lt l)
theorem step_sum_model {m l b : List Int} (hm : m.length = 16) : sumL (stM m l b) = sumL m + stN l b := by
  unfold sumL
  rw [sumTo_congr (fun j _ => step_model_at hm j), sumTo_set (pk_lt l)]
  omega
theorem step_sum_left {l b : List Int} : sumL (stL l b) = sumL l - stN l b * sumL b := by
  unfold sumL
  have e : ∀ j, j < 16 → at0 (stL l b) j = at0 l j + -stN l b * at0 b (csub j (pk l)) := by
    intro j hj
    unfold stL addL shL
    rw [at0_mk16 hj, at0_mk16 hj]
  rw [sumTo_congr e, sumTo_add, sumTo_mul, sumTo_shift _ (pk_lt l), Int.neg_mul]
  omega
theorem sumL_le {s : List Int} (h : svB s = true) : -1600000 ≤ sumL s ∧ sumL s ≤ 1600000 := by
  have := sumTo_le (n := 16) (M := 100000) fun j (_ : j < 16) => svB_at0 h j
  unfold sumL
  omega
/-- the model only grows, by at least one at each step -/
theorem run_grows {b : List Int} {x : Cl} {k : Nat} (h : goes b x k) : (∀ j, at0 x.1 j ≤ at0 (itC b k x).1 j) ∧ sumL x.1 + k ≤ sumL (itC b k x).1 := by
  induction k with
  | zero => exact ⟨fun _ => Int.le_refl _, by simp [itC]⟩
  | succ k ih =>
    obtain ⟨h1, h2⟩ := ih (fun i hi => h i (by omega))
    have hg := (stB_parts (h k (by omega))).1
    have hn := stN_le hg
    have hm := svB_16 (goB_parts hg).1
    constructor
    · intro j
      show _ ≤ at0 (stM (itC b k x).1 (itC b k x).2 b) j
      rw [step_model_at hm]
      have := h1 j
      split
      · next e => subst e; omega
      · exact this
    · show _ ≤ sumL (stM (itC b k x).1 (itC b k x).2 b)
      rw [step_sum_model hm]
      omega
/-! ### the laws on runs -/
theorem itC_add (b : List Int) (i j : Nat) (x : Cl) : itC b (i + j) x = itC b j (itC b i x) := by
  induction j with
  | zero => rfl
  | succ j ih => rw [← Nat.add_assoc, itC, ih]; rfl
theorem run_parts (b : List Int) (k j : Nat) (x : Cl) : runC b (k + j) x = ((runC b j (runC b k x).1).1, (runC b k x).2 + (runC b j (runC b k x).1).2) := by
  obtain ⟨h1, h2, h3, h4⟩ := runC_spec b k x
  obtain ⟨g1, g2, g3, g4⟩ := runC_spec b j (runC b k x).1
  by_cases hk : (runC b k x).2 = k
  · have e : (runC b j (runC b k x).1).1 = itC b ((runC b k x).2 + (runC b j (runC b k x).1).2) x := by rw [g3, itC_add, ← h3]
    rw [runC_uniq (j := (runC b k x).2 + (runC b j (runC b k x).1).2) (by omega) ?_ ?_, e]
    · intro i hi
      by_cases hi2 : i < (runC b k x).2
      · exact h2 i hi2
      · have e2 : i = (runC b k x).2 + (i - (runC b k x).2) := by omega
        rw [e2, itC_add, ← h3]
        exact g2 _ (by omega)
    · intro hlt
      rw [← e]
      exact g4 (by omega)
  · have hs := h4 (by omega)
    have e : runC b j (runC b k x).1 = ((runC b k x).1, 0) := runC_uniq (j := 0) (by omega) (fun i hi => by omega) (fun _ => hs)
    rw [e]
    rw [runC_uniq (j := (runC b k x).2) (by omega) h2 (fun _ => by rw [← h3]; exact hs), h3]
    rfl
theorem run_first {b : List Int} {k : Nat} {x : Cl} (h : 0 < (runC b k x).2) : okC x b = true ∧ runC b (k - 1) (nxC x b) = ((runC b k x).1, (runC b k x).2 - 1) := by
  cases k with
  | zero => simp [runC] at h
  | succ k =>
    by_cases ho : okC x b = true
    · refine ⟨ho, ?_⟩
      simp [runC, ho]
    · simp [runC, ho] at h
theorem run_zero {b : List Int} {k : Nat} {x : Cl} (h : (runC b k x).2 = 0) : (runC b k x).1 = x := by
  rw [(runC_spec b k x).2.2.1, h]; rfl
end Go.Proofs.Ytbafniaohjjacab
