/-
  What the laws on cleanings use, in plain numbers: a step that is done, its sums, what fits. No program in sight.
-/
import Derived.Test.YtbafniaohjjacabCleanLaws
import Derived.Test.YtbafniaohjjacabSkyFns
namespace Go.Proofs.Ytbafniaohjjacab
open Go.RowKit

theorem step_yes {m l b : List Int} (h : stB m l b = true) : csM m l b = stM m l b ∧ csL m l b = stL l b ∧ m.length = 16 ∧ l.length = 16 ∧ b.length = 16 := by
  have hg := goB_parts (stB_parts h).1
  exact ⟨by simp [csM, h], by simp [csL, h], svB_16 hg.1, svB_16 hg.2.1, svB_16 hg.2.2.1⟩
theorem step_sums {m l b : List Int} (h : stB m l b = true) : ∃ sa sb sl sm sn X : Int,
    (ssB l = sa ∧ svB l = true) ∧ (ssB (stL l b) = sb ∧ svB (stL l b) = true) ∧ (ssB m = sl ∧ svB m = true) ∧ (ssB (stM m l b) = sm ∧ svB (stM m l b) = true) ∧ (ssB b = sn ∧ svB b = true) ∧
    IntKind.i64.wrap (sa - sb) = X ∧ IntKind.i64.wrap (sm - sl) = sm - sl ∧ IntKind.i64.wrap (sn * (sm - sl)) = X ∧ sl < sm := by
  obtain ⟨hg, h1, h2⟩ := stB_parts h
  obtain ⟨g1, g2, g3, g4, g5⟩ := goB_parts hg
  have hn := stN_le hg
  have a1 := sumL_le g2
  have a2 := sumL_le h2
  have a3 := sumL_le g1
  have a4 := sumL_le h1
  have a5 := sumL_le g3
  have e1 := step_sum_model (m := m) (l := l) (b := b) (svB_16 g1)
  have e2 := step_sum_left (l := l) (b := b)
  have e3 : sumL b * (sumL (stM m l b) - sumL m) = sumL l - sumL (stL l b) := by
    rw [e1, e2, Int.mul_comm (stN l b)]
    have : sumL m + stN l b - sumL m = stN l b := by omega
    rw [this]
    omega
  refine ⟨sumL l, sumL (stL l b), sumL m, sumL (stM m l b), sumL b, sumL l - sumL (stL l b), ⟨by simp [ssB, g2], g2⟩, ⟨by simp [ssB, h2], h2⟩, ⟨by simp [ssB, g1], g1⟩, ⟨by simp [ssB, h1], h1⟩, ⟨by simp [ssB, g3], g3⟩, IntWalk.i64_in _ (by omega), IntWalk.i64_in _ (by omega), ?_, by omega⟩
  rw [e3]
  exact IntWalk.i64_in _ (by omega)
theorem fold_yes {m b : List Int} (h : sfOk m b = true) : sfL m b = foldL m b := by
  simp only [sfOk, Bool.and_eq_true] at h
  simp [sfL, h.1, skyOr_yes h.2]
theorem fold_no {m b : List Int} (h : sfOk m b = false) : sfL m b = [] := by
  unfold sfL
  split
  · next h1 =>
    simp only [sfOk, h1, Bool.true_and] at h
    exact skyOr_no h
  · rfl
theorem add_yes {a b : List Int} {t : Int} (h : saOk a b t = true) : saL a b t = addL a b t ∧ svB (addL a b t) = true := by
  simp only [saOk, Bool.and_eq_true] at h
  exact ⟨by simp [saL, h.1, skyOr_yes h.2], h.2⟩
theorem fits_no {m l b : List Int} (h : ¬ (sfOk m b = true ∧ saOk (sfL m b) l 1 = true)) : sfOk m b = false ∨ saOk (sfL m b) l 1 = false := by
  by_cases h1 : sfOk m b = true
  · exact .inr (by simpa [h1] using h)
  · exact .inl (by simpa using h1)
theorem fit_of {m l b m' l' : List Int} (h : sfOk m b = true ∧ saOk (sfL m b) l 1 = true) (h1 : svB m' = true) (h2 : svB l' = true) (h3 : svB b = true) (h4 : addL (foldL m' b) l' 1 = addL (foldL m b) l 1) : fitB m' l' b (saL (sfL m b) l 1) = true := by
  have e := add_yes h.2
  rw [fold_yes h.1] at e
  rw [fold_yes h.1, e.1]
  exact fitB_mk h1 h2 h3 e.2 h4
theorem step_fits {m l b : List Int} (h : stB m l b = true) (hk : sfOk m b = true ∧ saOk (sfL m b) l 1 = true) : fitB m l b (saL (sfL m b) l 1) = true ∧ fitB (stM m l b) (stL l b) b (saL (sfL m b) l 1) = true := by
  obtain ⟨hg, h1, h2⟩ := stB_parts h
  obtain ⟨g1, g2, g3, g4, g5⟩ := goB_parts hg
  exact ⟨fit_of hk g1 g2 g3 rfl, fit_of hk h1 h2 g3 (step_keeps hg)⟩
theorem step_law {m l b : List Int} (h : stB m l b = true) : cpK m l = (pk l : Int) ∧ cpT m l = top l ∧ (svB m && svB l) = true ∧ (∀ k, k ≠ pk l → at0 (stM m l b) k = at0 m k) ∧
    at0 b 0 ≤ top l ∧ at0 m (pk l) < at0 (stM m l b) (pk l) ∧ 0 ≤ at0 (stL l b) (pk l) ∧ at0 (stL l b) (pk l) < at0 b 0 := by
  obtain ⟨hg, h1, h2⟩ := stB_parts h
  obtain ⟨g1, g2, g3, g4, g5⟩ := goB_parts hg
  have hn := stN_le hg
  refine ⟨by simp [cpK, g1, g2], by simp [cpT, g1, g2], by simp [g1, g2], fun k hk => ?_, g5, ?_, ?_, ?_⟩
  · rw [step_model_at (svB_16 g1), if_neg hk]
  · rw [step_model_at (svB_16 g1), if_pos rfl]; omega
  · rw [step_left]; exact Int.emod_nonneg _ (by omega)
  · rw [step_left]; exact Int.emod_lt_of_pos _ (by omega)
/-! ### runs -/
theorem run_law {m l b : List Int} {K : Nat} (h : crB m l b K = true) : (crM m l b K).length = 16 ∧ (crL m l b K).length = 16 ∧ 0 ≤ crN m l b K ∧ crN m l b K ≤ K ∧
    (crN m l b K < K → stB (crM m l b K) (crL m l b K) b = false) ∧ (crN m l b K = 0 → crM m l b K = m ∧ crL m l b K = l) ∧
    (¬ crN m l b K = 0 → stB m l b = true ∧ crB (stM m l b) (stL l b) b ((K : Int) - 1) = true ∧ crM (stM m l b) (stL l b) b ((K : Int) - 1) = crM m l b K ∧ crL (stM m l b) (stL l b) b ((K : Int) - 1) = crL m l b K ∧ crN (stM m l b) (stL l b) b ((K : Int) - 1) = crN m l b K - 1) := by
  have hv := run_valid h
  have hn := crN_le h
  have e1 : crM m l b K = (runC b K (m, l)).1.1 := by simp [crM, h]
  have e2 : crL m l b K = (runC b K (m, l)).1.2 := by simp [crL, h]
  have e3 : crN m l b K = ((runC b K (m, l)).2 : Int) := by simp [crN, h]
  obtain ⟨s1, s2, s3, s4⟩ := runC_spec b K (m, l)
  refine ⟨svB_16 hv.1, svB_16 hv.2, hn.1, hn.2, fun hlt => ?_, fun h0 => ?_, fun h0 => ?_⟩
  · rw [e3] at hlt
    have := s4 (by omega)
    rw [e1, e2]
    exact this
  · rw [e3] at h0
    have := run_zero (b := b) (k := K) (x := (m, l)) (by omega)
    rw [e1, e2, this]
    exact ⟨rfl, rfl⟩
  · rw [e3] at h0
    obtain ⟨o1, o2⟩ := run_first (b := b) (k := K) (x := (m, l)) (by omega)
    have ho : stB m l b = true := o1
    obtain ⟨hg, g1, g2⟩ := stB_parts ho
    have hp := crB_parts h
    have hK : 0 < K := by omega
    have hb : crB (stM m l b) (stL l b) b ((K : Int) - 1) = true := by
      simp only [crB, g1, g2, hp.2.2.1, Bool.true_and, Bool.and_eq_true, decide_eq_true_eq]
      omega
    have eK : ((K : Int) - 1).toNat = K - 1 := by omega
    have o3 : runC b (K - 1) (stM m l b, stL l b) = ((runC b K (m, l)).1, (runC b K (m, l)).2 - 1) := o2
    refine ⟨ho, hb, ?_, ?_, ?_⟩
    · simp only [crM, hb, if_true, eK, o3]; rw [← e1]; simp [crM, h]
    · simp only [crL, hb, if_true, eK, o3]; rw [← e2]; simp [crL, h]
    · rw [e3]; simp only [crN, hb, if_true, eK, o3]; omega
theorem run_fits {m l b : List Int} {K : Nat} (h : crB m l b K = true) (hk : sfOk m b = true ∧ saOk (sfL m b) l 1 = true) : fitB (crM m l b K) (crL m l b K) b (saL (sfL m b) l 1) = true := by
  have hv := run_valid h
  have e1 : crM m l b K = (runC b K (m, l)).1.1 := by simp [crM, h]
  have e2 : crL m l b K = (runC b K (m, l)).1.2 := by simp [crL, h]
  obtain ⟨s1, s2, s3, s4⟩ := runC_spec b K (m, l)
  refine fit_of hk hv.1 hv.2 (crB_parts h).2.2.1 ?_
  rw [e1, e2, s3]
  exact run_keeps s2
theorem crM_of {m l b : List Int} {k : Int} (h : crB m l b k = true) : crM m l b k = (runC b k.toNat (m, l)).1.1 := if_pos h
theorem crL_of {m l b : List Int} {k : Int} (h : crB m l b k = true) : crL m l b k = (runC b k.toNat (m, l)).1.2 := if_pos h
theorem run_two {m l b : List Int} {K j : Nat} (h : crB m l b K = true) (hj : j ≤ K) : crB m l b j = true ∧ (crM m l b j).length = 16 ∧ (crL m l b j).length = 16 ∧ crB (crM m l b j) (crL m l b j) b ((K : Int) - j) = true ∧
    crM (crM m l b j) (crL m l b j) b ((K : Int) - j) = crM m l b K ∧ crL (crM m l b j) (crL m l b j) b ((K : Int) - j) = crL m l b K ∧ crN m l b j + crN (crM m l b j) (crL m l b j) b ((K : Int) - j) = crN m l b K ∧
    0 ≤ crN m l b j ∧ crN m l b j ≤ 200 ∧ 0 ≤ crN (crM m l b j) (crL m l b j) b ((K : Int) - j) ∧ crN (crM m l b j) (crL m l b j) b ((K : Int) - j) ≤ 200 := by
  have hp := crB_parts h
  have hb1 : crB m l b j = true := by
    simp only [crB, hp.1, hp.2.1, hp.2.2.1, Bool.true_and, Bool.and_eq_true, decide_eq_true_eq]
    omega
  have hv := run_valid hb1
  have hb2 : crB (crM m l b j) (crL m l b j) b ((K : Int) - j) = true := by
    simp only [crB, hv.1, hv.2, hp.2.2.1, Bool.true_and, Bool.and_eq_true, decide_eq_true_eq]
    omega
  have n1 := crN_le hb1
  have n2 := crN_le hb2
  have eK : ((K : Int) - (j : Int)).toNat = K - j := by omega
  have ej : ((j : Int)).toNat = j := by omega
  have e1 : crM m l b j = (runC b j (m, l)).1.1 := by simp [crM, hb1]
  have e2 : crL m l b j = (runC b j (m, l)).1.2 := by simp [crL, hb1]
  have e3 : (crM m l b j, crL m l b j) = (runC b j (m, l)).1 := by rw [e1, e2]
  have hr := run_parts b j (K - j) (m, l)
  rw [show j + (K - j) = K by omega] at hr
  refine ⟨hb1, svB_16 hv.1, svB_16 hv.2, hb2, ?_, ?_, ?_, n1.1, by omega, n2.1, by omega⟩
  · rw [crM_of hb2, eK, e3, crM_of h, Int.toNat_natCast, hr]
  · rw [crL_of hb2, eK, e3, crL_of h, Int.toNat_natCast, hr]
  · have a1 : crN m l b j = ((runC b j (m, l)).2 : Int) := by simp [crN, hb1]
    have a2 : crN m l b K = ((runC b K (m, l)).2 : Int) := by simp [crN, h]
    have a3 : crN (crM m l b j) (crL m l b j) b ((K : Int) - j) = ((runC b (K - j) (runC b j (m, l)).1).2 : Int) := by
      simp only [crN, hb2, if_true, eK]; rw [e3]
    rw [a1, a2, a3, hr]
    simp
/-- what the first k places of a model have grown by -/
def mdTo (a b : List Int) (k : Nat) : Int := sumTo (fun j => at0 b j - at0 a j) k
theorem mdTo_succ (a b : List Int) (k : Nat) : mdTo a b (k + 1) = mdTo a b k + (at0 b k - at0 a k) := rfl
theorem mdTo_end (a b : List Int) : mdTo a b 16 = sumL b - sumL a := by
  unfold mdTo sumL
  have e : ∀ j, j < 16 → at0 b j - at0 a j = at0 b j + -1 * at0 a j := fun j _ => by omega
  rw [sumTo_congr e, sumTo_add, sumTo_mul]
  omega
theorem model_law {m l b : List Int} {K : Nat} (h : crB m l b K = true) : (∀ k, at0 m k ≤ at0 (crM m l b K) k ∧ -100000 ≤ at0 m k ∧ at0 m k ≤ 100000 ∧ -100000 ≤ at0 (crM m l b K) k ∧ at0 (crM m l b K) k ≤ 100000) ∧
    crN m l b K ≤ mdTo m (crM m l b K) 16 ∧ ∀ k, k ≤ 16 → -4000000 ≤ mdTo m (crM m l b K) k ∧ mdTo m (crM m l b K) k ≤ 4000000 := by
  have hv := run_valid h
  have hp := crB_parts h
  have e1 : crM m l b K = (runC b K (m, l)).1.1 := by simp [crM, h]
  have e3 : crN m l b K = ((runC b K (m, l)).2 : Int) := by simp [crN, h]
  obtain ⟨s1, s2, s3, s4⟩ := runC_spec b K (m, l)
  obtain ⟨g1, g2⟩ := run_grows s2
  rw [← s3] at g1 g2
  have hb : ∀ k, at0 m k ≤ at0 (crM m l b K) k ∧ -100000 ≤ at0 m k ∧ at0 m k ≤ 100000 ∧ -100000 ≤ at0 (crM m l b K) k ∧ at0 (crM m l b K) k ≤ 100000 := by
    intro k
    have a1 := svB_at0 hp.1 k
    have a2 := svB_at0 hv.1 k
    have a3 := g1 k
    rw [← e1] at a3
    exact ⟨a3, a1.1, a1.2, a2.1, a2.2⟩
  refine ⟨hb, ?_, fun k hk => ?_⟩
  · rw [mdTo_end, e3, e1]
    have : sumL (m, l).1 = sumL m := rfl
    omega
  · have := sumTo_le (f := fun j => at0 (crM m l b K) j - at0 m j) (M := 200000) (n := k) fun j _ => by have := hb j; omega
    unfold mdTo
    omega
end Go.Proofs.Ytbafniaohjjacab
