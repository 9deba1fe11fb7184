/-
  Groups of linked antennas, found by joining: the least antenna of each group, the number of groups, and that a net without loops can be solved. No program in sight.
-/
import Derived.Test.YtpjglnmnfmibnabSolPlainB
namespace Go.Proofs.Ytpjglnmnfmibnab

theorem snoc_ind {α : Type} {P : List α → Prop} (h0 : P []) (h1 : ∀ l x, P l → P (l ++ [x])) (l : List α) : P l := by
  rw [← List.reverse_reverse l]
  generalize l.reverse = r
  induction r with
  | nil => exact h0
  | cons x t ih => rw [List.reverse_cons]; exact h1 _ _ ih
section
variable {E E' : Nat → Nat → Prop} {f : Nat → Nat} {i j : Nat}
/-- f gives the least antenna that is linked -/
def Least (E : Nat → Nat → Prop) (f : Nat → Nat) : Prop := ∀ v, Lk E (f v) v ∧ Root E (f v)
def Sy (E : Nat → Nat → Prop) : Prop := ∀ u v, E u v → E v u
theorem lk_symm (N : Sy E) {u v : Nat} (h : Lk E u v) : Lk E v u := by
  induction h with
  | refl => exact .refl _
  | step _ e ih => exact Lk.trans (Lk.step (.refl _) (N _ _ e)) ih
theorem lk_mono (h : ∀ u v, E u v → E' u v) {u v : Nat} (k : Lk E u v) : Lk E' u v := by
  induction k with
  | refl => exact .refl _
  | step _ e ih => exact ih.step (h _ _ e)
theorem Least.le (h : Least E f) (v : Nat) : f v ≤ v := (h v).2 v (h v).1
theorem Least.eq (N : Sy E) (h : Least E f) {u v : Nat} (k : Lk E u v) : f u = f v := by
  have a := (h u).2 _ (((h u).1.trans k).trans (lk_symm N (h v).1))
  have b := (h v).2 _ (((h v).1.trans (lk_symm N k)).trans (lk_symm N (h u).1))
  omega
theorem Least.idem (N : Sy E) (h : Least E f) (v : Nat) : f (f v) = f v := h.eq N (h v).1
/-- two groups are joined -/
def fJ (f : Nat → Nat) (i j : Nat) : Nat → Nat := fun v => if f v = max (f i) (f j) then min (f i) (f j) else f v
/-- one link more -/
def Plus (E E' : Nat → Nat → Prop) (i j : Nat) : Prop := ∀ u v, E' u v ↔ E u v ∨ (u = i ∧ v = j) ∨ (u = j ∧ v = i)
theorem Plus.sy (N : Sy E) (h : Plus E E' i j) : Sy E' := fun u v e => by
  rcases (h u v).1 e with e | ⟨rfl, rfl⟩ | ⟨rfl, rfl⟩
  · exact (h v u).2 (.inl (N _ _ e))
  · exact (h _ _).2 (.inr (.inr ⟨rfl, rfl⟩))
  · exact (h _ _).2 (.inr (.inl ⟨rfl, rfl⟩))
theorem fJ_lk (N : Sy E) (h : Least E f) (p : Plus E E' i j) {u v : Nat} (k : Lk E' u v) : fJ f i j u = fJ f i j v := by
  induction k with
  | refl => rfl
  | step _ e ih =>
    rw [ih]
    rcases (p _ _).1 e with e | ⟨rfl, rfl⟩ | ⟨rfl, rfl⟩
    · unfold fJ; rw [h.eq N (.step (.refl _) e)]
    · unfold fJ; split <;> split <;> omega
    · unfold fJ; split <;> split <;> omega
theorem Least.join (N : Sy E) (h : Least E f) (p : Plus E E' i j) : Least E' (fJ f i j) := by
  have up : ∀ u v, E u v → E' u v := fun u v e => (p u v).2 (.inl e)
  have eij : E' i j := (p _ _).2 (.inr (.inl ⟨rfl, rfl⟩))
  have N' := p.sy N
  have hi := lk_mono up (h i).1
  have hj := lk_mono up (h j).1
  have hlink : Lk E' (f i) (f j) := (hi.step eij).trans (lk_symm N' hj)
  have hlk : ∀ v, Lk E' (fJ f i j v) v := fun v => by
    have hv := lk_mono up (h v).1
    unfold fJ
    split
    · next e =>
      rcases Nat.le_total (f i) (f j) with hle | hle
      · rw [Nat.min_eq_left hle]
        rw [Nat.max_eq_right hle] at e
        rw [e] at hv
        exact hlink.trans hv
      · rw [Nat.min_eq_right hle]
        rw [Nat.max_eq_left hle] at e
        rw [e] at hv
        exact (lk_symm N' hlink).trans hv
    · exact hv
  have hle : ∀ w, fJ f i j w ≤ w := fun w => by
    have := h.le w
    unfold fJ
    split <;> omega
  have hid : ∀ v, fJ f i j (fJ f i j v) = fJ f i j v := fun v => (fJ_lk N h p (hlk v))
  refine fun v => ⟨hlk v, fun w hw => ?_⟩
  have a := fJ_lk N h p hw
  rw [hid] at a
  rw [a]
  exact hle w
/-- how many groups there are -/
def grp (f : Nat → Nat) (n : Nat) : Nat := cntF (fun v => decide (f v = v)) n
theorem cntF_off {a b : Nat → Bool} {k n : Nat} (hk : k < n) (h1 : a k = true) (h2 : b k = false) (h : ∀ v, v ≠ k → a v = b v) : cntF a n = cntF b n + 1 := by
  have e : a = upd b k true := by
    funext v
    by_cases e : v = k
    · subst e; rw [upd_same, h1]
    · rw [upd_ne e, h v e]
  rw [e]
  exact cntF_upd h2 hk
theorem grp_join {n : Nat} (N : Sy E) (h : Least E f) (hi : i < n) (hj : j < n) (hne : f i ≠ f j) : grp f n = grp (fJ f i j) n + 1 := by
  have ii := h.idem N i
  have ij := h.idem N j
  have li := h.le i
  have lj := h.le j
  refine cntF_off (k := max (f i) (f j)) (by omega) ?_ ?_ fun v hv => ?_
  · rcases Nat.le_total (f i) (f j) with hle | hle
    · rw [Nat.max_eq_right hle]; simpa using ij
    · rw [Nat.max_eq_left hle]; simpa using ii
  · have : f (max (f i) (f j)) = max (f i) (f j) := by
      rcases Nat.le_total (f i) (f j) with hle | hle
      · rw [Nat.max_eq_right hle]; exact ij
      · rw [Nat.max_eq_left hle]; exact ii
    simp only [fJ, this, if_true, decide_eq_false_iff_not]
    omega
  · have hmin : f (min (f i) (f j)) = min (f i) (f j) := by
      rcases Nat.le_total (f i) (f j) with hle | hle
      · rw [Nat.min_eq_left hle]; exact ii
      · rw [Nat.min_eq_right hle]; exact ij
    by_cases e : f v = max (f i) (f j)
    · have h1 : f v ≠ v := fun e2 => hv (by omega)
      have h2 : min (f i) (f j) ≠ v := fun e2 => by rw [e2] at hmin; omega
      simp only [fJ, e, if_true]
      rw [decide_eq_false (by omega), decide_eq_false h2]
    · simp only [fJ, e, if_false]
theorem fJ_same (h : f i = f j) : fJ f i j = f := by
  funext v
  unfold fJ
  split <;> omega
/-- two groups joined can be solved where each could be -/
theorem fit_join {t : Nat → Nat → Int} (N : Sy E) (h : Least E f) (p : Plus E E' i j) (hne : f i ≠ f j) (ha : (t i j + t j i) % 360 = 0) {q : Nat → Int} (hq : Fit E t q) : ∃ q', Fit E' t q' := by
  refine ⟨fun v => if f v = f j then q v + (q i + t i j - q j) else q v, fun u v e => ?_⟩
  rcases (p u v).1 e with e | ⟨rfl, rfl⟩ | ⟨rfl, rfl⟩
  · have a := h.eq N (.step (.refl _) e)
    have b := hq u v e
    simp only [a]
    split <;> omega
  · simp only [hne, if_false, if_true]
    omega
  · simp only [hne, if_false, if_true]
    omega
end
/-! ### all baselines in turn -/
def flF (N : Nat) (fl : List Bool) (ps : List (Nat × Nat)) : Nat → Nat := ps.foldl (fun f p => if bAt0 fl (bIx N p.1 p.2) then f else fJ f p.1 p.2) id
def edP (N : Nat) (fl : List Bool) (ps : List (Nat × Nat)) (u v : Nat) : Prop := ∃ p ∈ ps, bAt0 fl (bIx N p.1 p.2) = false ∧ ((u = p.1 ∧ v = p.2) ∨ (u = p.2 ∧ v = p.1))
def edC (N : Nat) (fl : List Bool) (ps : List (Nat × Nat)) : Nat := ps.countP fun p => !bAt0 fl (bIx N p.1 p.2)
theorem flF_snoc (N : Nat) (fl : List Bool) (ps : List (Nat × Nat)) (p : Nat × Nat) : flF N fl (ps ++ [p]) = if bAt0 fl (bIx N p.1 p.2) then flF N fl ps else fJ (flF N fl ps) p.1 p.2 := by
  simp [flF, List.foldl_append]
theorem edC_snoc (N : Nat) (fl : List Bool) (ps : List (Nat × Nat)) (p : Nat × Nat) : edC N fl (ps ++ [p]) = edC N fl ps + if bAt0 fl (bIx N p.1 p.2) then 0 else 1 := by
  unfold edC
  rw [List.countP_append]
  congr 1
  rcases hb : bAt0 fl (bIx N p.1 p.2) with _ | _ <;> simp [hb]
theorem edP_sy (N : Nat) (fl : List Bool) (ps : List (Nat × Nat)) : Sy (edP N fl ps) := fun u v ⟨p, h1, h2, h3⟩ => ⟨p, h1, h2, by omega⟩
theorem edP_off {N : Nat} {fl : List Bool} {ps : List (Nat × Nat)} {p : Nat × Nat} (h : bAt0 fl (bIx N p.1 p.2) = true) : edP N fl (ps ++ [p]) = edP N fl ps := by
  funext u v
  refine propext ⟨fun ⟨r, h1, h2, h3⟩ => ?_, fun ⟨r, h1, h2, h3⟩ => ⟨r, by simp [h1], h2, h3⟩⟩
  rw [List.mem_append, List.mem_singleton] at h1
  rcases h1 with h1 | rfl
  · exact ⟨r, h1, h2, h3⟩
  · rw [h] at h2; cases h2
theorem edP_on {N : Nat} {fl : List Bool} {ps : List (Nat × Nat)} {p : Nat × Nat} (h : bAt0 fl (bIx N p.1 p.2) = false) : Plus (edP N fl ps) (edP N fl (ps ++ [p])) p.1 p.2 := fun u v => by
  constructor
  · rintro ⟨r, h1, h2, h3⟩
    rw [List.mem_append, List.mem_singleton] at h1
    rcases h1 with h1 | rfl
    · exact .inl ⟨r, h1, h2, h3⟩
    · exact .inr h3
  · rintro (⟨r, h1, h2, h3⟩ | h3)
    · exact ⟨r, by simp [h1], h2, h3⟩
    · exact ⟨p, by simp, h, h3⟩
theorem flF_least (N : Nat) (fl : List Bool) (ps : List (Nat × Nat)) : Least (edP N fl ps) (flF N fl ps) := by
  refine snoc_ind (P := fun ps => Least (edP N fl ps) (flF N fl ps)) ?_ (fun ps p ih => ?_) ps
  ·
    refine fun v => ⟨.refl v, fun w hw => ?_⟩
    have : ∀ u w, Lk (edP N fl []) u w → u = w := fun u w h => by
      induction h with
      | refl => rfl
      | step _ e _ => obtain ⟨p, h, _⟩ := e; cases h
    exact Nat.le_of_eq (this _ _ hw)
  ·
    rw [flF_snoc]
    rcases hb : bAt0 fl (bIx N p.1 p.2) with _ | _
    · rw [if_neg (by simp)]
      exact ih.join (edP_sy _ _ _) (edP_on hb)
    · rw [if_pos rfl, edP_off hb]
      exact ih
theorem edP_all {N : Nat} (hN : N < 8) (fl : List Bool) : edP N fl (bp N) = Eg N fl := by
  funext u v
  refine propext ⟨?_, ?_⟩
  · rintro ⟨⟨i, j⟩, h1, h2, h3⟩
    obtain ⟨a, b⟩ := bp_mem hN h1
    rcases h3 with ⟨rfl, rfl⟩ | ⟨rfl, rfl⟩
    · exact ⟨by omega, b, by omega, by unfold bAt; rw [if_neg (by omega)]; exact h2⟩
    · exact ⟨b, by omega, by omega, by unfold bAt; rw [if_pos (by omega)]; exact h2⟩
  · rintro ⟨h1, h2, h3, h4⟩
    rcases Nat.lt_or_gt_of_ne h3 with h | h
    · exact ⟨(u, v), mem_bp hN h h2, by unfold bAt at h4; rw [if_neg (by omega)] at h4; exact h4, .inl ⟨rfl, rfl⟩⟩
    · exact ⟨(v, u), mem_bp hN h h1, by unfold bAt at h4; rw [if_pos (by omega)] at h4; exact h4, .inr ⟨rfl, rfl⟩⟩
theorem cntF_true {a : Nat → Bool} (n : Nat) (h : ∀ v, v < n → a v = true) : cntF a n = n := by
  induction n with
  | zero => rfl
  | succ n ih => simp only [cntF]; rw [ih (fun v hv => h v (by omega)), h n (by omega)]; simp
/-- links and groups together are at least the antennas; where they are just as many, there is no loop, and all can be solved -/
theorem tree_inv {N : Nat} (fl : List Bool) {t : Nat → Nat → Int} (ha : ∀ i j, i ≠ j → (t i j + t j i) % 360 = 0) : ∀ ps : List (Nat × Nat), (∀ p ∈ ps, p.1 < p.2 ∧ p.2 < N) →
    N ≤ edC N fl ps + grp (flF N fl ps) N ∧ (edC N fl ps + grp (flF N fl ps) N = N → ∃ q, Fit (edP N fl ps) t q) := by
  refine snoc_ind ?_ fun ps p ih => ?_
  · intro _
    have : grp (flF N fl []) N = N := cntF_true N fun v _ => by simp [flF]
    refine ⟨by omega, fun _ => ⟨fun _ => 0, fun u v ⟨p, h, _⟩ => by cases h⟩⟩
  · intro h
    have ih' := ih fun p hp => h p (by simp [hp])
    obtain ⟨h1, h2⟩ := h p (by simp)
    rw [edC_snoc, flF_snoc]
    rcases hb : bAt0 fl (bIx N p.1 p.2) with _ | _
    · simp only [Bool.false_eq_true, if_false]
      by_cases e : flF N fl ps p.1 = flF N fl ps p.2
      · rw [fJ_same e]
        exact ⟨by omega, fun e2 => by omega⟩
      · have hg := grp_join (n := N) (edP_sy N fl ps) (flF_least N fl ps) (i := p.1) (j := p.2) (by omega) h2 e
        refine ⟨by omega, fun e2 => ?_⟩
        obtain ⟨q, hq⟩ := ih'.2 (by omega)
        exact fit_join (edP_sy N fl ps) (flF_least N fl ps) (edP_on hb) e (ha _ _ (by omega)) hq
    · simp only [if_true, Nat.add_zero]
      rw [edP_off hb]
      exact ih'
theorem edC_all {N : Nat} (hN : N < 8) {fl : List Bool} (hl : fl.length = nb N) : edC N fl (bp N) = fl.countP (fun b => !b) := by
  have e : (bp N).map (fun p => bAt0 fl (bIx N p.1 p.2)) = fl := by
    apply List.ext_getElem?
    intro k
    by_cases hk : k < nb N
    · obtain ⟨i, j, e, _, _, hx⟩ := bp_inv hN hk
      rw [List.getElem?_map, e]
      simp only [Option.map_some]
      rw [hx, some_bAt0 (by omega)]
    · rw [List.getElem?_eq_none (by rw [List.length_map, bp_length N hN]; omega), List.getElem?_eq_none (by omega)]
  unfold edC
  conv => rhs; rw [← e]
  rw [List.countP_map]
  rfl
def flL (N : Nat) (fl : List Bool) (ps : List (Nat × Nat)) : List Int := (List.range N).map fun v => ((flF N fl ps v : Nat) : Int)
theorem flL_length (N : Nat) (fl : List Bool) (ps : List (Nat × Nat)) : (flL N fl ps).length = N := by simp [flL]
theorem flL_at {N : Nat} {fl : List Bool} {ps : List (Nat × Nat)} {v : Nat} (h : v < N) : (flL N fl ps)[v]? = some ((flF N fl ps v : Nat) : Int) := by simp [flL, h]
theorem flF_lt {N : Nat} {fl : List Bool} {ps : List (Nat × Nat)} {v : Nat} (h : v < N) : flF N fl ps v < N := Nat.lt_of_le_of_lt ((flF_least N fl ps).le v) h
end Go.Proofs.Ytpjglnmnfmibnab
