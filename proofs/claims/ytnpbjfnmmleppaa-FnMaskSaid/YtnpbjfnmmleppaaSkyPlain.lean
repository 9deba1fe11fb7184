/-
  Skies as lists of sixteen numbers: shifts, sums, folds, peaks. No program in sight.
-/
import Derived.Test.YtnpbjfnmmleppaaBase
namespace Go.Proofs.Ytnpbjfnmmleppaa

/-- sixteen numbers by their index -/
def mk16 (f : Nat → Int) : List Int := (List.range 16).map f
theorem mk16_length (f : Nat → Int) : (mk16 f).length = 16 := by simp [mk16]
theorem mk16_at {f : Nat → Int} {k : Nat} (h : k < 16) : (mk16 f)[k]? = some (f k) := by simp [mk16, h]
theorem mk16_ext {f g : Nat → Int} (h : ∀ j, j < 16 → f j = g j) : mk16 f = mk16 g := by
  unfold mk16
  apply List.map_congr_left
  intro j hj
  exact h j (by simpa using hj)
theorem mk16_set (f : Nat → Int) (k : Nat) (v : Int) : (mk16 f).set k v = mk16 (fun j => if j = k then v else f j) := by
  apply List.ext_getElem?
  intro j
  by_cases hj : j < 16
  · rw [mk16_at hj]
    by_cases hk : j = k
    · subst hk
      rw [List.getElem?_set_self (by rw [mk16_length]; exact hj)]
      simp
    · rw [List.getElem?_set_ne (Ne.symm hk), mk16_at hj, if_neg hk]
  · rw [List.getElem?_eq_none (by simp [mk16_length]; omega), List.getElem?_eq_none (by simp [mk16_length]; omega)]
/-- the number at a place -/
def at0 (s : List Int) (k : Nat) : Int := s.getD k 0
theorem at0_some {s : List Int} {k : Nat} {x : Int} (h : s[k]? = some x) : at0 s k = x := by simp [at0, List.getD, h]
theorem some_at0 {s : List Int} {k : Nat} (h : k < s.length) : s[k]? = some (at0 s k) := by simp [at0, List.getD, List.getElem?_eq_getElem h]
theorem at0_mk16 {f : Nat → Int} {k : Nat} (h : k < 16) : at0 (mk16 f) k = f k := at0_some (mk16_at h)
theorem mk16_of {s : List Int} (h : s.length = 16) : s = mk16 (at0 s) := by
  apply List.ext_getElem?
  intro j
  by_cases hj : j < 16
  · rw [mk16_at hj, some_at0 (by omega)]
  · rw [List.getElem?_eq_none (by omega), List.getElem?_eq_none (by simp [mk16_length]; omega)]
theorem mk16_inj {f g : Nat → Int} (h : mk16 f = mk16 g) {j : Nat} (hj : j < 16) : f j = g j := by
  have := congrArg (at0 · j) h
  simpa only [at0_mk16 hj] using this
theorem eq_mk16 {s : List Int} {f : Nat → Int} (h : s.length = 16) (k : ∀ j, j < 16 → at0 s j = f j) : s = mk16 f := by
  rw [mk16_of h]; exact mk16_ext k
theorem ext16i {s t : List Int} (h : s.length = 16) (h' : t.length = 16) (k : ∀ j, j < 16 → at0 s j = at0 t j) : s = t := by
  rw [mk16_of h, mk16_of h']; exact mk16_ext k
theorem at0_set {s : List Int} {k j : Nat} {v : Int} (hk : k < s.length) : at0 (s.set k v) j = if j = k then v else at0 s j := by
  unfold at0 List.getD
  by_cases h : j = k
  · subst h; simp [hk]
  · rw [List.getElem?_set_ne (Ne.symm h), if_neg h]

/-! ### cells of the square -/
def cadd (k l : Nat) : Nat := 4 * ((k / 4 + l / 4) % 4) + (k % 4 + l % 4) % 4
def csub (k l : Nat) : Nat := 4 * ((k / 4 + 4 - l / 4 % 4) % 4) + (k % 4 + 4 - l % 4) % 4
theorem cadd_lt (k l : Nat) : cadd k l < 16 := by unfold cadd; omega
theorem csub_lt (k l : Nat) : csub k l < 16 := by unfold csub; omega
theorem cadd_csub : ∀ k, k < 16 → ∀ l, l < 16 → cadd l (csub k l) = k := by decide +kernel
theorem csub_cadd : ∀ k, k < 16 → ∀ l, l < 16 → csub (cadd l k) l = k := by decide +kernel
theorem csub_self : ∀ k, k < 16 → csub k k = 0 := by decide
theorem csub_zero : ∀ k, k < 16 → csub k 0 = k := by decide
theorem csub_eq_iff {k l j : Nat} (hk : k < 16) (hl : l < 16) (hj : j < 16) : csub k l = j ↔ k = cadd l j := by
  constructor
  · rintro rfl; exact (cadd_csub k hk l hl).symm
  · rintro rfl; exact csub_cadd j hj l hl

/-! ### sums -/
def sumTo (f : Nat → Int) : Nat → Int
  | 0 => 0
  | n + 1 => sumTo f n + f n
theorem sumTo_congr {f g : Nat → Int} {n : Nat} (h : ∀ j, j < n → f j = g j) : sumTo f n = sumTo g n := by
  induction n with
  | zero => rfl
  | succ n ih => simp only [sumTo]; rw [ih (fun j hj => h j (by omega)), h n (by omega)]
theorem sumTo_add (f g : Nat → Int) (n : Nat) : sumTo (fun j => f j + g j) n = sumTo f n + sumTo g n := by
  induction n with
  | zero => rfl
  | succ n ih => simp only [sumTo]; rw [ih]; omega
theorem sumTo_mul (c : Int) (f : Nat → Int) (n : Nat) : sumTo (fun j => c * f j) n = c * sumTo f n := by
  induction n with
  | zero => simp [sumTo]
  | succ n ih => simp only [sumTo]; rw [ih, Int.mul_add]
theorem sumTo_zero (n : Nat) : sumTo (fun _ => 0) n = 0 := by
  induction n with
  | zero => rfl
  | succ n ih => simp [sumTo, ih]
theorem sumTo_one (k : Nat) (x : Int) (n : Nat) : sumTo (fun j => if j = k then x else 0) n = if k < n then x else 0 := by
  induction n with
  | zero => simp [sumTo]
  | succ n ih =>
    simp only [sumTo]
    rw [ih]
    by_cases h : k < n
    · rw [if_pos h, if_neg (by omega), if_pos (by omega)]; omega
    · by_cases e : n = k
      · subst e; simp
      · rw [if_neg h, if_neg e, if_neg (by omega)]; rfl
theorem sumTo_swap (f : Nat → Nat → Int) (n m : Nat) : sumTo (fun i => sumTo (fun j => f i j) m) n = sumTo (fun j => sumTo (fun i => f i j) n) m := by
  induction n with
  | zero => simp only [sumTo]; rw [sumTo_zero]
  | succ n ih => simp only [sumTo]; rw [ih, sumTo_add]
theorem sumTo_le {f : Nat → Int} {M : Int} {n : Nat} (h : ∀ j, j < n → -M ≤ f j ∧ f j ≤ M) : -(M * n) ≤ sumTo f n ∧ sumTo f n ≤ M * n := by
  induction n with
  | zero => simp [sumTo]
  | succ n ih =>
    have h1 := ih (fun j hj => h j (by omega))
    have h2 := h n (by omega)
    have e : M * ((n + 1 : Nat) : Int) = M * n + M := by rw [Int.natCast_add, Int.mul_add]; simp
    simp only [sumTo]
    rw [e]
    omega
theorem sumTo_nonneg {f : Nat → Int} {n : Nat} (h : ∀ j, j < n → 0 ≤ f j) : 0 ≤ sumTo f n := by
  induction n with
  | zero => simp [sumTo]
  | succ n ih => have := ih (fun j hj => h j (by omega)); have := h n (by omega); simp only [sumTo]; omega
/-- one place changed -/
theorem sumTo_set {f : Nat → Int} {n k : Nat} (hk : k < n) (v : Int) : sumTo (fun j => if j = k then v else f j) n = sumTo f n - f k + v := by
  have e : ∀ j, (if j = k then v else f j) = f j + (if j = k then v - f k else 0) := by
    intro j
    by_cases h : j = k
    · subst h; simp; omega
    · simp [h]
  rw [sumTo_congr (fun j _ => e j), sumTo_add, sumTo_one, if_pos hk]
  omega
theorem csub_count : ∀ j, j < 16 → ∀ a, a < 16 → sumTo (fun k => if csub k a = j then 1 else 0) 16 = 1 := by decide +kernel
/-- a sum over all cells does not know a shift -/
theorem sumTo_shift (f : Nat → Int) {a : Nat} (ha : a < 16) : sumTo (fun k => f (csub k a)) 16 = sumTo f 16 := by
  have e1 : ∀ k, k < 16 → f (csub k a) = sumTo (fun j => if j = csub k a then f (csub k a) else 0) 16 := by
    intro k _
    rw [sumTo_one, if_pos (csub_lt _ _)]
  rw [sumTo_congr e1, sumTo_swap]
  apply sumTo_congr
  intro j hj
  have e2 : ∀ k, k < 16 → (if j = csub k a then f (csub k a) else 0) = f j * (if csub k a = j then 1 else 0) := by
    intro k _
    by_cases h : csub k a = j
    · rw [if_pos h, if_pos h.symm, h]; omega
    · rw [if_neg h, if_neg (fun e => h e.symm)]; omega
  rw [sumTo_congr e2, sumTo_mul, csub_count j hj a ha]
  omega

/-! ### what the functions compute -/
def zero16 : List Int := mk16 fun _ => 0
theorem zero16_length : zero16.length = 16 := mk16_length _
theorem zero16_rep : List.replicate 16 (0 : Int) = zero16 := by unfold zero16 mk16; rfl
def addL (a b : List Int) (t : Int) : List Int := mk16 fun k => at0 a k + t * at0 b k
def shL (s : List Int) (a : Nat) : List Int := mk16 fun k => at0 s (csub k a)
def foldTo (a b : List Int) (n : Nat) : List Int := mk16 fun k => sumTo (fun j => at0 a j * at0 b (csub k j)) n
def foldL (a b : List Int) : List Int := foldTo a b 16
def sumL (a : List Int) : Int := sumTo (at0 a) 16
theorem addL_at {a b : List Int} {t : Int} {k : Nat} (h : k < 16) : (addL a b t)[k]? = some (at0 a k + t * at0 b k) := mk16_at h
theorem shL_at {a : List Int} {p k : Nat} (h : k < 16) : (shL a p)[k]? = some (at0 a (csub k p)) := mk16_at h
theorem addL_length (a b : List Int) (t : Int) : (addL a b t).length = 16 := mk16_length _
theorem shL_length (s : List Int) (a : Nat) : (shL s a).length = 16 := mk16_length _
theorem foldTo_length (a b : List Int) (n : Nat) : (foldTo a b n).length = 16 := mk16_length _
theorem foldL_length (a b : List Int) : (foldL a b).length = 16 := mk16_length _
theorem foldTo_zero (a b : List Int) : foldTo a b 0 = zero16 := rfl
theorem foldTo_succ (a b : List Int) (n : Nat) : foldTo a b (n + 1) = addL (foldTo a b n) (shL b n) (at0 a n) := by
  unfold addL
  apply mk16_ext
  intro k hk
  unfold foldTo shL
  rw [at0_mk16 hk, at0_mk16 hk]
  rfl
/-- the first k cells moved -/
def shTo (s : List Int) (a : Nat) : Nat → List Int
  | 0 => zero16
  | k + 1 => (shTo s a k).set (cadd k a) (at0 s k)
theorem shTo_length (s : List Int) (a k : Nat) : (shTo s a k).length = 16 := by
  induction k with
  | zero => exact zero16_length
  | succ k ih => simp [shTo, ih]
theorem cadd_comm (k l : Nat) : cadd k l = cadd l k := by unfold cadd; omega
theorem shTo_eq (s : List Int) {a : Nat} (ha : a < 16) (k : Nat) (hk : k ≤ 16) : shTo s a k = mk16 fun j => if csub j a < k then at0 s (csub j a) else 0 := by
  induction k with
  | zero => unfold shTo zero16; apply mk16_ext; intro j _; simp
  | succ k ih =>
    simp only [shTo]
    rw [ih (by omega), mk16_set]
    apply mk16_ext
    intro j hj
    have h1 := csub_eq_iff hj ha (show k < 16 by omega)
    rw [cadd_comm]
    by_cases e : csub j a = k
    · rw [if_pos (h1.1 e), if_pos (by omega), e]
    · rw [if_neg (fun h => e (h1.2 h))]
      by_cases h : csub j a < k
      · rw [if_pos h, if_pos (by omega)]
      · rw [if_neg h, if_neg (by omega)]
theorem shTo_end (s : List Int) {a : Nat} (ha : a < 16) : shTo s a 16 = shL s a := by
  rw [shTo_eq s ha 16 (Nat.le_refl _)]
  apply mk16_ext
  intro j _
  rw [if_pos (csub_lt _ _)]
/-- the fold, cell by cell of both skies -/
def fold2 (a b : List Int) (k : Nat) : Nat → List Int
  | 0 => foldTo a b k
  | l + 1 => (fold2 a b k l).set (cadd k l) (at0 (fold2 a b k l) (cadd k l) + at0 a k * at0 b l)
theorem fold2_length (a b : List Int) (k l : Nat) : (fold2 a b k l).length = 16 := by
  induction l with
  | zero => exact foldTo_length _ _ _
  | succ l ih => simp [fold2, ih]
theorem fold2_eq (a b : List Int) {k : Nat} (hk : k < 16) (l : Nat) (hl : l ≤ 16) : fold2 a b k l = mk16 fun j => at0 (foldTo a b k) j + if csub j k < l then at0 a k * at0 b (csub j k) else 0 := by
  induction l with
  | zero =>
    simp only [fold2]
    apply eq_mk16 (foldTo_length _ _ _)
    intro j _
    simp
  | succ l ih =>
    simp only [fold2]
    rw [ih (by omega), mk16_set]
    apply mk16_ext
    intro j hj
    have h1 := csub_eq_iff hj hk (show l < 16 by omega)
    rw [at0_mk16 (cadd_lt _ _)]
    by_cases e : csub j k = l
    · have ej := h1.1 e
      rw [if_pos ej, ← ej, e]
      simp
    · rw [if_neg (fun h => e (h1.2 h))]
      by_cases h : csub j k < l
      · rw [if_pos h, if_pos (by omega)]
      · rw [if_neg h, if_neg (by omega)]
theorem fold2_end (a b : List Int) {k : Nat} (hk : k < 16) : fold2 a b k 16 = foldTo a b (k + 1) := by
  rw [fold2_eq a b hk 16 (Nat.le_refl _)]
  apply mk16_ext
  intro j hj
  rw [if_pos (csub_lt _ _)]
  unfold foldTo
  rw [at0_mk16 hj]
  rfl

/-! ### the peak -/
def pkTo (l : List Int) : Nat → Nat
  | 0 => 0
  | k + 1 => if at0 l (pkTo l k) < at0 l k then k else pkTo l k
def pk (l : List Int) : Nat := pkTo l 16
theorem pkTo_lt (l : List Int) (k : Nat) (hk : 0 < k) : pkTo l k < k := by
  induction k with
  | zero => omega
  | succ k ih =>
    simp only [pkTo]
    split
    · omega
    · by_cases h : k = 0
      · subst h; simp [pkTo]
      · have := ih (by omega); omega
theorem pk_lt (l : List Int) : pk l < 16 := pkTo_lt l 16 (by omega)
theorem pkTo_max (l : List Int) (k : Nat) : ∀ j, j < k → at0 l j ≤ at0 l (pkTo l k) ∧ (j < pkTo l k → at0 l j < at0 l (pkTo l k)) := by
  induction k with
  | zero => intro j hj; omega
  | succ k ih =>
    intro j hj
    simp only [pkTo]
    split
    · next h =>
      by_cases e : j = k
      · subst e; exact ⟨Int.le_refl _, fun h => by omega⟩
      · have := ih j (by omega); exact ⟨by omega, fun _ => by omega⟩
    · next h =>
      by_cases e : j = k
      · subst e
        refine ⟨by omega, fun h2 => ?_⟩
        by_cases h0 : j = 0
        · subst h0; simp [pkTo] at h2
        · have := pkTo_lt l j (by omega); omega
      · exact ih j (by omega)
def top (l : List Int) : Int := at0 l (pk l)
theorem le_top (l : List Int) {j : Nat} (hj : j < 16) : at0 l j ≤ top l := (pkTo_max l 16 j hj).1
theorem lt_top (l : List Int) {j : Nat} (hj : j < pk l) : at0 l j < top l := (pkTo_max l 16 j (by have := pk_lt l; omega)).2 hj
def topTo (l : List Int) (k : Nat) : Int := at0 l (pkTo l k)
theorem topTo_one (l : List Int) : topTo l 1 = at0 l 0 := by simp [topTo, pkTo]
theorem topTo_succ (l : List Int) (k : Nat) : topTo l (k + 1) = if topTo l k < at0 l k then at0 l k else topTo l k := by
  unfold topTo
  simp only [pkTo]
  split <;> rfl
end Go.Proofs.Ytnpbjfnmmleppaa
