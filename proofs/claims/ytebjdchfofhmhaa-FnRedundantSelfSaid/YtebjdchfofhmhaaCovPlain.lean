/-
  Coverages as lists of bools: what the functions of the program and of the reference compute, and the laws about it. No program in sight.
-/
import Derived.Test.YtebjdchfofhmhaaBase
namespace Go.Proofs.Ytebjdchfofhmhaa

/-- The cell with the opposite coordinates; the cell a quarter turn on; a cell moved. -/
def opp (j : Nat) : Nat := 4 * ((4 - j / 4) % 4) + (4 - j % 4) % 4
theorem opp_lt (j : Nat) : opp j < 16 := by unfold opp; omega
def quarter (j : Nat) : Nat := 4 * (j % 4) + (4 - j / 4) % 4
theorem quarter_lt (j : Nat) : quarter j < 16 := by unfold quarter; omega
/-! ### the plain functions -/
def cvTo (bs : List Bool) (k : Nat) : Prop := ∀ j, j < k → bs[j]? = bs[opp j]?
def cvB (bs : List Bool) : Bool := decide (bs.length = 16) && (List.range 16).all fun j => decide (bs[j]? = bs[opp j]?)
theorem cvB_true {bs : List Bool} (h : bs.length = 16) (hk : cvTo bs 16) : cvB bs = true := by
  simp [cvB, h]; intro j hj; exact hk j hj
theorem cvB_false {bs : List Bool} {k : Nat} (hk : k < 16) (h : bs[k]? ≠ bs[opp k]?) : cvB bs = false := by
  simp [cvB]; intro _; exact ⟨k, hk, h⟩
theorem cvB_len {bs : List Bool} (h : bs.length ≠ 16) : cvB bs = false := by simp [cvB, h]
theorem cvB_16 {bs : List Bool} (h : cvB bs = true) : bs.length = 16 := by simp [cvB] at h; exact h.1
theorem cvB_to {bs : List Bool} (h : cvB bs = true) : cvTo bs 16 := by simp [cvB] at h; exact fun j hj => h.2 j hj
theorem cvTo_succ {bs : List Bool} {k : Nat} (h : cvTo bs k) (e : bs[k]? = bs[opp k]?) : cvTo bs (k + 1) := by
  intro j hj
  by_cases hjk : j = k
  · subst hjk; exact e
  · exact h j (by omega)

/-- how many of the first k cells are set -/
def countTo (bs : List Bool) (k : Nat) : Nat := ((bs.take k).filter id).length
theorem countTo_le (bs : List Bool) (k : Nat) : countTo bs k ≤ k := by
  unfold countTo
  have h1 := List.length_filter_le id (bs.take k)
  have h2 := List.length_take_le k bs
  omega
theorem countTo_succ {bs : List Bool} {k : Nat} {b : Bool} (h : bs[k]? = some b) : countTo bs (k + 1) = countTo bs k + if b then 1 else 0 := by
  unfold countTo
  rw [take_snoc_of h, List.filter_append]
  cases b <;> simp
def covMany (bs : List Bool) : Int := if cvB bs then (countTo bs 16 : Int) else -1

/-! ### the results -/
def zeros16 : List Bool := List.replicate 16 false
def covHoles (bs : List Bool) : List Bool := if cvB bs then bs.map (!·) else []
def covJoin (a b : List Bool) : List Bool := if cvB a && cvB b then List.zipWith (· || ·) a b else []
/-- what has been turned when the first k cells are done -/
def turnTo (bs : List Bool) : Nat → List Bool
  | 0 => zeros16
  | k + 1 => (turnTo bs k).set (quarter k) (bs.getD k false)
def covTurn (bs : List Bool) : List Bool := if cvB bs then turnTo bs 16 else []
theorem turnTo_length (bs : List Bool) (k : Nat) : (turnTo bs k).length = 16 := by
  induction k with
  | zero => simp [turnTo, zeros16]
  | succ k ih => simp [turnTo, ih]
theorem turnTo_succ {bs : List Bool} {k : Nat} {b : Bool} (h : bs[k]? = some b) : turnTo bs (k + 1) = (turnTo bs k).set (quarter k) b := by
  simp [turnTo, List.getD, h]

theorem covHoles_length (bs : List Bool) : (covHoles bs).length ≤ 16 := by
  unfold covHoles
  split
  · next h => simp [cvB_16 h]
  · simp
theorem covTurn_length (bs : List Bool) : (covTurn bs).length ≤ 16 := by
  unfold covTurn
  split
  · simp [turnTo_length]
  · simp
theorem covJoin_length (a b : List Bool) : (covJoin a b).length ≤ 16 := by
  unfold covJoin
  split
  · next h =>
    simp only [Bool.and_eq_true] at h
    simp [cvB_16 h.1, cvB_16 h.2]
  · simp


/-! ### the laws -/
theorem cvB_mk {bs : List Bool} (h : bs.length = 16) (k : ∀ j, j < 16 → bs[j]? = bs[opp j]?) : cvB bs = true := cvB_true h k
theorem opp_opp : ∀ j, j < 16 → opp (opp j) = j := by decide
theorem quarter_inj {i j : Nat} (hi : i < 16) (hj : j < 16) (h : quarter i = quarter j) : i = j := by
  unfold quarter at h; omega
/-- where a cell comes from under a quarter turn -/
def back (j : Nat) : Nat := 4 * ((4 - j % 4) % 4) + j / 4
theorem quarter_back : ∀ j, j < 16 → quarter (back j) = j := by decide
theorem back_lt : ∀ j, j < 16 → back j < 16 := by decide

theorem turnTo_at {bs : List Bool} (hl : bs.length = 16) (k : Nat) (hk : k ≤ 16) : ∀ j, j < k → (turnTo bs k)[quarter j]? = bs[j]? := by
  induction k with
  | zero => intro j hj; omega
  | succ k ih =>
    intro j hj
    obtain ⟨b, hb⟩ := at_of_lt (l := bs) (k := k) (by omega)
    rw [turnTo_succ hb]
    by_cases hjk : j = k
    · subst hjk
      rw [List.getElem?_set_self (by rw [turnTo_length]; exact quarter_lt j), hb]
    · rw [List.getElem?_set_ne (fun e => hjk (quarter_inj (by omega) (by omega) e.symm))]
      exact ih (by omega) j (by omega)
theorem turn_at {bs : List Bool} (h : cvB bs = true) (j : Nat) (hj : j < 16) : (covTurn bs)[j]? = bs[back j]? := by
  have := turnTo_at (cvB_16 h) 16 (Nat.le_refl _) (back j) (back_lt j hj)
  rw [quarter_back j hj] at this
  simpa [covTurn, h] using this
theorem turn_len {bs : List Bool} (h : cvB bs = true) : (covTurn bs).length = 16 := by simp [covTurn, h, turnTo_length]
theorem holes_at {bs : List Bool} (h : cvB bs = true) (j : Nat) : (covHoles bs)[j]? = (bs[j]?).map (!·) := by simp [covHoles, h]
theorem holes_len {bs : List Bool} (h : cvB bs = true) : (covHoles bs).length = 16 := by simp [covHoles, h, cvB_16 h]
theorem join_len {a b : List Bool} (ha : cvB a = true) (hb : cvB b = true) : (covJoin a b).length = 16 := by simp [covJoin, ha, hb, cvB_16 ha, cvB_16 hb]
theorem join_get {a b : List Bool} (ha : cvB a = true) (hb : cvB b = true) {j : Nat} (hj : j < 16) : ∃ x y, a[j]? = some x ∧ b[j]? = some y ∧ (covJoin a b)[j]? = some (x || y) := by
  obtain ⟨x, hx⟩ := at_of_lt (l := a) (k := j) (by rw [cvB_16 ha]; exact hj)
  obtain ⟨y, hy⟩ := at_of_lt (l := b) (k := j) (by rw [cvB_16 hb]; exact hj)
  exact ⟨x, y, hx, hy, by simp [covJoin, ha, hb, List.getElem?_zipWith, hx, hy]⟩
theorem join_eq {a b : List Bool} (ha : cvB a = true) (hb : cvB b = true) {j : Nat} {x y : Bool} (hx : a[j]? = some x) (hy : b[j]? = some y) : (covJoin a b)[j]? = some (x || y) := by
  simp [covJoin, ha, hb, List.getElem?_zipWith, hx, hy]
/-- lists of 16 are equal if their places are -/
theorem ext16 {a b : List Bool} (ha : a.length = 16) (hb : b.length = 16) (h : ∀ j, j < 16 → a[j]? = b[j]?) : a = b := by
  apply List.ext_getElem?
  intro j
  rcases Nat.lt_or_ge j 16 with hj | hj
  · exact h j hj
  · rw [List.getElem?_eq_none (by omega), List.getElem?_eq_none (by omega)]

theorem cvB_holes {b : List Bool} (h : cvB b = true) : cvB (covHoles b) = true :=
  cvB_mk (holes_len h) fun j hj => by rw [holes_at h, holes_at h, cvB_to h j hj]
theorem holes_holes {b : List Bool} (h : cvB b = true) : covHoles (covHoles b) = b :=
  ext16 (holes_len (cvB_holes h)) (cvB_16 h) fun j hj => by
    rw [holes_at (cvB_holes h), holes_at h]
    obtain ⟨x, hx⟩ := at_of_lt (l := b) (k := j) (by rw [cvB_16 h]; exact hj)
    simp [hx]
theorem back_opp : ∀ j, j < 16 → back (opp j) = opp (back j) := by decide
theorem back_back : ∀ j, j < 16 → back (back j) = opp j := by decide
theorem cvB_turn {b : List Bool} (h : cvB b = true) : cvB (covTurn b) = true :=
  cvB_mk (turn_len h) fun j hj => by
    rw [turn_at h j hj, turn_at h (opp j) (opp_lt j), back_opp j hj, cvB_to h (back j) (back_lt j hj)]
theorem turn_turn {b : List Bool} (h : cvB b = true) : covTurn (covTurn b) = b :=
  ext16 (turn_len (cvB_turn h)) (cvB_16 h) fun j hj => by
    rw [turn_at (cvB_turn h) j hj, turn_at h _ (back_lt j hj), back_back j hj, ← cvB_to h j hj]
theorem cvB_join {a b : List Bool} (ha : cvB a = true) (hb : cvB b = true) : cvB (covJoin a b) = true :=
  cvB_mk (join_len ha hb) fun j hj => by
    obtain ⟨x, y, hx, hy, hj'⟩ := join_get ha hb hj
    rw [hj', join_eq ha hb (by rw [← cvB_to ha j hj]; exact hx) (by rw [← cvB_to hb j hj]; exact hy)]
theorem join_comm {a b : List Bool} (ha : cvB a = true) (hb : cvB b = true) : covJoin b a = covJoin a b :=
  ext16 (join_len hb ha) (join_len ha hb) fun j hj => by
    obtain ⟨x, y, hx, hy, hj'⟩ := join_get ha hb hj
    rw [hj', join_eq hb ha hy hx, Bool.or_comm]
theorem join_self {a : List Bool} (ha : cvB a = true) : covJoin a a = a :=
  ext16 (join_len ha ha) (cvB_16 ha) fun j hj => by
    obtain ⟨x, y, hx, hy, hj'⟩ := join_get ha ha hj
    rw [hj', hx]
    rw [hx] at hy
    cases hy
    simp
theorem join_assoc {a b c : List Bool} (ha : cvB a = true) (hb : cvB b = true) (hc : cvB c = true) : covJoin (covJoin a b) c = covJoin a (covJoin b c) :=
  ext16 (join_len (cvB_join ha hb) hc) (join_len ha (cvB_join hb hc)) fun j hj => by
    obtain ⟨x, y, hx, hy, hxy⟩ := join_get ha hb hj
    obtain ⟨y', z, hy', hz, hyz⟩ := join_get hb hc hj
    rw [hy] at hy'
    cases hy'
    rw [join_eq (cvB_join ha hb) hc hxy hz, join_eq ha (cvB_join hb hc) hx hyz, Bool.or_assoc]
theorem turn_join {a b : List Bool} (ha : cvB a = true) (hb : cvB b = true) : covTurn (covJoin a b) = covJoin (covTurn a) (covTurn b) :=
  ext16 (turn_len (cvB_join ha hb)) (join_len (cvB_turn ha) (cvB_turn hb)) fun j hj => by
    obtain ⟨x, y, hx, hy, hj'⟩ := join_get ha hb (back_lt j hj)
    rw [turn_at (cvB_join ha hb) j hj, hj', join_eq (cvB_turn ha) (cvB_turn hb) (by rw [turn_at ha j hj]; exact hx) (by rw [turn_at hb j hj]; exact hy)]
theorem holes_get {a : List Bool} (ha : cvB a = true) {j : Nat} {x : Bool} (hx : a[j]? = some x) : (covHoles a)[j]? = some (!x) := by rw [holes_at ha, hx]; rfl
def full16 : List Bool := List.replicate 16 true
theorem full16_length : full16.length = 16 := by simp [full16]
theorem full16_at {j : Nat} (h : j < 16) : full16[j]? = some true := by unfold full16; rw [List.getElem?_replicate, if_pos h]
theorem join_holes_full {a b : List Bool} (ha : cvB a = true) (hb : cvB b = true) : covJoin (covJoin a b) (covHoles a) = full16 :=
  ext16 (join_len (cvB_join ha hb) (cvB_holes ha)) full16_length fun j hj => by
    obtain ⟨x, y, hx, hy, hxy⟩ := join_get ha hb hj
    rw [join_eq (cvB_join ha hb) (cvB_holes ha) hxy (holes_get ha hx), full16_at hj]
    cases x <;> cases y <;> rfl
theorem join_holes_each {a b : List Bool} (ha : cvB a = true) (hb : cvB b = true) : covJoin (covHoles (covJoin a b)) (covHoles a) = covHoles a :=
  ext16 (join_len (cvB_holes (cvB_join ha hb)) (cvB_holes ha)) (holes_len ha) fun j hj => by
    obtain ⟨x, y, hx, hy, hxy⟩ := join_get ha hb hj
    rw [join_eq (cvB_holes (cvB_join ha hb)) (cvB_holes ha) (holes_get (cvB_join ha hb) hxy) (holes_get ha hx), holes_get ha hx]
    cases x <;> cases y <;> rfl
theorem turn_holes {a : List Bool} (ha : cvB a = true) : covHoles (covTurn a) = covTurn (covHoles a) :=
  ext16 (holes_len (cvB_turn ha)) (turn_len (cvB_holes ha)) fun j hj => by
    rw [holes_at (cvB_turn ha), turn_at ha j hj, turn_at (cvB_holes ha) j hj, holes_at ha]
theorem join_holes_self {a : List Bool} (ha : cvB a = true) : covJoin a (covHoles a) = full16 := by
  have := join_holes_full ha ha
  rwa [join_self ha] at this

/-! ### counting -/
theorem covMany_eq {b : List Bool} (h : cvB b = true) : covMany b = (countTo b 16 : Int) := by simp [covMany, h]
theorem count_holes_to {b : List Bool} (h : cvB b = true) (k : Nat) (hk : k ≤ 16) : countTo b k + countTo (covHoles b) k = k := by
  induction k with
  | zero => simp [countTo]
  | succ k ih =>
    obtain ⟨x, hx⟩ := at_of_lt (l := b) (k := k) (by rw [cvB_16 h]; omega)
    have := ih (by omega)
    rw [countTo_succ hx, countTo_succ (holes_get h hx)]
    cases x <;> simp <;> omega
theorem many_holes {b : List Bool} (h : cvB b = true) : covMany b + covMany (covHoles b) = 16 := by
  rw [covMany_eq h, covMany_eq (cvB_holes h)]
  have := count_holes_to h 16 (Nat.le_refl _)
  omega
theorem count_join_to {a b : List Bool} (ha : cvB a = true) (hb : cvB b = true) (k : Nat) (hk : k ≤ 16) :
    countTo a k ≤ countTo (covJoin a b) k ∧ countTo b k ≤ countTo (covJoin a b) k ∧ countTo (covJoin a b) k ≤ countTo a k + countTo b k := by
  induction k with
  | zero => simp [countTo]
  | succ k ih =>
    obtain ⟨x, y, hx, hy, hxy⟩ := join_get ha hb (j := k) (by omega)
    have := ih (by omega)
    rw [countTo_succ hx, countTo_succ hy, countTo_succ hxy]
    cases x <;> cases y <;> simp <;> omega
theorem many_join {a b : List Bool} (ha : cvB a = true) (hb : cvB b = true) :
    covMany a ≤ covMany (covJoin a b) ∧ covMany b ≤ covMany (covJoin a b) ∧ covMany (covJoin a b) ≤ covMany a + covMany b := by
  rw [covMany_eq ha, covMany_eq hb, covMany_eq (cvB_join ha hb)]
  have := count_join_to ha hb 16 (Nat.le_refl _)
  omega
theorem covMany_range {b : List Bool} (h : cvB b = true) : 0 ≤ covMany b ∧ covMany b ≤ 16 := by
  rw [covMany_eq h]
  have := countTo_le b 16
  omega
theorem eq_map_get {b : List Bool} (h : b.length = 16) : b = (List.range 16).map (fun i => b.getD i false) :=
  ext16 h (by simp) fun j hj => by
    obtain ⟨x, hx⟩ := at_of_lt (l := b) (k := j) (by omega)
    simp [hj, hx, List.getD]
theorem turn_map {b : List Bool} (h : cvB b = true) : covTurn b = ((List.range 16).map back).map (fun i => b.getD i false) :=
  ext16 (turn_len h) (by simp) fun j hj => by
    rw [turn_at h j hj]
    obtain ⟨x, hx⟩ := at_of_lt (l := b) (k := back j) (by rw [cvB_16 h]; exact back_lt j hj)
    simp [hj, hx, List.getD]
theorem count_all {b : List Bool} (h : b.length = 16) : countTo b 16 = (b.filter id).length := by
  unfold countTo; rw [List.take_of_length_le (by omega)]
theorem many_turn {b : List Bool} (h : cvB b = true) : covMany (covTurn b) = covMany b := by
  rw [covMany_eq h, covMany_eq (cvB_turn h), count_all (turn_len h), count_all (cvB_16 h), turn_map h]
  have hp : ((List.range 16).map back).Perm (List.range 16) := by decide
  have := ((hp.map (fun i => b.getD i false)).filter id).length_eq
  rw [this, ← eq_map_get (cvB_16 h)]

/-! ### one cell changed; one cell left out -/
theorem drop_invalid {b : List Bool} (h : cvB b = true) : cvB (b.drop 1) = false := cvB_len (by simp [cvB_16 h])
theorem flip_valid {b : List Bool} (h : cvB b = true) {k : Nat} (hk : k < 16) {x : Bool} (hx : b[k]? = some x) : cvB (b.set k (!x)) = decide (k = opp k) := by
  by_cases he : k = opp k
  · rw [decide_eq_true he]
    refine cvB_mk (by simp [cvB_16 h]) fun j hj => ?_
    by_cases hjk : j = k
    · subst hjk; rw [← he]
    · have hne : opp j ≠ k := fun e => hjk (by rw [← opp_opp j hj, e, ← he])
      rw [List.getElem?_set_ne (Ne.symm hjk), List.getElem?_set_ne (Ne.symm hne)]
      exact cvB_to h j hj
  · rw [decide_eq_false he]
    refine cvB_false hk ?_
    rw [List.getElem?_set_self (by rw [cvB_16 h]; exact hk), List.getElem?_set_ne he, ← cvB_to h k hk, hx]
    simp
end Go.Proofs.Ytebjdchfofhmhaa
