/-
  Validity of skies and of Gaussian integers in plain numbers, and the powers of i. No program in sight.
-/
import Derived.Test.YtebjdchfofhmhaaBase
namespace Go.Proofs.Ytebjdchfofhmhaa
/-- the powers of i -/
def ur (k : Int) : Int := if k % 4 = 0 then 1 else if k % 4 = 2 then -1 else 0
def ui (k : Int) : Int := if k % 4 = 1 then 1 else if k % 4 = 3 then -1 else 0
theorem ur_mod (k : Int) : ur (k % 4) = ur k := by unfold ur; simp
theorem ui_mod (k : Int) : ui (k % 4) = ui k := by unfold ui; simp

/-- a product with a power of i -/
def tre (a b k : Int) : Int := a * ur k - b * ui k
def tim (a b k : Int) : Int := a * ui k + b * ur k
theorem unit_cases (k : Int) : (ur k = 1 ∧ ui k = 0) ∨ (ur k = 0 ∧ ui k = 1) ∨ (ur k = -1 ∧ ui k = 0) ∨ (ur k = 0 ∧ ui k = -1) := by
  unfold ur ui
  have h : k % 4 = 0 ∨ k % 4 = 1 ∨ k % 4 = 2 ∨ k % 4 = 3 := by omega
  rcases h with h | h | h | h <;> simp [h]
/-- a number below a bound -/
def inB (l n : Int) : Bool := decide (-l ≤ n ∧ n ≤ l)
def gvB (g : Int × Int) : Bool := inB 1000000000 g.1 && inB 1000000000 g.2
/-- a sky: sixteen numbers within bounds -/
def svB (s : List Int) : Bool := decide (s.length = 16) && s.all (inB 100000)
theorem svB_16 {s : List Int} (h : svB s = true) : s.length = 16 := by simp [svB] at h; exact h.1
theorem svB_len {s : List Int} (h : s.length ≠ 16) : svB s = false := by simp [svB, h]
theorem svB_all {s : List Int} (h : s.length = 16) : svB s = s.all (inB 100000) := by simp [svB, h]
theorem svB_at {s : List Int} (h : svB s = true) {k : Nat} {x : Int} (hx : s[k]? = some x) : -100000 ≤ x ∧ x ≤ 100000 := by
  simp only [svB, Bool.and_eq_true, List.all_eq_true] at h
  have := h.2 x (List.mem_of_getElem? hx)
  simpa [inB] using this
def allTo (l : Int) (s : List Int) (k : Nat) : Prop := ∀ j x, j < k → s[j]? = some x → inB l x = true
theorem allTo_succ {l : Int} {s : List Int} {k : Nat} {x : Int} (h : allTo l s k) (hx : s[k]? = some x) (hi : inB l x = true) : allTo l s (k + 1) := by
  intro j y hj hy
  by_cases hjk : j = k
  · subst hjk; rw [hx] at hy; cases hy; exact hi
  · exact h j y (by omega) hy
theorem allTo_end {l : Int} {s : List Int} {k : Nat} (h : allTo l s k) (hk : s.length ≤ k) : s.all (inB l) = true := by
  rw [List.all_eq_true]
  intro x hx
  obtain ⟨j, hj⟩ := List.mem_iff_getElem?.1 hx
  exact h j x (by have := lt_of_at hj; omega) hj
theorem all_false {l : Int} {s : List Int} {k : Nat} {x : Int} (hx : s[k]? = some x) (hi : inB l x = false) : s.all (inB l) = false := by
  rw [List.all_eq_false]
  exact ⟨x, List.mem_of_getElem? hx, by simp [hi]⟩

end Go.Proofs.Ytebjdchfofhmhaa
