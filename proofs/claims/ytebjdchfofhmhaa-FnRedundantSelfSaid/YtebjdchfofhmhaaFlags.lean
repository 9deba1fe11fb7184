/-
  Contracts of the laws' own helpers over lists of bools: toBoolS, eqBoolS, markBoolS, heldBoolS, sameFlags, fullCover.
-/
import Derived.Test.YtebjdchfofhmhaaNum
import Derived.Deep.QuietTactic
import Derived.BigQuiet
namespace Go.Proofs.Ytebjdchfofhmhaa
open Go.RowKit

theorem B.infoBool : (Try.prog.info? 4).map (fun i => (i.zero, i.size, i.bytes)) = some (some (.bool false), 1, 1) := by kernel_rfl


def eqTo (a b : List Bool) (k : Nat) : Prop := ∀ j, j < k → a[j]? = b[j]?
theorem eqTo_succ {a b : List Bool} {k : Nat} (h : eqTo a b k) (e : a[k]? = b[k]?) : eqTo a b (k + 1) := by
  intro j hj
  by_cases hjk : j = k
  · subst hjk; exact e
  · exact h j (by omega)
theorem eqTo_all {a b : List Bool} {n : Nat} (h : eqTo a b n) (h1 : a.length = n) (h2 : b.length = n) : a = b := by
  apply List.ext_getElem?
  intro j
  rcases Nat.lt_or_ge j n with hj | hj
  · exact h j hj
  · rw [List.getElem?_eq_none (by omega), List.getElem?_eq_none (by omega)]



/-- what markBoolS lays: n cells, the first with the number k -/
def marksB (k : Int) (n : Nat) : List Bool := (List.range n).map fun i : Nat => ((k + (i : Int)) % 3 == 0)
theorem marksB_at {k : Int} {n i : Nat} (h : i < n) : (marksB k n)[i]? = some ((k + (i : Int)) % 3 == 0) := by simp [marksB, h]
theorem marksB_length (k : Int) (n : Nat) : (marksB k n).length = n := by simp [marksB]

end Go.Proofs.Ytebjdchfofhmhaa
