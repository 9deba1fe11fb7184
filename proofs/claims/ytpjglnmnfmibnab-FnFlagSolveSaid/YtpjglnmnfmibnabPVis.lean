/-
  Contracts of the laws' own helpers over lists of Vis: toVisS, eqVisS, markVisS, heldVisS, szVisS, sameVis.
-/
import Derived.Test.YtpjglnmnfmibnabPairs
import Derived.Test.YtpjglnmnfmibnabProg
import Derived.Deep.QuietTactic
import Derived.BigQuiet
import Derived.Deep.RegionHeld3
namespace Go.Proofs.Ytpjglnmnfmibnab
open Go.RowKit

theorem Vis.info : (Try.prog.info? 30).map (fun i => (i.zero, i.size, i.bytes)) = some (some (.agg #[.int .i64 0, .int .i64 0]), 2, 16) := by kernel_rfl


def eqToVis (a b : List (Int × Int)) (k : Nat) : Prop := ∀ j, j < k → a[j]? = b[j]?
theorem eqToVis_succ {a b : List (Int × Int)} {k : Nat} (h : eqToVis a b k) (e : a[k]? = b[k]?) : eqToVis a b (k + 1) := by
  intro j hj
  by_cases hjk : j = k
  · subst hjk; exact e
  · exact h j (by omega)
theorem eqToVis_all {a b : List (Int × Int)} {n : Nat} (h : eqToVis a b n) (h1 : a.length = n) (h2 : b.length = n) : a = b := by
  apply List.ext_getElem?
  intro j
  rcases Nat.lt_or_ge j n with hj | hj
  · exact h j hj
  · rw [List.getElem?_eq_none (by omega), List.getElem?_eq_none (by omega)]
/-- what markVisS lays: n pairs, the first with the number k -/
def marksVis (k : Int) (n : Nat) : List (Int × Int) := (List.range n).map fun i : Nat => (k + 2 * (i : Int), k + 2 * (i : Int) + 1)
theorem marksVis_at {k : Int} {n i : Nat} (h : i < n) : (marksVis k n)[i]? = some (k + 2 * (i : Int), k + 2 * (i : Int) + 1) := by simp [marksVis, h]
theorem marksVis_length (k : Int) (n : Nat) : (marksVis k n).length = n := by simp [marksVis]
end Go.Proofs.Ytpjglnmnfmibnab
