/-
  Contracts of CoverJoin and CoverTurn of the program.
-/
import Derived.Test.YtnpbjfnmmleppaaCovB
namespace Go.Proofs.Ytnpbjfnmmleppaa
open Go.RowKit

theorem join_at {a b : List Bool} {k : Nat} {x y : Bool} (h : a[k]? = some x) (h' : b[k]? = some y) : (List.zipWith (· || ·) a b)[k]? = some (x || y) := by
  rw [List.getElem?_zipWith, h, h']

end Go.Proofs.Ytnpbjfnmmleppaa
