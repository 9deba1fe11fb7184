/-
  Contracts of SkySum, SkyAdd, SkyFold, SkyShift of the program.
-/
import Derived.Test.YtnpbjfnmmleppaaSkyOps
namespace Go.Proofs.Ytnpbjfnmmleppaa
open Go.RowKit

/-- a sky if it is valid -/
def skyOr (s : List Int) : List Int := if svB s then s else []
theorem skyOr_length (s : List Int) : (skyOr s).length ≤ 16 := by
  unfold skyOr
  split
  · next h => rw [svB_16 h]; omega
  · simp
theorem skyOr_yes {s : List Int} (h : svB s = true) : skyOr s = s := by simp [skyOr, h]
theorem skyOr_no {s : List Int} (h : svB s = false) : skyOr s = [] := by simp [skyOr, h]
def ssB (s : List Int) : Int := if svB s then sumL s else 0
theorem sumTo_step (s : List Int) (k : Nat) : sumTo (at0 s) (k + 1) = sumTo (at0 s) k + at0 s k := rfl
def saB (a b : List Int) (t : Int) : Bool := svB a && svB b && decide (-100000 ≤ t ∧ t ≤ 100000)
def saL (a b : List Int) (t : Int) : List Int := if saB a b t then skyOr (addL a b t) else []
def saOk (a b : List Int) (t : Int) : Bool := saB a b t && svB (addL a b t)
theorem saL_length (a b : List Int) (t : Int) : (saL a b t).length ≤ 16 := by
  unfold saL
  split
  · exact skyOr_length _
  · simp
def sfL (a b : List Int) : List Int := if svB a && svB b then skyOr (foldL a b) else []
def sfOk (a b : List Int) : Bool := svB a && svB b && svB (foldL a b)
theorem sfL_length (a b : List Int) : (sfL a b).length ≤ 16 := by
  unfold sfL
  split
  · exact skyOr_length _
  · simp
end Go.Proofs.Ytnpbjfnmmleppaa
