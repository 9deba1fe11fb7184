/-
  Contracts of FlagSolve and SolvePhases of the program: a search by a queue.
-/
import Derived.Test.YtebjdchfofhmhaaQueue
import Derived.Test.YtebjdchfofhmhaaVisV
import Derived.Test.YtebjdchfofhmhaaFlags
import Derived.Deep.RegionHeld3
namespace Go.Proofs.Ytebjdchfofhmhaa
open Go.RowKit
set_option linter.unusedSimpArgs false
set_option linter.unusedVariables false

theorem St.one' {w : World} {g : Nat} {v : Value} {T : TypeId} (h : St w g #[v] T) : w.cell? ⟨g, 0, none⟩ = some v := h.cell 0
theorem fieldV' (a b : Value) (W : World) : (Instr.field 44 (.agg #[a, b]) 1).run Try.prog W = .ok b W := by kernel_rfl
theorem vgP_le {N : Nat} {l : VL} (hN : N < 8) (hl : l.length = nb N) (hr : rgB 1000000 l = true) {i j : Nat} (hi : i < N) (hj : j < N) (h : i ≠ j) : 0 ≤ vgP N l i j ∧ vgP N l i j < 360 := vgP_range hN hl hr hi hj h
end Go.Proofs.Ytebjdchfofhmhaa
