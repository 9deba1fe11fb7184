/-
  Contracts of CoverMany, CoverHoles, CoverJoin, CoverTurn of the program and of the reference.
-/
import Derived.Test.YtnpbjfnmmleppaaCov
namespace Go.Proofs.Ytnpbjfnmmleppaa
open Go.RowKit

theorem A.infoBool : (Try.prog.info? 4).map (fun i => (i.zero, i.size, i.bytes)) = some (some (.bool false), 1, 1) := by kernel_rfl

theorem make16 (w : World) : (Instr.makeSlice 24 (.int .i64 16) (.int .i64 16)).run Try.prog w = .ok (.slice (some ⟨w.heap.size, 0, none⟩) 16 16) (w.alloc (.cells (madeCells #[.bool false] 16) 4)) :=
  run_make1 (P := Try.prog) 24 4 (.bool false) 1 A.infoBool Try.underlying24 rfl 16 (by omega) (by omega) w

end Go.Proofs.Ytnpbjfnmmleppaa
