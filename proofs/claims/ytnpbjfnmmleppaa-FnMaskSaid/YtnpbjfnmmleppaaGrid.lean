/-
  Contracts over grids (lists of Gaussian integers): realGrid, realParts, masked, l23Mask, GridValid.
-/
import Derived.Test.YtnpbjfnmmleppaaSky
import Derived.Test.YtnpbjfnmmleppaaPairs
import Derived.Test.YtnpbjfnmmleppaaMaskPlain
namespace Go.Proofs.Ytnpbjfnmmleppaa
open Go.RowKit

theorem G.info : (Try.prog.info? 31).map (fun i => (i.zero, i.size, i.bytes)) = some (some (.agg #[.int .i64 0, .int .i64 0]), 2, 16) := by kernel_rfl

end Go.Proofs.Ytnpbjfnmmleppaa
