/-
  Contracts over grids (lists of Gaussian integers): realGrid, realParts, masked, l23Mask, GridValid.
-/
import Derived.Test.YtbafniaohjjacabSky
import Derived.Test.YtbafniaohjjacabPairs
import Derived.Test.YtbafniaohjjacabMaskPlain
namespace Go.Proofs.Ytbafniaohjjacab
open Go.RowKit

theorem G.info : (Try.prog.info? 77).map (fun i => (i.zero, i.size, i.bytes)) = some (some (.agg #[.int .i64 0, .int .i64 0]), 2, 16) := by kernel_rfl

end Go.Proofs.Ytbafniaohjjacab
