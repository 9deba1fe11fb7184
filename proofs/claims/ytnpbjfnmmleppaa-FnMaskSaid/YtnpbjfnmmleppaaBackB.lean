/-
  Contracts of the reference's DirtyOf and BeamOf.
-/
import Derived.Test.YtnpbjfnmmleppaaBack
import Derived.Test.YtnpbjfnmmleppaaCovD
namespace Go.Proofs.Ytnpbjfnmmleppaa
open Go.RowKit

end Go.Proofs.Ytnpbjfnmmleppaa
