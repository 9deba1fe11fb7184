/-
  Contracts of CoverMany, CoverHoles, CoverJoin, CoverTurn of the reference.
-/
import Derived.Test.YtnpbjfnmmleppaaCovC
import Derived.Deep.RegionHeld3
namespace Go.Proofs.Ytnpbjfnmmleppaa
open Go.RowKit




end Go.Proofs.Ytnpbjfnmmleppaa
