/-
  Contracts of CoverMany, CoverHoles, CoverJoin, CoverTurn of the reference.
-/
import Derived.Test.YtohbflekinafjaaCovC
import Derived.Deep.RegionHeld3
namespace Go.Proofs.Ytohbflekinafjaa
open Go.RowKit




end Go.Proofs.Ytohbflekinafjaa
