/-
  Contracts of CoverMany, CoverHoles, CoverJoin, CoverTurn of the reference.
-/
import Derived.Test.YtbafniaohjjacabCovC
import Derived.Deep.RegionHeld3
namespace Go.Proofs.Ytbafniaohjjacab
open Go.RowKit




end Go.Proofs.Ytbafniaohjjacab
