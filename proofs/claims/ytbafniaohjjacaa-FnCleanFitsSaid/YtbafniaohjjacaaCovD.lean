/-
  Contracts of CoverMany, CoverHoles, CoverJoin, CoverTurn of the reference.
-/
import Derived.Test.YtbafniaohjjacaaCovC
import Derived.Deep.RegionHeld3
namespace Go.Proofs.Ytbafniaohjjacaa
open Go.RowKit




end Go.Proofs.Ytbafniaohjjacaa
