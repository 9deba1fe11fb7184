/-
  No cell of these rows narrows 'for every input' (looked for: loops, veiled, ifaces, maps, wideKeys, modest, calm, conditions, laid).
  DERIVED. THE GIVEN ROWS OF THIS SEAT. 6 by the template 'for every input the law returns true; each argument reads behind the call as it read before'; 0 by the template 'total and deterministic' (their statements: YtpjglnmnfmibnaaTotals.lean).
  GIVEN WITH THE SEED: the statements are not yours to turn. If you find one false, say at which input.
  Laid BY PROGRAM, IN A SANDBOX (cutbox-rows.mjs): the forced cells as the released guide's own fill.sh prints them over the translation 60641bbc622cc8d1… (all of the seat's roots in one cut). By AI agents, Wed Nov 11 2026. No macro, syntax, notation, axiom, sorry.
-/
import Derived.Test.YtpjglnmnfmibnaaChecked
import GoSem.Claim
import GoSem.ClaimJoined
import GoSem.ClaimMapViews
import Derived.JoinedTies
import Derived.KernelRfl
namespace Go.Proofs.Ytpjglnmnfmibnaa
/- THE CELL 'sum', in the pinned program and in every row, IS THE sha256 OF THE DUMP (.gsa) THAT YtpjglnmnfmibnaaProg.lean LOADS. Nothing in Lean hashes anything: it is a label: what it is worth is what the hold of that sum in a sandbox is worth. -/
noncomputable def Try.pinned : Pinned := { name := "ytpjglnmnfmibnaa", sum := "60641bbc622cc8d1303492dd147d96993a94cf0fad88ee7b0d577cbc2d025fd6", checked := Try.checked }
namespace Rows
def none {H : Type} : Left H := { results := [], args := [] }

/-- 'laws.FnExactSolveGains': WHATEVER THE INPUT: true; the input reads as it did. -/
def fnExactSolveGainsSpec : ChangeSpec := { name := "fnExactSolveGains", fn := fun _ => fun
  | [d1, d2, d3] => { results := [.lit (.bool true)], args := [d1, d2, d3] }
  | _ => none }
def fnExactSolveGainsRow : OpenClaim := { program := "ytpjglnmnfmibnaa", sum := "60641bbc622cc8d1303492dd147d96993a94cf0fad88ee7b0d577cbc2d025fd6", func := "loop.example/radiointerferometer/laws.FnExactSolveGains", spec := "fnExactSolveGains", unfollowed := true, recurses := true, apart := false }
def FnExactSolveGainsSaid : Prop := fnExactSolveGainsRow.holds Try.pinned (OpenSpec.ofChange fnExactSolveGainsSpec)

/-- ITS FALSE NEIGHBOUR: 'it returns false'. Refute it at one input. -/
def fnExactSolveGainsWrong : ChangeSpec := { name := "fnExactSolveGains", fn := fun _ => fun
  | [d1, d2, d3] => { results := [.lit (.bool false)], args := [d1, d2, d3] }
  | _ => none }
def FnExactSolveGainsWrongFalsely : Prop := fnExactSolveGainsRow.holds Try.pinned (OpenSpec.ofChange fnExactSolveGainsWrong)

/-- 'laws.FnSolveGains': WHATEVER THE INPUT: true; the input reads as it did. -/
def fnSolveGainsSpec : ChangeSpec := { name := "fnSolveGains", fn := fun _ => fun
  | [d] => { results := [.lit (.bool true)], args := [d] }
  | _ => none }
def fnSolveGainsRow : OpenClaim := { program := "ytpjglnmnfmibnaa", sum := "60641bbc622cc8d1303492dd147d96993a94cf0fad88ee7b0d577cbc2d025fd6", func := "loop.example/radiointerferometer/laws.FnSolveGains", spec := "fnSolveGains", unfollowed := true, recurses := true, apart := false }
def FnSolveGainsSaid : Prop := fnSolveGainsRow.holds Try.pinned (OpenSpec.ofChange fnSolveGainsSpec)

/-- ITS FALSE NEIGHBOUR: 'it returns false'. Refute it at one input. -/
def fnSolveGainsWrong : ChangeSpec := { name := "fnSolveGains", fn := fun _ => fun
  | [d] => { results := [.lit (.bool false)], args := [d] }
  | _ => none }
def FnSolveGainsWrongFalsely : Prop := fnSolveGainsRow.holds Try.pinned (OpenSpec.ofChange fnSolveGainsWrong)

/-- 'laws.FnSolvePhases': WHATEVER THE INPUT: true; the input reads as it did. -/
def fnSolvePhasesSpec : ChangeSpec := { name := "fnSolvePhases", fn := fun _ => fun
  | [d1, d2] => { results := [.lit (.bool true)], args := [d1, d2] }
  | _ => none }
def fnSolvePhasesRow : OpenClaim := { program := "ytpjglnmnfmibnaa", sum := "60641bbc622cc8d1303492dd147d96993a94cf0fad88ee7b0d577cbc2d025fd6", func := "loop.example/radiointerferometer/laws.FnSolvePhases", spec := "fnSolvePhases", unfollowed := true, recurses := true, apart := false }
def FnSolvePhasesSaid : Prop := fnSolvePhasesRow.holds Try.pinned (OpenSpec.ofChange fnSolvePhasesSpec)

/-- ITS FALSE NEIGHBOUR: 'it returns false'. Refute it at one input. -/
def fnSolvePhasesWrong : ChangeSpec := { name := "fnSolvePhases", fn := fun _ => fun
  | [d1, d2] => { results := [.lit (.bool false)], args := [d1, d2] }
  | _ => none }
def FnSolvePhasesWrongFalsely : Prop := fnSolvePhasesRow.holds Try.pinned (OpenSpec.ofChange fnSolvePhasesWrong)

/-- 'laws.FnSolveIff': WHATEVER THE INPUT: true; the input reads as it did. -/
def fnSolveIffSpec : ChangeSpec := { name := "fnSolveIff", fn := fun _ => fun
  | [d] => { results := [.lit (.bool true)], args := [d] }
  | _ => none }
def fnSolveIffRow : OpenClaim := { program := "ytpjglnmnfmibnaa", sum := "60641bbc622cc8d1303492dd147d96993a94cf0fad88ee7b0d577cbc2d025fd6", func := "loop.example/radiointerferometer/laws.FnSolveIff", spec := "fnSolveIff", unfollowed := true, recurses := true, apart := false }
def FnSolveIffSaid : Prop := fnSolveIffRow.holds Try.pinned (OpenSpec.ofChange fnSolveIffSpec)

/-- ITS FALSE NEIGHBOUR: 'it returns false'. Refute it at one input. -/
def fnSolveIffWrong : ChangeSpec := { name := "fnSolveIff", fn := fun _ => fun
  | [d] => { results := [.lit (.bool false)], args := [d] }
  | _ => none }
def FnSolveIffWrongFalsely : Prop := fnSolveIffRow.holds Try.pinned (OpenSpec.ofChange fnSolveIffWrong)

/-- 'laws.FnSolveChain': WHATEVER THE INPUT: true; the input reads as it did. -/
def fnSolveChainSpec : ChangeSpec := { name := "fnSolveChain", fn := fun _ => fun
  | [d1, d2] => { results := [.lit (.bool true)], args := [d1, d2] }
  | _ => none }
def fnSolveChainRow : OpenClaim := { program := "ytpjglnmnfmibnaa", sum := "60641bbc622cc8d1303492dd147d96993a94cf0fad88ee7b0d577cbc2d025fd6", func := "loop.example/radiointerferometer/laws.FnSolveChain", spec := "fnSolveChain", unfollowed := true, recurses := true, apart := false }
def FnSolveChainSaid : Prop := fnSolveChainRow.holds Try.pinned (OpenSpec.ofChange fnSolveChainSpec)

/-- ITS FALSE NEIGHBOUR: 'it returns false'. Refute it at one input. -/
def fnSolveChainWrong : ChangeSpec := { name := "fnSolveChain", fn := fun _ => fun
  | [d1, d2] => { results := [.lit (.bool false)], args := [d1, d2] }
  | _ => none }
def FnSolveChainWrongFalsely : Prop := fnSolveChainRow.holds Try.pinned (OpenSpec.ofChange fnSolveChainWrong)

/-- 'laws.FnSolveRest': WHATEVER THE INPUT: true; the input reads as it did. -/
def fnSolveRestSpec : ChangeSpec := { name := "fnSolveRest", fn := fun _ => fun
  | [d1, d2] => { results := [.lit (.bool true)], args := [d1, d2] }
  | _ => none }
def fnSolveRestRow : OpenClaim := { program := "ytpjglnmnfmibnaa", sum := "60641bbc622cc8d1303492dd147d96993a94cf0fad88ee7b0d577cbc2d025fd6", func := "loop.example/radiointerferometer/laws.FnSolveRest", spec := "fnSolveRest", unfollowed := true, recurses := true, apart := false }
def FnSolveRestSaid : Prop := fnSolveRestRow.holds Try.pinned (OpenSpec.ofChange fnSolveRestSpec)

/-- ITS FALSE NEIGHBOUR: 'it returns false'. Refute it at one input. -/
def fnSolveRestWrong : ChangeSpec := { name := "fnSolveRest", fn := fun _ => fun
  | [d1, d2] => { results := [.lit (.bool false)], args := [d1, d2] }
  | _ => none }
def FnSolveRestWrongFalsely : Prop := fnSolveRestRow.holds Try.pinned (OpenSpec.ofChange fnSolveRestWrong)

/- THE SECOND FORM. 'bulk': how many values and letters a reading holds, each counted each time it is reached (what is shared counts as often as it is met; a slice's spare places count too). A statement '..UptoSaid' is the law's where the arguments, and the package variables that the reading takes, are together of bulk at most 1048576: NARROWER than '..Said'. Prove '..Said' where nothing that the law and all that it calls make is longer than what came in: it says more and counts as full. Else prove '..UptoSaid'. A law counts once. -/
mutual
def uptoBulk {H : Type} : DataW H → Nat
  | .lit (.string bytes) => bytes.length + 1
  | .lit _ => 1
  | .nil => 1
  | .ptr d => uptoBulk d + 1
  | .slice elems spare => uptoBulkAll elems + uptoBulkAll spare + 1
  | .agg parts => uptoBulkAll parts + 1
  | .iface _ d => uptoBulk d + 1
  | .map entries => uptoBulkEntries entries + 1
  | .held _ => 1
def uptoBulkAll {H : Type} : List (DataW H) → Nat
  | [] => 0
  | d :: r => uptoBulk d + uptoBulkAll r
def uptoBulkEntries {H : Type} : List (Lit × DataW H) → Nat
  | [] => 0
  | x :: r => uptoBulkEntry x + uptoBulkEntries r
def uptoBulkEntry {H : Type} : Lit × DataW H → Nat
  | (.string bytes, d) => bytes.length + uptoBulk d + 1
  | (_, d) => uptoBulk d + 1
 end
def uptoSmall : (H : Type) → List (DataW H) → Bool := fun _ ds => decide (uptoBulkAll ds ≤ 1048576)
def OpenSpec.upto (s : _root_.Go.ChangeSpec) : _root_.Go.OpenSpec := { _root_.Go.OpenSpec.ofChange s with cond := some uptoSmall }

/-- 'laws.FnExactSolveGains', WHERE WHAT IT READS IS OF BULK AT MOST 1048576: true; the input reads as it did. -/
def fnExactSolveGainsUptoRow : OpenClaim := { program := "ytpjglnmnfmibnaa", sum := "60641bbc622cc8d1303492dd147d96993a94cf0fad88ee7b0d577cbc2d025fd6", func := "loop.example/radiointerferometer/laws.FnExactSolveGains", spec := "fnExactSolveGains", unfollowed := true, recurses := true, apart := false, narrowed := true }
def FnExactSolveGainsUptoSaid : Prop := fnExactSolveGainsUptoRow.holds Try.pinned (OpenSpec.upto fnExactSolveGainsSpec)

/-- 'laws.FnSolveGains', WHERE WHAT IT READS IS OF BULK AT MOST 1048576: true; the input reads as it did. -/
def fnSolveGainsUptoRow : OpenClaim := { program := "ytpjglnmnfmibnaa", sum := "60641bbc622cc8d1303492dd147d96993a94cf0fad88ee7b0d577cbc2d025fd6", func := "loop.example/radiointerferometer/laws.FnSolveGains", spec := "fnSolveGains", unfollowed := true, recurses := true, apart := false, narrowed := true }
def FnSolveGainsUptoSaid : Prop := fnSolveGainsUptoRow.holds Try.pinned (OpenSpec.upto fnSolveGainsSpec)

/-- 'laws.FnSolvePhases', WHERE WHAT IT READS IS OF BULK AT MOST 1048576: true; the input reads as it did. -/
def fnSolvePhasesUptoRow : OpenClaim := { program := "ytpjglnmnfmibnaa", sum := "60641bbc622cc8d1303492dd147d96993a94cf0fad88ee7b0d577cbc2d025fd6", func := "loop.example/radiointerferometer/laws.FnSolvePhases", spec := "fnSolvePhases", unfollowed := true, recurses := true, apart := false, narrowed := true }
def FnSolvePhasesUptoSaid : Prop := fnSolvePhasesUptoRow.holds Try.pinned (OpenSpec.upto fnSolvePhasesSpec)

/-- 'laws.FnSolveIff', WHERE WHAT IT READS IS OF BULK AT MOST 1048576: true; the input reads as it did. -/
def fnSolveIffUptoRow : OpenClaim := { program := "ytpjglnmnfmibnaa", sum := "60641bbc622cc8d1303492dd147d96993a94cf0fad88ee7b0d577cbc2d025fd6", func := "loop.example/radiointerferometer/laws.FnSolveIff", spec := "fnSolveIff", unfollowed := true, recurses := true, apart := false, narrowed := true }
def FnSolveIffUptoSaid : Prop := fnSolveIffUptoRow.holds Try.pinned (OpenSpec.upto fnSolveIffSpec)

/-- 'laws.FnSolveChain', WHERE WHAT IT READS IS OF BULK AT MOST 1048576: true; the input reads as it did. -/
def fnSolveChainUptoRow : OpenClaim := { program := "ytpjglnmnfmibnaa", sum := "60641bbc622cc8d1303492dd147d96993a94cf0fad88ee7b0d577cbc2d025fd6", func := "loop.example/radiointerferometer/laws.FnSolveChain", spec := "fnSolveChain", unfollowed := true, recurses := true, apart := false, narrowed := true }
def FnSolveChainUptoSaid : Prop := fnSolveChainUptoRow.holds Try.pinned (OpenSpec.upto fnSolveChainSpec)

/-- 'laws.FnSolveRest', WHERE WHAT IT READS IS OF BULK AT MOST 1048576: true; the input reads as it did. -/
def fnSolveRestUptoRow : OpenClaim := { program := "ytpjglnmnfmibnaa", sum := "60641bbc622cc8d1303492dd147d96993a94cf0fad88ee7b0d577cbc2d025fd6", func := "loop.example/radiointerferometer/laws.FnSolveRest", spec := "fnSolveRest", unfollowed := true, recurses := true, apart := false, narrowed := true }
def FnSolveRestUptoSaid : Prop := fnSolveRestUptoRow.holds Try.pinned (OpenSpec.upto fnSolveRestSpec)

end Rows
end Go.Proofs.Ytpjglnmnfmibnaa
