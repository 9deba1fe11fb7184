/-
  No cell of these rows narrows 'for every input' (looked for: loops, veiled, ifaces, maps, wideKeys, modest, calm, conditions, laid).
  DERIVED. THE GIVEN ROWS OF THIS SEAT. 8 by the template 'for every input the law returns true; each argument reads behind the call as it read before'; 0 by the template 'total and deterministic' (their statements: YtbafniaohjjacabTotals.lean).
  GIVEN WITH THE SEED: the statements are not yours to turn. If you find one false, say at which input.
  Laid BY PROGRAM, IN A SANDBOX (cutbox-rows.mjs): the forced cells as the released guide's own fill.sh prints them over the translation 608eea04679a5582… (all of the seat's roots in one cut). By AI agents, Wed Nov 11 2026. No macro, syntax, notation, axiom, sorry.
-/
import Derived.Test.YtbafniaohjjacabChecked
import GoSem.Claim
import GoSem.ClaimJoined
import GoSem.ClaimMapViews
import Derived.JoinedTies
import Derived.KernelRfl
namespace Go.Proofs.Ytbafniaohjjacab
/- THE CELL 'sum', in the pinned program and in every row, IS THE sha256 OF THE DUMP (.gsa) THAT YtbafniaohjjacabProg.lean LOADS. Nothing in Lean hashes anything: it is a label: what it is worth is what the hold of that sum in a sandbox is worth. -/
noncomputable def Try.pinned : Pinned := { name := "ytbafniaohjjacab", sum := "608eea04679a5582f434bfb546ccf701bd37a9aa4482a4f4c4380acb24563bb4", checked := Try.checked }
namespace Rows
def none {H : Type} : Left H := { results := [], args := [] }

/-- 'laws.FnCleanRunFits': WHATEVER THE INPUT: true; the input reads as it did. -/
def fnCleanRunFitsSpec : ChangeSpec := { name := "fnCleanRunFits", fn := fun _ => fun
  | [d] => { results := [.lit (.bool true)], args := [d] }
  | _ => none }
def fnCleanRunFitsRow : OpenClaim := { program := "ytbafniaohjjacab", sum := "608eea04679a5582f434bfb546ccf701bd37a9aa4482a4f4c4380acb24563bb4", func := "loop.example/radiointerferometer/laws.FnCleanRunFits", spec := "fnCleanRunFits", apart := false }
def FnCleanRunFitsSaid : Prop := fnCleanRunFitsRow.holds Try.pinned (OpenSpec.ofChange fnCleanRunFitsSpec)

/-- ITS FALSE NEIGHBOUR: 'it returns false'. Refute it at one input. -/
def fnCleanRunFitsWrong : ChangeSpec := { name := "fnCleanRunFits", fn := fun _ => fun
  | [d] => { results := [.lit (.bool false)], args := [d] }
  | _ => none }
def FnCleanRunFitsWrongFalsely : Prop := fnCleanRunFitsRow.holds Try.pinned (OpenSpec.ofChange fnCleanRunFitsWrong)

/-- 'laws.FnCleanStep': WHATEVER THE INPUT: true; the input reads as it did. -/
def fnCleanStepSpec : ChangeSpec := { name := "fnCleanStep", fn := fun _ => fun
  | [d] => { results := [.lit (.bool true)], args := [d] }
  | _ => none }
def fnCleanStepRow : OpenClaim := { program := "ytbafniaohjjacab", sum := "608eea04679a5582f434bfb546ccf701bd37a9aa4482a4f4c4380acb24563bb4", func := "loop.example/radiointerferometer/laws.FnCleanStep", spec := "fnCleanStep", apart := false }
def FnCleanStepSaid : Prop := fnCleanStepRow.holds Try.pinned (OpenSpec.ofChange fnCleanStepSpec)

/-- ITS FALSE NEIGHBOUR: 'it returns false'. Refute it at one input. -/
def fnCleanStepWrong : ChangeSpec := { name := "fnCleanStep", fn := fun _ => fun
  | [d] => { results := [.lit (.bool false)], args := [d] }
  | _ => none }
def FnCleanStepWrongFalsely : Prop := fnCleanStepRow.holds Try.pinned (OpenSpec.ofChange fnCleanStepWrong)

/-- 'laws.FnCleanStepSum': WHATEVER THE INPUT: true; the input reads as it did. -/
def fnCleanStepSumSpec : ChangeSpec := { name := "fnCleanStepSum", fn := fun _ => fun
  | [d] => { results := [.lit (.bool true)], args := [d] }
  | _ => none }
def fnCleanStepSumRow : OpenClaim := { program := "ytbafniaohjjacab", sum := "608eea04679a5582f434bfb546ccf701bd37a9aa4482a4f4c4380acb24563bb4", func := "loop.example/radiointerferometer/laws.FnCleanStepSum", spec := "fnCleanStepSum", apart := false }
def FnCleanStepSumSaid : Prop := fnCleanStepSumRow.holds Try.pinned (OpenSpec.ofChange fnCleanStepSumSpec)

/-- ITS FALSE NEIGHBOUR: 'it returns false'. Refute it at one input. -/
def fnCleanStepSumWrong : ChangeSpec := { name := "fnCleanStepSum", fn := fun _ => fun
  | [d] => { results := [.lit (.bool false)], args := [d] }
  | _ => none }
def FnCleanStepSumWrongFalsely : Prop := fnCleanStepSumRow.holds Try.pinned (OpenSpec.ofChange fnCleanStepSumWrong)

/-- 'laws.FnCleanRun': WHATEVER THE INPUT: true; the input reads as it did. -/
def fnCleanRunSpec : ChangeSpec := { name := "fnCleanRun", fn := fun _ => fun
  | [d] => { results := [.lit (.bool true)], args := [d] }
  | _ => none }
def fnCleanRunRow : OpenClaim := { program := "ytbafniaohjjacab", sum := "608eea04679a5582f434bfb546ccf701bd37a9aa4482a4f4c4380acb24563bb4", func := "loop.example/radiointerferometer/laws.FnCleanRun", spec := "fnCleanRun", apart := false }
def FnCleanRunSaid : Prop := fnCleanRunRow.holds Try.pinned (OpenSpec.ofChange fnCleanRunSpec)

/-- ITS FALSE NEIGHBOUR: 'it returns false'. Refute it at one input. -/
def fnCleanRunWrong : ChangeSpec := { name := "fnCleanRun", fn := fun _ => fun
  | [d] => { results := [.lit (.bool false)], args := [d] }
  | _ => none }
def FnCleanRunWrongFalsely : Prop := fnCleanRunRow.holds Try.pinned (OpenSpec.ofChange fnCleanRunWrong)

/-- 'laws.FnCleanRunModel': WHATEVER THE INPUT: true; the input reads as it did. -/
def fnCleanRunModelSpec : ChangeSpec := { name := "fnCleanRunModel", fn := fun _ => fun
  | [d] => { results := [.lit (.bool true)], args := [d] }
  | _ => none }
def fnCleanRunModelRow : OpenClaim := { program := "ytbafniaohjjacab", sum := "608eea04679a5582f434bfb546ccf701bd37a9aa4482a4f4c4380acb24563bb4", func := "loop.example/radiointerferometer/laws.FnCleanRunModel", spec := "fnCleanRunModel", apart := false }
def FnCleanRunModelSaid : Prop := fnCleanRunModelRow.holds Try.pinned (OpenSpec.ofChange fnCleanRunModelSpec)

/-- ITS FALSE NEIGHBOUR: 'it returns false'. Refute it at one input. -/
def fnCleanRunModelWrong : ChangeSpec := { name := "fnCleanRunModel", fn := fun _ => fun
  | [d] => { results := [.lit (.bool false)], args := [d] }
  | _ => none }
def FnCleanRunModelWrongFalsely : Prop := fnCleanRunModelRow.holds Try.pinned (OpenSpec.ofChange fnCleanRunModelWrong)

/-- 'laws.FnCleanRunParts': WHATEVER THE INPUT: true; the input reads as it did. -/
def fnCleanRunPartsSpec : ChangeSpec := { name := "fnCleanRunParts", fn := fun _ => fun
  | [d1, d2] => { results := [.lit (.bool true)], args := [d1, d2] }
  | _ => none }
def fnCleanRunPartsRow : OpenClaim := { program := "ytbafniaohjjacab", sum := "608eea04679a5582f434bfb546ccf701bd37a9aa4482a4f4c4380acb24563bb4", func := "loop.example/radiointerferometer/laws.FnCleanRunParts", spec := "fnCleanRunParts", apart := false }
def FnCleanRunPartsSaid : Prop := fnCleanRunPartsRow.holds Try.pinned (OpenSpec.ofChange fnCleanRunPartsSpec)

/-- ITS FALSE NEIGHBOUR: 'it returns false'. Refute it at one input. -/
def fnCleanRunPartsWrong : ChangeSpec := { name := "fnCleanRunParts", fn := fun _ => fun
  | [d1, d2] => { results := [.lit (.bool false)], args := [d1, d2] }
  | _ => none }
def FnCleanRunPartsWrongFalsely : Prop := fnCleanRunPartsRow.holds Try.pinned (OpenSpec.ofChange fnCleanRunPartsWrong)

/-- 'laws.FnCleanNone': WHATEVER THE INPUT: true; the input reads as it did. -/
def fnCleanNoneSpec : ChangeSpec := { name := "fnCleanNone", fn := fun _ => fun
  | [d] => { results := [.lit (.bool true)], args := [d] }
  | _ => none }
def fnCleanNoneRow : OpenClaim := { program := "ytbafniaohjjacab", sum := "608eea04679a5582f434bfb546ccf701bd37a9aa4482a4f4c4380acb24563bb4", func := "loop.example/radiointerferometer/laws.FnCleanNone", spec := "fnCleanNone", apart := false }
def FnCleanNoneSaid : Prop := fnCleanNoneRow.holds Try.pinned (OpenSpec.ofChange fnCleanNoneSpec)

/-- ITS FALSE NEIGHBOUR: 'it returns false'. Refute it at one input. -/
def fnCleanNoneWrong : ChangeSpec := { name := "fnCleanNone", fn := fun _ => fun
  | [d] => { results := [.lit (.bool false)], args := [d] }
  | _ => none }
def FnCleanNoneWrongFalsely : Prop := fnCleanNoneRow.holds Try.pinned (OpenSpec.ofChange fnCleanNoneWrong)

/-- 'laws.FnCleanStepFits': WHATEVER THE INPUT: true; the input reads as it did. -/
def fnCleanStepFitsSpec : ChangeSpec := { name := "fnCleanStepFits", fn := fun _ => fun
  | [d] => { results := [.lit (.bool true)], args := [d] }
  | _ => none }
def fnCleanStepFitsRow : OpenClaim := { program := "ytbafniaohjjacab", sum := "608eea04679a5582f434bfb546ccf701bd37a9aa4482a4f4c4380acb24563bb4", func := "loop.example/radiointerferometer/laws.FnCleanStepFits", spec := "fnCleanStepFits", apart := false }
def FnCleanStepFitsSaid : Prop := fnCleanStepFitsRow.holds Try.pinned (OpenSpec.ofChange fnCleanStepFitsSpec)

/-- ITS FALSE NEIGHBOUR: 'it returns false'. Refute it at one input. -/
def fnCleanStepFitsWrong : ChangeSpec := { name := "fnCleanStepFits", fn := fun _ => fun
  | [d] => { results := [.lit (.bool false)], args := [d] }
  | _ => none }
def FnCleanStepFitsWrongFalsely : Prop := fnCleanStepFitsRow.holds Try.pinned (OpenSpec.ofChange fnCleanStepFitsWrong)

/- THE SECOND FORM. 'bulk': how many values and letters a reading holds, each counted each time it is reached (what is shared counts as often as it is met; a slice's spare places count too). A statement '..UptoSaid' is the law's where the arguments, and the package variables that the reading takes, are together of bulk at most 1048576: NARROWER than '..Said'. Prove '..Said' where nothing that the law and all that it calls make is longer than what came in: it says more and counts as full. Else prove '..UptoSaid'. A law counts once. -/
mutual
def uptoBulk {H : Type} : DataW H → Nat
  | .lit (.string bytes) => bytes.length + 1
  | .lit _ => 1
  | .nil => 1
  | .ptr d => uptoBulk d + 1
  | .slice elems spare => uptoBulkAll elems + uptoBulkAll spare + 1
  | .agg parts => uptoBulkAll parts + 1
  | .iface _ d => uptoBulk d + 1
  | .map entries => uptoBulkEntries entries + 1
  | .held _ => 1
def uptoBulkAll {H : Type} : List (DataW H) → Nat
  | [] => 0
  | d :: r => uptoBulk d + uptoBulkAll r
def uptoBulkEntries {H : Type} : List (Lit × DataW H) → Nat
  | [] => 0
  | x :: r => uptoBulkEntry x + uptoBulkEntries r
def uptoBulkEntry {H : Type} : Lit × DataW H → Nat
  | (.string bytes, d) => bytes.length + uptoBulk d + 1
  | (_, d) => uptoBulk d + 1
 end
def uptoSmall : (H : Type) → List (DataW H) → Bool := fun _ ds => decide (uptoBulkAll ds ≤ 1048576)
def OpenSpec.upto (s : _root_.Go.ChangeSpec) : _root_.Go.OpenSpec := { _root_.Go.OpenSpec.ofChange s with cond := some uptoSmall }

/-- 'laws.FnCleanRunFits', WHERE WHAT IT READS IS OF BULK AT MOST 1048576: true; the input reads as it did. -/
def fnCleanRunFitsUptoRow : OpenClaim := { program := "ytbafniaohjjacab", sum := "608eea04679a5582f434bfb546ccf701bd37a9aa4482a4f4c4380acb24563bb4", func := "loop.example/radiointerferometer/laws.FnCleanRunFits", spec := "fnCleanRunFits", apart := false, narrowed := true }
def FnCleanRunFitsUptoSaid : Prop := fnCleanRunFitsUptoRow.holds Try.pinned (OpenSpec.upto fnCleanRunFitsSpec)

/-- 'laws.FnCleanStep', WHERE WHAT IT READS IS OF BULK AT MOST 1048576: true; the input reads as it did. -/
def fnCleanStepUptoRow : OpenClaim := { program := "ytbafniaohjjacab", sum := "608eea04679a5582f434bfb546ccf701bd37a9aa4482a4f4c4380acb24563bb4", func := "loop.example/radiointerferometer/laws.FnCleanStep", spec := "fnCleanStep", apart := false, narrowed := true }
def FnCleanStepUptoSaid : Prop := fnCleanStepUptoRow.holds Try.pinned (OpenSpec.upto fnCleanStepSpec)

/-- 'laws.FnCleanStepSum', WHERE WHAT IT READS IS OF BULK AT MOST 1048576: true; the input reads as it did. -/
def fnCleanStepSumUptoRow : OpenClaim := { program := "ytbafniaohjjacab", sum := "608eea04679a5582f434bfb546ccf701bd37a9aa4482a4f4c4380acb24563bb4", func := "loop.example/radiointerferometer/laws.FnCleanStepSum", spec := "fnCleanStepSum", apart := false, narrowed := true }
def FnCleanStepSumUptoSaid : Prop := fnCleanStepSumUptoRow.holds Try.pinned (OpenSpec.upto fnCleanStepSumSpec)

/-- 'laws.FnCleanRun', WHERE WHAT IT READS IS OF BULK AT MOST 1048576: true; the input reads as it did. -/
def fnCleanRunUptoRow : OpenClaim := { program := "ytbafniaohjjacab", sum := "608eea04679a5582f434bfb546ccf701bd37a9aa4482a4f4c4380acb24563bb4", func := "loop.example/radiointerferometer/laws.FnCleanRun", spec := "fnCleanRun", apart := false, narrowed := true }
def FnCleanRunUptoSaid : Prop := fnCleanRunUptoRow.holds Try.pinned (OpenSpec.upto fnCleanRunSpec)

/-- 'laws.FnCleanRunModel', WHERE WHAT IT READS IS OF BULK AT MOST 1048576: true; the input reads as it did. -/
def fnCleanRunModelUptoRow : OpenClaim := { program := "ytbafniaohjjacab", sum := "608eea04679a5582f434bfb546ccf701bd37a9aa4482a4f4c4380acb24563bb4", func := "loop.example/radiointerferometer/laws.FnCleanRunModel", spec := "fnCleanRunModel", apart := false, narrowed := true }
def FnCleanRunModelUptoSaid : Prop := fnCleanRunModelUptoRow.holds Try.pinned (OpenSpec.upto fnCleanRunModelSpec)

/-- 'laws.FnCleanRunParts', WHERE WHAT IT READS IS OF BULK AT MOST 1048576: true; the input reads as it did. -/
def fnCleanRunPartsUptoRow : OpenClaim := { program := "ytbafniaohjjacab", sum := "608eea04679a5582f434bfb546ccf701bd37a9aa4482a4f4c4380acb24563bb4", func := "loop.example/radiointerferometer/laws.FnCleanRunParts", spec := "fnCleanRunParts", apart := false, narrowed := true }
def FnCleanRunPartsUptoSaid : Prop := fnCleanRunPartsUptoRow.holds Try.pinned (OpenSpec.upto fnCleanRunPartsSpec)

/-- 'laws.FnCleanNone', WHERE WHAT IT READS IS OF BULK AT MOST 1048576: true; the input reads as it did. -/
def fnCleanNoneUptoRow : OpenClaim := { program := "ytbafniaohjjacab", sum := "608eea04679a5582f434bfb546ccf701bd37a9aa4482a4f4c4380acb24563bb4", func := "loop.example/radiointerferometer/laws.FnCleanNone", spec := "fnCleanNone", apart := false, narrowed := true }
def FnCleanNoneUptoSaid : Prop := fnCleanNoneUptoRow.holds Try.pinned (OpenSpec.upto fnCleanNoneSpec)

/-- 'laws.FnCleanStepFits', WHERE WHAT IT READS IS OF BULK AT MOST 1048576: true; the input reads as it did. -/
def fnCleanStepFitsUptoRow : OpenClaim := { program := "ytbafniaohjjacab", sum := "608eea04679a5582f434bfb546ccf701bd37a9aa4482a4f4c4380acb24563bb4", func := "loop.example/radiointerferometer/laws.FnCleanStepFits", spec := "fnCleanStepFits", apart := false, narrowed := true }
def FnCleanStepFitsUptoSaid : Prop := fnCleanStepFitsUptoRow.holds Try.pinned (OpenSpec.upto fnCleanStepFitsSpec)

end Rows
end Go.Proofs.Ytbafniaohjjacab
