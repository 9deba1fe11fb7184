/-
  No cell of these rows narrows 'for every input' (looked for: loops, veiled, ifaces, maps, wideKeys, modest, calm, conditions, laid).
  DERIVED. THE GIVEN ROWS OF THIS SEAT. 8 by the template 'for every input the law returns true; each argument reads behind the call as it read before'; 0 by the template 'total and deterministic' (their statements: YtbafniaohjjacaaTotals.lean).
  GIVEN WITH THE SEED: the statements are not yours to turn. If you find one false, say at which input.
  Laid BY PROGRAM, IN A SANDBOX (cutbox-rows.mjs): the forced cells as the released guide's own fill.sh prints them over the translation 6fca33af2137d13c… (all of the seat's roots in one cut). By AI agents, Wed Nov 11 2026. No macro, syntax, notation, axiom, sorry.
-/
import Derived.Test.YtbafniaohjjacaaChecked
import GoSem.Claim
import GoSem.ClaimJoined
import GoSem.ClaimMapViews
import Derived.JoinedTies
import Derived.KernelRfl
namespace Go.Proofs.Ytbafniaohjjacaa
/- THE CELL 'sum', in the pinned program and in every row, IS THE sha256 OF THE DUMP (.gsa) THAT YtbafniaohjjacaaProg.lean LOADS. Nothing in Lean hashes anything: it is a label: what it is worth is what the hold of that sum in a sandbox is worth. -/
noncomputable def Try.pinned : Pinned := { name := "ytbafniaohjjacaa", sum := "6fca33af2137d13cd2537399a0b1aacf345f19134106a6b5b8e981f3d693d275", checked := Try.checked }
namespace Rows
def none {H : Type} : Left H := { results := [], args := [] }

/-- 'laws.FnExactCleanNew': WHATEVER THE INPUT: true; the input reads as it did. -/
def fnExactCleanNewSpec : ChangeSpec := { name := "fnExactCleanNew", fn := fun _ => fun
  | [d] => { results := [.lit (.bool true)], args := [d] }
  | _ => none }
def fnExactCleanNewRow : OpenClaim := { program := "ytbafniaohjjacaa", sum := "6fca33af2137d13cd2537399a0b1aacf345f19134106a6b5b8e981f3d693d275", func := "loop.example/radiointerferometer/laws.FnExactCleanNew", spec := "fnExactCleanNew", apart := false }
def FnExactCleanNewSaid : Prop := fnExactCleanNewRow.holds Try.pinned (OpenSpec.ofChange fnExactCleanNewSpec)

/-- ITS FALSE NEIGHBOUR: 'it returns false'. Refute it at one input. -/
def fnExactCleanNewWrong : ChangeSpec := { name := "fnExactCleanNew", fn := fun _ => fun
  | [d] => { results := [.lit (.bool false)], args := [d] }
  | _ => none }
def FnExactCleanNewWrongFalsely : Prop := fnExactCleanNewRow.holds Try.pinned (OpenSpec.ofChange fnExactCleanNewWrong)

/-- 'laws.FnExactCleanPeak': WHATEVER THE INPUT: true; the input reads as it did. -/
def fnExactCleanPeakSpec : ChangeSpec := { name := "fnExactCleanPeak", fn := fun _ => fun
  | [d] => { results := [.lit (.bool true)], args := [d] }
  | _ => none }
def fnExactCleanPeakRow : OpenClaim := { program := "ytbafniaohjjacaa", sum := "6fca33af2137d13cd2537399a0b1aacf345f19134106a6b5b8e981f3d693d275", func := "loop.example/radiointerferometer/laws.FnExactCleanPeak", spec := "fnExactCleanPeak", apart := false }
def FnExactCleanPeakSaid : Prop := fnExactCleanPeakRow.holds Try.pinned (OpenSpec.ofChange fnExactCleanPeakSpec)

/-- ITS FALSE NEIGHBOUR: 'it returns false'. Refute it at one input. -/
def fnExactCleanPeakWrong : ChangeSpec := { name := "fnExactCleanPeak", fn := fun _ => fun
  | [d] => { results := [.lit (.bool false)], args := [d] }
  | _ => none }
def FnExactCleanPeakWrongFalsely : Prop := fnExactCleanPeakRow.holds Try.pinned (OpenSpec.ofChange fnExactCleanPeakWrong)

/-- 'laws.FnExactCleanFits': WHATEVER THE INPUT: true; the input reads as it did. -/
def fnExactCleanFitsSpec : ChangeSpec := { name := "fnExactCleanFits", fn := fun _ => fun
  | [d1, d2, d3] => { results := [.lit (.bool true)], args := [d1, d2, d3] }
  | _ => none }
def fnExactCleanFitsRow : OpenClaim := { program := "ytbafniaohjjacaa", sum := "6fca33af2137d13cd2537399a0b1aacf345f19134106a6b5b8e981f3d693d275", func := "loop.example/radiointerferometer/laws.FnExactCleanFits", spec := "fnExactCleanFits", apart := false }
def FnExactCleanFitsSaid : Prop := fnExactCleanFitsRow.holds Try.pinned (OpenSpec.ofChange fnExactCleanFitsSpec)

/-- ITS FALSE NEIGHBOUR: 'it returns false'. Refute it at one input. -/
def fnExactCleanFitsWrong : ChangeSpec := { name := "fnExactCleanFits", fn := fun _ => fun
  | [d1, d2, d3] => { results := [.lit (.bool false)], args := [d1, d2, d3] }
  | _ => none }
def FnExactCleanFitsWrongFalsely : Prop := fnExactCleanFitsRow.holds Try.pinned (OpenSpec.ofChange fnExactCleanFitsWrong)

/-- 'laws.FnExactCleanStep': WHATEVER THE INPUT: true; the input reads as it did. -/
def fnExactCleanStepSpec : ChangeSpec := { name := "fnExactCleanStep", fn := fun _ => fun
  | [d1, d2] => { results := [.lit (.bool true)], args := [d1, d2] }
  | _ => none }
def fnExactCleanStepRow : OpenClaim := { program := "ytbafniaohjjacaa", sum := "6fca33af2137d13cd2537399a0b1aacf345f19134106a6b5b8e981f3d693d275", func := "loop.example/radiointerferometer/laws.FnExactCleanStep", spec := "fnExactCleanStep", apart := false }
def FnExactCleanStepSaid : Prop := fnExactCleanStepRow.holds Try.pinned (OpenSpec.ofChange fnExactCleanStepSpec)

/-- ITS FALSE NEIGHBOUR: 'it returns false'. Refute it at one input. -/
def fnExactCleanStepWrong : ChangeSpec := { name := "fnExactCleanStep", fn := fun _ => fun
  | [d1, d2] => { results := [.lit (.bool false)], args := [d1, d2] }
  | _ => none }
def FnExactCleanStepWrongFalsely : Prop := fnExactCleanStepRow.holds Try.pinned (OpenSpec.ofChange fnExactCleanStepWrong)

/-- 'laws.FnExactCleanRun': WHATEVER THE INPUT: true; the input reads as it did. -/
def fnExactCleanRunSpec : ChangeSpec := { name := "fnExactCleanRun", fn := fun _ => fun
  | [d1, d2, d3] => { results := [.lit (.bool true)], args := [d1, d2, d3] }
  | _ => none }
def fnExactCleanRunRow : OpenClaim := { program := "ytbafniaohjjacaa", sum := "6fca33af2137d13cd2537399a0b1aacf345f19134106a6b5b8e981f3d693d275", func := "loop.example/radiointerferometer/laws.FnExactCleanRun", spec := "fnExactCleanRun", apart := false }
def FnExactCleanRunSaid : Prop := fnExactCleanRunRow.holds Try.pinned (OpenSpec.ofChange fnExactCleanRunSpec)

/-- ITS FALSE NEIGHBOUR: 'it returns false'. Refute it at one input. -/
def fnExactCleanRunWrong : ChangeSpec := { name := "fnExactCleanRun", fn := fun _ => fun
  | [d1, d2, d3] => { results := [.lit (.bool false)], args := [d1, d2, d3] }
  | _ => none }
def FnExactCleanRunWrongFalsely : Prop := fnExactCleanRunRow.holds Try.pinned (OpenSpec.ofChange fnExactCleanRunWrong)

/-- 'laws.FnCleanNew': WHATEVER THE INPUT: true; the input reads as it did. -/
def fnCleanNewSpec : ChangeSpec := { name := "fnCleanNew", fn := fun _ => fun
  | [d1, d2] => { results := [.lit (.bool true)], args := [d1, d2] }
  | _ => none }
def fnCleanNewRow : OpenClaim := { program := "ytbafniaohjjacaa", sum := "6fca33af2137d13cd2537399a0b1aacf345f19134106a6b5b8e981f3d693d275", func := "loop.example/radiointerferometer/laws.FnCleanNew", spec := "fnCleanNew", apart := false }
def FnCleanNewSaid : Prop := fnCleanNewRow.holds Try.pinned (OpenSpec.ofChange fnCleanNewSpec)

/-- ITS FALSE NEIGHBOUR: 'it returns false'. Refute it at one input. -/
def fnCleanNewWrong : ChangeSpec := { name := "fnCleanNew", fn := fun _ => fun
  | [d1, d2] => { results := [.lit (.bool false)], args := [d1, d2] }
  | _ => none }
def FnCleanNewWrongFalsely : Prop := fnCleanNewRow.holds Try.pinned (OpenSpec.ofChange fnCleanNewWrong)

/-- 'laws.FnCleanPeak': WHATEVER THE INPUT: true; the input reads as it did. -/
def fnCleanPeakSpec : ChangeSpec := { name := "fnCleanPeak", fn := fun _ => fun
  | [d] => { results := [.lit (.bool true)], args := [d] }
  | _ => none }
def fnCleanPeakRow : OpenClaim := { program := "ytbafniaohjjacaa", sum := "6fca33af2137d13cd2537399a0b1aacf345f19134106a6b5b8e981f3d693d275", func := "loop.example/radiointerferometer/laws.FnCleanPeak", spec := "fnCleanPeak", apart := false }
def FnCleanPeakSaid : Prop := fnCleanPeakRow.holds Try.pinned (OpenSpec.ofChange fnCleanPeakSpec)

/-- ITS FALSE NEIGHBOUR: 'it returns false'. Refute it at one input. -/
def fnCleanPeakWrong : ChangeSpec := { name := "fnCleanPeak", fn := fun _ => fun
  | [d] => { results := [.lit (.bool false)], args := [d] }
  | _ => none }
def FnCleanPeakWrongFalsely : Prop := fnCleanPeakRow.holds Try.pinned (OpenSpec.ofChange fnCleanPeakWrong)

/-- 'laws.FnCleanFits': WHATEVER THE INPUT: true; the input reads as it did. -/
def fnCleanFitsSpec : ChangeSpec := { name := "fnCleanFits", fn := fun _ => fun
  | [d1, d2] => { results := [.lit (.bool true)], args := [d1, d2] }
  | _ => none }
def fnCleanFitsRow : OpenClaim := { program := "ytbafniaohjjacaa", sum := "6fca33af2137d13cd2537399a0b1aacf345f19134106a6b5b8e981f3d693d275", func := "loop.example/radiointerferometer/laws.FnCleanFits", spec := "fnCleanFits", apart := false }
def FnCleanFitsSaid : Prop := fnCleanFitsRow.holds Try.pinned (OpenSpec.ofChange fnCleanFitsSpec)

/-- ITS FALSE NEIGHBOUR: 'it returns false'. Refute it at one input. -/
def fnCleanFitsWrong : ChangeSpec := { name := "fnCleanFits", fn := fun _ => fun
  | [d1, d2] => { results := [.lit (.bool false)], args := [d1, d2] }
  | _ => none }
def FnCleanFitsWrongFalsely : Prop := fnCleanFitsRow.holds Try.pinned (OpenSpec.ofChange fnCleanFitsWrong)

/- THE SECOND FORM. 'bulk': how many values and letters a reading holds, each counted each time it is reached (what is shared counts as often as it is met; a slice's spare places count too). A statement '..UptoSaid' is the law's where the arguments, and the package variables that the reading takes, are together of bulk at most 1048576: NARROWER than '..Said'. Prove '..Said' where nothing that the law and all that it calls make is longer than what came in: it says more and counts as full. Else prove '..UptoSaid'. A law counts once. -/
mutual
def uptoBulk {H : Type} : DataW H → Nat
  | .lit (.string bytes) => bytes.length + 1
  | .lit _ => 1
  | .nil => 1
  | .ptr d => uptoBulk d + 1
  | .slice elems spare => uptoBulkAll elems + uptoBulkAll spare + 1
  | .agg parts => uptoBulkAll parts + 1
  | .iface _ d => uptoBulk d + 1
  | .map entries => uptoBulkEntries entries + 1
  | .held _ => 1
def uptoBulkAll {H : Type} : List (DataW H) → Nat
  | [] => 0
  | d :: r => uptoBulk d + uptoBulkAll r
def uptoBulkEntries {H : Type} : List (Lit × DataW H) → Nat
  | [] => 0
  | x :: r => uptoBulkEntry x + uptoBulkEntries r
def uptoBulkEntry {H : Type} : Lit × DataW H → Nat
  | (.string bytes, d) => bytes.length + uptoBulk d + 1
  | (_, d) => uptoBulk d + 1
 end
def uptoSmall : (H : Type) → List (DataW H) → Bool := fun _ ds => decide (uptoBulkAll ds ≤ 1048576)
def OpenSpec.upto (s : _root_.Go.ChangeSpec) : _root_.Go.OpenSpec := { _root_.Go.OpenSpec.ofChange s with cond := some uptoSmall }

/-- 'laws.FnExactCleanNew', WHERE WHAT IT READS IS OF BULK AT MOST 1048576: true; the input reads as it did. -/
def fnExactCleanNewUptoRow : OpenClaim := { program := "ytbafniaohjjacaa", sum := "6fca33af2137d13cd2537399a0b1aacf345f19134106a6b5b8e981f3d693d275", func := "loop.example/radiointerferometer/laws.FnExactCleanNew", spec := "fnExactCleanNew", apart := false, narrowed := true }
def FnExactCleanNewUptoSaid : Prop := fnExactCleanNewUptoRow.holds Try.pinned (OpenSpec.upto fnExactCleanNewSpec)

/-- 'laws.FnExactCleanPeak', WHERE WHAT IT READS IS OF BULK AT MOST 1048576: true; the input reads as it did. -/
def fnExactCleanPeakUptoRow : OpenClaim := { program := "ytbafniaohjjacaa", sum := "6fca33af2137d13cd2537399a0b1aacf345f19134106a6b5b8e981f3d693d275", func := "loop.example/radiointerferometer/laws.FnExactCleanPeak", spec := "fnExactCleanPeak", apart := false, narrowed := true }
def FnExactCleanPeakUptoSaid : Prop := fnExactCleanPeakUptoRow.holds Try.pinned (OpenSpec.upto fnExactCleanPeakSpec)

/-- 'laws.FnExactCleanFits', WHERE WHAT IT READS IS OF BULK AT MOST 1048576: true; the input reads as it did. -/
def fnExactCleanFitsUptoRow : OpenClaim := { program := "ytbafniaohjjacaa", sum := "6fca33af2137d13cd2537399a0b1aacf345f19134106a6b5b8e981f3d693d275", func := "loop.example/radiointerferometer/laws.FnExactCleanFits", spec := "fnExactCleanFits", apart := false, narrowed := true }
def FnExactCleanFitsUptoSaid : Prop := fnExactCleanFitsUptoRow.holds Try.pinned (OpenSpec.upto fnExactCleanFitsSpec)

/-- 'laws.FnExactCleanStep', WHERE WHAT IT READS IS OF BULK AT MOST 1048576: true; the input reads as it did. -/
def fnExactCleanStepUptoRow : OpenClaim := { program := "ytbafniaohjjacaa", sum := "6fca33af2137d13cd2537399a0b1aacf345f19134106a6b5b8e981f3d693d275", func := "loop.example/radiointerferometer/laws.FnExactCleanStep", spec := "fnExactCleanStep", apart := false, narrowed := true }
def FnExactCleanStepUptoSaid : Prop := fnExactCleanStepUptoRow.holds Try.pinned (OpenSpec.upto fnExactCleanStepSpec)

/-- 'laws.FnExactCleanRun', WHERE WHAT IT READS IS OF BULK AT MOST 1048576: true; the input reads as it did. -/
def fnExactCleanRunUptoRow : OpenClaim := { program := "ytbafniaohjjacaa", sum := "6fca33af2137d13cd2537399a0b1aacf345f19134106a6b5b8e981f3d693d275", func := "loop.example/radiointerferometer/laws.FnExactCleanRun", spec := "fnExactCleanRun", apart := false, narrowed := true }
def FnExactCleanRunUptoSaid : Prop := fnExactCleanRunUptoRow.holds Try.pinned (OpenSpec.upto fnExactCleanRunSpec)

/-- 'laws.FnCleanNew', WHERE WHAT IT READS IS OF BULK AT MOST 1048576: true; the input reads as it did. -/
def fnCleanNewUptoRow : OpenClaim := { program := "ytbafniaohjjacaa", sum := "6fca33af2137d13cd2537399a0b1aacf345f19134106a6b5b8e981f3d693d275", func := "loop.example/radiointerferometer/laws.FnCleanNew", spec := "fnCleanNew", apart := false, narrowed := true }
def FnCleanNewUptoSaid : Prop := fnCleanNewUptoRow.holds Try.pinned (OpenSpec.upto fnCleanNewSpec)

/-- 'laws.FnCleanPeak', WHERE WHAT IT READS IS OF BULK AT MOST 1048576: true; the input reads as it did. -/
def fnCleanPeakUptoRow : OpenClaim := { program := "ytbafniaohjjacaa", sum := "6fca33af2137d13cd2537399a0b1aacf345f19134106a6b5b8e981f3d693d275", func := "loop.example/radiointerferometer/laws.FnCleanPeak", spec := "fnCleanPeak", apart := false, narrowed := true }
def FnCleanPeakUptoSaid : Prop := fnCleanPeakUptoRow.holds Try.pinned (OpenSpec.upto fnCleanPeakSpec)

/-- 'laws.FnCleanFits', WHERE WHAT IT READS IS OF BULK AT MOST 1048576: true; the input reads as it did. -/
def fnCleanFitsUptoRow : OpenClaim := { program := "ytbafniaohjjacaa", sum := "6fca33af2137d13cd2537399a0b1aacf345f19134106a6b5b8e981f3d693d275", func := "loop.example/radiointerferometer/laws.FnCleanFits", spec := "fnCleanFits", apart := false, narrowed := true }
def FnCleanFitsUptoSaid : Prop := fnCleanFitsUptoRow.holds Try.pinned (OpenSpec.upto fnCleanFitsSpec)

end Rows
end Go.Proofs.Ytbafniaohjjacaa
