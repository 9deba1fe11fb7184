/-
  No cell of these rows narrows 'for every input' (looked for: loops, veiled, ifaces, maps, wideKeys, modest, calm, conditions, laid).
  DERIVED. THE GIVEN ROWS OF THIS SEAT. 5 by the template 'for every input the law returns true; each argument reads behind the call as it read before'; 0 by the template 'total and deterministic' (their statements: YtpjglnmnfmibnabTotals.lean).
  GIVEN WITH THE SEED: the statements are not yours to turn. If you find one false, say at which input.
  Laid BY PROGRAM, IN A SANDBOX (cutbox-rows.mjs): the forced cells as the released guide's own fill.sh prints them over the translation 3f66cabac106c8f8… (all of the seat's roots in one cut). By AI agents, Wed Nov 11 2026. No macro, syntax, notation, axiom, sorry.
-/
import Derived.Test.YtpjglnmnfmibnabChecked
import GoSem.Claim
import GoSem.ClaimJoined
import GoSem.ClaimMapViews
import Derived.JoinedTies
import Derived.KernelRfl
namespace Go.Proofs.Ytpjglnmnfmibnab
/- THE CELL 'sum', in the pinned program and in every row, IS THE sha256 OF THE DUMP (.gsa) THAT YtpjglnmnfmibnabProg.lean LOADS. Nothing in Lean hashes anything: it is a label: what it is worth is what the hold of that sum in a sandbox is worth. -/
noncomputable def Try.pinned : Pinned := { name := "ytpjglnmnfmibnab", sum := "3f66cabac106c8f8719bf423f67432d0776cc7b3fbc7890b0baad45bb05ff40e", checked := Try.checked }
namespace Rows
def none {H : Type} : Left H := { results := [], args := [] }

/-- 'laws.FnCloseSame': WHATEVER THE INPUT: true; the input reads as it did. -/
def fnCloseSameSpec : ChangeSpec := { name := "fnCloseSame", fn := fun _ => fun
  | [d] => { results := [.lit (.bool true)], args := [d] }
  | _ => none }
def fnCloseSameRow : OpenClaim := { program := "ytpjglnmnfmibnab", sum := "3f66cabac106c8f8719bf423f67432d0776cc7b3fbc7890b0baad45bb05ff40e", func := "loop.example/radiointerferometer/laws.FnCloseSame", spec := "fnCloseSame", unfollowed := true, recurses := true, apart := false }
def FnCloseSameSaid : Prop := fnCloseSameRow.holds Try.pinned (OpenSpec.ofChange fnCloseSameSpec)

/-- ITS FALSE NEIGHBOUR: 'it returns false'. Refute it at one input. -/
def fnCloseSameWrong : ChangeSpec := { name := "fnCloseSame", fn := fun _ => fun
  | [d] => { results := [.lit (.bool false)], args := [d] }
  | _ => none }
def FnCloseSameWrongFalsely : Prop := fnCloseSameRow.holds Try.pinned (OpenSpec.ofChange fnCloseSameWrong)

/-- 'laws.FnCloseSamePhase': WHATEVER THE INPUT: true; the input reads as it did. -/
def fnCloseSamePhaseSpec : ChangeSpec := { name := "fnCloseSamePhase", fn := fun _ => fun
  | [d1, d2] => { results := [.lit (.bool true)], args := [d1, d2] }
  | _ => none }
def fnCloseSamePhaseRow : OpenClaim := { program := "ytpjglnmnfmibnab", sum := "3f66cabac106c8f8719bf423f67432d0776cc7b3fbc7890b0baad45bb05ff40e", func := "loop.example/radiointerferometer/laws.FnCloseSamePhase", spec := "fnCloseSamePhase", unfollowed := true, recurses := true, apart := false }
def FnCloseSamePhaseSaid : Prop := fnCloseSamePhaseRow.holds Try.pinned (OpenSpec.ofChange fnCloseSamePhaseSpec)

/-- ITS FALSE NEIGHBOUR: 'it returns false'. Refute it at one input. -/
def fnCloseSamePhaseWrong : ChangeSpec := { name := "fnCloseSamePhase", fn := fun _ => fun
  | [d1, d2] => { results := [.lit (.bool false)], args := [d1, d2] }
  | _ => none }
def FnCloseSamePhaseWrongFalsely : Prop := fnCloseSamePhaseRow.holds Try.pinned (OpenSpec.ofChange fnCloseSamePhaseWrong)

/-- 'laws.FnSolveGainsSame': WHATEVER THE INPUT: true; the input reads as it did. -/
def fnSolveGainsSameSpec : ChangeSpec := { name := "fnSolveGainsSame", fn := fun _ => fun
  | [d] => { results := [.lit (.bool true)], args := [d] }
  | _ => none }
def fnSolveGainsSameRow : OpenClaim := { program := "ytpjglnmnfmibnab", sum := "3f66cabac106c8f8719bf423f67432d0776cc7b3fbc7890b0baad45bb05ff40e", func := "loop.example/radiointerferometer/laws.FnSolveGainsSame", spec := "fnSolveGainsSame", unfollowed := true, recurses := true, apart := false }
def FnSolveGainsSameSaid : Prop := fnSolveGainsSameRow.holds Try.pinned (OpenSpec.ofChange fnSolveGainsSameSpec)

/-- ITS FALSE NEIGHBOUR: 'it returns false'. Refute it at one input. -/
def fnSolveGainsSameWrong : ChangeSpec := { name := "fnSolveGainsSame", fn := fun _ => fun
  | [d] => { results := [.lit (.bool false)], args := [d] }
  | _ => none }
def FnSolveGainsSameWrongFalsely : Prop := fnSolveGainsSameRow.holds Try.pinned (OpenSpec.ofChange fnSolveGainsSameWrong)

/-- 'laws.FnFlagSolve': WHATEVER THE INPUT: true; the input reads as it did. -/
def fnFlagSolveSpec : ChangeSpec := { name := "fnFlagSolve", fn := fun _ => fun
  | [d] => { results := [.lit (.bool true)], args := [d] }
  | _ => none }
def fnFlagSolveRow : OpenClaim := { program := "ytpjglnmnfmibnab", sum := "3f66cabac106c8f8719bf423f67432d0776cc7b3fbc7890b0baad45bb05ff40e", func := "loop.example/radiointerferometer/laws.FnFlagSolve", spec := "fnFlagSolve", unfollowed := true, recurses := true, apart := false }
def FnFlagSolveSaid : Prop := fnFlagSolveRow.holds Try.pinned (OpenSpec.ofChange fnFlagSolveSpec)

/-- ITS FALSE NEIGHBOUR: 'it returns false'. Refute it at one input. -/
def fnFlagSolveWrong : ChangeSpec := { name := "fnFlagSolve", fn := fun _ => fun
  | [d] => { results := [.lit (.bool false)], args := [d] }
  | _ => none }
def FnFlagSolveWrongFalsely : Prop := fnFlagSolveRow.holds Try.pinned (OpenSpec.ofChange fnFlagSolveWrong)

/-- 'laws.FnFlagSolveTree': WHATEVER THE INPUT: true; the input reads as it did. -/
def fnFlagSolveTreeSpec : ChangeSpec := { name := "fnFlagSolveTree", fn := fun _ => fun
  | [d] => { results := [.lit (.bool true)], args := [d] }
  | _ => none }
def fnFlagSolveTreeRow : OpenClaim := { program := "ytpjglnmnfmibnab", sum := "3f66cabac106c8f8719bf423f67432d0776cc7b3fbc7890b0baad45bb05ff40e", func := "loop.example/radiointerferometer/laws.FnFlagSolveTree", spec := "fnFlagSolveTree", unfollowed := true, recurses := true, apart := false }
def FnFlagSolveTreeSaid : Prop := fnFlagSolveTreeRow.holds Try.pinned (OpenSpec.ofChange fnFlagSolveTreeSpec)

/-- ITS FALSE NEIGHBOUR: 'it returns false'. Refute it at one input. -/
def fnFlagSolveTreeWrong : ChangeSpec := { name := "fnFlagSolveTree", fn := fun _ => fun
  | [d] => { results := [.lit (.bool false)], args := [d] }
  | _ => none }
def FnFlagSolveTreeWrongFalsely : Prop := fnFlagSolveTreeRow.holds Try.pinned (OpenSpec.ofChange fnFlagSolveTreeWrong)

/- THE SECOND FORM. 'bulk': how many values and letters a reading holds, each counted each time it is reached (what is shared counts as often as it is met; a slice's spare places count too). A statement '..UptoSaid' is the law's where the arguments, and the package variables that the reading takes, are together of bulk at most 1048576: NARROWER than '..Said'. Prove '..Said' where nothing that the law and all that it calls make is longer than what came in: it says more and counts as full. Else prove '..UptoSaid'. A law counts once. -/
mutual
def uptoBulk {H : Type} : DataW H → Nat
  | .lit (.string bytes) => bytes.length + 1
  | .lit _ => 1
  | .nil => 1
  | .ptr d => uptoBulk d + 1
  | .slice elems spare => uptoBulkAll elems + uptoBulkAll spare + 1
  | .agg parts => uptoBulkAll parts + 1
  | .iface _ d => uptoBulk d + 1
  | .map entries => uptoBulkEntries entries + 1
  | .held _ => 1
def uptoBulkAll {H : Type} : List (DataW H) → Nat
  | [] => 0
  | d :: r => uptoBulk d + uptoBulkAll r
def uptoBulkEntries {H : Type} : List (Lit × DataW H) → Nat
  | [] => 0
  | x :: r => uptoBulkEntry x + uptoBulkEntries r
def uptoBulkEntry {H : Type} : Lit × DataW H → Nat
  | (.string bytes, d) => bytes.length + uptoBulk d + 1
  | (_, d) => uptoBulk d + 1
 end
def uptoSmall : (H : Type) → List (DataW H) → Bool := fun _ ds => decide (uptoBulkAll ds ≤ 1048576)
def OpenSpec.upto (s : _root_.Go.ChangeSpec) : _root_.Go.OpenSpec := { _root_.Go.OpenSpec.ofChange s with cond := some uptoSmall }

/-- 'laws.FnCloseSame', WHERE WHAT IT READS IS OF BULK AT MOST 1048576: true; the input reads as it did. -/
def fnCloseSameUptoRow : OpenClaim := { program := "ytpjglnmnfmibnab", sum := "3f66cabac106c8f8719bf423f67432d0776cc7b3fbc7890b0baad45bb05ff40e", func := "loop.example/radiointerferometer/laws.FnCloseSame", spec := "fnCloseSame", unfollowed := true, recurses := true, apart := false, narrowed := true }
def FnCloseSameUptoSaid : Prop := fnCloseSameUptoRow.holds Try.pinned (OpenSpec.upto fnCloseSameSpec)

/-- 'laws.FnCloseSamePhase', WHERE WHAT IT READS IS OF BULK AT MOST 1048576: true; the input reads as it did. -/
def fnCloseSamePhaseUptoRow : OpenClaim := { program := "ytpjglnmnfmibnab", sum := "3f66cabac106c8f8719bf423f67432d0776cc7b3fbc7890b0baad45bb05ff40e", func := "loop.example/radiointerferometer/laws.FnCloseSamePhase", spec := "fnCloseSamePhase", unfollowed := true, recurses := true, apart := false, narrowed := true }
def FnCloseSamePhaseUptoSaid : Prop := fnCloseSamePhaseUptoRow.holds Try.pinned (OpenSpec.upto fnCloseSamePhaseSpec)

/-- 'laws.FnSolveGainsSame', WHERE WHAT IT READS IS OF BULK AT MOST 1048576: true; the input reads as it did. -/
def fnSolveGainsSameUptoRow : OpenClaim := { program := "ytpjglnmnfmibnab", sum := "3f66cabac106c8f8719bf423f67432d0776cc7b3fbc7890b0baad45bb05ff40e", func := "loop.example/radiointerferometer/laws.FnSolveGainsSame", spec := "fnSolveGainsSame", unfollowed := true, recurses := true, apart := false, narrowed := true }
def FnSolveGainsSameUptoSaid : Prop := fnSolveGainsSameUptoRow.holds Try.pinned (OpenSpec.upto fnSolveGainsSameSpec)

/-- 'laws.FnFlagSolve', WHERE WHAT IT READS IS OF BULK AT MOST 1048576: true; the input reads as it did. -/
def fnFlagSolveUptoRow : OpenClaim := { program := "ytpjglnmnfmibnab", sum := "3f66cabac106c8f8719bf423f67432d0776cc7b3fbc7890b0baad45bb05ff40e", func := "loop.example/radiointerferometer/laws.FnFlagSolve", spec := "fnFlagSolve", unfollowed := true, recurses := true, apart := false, narrowed := true }
def FnFlagSolveUptoSaid : Prop := fnFlagSolveUptoRow.holds Try.pinned (OpenSpec.upto fnFlagSolveSpec)

/-- 'laws.FnFlagSolveTree', WHERE WHAT IT READS IS OF BULK AT MOST 1048576: true; the input reads as it did. -/
def fnFlagSolveTreeUptoRow : OpenClaim := { program := "ytpjglnmnfmibnab", sum := "3f66cabac106c8f8719bf423f67432d0776cc7b3fbc7890b0baad45bb05ff40e", func := "loop.example/radiointerferometer/laws.FnFlagSolveTree", spec := "fnFlagSolveTree", unfollowed := true, recurses := true, apart := false, narrowed := true }
def FnFlagSolveTreeUptoSaid : Prop := fnFlagSolveTreeUptoRow.holds Try.pinned (OpenSpec.upto fnFlagSolveTreeSpec)

end Rows
end Go.Proofs.Ytpjglnmnfmibnab
