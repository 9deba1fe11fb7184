/-
  No cell of these rows narrows 'for every input' (looked for: loops, veiled, ifaces, maps, wideKeys, modest, calm, conditions, laid).
  DERIVED. THE GIVEN ROWS OF THIS SEAT. 6 by the template 'for every input the law returns true; each argument reads behind the call as it read before'; 0 by the template 'total and deterministic' (their statements: YtohbflekinafjaaTotals.lean).
  GIVEN WITH THE SEED: the statements are not yours to turn. If you find one false, say at which input.
  Laid BY PROGRAM, IN A SANDBOX (cutbox-rows.mjs): the forced cells as the released guide's own fill.sh prints them over the translation cd61ae1c920ea9f4… (all of the seat's roots in one cut). By AI agents, Wed Nov 11 2026. No macro, syntax, notation, axiom, sorry.
-/
import Derived.Test.YtohbflekinafjaaChecked
import GoSem.Claim
import GoSem.ClaimJoined
import GoSem.ClaimMapViews
import Derived.JoinedTies
import Derived.KernelRfl
namespace Go.Proofs.Ytohbflekinafjaa
/- THE CELL 'sum', in the pinned program and in every row, IS THE sha256 OF THE DUMP (.gsa) THAT YtohbflekinafjaaProg.lean LOADS. Nothing in Lean hashes anything: it is a label: what it is worth is what the hold of that sum in a sandbox is worth. -/
noncomputable def Try.pinned : Pinned := { name := "ytohbflekinafjaa", sum := "cd61ae1c920ea9f46ff2cfb8e789e1a79f6f116af66448354aeede955341c7aa", checked := Try.checked }
namespace Rows
def none {H : Type} : Left H := { results := [], args := [] }

/-- 'laws.FnExactDirtySame': WHATEVER THE INPUT: true; the input reads as it did. -/
def fnExactDirtySameSpec : ChangeSpec := { name := "fnExactDirtySame", fn := fun _ => fun
  | [d1, d2, d3] => { results := [.lit (.bool true)], args := [d1, d2, d3] }
  | _ => none }
def fnExactDirtySameRow : OpenClaim := { program := "ytohbflekinafjaa", sum := "cd61ae1c920ea9f46ff2cfb8e789e1a79f6f116af66448354aeede955341c7aa", func := "loop.example/radiointerferometer/laws.FnExactDirtySame", spec := "fnExactDirtySame", apart := false }
def FnExactDirtySameSaid : Prop := fnExactDirtySameRow.holds Try.pinned (OpenSpec.ofChange fnExactDirtySameSpec)

/-- ITS FALSE NEIGHBOUR: 'it returns false'. Refute it at one input. -/
def fnExactDirtySameWrong : ChangeSpec := { name := "fnExactDirtySame", fn := fun _ => fun
  | [d1, d2, d3] => { results := [.lit (.bool false)], args := [d1, d2, d3] }
  | _ => none }
def FnExactDirtySameWrongFalsely : Prop := fnExactDirtySameRow.holds Try.pinned (OpenSpec.ofChange fnExactDirtySameWrong)

/-- 'laws.FnExactGridMask': WHATEVER THE INPUT: true; the input reads as it did. -/
def fnExactGridMaskSpec : ChangeSpec := { name := "fnExactGridMask", fn := fun _ => fun
  | [d1, d2] => { results := [.lit (.bool true)], args := [d1, d2] }
  | _ => none }
def fnExactGridMaskRow : OpenClaim := { program := "ytohbflekinafjaa", sum := "cd61ae1c920ea9f46ff2cfb8e789e1a79f6f116af66448354aeede955341c7aa", func := "loop.example/radiointerferometer/laws.FnExactGridMask", spec := "fnExactGridMask", apart := false }
def FnExactGridMaskSaid : Prop := fnExactGridMaskRow.holds Try.pinned (OpenSpec.ofChange fnExactGridMaskSpec)

/-- ITS FALSE NEIGHBOUR: 'it returns false'. Refute it at one input. -/
def fnExactGridMaskWrong : ChangeSpec := { name := "fnExactGridMask", fn := fun _ => fun
  | [d1, d2] => { results := [.lit (.bool false)], args := [d1, d2] }
  | _ => none }
def FnExactGridMaskWrongFalsely : Prop := fnExactGridMaskRow.holds Try.pinned (OpenSpec.ofChange fnExactGridMaskWrong)

/-- 'laws.FnExactDirtyOf': WHATEVER THE INPUT: true; the input reads as it did. -/
def fnExactDirtyOfSpec : ChangeSpec := { name := "fnExactDirtyOf", fn := fun _ => fun
  | [d1, d2] => { results := [.lit (.bool true)], args := [d1, d2] }
  | _ => none }
def fnExactDirtyOfRow : OpenClaim := { program := "ytohbflekinafjaa", sum := "cd61ae1c920ea9f46ff2cfb8e789e1a79f6f116af66448354aeede955341c7aa", func := "loop.example/radiointerferometer/laws.FnExactDirtyOf", spec := "fnExactDirtyOf", apart := false }
def FnExactDirtyOfSaid : Prop := fnExactDirtyOfRow.holds Try.pinned (OpenSpec.ofChange fnExactDirtyOfSpec)

/-- ITS FALSE NEIGHBOUR: 'it returns false'. Refute it at one input. -/
def fnExactDirtyOfWrong : ChangeSpec := { name := "fnExactDirtyOf", fn := fun _ => fun
  | [d1, d2] => { results := [.lit (.bool false)], args := [d1, d2] }
  | _ => none }
def FnExactDirtyOfWrongFalsely : Prop := fnExactDirtyOfRow.holds Try.pinned (OpenSpec.ofChange fnExactDirtyOfWrong)

/-- 'laws.FnMask': WHATEVER THE INPUT: true; the input reads as it did. -/
def fnMaskSpec : ChangeSpec := { name := "fnMask", fn := fun _ => fun
  | [d] => { results := [.lit (.bool true)], args := [d] }
  | _ => none }
def fnMaskRow : OpenClaim := { program := "ytohbflekinafjaa", sum := "cd61ae1c920ea9f46ff2cfb8e789e1a79f6f116af66448354aeede955341c7aa", func := "loop.example/radiointerferometer/laws.FnMask", spec := "fnMask", apart := false }
def FnMaskSaid : Prop := fnMaskRow.holds Try.pinned (OpenSpec.ofChange fnMaskSpec)

/-- ITS FALSE NEIGHBOUR: 'it returns false'. Refute it at one input. -/
def fnMaskWrong : ChangeSpec := { name := "fnMask", fn := fun _ => fun
  | [d] => { results := [.lit (.bool false)], args := [d] }
  | _ => none }
def FnMaskWrongFalsely : Prop := fnMaskRow.holds Try.pinned (OpenSpec.ofChange fnMaskWrong)

/-- 'laws.FnMaskJoin': WHATEVER THE INPUT: true; the input reads as it did. -/
def fnMaskJoinSpec : ChangeSpec := { name := "fnMaskJoin", fn := fun _ => fun
  | [d] => { results := [.lit (.bool true)], args := [d] }
  | _ => none }
def fnMaskJoinRow : OpenClaim := { program := "ytohbflekinafjaa", sum := "cd61ae1c920ea9f46ff2cfb8e789e1a79f6f116af66448354aeede955341c7aa", func := "loop.example/radiointerferometer/laws.FnMaskJoin", spec := "fnMaskJoin", apart := false }
def FnMaskJoinSaid : Prop := fnMaskJoinRow.holds Try.pinned (OpenSpec.ofChange fnMaskJoinSpec)

/-- ITS FALSE NEIGHBOUR: 'it returns false'. Refute it at one input. -/
def fnMaskJoinWrong : ChangeSpec := { name := "fnMaskJoin", fn := fun _ => fun
  | [d] => { results := [.lit (.bool false)], args := [d] }
  | _ => none }
def FnMaskJoinWrongFalsely : Prop := fnMaskJoinRow.holds Try.pinned (OpenSpec.ofChange fnMaskJoinWrong)

/-- 'laws.FnDirtyHoles': WHATEVER THE INPUT: true; the input reads as it did. -/
def fnDirtyHolesSpec : ChangeSpec := { name := "fnDirtyHoles", fn := fun _ => fun
  | [d] => { results := [.lit (.bool true)], args := [d] }
  | _ => none }
def fnDirtyHolesRow : OpenClaim := { program := "ytohbflekinafjaa", sum := "cd61ae1c920ea9f46ff2cfb8e789e1a79f6f116af66448354aeede955341c7aa", func := "loop.example/radiointerferometer/laws.FnDirtyHoles", spec := "fnDirtyHoles", apart := false }
def FnDirtyHolesSaid : Prop := fnDirtyHolesRow.holds Try.pinned (OpenSpec.ofChange fnDirtyHolesSpec)

/-- ITS FALSE NEIGHBOUR: 'it returns false'. Refute it at one input. -/
def fnDirtyHolesWrong : ChangeSpec := { name := "fnDirtyHoles", fn := fun _ => fun
  | [d] => { results := [.lit (.bool false)], args := [d] }
  | _ => none }
def FnDirtyHolesWrongFalsely : Prop := fnDirtyHolesRow.holds Try.pinned (OpenSpec.ofChange fnDirtyHolesWrong)

/- THE SECOND FORM. 'bulk': how many values and letters a reading holds, each counted each time it is reached (what is shared counts as often as it is met; a slice's spare places count too). A statement '..UptoSaid' is the law's where the arguments, and the package variables that the reading takes, are together of bulk at most 1048576: NARROWER than '..Said'. Prove '..Said' where nothing that the law and all that it calls make is longer than what came in: it says more and counts as full. Else prove '..UptoSaid'. A law counts once. -/
mutual
def uptoBulk {H : Type} : DataW H → Nat
  | .lit (.string bytes) => bytes.length + 1
  | .lit _ => 1
  | .nil => 1
  | .ptr d => uptoBulk d + 1
  | .slice elems spare => uptoBulkAll elems + uptoBulkAll spare + 1
  | .agg parts => uptoBulkAll parts + 1
  | .iface _ d => uptoBulk d + 1
  | .map entries => uptoBulkEntries entries + 1
  | .held _ => 1
def uptoBulkAll {H : Type} : List (DataW H) → Nat
  | [] => 0
  | d :: r => uptoBulk d + uptoBulkAll r
def uptoBulkEntries {H : Type} : List (Lit × DataW H) → Nat
  | [] => 0
  | x :: r => uptoBulkEntry x + uptoBulkEntries r
def uptoBulkEntry {H : Type} : Lit × DataW H → Nat
  | (.string bytes, d) => bytes.length + uptoBulk d + 1
  | (_, d) => uptoBulk d + 1
 end
def uptoSmall : (H : Type) → List (DataW H) → Bool := fun _ ds => decide (uptoBulkAll ds ≤ 1048576)
def OpenSpec.upto (s : _root_.Go.ChangeSpec) : _root_.Go.OpenSpec := { _root_.Go.OpenSpec.ofChange s with cond := some uptoSmall }

/-- 'laws.FnExactDirtySame', WHERE WHAT IT READS IS OF BULK AT MOST 1048576: true; the input reads as it did. -/
def fnExactDirtySameUptoRow : OpenClaim := { program := "ytohbflekinafjaa", sum := "cd61ae1c920ea9f46ff2cfb8e789e1a79f6f116af66448354aeede955341c7aa", func := "loop.example/radiointerferometer/laws.FnExactDirtySame", spec := "fnExactDirtySame", apart := false, narrowed := true }
def FnExactDirtySameUptoSaid : Prop := fnExactDirtySameUptoRow.holds Try.pinned (OpenSpec.upto fnExactDirtySameSpec)

/-- 'laws.FnExactGridMask', WHERE WHAT IT READS IS OF BULK AT MOST 1048576: true; the input reads as it did. -/
def fnExactGridMaskUptoRow : OpenClaim := { program := "ytohbflekinafjaa", sum := "cd61ae1c920ea9f46ff2cfb8e789e1a79f6f116af66448354aeede955341c7aa", func := "loop.example/radiointerferometer/laws.FnExactGridMask", spec := "fnExactGridMask", apart := false, narrowed := true }
def FnExactGridMaskUptoSaid : Prop := fnExactGridMaskUptoRow.holds Try.pinned (OpenSpec.upto fnExactGridMaskSpec)

/-- 'laws.FnExactDirtyOf', WHERE WHAT IT READS IS OF BULK AT MOST 1048576: true; the input reads as it did. -/
def fnExactDirtyOfUptoRow : OpenClaim := { program := "ytohbflekinafjaa", sum := "cd61ae1c920ea9f46ff2cfb8e789e1a79f6f116af66448354aeede955341c7aa", func := "loop.example/radiointerferometer/laws.FnExactDirtyOf", spec := "fnExactDirtyOf", apart := false, narrowed := true }
def FnExactDirtyOfUptoSaid : Prop := fnExactDirtyOfUptoRow.holds Try.pinned (OpenSpec.upto fnExactDirtyOfSpec)

/-- 'laws.FnMask', WHERE WHAT IT READS IS OF BULK AT MOST 1048576: true; the input reads as it did. -/
def fnMaskUptoRow : OpenClaim := { program := "ytohbflekinafjaa", sum := "cd61ae1c920ea9f46ff2cfb8e789e1a79f6f116af66448354aeede955341c7aa", func := "loop.example/radiointerferometer/laws.FnMask", spec := "fnMask", apart := false, narrowed := true }
def FnMaskUptoSaid : Prop := fnMaskUptoRow.holds Try.pinned (OpenSpec.upto fnMaskSpec)

/-- 'laws.FnMaskJoin', WHERE WHAT IT READS IS OF BULK AT MOST 1048576: true; the input reads as it did. -/
def fnMaskJoinUptoRow : OpenClaim := { program := "ytohbflekinafjaa", sum := "cd61ae1c920ea9f46ff2cfb8e789e1a79f6f116af66448354aeede955341c7aa", func := "loop.example/radiointerferometer/laws.FnMaskJoin", spec := "fnMaskJoin", apart := false, narrowed := true }
def FnMaskJoinUptoSaid : Prop := fnMaskJoinUptoRow.holds Try.pinned (OpenSpec.upto fnMaskJoinSpec)

/-- 'laws.FnDirtyHoles', WHERE WHAT IT READS IS OF BULK AT MOST 1048576: true; the input reads as it did. -/
def fnDirtyHolesUptoRow : OpenClaim := { program := "ytohbflekinafjaa", sum := "cd61ae1c920ea9f46ff2cfb8e789e1a79f6f116af66448354aeede955341c7aa", func := "loop.example/radiointerferometer/laws.FnDirtyHoles", spec := "fnDirtyHoles", apart := false, narrowed := true }
def FnDirtyHolesUptoSaid : Prop := fnDirtyHolesUptoRow.holds Try.pinned (OpenSpec.upto fnDirtyHolesSpec)

end Rows
end Go.Proofs.Ytohbflekinafjaa
