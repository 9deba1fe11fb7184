/-
  No cell of these rows narrows 'for every input' (looked for: loops, veiled, ifaces, maps, wideKeys, modest, calm, conditions, laid).
  DERIVED. THE GIVEN ROWS OF THIS SEAT. 6 by the template 'for every input the law returns true; each argument reads behind the call as it read before'; 0 by the template 'total and deterministic' (their statements: YtohbflekinafjabTotals.lean).
  GIVEN WITH THE SEED: the statements are not yours to turn. If you find one false, say at which input.
  Laid BY PROGRAM, IN A SANDBOX (cutbox-rows.mjs): the forced cells as the released guide's own fill.sh prints them over the translation 5a93478b06331ba5… (all of the seat's roots in one cut). By AI agents, Wed Nov 11 2026. No macro, syntax, notation, axiom, sorry.
-/
import Derived.Test.YtohbflekinafjabChecked
import GoSem.Claim
import GoSem.ClaimJoined
import GoSem.ClaimMapViews
import Derived.JoinedTies
import Derived.KernelRfl
namespace Go.Proofs.Ytohbflekinafjab
/- THE CELL 'sum', in the pinned program and in every row, IS THE sha256 OF THE DUMP (.gsa) THAT YtohbflekinafjabProg.lean LOADS. Nothing in Lean hashes anything: it is a label: what it is worth is what the hold of that sum in a sandbox is worth. -/
noncomputable def Try.pinned : Pinned := { name := "ytohbflekinafjab", sum := "5a93478b06331ba54fb8e233c3b170f604acc0303162a7b7175f4b363f3ef782", checked := Try.checked }
namespace Rows
def none {H : Type} : Left H := { results := [], args := [] }

/-- 'laws.FnDirtyTwice': WHATEVER THE INPUT: true; the input reads as it did. -/
def fnDirtyTwiceSpec : ChangeSpec := { name := "fnDirtyTwice", fn := fun _ => fun
  | [d] => { results := [.lit (.bool true)], args := [d] }
  | _ => none }
def fnDirtyTwiceRow : OpenClaim := { program := "ytohbflekinafjab", sum := "5a93478b06331ba54fb8e233c3b170f604acc0303162a7b7175f4b363f3ef782", func := "loop.example/radiointerferometer/laws.FnDirtyTwice", spec := "fnDirtyTwice", apart := false }
def FnDirtyTwiceSaid : Prop := fnDirtyTwiceRow.holds Try.pinned (OpenSpec.ofChange fnDirtyTwiceSpec)

/-- ITS FALSE NEIGHBOUR: 'it returns false'. Refute it at one input. -/
def fnDirtyTwiceWrong : ChangeSpec := { name := "fnDirtyTwice", fn := fun _ => fun
  | [d] => { results := [.lit (.bool false)], args := [d] }
  | _ => none }
def FnDirtyTwiceWrongFalsely : Prop := fnDirtyTwiceRow.holds Try.pinned (OpenSpec.ofChange fnDirtyTwiceWrong)

/-- 'laws.FnDirtyFull': WHATEVER THE INPUT: true; the input reads as it did. -/
def fnDirtyFullSpec : ChangeSpec := { name := "fnDirtyFull", fn := fun _ => fun
  | [d] => { results := [.lit (.bool true)], args := [d] }
  | _ => none }
def fnDirtyFullRow : OpenClaim := { program := "ytohbflekinafjab", sum := "5a93478b06331ba54fb8e233c3b170f604acc0303162a7b7175f4b363f3ef782", func := "loop.example/radiointerferometer/laws.FnDirtyFull", spec := "fnDirtyFull", apart := false }
def FnDirtyFullSaid : Prop := fnDirtyFullRow.holds Try.pinned (OpenSpec.ofChange fnDirtyFullSpec)

/-- ITS FALSE NEIGHBOUR: 'it returns false'. Refute it at one input. -/
def fnDirtyFullWrong : ChangeSpec := { name := "fnDirtyFull", fn := fun _ => fun
  | [d] => { results := [.lit (.bool false)], args := [d] }
  | _ => none }
def FnDirtyFullWrongFalsely : Prop := fnDirtyFullRow.holds Try.pinned (OpenSpec.ofChange fnDirtyFullWrong)

/-- 'laws.FnDirtyShift': WHATEVER THE INPUT: true; the input reads as it did. -/
def fnDirtyShiftSpec : ChangeSpec := { name := "fnDirtyShift", fn := fun _ => fun
  | [d1, d2] => { results := [.lit (.bool true)], args := [d1, d2] }
  | _ => none }
def fnDirtyShiftRow : OpenClaim := { program := "ytohbflekinafjab", sum := "5a93478b06331ba54fb8e233c3b170f604acc0303162a7b7175f4b363f3ef782", func := "loop.example/radiointerferometer/laws.FnDirtyShift", spec := "fnDirtyShift", apart := false }
def FnDirtyShiftSaid : Prop := fnDirtyShiftRow.holds Try.pinned (OpenSpec.ofChange fnDirtyShiftSpec)

/-- ITS FALSE NEIGHBOUR: 'it returns false'. Refute it at one input. -/
def fnDirtyShiftWrong : ChangeSpec := { name := "fnDirtyShift", fn := fun _ => fun
  | [d1, d2] => { results := [.lit (.bool false)], args := [d1, d2] }
  | _ => none }
def FnDirtyShiftWrongFalsely : Prop := fnDirtyShiftRow.holds Try.pinned (OpenSpec.ofChange fnDirtyShiftWrong)

/-- 'laws.FnDirtyTransform': WHATEVER THE INPUT: true; the input reads as it did. -/
def fnDirtyTransformSpec : ChangeSpec := { name := "fnDirtyTransform", fn := fun _ => fun
  | [d] => { results := [.lit (.bool true)], args := [d] }
  | _ => none }
def fnDirtyTransformRow : OpenClaim := { program := "ytohbflekinafjab", sum := "5a93478b06331ba54fb8e233c3b170f604acc0303162a7b7175f4b363f3ef782", func := "loop.example/radiointerferometer/laws.FnDirtyTransform", spec := "fnDirtyTransform", apart := false }
def FnDirtyTransformSaid : Prop := fnDirtyTransformRow.holds Try.pinned (OpenSpec.ofChange fnDirtyTransformSpec)

/-- ITS FALSE NEIGHBOUR: 'it returns false'. Refute it at one input. -/
def fnDirtyTransformWrong : ChangeSpec := { name := "fnDirtyTransform", fn := fun _ => fun
  | [d] => { results := [.lit (.bool false)], args := [d] }
  | _ => none }
def FnDirtyTransformWrongFalsely : Prop := fnDirtyTransformRow.holds Try.pinned (OpenSpec.ofChange fnDirtyTransformWrong)

/-- 'laws.FnDirtySameHoles': WHATEVER THE INPUT: true; the input reads as it did. -/
def fnDirtySameHolesSpec : ChangeSpec := { name := "fnDirtySameHoles", fn := fun _ => fun
  | [d] => { results := [.lit (.bool true)], args := [d] }
  | _ => none }
def fnDirtySameHolesRow : OpenClaim := { program := "ytohbflekinafjab", sum := "5a93478b06331ba54fb8e233c3b170f604acc0303162a7b7175f4b363f3ef782", func := "loop.example/radiointerferometer/laws.FnDirtySameHoles", spec := "fnDirtySameHoles", apart := false }
def FnDirtySameHolesSaid : Prop := fnDirtySameHolesRow.holds Try.pinned (OpenSpec.ofChange fnDirtySameHolesSpec)

/-- ITS FALSE NEIGHBOUR: 'it returns false'. Refute it at one input. -/
def fnDirtySameHolesWrong : ChangeSpec := { name := "fnDirtySameHoles", fn := fun _ => fun
  | [d] => { results := [.lit (.bool false)], args := [d] }
  | _ => none }
def FnDirtySameHolesWrongFalsely : Prop := fnDirtySameHolesRow.holds Try.pinned (OpenSpec.ofChange fnDirtySameHolesWrong)

/-- 'laws.FnDirtySame': WHATEVER THE INPUT: true; the input reads as it did. -/
def fnDirtySameSpec : ChangeSpec := { name := "fnDirtySame", fn := fun _ => fun
  | [d] => { results := [.lit (.bool true)], args := [d] }
  | _ => none }
def fnDirtySameRow : OpenClaim := { program := "ytohbflekinafjab", sum := "5a93478b06331ba54fb8e233c3b170f604acc0303162a7b7175f4b363f3ef782", func := "loop.example/radiointerferometer/laws.FnDirtySame", spec := "fnDirtySame", apart := false }
def FnDirtySameSaid : Prop := fnDirtySameRow.holds Try.pinned (OpenSpec.ofChange fnDirtySameSpec)

/-- ITS FALSE NEIGHBOUR: 'it returns false'. Refute it at one input. -/
def fnDirtySameWrong : ChangeSpec := { name := "fnDirtySame", fn := fun _ => fun
  | [d] => { results := [.lit (.bool false)], args := [d] }
  | _ => none }
def FnDirtySameWrongFalsely : Prop := fnDirtySameRow.holds Try.pinned (OpenSpec.ofChange fnDirtySameWrong)

/- THE SECOND FORM. 'bulk': how many values and letters a reading holds, each counted each time it is reached (what is shared counts as often as it is met; a slice's spare places count too). A statement '..UptoSaid' is the law's where the arguments, and the package variables that the reading takes, are together of bulk at most 1048576: NARROWER than '..Said'. Prove '..Said' where nothing that the law and all that it calls make is longer than what came in: it says more and counts as full. Else prove '..UptoSaid'. A law counts once. -/
mutual
def uptoBulk {H : Type} : DataW H → Nat
  | .lit (.string bytes) => bytes.length + 1
  | .lit _ => 1
  | .nil => 1
  | .ptr d => uptoBulk d + 1
  | .slice elems spare => uptoBulkAll elems + uptoBulkAll spare + 1
  | .agg parts => uptoBulkAll parts + 1
  | .iface _ d => uptoBulk d + 1
  | .map entries => uptoBulkEntries entries + 1
  | .held _ => 1
def uptoBulkAll {H : Type} : List (DataW H) → Nat
  | [] => 0
  | d :: r => uptoBulk d + uptoBulkAll r
def uptoBulkEntries {H : Type} : List (Lit × DataW H) → Nat
  | [] => 0
  | x :: r => uptoBulkEntry x + uptoBulkEntries r
def uptoBulkEntry {H : Type} : Lit × DataW H → Nat
  | (.string bytes, d) => bytes.length + uptoBulk d + 1
  | (_, d) => uptoBulk d + 1
 end
def uptoSmall : (H : Type) → List (DataW H) → Bool := fun _ ds => decide (uptoBulkAll ds ≤ 1048576)
def OpenSpec.upto (s : _root_.Go.ChangeSpec) : _root_.Go.OpenSpec := { _root_.Go.OpenSpec.ofChange s with cond := some uptoSmall }

/-- 'laws.FnDirtyTwice', WHERE WHAT IT READS IS OF BULK AT MOST 1048576: true; the input reads as it did. -/
def fnDirtyTwiceUptoRow : OpenClaim := { program := "ytohbflekinafjab", sum := "5a93478b06331ba54fb8e233c3b170f604acc0303162a7b7175f4b363f3ef782", func := "loop.example/radiointerferometer/laws.FnDirtyTwice", spec := "fnDirtyTwice", apart := false, narrowed := true }
def FnDirtyTwiceUptoSaid : Prop := fnDirtyTwiceUptoRow.holds Try.pinned (OpenSpec.upto fnDirtyTwiceSpec)

/-- 'laws.FnDirtyFull', WHERE WHAT IT READS IS OF BULK AT MOST 1048576: true; the input reads as it did. -/
def fnDirtyFullUptoRow : OpenClaim := { program := "ytohbflekinafjab", sum := "5a93478b06331ba54fb8e233c3b170f604acc0303162a7b7175f4b363f3ef782", func := "loop.example/radiointerferometer/laws.FnDirtyFull", spec := "fnDirtyFull", apart := false, narrowed := true }
def FnDirtyFullUptoSaid : Prop := fnDirtyFullUptoRow.holds Try.pinned (OpenSpec.upto fnDirtyFullSpec)

/-- 'laws.FnDirtyShift', WHERE WHAT IT READS IS OF BULK AT MOST 1048576: true; the input reads as it did. -/
def fnDirtyShiftUptoRow : OpenClaim := { program := "ytohbflekinafjab", sum := "5a93478b06331ba54fb8e233c3b170f604acc0303162a7b7175f4b363f3ef782", func := "loop.example/radiointerferometer/laws.FnDirtyShift", spec := "fnDirtyShift", apart := false, narrowed := true }
def FnDirtyShiftUptoSaid : Prop := fnDirtyShiftUptoRow.holds Try.pinned (OpenSpec.upto fnDirtyShiftSpec)

/-- 'laws.FnDirtyTransform', WHERE WHAT IT READS IS OF BULK AT MOST 1048576: true; the input reads as it did. -/
def fnDirtyTransformUptoRow : OpenClaim := { program := "ytohbflekinafjab", sum := "5a93478b06331ba54fb8e233c3b170f604acc0303162a7b7175f4b363f3ef782", func := "loop.example/radiointerferometer/laws.FnDirtyTransform", spec := "fnDirtyTransform", apart := false, narrowed := true }
def FnDirtyTransformUptoSaid : Prop := fnDirtyTransformUptoRow.holds Try.pinned (OpenSpec.upto fnDirtyTransformSpec)

/-- 'laws.FnDirtySameHoles', WHERE WHAT IT READS IS OF BULK AT MOST 1048576: true; the input reads as it did. -/
def fnDirtySameHolesUptoRow : OpenClaim := { program := "ytohbflekinafjab", sum := "5a93478b06331ba54fb8e233c3b170f604acc0303162a7b7175f4b363f3ef782", func := "loop.example/radiointerferometer/laws.FnDirtySameHoles", spec := "fnDirtySameHoles", apart := false, narrowed := true }
def FnDirtySameHolesUptoSaid : Prop := fnDirtySameHolesUptoRow.holds Try.pinned (OpenSpec.upto fnDirtySameHolesSpec)

/-- 'laws.FnDirtySame', WHERE WHAT IT READS IS OF BULK AT MOST 1048576: true; the input reads as it did. -/
def fnDirtySameUptoRow : OpenClaim := { program := "ytohbflekinafjab", sum := "5a93478b06331ba54fb8e233c3b170f604acc0303162a7b7175f4b363f3ef782", func := "loop.example/radiointerferometer/laws.FnDirtySame", spec := "fnDirtySame", apart := false, narrowed := true }
def FnDirtySameUptoSaid : Prop := fnDirtySameUptoRow.holds Try.pinned (OpenSpec.upto fnDirtySameSpec)

end Rows
end Go.Proofs.Ytohbflekinafjab
