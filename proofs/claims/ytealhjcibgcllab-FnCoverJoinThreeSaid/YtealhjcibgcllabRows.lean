/-
  No cell of these rows narrows 'for every input' (looked for: loops, veiled, ifaces, maps, wideKeys, modest, calm, conditions, laid).
  DERIVED. THE GIVEN ROWS OF THIS SEAT. 7 by the template 'for every input the law returns true; each argument reads behind the call as it read before'; 0 by the template 'total and deterministic' (their statements: YtealhjcibgcllabTotals.lean).
  GIVEN WITH THE SEED: the statements are not yours to turn. If you find one false, say at which input.
  Laid BY PROGRAM, IN A SANDBOX (cutbox-rows.mjs): the forced cells as the released guide's own fill.sh prints them over the translation 10a86c371044f843… (all of the seat's roots in one cut). By AI agents, Wed Nov 11 2026. No macro, syntax, notation, axiom, sorry.
-/
import Derived.Test.YtealhjcibgcllabChecked
import GoSem.Claim
import GoSem.ClaimJoined
import GoSem.ClaimMapViews
import Derived.JoinedTies
import Derived.KernelRfl
namespace Go.Proofs.Ytealhjcibgcllab
/- THE CELL 'sum', in the pinned program and in every row, IS THE sha256 OF THE DUMP (.gsa) THAT YtealhjcibgcllabProg.lean LOADS. Nothing in Lean hashes anything: it is a label: what it is worth is what the hold of that sum in a sandbox is worth. -/
noncomputable def Try.pinned : Pinned := { name := "ytealhjcibgcllab", sum := "10a86c371044f8437435e47fe1d162d46152d65fb6838bd3122c26eda37a61da", checked := Try.checked }
namespace Rows
def none {H : Type} : Left H := { results := [], args := [] }

/-- 'laws.FnCoverMany': WHATEVER THE INPUT: true; the input reads as it did. -/
def fnCoverManySpec : ChangeSpec := { name := "fnCoverMany", fn := fun _ => fun
  | [d] => { results := [.lit (.bool true)], args := [d] }
  | _ => none }
def fnCoverManyRow : OpenClaim := { program := "ytealhjcibgcllab", sum := "10a86c371044f8437435e47fe1d162d46152d65fb6838bd3122c26eda37a61da", func := "loop.example/radiointerferometer/laws.FnCoverMany", spec := "fnCoverMany", apart := false }
def FnCoverManySaid : Prop := fnCoverManyRow.holds Try.pinned (OpenSpec.ofChange fnCoverManySpec)

/-- ITS FALSE NEIGHBOUR: 'it returns false'. Refute it at one input. -/
def fnCoverManyWrong : ChangeSpec := { name := "fnCoverMany", fn := fun _ => fun
  | [d] => { results := [.lit (.bool false)], args := [d] }
  | _ => none }
def FnCoverManyWrongFalsely : Prop := fnCoverManyRow.holds Try.pinned (OpenSpec.ofChange fnCoverManyWrong)

/-- 'laws.FnCoverJoinThree': WHATEVER THE INPUT: true; the input reads as it did. -/
def fnCoverJoinThreeSpec : ChangeSpec := { name := "fnCoverJoinThree", fn := fun _ => fun
  | [d] => { results := [.lit (.bool true)], args := [d] }
  | _ => none }
def fnCoverJoinThreeRow : OpenClaim := { program := "ytealhjcibgcllab", sum := "10a86c371044f8437435e47fe1d162d46152d65fb6838bd3122c26eda37a61da", func := "loop.example/radiointerferometer/laws.FnCoverJoinThree", spec := "fnCoverJoinThree", apart := false }
def FnCoverJoinThreeSaid : Prop := fnCoverJoinThreeRow.holds Try.pinned (OpenSpec.ofChange fnCoverJoinThreeSpec)

/-- ITS FALSE NEIGHBOUR: 'it returns false'. Refute it at one input. -/
def fnCoverJoinThreeWrong : ChangeSpec := { name := "fnCoverJoinThree", fn := fun _ => fun
  | [d] => { results := [.lit (.bool false)], args := [d] }
  | _ => none }
def FnCoverJoinThreeWrongFalsely : Prop := fnCoverJoinThreeRow.holds Try.pinned (OpenSpec.ofChange fnCoverJoinThreeWrong)

/-- 'laws.FnCoverTurn': WHATEVER THE INPUT: true; the input reads as it did. -/
def fnCoverTurnSpec : ChangeSpec := { name := "fnCoverTurn", fn := fun _ => fun
  | [d] => { results := [.lit (.bool true)], args := [d] }
  | _ => none }
def fnCoverTurnRow : OpenClaim := { program := "ytealhjcibgcllab", sum := "10a86c371044f8437435e47fe1d162d46152d65fb6838bd3122c26eda37a61da", func := "loop.example/radiointerferometer/laws.FnCoverTurn", spec := "fnCoverTurn", apart := false }
def FnCoverTurnSaid : Prop := fnCoverTurnRow.holds Try.pinned (OpenSpec.ofChange fnCoverTurnSpec)

/-- ITS FALSE NEIGHBOUR: 'it returns false'. Refute it at one input. -/
def fnCoverTurnWrong : ChangeSpec := { name := "fnCoverTurn", fn := fun _ => fun
  | [d] => { results := [.lit (.bool false)], args := [d] }
  | _ => none }
def FnCoverTurnWrongFalsely : Prop := fnCoverTurnRow.holds Try.pinned (OpenSpec.ofChange fnCoverTurnWrong)

/-- 'laws.FnCoverTurnJoin': WHATEVER THE INPUT: true; the input reads as it did. -/
def fnCoverTurnJoinSpec : ChangeSpec := { name := "fnCoverTurnJoin", fn := fun _ => fun
  | [d] => { results := [.lit (.bool true)], args := [d] }
  | _ => none }
def fnCoverTurnJoinRow : OpenClaim := { program := "ytealhjcibgcllab", sum := "10a86c371044f8437435e47fe1d162d46152d65fb6838bd3122c26eda37a61da", func := "loop.example/radiointerferometer/laws.FnCoverTurnJoin", spec := "fnCoverTurnJoin", apart := false }
def FnCoverTurnJoinSaid : Prop := fnCoverTurnJoinRow.holds Try.pinned (OpenSpec.ofChange fnCoverTurnJoinSpec)

/-- ITS FALSE NEIGHBOUR: 'it returns false'. Refute it at one input. -/
def fnCoverTurnJoinWrong : ChangeSpec := { name := "fnCoverTurnJoin", fn := fun _ => fun
  | [d] => { results := [.lit (.bool false)], args := [d] }
  | _ => none }
def FnCoverTurnJoinWrongFalsely : Prop := fnCoverTurnJoinRow.holds Try.pinned (OpenSpec.ofChange fnCoverTurnJoinWrong)

/-- 'laws.FnCoverJoin': WHATEVER THE INPUT: true; the input reads as it did. -/
def fnCoverJoinSpec : ChangeSpec := { name := "fnCoverJoin", fn := fun _ => fun
  | [d] => { results := [.lit (.bool true)], args := [d] }
  | _ => none }
def fnCoverJoinRow : OpenClaim := { program := "ytealhjcibgcllab", sum := "10a86c371044f8437435e47fe1d162d46152d65fb6838bd3122c26eda37a61da", func := "loop.example/radiointerferometer/laws.FnCoverJoin", spec := "fnCoverJoin", apart := false }
def FnCoverJoinSaid : Prop := fnCoverJoinRow.holds Try.pinned (OpenSpec.ofChange fnCoverJoinSpec)

/-- ITS FALSE NEIGHBOUR: 'it returns false'. Refute it at one input. -/
def fnCoverJoinWrong : ChangeSpec := { name := "fnCoverJoin", fn := fun _ => fun
  | [d] => { results := [.lit (.bool false)], args := [d] }
  | _ => none }
def FnCoverJoinWrongFalsely : Prop := fnCoverJoinRow.holds Try.pinned (OpenSpec.ofChange fnCoverJoinWrong)

/-- 'laws.FnCoverJoinHoles': WHATEVER THE INPUT: true; the input reads as it did. -/
def fnCoverJoinHolesSpec : ChangeSpec := { name := "fnCoverJoinHoles", fn := fun _ => fun
  | [d] => { results := [.lit (.bool true)], args := [d] }
  | _ => none }
def fnCoverJoinHolesRow : OpenClaim := { program := "ytealhjcibgcllab", sum := "10a86c371044f8437435e47fe1d162d46152d65fb6838bd3122c26eda37a61da", func := "loop.example/radiointerferometer/laws.FnCoverJoinHoles", spec := "fnCoverJoinHoles", apart := false }
def FnCoverJoinHolesSaid : Prop := fnCoverJoinHolesRow.holds Try.pinned (OpenSpec.ofChange fnCoverJoinHolesSpec)

/-- ITS FALSE NEIGHBOUR: 'it returns false'. Refute it at one input. -/
def fnCoverJoinHolesWrong : ChangeSpec := { name := "fnCoverJoinHoles", fn := fun _ => fun
  | [d] => { results := [.lit (.bool false)], args := [d] }
  | _ => none }
def FnCoverJoinHolesWrongFalsely : Prop := fnCoverJoinHolesRow.holds Try.pinned (OpenSpec.ofChange fnCoverJoinHolesWrong)

/-- 'laws.FnCoverTurnHoles': WHATEVER THE INPUT: true; the input reads as it did. -/
def fnCoverTurnHolesSpec : ChangeSpec := { name := "fnCoverTurnHoles", fn := fun _ => fun
  | [d] => { results := [.lit (.bool true)], args := [d] }
  | _ => none }
def fnCoverTurnHolesRow : OpenClaim := { program := "ytealhjcibgcllab", sum := "10a86c371044f8437435e47fe1d162d46152d65fb6838bd3122c26eda37a61da", func := "loop.example/radiointerferometer/laws.FnCoverTurnHoles", spec := "fnCoverTurnHoles", apart := false }
def FnCoverTurnHolesSaid : Prop := fnCoverTurnHolesRow.holds Try.pinned (OpenSpec.ofChange fnCoverTurnHolesSpec)

/-- ITS FALSE NEIGHBOUR: 'it returns false'. Refute it at one input. -/
def fnCoverTurnHolesWrong : ChangeSpec := { name := "fnCoverTurnHoles", fn := fun _ => fun
  | [d] => { results := [.lit (.bool false)], args := [d] }
  | _ => none }
def FnCoverTurnHolesWrongFalsely : Prop := fnCoverTurnHolesRow.holds Try.pinned (OpenSpec.ofChange fnCoverTurnHolesWrong)

/- THE SECOND FORM. 'bulk': how many values and letters a reading holds, each counted each time it is reached (what is shared counts as often as it is met; a slice's spare places count too). A statement '..UptoSaid' is the law's where the arguments, and the package variables that the reading takes, are together of bulk at most 1048576: NARROWER than '..Said'. Prove '..Said' where nothing that the law and all that it calls make is longer than what came in: it says more and counts as full. Else prove '..UptoSaid'. A law counts once. -/
mutual
def uptoBulk {H : Type} : DataW H → Nat
  | .lit (.string bytes) => bytes.length + 1
  | .lit _ => 1
  | .nil => 1
  | .ptr d => uptoBulk d + 1
  | .slice elems spare => uptoBulkAll elems + uptoBulkAll spare + 1
  | .agg parts => uptoBulkAll parts + 1
  | .iface _ d => uptoBulk d + 1
  | .map entries => uptoBulkEntries entries + 1
  | .held _ => 1
def uptoBulkAll {H : Type} : List (DataW H) → Nat
  | [] => 0
  | d :: r => uptoBulk d + uptoBulkAll r
def uptoBulkEntries {H : Type} : List (Lit × DataW H) → Nat
  | [] => 0
  | x :: r => uptoBulkEntry x + uptoBulkEntries r
def uptoBulkEntry {H : Type} : Lit × DataW H → Nat
  | (.string bytes, d) => bytes.length + uptoBulk d + 1
  | (_, d) => uptoBulk d + 1
 end
def uptoSmall : (H : Type) → List (DataW H) → Bool := fun _ ds => decide (uptoBulkAll ds ≤ 1048576)
def OpenSpec.upto (s : _root_.Go.ChangeSpec) : _root_.Go.OpenSpec := { _root_.Go.OpenSpec.ofChange s with cond := some uptoSmall }

/-- 'laws.FnCoverMany', WHERE WHAT IT READS IS OF BULK AT MOST 1048576: true; the input reads as it did. -/
def fnCoverManyUptoRow : OpenClaim := { program := "ytealhjcibgcllab", sum := "10a86c371044f8437435e47fe1d162d46152d65fb6838bd3122c26eda37a61da", func := "loop.example/radiointerferometer/laws.FnCoverMany", spec := "fnCoverMany", apart := false, narrowed := true }
def FnCoverManyUptoSaid : Prop := fnCoverManyUptoRow.holds Try.pinned (OpenSpec.upto fnCoverManySpec)

/-- 'laws.FnCoverJoinThree', WHERE WHAT IT READS IS OF BULK AT MOST 1048576: true; the input reads as it did. -/
def fnCoverJoinThreeUptoRow : OpenClaim := { program := "ytealhjcibgcllab", sum := "10a86c371044f8437435e47fe1d162d46152d65fb6838bd3122c26eda37a61da", func := "loop.example/radiointerferometer/laws.FnCoverJoinThree", spec := "fnCoverJoinThree", apart := false, narrowed := true }
def FnCoverJoinThreeUptoSaid : Prop := fnCoverJoinThreeUptoRow.holds Try.pinned (OpenSpec.upto fnCoverJoinThreeSpec)

/-- 'laws.FnCoverTurn', WHERE WHAT IT READS IS OF BULK AT MOST 1048576: true; the input reads as it did. -/
def fnCoverTurnUptoRow : OpenClaim := { program := "ytealhjcibgcllab", sum := "10a86c371044f8437435e47fe1d162d46152d65fb6838bd3122c26eda37a61da", func := "loop.example/radiointerferometer/laws.FnCoverTurn", spec := "fnCoverTurn", apart := false, narrowed := true }
def FnCoverTurnUptoSaid : Prop := fnCoverTurnUptoRow.holds Try.pinned (OpenSpec.upto fnCoverTurnSpec)

/-- 'laws.FnCoverTurnJoin', WHERE WHAT IT READS IS OF BULK AT MOST 1048576: true; the input reads as it did. -/
def fnCoverTurnJoinUptoRow : OpenClaim := { program := "ytealhjcibgcllab", sum := "10a86c371044f8437435e47fe1d162d46152d65fb6838bd3122c26eda37a61da", func := "loop.example/radiointerferometer/laws.FnCoverTurnJoin", spec := "fnCoverTurnJoin", apart := false, narrowed := true }
def FnCoverTurnJoinUptoSaid : Prop := fnCoverTurnJoinUptoRow.holds Try.pinned (OpenSpec.upto fnCoverTurnJoinSpec)

/-- 'laws.FnCoverJoin', WHERE WHAT IT READS IS OF BULK AT MOST 1048576: true; the input reads as it did. -/
def fnCoverJoinUptoRow : OpenClaim := { program := "ytealhjcibgcllab", sum := "10a86c371044f8437435e47fe1d162d46152d65fb6838bd3122c26eda37a61da", func := "loop.example/radiointerferometer/laws.FnCoverJoin", spec := "fnCoverJoin", apart := false, narrowed := true }
def FnCoverJoinUptoSaid : Prop := fnCoverJoinUptoRow.holds Try.pinned (OpenSpec.upto fnCoverJoinSpec)

/-- 'laws.FnCoverJoinHoles', WHERE WHAT IT READS IS OF BULK AT MOST 1048576: true; the input reads as it did. -/
def fnCoverJoinHolesUptoRow : OpenClaim := { program := "ytealhjcibgcllab", sum := "10a86c371044f8437435e47fe1d162d46152d65fb6838bd3122c26eda37a61da", func := "loop.example/radiointerferometer/laws.FnCoverJoinHoles", spec := "fnCoverJoinHoles", apart := false, narrowed := true }
def FnCoverJoinHolesUptoSaid : Prop := fnCoverJoinHolesUptoRow.holds Try.pinned (OpenSpec.upto fnCoverJoinHolesSpec)

/-- 'laws.FnCoverTurnHoles', WHERE WHAT IT READS IS OF BULK AT MOST 1048576: true; the input reads as it did. -/
def fnCoverTurnHolesUptoRow : OpenClaim := { program := "ytealhjcibgcllab", sum := "10a86c371044f8437435e47fe1d162d46152d65fb6838bd3122c26eda37a61da", func := "loop.example/radiointerferometer/laws.FnCoverTurnHoles", spec := "fnCoverTurnHoles", apart := false, narrowed := true }
def FnCoverTurnHolesUptoSaid : Prop := fnCoverTurnHolesUptoRow.holds Try.pinned (OpenSpec.upto fnCoverTurnHolesSpec)

end Rows
end Go.Proofs.Ytealhjcibgcllab
