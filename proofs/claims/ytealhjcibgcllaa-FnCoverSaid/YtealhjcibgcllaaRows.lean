/-
  No cell of these rows narrows 'for every input' (looked for: loops, veiled, ifaces, maps, wideKeys, modest, calm, conditions, laid).
  DERIVED. THE GIVEN ROWS OF THIS SEAT. 7 by the template 'for every input the law returns true; each argument reads behind the call as it read before'; 0 by the template 'total and deterministic' (their statements: YtealhjcibgcllaaTotals.lean).
  GIVEN WITH THE SEED: the statements are not yours to turn. If you find one false, say at which input.
  Laid BY PROGRAM, IN A SANDBOX (cutbox-rows.mjs): the forced cells as the released guide's own fill.sh prints them over the translation 5fd46810d30fc294… (all of the seat's roots in one cut). By AI agents, Wed Nov 11 2026. No macro, syntax, notation, axiom, sorry.
-/
import Derived.Test.YtealhjcibgcllaaChecked
import GoSem.Claim
import GoSem.ClaimJoined
import GoSem.ClaimMapViews
import Derived.JoinedTies
import Derived.KernelRfl
namespace Go.Proofs.Ytealhjcibgcllaa
/- THE CELL 'sum', in the pinned program and in every row, IS THE sha256 OF THE DUMP (.gsa) THAT YtealhjcibgcllaaProg.lean LOADS. Nothing in Lean hashes anything: it is a label: what it is worth is what the hold of that sum in a sandbox is worth. -/
noncomputable def Try.pinned : Pinned := { name := "ytealhjcibgcllaa", sum := "5fd46810d30fc294b080fb0549d62a6b54e103e64026ee6be1b6d66e1618ba09", checked := Try.checked }
namespace Rows
def none {H : Type} : Left H := { results := [], args := [] }

/-- 'laws.FnExactCoverValid': WHATEVER THE INPUT: true; the input reads as it did. -/
def fnExactCoverValidSpec : ChangeSpec := { name := "fnExactCoverValid", fn := fun _ => fun
  | [d] => { results := [.lit (.bool true)], args := [d] }
  | _ => none }
def fnExactCoverValidRow : OpenClaim := { program := "ytealhjcibgcllaa", sum := "5fd46810d30fc294b080fb0549d62a6b54e103e64026ee6be1b6d66e1618ba09", func := "loop.example/radiointerferometer/laws.FnExactCoverValid", spec := "fnExactCoverValid", apart := false }
def FnExactCoverValidSaid : Prop := fnExactCoverValidRow.holds Try.pinned (OpenSpec.ofChange fnExactCoverValidSpec)

/-- ITS FALSE NEIGHBOUR: 'it returns false'. Refute it at one input. -/
def fnExactCoverValidWrong : ChangeSpec := { name := "fnExactCoverValid", fn := fun _ => fun
  | [d] => { results := [.lit (.bool false)], args := [d] }
  | _ => none }
def FnExactCoverValidWrongFalsely : Prop := fnExactCoverValidRow.holds Try.pinned (OpenSpec.ofChange fnExactCoverValidWrong)

/-- 'laws.FnExactCoverMany': WHATEVER THE INPUT: true; the input reads as it did. -/
def fnExactCoverManySpec : ChangeSpec := { name := "fnExactCoverMany", fn := fun _ => fun
  | [d] => { results := [.lit (.bool true)], args := [d] }
  | _ => none }
def fnExactCoverManyRow : OpenClaim := { program := "ytealhjcibgcllaa", sum := "5fd46810d30fc294b080fb0549d62a6b54e103e64026ee6be1b6d66e1618ba09", func := "loop.example/radiointerferometer/laws.FnExactCoverMany", spec := "fnExactCoverMany", apart := false }
def FnExactCoverManySaid : Prop := fnExactCoverManyRow.holds Try.pinned (OpenSpec.ofChange fnExactCoverManySpec)

/-- ITS FALSE NEIGHBOUR: 'it returns false'. Refute it at one input. -/
def fnExactCoverManyWrong : ChangeSpec := { name := "fnExactCoverMany", fn := fun _ => fun
  | [d] => { results := [.lit (.bool false)], args := [d] }
  | _ => none }
def FnExactCoverManyWrongFalsely : Prop := fnExactCoverManyRow.holds Try.pinned (OpenSpec.ofChange fnExactCoverManyWrong)

/-- 'laws.FnCover': WHATEVER THE INPUT: true; the input reads as it did. -/
def fnCoverSpec : ChangeSpec := { name := "fnCover", fn := fun _ => fun
  | [d1, d2] => { results := [.lit (.bool true)], args := [d1, d2] }
  | _ => none }
def fnCoverRow : OpenClaim := { program := "ytealhjcibgcllaa", sum := "5fd46810d30fc294b080fb0549d62a6b54e103e64026ee6be1b6d66e1618ba09", func := "loop.example/radiointerferometer/laws.FnCover", spec := "fnCover", apart := false }
def FnCoverSaid : Prop := fnCoverRow.holds Try.pinned (OpenSpec.ofChange fnCoverSpec)

/-- ITS FALSE NEIGHBOUR: 'it returns false'. Refute it at one input. -/
def fnCoverWrong : ChangeSpec := { name := "fnCover", fn := fun _ => fun
  | [d1, d2] => { results := [.lit (.bool false)], args := [d1, d2] }
  | _ => none }
def FnCoverWrongFalsely : Prop := fnCoverRow.holds Try.pinned (OpenSpec.ofChange fnCoverWrong)

/-- 'laws.FnExactCoverHoles': WHATEVER THE INPUT: true; the input reads as it did. -/
def fnExactCoverHolesSpec : ChangeSpec := { name := "fnExactCoverHoles", fn := fun _ => fun
  | [d] => { results := [.lit (.bool true)], args := [d] }
  | _ => none }
def fnExactCoverHolesRow : OpenClaim := { program := "ytealhjcibgcllaa", sum := "5fd46810d30fc294b080fb0549d62a6b54e103e64026ee6be1b6d66e1618ba09", func := "loop.example/radiointerferometer/laws.FnExactCoverHoles", spec := "fnExactCoverHoles", apart := false }
def FnExactCoverHolesSaid : Prop := fnExactCoverHolesRow.holds Try.pinned (OpenSpec.ofChange fnExactCoverHolesSpec)

/-- ITS FALSE NEIGHBOUR: 'it returns false'. Refute it at one input. -/
def fnExactCoverHolesWrong : ChangeSpec := { name := "fnExactCoverHoles", fn := fun _ => fun
  | [d] => { results := [.lit (.bool false)], args := [d] }
  | _ => none }
def FnExactCoverHolesWrongFalsely : Prop := fnExactCoverHolesRow.holds Try.pinned (OpenSpec.ofChange fnExactCoverHolesWrong)

/-- 'laws.FnExactCoverJoin': WHATEVER THE INPUT: true; the input reads as it did. -/
def fnExactCoverJoinSpec : ChangeSpec := { name := "fnExactCoverJoin", fn := fun _ => fun
  | [d1, d2] => { results := [.lit (.bool true)], args := [d1, d2] }
  | _ => none }
def fnExactCoverJoinRow : OpenClaim := { program := "ytealhjcibgcllaa", sum := "5fd46810d30fc294b080fb0549d62a6b54e103e64026ee6be1b6d66e1618ba09", func := "loop.example/radiointerferometer/laws.FnExactCoverJoin", spec := "fnExactCoverJoin", apart := false }
def FnExactCoverJoinSaid : Prop := fnExactCoverJoinRow.holds Try.pinned (OpenSpec.ofChange fnExactCoverJoinSpec)

/-- ITS FALSE NEIGHBOUR: 'it returns false'. Refute it at one input. -/
def fnExactCoverJoinWrong : ChangeSpec := { name := "fnExactCoverJoin", fn := fun _ => fun
  | [d1, d2] => { results := [.lit (.bool false)], args := [d1, d2] }
  | _ => none }
def FnExactCoverJoinWrongFalsely : Prop := fnExactCoverJoinRow.holds Try.pinned (OpenSpec.ofChange fnExactCoverJoinWrong)

/-- 'laws.FnExactCoverTurn': WHATEVER THE INPUT: true; the input reads as it did. -/
def fnExactCoverTurnSpec : ChangeSpec := { name := "fnExactCoverTurn", fn := fun _ => fun
  | [d] => { results := [.lit (.bool true)], args := [d] }
  | _ => none }
def fnExactCoverTurnRow : OpenClaim := { program := "ytealhjcibgcllaa", sum := "5fd46810d30fc294b080fb0549d62a6b54e103e64026ee6be1b6d66e1618ba09", func := "loop.example/radiointerferometer/laws.FnExactCoverTurn", spec := "fnExactCoverTurn", apart := false }
def FnExactCoverTurnSaid : Prop := fnExactCoverTurnRow.holds Try.pinned (OpenSpec.ofChange fnExactCoverTurnSpec)

/-- ITS FALSE NEIGHBOUR: 'it returns false'. Refute it at one input. -/
def fnExactCoverTurnWrong : ChangeSpec := { name := "fnExactCoverTurn", fn := fun _ => fun
  | [d] => { results := [.lit (.bool false)], args := [d] }
  | _ => none }
def FnExactCoverTurnWrongFalsely : Prop := fnExactCoverTurnRow.holds Try.pinned (OpenSpec.ofChange fnExactCoverTurnWrong)

/-- 'laws.FnCoverHoles': WHATEVER THE INPUT: true; the input reads as it did. -/
def fnCoverHolesSpec : ChangeSpec := { name := "fnCoverHoles", fn := fun _ => fun
  | [d] => { results := [.lit (.bool true)], args := [d] }
  | _ => none }
def fnCoverHolesRow : OpenClaim := { program := "ytealhjcibgcllaa", sum := "5fd46810d30fc294b080fb0549d62a6b54e103e64026ee6be1b6d66e1618ba09", func := "loop.example/radiointerferometer/laws.FnCoverHoles", spec := "fnCoverHoles", apart := false }
def FnCoverHolesSaid : Prop := fnCoverHolesRow.holds Try.pinned (OpenSpec.ofChange fnCoverHolesSpec)

/-- ITS FALSE NEIGHBOUR: 'it returns false'. Refute it at one input. -/
def fnCoverHolesWrong : ChangeSpec := { name := "fnCoverHoles", fn := fun _ => fun
  | [d] => { results := [.lit (.bool false)], args := [d] }
  | _ => none }
def FnCoverHolesWrongFalsely : Prop := fnCoverHolesRow.holds Try.pinned (OpenSpec.ofChange fnCoverHolesWrong)

/- THE SECOND FORM. 'bulk': how many values and letters a reading holds, each counted each time it is reached (what is shared counts as often as it is met; a slice's spare places count too). A statement '..UptoSaid' is the law's where the arguments, and the package variables that the reading takes, are together of bulk at most 1048576: NARROWER than '..Said'. Prove '..Said' where nothing that the law and all that it calls make is longer than what came in: it says more and counts as full. Else prove '..UptoSaid'. A law counts once. -/
mutual
def uptoBulk {H : Type} : DataW H → Nat
  | .lit (.string bytes) => bytes.length + 1
  | .lit _ => 1
  | .nil => 1
  | .ptr d => uptoBulk d + 1
  | .slice elems spare => uptoBulkAll elems + uptoBulkAll spare + 1
  | .agg parts => uptoBulkAll parts + 1
  | .iface _ d => uptoBulk d + 1
  | .map entries => uptoBulkEntries entries + 1
  | .held _ => 1
def uptoBulkAll {H : Type} : List (DataW H) → Nat
  | [] => 0
  | d :: r => uptoBulk d + uptoBulkAll r
def uptoBulkEntries {H : Type} : List (Lit × DataW H) → Nat
  | [] => 0
  | x :: r => uptoBulkEntry x + uptoBulkEntries r
def uptoBulkEntry {H : Type} : Lit × DataW H → Nat
  | (.string bytes, d) => bytes.length + uptoBulk d + 1
  | (_, d) => uptoBulk d + 1
 end
def uptoSmall : (H : Type) → List (DataW H) → Bool := fun _ ds => decide (uptoBulkAll ds ≤ 1048576)
def OpenSpec.upto (s : _root_.Go.ChangeSpec) : _root_.Go.OpenSpec := { _root_.Go.OpenSpec.ofChange s with cond := some uptoSmall }

/-- 'laws.FnExactCoverValid', WHERE WHAT IT READS IS OF BULK AT MOST 1048576: true; the input reads as it did. -/
def fnExactCoverValidUptoRow : OpenClaim := { program := "ytealhjcibgcllaa", sum := "5fd46810d30fc294b080fb0549d62a6b54e103e64026ee6be1b6d66e1618ba09", func := "loop.example/radiointerferometer/laws.FnExactCoverValid", spec := "fnExactCoverValid", apart := false, narrowed := true }
def FnExactCoverValidUptoSaid : Prop := fnExactCoverValidUptoRow.holds Try.pinned (OpenSpec.upto fnExactCoverValidSpec)

/-- 'laws.FnExactCoverMany', WHERE WHAT IT READS IS OF BULK AT MOST 1048576: true; the input reads as it did. -/
def fnExactCoverManyUptoRow : OpenClaim := { program := "ytealhjcibgcllaa", sum := "5fd46810d30fc294b080fb0549d62a6b54e103e64026ee6be1b6d66e1618ba09", func := "loop.example/radiointerferometer/laws.FnExactCoverMany", spec := "fnExactCoverMany", apart := false, narrowed := true }
def FnExactCoverManyUptoSaid : Prop := fnExactCoverManyUptoRow.holds Try.pinned (OpenSpec.upto fnExactCoverManySpec)

/-- 'laws.FnCover', WHERE WHAT IT READS IS OF BULK AT MOST 1048576: true; the input reads as it did. -/
def fnCoverUptoRow : OpenClaim := { program := "ytealhjcibgcllaa", sum := "5fd46810d30fc294b080fb0549d62a6b54e103e64026ee6be1b6d66e1618ba09", func := "loop.example/radiointerferometer/laws.FnCover", spec := "fnCover", apart := false, narrowed := true }
def FnCoverUptoSaid : Prop := fnCoverUptoRow.holds Try.pinned (OpenSpec.upto fnCoverSpec)

/-- 'laws.FnExactCoverHoles', WHERE WHAT IT READS IS OF BULK AT MOST 1048576: true; the input reads as it did. -/
def fnExactCoverHolesUptoRow : OpenClaim := { program := "ytealhjcibgcllaa", sum := "5fd46810d30fc294b080fb0549d62a6b54e103e64026ee6be1b6d66e1618ba09", func := "loop.example/radiointerferometer/laws.FnExactCoverHoles", spec := "fnExactCoverHoles", apart := false, narrowed := true }
def FnExactCoverHolesUptoSaid : Prop := fnExactCoverHolesUptoRow.holds Try.pinned (OpenSpec.upto fnExactCoverHolesSpec)

/-- 'laws.FnExactCoverJoin', WHERE WHAT IT READS IS OF BULK AT MOST 1048576: true; the input reads as it did. -/
def fnExactCoverJoinUptoRow : OpenClaim := { program := "ytealhjcibgcllaa", sum := "5fd46810d30fc294b080fb0549d62a6b54e103e64026ee6be1b6d66e1618ba09", func := "loop.example/radiointerferometer/laws.FnExactCoverJoin", spec := "fnExactCoverJoin", apart := false, narrowed := true }
def FnExactCoverJoinUptoSaid : Prop := fnExactCoverJoinUptoRow.holds Try.pinned (OpenSpec.upto fnExactCoverJoinSpec)

/-- 'laws.FnExactCoverTurn', WHERE WHAT IT READS IS OF BULK AT MOST 1048576: true; the input reads as it did. -/
def fnExactCoverTurnUptoRow : OpenClaim := { program := "ytealhjcibgcllaa", sum := "5fd46810d30fc294b080fb0549d62a6b54e103e64026ee6be1b6d66e1618ba09", func := "loop.example/radiointerferometer/laws.FnExactCoverTurn", spec := "fnExactCoverTurn", apart := false, narrowed := true }
def FnExactCoverTurnUptoSaid : Prop := fnExactCoverTurnUptoRow.holds Try.pinned (OpenSpec.upto fnExactCoverTurnSpec)

/-- 'laws.FnCoverHoles', WHERE WHAT IT READS IS OF BULK AT MOST 1048576: true; the input reads as it did. -/
def fnCoverHolesUptoRow : OpenClaim := { program := "ytealhjcibgcllaa", sum := "5fd46810d30fc294b080fb0549d62a6b54e103e64026ee6be1b6d66e1618ba09", func := "loop.example/radiointerferometer/laws.FnCoverHoles", spec := "fnCoverHoles", apart := false, narrowed := true }
def FnCoverHolesUptoSaid : Prop := fnCoverHolesUptoRow.holds Try.pinned (OpenSpec.upto fnCoverHolesSpec)

end Rows
end Go.Proofs.Ytealhjcibgcllaa
