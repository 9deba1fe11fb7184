/-
  No cell of these rows narrows 'for every input' (looked for: loops, veiled, ifaces, maps, wideKeys, modest, calm, conditions, laid).
  DERIVED. THE GIVEN ROWS OF THIS SEAT. 6 by the template 'for every input the law returns true; each argument reads behind the call as it read before'; 0 by the template 'total and deterministic' (their statements: YtebjdchfofhmhaaTotals.lean).
  GIVEN WITH THE SEED: the statements are not yours to turn. If you find one false, say at which input.
  Laid BY PROGRAM, IN A SANDBOX (cutbox-rows.mjs): the forced cells as the released guide's own fill.sh prints them over the translation 1b15f69210eebf3a… (all of the seat's roots in one cut). By AI agents, Wed Nov 11 2026. No macro, syntax, notation, axiom, sorry.
-/
import Derived.Test.YtebjdchfofhmhaaChecked
import GoSem.Claim
import GoSem.ClaimJoined
import GoSem.ClaimMapViews
import Derived.JoinedTies
import Derived.KernelRfl
namespace Go.Proofs.Ytebjdchfofhmhaa
/- THE CELL 'sum', in the pinned program and in every row, IS THE sha256 OF THE DUMP (.gsa) THAT YtebjdchfofhmhaaProg.lean LOADS. Nothing in Lean hashes anything: it is a label: what it is worth is what the hold of that sum in a sandbox is worth. -/
noncomputable def Try.pinned : Pinned := { name := "ytebjdchfofhmhaa", sum := "1b15f69210eebf3aefbdfe9cb06ff98aec9994956f6e10845a7c08959f48071f", checked := Try.checked }
namespace Rows
def none {H : Type} : Left H := { results := [], args := [] }

/-- 'laws.FnExactRedundantFits': WHATEVER THE INPUT: true; the input reads as it did. -/
def fnExactRedundantFitsSpec : ChangeSpec := { name := "fnExactRedundantFits", fn := fun _ => fun
  | [d1, d2] => { results := [.lit (.bool true)], args := [d1, d2] }
  | _ => none }
def fnExactRedundantFitsRow : OpenClaim := { program := "ytebjdchfofhmhaa", sum := "1b15f69210eebf3aefbdfe9cb06ff98aec9994956f6e10845a7c08959f48071f", func := "loop.example/radiointerferometer/laws.FnExactRedundantFits", spec := "fnExactRedundantFits", unfollowed := true, recurses := true, plainKeys := false, apart := false }
def FnExactRedundantFitsSaid : Prop := fnExactRedundantFitsRow.holds Try.pinned (OpenSpec.ofChange fnExactRedundantFitsSpec)

/-- ITS FALSE NEIGHBOUR: 'it returns false'. Refute it at one input. -/
def fnExactRedundantFitsWrong : ChangeSpec := { name := "fnExactRedundantFits", fn := fun _ => fun
  | [d1, d2] => { results := [.lit (.bool false)], args := [d1, d2] }
  | _ => none }
def FnExactRedundantFitsWrongFalsely : Prop := fnExactRedundantFitsRow.holds Try.pinned (OpenSpec.ofChange fnExactRedundantFitsWrong)

/-- 'laws.FnExactRedundantSpread': WHATEVER THE INPUT: true; the input reads as it did. -/
def fnExactRedundantSpreadSpec : ChangeSpec := { name := "fnExactRedundantSpread", fn := fun _ => fun
  | [d1, d2] => { results := [.lit (.bool true)], args := [d1, d2] }
  | _ => none }
def fnExactRedundantSpreadRow : OpenClaim := { program := "ytebjdchfofhmhaa", sum := "1b15f69210eebf3aefbdfe9cb06ff98aec9994956f6e10845a7c08959f48071f", func := "loop.example/radiointerferometer/laws.FnExactRedundantSpread", spec := "fnExactRedundantSpread", unfollowed := true, recurses := true, plainKeys := false, apart := false }
def FnExactRedundantSpreadSaid : Prop := fnExactRedundantSpreadRow.holds Try.pinned (OpenSpec.ofChange fnExactRedundantSpreadSpec)

/-- ITS FALSE NEIGHBOUR: 'it returns false'. Refute it at one input. -/
def fnExactRedundantSpreadWrong : ChangeSpec := { name := "fnExactRedundantSpread", fn := fun _ => fun
  | [d1, d2] => { results := [.lit (.bool false)], args := [d1, d2] }
  | _ => none }
def FnExactRedundantSpreadWrongFalsely : Prop := fnExactRedundantSpreadRow.holds Try.pinned (OpenSpec.ofChange fnExactRedundantSpreadWrong)

/-- 'laws.FnRedundantSpread': WHATEVER THE INPUT: true; the input reads as it did. -/
def fnRedundantSpreadSpec : ChangeSpec := { name := "fnRedundantSpread", fn := fun _ => fun
  | [d] => { results := [.lit (.bool true)], args := [d] }
  | _ => none }
def fnRedundantSpreadRow : OpenClaim := { program := "ytebjdchfofhmhaa", sum := "1b15f69210eebf3aefbdfe9cb06ff98aec9994956f6e10845a7c08959f48071f", func := "loop.example/radiointerferometer/laws.FnRedundantSpread", spec := "fnRedundantSpread", unfollowed := true, recurses := true, plainKeys := false, apart := false }
def FnRedundantSpreadSaid : Prop := fnRedundantSpreadRow.holds Try.pinned (OpenSpec.ofChange fnRedundantSpreadSpec)

/-- ITS FALSE NEIGHBOUR: 'it returns false'. Refute it at one input. -/
def fnRedundantSpreadWrong : ChangeSpec := { name := "fnRedundantSpread", fn := fun _ => fun
  | [d] => { results := [.lit (.bool false)], args := [d] }
  | _ => none }
def FnRedundantSpreadWrongFalsely : Prop := fnRedundantSpreadRow.holds Try.pinned (OpenSpec.ofChange fnRedundantSpreadWrong)

/-- 'laws.FnRedundantSelf': WHATEVER THE INPUT: true; the input reads as it did. -/
def fnRedundantSelfSpec : ChangeSpec := { name := "fnRedundantSelf", fn := fun _ => fun
  | [d] => { results := [.lit (.bool true)], args := [d] }
  | _ => none }
def fnRedundantSelfRow : OpenClaim := { program := "ytebjdchfofhmhaa", sum := "1b15f69210eebf3aefbdfe9cb06ff98aec9994956f6e10845a7c08959f48071f", func := "loop.example/radiointerferometer/laws.FnRedundantSelf", spec := "fnRedundantSelf", unfollowed := true, recurses := true, plainKeys := false, apart := false }
def FnRedundantSelfSaid : Prop := fnRedundantSelfRow.holds Try.pinned (OpenSpec.ofChange fnRedundantSelfSpec)

/-- ITS FALSE NEIGHBOUR: 'it returns false'. Refute it at one input. -/
def fnRedundantSelfWrong : ChangeSpec := { name := "fnRedundantSelf", fn := fun _ => fun
  | [d] => { results := [.lit (.bool false)], args := [d] }
  | _ => none }
def FnRedundantSelfWrongFalsely : Prop := fnRedundantSelfRow.holds Try.pinned (OpenSpec.ofChange fnRedundantSelfWrong)

/-- 'laws.FnRedundantGain': WHATEVER THE INPUT: true; the input reads as it did. -/
def fnRedundantGainSpec : ChangeSpec := { name := "fnRedundantGain", fn := fun _ => fun
  | [d1, d2] => { results := [.lit (.bool true)], args := [d1, d2] }
  | _ => none }
def fnRedundantGainRow : OpenClaim := { program := "ytebjdchfofhmhaa", sum := "1b15f69210eebf3aefbdfe9cb06ff98aec9994956f6e10845a7c08959f48071f", func := "loop.example/radiointerferometer/laws.FnRedundantGain", spec := "fnRedundantGain", unfollowed := true, recurses := true, plainKeys := false, apart := false }
def FnRedundantGainSaid : Prop := fnRedundantGainRow.holds Try.pinned (OpenSpec.ofChange fnRedundantGainSpec)

/-- ITS FALSE NEIGHBOUR: 'it returns false'. Refute it at one input. -/
def fnRedundantGainWrong : ChangeSpec := { name := "fnRedundantGain", fn := fun _ => fun
  | [d1, d2] => { results := [.lit (.bool false)], args := [d1, d2] }
  | _ => none }
def FnRedundantGainWrongFalsely : Prop := fnRedundantGainRow.holds Try.pinned (OpenSpec.ofChange fnRedundantGainWrong)

/-- 'laws.FnRedundantFits': WHATEVER THE INPUT: true; the input reads as it did. -/
def fnRedundantFitsSpec : ChangeSpec := { name := "fnRedundantFits", fn := fun _ => fun
  | [d1, d2] => { results := [.lit (.bool true)], args := [d1, d2] }
  | _ => none }
def fnRedundantFitsRow : OpenClaim := { program := "ytebjdchfofhmhaa", sum := "1b15f69210eebf3aefbdfe9cb06ff98aec9994956f6e10845a7c08959f48071f", func := "loop.example/radiointerferometer/laws.FnRedundantFits", spec := "fnRedundantFits", unfollowed := true, recurses := true, plainKeys := false, apart := false }
def FnRedundantFitsSaid : Prop := fnRedundantFitsRow.holds Try.pinned (OpenSpec.ofChange fnRedundantFitsSpec)

/-- ITS FALSE NEIGHBOUR: 'it returns false'. Refute it at one input. -/
def fnRedundantFitsWrong : ChangeSpec := { name := "fnRedundantFits", fn := fun _ => fun
  | [d1, d2] => { results := [.lit (.bool false)], args := [d1, d2] }
  | _ => none }
def FnRedundantFitsWrongFalsely : Prop := fnRedundantFitsRow.holds Try.pinned (OpenSpec.ofChange fnRedundantFitsWrong)

/- THE SECOND FORM. 'bulk': how many values and letters a reading holds, each counted each time it is reached (what is shared counts as often as it is met; a slice's spare places count too). A statement '..UptoSaid' is the law's where the arguments, and the package variables that the reading takes, are together of bulk at most 1048576: NARROWER than '..Said'. Prove '..Said' where nothing that the law and all that it calls make is longer than what came in: it says more and counts as full. Else prove '..UptoSaid'. A law counts once. -/
mutual
def uptoBulk {H : Type} : DataW H → Nat
  | .lit (.string bytes) => bytes.length + 1
  | .lit _ => 1
  | .nil => 1
  | .ptr d => uptoBulk d + 1
  | .slice elems spare => uptoBulkAll elems + uptoBulkAll spare + 1
  | .agg parts => uptoBulkAll parts + 1
  | .iface _ d => uptoBulk d + 1
  | .map entries => uptoBulkEntries entries + 1
  | .held _ => 1
def uptoBulkAll {H : Type} : List (DataW H) → Nat
  | [] => 0
  | d :: r => uptoBulk d + uptoBulkAll r
def uptoBulkEntries {H : Type} : List (Lit × DataW H) → Nat
  | [] => 0
  | x :: r => uptoBulkEntry x + uptoBulkEntries r
def uptoBulkEntry {H : Type} : Lit × DataW H → Nat
  | (.string bytes, d) => bytes.length + uptoBulk d + 1
  | (_, d) => uptoBulk d + 1
 end
def uptoSmall : (H : Type) → List (DataW H) → Bool := fun _ ds => decide (uptoBulkAll ds ≤ 1048576)
def OpenSpec.upto (s : _root_.Go.ChangeSpec) : _root_.Go.OpenSpec := { _root_.Go.OpenSpec.ofChange s with cond := some uptoSmall }

/-- 'laws.FnExactRedundantFits', WHERE WHAT IT READS IS OF BULK AT MOST 1048576: true; the input reads as it did. -/
def fnExactRedundantFitsUptoRow : OpenClaim := { program := "ytebjdchfofhmhaa", sum := "1b15f69210eebf3aefbdfe9cb06ff98aec9994956f6e10845a7c08959f48071f", func := "loop.example/radiointerferometer/laws.FnExactRedundantFits", spec := "fnExactRedundantFits", unfollowed := true, recurses := true, plainKeys := false, apart := false, narrowed := true }
def FnExactRedundantFitsUptoSaid : Prop := fnExactRedundantFitsUptoRow.holds Try.pinned (OpenSpec.upto fnExactRedundantFitsSpec)

/-- 'laws.FnExactRedundantSpread', WHERE WHAT IT READS IS OF BULK AT MOST 1048576: true; the input reads as it did. -/
def fnExactRedundantSpreadUptoRow : OpenClaim := { program := "ytebjdchfofhmhaa", sum := "1b15f69210eebf3aefbdfe9cb06ff98aec9994956f6e10845a7c08959f48071f", func := "loop.example/radiointerferometer/laws.FnExactRedundantSpread", spec := "fnExactRedundantSpread", unfollowed := true, recurses := true, plainKeys := false, apart := false, narrowed := true }
def FnExactRedundantSpreadUptoSaid : Prop := fnExactRedundantSpreadUptoRow.holds Try.pinned (OpenSpec.upto fnExactRedundantSpreadSpec)

/-- 'laws.FnRedundantSpread', WHERE WHAT IT READS IS OF BULK AT MOST 1048576: true; the input reads as it did. -/
def fnRedundantSpreadUptoRow : OpenClaim := { program := "ytebjdchfofhmhaa", sum := "1b15f69210eebf3aefbdfe9cb06ff98aec9994956f6e10845a7c08959f48071f", func := "loop.example/radiointerferometer/laws.FnRedundantSpread", spec := "fnRedundantSpread", unfollowed := true, recurses := true, plainKeys := false, apart := false, narrowed := true }
def FnRedundantSpreadUptoSaid : Prop := fnRedundantSpreadUptoRow.holds Try.pinned (OpenSpec.upto fnRedundantSpreadSpec)

/-- 'laws.FnRedundantSelf', WHERE WHAT IT READS IS OF BULK AT MOST 1048576: true; the input reads as it did. -/
def fnRedundantSelfUptoRow : OpenClaim := { program := "ytebjdchfofhmhaa", sum := "1b15f69210eebf3aefbdfe9cb06ff98aec9994956f6e10845a7c08959f48071f", func := "loop.example/radiointerferometer/laws.FnRedundantSelf", spec := "fnRedundantSelf", unfollowed := true, recurses := true, plainKeys := false, apart := false, narrowed := true }
def FnRedundantSelfUptoSaid : Prop := fnRedundantSelfUptoRow.holds Try.pinned (OpenSpec.upto fnRedundantSelfSpec)

/-- 'laws.FnRedundantGain', WHERE WHAT IT READS IS OF BULK AT MOST 1048576: true; the input reads as it did. -/
def fnRedundantGainUptoRow : OpenClaim := { program := "ytebjdchfofhmhaa", sum := "1b15f69210eebf3aefbdfe9cb06ff98aec9994956f6e10845a7c08959f48071f", func := "loop.example/radiointerferometer/laws.FnRedundantGain", spec := "fnRedundantGain", unfollowed := true, recurses := true, plainKeys := false, apart := false, narrowed := true }
def FnRedundantGainUptoSaid : Prop := fnRedundantGainUptoRow.holds Try.pinned (OpenSpec.upto fnRedundantGainSpec)

/-- 'laws.FnRedundantFits', WHERE WHAT IT READS IS OF BULK AT MOST 1048576: true; the input reads as it did. -/
def fnRedundantFitsUptoRow : OpenClaim := { program := "ytebjdchfofhmhaa", sum := "1b15f69210eebf3aefbdfe9cb06ff98aec9994956f6e10845a7c08959f48071f", func := "loop.example/radiointerferometer/laws.FnRedundantFits", spec := "fnRedundantFits", unfollowed := true, recurses := true, plainKeys := false, apart := false, narrowed := true }
def FnRedundantFitsUptoSaid : Prop := fnRedundantFitsUptoRow.holds Try.pinned (OpenSpec.upto fnRedundantFitsSpec)

end Rows
end Go.Proofs.Ytebjdchfofhmhaa
