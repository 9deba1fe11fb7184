/-
  A region that draws its order, whose operations read, or call what ends in a class of worlds: walked once. No program in sight.
-/
import Derived.Test.YtebjdchfofhmhaaBase
import Derived.Deep.Quiet
namespace Go.Proofs.Ytebjdchfofhmhaa
open Go.RowKit

section
variable {P : Program} {ops : Array Oper} {md : Region.Mode} {C : World → Prop}
/-- reads and calls of a class -/
theorem region_c {id : Nat} {Q : Exit → Act → World → Prop} {a : Act} {w : World} {l : List Oper} (C : World → Prop) (hm : P.follows .mixedOrders = true) (hB : Region.lexB .any l.toArray = true) (hC : C w.drew)
    (h : wpQuiet P l.toArray C (fun a' => ∀ w', C w' → Q .normal a' w') l a) : (Code.region id l.toArray true).wp P Q a w :=
  wp_region_quiet (C := C) hm hB hC (by simpa using h)
theorem quiet_read {Q : Act → Prop} {o : Oper} {l : List Oper} {a : Act} (v : Value) (hw : Region.wanted o (yielded ops a.tmps) = true) (hv : ∀ w, C w → (execOp a.eval o).run P w = .ok (.value v) w) (h : wpQuiet P ops C Q l (a.put o.dst v)) : wpQuiet P ops C Q (o :: l) a := by
  simp only [wpQuiet, hw, if_true]
  refine ⟨v, fun w hC => ?_, h⟩
  unfold Oper.quietAt
  rw [hv w hC]
  exact ⟨rfl, rfl⟩
theorem quiet_off {Q : Act → Prop} {o : Oper} {l : List Oper} {a : Act} (hw : Region.wanted o (yielded ops a.tmps) = false) (h : wpQuiet P ops C Q l (a.put o.dst undef)) : wpQuiet P ops C Q (o :: l) a := by
  simp only [wpQuiet, hw]
  exact h
theorem quiet_call {Q : Act → Prop} {o : Oper} {l : List Oper} {a : Act} (f : FuncId) (args : Array Value) (v : Value) (hw : Region.wanted o (yielded ops a.tmps) = true) (he : ∀ w, C w → (execOp a.eval o).run P w = .ok (.enter f args) w)
    (hc : ∀ w, C w → Calls P f args w fun e w' => e = .returned v ∧ C w') (h : wpQuiet P ops C Q l (a.put o.dst v)) : wpQuiet P ops C Q (o :: l) a := by
  simp only [wpQuiet, hw, if_true]
  refine ⟨v, fun w hC => ?_, h⟩
  unfold Oper.quietAt
  rw [he w hC]
  exact ⟨rfl, hc w hC⟩
theorem quiet_done {Q : Act → Prop} {a : Act} (h : Q a) : wpQuiet P ops C Q [] a := h
end
end Go.Proofs.Ytebjdchfofhmhaa
