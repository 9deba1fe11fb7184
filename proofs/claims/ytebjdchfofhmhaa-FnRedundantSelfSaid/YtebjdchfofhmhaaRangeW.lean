/-
  What a caller of a range over a function needs: the ways out of a function that holds such a loop, invariants on cells.
-/
import Derived.Test.YtebjdchfofhmhaaBases
import Derived.StillTail
namespace Go.Proofs.Ytebjdchfofhmhaa
open Go.RowKit Go.Shelf

section
variable {F : Fence} {n : Nat} {P : Program} {fn : Func} {R : Ending → World → Prop} {a : Act} {w : World} {v : Value}
theorem marks_ret (hd : a.defers = []) (h : (results fn a.tmps).run P w = .ok v w) (hr : R (.returned v) w) : bodyPostM F n P fn R .ret a w := by
  show LeavesInM F n P fn a.tmps R a.defers .returning w
  rw [hd]
  exact ⟨v, h, hr⟩
theorem marks_one {D : Nat} (hd : a.defers = [{ target := .collected D, args := #[] }]) (hK : w.heap[D]? = some (.deferred (some []))) (h : (results fn a.tmps).run P (w.putObj D (.deferred none)) = .ok v (w.putObj D (.deferred none))) (hr : R (.returned v) (w.putObj D (.deferred none))) :
    bodyPostM F n P fn R .ret a w := by
  show LeavesInM F n P fn a.tmps R a.defers .returning w
  rw [hd]
  exact ⟨by simp, .inl ⟨_, _, rfl, run_takeDeferred hK, v, h, hr⟩⟩
end
theorem Ext.putObj {w w1 : World} {D : Nat} (h : Ext w w1) (hD : w.heap.size ≤ D) (o : Obj) : Ext w (w1.putObj D o) :=
  ⟨h.os, h.tape, h.output, by simpa using h.size, fun k hk _ => (World.putObj_heap_other (by omega)).trans (h.block hk)⟩
theorem Ext.keeps {w w' : World} (x : Ext w w') : KeepsOthers w w' := ⟨x.size, fun _ _ hk _ => (x.block (Array.getElem?_eq_some_iff.1 hk).1).trans hk⟩
theorem St.putObj {w : World} {g D : Nat} {vs : Array Value} {T : TypeId} {o : Obj} (h : St w g vs T) (hK : w.heap[D]? = some (.deferred (some []))) : St (w.putObj D o) g vs T := by
  refine (World.putObj_heap_other ?_).trans h
  rintro rfl
  have h' : w.heap[g]? = some (.cells vs T (0, 0)) := h
  rw [h'] at hK; cases hK
section
variable {P : Program} {Q : Exit → Act → World → Prop} {a : Act} {w : World} {l n : Nat}
/-- a region of reads and quiet calls, in a round -/
theorem round_quiet {id : Nat} {ops : List Oper} (hm : P.follows .mixedOrders = true) (hB : Region.lexB .any ops.toArray = true) (hnd : noDeferB ops.toArray = true) (hQ : ¬ LetsOut Q)
    (h : wpQuiet P ops.toArray (fun w' => ∃ n, w' = w.drewN n) (fun a' => ∀ w', (∃ n, w' = w.drewN n) → Q .normal a' w') ops a) : (Code.region id ops.toArray true).wpIn (Fence.wide.inRound l) n P Q a w := by
  have hB' := hB
  simp only [Region.lexB, Bool.and_eq_true] at hB'
  refine wpIn_region_any hm (any_round l n (noDefer_of hnd) hQ _ _ _ _ (wpAny_of_quiet (Q' := Q) (Q := fun a' => ∀ w', (∃ n, w' = w.drewN n) → Q .normal a' w') (fun _ w' hw' h => h w' hw') _ _ _ _ ⟨1, rfl⟩ ?_))
  have := wpAnyQ_lex (C := fun w' => ∃ n, w' = w.drewN n) (md := .any) hB'.1 ops 0 (Array.replicate ops.toArray.size false) a (by simp) (by simpa using hB'.2) h
  simpa using this
/-- a region of reads and calls that leave the world alone, closed by a tail in one order, in a round -/
theorem round_tail {id : Nat} {ops : List Oper} (k : Nat) (hm : P.follows .mixedOrders = true) (hB : Region.lexTailB .any ops.toArray k = true) (hnd : noDeferB ops.toArray = true) (hQ : ¬ LetsOut Q)
    (h : wpStill P ops.toArray w.drew (fun a' => wpList P ops.toArray Q (ops.drop k) a' w.drew) (ops.take k) a) : (Code.region id ops.toArray true).wpIn (Fence.wide.inRound l) n P Q a w := by
  have hB' := hB
  simp only [Region.lexTailB, Bool.and_eq_true, decide_eq_true_eq] at hB'
  obtain ⟨⟨⟨⟨b1, b2⟩, b3⟩, b4⟩, b5⟩ := hB'
  have hk : k < ops.length := by simpa using b2
  have ht : (ops.take k).length = k := by rw [List.length_take]; omega
  have hd : (ops.drop k).length = ops.toArray.size - k := by simp
  have hi : HeadInv .any ops.toArray k (Array.replicate ops.toArray.size false) := by
    refine ⟨by simp, fun j o _ hl => ?_, fun t _ ht' => ?_⟩
    · rw [getD_replicate_false] at hl; cases hl
    · exact getD_in (by simpa using ht') (getD_replicate_false _ _)
  have H := wpAnyL_lex (md := .any) (g := ops.toArray.size - k) b1 b3 b4 b2 (ops.take k) 0 (Array.replicate ops.toArray.size false) a (fun j hj => by rw [ht] at hj; simp [hj]) (by rw [ht]; omega) hi (by rw [ht]; exact b5) h
  have H2 := wpAny_of_head (Q' := Q) (g := ops.toArray.size - k) (fun listed a' hL => by
    have s := wpAny_of_seq (md := .any) (Q' := Q) (ops.drop k) k listed a' w.drew (fun j => by simp [List.getElem?_drop]) (by rw [hd]; exact hL.1) hL.2
    rw [hd] at s
    exact s) _ _ _ H
  rw [ht, show k + (ops.toArray.size - k) = ops.toArray.size by omega] at H2
  exact wpIn_region_any hm (any_round l n (noDefer_of hnd) hQ _ _ _ _ H2)
end
section
variable {β : Type} {B : Nat}
theorem own_extW {w : World} (h : w.heap.size ≤ B) : OwnFrom B (fun (_ : β) W => Ext w W) := fun _ _ _ _ hs hg hr => Ext.grown hs hg fun g e => Nat.le_trans h (hr g e).1
theorem own_st {g : Nat} {T : TypeId} (f : β → Array Value) : OwnFrom B (fun s W => St W g (f s) T) := fun s W W' row hs hg hr => by
  have h : W.heap[g]? = some (.cells (f s) T (0, 0)) := hs
  exact (grownBy_keeps_cells hg (fun r e => (hr r e).2) h rfl).trans h
theorem own_pure {p : β → Prop} : OwnFrom B (fun s (_ : World) => p s) := fun _ _ _ _ hs _ _ => hs
theorem own_false {γ : Type} : OwnFrom B (fun (_ : γ) (_ : World) => False) := fun _ _ _ _ hs _ _ => hs
end
end Go.Proofs.Ytebjdchfofhmhaa
