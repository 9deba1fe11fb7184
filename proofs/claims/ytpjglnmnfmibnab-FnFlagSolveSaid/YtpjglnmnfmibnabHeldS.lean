/-
  A region that draws its order, in a round, whose operations all keep what the head reads (callees that read only). No program in sight.
-/
import Derived.Test.YtpjglnmnfmibnabHeld
namespace Go.Proofs.Ytpjglnmnfmibnab
open Go.RowKit

section
variable {P : Program} {ops : Array Oper} {Q : Exit → Act → World → Prop} {md : Region.Mode} {S : World → Prop} {x : Nat}
/-- the operations of the tail in their one order, S anew behind each -/
def TailS (P : Program) (Q : Exit → Act → World → Prop) (S : World → Prop) : List Oper → Act → World → Prop
  | [], a, w => Q .normal a w
  | o :: l, a, w => o.wp P a w (fun a' w' => S w' ∧ TailS P Q S l a' w') Q
def tailBS (md : Region.Mode) (ops : Array Oper) : Nat → Nat → Array Bool → Bool
  | 0, _, l => (Region.ready md ops l).isEmpty
  | f + 1, k, l => decide (Region.ready md ops l = [k]) && bareB ops k && tailBS md ops f (k + 1) (l.setIfInBounds k true)
theorem g_tailS : ∀ (o : List Oper) (k : Nat) (l : Array Bool) (a : Act) (w : World), (∀ j, j < o.length → o[j]? = ops[k + j]?) → tailBS md ops o.length k l = true →
    TailS P Q S o a w → wpAnyG P md ops Q S x o.length l a w
  | [], k, l, a, w, _, hB, h => ⟨by simpa [tailBS] using hB, h⟩
  | o :: os, k, l, a, w, hl, hB, h => by
    have h0 : ops[k]? = some o := by simpa using (hl 0 (by simp)).symm
    simp only [List.length_cons, tailBS, Bool.and_eq_true, decide_eq_true_eq] at hB
    obtain ⟨⟨hr, hg0⟩, hB'⟩ := hB
    have hg := bare_of hg0 h0
    refine ⟨fun e => (by rw [hr] at e; cases e), fun i hi => ?_⟩
    obtain rfl : i = k := by rw [hr] at hi; simpa using hi
    have hw : Region.wanted o (yielded ops a.tmps) = true := by simp [Region.wanted, hg]
    have hrest : ∀ j, j < os.length → os[j]? = ops[i + 1 + j]? := fun j hj => by have := hl (j + 1) (by simp; omega); simpa [Nat.add_assoc, Nat.add_comm 1 j] using this
    unfold wpOp
    simp only [h0, hw, if_true]
    refine .inl ?_
    exact Oper.wp_mono (fun a' w' h' => ⟨.inr h'.1, g_tailS os _ _ _ _ hrest hB' h'.2⟩) h
/-- reads first, then a tail in one order, all of which keep S; in a round -/
theorem round_heldS {a : Act} {w : World} {l n : Nat} {id : Nat} {ops : List Oper} (k : Nat) (S : World → Prop) (hm : P.follows .mixedOrders = true) (hsel : Region.noSelect ops.toArray = true) (hnd : noDeferB ops.toArray = true)
    (hB : headB .any ops.toArray ops.length k 0 (Array.replicate ops.length false) = true) (hT : tailBS .any ops.toArray (ops.length - k) k (listN k 0 (Array.replicate ops.length false)) = true) (hk : decide (k ≤ ops.length) = true)
    (hQ : ¬ LetsOut Q) (hQ2 : ∀ c a d v w, Q (.panic c) (Act.put a d v) w → Q (.panic c) a w) (hS : S w.drew)
    (h : HeadG P ops.toArray S (fun a' => TailS P Q S (ops.drop k) a' w.drew) (ops.take k) a) : (Code.region id ops.toArray true).wpIn (Fence.wide.inRound l) n P Q a w := by
  have hk' : k ≤ ops.length := of_decide_eq_true hk
  have htl : (ops.take k).length = k := by rw [List.length_take]; omega
  have hdl : (ops.drop k).length = ops.length - k := by simp
  refine wpIn_region_any hm (any_round l n (noDefer_of hnd) hQ _ _ _ _ (any_of_g (S := S) (x := ops.length) _ _ _ _ ?_))
  have H := g_head (P := P) (Q := Q) (x := ops.length) (g := ops.length - k) hsel (by simp [lastB]) hQ2 hS (ops.take k) 0 (Array.replicate ops.length false) a (fun j hj => by rw [htl] at hj; simp [hj]) (by rw [htl]; exact hB) ?_
  · rw [htl, show k + (ops.length - k) = ops.length by omega] at H
    simpa using H
  · rw [htl]
    refine headG_mono (fun a' h' => ?_) _ _ h
    have := g_tailS (md := .any) (ops := ops.toArray) (x := ops.length) (ops.drop k) k (listN k 0 (Array.replicate ops.length false)) a' w.drew (fun j _ => by simp [List.getElem?_drop]) (by rw [hdl]; exact hT) h'
    rwa [hdl] at this
theorem tailS_cons {o : Oper} {l : List Oper} {a : Act} {w : World} (h : ∀ K : Act → World → Prop, (∀ a' w', S w' → TailS P Q S l a' w' → K a' w') → o.wp P a w K Q) : TailS P Q S (o :: l) a w := h _ fun _ _ h1 h2 => ⟨h1, h2⟩
theorem tailS_nil {a : Act} {w : World} (h : Q .normal a w) : TailS P Q S [] a w := h
end
end Go.Proofs.Ytpjglnmnfmibnab
