/-
  A region that draws its order, in which some operations read and may be taken first, whatever their places; the others come in one order, closed by one that writes. No program in sight.
-/
import Derived.Test.YtebjdchfofhmhaaHeld
namespace Go.Proofs.Ytebjdchfofhmhaa
open Go.RowKit

section
variable {P : Program} {ops : Array Oper} {Q : Exit → Act → World → Prop} {md : Region.Mode} {S : World → Prop} {x : Nat}
/-- the operations at some places -/
def pick (ops : List Oper) (is : List Nat) : List Oper := is.filterMap fun k => ops[k]?
/-- these operations may be taken first, one by one -/
def headLB (md : Region.Mode) (ops : Array Oper) (x : Nat) : List Nat → Array Bool → Bool
  | [], _ => true
  | k :: is, l => decide (k ≠ x) && (Region.ready md ops l).contains k && Region.free md ops l k && headLB md ops x is (l.setIfInBounds k true)
def listL : List Nat → Array Bool → Array Bool
  | [], l => l
  | k :: is, l => listL is (l.setIfInBounds k true)
theorem g_headL {g : Nat} {w : World} (hsel : Region.noSelect ops = true) (hx : lastB md ops x = true) (hQ : ∀ c a d v w, Q (.panic c) (Act.put a d v) w → Q (.panic c) a w) (hS : S w) :
    ∀ (is : List Nat) (o : List Oper) (l : Array Bool) (a : Act), is.map (fun k => ops[k]?) = o.map some → headLB md ops x is l = true →
      HeadG P ops S (fun a' => wpAnyG P md ops Q S x g (listL is l) a' w) o a → wpAnyG P md ops Q S x (o.length + g) l a w
  | [], [], l, a, _, _, h => by simpa [listL, HeadG] using h
  | [], _ :: _, _, _, e, _, _ => by cases e
  | _ :: _, [], _, _, e, _, _ => by cases e
  | k :: is, o :: os, l, a, e, hB, h => by
    simp only [List.map_cons, List.cons.injEq] at e
    simp only [headLB, Bool.and_eq_true, decide_eq_true_eq] at hB
    obtain ⟨⟨⟨hkx, hr⟩, hf⟩, hB'⟩ := hB
    obtain ⟨v, hy, hK⟩ := h
    rw [show (o :: os).length + g = (os.length + g) + 1 by simp; omega]
    exact g_first e.1 (Region.noSelect_spec hsel) hx hkx (fun c a w => hQ c a _ v w) _ l a w (Region.free_spec e.1 hf) (by simpa using hr) hy hS
      (g_headL hsel hx hQ hS is os _ _ e.2 hB' hK)
def tailLB (md : Region.Mode) (ops : Array Oper) (x : Nat) : List Nat → Array Bool → Bool
  | [], l => (Region.ready md ops l).isEmpty
  | k :: is, l => decide (Region.ready md ops l = [k]) && (!is.isEmpty || decide (k = x)) && bareB ops k && tailLB md ops x is (l.setIfInBounds k true)
theorem g_tailL : ∀ (is : List Nat) (o : List Oper) (l : Array Bool) (a : Act) (w : World), is.map (fun k => ops[k]?) = o.map some → tailLB md ops x is l = true →
    TailG P Q S o a w → wpAnyG P md ops Q S x o.length l a w
  | [], [], l, a, w, _, hB, h => ⟨by simpa [tailLB] using hB, h⟩
  | [], _ :: _, _, _, _, e, _, _ => by cases e
  | _ :: _, [], _, _, _, e, _, _ => by cases e
  | k :: is, o :: os, l, a, w, e, hB, h => by
    simp only [List.map_cons, List.cons.injEq] at e
    simp only [tailLB, Bool.and_eq_true, decide_eq_true_eq, Bool.or_eq_true, Bool.not_eq_true'] at hB
    obtain ⟨⟨⟨hr, hlast⟩, hg0⟩, hB'⟩ := hB
    have hg := bare_of hg0 e.1
    refine ⟨fun e0 => (by rw [hr] at e0; cases e0), fun i hi => ?_⟩
    obtain rfl : i = k := by rw [hr] at hi; simpa using hi
    have hw : Region.wanted o (yielded ops a.tmps) = true := by simp [Region.wanted, hg]
    unfold wpOp
    simp only [e.1, hw, if_true]
    refine .inl ?_
    cases os with
    | nil =>
      have hix : i = x := by
        cases is with
        | nil => simpa using hlast
        | cons _ _ => cases e.2
      exact Oper.wp_mono (fun a' w' h' => ⟨.inl hix, g_tailL is [] _ _ _ e.2 hB' h'⟩) h
    | cons o2 os2 => exact Oper.wp_mono (fun a' w' h' => ⟨.inr h'.1, g_tailL is (o2 :: os2) _ _ _ e.2 hB' h'.2⟩) h
theorem pick_map (ops : List Oper) (is : List Nat) (h : is.all (fun k => decide (k < ops.length)) = true) : is.map (fun k => ops.toArray[k]?) = (pick ops is).map some := by
  induction is with
  | nil => rfl
  | cons k is ih =>
    simp only [List.all_cons, Bool.and_eq_true, decide_eq_true_eq] at h
    have hk : ops[k]? = some ops[k] := List.getElem?_eq_getElem h.1
    simp only [pick, List.map_cons, List.filterMap_cons, hk, List.getElem?_toArray]
    congr 1
    have := ih h.2
    simpa [pick] using this
theorem pick_length (ops : List Oper) (is : List Nat) (h : is.all (fun k => decide (k < ops.length)) = true) : (pick ops is).length = is.length := by
  have := congrArg List.length (pick_map ops is h)
  simpa using this.symm
/-- in a round -/
theorem round_pick {a : Act} {w : World} {l n : Nat} {id : Nat} {ops : List Oper} (hs ts : List Nat) (S : World → Prop) (hm : P.follows .mixedOrders = true) (hsel : Region.noSelect ops.toArray = true) (hx : lastB .any ops.toArray (ops.length - 1) = true) (hnd : noDeferB ops.toArray = true)
    (hB : headLB .any ops.toArray (ops.length - 1) hs (Array.replicate ops.length false) = true) (hT : tailLB .any ops.toArray (ops.length - 1) ts (listL hs (Array.replicate ops.length false)) = true)
    (h1 : hs.all (fun k => decide (k < ops.length)) = true) (h2 : ts.all (fun k => decide (k < ops.length)) = true) (hk : decide (hs.length + ts.length = ops.length) = true)
    (hQ : ¬ LetsOut Q) (hQ2 : ∀ c a d v w, Q (.panic c) (Act.put a d v) w → Q (.panic c) a w) (hS : S w.drew)
    (h : HeadG P ops.toArray S (fun a' => TailG P Q S (pick ops ts) a' w.drew) (pick ops hs) a) : (Code.region id ops.toArray true).wpIn (Fence.wide.inRound l) n P Q a w := by
  have hk' : hs.length + ts.length = ops.length := of_decide_eq_true hk
  refine wpIn_region_any hm (any_round l n (noDefer_of hnd) hQ _ _ _ _ (any_of_g (S := S) (x := ops.length - 1) _ _ _ _ ?_))
  have H := g_headL (P := P) (Q := Q) (g := ts.length) hsel hx hQ2 hS hs (pick ops hs) (Array.replicate ops.length false) a (pick_map ops hs h1) hB ?_
  · rw [pick_length ops hs h1, hk'] at H
    simpa using H
  · refine headG_mono (fun a' h' => ?_) _ _ h
    have := g_tailL (md := .any) (ops := ops.toArray) (x := ops.length - 1) ts (pick ops ts) (listL hs (Array.replicate ops.length false)) a' w.drew (pick_map ops ts h2) hT h'
    rwa [pick_length ops ts h2] at this
/-- outside -/
theorem region_pick {a : Act} {w : World} {id : Nat} {ops : List Oper} (hs ts : List Nat) (S : World → Prop) (hm : P.follows .mixedOrders = true) (hsel : Region.noSelect ops.toArray = true) (hx : lastB .any ops.toArray (ops.length - 1) = true)
    (hB : headLB .any ops.toArray (ops.length - 1) hs (Array.replicate ops.length false) = true) (hT : tailLB .any ops.toArray (ops.length - 1) ts (listL hs (Array.replicate ops.length false)) = true)
    (h1 : hs.all (fun k => decide (k < ops.length)) = true) (h2 : ts.all (fun k => decide (k < ops.length)) = true) (hk : decide (hs.length + ts.length = ops.length) = true)
    (hQ2 : ∀ c a d v w, Q (.panic c) (Act.put a d v) w → Q (.panic c) a w) (hS : S w.drew)
    (h : HeadG P ops.toArray S (fun a' => TailG P Q S (pick ops ts) a' w.drew) (pick ops hs) a) : (Code.region id ops.toArray true).wp P Q a w := by
  have hk' : hs.length + ts.length = ops.length := of_decide_eq_true hk
  refine wp_region_any hm (any_of_g (S := S) (x := ops.length - 1) _ _ _ _ ?_)
  have H := g_headL (P := P) (Q := Q) (g := ts.length) hsel hx hQ2 hS hs (pick ops hs) (Array.replicate ops.length false) a (pick_map ops hs h1) hB ?_
  · rw [pick_length ops hs h1, hk'] at H
    simpa using H
  · refine headG_mono (fun a' h' => ?_) _ _ h
    have := g_tailL (md := .any) (ops := ops.toArray) (x := ops.length - 1) ts (pick ops ts) (listL hs (Array.replicate ops.length false)) a' w.drew (pick_map ops ts h2) hT h'
    rwa [pick_length ops ts h2] at this
end
end Go.Proofs.Ytebjdchfofhmhaa
