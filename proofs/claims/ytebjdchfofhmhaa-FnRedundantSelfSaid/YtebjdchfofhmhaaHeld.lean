/-
  A region that draws its order, in a round of a range over a function: loads are taken first where nobody but the closing operation writes what they read. No program in sight.
-/
import Derived.Test.YtebjdchfofhmhaaRangeW
import Derived.Test.YtebjdchfofhmhaaAppA
import Derived.OrdersHeld
namespace Go.Proofs.Ytebjdchfofhmhaa
open Go.RowKit

section
variable {P : Program} {ops : Array Oper} {Q : Exit → Act → World → Prop} {md : Region.Mode} {S : World → Prop} {x : Nat}
/-- operation x waits for all others (or there is none of that number) -/
def lastB (md : Region.Mode) (ops : Array Oper) (x : Nat) : Bool := decide (ops.size ≤ x) || (List.range ops.size).all fun i => i == x || Region.waitsFor md ops x i
/-- any order from here on; S holds behind every operation but the closing one -/
def wpAnyG (P : Program) (md : Region.Mode) (ops : Array Oper) (Q : Exit → Act → World → Prop) (S : World → Prop) (x : Nat) : Nat → Array Bool → Act → World → Prop
  | 0, l, a, w => Region.ready md ops l = [] ∧ Q .normal a w
  | f + 1, l, a, w => (Region.ready md ops l = [] → Q .normal a w) ∧ ∀ i ∈ Region.ready md ops l, wpOp P ops Q i (fun a' w' => (i = x ∨ S w') ∧ wpAnyG P md ops Q S x f (l.setIfInBounds i true) a' w') a w
theorem any_of_g : ∀ (f : Nat) (l : Array Bool) (a : Act) (w : World), wpAnyG P md ops Q S x f l a w → wpAny P md ops Q f l a w
  | 0, _, _, _, h => h
  | f + 1, _, _, _, h => ⟨h.1, fun i hi => wpOp_mono (fun a' w' k => any_of_g f _ a' w' k.2) (h.2 i hi)⟩
theorem not_last {l : Array Bool} {i : Nat} (hx : lastB md ops x = true) (hi : i ∈ Region.ready md ops l) (hix : i ≠ x) (hlt : i < ops.size) : x ∉ Region.ready md ops l := by
  intro hr
  obtain ⟨_, ox0, hox0, _⟩ := mem_ready.1 hr
  have hxs := (Array.getElem?_eq_some_iff.1 hox0).1
  simp only [lastB, Bool.or_eq_true, decide_eq_true_eq] at hx
  have h1 := List.all_eq_true.1 (hx.resolve_left (by omega)) i (List.mem_range.2 hlt)
  simp only [Bool.or_eq_true, beq_iff_eq] at h1
  obtain ⟨ox, hox, e, he, hb, hon⟩ := Region.waitsFor_spec (h1.resolve_left hix)
  obtain ⟨_, o', ho', hall⟩ := mem_ready.1 hr
  obtain rfl : o' = ox := Option.some.inj (ho'.symm.trans hox)
  have h2 := hall e he hb
  rw [hon, getD_both (mem_ready.1 hi).1] at h2
  cases h2
theorem g_first {i : Nat} {oi : Oper} {v : Value} (hi : ops[i]? = some oi) (hsel : ∀ (j : Nat) (o : Oper) cs b, ops[j]? = some o → o.op ≠ .select cs b) (hx : lastB md ops x = true) (hix : i ≠ x)
    (hQ : ∀ c a w, Q (.panic c) (a.put oi.dst v) w → Q (.panic c) a w) :
    ∀ (f : Nat) (l : Array Bool) (a : Act) (w : World),
      (∀ j oj, ops[j]? = some oj → j ≠ i → l.getD j true = false → (∀ e ∈ oj.after, Region.binds md e = true → e.on ≠ i) → oi.apart ops oj = true) →
      i ∈ Region.ready md ops l → YieldsIf P ops S oi v a → S w →
      wpAnyG P md ops Q S x f (l.setIfInBounds i true) (a.put oi.dst v) w → wpAnyG P md ops Q S x (f + 1) l a w := by
  intro f
  have hlt : i < ops.size := (Array.getElem?_eq_some_iff.1 hi).1
  induction f with
  | zero =>
    intro l a w _ hr hy hS H
    refine ⟨fun h => (by rw [h] at hr; cases hr), fun j hj => ?_⟩
    by_cases hji : j = i
    · subst hji; exact hy.wpOp hi hS ⟨.inr hS, H⟩
    · have h0 := ready_mono hj hji
      rw [H.1] at h0
      cases h0
  | succ f ih =>
    intro l a w hfree hr hy hS H
    refine ⟨fun h => (by rw [h] at hr; cases hr), fun j hj => ?_⟩
    by_cases hji : j = i
    · subst hji; exact hy.wpOp hi hS ⟨.inr hS, H⟩
    have hjx : j ≠ x := fun e => not_last hx hr hix hlt (e ▸ hj)
    obtain ⟨hjun, oj, hoj, hall⟩ := mem_ready.1 hj
    have hnot : ∀ e ∈ oj.after, Region.binds md e = true → e.on ≠ i := fun e he hb heq => by
      have h1 := hall e he hb
      rw [heq, getD_both (mem_ready.1 hr).1] at h1
      cases h1
    have h2 := wpOp_putIf hoj (hfree j oj hoj hji hjun hnot) (fun cs b => hsel i oi cs b hi) (fun cs b => hsel j oj cs b hoj) hQ hy (H.2 j (ready_mono hj hji))
    refine wpOp_mono (fun a' w' h3 => ?_) h2
    have hS' := h3.2.1.resolve_left hjx
    refine ⟨.inr hS', ih (l.setIfInBounds j true) a' w' (fun k ok hk hki hun hno => ?_) (ready_mono hr (Ne.symm hji)) h3.1 hS' ?_⟩
    · refine hfree k ok hk hki ?_ hno
      by_cases hjk : j = k
      · subst hjk; exact hjun
      · rw [getD_set_ne true hjk] at hun; exact hun
    · rw [Array.setIfInBounds_comm _ _ hji]
      exact h3.2.2
/-- what the walk of a head of reads asks: each operation yields one value in every world that meets S -/
def HeadG (P : Program) (ops : Array Oper) (S : World → Prop) (L : Act → Prop) : List Oper → Act → Prop
  | [], a => L a
  | o :: l, a => ∃ v, YieldsIf P ops S o v a ∧ HeadG P ops S L l (a.put o.dst v)
theorem headG_step {L : Act → Prop} {o : Oper} {l : List Oper} {a : Act} (v : Value) (hw : Region.wanted o (yielded ops a.tmps) = true) (hv : ∀ w, S w → (execOp a.eval o).run P w = .ok (.value v) w) (h : HeadG P ops S L l (a.put o.dst v)) : HeadG P ops S L (o :: l) a := ⟨v, .inl ⟨hw, hv⟩, h⟩
theorem headG_mono {L L' : Act → Prop} (hL : ∀ a, L a → L' a) : ∀ (o : List Oper) (a : Act), HeadG P ops S L o a → HeadG P ops S L' o a
  | [], a, h => hL a h
  | _ :: os, _, ⟨v, hy, h⟩ => ⟨v, hy, headG_mono hL os _ h⟩
/-- the head's operations may be taken first, one by one -/
def headB (md : Region.Mode) (ops : Array Oper) (x : Nat) : Nat → Nat → Array Bool → Bool
  | 0, _, _ => true
  | f + 1, k, l => decide (k ≠ x) && (Region.ready md ops l).contains k && Region.free md ops l k && headB md ops x f (k + 1) (l.setIfInBounds k true)
def listN : Nat → Nat → Array Bool → Array Bool
  | 0, _, l => l
  | f + 1, k, l => listN f (k + 1) (l.setIfInBounds k true)
theorem g_head {g : Nat} {w : World} (hsel : Region.noSelect ops = true) (hx : lastB md ops x = true) (hQ : ∀ c a d v w, Q (.panic c) (Act.put a d v) w → Q (.panic c) a w) (hS : S w) :
    ∀ (o : List Oper) (k : Nat) (l : Array Bool) (a : Act), (∀ j, j < o.length → o[j]? = ops[k + j]?) → headB md ops x o.length k l = true →
      HeadG P ops S (fun a' => wpAnyG P md ops Q S x g (listN o.length k l) a' w) o a → wpAnyG P md ops Q S x (o.length + g) l a w
  | [], k, l, a, _, _, h => by simpa [listN, HeadG] using h
  | o :: os, k, l, a, hl, hB, h => by
    have h0 : ops[k]? = some o := by simpa using (hl 0 (by simp)).symm
    simp only [List.length_cons, headB, Bool.and_eq_true, decide_eq_true_eq] at hB
    obtain ⟨⟨⟨hkx, hr⟩, hf⟩, hB'⟩ := hB
    obtain ⟨v, hy, hK⟩ := h
    rw [show (o :: os).length + g = (os.length + g) + 1 by simp; omega]
    exact g_first h0 (Region.noSelect_spec hsel) hx hkx (fun c a w => hQ c a _ v w) _ l a w (Region.free_spec h0 hf) (by simpa using hr) hy hS
      (g_head hsel hx hQ hS os (k + 1) _ _ (fun j hj => by have := hl (j + 1) (by simp; omega); simpa [Nat.add_assoc, Nat.add_comm 1 j] using this) hB' hK)
/-- behind the head: the operations of the tail in their one order, S anew behind each but the closing one -/
def TailG (P : Program) (Q : Exit → Act → World → Prop) (S : World → Prop) : List Oper → Act → World → Prop
  | [], a, w => Q .normal a w
  | [o], a, w => o.wp P a w (fun a' w' => Q .normal a' w') Q
  | o :: l, a, w => o.wp P a w (fun a' w' => S w' ∧ TailG P Q S l a' w') Q
def bareB (ops : Array Oper) (k : Nat) : Bool := match ops[k]? with
  | some o => o.guard.isNone
  | none => false
theorem bare_of {k : Nat} {o : Oper} (h : bareB ops k = true) (h0 : ops[k]? = some o) : o.guard = none := by
  unfold bareB at h
  rw [h0] at h
  simpa using h
def tailB (md : Region.Mode) (ops : Array Oper) (x : Nat) : Nat → Nat → Array Bool → Bool
  | 0, _, l => (Region.ready md ops l).isEmpty
  | f + 1, k, l => decide (Region.ready md ops l = [k]) && decide (f = 0 → k = x) && bareB ops k && tailB md ops x f (k + 1) (l.setIfInBounds k true)
theorem g_tail : ∀ (o : List Oper) (k : Nat) (l : Array Bool) (a : Act) (w : World), (∀ j, j < o.length → o[j]? = ops[k + j]?) → tailB md ops x o.length k l = true →
    TailG P Q S o a w → wpAnyG P md ops Q S x o.length l a w
  | [], k, l, a, w, _, hB, h => ⟨by simpa [tailB] using hB, h⟩
  | o :: os, k, l, a, w, hl, hB, h => by
    have h0 : ops[k]? = some o := by simpa using (hl 0 (by simp)).symm
    simp only [List.length_cons, tailB, Bool.and_eq_true, decide_eq_true_eq] at hB
    obtain ⟨⟨⟨hr, hlast⟩, hg0⟩, hB'⟩ := hB
    have hg := bare_of hg0 h0
    refine ⟨fun e => (by rw [hr] at e; cases e), fun i hi => ?_⟩
    obtain rfl : i = k := by rw [hr] at hi; simpa using hi
    have hw : Region.wanted o (yielded ops a.tmps) = true := by simp [Region.wanted, hg]
    have hrest : ∀ j, j < os.length → os[j]? = ops[i + 1 + j]? := fun j hj => by have := hl (j + 1) (by simp; omega); simpa [Nat.add_assoc, Nat.add_comm 1 j] using this
    unfold wpOp
    simp only [h0, hw, if_true]
    refine .inl ?_
    cases os with
    | nil => exact Oper.wp_mono (fun a' w' h' => ⟨.inl (hlast rfl), g_tail [] _ _ _ _ hrest hB' h'⟩) h
    | cons o2 os2 => exact Oper.wp_mono (fun a' w' h' => ⟨.inr h'.1, g_tail (o2 :: os2) _ _ _ _ hrest hB' h'.2⟩) h
def DoneG (Q : Exit → Act → World → Prop) (w : World) (a : Act) : Prop := Q .normal a w
theorem headG_done {a : Act} {w : World} (h : Q .normal a w) : HeadG P ops S (DoneG Q w) [] a := h
/-- a region of reads alone, in a round -/
theorem round_reads {a : Act} {w : World} {l n : Nat} {id : Nat} {ops : List Oper} (S : World → Prop) (hm : P.follows .mixedOrders = true) (hsel : Region.noSelect ops.toArray = true) (hnd : noDeferB ops.toArray = true)
    (hB : headB .any ops.toArray ops.length ops.length 0 (Array.replicate ops.length false) = true) (hE : (Region.ready .any ops.toArray (listN ops.length 0 (Array.replicate ops.length false))).isEmpty = true)
    (hQ : ¬ LetsOut Q) (hQ2 : ∀ c a d v w, Q (.panic c) (Act.put a d v) w → Q (.panic c) a w) (hS : S w.drew)
    (h : HeadG P ops.toArray S (DoneG Q w.drew) ops a) : (Code.region id ops.toArray true).wpIn (Fence.wide.inRound l) n P Q a w := by
  refine wpIn_region_any hm (any_round l n (noDefer_of hnd) hQ _ _ _ _ (any_of_g (S := S) (x := ops.length) _ _ _ _ ?_))
  have H := g_head (P := P) (Q := Q) (md := .any) (x := ops.length) (g := 0) hsel (by simp [lastB]) hQ2 hS ops 0 (Array.replicate ops.length false) a (fun j hj => by simp) hB ?_
  · simpa using H
  · exact headG_mono (fun a' h' => ⟨by simpa using hE, h'⟩) _ _ h
/-- a region of reads, closed by a tail in one order whose last operation writes -/
theorem region_held {a : Act} {w : World} {id : Nat} {ops : List Oper} (k : Nat) (S : World → Prop) (hm : P.follows .mixedOrders = true) (hsel : Region.noSelect ops.toArray = true) (hx : lastB .any ops.toArray (ops.length - 1) = true)
    (hB : headB .any ops.toArray (ops.length - 1) k 0 (Array.replicate ops.length false) = true) (hT : tailB .any ops.toArray (ops.length - 1) (ops.length - k) k (listN k 0 (Array.replicate ops.length false)) = true) (hk : decide (k ≤ ops.length) = true)
    (hQ2 : ∀ c a d v w, Q (.panic c) (Act.put a d v) w → Q (.panic c) a w) (hS : S w.drew)
    (h : HeadG P ops.toArray S (fun a' => TailG P Q S (ops.drop k) a' w.drew) (ops.take k) a) : (Code.region id ops.toArray true).wp P Q a w := by
  have hk' : k ≤ ops.length := of_decide_eq_true hk
  have htl : (ops.take k).length = k := by rw [List.length_take]; omega
  have hdl : (ops.drop k).length = ops.length - k := by simp
  refine wp_region_any hm (any_of_g (S := S) (x := ops.length - 1) _ _ _ _ ?_)
  have H := g_head (P := P) (Q := Q) (g := ops.length - k) hsel hx hQ2 hS (ops.take k) 0 (Array.replicate ops.length false) a (fun j hj => by rw [htl] at hj; simp [hj]) (by rw [htl]; exact hB) ?_
  · rw [htl, show k + (ops.length - k) = ops.length by omega] at H
    simpa using H
  · rw [htl]
    refine headG_mono (fun a' h' => ?_) _ _ h
    have := g_tail (md := .any) (ops := ops.toArray) (x := ops.length - 1) (ops.drop k) k (listN k 0 (Array.replicate ops.length false)) a' w.drew (fun j _ => by simp [List.getElem?_drop]) (by rw [hdl]; exact hT) h'
    rwa [hdl] at this
/-- a region of reads, closed by a tail in one order whose last operation writes, in a round -/
theorem round_held {a : Act} {w : World} {l n : Nat} {id : Nat} {ops : List Oper} (k : Nat) (S : World → Prop) (hm : P.follows .mixedOrders = true) (hsel : Region.noSelect ops.toArray = true) (hx : lastB .any ops.toArray (ops.length - 1) = true) (hnd : noDeferB ops.toArray = true)
    (hB : headB .any ops.toArray (ops.length - 1) k 0 (Array.replicate ops.length false) = true) (hT : tailB .any ops.toArray (ops.length - 1) (ops.length - k) k (listN k 0 (Array.replicate ops.length false)) = true) (hk : decide (k ≤ ops.length) = true)
    (hQ : ¬ LetsOut Q) (hQ2 : ∀ c a d v w, Q (.panic c) (Act.put a d v) w → Q (.panic c) a w) (hS : S w.drew)
    (h : HeadG P ops.toArray S (fun a' => TailG P Q S (ops.drop k) a' w.drew) (ops.take k) a) : (Code.region id ops.toArray true).wpIn (Fence.wide.inRound l) n P Q a w := by
  have hk' : k ≤ ops.length := of_decide_eq_true hk
  have htl : (ops.take k).length = k := by rw [List.length_take]; omega
  have hdl : (ops.drop k).length = ops.length - k := by simp
  refine wpIn_region_any hm (any_round l n (noDefer_of hnd) hQ _ _ _ _ (any_of_g (S := S) (x := ops.length - 1) _ _ _ _ ?_))
  have H := g_head (P := P) (Q := Q) (g := ops.length - k) hsel hx hQ2 hS (ops.take k) 0 (Array.replicate ops.length false) a (fun j hj => by rw [htl] at hj; simp [hj]) (by rw [htl]; exact hB) ?_
  · rw [htl, show k + (ops.length - k) = ops.length by omega] at H
    simpa using H
  · rw [htl]
    refine headG_mono (fun a' h' => ?_) _ _ h
    have := g_tail (md := .any) (ops := ops.toArray) (x := ops.length - 1) (ops.drop k) k (listN k 0 (Array.replicate ops.length false)) a' w.drew (fun j _ => by simp [List.getElem?_drop]) (by rw [hdl]; exact hT) h'
    rwa [hdl] at this
theorem tail_cons {o o2 : Oper} {l : List Oper} {a : Act} {w : World} (h : ∀ K : Act → World → Prop, (∀ a' w', S w' → TailG P Q S (o2 :: l) a' w' → K a' w') → o.wp P a w K Q) : TailG P Q S (o :: o2 :: l) a w := h _ fun _ _ h1 h2 => ⟨h1, h2⟩
theorem tail_last {o : Oper} {a : Act} {w : World} (h : ∀ K : Act → World → Prop, (∀ a' w', Q .normal a' w' → K a' w') → o.wp P a w K Q) : TailG P Q S [o] a w := h _ fun _ _ h1 => h1
end
/-- 'append(out, x)', x of one cell, at the operation -/
theorem wp_append1W {P : Program} {w : World} {o : Oper} {a : Act} {K : Act → World → Prop} {Q : Exit → Act → World → Prop} (s x : Operand) (t : TypeId)
    (ho : o.op = .call { callee := .builtin .append, args := #[s, x], argTypes := #[t, t] })
    (base : Nat) (E : TypeId) (z : Value) (bytes : Nat) (hinfo : (P.info? E).map (fun i => (i.zero, i.size, i.bytes)) = some (some z, 1, bytes)) (ht : P.underlying t = some (.slice E)) (hz : z.cells.size = 1)
    (v : Value) (n : Nat) (xs : List Value) (hs : a.eval s = v) (hown : w.ownsRow base E 1 v n xs)
    (u : Value) (b : Nat) (hx : a.eval x = .slice (some ⟨b, 0, none⟩) 1 1) (hb : b = w.heap.size) (h1 : u.oneCell' = true) (hbytes : (n + 1) * bytes ≤ 100000000) (hn : n + 1 ≤ 100000000) (hbase : base ≤ w.heap.size)
    (h : ∀ v' w', w'.ownsRow base E 1 v' (n + 1) (xs ++ [u]) → w.grownBy w' v.ownBlock → At w v v' → K (a.put o.dst v') w') : o.wp P a (w.alloc (.cells #[u] E)) K Q := by
  obtain ⟨i, hi, hz1, hz2, hz3⟩ := info_parts hinfo
  subst hb
  refine wp_append_lies _ s x t ho base E i z 1 bytes ht hi hz1 hz2 hz3 hz (by omega) v n xs hs (hown.alloc _) ⟨w.heap.size, 0, none⟩ 1 1 [u] hx rfl ?_ ?_ (by omega) (by unfold maxLen; omega) (by omega) (by simp; omega) _ rfl ?_
  · intro j u' hj
    match j, hj with
    | 0, hj => simp at hj; subst hj; simp [Addr.add]
  · intro u' hu; simp at hu; subst hu; exact h1
  · intro g cap w' ho' hg hat _
    refine h _ w' ho' ((World.grownBy_alloc w _ _).trans hg) fun g' hg' => ?_
    rcases hat with e | e
    · exact .inl (by rw [e]; exact hg')
    · right
      simp [Value.ownBlock] at hg'
      simp at e
      omega
/-- a box that holds an own row is kept where no cells are written -/
theorem own_row {β : Type} {B g base : Nat} {T E : TypeId} {size : Nat} (f : β → Nat) (xs : β → List Value) : OwnFrom B (fun s W => ∃ v, St W g #[v] T ∧ W.ownsRow base E size v (f s) (xs s)) := fun s W W' row hs hg hr => by
  obtain ⟨v, h1, h2⟩ := hs
  have h : W.heap[g]? = some (.cells #[v] T (0, 0)) := h1
  refine ⟨v, (grownBy_keeps_cells hg (fun r e => (hr r e).2) h rfl).trans h, h2.1, ?_⟩
  rcases h2.2 with a | ⟨g', cap, cur, e, hb, hh, r⟩
  · exact .inl a
  · exact .inr ⟨g', cap, cur, e, hb, (grownBy_keeps_cells hg (fun r e => (hr r e).2) hh rfl).trans hh, r⟩
theorem keeps_grown {w w' : World} {base : Nat} {E : TypeId} {size n : Nat} {v : Value} {xs : List Value} (h : w.ownsRow base E size v n xs) (hg : w.grownBy w' v.ownBlock) : KeepsOthers w w' :=
  ⟨hg.size, fun k o hk ho => by
    refine (hg.block k (Array.getElem?_eq_some_iff.1 hk).1 fun e => ?_).trans hk
    rcases h.2 with ⟨rfl, _⟩ | ⟨g, cap, cur, rfl, _, hh, _⟩
    · simp [Value.ownBlock] at e
    · simp [Value.ownBlock] at e
      subst e
      rw [hh] at hk
      cases hk
      cases ho⟩
theorem own_putObj {w : World} {base D : Nat} {E : TypeId} {size n : Nat} {v : Value} {xs : List Value} {o : Obj} (h : w.ownsRow base E size v n xs) (hK : w.heap[D]? = some (.deferred (some []))) : (w.putObj D o).ownsRow base E size v n xs := by
  refine ⟨h.1, ?_⟩
  rcases h.2 with a | ⟨g, cap, cur, rfl, hb, hh, r⟩
  · exact .inl a
  · refine .inr ⟨g, cap, cur, rfl, hb, (World.putObj_heap_other ?_).trans hh, r⟩
    rintro rfl
    rw [hh] at hK; cases hK
/-- what lies elsewhere than the row is kept -/
theorem St.grown {w w' : World} {base g : Nat} {E T : TypeId} {size n : Nat} {v : Value} {vs : Array Value} {xs : List Value} (s : St w g vs T) (h : w.ownsRow base E size v n xs) (hg : w.grownBy w' v.ownBlock) (hb : g < base) : St w' g vs T :=
  (hg.block g s.lt fun e => by have := own_base h g e.symm; omega).trans s
end Go.Proofs.Ytebjdchfofhmhaa
