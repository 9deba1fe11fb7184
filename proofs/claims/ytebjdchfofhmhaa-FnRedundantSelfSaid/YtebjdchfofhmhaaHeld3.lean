/-
  Three variables made in a region that draws its order, in a round of a range over a function: in whatever order they are made, they lie apart. No program in sight.
-/
import Derived.Test.YtebjdchfofhmhaaHeld
import Derived.Test.YtebjdchfofhmhaaPairs
namespace Go.Proofs.Ytebjdchfofhmhaa
open Go.RowKit

section
variable {P : Program} {ops : Array Oper} {Q : Exit → Act → World → Prop} {md : Region.Mode} {S : World → Prop} {x : Nat}
/-- operation o makes a variable: its block holds Z -/
def Makes (P : Program) (o : Oper) (d : Tmp) (Z : Obj) : Prop := o.guard = none ∧ ∀ (a : Act) (w : World) (K : Act → World → Prop) (Q : Exit → Act → World → Prop), K (a.put (some d) (.pointer (some ⟨w.heap.size, 0, none⟩))) (w.alloc Z) → o.wp P a w K Q
theorem g_make {i : Nat} {o : Oper} {d : Tmp} {Z : Obj} {f : Nat} {l : Array Bool} {a : Act} {w : World} (hi : ops[i]? = some o) (hm : Makes P o d Z)
    (h : ∃ y, (i = x ∨ S (w.alloc Z)) ∧ wpAnyG P md ops Q S x f (l.setIfInBounds i true) y (w.alloc Z) ∧ y = a.put (some d) (.pointer (some ⟨w.heap.size, 0, none⟩))) :
    wpOp P ops Q i (fun a' w' => (i = x ∨ S w') ∧ wpAnyG P md ops Q S x f (l.setIfInBounds i true) a' w') a w := by
  obtain ⟨y, h1, h2, rfl⟩ := h
  unfold wpOp
  have hw : Region.wanted o (yielded ops a.tmps) = true := by simp [Region.wanted, hm.1]
  simp only [hi, hw, if_true]
  exact .inl (hm.2 _ _ _ _ ⟨h1, h2⟩)
def three (md : Region.Mode) (ops : Array Oper) (k : Nat) (l : Array Bool) : Bool :=
  decide (Region.ready md ops l = [k, k + 1, k + 2]) &&
  decide (Region.ready md ops (l.setIfInBounds k true) = [k + 1, k + 2]) && decide (Region.ready md ops (l.setIfInBounds (k + 1) true) = [k, k + 2]) && decide (Region.ready md ops (l.setIfInBounds (k + 2) true) = [k, k + 1]) &&
  decide (Region.ready md ops ((l.setIfInBounds k true).setIfInBounds (k + 1) true) = [k + 2]) && decide (Region.ready md ops ((l.setIfInBounds k true).setIfInBounds (k + 2) true) = [k + 1]) && decide (Region.ready md ops ((l.setIfInBounds (k + 1) true).setIfInBounds (k + 2) true) = [k])
/-- where three new variables may lie -/
structure Apart3 (G p q r : Nat) : Prop where
  ge : G ≤ p ∧ G ≤ q ∧ G ≤ r
  lt : p < G + 3 ∧ q < G + 3 ∧ r < G + 3
  ne : p ≠ q ∧ p ≠ r ∧ q ≠ r
def ptr (p : Nat) : Value := .pointer (some ⟨p, 0, none⟩)
theorem g_three {k : Nat} {o1 o2 o3 : Oper} {d1 d2 d3 : Tmp} {Z : Obj} {f : Nat} {l : Array Bool} {a : Act} {w : World} (hB : three md ops k l = true) (h1 : ops[k]? = some o1) (h2 : ops[k + 1]? = some o2) (h3 : ops[k + 2]? = some o3)
    (m1 : Makes P o1 d1 Z) (m2 : Makes P o2 d2 Z) (m3 : Makes P o3 d3 Z) (e12 : d1 ≠ d2) (e13 : d1 ≠ d3) (e23 : d2 ≠ d3) (hS1 : S (w.alloc Z)) (hS2 : S ((w.alloc Z).alloc Z)) (hS3 : S (((w.alloc Z).alloc Z).alloc Z))
    (h : ∀ p q r, Apart3 w.heap.size p q r → wpAnyG P md ops Q S x f (((l.setIfInBounds k true).setIfInBounds (k + 1) true).setIfInBounds (k + 2) true) (((a.put (some d1) (ptr p)).put (some d2) (ptr q)).put (some d3) (ptr r)) (((w.alloc Z).alloc Z).alloc Z)) :
    wpAnyG P md ops Q S x (f + 3) l a w := by
  simp only [three, Bool.and_eq_true, decide_eq_true_eq] at hB
  obtain ⟨⟨⟨⟨⟨⟨b0, b1⟩, b2⟩, b3⟩, b12⟩, b13⟩, b23⟩ := hB
  have c12 : ∀ (a : Act) (u v : Value), (a.put (some d2) v).put (some d1) u = (a.put (some d1) u).put (some d2) v := fun a u v => Act.put_comm a v u (by intro t q1 q2; cases q1; cases q2; exact e12 rfl)
  have c13 : ∀ (a : Act) (u v : Value), (a.put (some d3) v).put (some d1) u = (a.put (some d1) u).put (some d3) v := fun a u v => Act.put_comm a v u (by intro t q1 q2; cases q1; cases q2; exact e13 rfl)
  have c23 : ∀ (a : Act) (u v : Value), (a.put (some d3) v).put (some d2) u = (a.put (some d2) u).put (some d3) v := fun a u v => Act.put_comm a v u (by intro t q1 q2; cases q1; cases q2; exact e23 rfl)
  have s12 : ∀ l : Array Bool, (l.setIfInBounds (k + 1) true).setIfInBounds k true = (l.setIfInBounds k true).setIfInBounds (k + 1) true := fun l => Array.setIfInBounds_comm _ _ (by omega)
  have s13 : ∀ l : Array Bool, (l.setIfInBounds (k + 2) true).setIfInBounds k true = (l.setIfInBounds k true).setIfInBounds (k + 2) true := fun l => Array.setIfInBounds_comm _ _ (by omega)
  have s23 : ∀ l : Array Bool, (l.setIfInBounds (k + 2) true).setIfInBounds (k + 1) true = (l.setIfInBounds (k + 1) true).setIfInBounds (k + 2) true := fun l => Array.setIfInBounds_comm _ _ (by omega)
  have z1 : (w.alloc Z).heap.size = w.heap.size + 1 := World.size_alloc _ _
  have z2 : ((w.alloc Z).alloc Z).heap.size = w.heap.size + 2 := by rw [World.size_alloc, World.size_alloc]
  refine ⟨fun e => (by rw [b0] at e; cases e), fun i hi => ?_⟩
  rw [b0] at hi
  simp only [List.mem_cons, List.not_mem_nil, or_false] at hi
  rcases hi with rfl | rfl | rfl
  · refine g_make h1 m1 ⟨_, .inr hS1, ?_, rfl⟩
    refine ⟨fun e => (by rw [b1] at e; cases e), fun j hj => ?_⟩
    rw [b1] at hj
    simp only [List.mem_cons, List.not_mem_nil, or_false] at hj
    rcases hj with rfl | rfl
    · refine g_make h2 m2 ⟨_, .inr hS2, ?_, rfl⟩
      refine ⟨fun e => (by rw [b12] at e; cases e), fun t ht => ?_⟩
      rw [b12] at ht
      simp only [List.mem_cons, List.not_mem_nil, or_false] at ht
      subst ht
      refine g_make h3 m3 ⟨_, .inr hS3, ?_, rfl⟩
      have H := h w.heap.size (w.alloc Z).heap.size ((w.alloc Z).alloc Z).heap.size ⟨by omega, by omega, by omega⟩
      simpa only [s12, s13, s23, c12, c13, c23, ptr] using H
    · refine g_make h3 m3 ⟨_, .inr hS2, ?_, rfl⟩
      refine ⟨fun e => (by rw [b13] at e; cases e), fun t ht => ?_⟩
      rw [b13] at ht
      simp only [List.mem_cons, List.not_mem_nil, or_false] at ht
      subst ht
      refine g_make h2 m2 ⟨_, .inr hS3, ?_, rfl⟩
      have H := h w.heap.size ((w.alloc Z).alloc Z).heap.size (w.alloc Z).heap.size ⟨by omega, by omega, by omega⟩
      simpa only [s12, s13, s23, c12, c13, c23, ptr] using H
  · refine g_make h2 m2 ⟨_, .inr hS1, ?_, rfl⟩
    refine ⟨fun e => (by rw [b2] at e; cases e), fun j hj => ?_⟩
    rw [b2] at hj
    simp only [List.mem_cons, List.not_mem_nil, or_false] at hj
    rcases hj with rfl | rfl
    · refine g_make h1 m1 ⟨_, .inr hS2, ?_, rfl⟩
      refine ⟨fun e => (by rw [s12, b12] at e; cases e), fun t ht => ?_⟩
      rw [s12, b12] at ht
      simp only [List.mem_cons, List.not_mem_nil, or_false] at ht
      subst ht
      refine g_make h3 m3 ⟨_, .inr hS3, ?_, rfl⟩
      have H := h (w.alloc Z).heap.size w.heap.size ((w.alloc Z).alloc Z).heap.size ⟨by omega, by omega, by omega⟩
      simpa only [s12, s13, s23, c12, c13, c23, ptr] using H
    · refine g_make h3 m3 ⟨_, .inr hS2, ?_, rfl⟩
      refine ⟨fun e => (by rw [b23] at e; cases e), fun t ht => ?_⟩
      rw [b23] at ht
      simp only [List.mem_cons, List.not_mem_nil, or_false] at ht
      subst ht
      refine g_make h1 m1 ⟨_, .inr hS3, ?_, rfl⟩
      have H := h ((w.alloc Z).alloc Z).heap.size w.heap.size (w.alloc Z).heap.size ⟨by omega, by omega, by omega⟩
      simpa only [s12, s13, s23, c12, c13, c23, ptr] using H
  · refine g_make h3 m3 ⟨_, .inr hS1, ?_, rfl⟩
    refine ⟨fun e => (by rw [b3] at e; cases e), fun j hj => ?_⟩
    rw [b3] at hj
    simp only [List.mem_cons, List.not_mem_nil, or_false] at hj
    rcases hj with rfl | rfl
    · refine g_make h1 m1 ⟨_, .inr hS2, ?_, rfl⟩
      refine ⟨fun e => (by rw [s13, b13] at e; cases e), fun t ht => ?_⟩
      rw [s13, b13] at ht
      simp only [List.mem_cons, List.not_mem_nil, or_false] at ht
      subst ht
      refine g_make h2 m2 ⟨_, .inr hS3, ?_, rfl⟩
      have H := h (w.alloc Z).heap.size ((w.alloc Z).alloc Z).heap.size w.heap.size ⟨by omega, by omega, by omega⟩
      simpa only [s12, s13, s23, c12, c13, c23, ptr] using H
    · refine g_make h2 m2 ⟨_, .inr hS2, ?_, rfl⟩
      refine ⟨fun e => (by rw [s23, b23] at e; cases e), fun t ht => ?_⟩
      rw [s23, b23] at ht
      simp only [List.mem_cons, List.not_mem_nil, or_false] at ht
      subst ht
      refine g_make h1 m1 ⟨_, .inr hS3, ?_, rfl⟩
      have H := h ((w.alloc Z).alloc Z).heap.size (w.alloc Z).heap.size w.heap.size ⟨by omega, by omega, by omega⟩
      simpa only [s12, s13, s23, c12, c13, c23, ptr] using H
/-- a region of reads, of three variables made, closed by a tail in one order, in a round -/
theorem round_made {a : Act} {w : World} {l n : Nat} {id : Nat} {ops : List Oper} (k : Nat) (S : World → Prop) (Z : Obj) {o1 o2 o3 : Oper} (d1 d2 d3 : Tmp) (hm : P.follows .mixedOrders = true) (hsel : Region.noSelect ops.toArray = true) (hx : lastB .any ops.toArray (ops.length - 1) = true) (hnd : noDeferB ops.toArray = true)
    (hB : headB .any ops.toArray (ops.length - 1) k 0 (Array.replicate ops.length false) = true) (h3 : three .any ops.toArray k (listN k 0 (Array.replicate ops.length false)) = true)
    (hT : tailB .any ops.toArray (ops.length - 1) (ops.length - (k + 3)) (k + 3) ((((listN k 0 (Array.replicate ops.length false)).setIfInBounds k true).setIfInBounds (k + 1) true).setIfInBounds (k + 2) true) = true) (hk : decide (k + 3 ≤ ops.length) = true)
    (i1 : ops.toArray[k]? = some o1) (i2 : ops.toArray[k + 1]? = some o2) (i3 : ops.toArray[k + 2]? = some o3) (m1 : Makes P o1 d1 Z) (m2 : Makes P o2 d2 Z) (m3 : Makes P o3 d3 Z) (e12 : d1 ≠ d2) (e13 : d1 ≠ d3) (e23 : d2 ≠ d3)
    (hQ : ¬ LetsOut Q) (hQ2 : ∀ c a d v w, Q (.panic c) (Act.put a d v) w → Q (.panic c) a w) (hS : S w.drew) (hS1 : S (w.drew.alloc Z)) (hS2 : S ((w.drew.alloc Z).alloc Z)) (hS3 : S (((w.drew.alloc Z).alloc Z).alloc Z))
    (h : HeadG P ops.toArray S (fun a' => ∀ p q r, Apart3 w.heap.size p q r → TailG P Q S (ops.drop (k + 3)) (((a'.put (some d1) (ptr p)).put (some d2) (ptr q)).put (some d3) (ptr r)) (((w.drew.alloc Z).alloc Z).alloc Z)) (ops.take k) a) : (Code.region id ops.toArray true).wpIn (Fence.wide.inRound l) n P Q a w := by
  have hk' : k + 3 ≤ ops.length := of_decide_eq_true hk
  have htl : (ops.take k).length = k := by rw [List.length_take]; omega
  have hdl : (ops.drop (k + 3)).length = ops.length - (k + 3) := by simp
  refine wpIn_region_any hm (any_round l n (noDefer_of hnd) hQ _ _ _ _ (any_of_g (S := S) (x := ops.length - 1) _ _ _ _ ?_))
  have H := g_head (P := P) (Q := Q) (g := ops.length - k) hsel hx hQ2 hS (ops.take k) 0 (Array.replicate ops.length false) a (fun j hj => by rw [htl] at hj; simp [hj]) (by rw [htl]; exact hB) ?_
  · rw [htl, show k + (ops.length - k) = ops.length by omega] at H
    simpa using H
  · rw [htl]
    refine headG_mono (fun a' h' => ?_) _ _ h
    rw [show ops.length - k = (ops.length - (k + 3)) + 3 by omega]
    refine g_three h3 i1 i2 i3 m1 m2 m3 e12 e13 e23 hS1 hS2 hS3 fun p q r ap => ?_
    have := g_tail (md := .any) (ops := ops.toArray) (x := ops.length - 1) (ops.drop (k + 3)) (k + 3) ((((listN k 0 (Array.replicate ops.length false)).setIfInBounds k true).setIfInBounds (k + 1) true).setIfInBounds (k + 2) true) _ (((w.drew.alloc Z).alloc Z).alloc Z) (fun j _ => by simp [List.getElem?_drop]) (by rw [hdl]; exact hT) (h' p q r ap)
    rwa [hdl] at this
end
theorem st_three {w : World} {p q r : Nat} {vs : Array Value} {T : TypeId} (h : Apart3 w.heap.size p q r) :
    St (((w.alloc (.cells vs T)).alloc (.cells vs T)).alloc (.cells vs T)) p vs T ∧ St (((w.alloc (.cells vs T)).alloc (.cells vs T)).alloc (.cells vs T)) q vs T ∧ St (((w.alloc (.cells vs T)).alloc (.cells vs T)).alloc (.cells vs T)) r vs T := by
  have z1 : (w.alloc (.cells vs T)).heap.size = w.heap.size + 1 := World.size_alloc _ _
  have z2 : ((w.alloc (.cells vs T)).alloc (.cells vs T)).heap.size = w.heap.size + 2 := by rw [World.size_alloc, World.size_alloc]
  have a0 : St (((w.alloc (.cells vs T)).alloc (.cells vs T)).alloc (.cells vs T)) w.heap.size vs T := ((St.new w vs T).ext ((Ext.refl _).alloc _)).ext ((Ext.refl _).alloc _)
  have a1 : St (((w.alloc (.cells vs T)).alloc (.cells vs T)).alloc (.cells vs T)) (w.heap.size + 1) vs T := by have := (St.new (w.alloc (.cells vs T)) vs T).ext ((Ext.refl _).alloc (.cells vs T)); rwa [z1] at this
  have a2 : St (((w.alloc (.cells vs T)).alloc (.cells vs T)).alloc (.cells vs T)) (w.heap.size + 2) vs T := by have := St.new ((w.alloc (.cells vs T)).alloc (.cells vs T)) vs T; rwa [z2] at this
  have key : ∀ t, w.heap.size ≤ t → t < w.heap.size + 3 → St (((w.alloc (.cells vs T)).alloc (.cells vs T)).alloc (.cells vs T)) t vs T := by
    intro t h1 h2
    rcases (show t = w.heap.size ∨ t = w.heap.size + 1 ∨ t = w.heap.size + 2 by omega) with rfl | rfl | rfl
    · exact a0
    · exact a1
    · exact a2
  exact ⟨key p h.ge.1 h.lt.1, key q h.ge.2.1 h.lt.2.1, key r h.ge.2.2 h.lt.2.2⟩
/-- 'append(out, x)', x of two cells, at the operation -/
theorem wp_append2W {P : Program} {w : World} {o : Oper} {a : Act} {K : Act → World → Prop} {Q : Exit → Act → World → Prop} (s x : Operand) (t : TypeId)
    (ho : o.op = .call { callee := .builtin .append, args := #[s, x], argTypes := #[t, t] })
    (base : Nat) (E : TypeId) (bytes : Nat) (hinfo : (P.info? E).map (fun i => (i.zero, i.size, i.bytes)) = some (some (.agg #[.int .i64 0, .int .i64 0]), 2, bytes)) (ht : P.underlying t = some (.slice E))
    (v : Value) (n : Nat) (l : List (Int × Int)) (hs : a.eval s = v) (hown : w.ownsRow base E 2 v n (pairs l))
    (p q : Int) (b : Nat) (hx : a.eval x = .slice (some ⟨b, 0, none⟩) 1 1) (hb : b = w.heap.size) (hbytes : (n + 1) * bytes ≤ 100000000) (hn : n + 1 ≤ 100000000) (hbase : base ≤ w.heap.size)
    (h : ∀ v' w', w'.ownsRow base E 2 v' (n + 1) (pairs (l ++ [(p, q)])) → w.grownBy w' v.ownBlock → At w v v' → K (a.put o.dst v') w') : o.wp P a (w.alloc (.cells #[.int .i64 p, .int .i64 q] E)) K Q := by
  obtain ⟨i, hi, hz1, hz2, hz3⟩ := info_parts hinfo
  subst hb
  refine wp_append_lies _ s x t ho base E i _ 2 bytes ht hi hz1 hz2 hz3 rfl (by omega) v n (pairs l) hs (hown.alloc _) ⟨w.heap.size, 0, none⟩ 1 1 [.int .i64 p, .int .i64 q] hx rfl ?_ ?_ (by omega) (by unfold maxLen; omega) (by omega) (by simp; omega) _ rfl ?_
  · intro j u' hj
    match j, hj with
    | 0, hj => simp at hj; subst hj; simp [Addr.add]
    | 1, hj => simp at hj; subst hj; simp [Addr.add]
  · intro u' hu; simp at hu; rcases hu with rfl | rfl <;> rfl
  · intro g cap w' ho' hg hat _
    refine h _ w' (by rw [pairs_append]; exact ho') ((World.grownBy_alloc w _ _).trans hg) fun g' hg' => ?_
    rcases hat with e | e
    · exact .inl (by rw [e]; exact hg')
    · right
      simp [Value.ownBlock] at hg'
      simp at e
      omega
end Go.Proofs.Ytebjdchfofhmhaa
