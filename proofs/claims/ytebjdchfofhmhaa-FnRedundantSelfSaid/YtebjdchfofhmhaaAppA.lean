/-
  Two rows of a call's own, appended to in turn: where each lies, and that they lie apart. No program in sight.
-/
import Derived.Test.YtebjdchfofhmhaaStruct
import Derived.Maps.AppendAt
import Derived.Deep.AppendLies
import Derived.Deep.RegionLaw
namespace Go.Proofs.Ytebjdchfofhmhaa
open Go.RowKit

theorem ints_snoc (l : List Int) (x : Int) : ints l ++ [Value.int .i64 x] = ints (l ++ [x]) := by simp [ints]
/-- two slice values lie in different blocks -/
def Ap (v u : Value) : Prop := ∀ g, v.ownBlock = some g → u.ownBlock ≠ some g
theorem Ap.symm {v u : Value} (h : Ap v u) : Ap u v := fun g h1 h2 => h g h2 h1
/-- where an appended row lies: where it lay, or in new memory -/
def At (w : World) (v v' : Value) : Prop := ∀ g, v'.ownBlock = some g → v.ownBlock = some g ∨ w.heap.size ≤ g
section
variable {w w' : World} {base base' : Nat} {E E' : TypeId} {size size' n n' : Nat} {v u : Value} {xs ys : List Value}
theorem own_other (h : w.ownsRow base E size u n ys) (hg : w.grownBy w' v.ownBlock) (ha : Ap v u) : w'.ownsRow base E size u n ys := by
  refine h.kept hg ?_
  cases hv : u.ownBlock with
  | none => exact .inl rfl
  | some g => exact .inr fun e => ha g e.symm hv
theorem Ap.next {v' : Value} (h : w.ownsRow base E size u n ys) (ha : Ap v u) (hat : At w v v') : Ap v' u := by
  intro g hg hu
  have := own_lt h g hu
  rcases hat g hg with e | e
  · exact ha g e hu
  · omega
theorem Ap.lit (h : w.ownsRow base E size v n xs) (c d : Nat) : Ap v (.slice (some ⟨w.heap.size, 0, none⟩) c d) := by
  intro g hg hu
  have := own_lt h g hg
  simp [Value.ownBlock] at hu
  omega
end
theorem Ext.grownV {w0 w w' : World} {base : Nat} {E : TypeId} {size n : Nat} {v : Value} {xs : List Value} (x : Ext w0 w) (h : w.ownsRow base E size v n xs) (hg : w.grownBy w' v.ownBlock) (hb : w0.heap.size ≤ base) : Ext w0 w' :=
  Ext.grown x hg fun g e => by have := own_base h g e; omega
theorem wpList_append1A {P : Program} {w : World} {ops : Array Oper} {rest : List Oper} {o : Oper} {a : Act} {Q : Exit → Act → World → Prop} (hgd : o.guard = none) (s x : Operand) (t : TypeId)
    (ho : o.op = .call { callee := .builtin .append, args := #[s, x], argTypes := #[t, t] })
    (base : Nat) (E : TypeId) (z : Value) (bytes : Nat) (hinfo : (P.info? E).map (fun i => (i.zero, i.size, i.bytes)) = some (some z, 1, bytes)) (ht : P.underlying t = some (.slice E)) (hz : z.cells.size = 1)
    (v : Value) (n : Nat) (xs : List Value) (hs : a.eval s = v) (hown : w.ownsRow base E 1 v n xs)
    (u : Value) (b : Nat) (hx : a.eval x = .slice (some ⟨b, 0, none⟩) 1 1) (hb : b = w.heap.size) (h1 : u.oneCell' = true) (hbytes : (n + 1) * bytes ≤ 100000000) (hn : n + 1 ≤ 100000000) (hbase : base ≤ w.heap.size)
    (h : ∀ v' w', w'.ownsRow base E 1 v' (n + 1) (xs ++ [u]) → w.grownBy w' v.ownBlock → At w v v' → wpList P ops Q rest (a.put o.dst v') w') : wpList P ops Q (o :: rest) a (w.alloc (.cells #[u] E)) := by
  obtain ⟨i, hi, hz1, hz2, hz3⟩ := info_parts hinfo
  subst hb
  refine wpList_append_own_at _ hgd s x t ho base E i z 1 bytes ht hi hz1 hz2 hz3 hz (by omega) v n xs hs (hown.alloc _) ⟨w.heap.size, 0, none⟩ 1 1 [u] hx rfl ?_ ?_ (by unfold maxLen; omega) (by omega) (by simp; omega) ?_
  · intro j u' hj
    match j, hj with
    | 0, hj => simp at hj; subst hj; simp [Addr.add]
  · intro u' hu; simp at hu; subst hu; exact h1
  · intro v' w' ho' hg _ hat
    refine h v' w' ho' ((World.grownBy_alloc w _ _).trans hg) fun g hg' => ?_
    rcases hat with e | e
    · exact .inl (by rw [← e]; exact hg')
    · rw [e] at hg'
      simp at hg'
      exact .inr (by omega)
/-- the same at a step of a region that draws its order, behind one draw -/
theorem step_append1D {P : Program} {w : World} {ops : Array Oper} {o : Oper} {a : Act} {K : Act → World → Prop} {Q : Exit → Act → World → Prop} {F : Prop} (hgd : o.guard = none) (s x : Operand) (t : TypeId)
    (ho : o.op = .call { callee := .builtin .append, args := #[s, x], argTypes := #[t, t] })
    (base : Nat) (E : TypeId) (z : Value) (bytes : Nat) (hinfo : (P.info? E).map (fun i => (i.zero, i.size, i.bytes)) = some (some z, 1, bytes)) (ht : P.underlying t = some (.slice E)) (hz : z.cells.size = 1)
    (v : Value) (n : Nat) (xs : List Value) (hs : a.eval s = v) (hown : w.ownsRow base E 1 v n xs)
    (u : Value) (b : Nat) (hx : a.eval x = .slice (some ⟨b, 0, none⟩) 1 1) (hb : b = w.heap.size) (h1 : u.oneCell' = true) (hbytes : (n + 1) * bytes ≤ 100000000) (hn : n + 1 ≤ 100000000) (hbase : base ≤ w.heap.size)
    (h : ∀ v' w', w'.ownsRow base E 1 v' (n + 1) (xs ++ [u]) → w.grownBy w' v.ownBlock → At w v v' → K (a.put o.dst v') w') :
    if Region.wanted o (yielded ops a.tmps) = true then Oper.wp P o a (w.alloc (.cells #[u] E)).drew K Q else F := by
  obtain ⟨i, hi, hz1, hz2, hz3⟩ := info_parts hinfo
  subst hb
  have hw : Region.wanted o (yielded ops a.tmps) = true := by simp [Region.wanted, hgd]
  rw [if_pos hw]
  refine wp_append_lies _ s x t ho base E i z 1 bytes ht hi hz1 hz2 hz3 hz (by omega) v n xs hs (own_ext (hown.alloc (.cells #[u] E)) (Ext.drew (Ext.refl _))) ⟨w.heap.size, 0, none⟩ 1 1 [u] hx rfl ?_ ?_ (by omega) (by unfold maxLen; omega) (by omega) (by simp; omega) _ rfl ?_
  · intro j u' hj
    match j, hj with
    | 0, hj => simp at hj; subst hj; simp [Addr.add]
  · intro u' hu; simp at hu; subst hu; exact h1
  · intro g cap w' ho' hg hat _
    have g1 : w.grownBy (w.alloc (.cells #[u] E)).drew v.ownBlock := ⟨rfl, rfl, rfl, (World.grownBy_alloc w (.cells #[u] E) v.ownBlock).size, (World.grownBy_alloc w (.cells #[u] E) v.ownBlock).block⟩
    refine h _ w' ho' (g1.trans hg) fun g' hg' => ?_
    rcases hat with e | e
    · exact .inl (by rw [e]; exact hg')
    · right
      simp [Value.ownBlock] at hg'
      simp at e
      omega
end Go.Proofs.Ytebjdchfofhmhaa
