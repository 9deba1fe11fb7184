/-
  An append inside a region that draws its order. No program in sight.
-/
import Derived.Test.YtnpbjfnmmleppaaBase
import Derived.Deep.RegionHeld3
import Derived.Deep.AppendLies
namespace Go.Proofs.Ytnpbjfnmmleppaa
open Go.RowKit

theorem own_empty {W : World} {H base : Nat} {E : TypeId} (h : W.heap[H]? = some (.cells #[] E (0, 0))) (hb : base ≤ H) : W.ownsRow base E 1 (.slice (some ⟨H, 0, none⟩) 0 0) 0 [] :=
  ⟨rfl, .inr ⟨H, 0, #[], rfl, hb, h, Nat.le_refl _, Nat.zero_le _, rfl, rfl⟩⟩
theorem heap_new {W : World} {o : Obj} {H : Nat} (h : H = W.heap.size) : (W.alloc o).heap[H]? = some o := by subst h; exact heap_alloc_new W o
theorem heap_old {W : World} {o x : Obj} {H : Nat} (h : W.heap[H]? = some x) : (W.alloc o).heap[H]? = some x := (Below.heap_alloc W o H (lt_of_heap h)).trans h
theorem heap_drew {W : World} {x : Obj} {H : Nat} (h : W.heap[H]? = some x) : W.drew.heap[H]? = some x := h
theorem heap_keep {W W' : World} {lo hi H : Nat} {x : Obj} (c : Chg lo hi W W') (h : W.heap[H]? = some x) (hc : H < lo ∨ hi ≤ H) : W'.heap[H]? = some x := (c.block H (lt_of_heap h) hc).trans h
/-- 'out = append(out, x)' at a step of a region that draws its order; x lies in block H -/
theorem step_app {P : Program} {W : World} {ops : Array Oper} {o : Oper} {a : Act} {K : Act → World → Prop} {Q : Exit → Act → World → Prop} {E' : Prop} (hgd : o.guard = none) (s x : Operand) (t : TypeId)
    (ho : o.op = .call { callee := .builtin .append, args := #[s, x], argTypes := #[t, t] })
    (base : Nat) (E : TypeId) (z : Value) (size bytes : Nat) (hinfo : (P.info? E).map (fun i => (i.zero, i.size, i.bytes)) = some (some z, size, bytes)) (ht : P.underlying t = some (.slice E)) (hz : z.cells.size = size) (hsz : 0 < size)
    (v : Value) (n : Nat) (xs : List Value) (hs : a.eval s = v) (hown : W.ownsRow base E size v n xs)
    (H : Nat) (news : List Value) (hx : a.eval x = .slice (some ⟨H, 0, none⟩) 1 1) (hl : news.length = size) (hb : W.heap[H]? = some (.cells news.toArray E (0, 0))) (h1 : ∀ u ∈ news, u.oneCell' = true)
    (hbytes : (n + 1) * bytes ≤ 100000000) (hn : n + 1 ≤ 100000000) (hbase : base ≤ W.heap.size)
    (h : ∀ v' w', w'.ownsRow base E size v' (n + 1) (xs ++ news) → (∀ w0, Ext w0 W → w0.heap.size ≤ base → Ext w0 w') → K (a.put o.dst v') w') :
    if Region.wanted o (yielded ops a.tmps) = true then Oper.wp P o a W K Q else E' := by
  obtain ⟨i, hi, hz1, hz2, hz3⟩ := info_parts hinfo
  refine step_append_lies _ hgd s x t ho base E i z size bytes ht hi hz1 hz2 hz3 hz hsz v n xs hs hown ⟨H, 0, none⟩ 1 1 news hx (by omega) ?_ h1 (by omega) (by unfold maxLen; omega) (by omega) hbase _ rfl ?_
  · intro j u hj
    have := World.news_of_block (w := W) (cs := news.toArray) (t := E) (fr := (0, 0)) (B := H) hb
    exact this j u (by simpa using hj)
  · intro g cap w' ho' hg _ _
    exact h _ w' ho' fun w0 he hb0 => he.grown hg fun g' hg' => by have := own_base hown g' hg'; omega
/-- 'append([]T{}, src...)' at a step of a region that draws its order, the new value written out; src is not empty; the empty literal lies in block H -/
theorem step_appE {P : Program} {W : World} {ops : Array Oper} {o : Oper} {a : Act} {K : Act → World → Prop} {Q : Exit → Act → World → Prop} {E' : Prop} (hgd : o.guard = none) (s x : Operand) (t : TypeId)
    (ho : o.op = .call { callee := .builtin .append, args := #[s, x], argTypes := #[t, t] })
    (E : TypeId) (z : Value) (bytes : Nat) (hinfo : (P.info? E).map (fun i => (i.zero, i.size, i.bytes)) = some (some z, 1, bytes)) (ht : P.underlying t = some (.slice E)) (hz : z.cells.size = 1)
    (H : Nat) (hs : a.eval s = .slice (some ⟨H, 0, none⟩) 0 0) (hH : W.heap[H]? = some (.cells #[] E (0, 0)))
    (g off m c : Nat) (news : List Value) (hx : a.eval x = .slice (some ⟨g, off, none⟩) m c) (hl : news.length = m * 1) (hr : Rd W W.heap.size (some ⟨g, off, none⟩) m c news) (h1 : ∀ u ∈ news, u.oneCell' = true)
    (hbytes : (0 + m) * bytes ≤ 100000000) (hn : 0 + m ≤ 100000000) (hm : 0 < m)
    (h : ∀ g' cap w', Sl w' g' (g' + 1) E (some ⟨g', 0, none⟩) m cap news → (g' = H ∨ g' = W.heap.size) → g' < w'.heap.size → Chg H (H + 1) W w' → w'.ownsRow H E 1 (.slice (some ⟨g', 0, none⟩) m cap) m news → K (a.put o.dst (.slice (some ⟨g', 0, none⟩) m cap)) w') :
    if Region.wanted o (yielded ops a.tmps) = true then Oper.wp P o a W K Q else E' := by
  obtain ⟨i, hi, hz1, hz2, hz3⟩ := info_parts hinfo
  refine step_append_lies _ hgd s x t ho H E i z 1 bytes ht hi hz1 hz2 hz3 hz (by omega) _ 0 [] hs (own_empty hH (Nat.le_refl _)) ⟨g, off, none⟩ m c news hx hl ?_ h1 hm (by unfold maxLen; omega) (by omega) (Nat.le_of_lt (lt_of_heap hH)) _ rfl ?_
  · intro j u hj
    have := hr.cell hj
    unfold Addr.add
    split
    · next h0 => subst h0; simpa using this
    · exact this
  · intro g' cap w' ho' hg hat hlt
    rw [Nat.zero_add] at ho' ⊢
    rw [List.nil_append] at ho'
    rcases ho'.2 with ⟨h0, _⟩ | ⟨g2, cap2, cur, he, hb, hgg, hnc, _, _, htk⟩
    · cases h0
    · simp only [Value.slice.injEq, Option.some.injEq, Addr.mk.injEq, and_true, true_and] at he
      obtain ⟨rfl, rfl⟩ := he
      refine h g' cap w' ⟨hnc, fun _ => ⟨g', 0, cur, rfl, Nat.le_refl _, Nat.lt_succ_self _, hgg, fun j u hu => ?_⟩⟩ ?_ hlt ((Chg.refl H (H + 1) W).grown hg fun r hr => ?_) ho'
      · rw [← htk, List.getElem?_take] at hu
        split at hu
        · simpa using hu
        · cases hu
      · simp [Value.ownBlock] at hat
        omega
      · simp [Value.ownBlock] at hr
        omega
end Go.Proofs.Ytnpbjfnmmleppaa
