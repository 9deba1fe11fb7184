/-
  Words for the draw of FnSolveRest: an append of one int, with what it leaves as it was.
-/
import Derived.Test.YtpjglnmnfmibnabDrawX
import Derived.Test.YtpjglnmnfmibnabInts
import Derived.Test.YtpjglnmnfmibnabSolSpec
namespace Go.Proofs.Ytpjglnmnfmibnab
open Go.RowKit
set_option linter.unusedVariables false

theorem wpList_append1C {P : Program} {w : World} {ops : Array Oper} {rest : List Oper} {o : Oper} {a : Act} {Q : Exit → Act → World → Prop} (hgd : o.guard = none) (s x : Operand) (t : TypeId)
    (ho : o.op = .call { callee := .builtin .append, args := #[s, x], argTypes := #[t, t] })
    (base : Nat) (E : TypeId) (z : Value) (bytes : Nat) (hinfo : (P.info? E).map (fun i => (i.zero, i.size, i.bytes)) = some (some z, 1, bytes)) (ht : P.underlying t = some (.slice E)) (hz : z.cells.size = 1)
    (v : Value) (n : Nat) (xs : List Value) (hs : a.eval s = v) (hown : w.ownsRow base E 1 v n xs)
    (u : Value) (b : Nat) (hx : a.eval x = .slice (some ⟨b, 0, none⟩) 1 1) (hb : b = w.heap.size) (h1 : u.oneCell' = true) (hbytes : (n + 1) * bytes ≤ 100000000) (hn : n + 1 ≤ 100000000) (hbase : base ≤ w.heap.size)
    (h : ∀ v' w', w'.ownsRow base E 1 v' (n + 1) (xs ++ [u]) → Chg base w.heap.size w w' → wpList P ops Q rest (a.put o.dst v') w') : wpList P ops Q (o :: rest) a (w.alloc (.cells #[u] E)) := by
  obtain ⟨i, hi, hz1, hz2, hz3⟩ := info_parts hinfo
  subst hb
  refine wpList_append_own _ hgd s x t ho base E i z 1 bytes ht hi hz1 hz2 hz3 hz (by omega) v n xs hs (hown.alloc _) ⟨w.heap.size, 0, none⟩ 1 1 [u] hx rfl ?_ ?_ (by unfold maxLen; omega) (by omega) (by simp; omega) ?_
  · intro j u' hj
    match j, hj with
    | 0, hj => simp at hj; subst hj; simp [Addr.add]
  · intro u' hu; simp at hu; subst hu; exact h1
  · intro v' w' ho' hg _
    exact h v' w' ho' (((Chg.refl base w.heap.size w).alloc _).grown hg fun g hg' => .inl ⟨own_base hown g hg', own_lt hown g hg'⟩)
def Some3 (w : World) (e : Ending) (w' : World) : Prop :=
  ∃ (N : Nat) (A : Option Addr) (n c : Nat) (l : VL) (A2 : Option Addr) (n2 c2 : Nat) (l2 : VL) (A3 : Option Addr) (n3 c3 : Nat) (ph : List Int), e = .returned (.tuple #[.int .i64 (N : Int), .slice A n c, .slice A2 n2 c2, .slice A3 n3 c3]) ∧ 2 ≤ N ∧ N ≤ 6 ∧
    l.length = n ∧ n ≤ 22 ∧ l2.length = n2 ∧ n2 ≤ 22 ∧ ph.length = n3 ∧ n3 ≤ 22 ∧ Sl w' w.heap.size w'.heap.size 30 A n c (pairs l) ∧ Sl w' w.heap.size w'.heap.size 30 A2 n2 c2 (pairs l2) ∧ Sl w' w.heap.size w'.heap.size 3 A3 n3 c3 (ints ph) ∧ Ext w w'
theorem results_tmp4 {fn : Func} {t u v x : Tmp} (h : fn.results = #[.tmp t, .tmp u, .tmp v, .tmp x]) (tmps : Array Value) (P : Program) (w : World) :
    (results fn tmps).run P w = .ok (.tuple #[tmps.getD t undef, tmps.getD u undef, tmps.getD v undef, tmps.getD x undef]) w := by
  simp [results, h]
theorem Sl.setI0 {w : World} {lo hi g off n c : Nat} {E : TypeId} {l : List Int} (h : Sl w lo hi E (some ⟨g, off, none⟩) n c (ints l)) (k : Nat) (u : Int) : Sl (w.setCell ⟨g, off + k, none⟩ (.int .i64 u)) lo hi E (some ⟨g, off, none⟩) n c (ints (l.set k u)) := by
  rw [← ints_set]; exact h.set_ k _
theorem specPhaseOf_n (x : Int) (w : World) : Calls Try.prog 66 #[.int .i64 x] w fun e w' => e = .returned (.int .i64 (x % 360)) ∧ w' = w := (specPhaseOf_any x w).mono fun _ _ h => ⟨h.1, h.2.symm⟩
theorem ints_drop1 (l : List Int) : (ints l).drop 1 = ints (l.drop 1) := by simp [ints]
end Go.Proofs.Ytpjglnmnfmibnab
