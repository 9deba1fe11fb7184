/-
  Lists of pairs of ints in memory (slices of structs of two ints): cells, make, append. No program in sight.
-/
import Derived.Test.YtebjdchfofhmhaaBase
namespace Go.Proofs.Ytebjdchfofhmhaa
open Go.RowKit

def pairs (l : List (Int × Int)) : List Value := l.flatMap fun g => [.int .i64 g.1, .int .i64 g.2]
theorem pairs_nil : pairs [] = [] := rfl
theorem pairs_cons (g : Int × Int) (l : List (Int × Int)) : pairs (g :: l) = .int .i64 g.1 :: .int .i64 g.2 :: pairs l := by simp [pairs]
theorem pairs_length (l : List (Int × Int)) : (pairs l).length = l.length * 2 := by
  induction l with
  | nil => rfl
  | cons g l ih => rw [pairs_cons]; simp [ih]; omega
theorem pairs_append (a b : List (Int × Int)) : pairs (a ++ b) = pairs a ++ pairs b := by simp [pairs]
theorem pairs_at0 {l : List (Int × Int)} {k : Nat} {g : Int × Int} (h : l[k]? = some g) : (pairs l)[k * 2]? = some (.int .i64 g.1) := by
  induction l generalizing k with
  | nil => simp at h
  | cons x l ih =>
    rw [pairs_cons]
    cases k with
    | zero => simp at h; subst h; rfl
    | succ k =>
      have e : (k + 1) * 2 = k * 2 + 1 + 1 := by omega
      rw [e, List.getElem?_cons_succ, List.getElem?_cons_succ]
      exact ih (by simpa using h)
theorem pairs_at1 {l : List (Int × Int)} {k : Nat} {g : Int × Int} (h : l[k]? = some g) : (pairs l)[k * 2 + 1]? = some (.int .i64 g.2) := by
  induction l generalizing k with
  | nil => simp at h
  | cons x l ih =>
    rw [pairs_cons]
    cases k with
    | zero => simp at h; subst h; rfl
    | succ k =>
      have e : (k + 1) * 2 + 1 = k * 2 + 1 + 1 + 1 := by omega
      rw [e, List.getElem?_cons_succ, List.getElem?_cons_succ]
      exact ih (by simpa using h)
theorem pairs_set (l : List (Int × Int)) (k : Nat) (a b : Int) : ((pairs l).set (k * 2) (.int .i64 a)).set (k * 2 + 1) (.int .i64 b) = pairs (l.set k (a, b)) := by
  induction l generalizing k with
  | nil => rfl
  | cons x l ih =>
    cases k with
    | zero => simp [pairs_cons]
    | succ k =>
      have e : (k + 1) * 2 = k * 2 + 1 + 1 := by omega
      rw [List.set_cons_succ, pairs_cons, pairs_cons, e, List.set_cons_succ, List.set_cons_succ, List.set_cons_succ, List.set_cons_succ, ih]
theorem pairs_rep (n : Nat) (a b : Int) : pairs (List.replicate n (a, b)) = (List.replicate n [Value.int .i64 a, Value.int .i64 b]).flatten := by
  induction n with
  | zero => rfl
  | succ n ih => rw [List.replicate_succ, pairs_cons, ih, List.replicate_succ]; rfl
theorem pairs_one (l : List (Int × Int)) : ∀ u ∈ pairs l, u.oneCell' = true := by
  intro u hu
  simp only [pairs, List.mem_flatMap] at hu
  obtain ⟨g, _, hg⟩ := hu
  simp at hg
  rcases hg with rfl | rfl <;> rfl

theorem cell_new2 {w : World} {g i : Nat} {v : Value} {o1 o2 : Obj} (hg : g < w.heap.size) (h : w.cell? ⟨g, i, none⟩ = some v) : ((w.alloc o1).alloc o2).cell? ⟨g, i, none⟩ = some v :=
  (World.cell?_alloc_lt _ o2 ⟨g, i, none⟩ (by simp; omega)).trans ((World.cell?_alloc_lt w o1 ⟨g, i, none⟩ hg).trans h)
section
variable {w : World} {B lo hi g off n c : Nat} {E : TypeId} {l : List (Int × Int)} {k : Nat} {p q : Int}
theorem Rd.fst (h : Rd w B (some ⟨g, off, none⟩) n c (pairs l)) (hk : l[k]? = some (p, q)) : w.cell? ⟨g, off + k * 2, none⟩ = some (.int .i64 p) := h.cell (pairs_at0 hk)
theorem Rd.snd (h : Rd w B (some ⟨g, off, none⟩) n c (pairs l)) (hk : l[k]? = some (p, q)) : w.cell? ⟨g, off + k * 2 + 1, none⟩ = some (.int .i64 q) := by
  have := h.cell (pairs_at1 hk)
  rwa [← Nat.add_assoc] at this
theorem Sl.fst (h : Sl w lo hi E (some ⟨g, off, none⟩) n c (pairs l)) (hk : l[k]? = some (p, q)) : w.cell? ⟨g, off + k * 2, none⟩ = some (.int .i64 p) := h.rd.fst hk
theorem Sl.snd (h : Sl w lo hi E (some ⟨g, off, none⟩) n c (pairs l)) (hk : l[k]? = some (p, q)) : w.cell? ⟨g, off + k * 2 + 1, none⟩ = some (.int .i64 q) := h.rd.snd hk
theorem Sl.set2 (h : Sl w lo hi E (some ⟨g, off, none⟩) n c (pairs l)) (k : Nat) (a b : Int) : Sl ((w.setCell ⟨g, off + k * 2, none⟩ (.int .i64 a)).setCell ⟨g, off + k * 2 + 1, none⟩ (.int .i64 b)) lo hi E (some ⟨g, off, none⟩) n c (pairs (l.set k (a, b))) := by
  have := (h.set_ (k * 2) (.int .i64 a)).set_ (k * 2 + 1) (.int .i64 b)
  rw [pairs_set, ← Nat.add_assoc] at this
  exact this
end

theorem made2 (a b : Int) (n : Nat) : (madeCells #[.int .i64 a, .int .i64 b] (n * 2)).toList = pairs (List.replicate n (a, b)) := by
  apply List.ext_getElem?
  intro j
  by_cases hj : j < n * 2
  · have h1 : (List.replicate n (a, b))[j / 2]? = some (a, b) := by rw [List.getElem?_replicate, if_pos (by omega)]
    have hm : j % 2 = 0 ∨ j % 2 = 1 := by omega
    rcases hm with hm | hm
    · have e : j = j / 2 * 2 := by omega
      have := pairs_at0 h1
      rw [← e] at this
      rw [this]
      simp [madeCells, hj, hm]
    · have e : j = j / 2 * 2 + 1 := by omega
      have := pairs_at1 h1
      rw [← e] at this
      rw [this]
      simp [madeCells, hj, hm]
  · rw [List.getElem?_eq_none (by simp [size_madeCells]; omega), List.getElem?_eq_none (by rw [pairs_length]; simp; omega)]

/-- make of a slice of n elements of two ints, whatever the world -/
theorem run_make2 {P : Program} (t E : TypeId) (bytes : Nat) (hinfo : (P.info? E).map (fun i => (i.zero, i.size, i.bytes)) = some (some (.agg #[.int .i64 0, .int .i64 0]), 2, bytes)) (ht : P.underlying t = some (.slice E))
    (n : Nat) (hn : bytes * n ≤ 281474976710656) (hm : n ≤ 9223372036854775807) (w : World) :
    (Instr.makeSlice t (.int .i64 (n : Int)) (.int .i64 (n : Int))).run P w = .ok (.slice (some ⟨w.heap.size, 0, none⟩) n n) (w.alloc (.cells (madeCells #[.int .i64 0, .int .i64 0] (n * 2)) E)) := by
  obtain ⟨i, hi, h1, h2, h3⟩ := info_parts hinfo
  have hb : (i.bytes : Int) * (n : Int) ≤ 281474976710656 := by
    have h : ((i.bytes * n : Nat) : Int) ≤ 281474976710656 := by rw [h3]; omega
    rwa [Int.natCast_mul] at h
  have hr := run_make (P := P) w t E i _ ht hi h1 .i64 .i64 n n (by omega) (by omega) hb (by omega)
  simp only [Int.toNat_natCast, h2] at hr
  exact hr
theorem Sl.made2 (w : World) (E : TypeId) (n : Nat) : Sl (w.alloc (.cells (madeCells #[.int .i64 0, .int .i64 0] (n * 2)) E)) w.heap.size (w.heap.size + 1) E (some ⟨w.heap.size, 0, none⟩) n n (pairs (List.replicate n (0, 0))) := by
  have := Sl.new w E (madeCells #[.int .i64 0, .int .i64 0] (n * 2)) n n (Nat.le_refl _)
  rwa [Go.Proofs.Ytebjdchfofhmhaa.made2] at this

/-- 'out = append(out, x)', x a struct of two ints -/
theorem wpList_append2 {P : Program} {w : World} {ops : Array Oper} {rest : List Oper} {o : Oper} {a : Act} {Q : Exit → Act → World → Prop} (hgd : o.guard = none) (s x : Operand) (t : TypeId)
    (ho : o.op = .call { callee := .builtin .append, args := #[s, x], argTypes := #[t, t] })
    (base : Nat) (E : TypeId) (bytes : Nat) (hinfo : (P.info? E).map (fun i => (i.zero, i.size, i.bytes)) = some (some (.agg #[.int .i64 0, .int .i64 0]), 2, bytes)) (ht : P.underlying t = some (.slice E))
    (v : Value) (n : Nat) (l : List (Int × Int)) (hs : a.eval s = v) (hown : w.ownsRow base E 2 v n (pairs l))
    (p q : Int) (hx : a.eval x = .slice (some ⟨w.heap.size, 0, none⟩) 1 1) (hbytes : (n + 1) * bytes ≤ 100000000) (hn : n + 1 ≤ 100000000) (hbase : base ≤ w.heap.size)
    (h : ∀ v' w', w'.ownsRow base E 2 v' (n + 1) (pairs (l ++ [(p, q)])) → (∀ w0, Ext w0 w → w0.heap.size ≤ base → Ext w0 w') → wpList P ops Q rest (a.put o.dst v') w') : wpList P ops Q (o :: rest) a (w.alloc (.cells #[.int .i64 p, .int .i64 q] E)) := by
  obtain ⟨i, hi, hz1, hz2, hz3⟩ := info_parts hinfo
  refine wpList_append_own _ hgd s x t ho base E i _ 2 bytes ht hi hz1 hz2 hz3 rfl (by omega) v n (pairs l) hs (hown.alloc _) ⟨w.heap.size, 0, none⟩ 1 1 [.int .i64 p, .int .i64 q] hx rfl ?_ ?_ (by unfold maxLen; omega) (by omega) (by simp; omega) ?_
  · intro j u' hj
    match j, hj with
    | 0, hj => simp at hj; subst hj; simp [Addr.add]
    | 1, hj => simp at hj; subst hj; simp [Addr.add]
  · intro u' hu; simp at hu; rcases hu with rfl | rfl <;> rfl
  · intro v' w' ho' hg _
    refine h v' w' (by rw [pairs_append]; exact ho') fun w0 he hb => ?_
    exact (he.alloc _).grown hg fun g hg' => by have := own_base hown g hg'; omega
end Go.Proofs.Ytebjdchfofhmhaa
