/-
  A queue of ints: a slice that is appended to and cut from the front, in memory of the call; a count of known antennas that is read off the world.
-/
import Derived.Test.YtebjdchfofhmhaaPhs
import Derived.Test.YtebjdchfofhmhaaInts
import Derived.ArgAppend
namespace Go.Proofs.Ytebjdchfofhmhaa
open Go.RowKit

/-- the queue's slice lies in one block, with its spare cells -/
def Qu (w : World) (base g off c : Nat) (E : TypeId) (xs : List Int) : Prop :=
  ∃ cur, w.heap[g]? = some (.cells cur E (0, 0)) ∧ base ≤ g ∧ xs.length ≤ c ∧ off + c ≤ cur.size ∧ ∀ j u, (ints xs)[j]? = some u → cur[off + j]? = some u
theorem Qu.lt {w : World} {base g off c : Nat} {E : TypeId} {xs : List Int} (h : Qu w base g off c E xs) : g < w.heap.size := by
  obtain ⟨cur, h1, _⟩ := h
  exact lt_of_heap h1
theorem Qu.ge {w : World} {base g off c : Nat} {E : TypeId} {xs : List Int} (h : Qu w base g off c E xs) : base ≤ g := by
  obtain ⟨cur, _, h2, _⟩ := h
  exact h2
theorem Qu.chg {w w1 : World} {base g off c lo hi : Nat} {E : TypeId} {xs : List Int} (h : Qu w base g off c E xs) (x : Chg lo hi w w1) (hc : g < lo ∨ hi ≤ g) : Qu w1 base g off c E xs := by
  obtain ⟨cur, h1, h2⟩ := h
  exact ⟨cur, (x.block g (lt_of_heap h1) hc).trans h1, h2⟩
theorem Qu.ext {w w1 : World} {base g off c : Nat} {E : TypeId} {xs : List Int} (h : Qu w base g off c E xs) (x : Ext w w1) : Qu w1 base g off c E xs := by
  obtain ⟨cur, h1, h2⟩ := h
  exact ⟨cur, (x.block (lt_of_heap h1)).trans h1, h2⟩
theorem Qu.cell {w : World} {base g off c : Nat} {E : TypeId} {xs : List Int} (h : Qu w base g off c E xs) {j : Nat} {u : Int} (hu : xs[j]? = some u) : w.cell? ⟨g, off + j, none⟩ = some (.int .i64 u) := by
  obtain ⟨cur, h1, _, _, _, h5⟩ := h
  exact (cell_of_row w g (off + j) cur E (0, 0) h1).trans (h5 j _ (ints_at' hu))
theorem Qu.new (w : World) (x : Int) (E : TypeId) : Qu (w.alloc (.cells #[.int .i64 x] E)) w.heap.size w.heap.size 0 1 E [x] :=
  ⟨_, heap_alloc_new w _, Nat.le_refl _, Nat.le_refl _, Nat.le_refl _, fun j u hu => by
    match j, hu with
    | 0, hu => simpa [ints] using hu
    | j + 1, hu => simp [ints] at hu⟩
theorem Qu.base {w : World} {base base' g off c : Nat} {E : TypeId} {xs : List Int} (h : Qu w base g off c E xs) (hb : base' ≤ base) : Qu w base' g off c E xs := by
  obtain ⟨cur, h1, h2, h3⟩ := h
  exact ⟨cur, h1, Nat.le_trans hb h2, h3⟩
/-- the first is taken off -/
theorem Qu.pop {w : World} {base g off c : Nat} {E : TypeId} {x : Int} {xs : List Int} (h : Qu w base g off c E (x :: xs)) : Qu w base g (off + 1) (c - 1) E xs := by
  obtain ⟨cur, h1, h2, h3, h4, h5⟩ := h
  simp only [List.length_cons] at h3
  refine ⟨cur, h1, h2, by omega, by omega, fun j u hu => ?_⟩
  rw [show off + 1 + j = off + (j + 1) by omega]
  exact h5 (j + 1) u (by simpa [ints] using hu)
theorem Qu.pop1 {w : World} {base g off : Nat} {E : TypeId} {x : Int} {xs : List Int} (h : Qu w base g off 1 E (x :: xs)) : xs = [] ∧ Qu w base g off 0 E [] := by
  obtain ⟨cur, h1, h2, h3, h4, h5⟩ := h
  simp only [List.length_cons] at h3
  exact ⟨List.eq_nil_of_length_eq_zero (by omega), cur, h1, h2, by simp, by omega, fun j u hu => by simp [ints] at hu⟩
/-- one more -/
theorem wpList_append_q {P : Program} {w : World} {ops : Array Oper} {rest : List Oper} {o : Oper} {a : Act} {Q : Exit → Act → World → Prop} (hgd : o.guard = none) (s x : Operand) (t : TypeId)
    (ho : o.op = .call { callee := .builtin .append, args := #[s, x], argTypes := #[t, t] })
    (base : Nat) (E : TypeId) (z : Value) (bytes : Nat) (hinfo : (P.info? E).map (fun i => (i.zero, i.size, i.bytes)) = some (some z, 1, bytes)) (ht : P.underlying t = some (.slice E)) (hz : z.cells.size = 1)
    (g off n c : Nat) (xs : List Int) (hs : a.eval s = .slice (some ⟨g, off, none⟩) n c) (hn : n = xs.length) (hq : Qu w base g off c E xs)
    (u : Int) (hx : a.eval x = .slice (some ⟨w.heap.size, 0, none⟩) 1 1) (hbytes : (n + 1) * bytes ≤ 100000000) (hn1 : n + 1 ≤ 100000000)
    (h : ∀ g' off' c' w', Qu w' base g' off' c' E (xs ++ [u]) → Chg g (g + 1) w w' → wpList P ops Q rest (a.put o.dst (.slice (some ⟨g', off', none⟩) (n + 1) c')) w') : wpList P ops Q (o :: rest) a (w.alloc (.cells #[.int .i64 u] E)) := by
  obtain ⟨i, hi, hz1, hz2, hz3⟩ := info_parts hinfo
  have x0 : Ext w (w.alloc (.cells #[.int .i64 u] E)) := (Ext.refl w).alloc _
  have hq1 := hq.ext x0
  obtain ⟨cur, h1, h2, h3, h4, h5⟩ := hq1
  subst hn
  have hnews : ∀ j v, [Value.int .i64 u][j]? = some v → (w.alloc (.cells #[.int .i64 u] E)).cell? ((⟨w.heap.size, 0, none⟩ : Addr).add j) = some v := by
    intro j v hj
    match j, hj with
    | 0, hj => simp at hj; subst hj; simp [Addr.add]
  have hone : ∀ v ∈ [Value.int .i64 u], v.oneCell' = true := by intro v hv; simp at hv; subst hv; rfl
  refine wpList_plain hgd fun K hK => ?_
  by_cases hr : xs.length + 1 ≤ c
  · have hsz : off + xs.length < cur.size := by omega
    have hrun := run_append_room_cells (P := P) (w.alloc (.cells #[.int .i64 u] E)) t o.type E i ht hi g off xs.length c ⟨w.heap.size, 0, none⟩ 1 1 [.int .i64 u] (by simp [hz2]) hnews hone hr
      (fun j hj => by
        simp only [List.length_singleton] at hj
        obtain rfl : j = 0 := by omega
        rw [hz2, Nat.mul_one, Nat.add_zero, cell_of_row _ g (off + xs.length) cur E (0, 0) h1]
        simp [hsz])
      (fun j _ => frozen_of_row _ g _ cur E h1)
    rw [hz2, Nat.mul_one] at hrun
    have hw : (w.alloc (.cells #[.int .i64 u] E)).setCells g (off + xs.length) [.int .i64 u] = (w.alloc (.cells #[.int .i64 u] E)).setCell ⟨g, off + xs.length, none⟩ (.int .i64 u) := rfl
    rw [hw] at hrun
    unfold Oper.wp
    simp [execOp, ho, resolve, invoke, builtin, hs, hx, hrun, Result.andThen]
    refine hK _ _ (h g off c _ ⟨cur.setIfInBounds (off + xs.length) (.int .i64 u), heap_setCell_same _ g (off + xs.length) cur E _ h1, h2, by simp; omega, by simp; omega, fun j v hj => ?_⟩ ?_)
    · by_cases hjl : j = xs.length
      · subst hjl
        have : v = .int .i64 u := by
          rw [← ints_append, List.getElem?_append_right (by rw [ints_length]; exact Nat.le_refl _), ints_length, Nat.sub_self] at hj
          simpa [ints] using hj.symm
        subst this
        rw [Array.getElem?_setIfInBounds_self_of_lt hsz]
      · rw [Array.getElem?_setIfInBounds_ne (by omega)]
        refine h5 j v ?_
        rw [← ints_append] at hj
        have hlt : j < (ints xs ++ ints [u]).length := lt_of_at hj
        rw [List.length_append, ints_length, ints_length, List.length_singleton] at hlt
        rwa [List.getElem?_append_left (by rw [ints_length]; omega)] at hj
    · exact ((Chg.refl g (g + 1) w).alloc _).setCell (p := ⟨g, off + xs.length, none⟩) (.inl ⟨Nat.le_refl _, Nat.lt_succ_self _⟩) _
  · obtain ⟨v', w', hrun, ho', hg⟩ := run_append_arg_grows (P := P) (w.alloc (.cells #[.int .i64 u] E)) t o.type E i z 1 bytes ht hi hz1 hz2 hz3 hz (by omega) ⟨g, off, none⟩ xs.length c (ints xs) (by rw [ints_length, Nat.mul_one])
      (fun j v hj => by
        have : ((⟨g, off, none⟩ : Addr).add j) = ⟨g, off + j, none⟩ := by unfold Addr.add; split <;> simp_all
        rw [this]
        exact (cell_of_row _ g (off + j) cur E (0, 0) h1).trans (h5 j v hj))
      ⟨w.heap.size, 0, none⟩ 1 1 [.int .i64 u] rfl hnews (by omega) (by unfold maxLen; omega) (by omega)
    rcases ho'.2 with ⟨_, h0⟩ | ⟨g', cap, cur', rfl, hb, hg', hnc, _, hcs, htk⟩
    · omega
    unfold Oper.wp
    simp [execOp, ho, resolve, invoke, builtin, hs, hx, hrun, Result.andThen]
    refine hK _ _ (h g' 0 cap _ ⟨cur', hg', ?_, by simp; omega, by omega, fun j v hj => ?_⟩ ?_)
    · have := lt_of_heap h1
      simp only [World.size_alloc] at hb this
      obtain ⟨cur0, k1, k2, _⟩ := hq
      have := lt_of_heap k1
      omega
    · rw [show ints xs ++ [Value.int .i64 u] = ints (xs ++ [u]) from ints_append xs [u]] at htk
      rw [← htk, List.getElem?_take] at hj
      split at hj
      · simpa using hj
      · cases hj
    · exact ((Chg.refl g (g + 1) w).alloc _).grown hg fun k hk => by cases hk
/-! ### how many are known, read off the world -/
def kOne : Option Value → Nat
  | some (.bool true) => 1
  | _ => 0
def kCnt (w : World) (K : Nat) : Nat → Nat
  | 0 => 0
  | n + 1 => kCnt w K n + kOne (w.cell? ⟨K, n, none⟩)
def sLen : Value → Nat
  | .slice _ n _ => n
  | _ => 0
theorem kCnt_eq {w : World} {lo hi K N c : Nat} {E : TypeId} {ks : List Bool} (h : Sl w lo hi E (some ⟨K, 0, none⟩) N c (bools ks)) : ∀ n, n ≤ ks.length → kCnt w K n = cntF (bAt0 ks) n
  | 0, _ => rfl
  | n + 1, hn => by
    have hc := h.cell (bools_at (some_bAt0 (l := ks) (k := n) (by omega)))
    rw [Nat.zero_add] at hc
    simp only [kCnt, cntF]
    rw [kCnt_eq h n (by omega), hc]
    cases bAt0 ks n <;> simp [kOne]
end Go.Proofs.Ytebjdchfofhmhaa
