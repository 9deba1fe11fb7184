/-
  How the arguments of the laws read: a slice of bools, of bytes, of ints becomes a list that can be read.
-/
import Derived.Test.YtebjdchfofhmhaaRows
import Derived.Test.YtebjdchfofhmhaaPairs
import Derived.ProofKit
import Derived.OpenShut
import Derived.ShutString
import Derived.ChangeOld
import Derived.Deep.Grids
import Derived.Deep.SlicePairs
import Derived.Lib.SmallJoins
namespace Go.Proofs.Ytebjdchfofhmhaa
open Go.ChangeShapes Go.WideShapes Go.ChangeAt Go.RowKit
open Go.ChangeMaps (open_string shut_string)
open Go.Deep (oneCellFields)

theorem own : ownKnob Try.prog.godebug = none := by kernel_rfl
theorem laidOut : laidOutB Try.prog = true := by kernel_rfl

section
variable {H : Type} {enc : TypeId × Value → H} {P : Program} {W : World}

theorem spot_none {a : Addr} {v : Value} {w : World} (h : w.cell? a = some v) : a = ⟨a.block, a.off, none⟩ := by
  obtain ⟨b, o, s⟩ := a
  have := World.cell?_spot h
  simp_all
theorem lt_of_cell {a : Addr} {v : Value} {w : World} (h : w.cell? a = some v) : a.block < w.heap.size := by
  rcases Nat.lt_or_ge a.block w.heap.size with hl | hl
  · exact hl
  · obtain ⟨b, o, s⟩ := a
    have hs : s = none := World.cell?_spot h
    subst hs
    simp only [World.cell?] at h
    rw [Array.getElem?_eq_none hl] at h
    simp at h

/-- cells that lie behind an address, read as a list -/
theorem rd_of_cells {a : Addr} {n c m : Nat} {xs : List Value} (hn : n ≤ c) (hx : xs.length = m) (h : ∀ i, i < m → ∃ u, xs[i]? = some u ∧ W.cell? (a.add i) = some u) : Rd W W.heap.size (some a) n c xs := by
  refine ⟨hn, fun hp => ?_⟩
  obtain ⟨u, hu, hc⟩ := h 0 (by omega)
  have hc0 : W.cell? a = some u := by simpa [Addr.add] using hc
  have hs := spot_none hc0
  refine ⟨a.block, a.off, by rw [← hs], lt_of_cell hc0, fun j v hv => ?_⟩
  obtain ⟨u', hu', hc'⟩ := h j (by have := lt_of_at hv; omega)
  rw [hv] at hu'
  obtain rfl : v = u' := by simpa using hu'
  have hs2 := spot_none hc'
  rw [← hc']
  congr 1
  rw [hs]
  unfold Addr.add
  split
  · next h0 => simp [h0]
  · rfl

theorem rd_bools {r : Reach} {b0 : Nat} {t e : TypeId} {v : Value} {d : DataW H} {p : List MemPlace} (ht : P.underlying t = some (.slice e)) (he : P.underlying e = some .bool) (hc : P.cellsOf e = 1)
    (hv : Value.okWide P W r b0 t v) (h : DataW.Trod enc P W 0 (fun _ => true) true t v d p) :
    ∃ (A : Option Addr) (n c : Nat) (bs : List Bool), v = .slice A n c ∧ bs.length = n ∧ n ≤ 9223372036854775807 ∧ Rd W W.heap.size A n c (bools bs) := by
  obtain ⟨A, n, c, rfl⟩ := okWide_slice ht hv
  obtain ⟨fuel, hf⟩ := h
  rcases Go.Deep.open_bools ht he hc hf with ⟨hcs, _⟩ | ⟨a, l, c', B, hcs, _, hl, hm, _, hcell⟩
  · simp [Value.cells] at hcs
    obtain ⟨rfl, rfl, rfl⟩ := hcs
    exact ⟨none, 0, 0, [], rfl, rfl, by omega, Rd.nil (Nat.le_refl _)⟩
  · simp [Value.cells] at hcs
    obtain ⟨rfl, rfl, rfl⟩ := hcs
    unfold maxLen at hm
    refine ⟨some a, n, c, (List.range n).map B, rfl, by simp, by omega, rd_of_cells (m := n) hl (by simp [bools]) fun i hi => ⟨.bool (B i), by simp [bools, hi], hcell i (by omega)⟩⟩

theorem rd_ints {r : Reach} {b0 : Nat} {t e : TypeId} {k : IntKind} {v : Value} {d : DataW H} {p : List MemPlace} (ht : P.underlying t = some (.slice e)) (he : P.underlying e = some (.int k)) (hc : P.cellsOf e = 1)
    (hv : Value.okWide P W r b0 t v) (h : DataW.Trod enc P W 0 (fun _ => true) true t v d p) :
    ∃ (A : Option Addr) (n c : Nat) (zs : List Int), v = .slice A n c ∧ zs.length = n ∧ n ≤ 9223372036854775807 ∧ Rd W W.heap.size A n c (zs.map (.int k)) ∧ ∀ z ∈ zs, (Lit.int k z).wf = true := by
  obtain ⟨A, n, c, rfl⟩ := okWide_slice ht hv
  obtain ⟨fuel, hf⟩ := h
  rcases open_ints ht he hc hf with ⟨hcs, _⟩ | ⟨a, l, c', zs, hcs, _, hl, hm, hz, _, hcell, hwz⟩
  · simp [Value.cells] at hcs
    obtain ⟨rfl, rfl, rfl⟩ := hcs
    exact ⟨none, 0, 0, [], rfl, rfl, by omega, Rd.nil (Nat.le_refl _), by simp⟩
  · simp [Value.cells] at hcs
    obtain ⟨rfl, rfl, rfl⟩ := hcs
    simp only [if_true] at hz
    unfold maxLen at hm
    refine ⟨some a, n, c, zs.take n, rfl, by simp; omega, by omega, rd_of_cells (m := n) hl (by simp; omega) fun i hi => ⟨.int k (zs.getD i 0), ?_, hcell i (by omega)⟩, fun z hz' => hwz z (List.mem_of_mem_take hz')⟩
    simp [hi, List.getD, List.getElem?_eq_getElem (show i < zs.length by omega)]

theorem rd_pairs {r : Reach} {b0 : Nat} {t e : TypeId} {f0 f1 : Field} {v : Value} {d : DataW H} {p : List MemPlace} (ht : P.underlying t = some (.slice e)) (he : P.underlying e = some (.struct #[f0, f1])) (ce : P.cellsOf e = 2)
    (o0 : f0.offset = 0) (o1 : f1.offset = 1) (c0 : P.cellsOf f0.type = 1) (c1 : P.cellsOf f1.type = 1) (k0 : P.underlying f0.type = some (.int .i64)) (k1 : P.underlying f1.type = some (.int .i64))
    (hv : Value.okWide P W r b0 t v) (h : DataW.Trod enc P W 0 (fun _ => true) true t v d p) :
    ∃ (A : Option Addr) (n c : Nat) (gs : List (Int × Int)), v = .slice A n c ∧ gs.length = n ∧ n ≤ 9223372036854775807 ∧ Rd W W.heap.size A n c (pairs gs) := by
  obtain ⟨A, n, c, rfl⟩ := okWide_slice ht hv
  obtain ⟨fuel, hf⟩ := h
  rcases Go.Deep.open_slice_pairs ht he ce o0 o1 c0 c1 hf with ⟨hcs, _⟩ | ⟨a, l, c', m, n', V0, V1, D0, D1, P0, P1, hcs, _, hl, hm, hmm, _, hx⟩
  · simp [Value.cells] at hcs
    obtain ⟨rfl, rfl, rfl⟩ := hcs
    exact ⟨none, 0, 0, [], rfl, rfl, by omega, Rd.nil (Nat.le_refl _)⟩
  · simp [Value.cells] at hcs
    obtain ⟨rfl, rfl, rfl⟩ := hcs
    simp only [if_true] at hmm
    subst hmm
    unfold maxLen at hm
    obtain ⟨q, hq⟩ := Go.Deep.choose_lt (n := m) (p := fun i (q : Int × Int) => W.cell? (a.add (i * 2)) = some (.int .i64 q.1) ∧ W.cell? (a.add (i * 2 + 1)) = some (.int .i64 q.2)) (fun i hi => by
      obtain ⟨h1, h2, h3, h4⟩ := hx i hi
      obtain ⟨x, e1, _, _⟩ := DataW.trod_int k0 h3
      obtain ⟨y, e2, _, _⟩ := DataW.trod_int k1 h4
      simp only [List.cons.injEq, and_true] at e1 e2
      exact ⟨(x, y), by rw [h1, e1], by rw [h2, e2]⟩)
    refine ⟨some a, n, m, (List.range n).map q, rfl, by simp, by omega, rd_of_cells (m := n * 2) hl (by rw [pairs_length]; simp) fun i hi => ?_⟩
    have hat : ((List.range n).map q)[i / 2]? = some (q (i / 2)) := by rw [List.getElem?_map, List.getElem?_range (by omega)]; rfl
    obtain ⟨h1, h2⟩ := hq (i / 2) (by omega)
    rcases (show i % 2 = 0 ∨ i % 2 = 1 by omega) with hi2 | hi2
    · have e : i = i / 2 * 2 := by omega
      refine ⟨.int .i64 (q (i / 2)).1, ?_, ?_⟩
      · have := pairs_at0 hat
        rwa [← e] at this
      · rwa [← e] at h1
    · have e : i = i / 2 * 2 + 1 := by omega
      refine ⟨.int .i64 (q (i / 2)).2, ?_, ?_⟩
      · have := pairs_at1 hat
        rwa [← e] at this
      · rwa [← e] at h2

theorem rd_ints1 {t e : TypeId} {k : IntKind} {fuel : Nat} {v : Value} {x : DataW H × List MemPlace} (ht : P.underlying t = some (.slice e)) (he : P.underlying e = some (.int k)) (hc : P.cellsOf e = 1)
    (hf : DataW.trod enc P W 0 (fun _ => true) true fuel t [v] = some x) :
    ∃ (A : Option Addr) (n c : Nat) (zs : List Int), v = .slice A n c ∧ zs.length = n ∧ n ≤ 9223372036854775807 ∧ Rd W W.heap.size A n c (zs.map (.int k)) := by
  rcases open_ints ht he hc hf with ⟨hcs, _⟩ | ⟨a, l, c', zs, hcs, _, hl, hm, hz, _, hcell, hwz⟩
  · simp at hcs
    subst hcs
    exact ⟨none, 0, 0, [], rfl, rfl, by omega, Rd.nil (Nat.le_refl _)⟩
  · simp at hcs
    subst hcs
    simp only [if_true] at hz
    unfold maxLen at hm
    refine ⟨some a, l, c', zs.take l, rfl, by simp; omega, by omega, rd_of_cells (m := l) hl (by simp; omega) fun i hi => ⟨.int k (zs.getD i 0), ?_, hcell i (by omega)⟩⟩
    simp [hi, List.getD, List.getElem?_eq_getElem (show i < zs.length by omega)]
theorem rd_clean {r : Reach} {b0 : Nat} {t e : TypeId} {f0 f1 : Field} {v : Value} {d : DataW H} {p : List MemPlace} (hs : P.underlying t = some (.struct #[f0, f1])) (hone : oneCellFields P #[f0, f1] = true) (hC : P.cellsOf t = 2)
    (k0 : P.underlying f0.type = some (.slice e)) (k1 : P.underlying f1.type = some (.slice e)) (he : P.underlying e = some (.int .i64)) (hc : P.cellsOf e = 1)
    (hv : Value.okWide P W r b0 t v) (h : DataW.Trod enc P W 0 (fun _ => true) true t v d p) :
    ∃ (A : Option Addr) (n c : Nat) (xs : List Int) (B : Option Addr) (m d : Nat) (ys : List Int), v = .agg #[.slice A n c, .slice B m d] ∧ xs.length = n ∧ n ≤ 9223372036854775807 ∧ Rd W W.heap.size A n c (xs.map (.int .i64)) ∧
      ys.length = m ∧ m ≤ 9223372036854775807 ∧ Rd W W.heap.size B m d (ys.map (.int .i64)) := by
  obtain ⟨v0, v1, y0, y1, n, rfl, _, _, h0, h1⟩ := Go.Joins.open_agg2 hs hone hC hv h
  obtain ⟨A, n, c, xs, rfl, a1, a2, a3⟩ := rd_ints1 k0 he hc h0
  obtain ⟨B, m, d, ys, rfl, b1, b2, b3⟩ := rd_ints1 k1 he hc h1
  exact ⟨A, n, c, xs, B, m, d, ys, rfl, a1, a2, a3, b1, b2, b3⟩

theorem rd_bytes {r : Reach} {b0 : Nat} {t e : TypeId} {v : Value} {d : DataW H} {p : List MemPlace} (ht : P.underlying t = some (.slice e)) (he : P.underlying e = some (.int .u8)) (hc : P.cellsOf e = 1)
    (hv : Value.okWide P W r b0 t v) (h : DataW.Trod enc P W 0 (fun _ => true) true t v d p) :
    ∃ (A : Option Addr) (n c : Nat) (zs : List Int), v = .slice A n c ∧ zs.length = n ∧ n ≤ 9223372036854775807 ∧ Rd W W.heap.size A n c (zs.map (.int .u8)) ∧ ∀ z ∈ zs, 0 ≤ z ∧ z ≤ 255 := by
  obtain ⟨A, n, c, zs, h1, h2, h3, h4, h5⟩ := rd_ints ht he hc hv h
  exact ⟨A, n, c, zs, h1, h2, h3, h4, fun z hz => bounds_u8 (h5 z hz)⟩
end
end Go.Proofs.Ytebjdchfofhmhaa
