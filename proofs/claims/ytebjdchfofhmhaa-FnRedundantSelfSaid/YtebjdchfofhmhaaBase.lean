/-
  Words for memory used by all proofs of this seat: which blocks a call may have changed (Chg), a slice that can be read (Rd), a slice that lies in memory that may be written (Sl). No program in sight.
-/
import Derived.WalkKit
import Derived.WalkSpells
import Derived.WalkLawsBesides
import Derived.Lib.Hide
import Derived.Deep.Draws
import Derived.OwnWalk
namespace Go.Proofs.Ytebjdchfofhmhaa
open Go.RowKit

/-- w' is w with new blocks, and with writes to the blocks from lo to hi - 1 alone. -/
structure Chg (lo hi : Nat) (w w' : World) : Prop where
  os : w'.os = w.os
  tape : w'.tape = w.tape
  output : w'.output = w.output
  size : w.heap.size ≤ w'.heap.size
  block : ∀ k, k < w.heap.size → (k < lo ∨ hi ≤ k) → w'.heap[k]? = w.heap[k]?

/-- w' is w with new blocks. -/
def Ext (w w' : World) : Prop := Chg 0 0 w w'

section
variable {lo hi lo' hi' : Nat} {w w1 w2 : World}
theorem Chg.refl (lo hi : Nat) (w : World) : Chg lo hi w w := ⟨rfl, rfl, rfl, Nat.le_refl _, fun _ _ _ => rfl⟩
theorem Chg.trans (h : Chg lo hi w w1) (k : Chg lo hi w1 w2) : Chg lo hi w w2 :=
  ⟨k.os.trans h.os, k.tape.trans h.tape, k.output.trans h.output, Nat.le_trans h.size k.size, fun i hi' c => (k.block i (Nat.lt_of_lt_of_le hi' h.size) c).trans (h.block i hi' c)⟩
theorem Chg.mono (h : Chg lo hi w w1) (h1 : lo' ≤ lo) (h2 : hi ≤ hi') : Chg lo' hi' w w1 :=
  ⟨h.os, h.tape, h.output, h.size, fun i hi c => h.block i hi (by omega)⟩
theorem Ext.chg (h : Ext w w1) : Chg lo hi w w1 := ⟨h.os, h.tape, h.output, h.size, fun i hi _ => h.block i hi (by omega)⟩
theorem Ext.size (h : Ext w w1) : w.heap.size ≤ w1.heap.size := Chg.size h
theorem Ext.refl (w : World) : Ext w w := Chg.refl _ _ _
theorem Ext.trans (h : Ext w w1) (k : Ext w1 w2) : Ext w w2 := Chg.trans h k
theorem Ext.block (h : Ext w w1) {k : Nat} (hk : k < w.heap.size) : w1.heap[k]? = w.heap[k]? := Chg.block h k hk (by omega)
theorem Ext.below (h : Ext w w1) : Below w.heap.size w w1 := ⟨h.os, h.tape, h.output, h.size, fun _ hk => h.block hk⟩
theorem Ext.of_below (h : Below w.heap.size w w1) : Ext w w1 := ⟨h.os, h.tape, h.output, h.size, fun k hk _ => h.block k hk⟩
theorem Ext.of_grown (h : w.grownBy w1 none) : Ext w w1 := ⟨h.os, h.tape, h.output, h.size, fun k hk _ => h.block k hk (by simp)⟩
theorem Chg.drew (h : Chg lo hi w w1) : Chg lo hi w w1.drew := ⟨h.os, h.tape, h.output, h.size, h.block⟩
theorem Chg.drewN (h : Chg lo hi w w1) (n : Nat) : Chg lo hi w (w1.drewN n) := ⟨h.os, h.tape, h.output, h.size, h.block⟩
theorem Chg.alloc (h : Chg lo hi w w1) (o : Obj) : Chg lo hi w (w1.alloc o) :=
  ⟨h.os, h.tape, h.output, Nat.le_trans h.size (by simp), fun i hi c => (Below.heap_alloc w1 o i (Nat.lt_of_lt_of_le hi h.size)).trans (h.block i hi c)⟩
theorem Chg.setCell (h : Chg lo hi w w1) {p : Addr} (hp : (lo ≤ p.block ∧ p.block < hi) ∨ w.heap.size ≤ p.block) (u : Value) : Chg lo hi w (w1.setCell p u) :=
  ⟨h.os, h.tape, h.output, by simpa [World.setCell] using h.size, fun i hi c => (Below.heap_setCell w1 p u i (by omega)).trans (h.block i hi c)⟩
/-- behind a law that ends in 'grownBy' whose row lies in new memory or in the range -/
theorem Chg.grown {row : Option Nat} (h : Chg lo hi w w1) (k : w1.grownBy w2 row) (hr : ∀ g, row = some g → (lo ≤ g ∧ g < hi) ∨ w.heap.size ≤ g) : Chg lo hi w w2 :=
  ⟨k.os.trans h.os, k.tape.trans h.tape, k.output.trans h.output, Nat.le_trans h.size k.size, fun i hi c =>
    (k.block i (Nat.lt_of_lt_of_le hi h.size) (fun e => by have := hr i e.symm; omega)).trans (h.block i hi c)⟩
theorem Ext.drew (h : Ext w w1) : Ext w w1.drew := Chg.drew h
theorem Ext.drewN (h : Ext w w1) (n : Nat) : Ext w (w1.drewN n) := Chg.drewN h n
theorem Ext.alloc (h : Ext w w1) (o : Obj) : Ext w (w1.alloc o) := Chg.alloc h o
theorem Ext.setCell (h : Ext w w1) {p : Addr} (hp : w.heap.size ≤ p.block) (u : Value) : Ext w (w1.setCell p u) := Chg.setCell h (.inr hp) u
theorem Ext.grown {row : Option Nat} (h : Ext w w1) (k : w1.grownBy w2 row) (hr : ∀ g, row = some g → w.heap.size ≤ g) : Ext w w2 := Chg.grown h k fun g e => .inr (hr g e)
/-- writes to memory that w has not yet -/
theorem Ext.more (h : Ext w w1) (k : Chg lo hi w1 w2) (hlo : w.heap.size ≤ lo) : Ext w w2 :=
  ⟨k.os.trans h.os, k.tape.trans h.tape, k.output.trans h.output, Nat.le_trans h.size k.size, fun i hi c => (k.block i (Nat.lt_of_lt_of_le hi h.size) (by omega)).trans (h.block hi)⟩
theorem Chg.cell (h : Chg lo hi w w1) {p : Addr} (hp : p.block < w.heap.size) (hc : p.block < lo ∨ hi ≤ p.block) : w1.cell? p = w.cell? p := World.cell?_of_block (w := w) (h.block p.block hp hc)
end

/-- The slice value '.slice A n c' can be read: its cells are xs, and lie in a block below B. -/
def Rd (w : World) (B : Nat) (A : Option Addr) (n c : Nat) (xs : List Value) : Prop :=
  n ≤ c ∧ (0 < xs.length → ∃ g off, A = some ⟨g, off, none⟩ ∧ g < B ∧ ∀ j u, xs[j]? = some u → w.cell? ⟨g, off + j, none⟩ = some u)

/-- The slice value '.slice A n c' lies in memory that may be written: its cells are xs, in a block from lo to hi - 1 whose cells are of type E. -/
def Sl (w : World) (lo hi : Nat) (E : TypeId) (A : Option Addr) (n c : Nat) (xs : List Value) : Prop :=
  n ≤ c ∧ (0 < xs.length → ∃ g off cur, A = some ⟨g, off, none⟩ ∧ lo ≤ g ∧ g < hi ∧ w.heap[g]? = some (.cells cur E (0, 0)) ∧ ∀ j u, xs[j]? = some u → cur[off + j]? = some u)

theorem cell_far {w : World} {p q : Addr} {u v : Value} (hne : p.block ≠ q.block) (h : w.cell? q = some v) : (w.setCell p u).cell? q = some v :=
  (World.cell?_setCell_other w p q u (fun e => hne (by rw [e]))).trans h
theorem lt_of_heap {w : World} {g : Nat} {o : Obj} (h : w.heap[g]? = some o) : g < w.heap.size := by
  rcases Nat.lt_or_ge g w.heap.size with hlt | hge
  · exact hlt
  · rw [Array.getElem?_eq_none hge] at h; cases h

section
variable {w w1 : World} {B B' lo hi lo' hi' : Nat} {E : TypeId} {A : Option Addr} {n c g off : Nat} {xs : List Value}
theorem Rd.nil (h : n ≤ c) : Rd w B A n c [] := ⟨h, fun h => absurd h (by simp)⟩
theorem Rd.addr (h : Rd w B A n c xs) (hx : 0 < xs.length) : ∃ g off, A = some ⟨g, off, none⟩ := by
  obtain ⟨g, off, e, _⟩ := h.2 hx
  exact ⟨g, off, e⟩
theorem Rd.cell (h : Rd w B (some ⟨g, off, none⟩) n c xs) {k : Nat} {u : Value} (hu : xs[k]? = some u) : w.cell? ⟨g, off + k, none⟩ = some u := by
  have hl : 0 < xs.length := by rcases xs with _ | ⟨a, l⟩ <;> simp at hu ⊢
  obtain ⟨g', off', e, _, hc⟩ := h.2 hl
  simp only [Option.some.injEq, Addr.mk.injEq, and_true] at e
  obtain ⟨rfl, rfl⟩ := e
  exact hc k u hu
theorem Rd.blk (h : Rd w B (some ⟨g, off, none⟩) n c xs) (hx : 0 < xs.length) : g < B := by
  obtain ⟨g', off', e, hb, _⟩ := h.2 hx
  simp only [Option.some.injEq, Addr.mk.injEq, and_true] at e
  obtain ⟨rfl, rfl⟩ := e
  exact hb
theorem Rd.mono (h : Rd w B A n c xs) (hB : B ≤ B') : Rd w B' A n c xs :=
  ⟨h.1, fun hx => by obtain ⟨g, off, e, hb, hc⟩ := h.2 hx; exact ⟨g, off, e, by omega, hc⟩⟩
theorem Rd.keep (h : Rd w B A n c xs) (hk : ∀ p : Addr, p.block < B → w1.cell? p = w.cell? p) : Rd w1 B A n c xs :=
  ⟨h.1, fun hx => by obtain ⟨g, off, e, hb, hc⟩ := h.2 hx; exact ⟨g, off, e, hb, fun j u hu => (hk _ hb).trans (hc j u hu)⟩⟩
theorem Rd.below (h : Rd w B A n c xs) (hb : Below B w w1) : Rd w1 B A n c xs := h.keep fun _ hp => hb.cell hp
theorem Rd.ext (h : Rd w w.heap.size A n c xs) (hb : Ext w w1) : Rd w1 w1.heap.size A n c xs := (h.below hb.below).mono hb.size
/-- memory from lo on is written, the slice lies below -/
theorem Rd.chg (h : Rd w B A n c xs) (hb : Chg lo hi w w1) (h1 : B ≤ lo) (h2 : B ≤ w.heap.size) : Rd w1 B A n c xs := h.keep fun _ hp => hb.cell (by omega) (by omega)
theorem Rd.drewN (h : Rd w B A n c xs) (k : Nat) : Rd (w.drewN k) B A n c xs := h
theorem Rd.alloc (h : Rd w B A n c xs) (hB : B ≤ w.heap.size) (o : Obj) : Rd (w.alloc o) B A n c xs := h.keep fun p hp => World.cell?_alloc_lt w o p (by omega)

theorem Sl.nil (h : n ≤ c) : Sl w lo hi E A n c [] := ⟨h, fun h => absurd h (by simp)⟩
theorem Sl.addr (h : Sl w lo hi E A n c xs) (hx : 0 < xs.length) : ∃ g off, A = some ⟨g, off, none⟩ ∧ lo ≤ g ∧ g < hi ∧ g < w.heap.size := by
  obtain ⟨g, off, cur, e, h1, h2, h3, _⟩ := h.2 hx
  exact ⟨g, off, e, h1, h2, lt_of_heap h3⟩
theorem Sl.mono (h : Sl w lo hi E A n c xs) (h1 : lo' ≤ lo) (h2 : hi ≤ hi') : Sl w lo' hi' E A n c xs :=
  ⟨h.1, fun hx => by obtain ⟨g, off, cur, e, h3, h4, h5, h6⟩ := h.2 hx; exact ⟨g, off, cur, e, by omega, by omega, h5, h6⟩⟩
theorem Sl.full (h : Sl w lo hi E A n c xs) : Sl w lo w.heap.size E A n c xs :=
  ⟨h.1, fun hx => by obtain ⟨g, off, cur, e, h3, h4, h5, h6⟩ := h.2 hx; exact ⟨g, off, cur, e, by omega, lt_of_heap h5, h5, h6⟩⟩
theorem Sl.rd (h : Sl w lo hi E A n c xs) : Rd w w.heap.size A n c xs :=
  ⟨h.1, fun hx => by
    obtain ⟨g, off, cur, e, h3, h4, h5, h6⟩ := h.2 hx
    exact ⟨g, off, e, lt_of_heap h5, fun j u hu => (cell_of_row w g (off + j) cur E (0, 0) h5).trans (h6 j u hu)⟩⟩
theorem Sl.rdB (h : Sl w lo hi E A n c xs) : Rd w hi A n c xs :=
  ⟨h.1, fun hx => by
    obtain ⟨g, off, cur, e, h3, h4, h5, h6⟩ := h.2 hx
    exact ⟨g, off, e, h4, fun j u hu => (cell_of_row w g (off + j) cur E (0, 0) h5).trans (h6 j u hu)⟩⟩
theorem Sl.chg (h : Sl w lo hi E A n c xs) (hb : Chg lo' hi' w w1) (hc : hi ≤ lo' ∨ hi' ≤ lo) : Sl w1 lo hi E A n c xs :=
  ⟨h.1, fun hx => by
    obtain ⟨g, off, cur, e, h3, h4, h5, h6⟩ := h.2 hx
    exact ⟨g, off, cur, e, h3, h4, (hb.block g (lt_of_heap h5) (by omega)).trans h5, h6⟩⟩
theorem Sl.ext (h : Sl w lo hi E A n c xs) (hb : Ext w w1) : Sl w1 lo hi E A n c xs := Sl.chg h hb (.inr (Nat.zero_le _))
theorem Sl.blk (h : Sl w lo hi E (some ⟨g, off, none⟩) n c xs) (hx : 0 < xs.length) : lo ≤ g ∧ g < hi ∧ g < w.heap.size := by
  obtain ⟨g', off', cur, e, h3, h4, h5, _⟩ := h.2 hx
  simp only [Option.some.injEq, Addr.mk.injEq, and_true] at e
  obtain ⟨rfl, rfl⟩ := e
  exact ⟨h3, h4, lt_of_heap h5⟩
theorem Sl.cell (h : Sl w lo hi E (some ⟨g, off, none⟩) n c xs) {k : Nat} {u : Value} (hu : xs[k]? = some u) : w.cell? ⟨g, off + k, none⟩ = some u := h.rd.cell hu
theorem Sl.frozen (h : Sl w lo hi E (some ⟨g, off, none⟩) n c xs) (hx : 0 < xs.length) (k : Nat) : w.frozen? ⟨g, k, none⟩ = false := by
  obtain ⟨g', off', cur, e, h3, h4, h5, _⟩ := h.2 hx
  simp only [Option.some.injEq, Addr.mk.injEq, and_true] at e
  obtain ⟨rfl, rfl⟩ := e
  exact frozen_of_row w g k cur E h5
theorem Sl.set_ (h : Sl w lo hi E (some ⟨g, off, none⟩) n c xs) (k : Nat) (u : Value) : Sl (w.setCell ⟨g, off + k, none⟩ u) lo hi E (some ⟨g, off, none⟩) n c (xs.set k u) := by
  refine ⟨h.1, fun hx => ?_⟩
  obtain ⟨g', off', cur, e, h3, h4, h5, h6⟩ := h.2 (by simpa using hx)
  simp only [Option.some.injEq, Addr.mk.injEq, and_true] at e
  obtain ⟨rfl, rfl⟩ := e
  refine ⟨g, off, cur.setIfInBounds (off + k) u, rfl, h3, h4, heap_setCell_same w g (off + k) cur E u h5, fun j v hv => ?_⟩
  by_cases hj : j = k
  · subst hj
    have hlt : j < xs.length := by
      rcases Nat.lt_or_ge j xs.length with hl | hl
      · exact hl
      · rw [List.getElem?_eq_none (by simpa using hl)] at hv; cases hv
    have h7 := h6 j _ (List.getElem?_eq_getElem hlt)
    have hs : off + j < cur.size := by
      rcases Nat.lt_or_ge (off + j) cur.size with hl | hl
      · exact hl
      · rw [Array.getElem?_eq_none hl] at h7; cases h7
    rw [List.getElem?_set_self hlt] at hv
    rw [Array.getElem?_setIfInBounds_self_of_lt hs]
    exact hv
  · rw [List.getElem?_set_ne (Ne.symm hj)] at hv
    rw [Array.getElem?_setIfInBounds_ne (by omega)]
    exact h6 j v hv
theorem Sl.drop (h : Sl w lo hi E (some ⟨g, off, none⟩) n c xs) (k : Nat) {n' c' : Nat} (hn : n' ≤ c') : Sl w lo hi E (some ⟨g, off + k, none⟩) n' c' (xs.drop k) := by
  refine ⟨hn, fun hx => ?_⟩
  obtain ⟨g', off', cur, e, h3, h4, h5, h6⟩ := h.2 (by simp at hx; omega)
  simp only [Option.some.injEq, Addr.mk.injEq, and_true] at e
  obtain ⟨rfl, rfl⟩ := e
  refine ⟨g, off + k, cur, rfl, h3, h4, h5, fun j u hu => ?_⟩
  rw [List.getElem?_drop] at hu
  rw [Nat.add_assoc]
  exact h6 _ u hu
theorem Sl.far (h : Sl w lo hi E A n c xs) {p : Addr} (hp : p.block < lo ∨ hi ≤ p.block) (u : Value) : Sl (w.setCell p u) lo hi E A n c xs :=
  ⟨h.1, fun hx => by
    obtain ⟨g, off, cur, e, h3, h4, h5, h6⟩ := h.2 hx
    exact ⟨g, off, cur, e, h3, h4, (Below.heap_setCell w p u g (by omega)).trans h5, h6⟩⟩
theorem Sl.new (w : World) (E : TypeId) (cs : Array Value) (n c : Nat) (hn : n ≤ c) : Sl (w.alloc (.cells cs E)) w.heap.size (w.heap.size + 1) E (some ⟨w.heap.size, 0, none⟩) n c cs.toList :=
  ⟨hn, fun _ => ⟨w.heap.size, 0, cs, rfl, Nat.le_refl _, by omega, heap_alloc_new w _, fun j u hu => by simpa using hu⟩⟩
theorem Sl.made (w : World) (E : TypeId) (z : Value) (n : Nat) : Sl (w.alloc (.cells (madeCells #[z] n) E)) w.heap.size (w.heap.size + 1) E (some ⟨w.heap.size, 0, none⟩) n n (List.replicate n z) := by
  have := Sl.new w E (madeCells #[z] n) n n (Nat.le_refl _)
  rwa [toList_madeCells_one] at this
theorem Sl.of_own {base size : Nat} {v : Value} (h : w.ownsRow base E size v n xs) : ∃ A c, v = .slice A n c ∧ Sl w base w.heap.size E A n c xs := by
  rcases h.2 with ⟨rfl, rfl⟩ | ⟨g, cap, cur, rfl, hb, hg, hnc, _, _, ht⟩
  · refine ⟨none, 0, rfl, Nat.le_refl _, fun hx => ?_⟩
    have := h.1
    omega
  · refine ⟨_, _, rfl, hnc, fun _ => ⟨g, 0, cur, rfl, hb, lt_of_heap hg, hg, fun j u hu => ?_⟩⟩
    rw [← ht, List.getElem?_take] at hu
    split at hu
    · simpa using hu
    · cases hu
end

/-- The cells of a list of bools, of ints. -/
def bools (l : List Bool) : List Value := l.map .bool
def ints (l : List Int) : List Value := l.map (.int .i64)
theorem bools_at {l : List Bool} {k : Nat} {b : Bool} (h : l[k]? = some b) : (bools l)[k]? = some (.bool b) := by simp [bools, h]
theorem ints_at' {l : List Int} {k : Nat} {b : Int} (h : l[k]? = some b) : (ints l)[k]? = some (.int .i64 b) := by simp [ints, h]
theorem bools_length (l : List Bool) : (bools l).length = l.length := by simp [bools]
theorem ints_length (l : List Int) : (ints l).length = l.length := by simp [ints]
theorem bools_set (l : List Bool) (k : Nat) (b : Bool) : (bools l).set k (.bool b) = bools (l.set k b) := by simp [bools, List.map_set]
theorem ints_set (l : List Int) (k : Nat) (b : Int) : (ints l).set k (.int .i64 b) = ints (l.set k b) := by simp [ints, List.map_set]
theorem bools_append (a b : List Bool) : bools a ++ bools b = bools (a ++ b) := by simp [bools]
theorem ints_append (a b : List Int) : ints a ++ ints b = ints (a ++ b) := by simp [ints]
theorem bools_rep (n : Nat) (b : Bool) : List.replicate n (Value.bool b) = bools (List.replicate n b) := by simp [bools]
theorem ints_rep (n : Nat) (b : Int) : List.replicate n (Value.int .i64 b) = ints (List.replicate n b) := by simp [ints]
theorem at_of_lt {α : Type} {l : List α} {k : Nat} (h : k < l.length) : ∃ x, l[k]? = some x := ⟨l[k], List.getElem?_eq_getElem h⟩
theorem lt_of_at {α : Type} {l : List α} {k : Nat} {x : α} (h : l[k]? = some x) : k < l.length := by
  rcases Nat.lt_or_ge k l.length with hl | hl
  · exact hl
  · rw [List.getElem?_eq_none hl] at h; cases h

/-- w' is w behind some draws. -/
def Quiet (w w' : World) : Prop := ∃ n, w' = w.drewN n
theorem Quiet.refl (w : World) : Quiet w w := ⟨0, rfl⟩
theorem Quiet.trans {w w1 w2 : World} (h : Quiet w w1) (k : Quiet w1 w2) : Quiet w w2 := by
  obtain ⟨n, rfl⟩ := h; obtain ⟨m, rfl⟩ := k
  exact ⟨n + m, by rw [World.drewN_drewN]⟩
theorem Quiet.drewN {w w1 : World} (h : Quiet w w1) (n : Nat) : Quiet w (w1.drewN n) := h.trans ⟨n, rfl⟩
theorem Quiet.ext {w w1 : World} (h : Quiet w w1) : Ext w w1 := by obtain ⟨n, rfl⟩ := h; exact (Ext.refl w).drewN n
theorem Quiet.cell {w w1 : World} (h : Quiet w w1) (p : Addr) : w1.cell? p = w.cell? p := by obtain ⟨n, rfl⟩ := h; rfl
/-- a callee that leaves the world alone, met in a region that draws its order -/
theorem quiet_same {P : Program} {f : FuncId} {args : Array Value} {w : World} {n : Nat} {v : Value}
    (h : Calls P f args (w.drewN n) fun e w' => e = .returned v ∧ w.drewN n = w') : Calls P f args (w.drewN n) fun e w'' => e = .returned v ∧ ∃ m, w'' = w.drewN m :=
  h.mono fun _ _ ⟨he, hm⟩ => ⟨he, n, hm.symm⟩

/-- A slice in new memory and a bool are returned. -/
def RetSB (w : World) (E : TypeId) (n : Nat) (xs : List Value) (b : Bool) (e : Ending) (w' : World) : Prop :=
  ∃ A c, e = .returned (.tuple #[.slice A n c, .bool b]) ∧ Sl w' w.heap.size w'.heap.size E A n c xs ∧ Ext w w'
/-- A slice in new memory is returned. -/
def RetS (w : World) (E : TypeId) (n : Nat) (xs : List Value) (e : Ending) (w' : World) : Prop :=
  ∃ A c, e = .returned (.slice A n c) ∧ Sl w' w.heap.size w'.heap.size E A n c xs ∧ Ext w w'
theorem RetSB.nil {w w' : World} {E : TypeId} {b : Bool} {A : Option Addr} {c : Nat} {xs : List Value} {n : Nat} (hn : n = 0) (hx : xs = []) (h : Ext w w') : RetSB w E n xs b (.returned (.tuple #[.slice A 0 c, .bool b])) w' := by
  subst hn; subst hx; exact ⟨A, c, rfl, Sl.nil (Nat.zero_le _), h⟩
theorem RetSB.mk' {w w' : World} {E : TypeId} {b : Bool} {A : Option Addr} {n m c lo hi : Nat} {xs ys : List Value} (hn : n = m) (hx : xs = ys) (hs : Sl w' lo hi E A n c xs) (hlo : w.heap.size ≤ lo) (he : Ext w w') :
    RetSB w E m ys b (.returned (.tuple #[.slice A n c, .bool b])) w' := by
  subst hn; subst hx; exact ⟨A, c, rfl, hs.full.mono hlo (Nat.le_refl _), he⟩
theorem RetS.mk' {w w' : World} {E : TypeId} {A : Option Addr} {n m c lo hi : Nat} {xs ys : List Value} (hn : n = m) (hx : xs = ys) (hs : Sl w' lo hi E A n c xs) (hlo : w.heap.size ≤ lo) (he : Ext w w') :
    RetS w E m ys (.returned (.slice A n c)) w' := by
  subst hn; subst hx; exact ⟨A, c, rfl, hs.full.mono hlo (Nat.le_refl _), he⟩
theorem RetSB.of_own {w w' : World} {E : TypeId} {b : Bool} {v : Value} {n size : Nat} {xs : List Value} (hown : w'.ownsRow w.heap.size E size v n xs) (h : Ext w w') : RetSB w E n xs b (.returned (.tuple #[v, .bool b])) w' := by
  obtain ⟨A, c, rfl, hs⟩ := Sl.of_own hown
  exact ⟨A, c, rfl, hs, h⟩
theorem RetS.of_own {w w' : World} {E : TypeId} {v : Value} {n size : Nat} {xs : List Value} (hown : w'.ownsRow w.heap.size E size v n xs) (h : Ext w w') : RetS w E n xs (.returned v) w' := by
  obtain ⟨A, c, rfl, hs⟩ := Sl.of_own hown
  exact ⟨A, c, rfl, hs, h⟩

theorem own_quiet {w w' : World} {base : Nat} {E : TypeId} {size n : Nat} {v : Value} {xs : List Value} (h : w.ownsRow base E size v n xs) (hq : Quiet w w') : w'.ownsRow base E size v n xs := by
  obtain ⟨k, rfl⟩ := hq
  exact h
theorem own_base {w : World} {base : Nat} {E : TypeId} {size n : Nat} {v : Value} {xs : List Value} (h : w.ownsRow base E size v n xs) : ∀ g, v.ownBlock = some g → base ≤ g := by
  rcases h.2 with ⟨rfl, _⟩ | ⟨g', cap, cur, rfl, hb, _⟩
  · simp [Value.ownBlock]
  · intro g hg
    simp [Value.ownBlock] at hg
    omega

/-- make of a slice of n elements of one cell each, whatever the world -/
theorem run_make1 {P : Program} (t E : TypeId) (z : Value) (bytes : Nat) (hinfo : (P.info? E).map (fun i => (i.zero, i.size, i.bytes)) = some (some z, 1, bytes)) (ht : P.underlying t = some (.slice E))
    (hz : z.cells = #[z]) (n : Nat) (hn : bytes * n ≤ 281474976710656) (hm : n ≤ 9223372036854775807) (w : World) :
    (Instr.makeSlice t (.int .i64 (n : Int)) (.int .i64 (n : Int))).run P w = .ok (.slice (some ⟨w.heap.size, 0, none⟩) n n) (w.alloc (.cells (madeCells #[z] n) E)) := by
  obtain ⟨i, hi, h1, h2, h3⟩ := info_parts hinfo
  have hb : (i.bytes : Int) * (n : Int) ≤ 281474976710656 := by
    have h : ((i.bytes * n : Nat) : Int) ≤ 281474976710656 := by rw [h3]; omega
    rwa [Int.natCast_mul] at h
  have hr := run_make (P := P) w t E i z ht hi h1 .i64 .i64 n n (by omega) (by omega) hb (by omega)
  simp only [Int.toNat_natCast, h2, Nat.mul_one, hz] at hr
  exact hr

/-- 'out = append(out, x)', x of one cell -/
theorem wpList_append1 {P : Program} {w : World} {ops : Array Oper} {rest : List Oper} {o : Oper} {a : Act} {Q : Exit → Act → World → Prop} (hgd : o.guard = none) (s x : Operand) (t : TypeId)
    (ho : o.op = .call { callee := .builtin .append, args := #[s, x], argTypes := #[t, t] })
    (base : Nat) (E : TypeId) (z : Value) (bytes : Nat) (hinfo : (P.info? E).map (fun i => (i.zero, i.size, i.bytes)) = some (some z, 1, bytes)) (ht : P.underlying t = some (.slice E)) (hz : z.cells.size = 1)
    (v : Value) (n : Nat) (xs : List Value) (hs : a.eval s = v) (hown : w.ownsRow base E 1 v n xs)
    (u : Value) (hx : a.eval x = .slice (some ⟨w.heap.size, 0, none⟩) 1 1) (h1 : u.oneCell' = true) (hbytes : (n + 1) * bytes ≤ 100000000) (hn : n + 1 ≤ 100000000) (hbase : base ≤ w.heap.size)
    (h : ∀ v' w', w'.ownsRow base E 1 v' (n + 1) (xs ++ [u]) → (∀ w0, Ext w0 w → w0.heap.size ≤ base → Ext w0 w') → wpList P ops Q rest (a.put o.dst v') w') : wpList P ops Q (o :: rest) a (w.alloc (.cells #[u] E)) := by
  obtain ⟨i, hi, hz1, hz2, hz3⟩ := info_parts hinfo
  refine wpList_append_own _ hgd s x t ho base E i z 1 bytes ht hi hz1 hz2 hz3 hz (by omega) v n xs hs (hown.alloc _) ⟨w.heap.size, 0, none⟩ 1 1 [u] hx rfl ?_ ?_ (by unfold maxLen; omega) (by omega) (by simp; omega) ?_
  · intro j u' hj
    match j, hj with
    | 0, hj => simp at hj; subst hj; simp [Addr.add]
  · intro u' hu; simp at hu; subst hu; exact h1
  · intro v' w' ho' hg _
    refine h v' w' ho' fun w0 he hb => ?_
    exact (he.alloc _).grown hg fun g hg' => by have := own_base hown g hg'; omega

/-- 'out = append(out, src...)', src not empty -/
theorem wpList_appendS {P : Program} {w : World} {ops : Array Oper} {rest : List Oper} {o : Oper} {a : Act} {Q : Exit → Act → World → Prop} (hgd : o.guard = none) (s x : Operand) (t : TypeId)
    (ho : o.op = .call { callee := .builtin .append, args := #[s, x], argTypes := #[t, t] })
    (base : Nat) (E : TypeId) (z : Value) (size bytes : Nat) (hinfo : (P.info? E).map (fun i => (i.zero, i.size, i.bytes)) = some (some z, size, bytes)) (ht : P.underlying t = some (.slice E)) (hz : z.cells.size = size) (hsz : 0 < size)
    (v : Value) (n : Nat) (xs : List Value) (hs : a.eval s = v) (hown : w.ownsRow base E size v n xs)
    (g off m c : Nat) (news : List Value) (hx : a.eval x = .slice (some ⟨g, off, none⟩) m c) (hl : news.length = m * size) (hr : Rd w w.heap.size (some ⟨g, off, none⟩) m c news) (h1 : ∀ u ∈ news, u.oneCell' = true)
    (hbytes : (n + m) * bytes ≤ 100000000) (hn : n + m ≤ 100000000) (hbase : base ≤ w.heap.size)
    (h : ∀ v' w', w'.ownsRow base E size v' (n + m) (xs ++ news) → (∀ w0, Ext w0 w → w0.heap.size ≤ base → Ext w0 w') → wpList P ops Q rest (a.put o.dst v') w') : wpList P ops Q (o :: rest) a w := by
  obtain ⟨i, hi, hz1, hz2, hz3⟩ := info_parts hinfo
  refine wpList_append_own _ hgd s x t ho base E i z size bytes ht hi hz1 hz2 hz3 hz hsz v n xs hs hown ⟨g, off, none⟩ m c news hx hl ?_ h1 (by unfold maxLen; omega) (by omega) hbase ?_
  · intro j u hj
    have := hr.cell hj
    unfold Addr.add
    split
    · next h0 => subst h0; simpa using this
    · exact this
  · intro v' w' ho' hg _
    exact h v' w' ho' fun w0 he hb => he.grown hg fun g hg' => by have := own_base hown g hg'; omega
/-- the same, the new value written out -/
theorem wpList_appendV {P : Program} {w : World} {ops : Array Oper} {rest : List Oper} {o : Oper} {a : Act} {Q : Exit → Act → World → Prop} (hgd : o.guard = none) (s x : Operand) (t : TypeId)
    (ho : o.op = .call { callee := .builtin .append, args := #[s, x], argTypes := #[t, t] })
    (base : Nat) (E : TypeId) (z : Value) (size bytes : Nat) (hinfo : (P.info? E).map (fun i => (i.zero, i.size, i.bytes)) = some (some z, size, bytes)) (ht : P.underlying t = some (.slice E)) (hz : z.cells.size = size) (hsz : 0 < size)
    (v : Value) (n : Nat) (xs : List Value) (hs : a.eval s = v) (hown : w.ownsRow base E size v n xs)
    (g off m c : Nat) (news : List Value) (hx : a.eval x = .slice (some ⟨g, off, none⟩) m c) (hl : news.length = m * size) (hr : Rd w w.heap.size (some ⟨g, off, none⟩) m c news) (h1 : ∀ u ∈ news, u.oneCell' = true)
    (hbytes : (n + m) * bytes ≤ 100000000) (hn : n + m ≤ 100000000) (hm : 0 < m) (hbase : base ≤ w.heap.size)
    (h : ∀ g' cap w', Sl w' base w'.heap.size E (some ⟨g', 0, none⟩) (n + m) cap (xs ++ news) → base ≤ g' → (∀ w0, Ext w0 w → w0.heap.size ≤ base → Ext w0 w') → wpList P ops Q rest (a.put o.dst (.slice (some ⟨g', 0, none⟩) (n + m) cap)) w') : wpList P ops Q (o :: rest) a w := by
  refine wpList_appendS hgd s x t ho base E z size bytes hinfo ht hz hsz v n xs hs hown g off m c news hx hl hr h1 hbytes hn hbase fun v' w' ho' he' => ?_
  rcases ho'.2 with ⟨_, h0⟩ | ⟨g', cap, cur, rfl, hb, hg, hnc, _, _, htk⟩
  · omega
  · refine h g' cap w' ⟨hnc, fun _ => ⟨g', 0, cur, rfl, hb, lt_of_heap hg, hg, fun j u hu => ?_⟩⟩ hb he'
    rw [← htk, List.getElem?_take] at hu
    split at hu
    · simpa using hu
    · cases hu
theorem bools_one (l : List Bool) : ∀ u ∈ bools l, u.oneCell' = true := by
  intro u hu
  simp [bools] at hu
  rcases hu with ⟨_, rfl⟩ | ⟨_, rfl⟩ <;> rfl
theorem ints_one (l : List Int) : ∀ u ∈ ints l, u.oneCell' = true := by
  intro u hu
  simp [ints] at hu
  obtain ⟨_, _, rfl⟩ := hu
  rfl

/-- the list 'old', its first k places overwritten by those of l -/
def over {α : Type} (l old : List α) (k : Nat) : List α := l.take k ++ old.drop k
theorem over_zero {α : Type} (l old : List α) : over l old 0 = old := by simp [over]
theorem over_end {α : Type} {l old : List α} {n : Nat} (h : l.length = n) (h' : old.length = n) : over l old n = l := by
  unfold over
  rw [List.take_of_length_le (by omega), List.drop_of_length_le (by omega), List.append_nil]
theorem over_length {α : Type} {l old : List α} {k : Nat} (h : l.length = old.length) : (over l old k).length = old.length := by
  simp [over]; omega
theorem over_set {α : Type} {l old : List α} {k : Nat} {y : α} (h : l[k]? = some y) (hl : l.length = old.length) : (over l old k).set k y = over l old (k + 1) := by
  have hk : k < l.length := by
    rcases Nat.lt_or_ge k l.length with hl | hl
    · exact hl
    · rw [List.getElem?_eq_none hl] at h; cases h
  unfold over
  have hlen : (l.take k).length = k := by simp; omega
  have hd : old.drop k = old[k]'(by omega) :: old.drop (k + 1) := List.drop_eq_getElem_cons (by omega)
  rw [List.set_append_right _ _ (by omega), hlen, Nat.sub_self, List.take_add_one, h, hd, List.set_cons_zero]
  simp
/-- a place that is not yet overwritten -/
theorem over_at {α : Type} {l old : List α} {k j : Nat} (hl : l.length = old.length) (hj : k ≤ j) : (over l old k)[j]? = old[j]? := by
  unfold over
  rcases Nat.lt_or_ge l.length k with h | h
  · rw [List.getElem?_append_right (by simp; omega)]
    rw [List.getElem?_eq_none (by simp; omega), List.getElem?_eq_none (by omega)]
  · rw [List.getElem?_append_right (by simp; omega)]
    simp [List.getElem?_drop]
    congr 1
    omega
theorem take_snoc_of {α : Type} {l : List α} {k : Nat} {x : α} (h : l[k]? = some x) : l.take (k + 1) = l.take k ++ [x] := by
  rw [List.take_add_one, h]; rfl

theorem ret_int {k : IntKind} {a b : Int} (h : a = b) : Ending.returned (.int k a) = .returned (.int k b) := by rw [h]
theorem ret_ib {a b : Int} {c : Bool} (h : a = b) : Ending.returned (.tuple #[.int .i64 a, .bool c]) = .returned (.tuple #[.int .i64 b, .bool c]) := by rw [h]
theorem ret_bool {a b : Bool} (h : a = b) : Ending.returned (.bool a) = .returned (.bool b) := by rw [h]
theorem tmod_nn {n m : Int} (h : 0 ≤ n) : n.tmod m = n % m := Int.tmod_eq_emod_of_nonneg h
theorem tmod_np {n m : Int} (h : n ≤ 0) : n.tmod m = -((-n) % m) := by
  have := Int.tmod_eq_emod_of_nonneg (a := -n) (b := m) (by omega)
  rw [Int.neg_tmod] at this
  omega
end Go.Proofs.Ytebjdchfofhmhaa
