/-
  Struct variables in memory, and two slices that lie apart. No program in sight.
-/
import Derived.Test.YtebjdchfofhmhaaBase
namespace Go.Proofs.Ytebjdchfofhmhaa
open Go.RowKit

theorem cutP {P Q : Prop} (h : P) (k : P → Q) : Q := k h
/-- Block g holds the cells vs of a variable of type T. -/
def St (w : World) (g : Nat) (vs : Array Value) (T : TypeId) : Prop := w.heap[g]? = some (.cells vs T (0, 0))
section
variable {w w1 : World} {g lo hi : Nat} {vs : Array Value} {T : TypeId}
theorem St.new (w : World) (vs : Array Value) (T : TypeId) : St (w.alloc (.cells vs T)) w.heap.size vs T := heap_alloc_new w _
theorem St.lt (h : St w g vs T) : g < w.heap.size := lt_of_heap h
theorem St.ext (h : St w g vs T) (x : Ext w w1) : St w1 g vs T := (x.block h.lt).trans h
theorem St.chg (h : St w g vs T) (x : Chg lo hi w w1) (hc : g < lo ∨ hi ≤ g) : St w1 g vs T := (x.block g h.lt hc).trans h
theorem St.cell (h : St w g vs T) (k : Nat) : w.cell? ⟨g, k, none⟩ = vs[k]? := cell_of_row w g k vs T (0, 0) h
theorem St.frozen (h : St w g vs T) (k : Nat) : w.frozen? ⟨g, k, none⟩ = false := frozen_of_row w g k vs T h
theorem St.cell0 {a b : Value} (h : St w g #[a, b] T) : w.cell? ⟨g, 0, none⟩ = some a := h.cell 0
theorem St.cell1 {a b : Value} (h : St w g #[a, b] T) : w.cell? ⟨g, 1, none⟩ = some b := h.cell 1
theorem St.set (h : St w g vs T) (k : Nat) (u : Value) : St (w.setCell ⟨g, k, none⟩ u) g (vs.setIfInBounds k u) T := heap_setCell_same w g k vs T u h
theorem St.far (h : St w g vs T) {p : Addr} (hp : g ≠ p.block) (u : Value) : St (w.setCell p u) g vs T := (Below.heap_setCell w p u g hp).trans h
theorem St.put2 {g : Nat} {T : TypeId} {u v : Value} (h : St w g #[u, v] T) (a b : Value) : St ((w.setCell ⟨g, 0, none⟩ a).setCell ⟨g, 1, none⟩ b) g #[a, b] T := (h.set 0 a).set 1 b
theorem Ext.put2 {g : Nat} (x : Ext w w1) (hg : w.heap.size ≤ g) (a b : Value) : Ext w ((w1.setCell ⟨g, 0, none⟩ a).setCell ⟨g, 1, none⟩ b) := (x.setCell (p := ⟨g, 0, none⟩) hg a).setCell (p := ⟨g, 1, none⟩) hg b
theorem size_put2 (w : World) (g : Nat) (a b : Value) : ((w.setCell ⟨g, 0, none⟩ a).setCell ⟨g, 1, none⟩ b).heap.size = w.heap.size := by simp
end
/-- Two slices of ints in memory that may be written, apart from each other. -/
def Two (w : World) (lo hi : Nat) (E : TypeId) (A : Option Addr) (n c : Nat) (xs : List Value) (B : Option Addr) (m d : Nat) (ys : List Value) : Prop :=
  ∃ l1 h1 l2 h2, lo ≤ l1 ∧ h1 ≤ hi ∧ lo ≤ l2 ∧ h2 ≤ hi ∧ (h1 ≤ l2 ∨ h2 ≤ l1) ∧ Sl w l1 h1 E A n c xs ∧ Sl w l2 h2 E B m d ys
section
variable {w w1 : World} {lo hi lo' hi' : Nat} {E : TypeId} {A B : Option Addr} {n c m d : Nat} {xs ys : List Value}
theorem Two.fst (h : Two w lo hi E A n c xs B m d ys) : Sl w lo hi E A n c xs := by
  obtain ⟨l1, h1, l2, h2, a, b, _, _, _, s, _⟩ := h; exact s.mono a b
theorem Two.snd (h : Two w lo hi E A n c xs B m d ys) : Sl w lo hi E B m d ys := by
  obtain ⟨l1, h1, l2, h2, _, _, a, b, _, _, s⟩ := h; exact s.mono a b
theorem Two.ext (h : Two w lo hi E A n c xs B m d ys) (x : Ext w w1) : Two w1 lo hi E A n c xs B m d ys := by
  obtain ⟨l1, h1, l2, h2, a, b, c, d, e, s, t⟩ := h; exact ⟨l1, h1, l2, h2, a, b, c, d, e, s.ext x, t.ext x⟩
theorem Two.chg (h : Two w lo hi E A n c xs B m d ys) (x : Chg lo' hi' w w1) (hc : hi ≤ lo' ∨ hi' ≤ lo) : Two w1 lo hi E A n c xs B m d ys := by
  obtain ⟨l1, h1, l2, h2, a, b, c, d, e, s, t⟩ := h; exact ⟨l1, h1, l2, h2, a, b, c, d, e, s.chg x (by omega), t.chg x (by omega)⟩
theorem Two.mono (h : Two w lo hi E A n c xs B m d ys) (h1 : lo' ≤ lo) (h2 : hi ≤ hi') : Two w lo' hi' E A n c xs B m d ys := by
  obtain ⟨l1, k1, l2, k2, a, b, c, d, e, s, t⟩ := h; exact ⟨l1, k1, l2, k2, by omega, by omega, by omega, by omega, e, s, t⟩
theorem Two.far (h : Two w lo hi E A n c xs B m d ys) {p : Addr} (hp : p.block < lo ∨ hi ≤ p.block) (u : Value) : Two (w.setCell p u) lo hi E A n c xs B m d ys := by
  obtain ⟨l1, h1, l2, h2, a, b, c, d, e, s, t⟩ := h; exact ⟨l1, h1, l2, h2, a, b, c, d, e, s.far (by omega) u, t.far (by omega) u⟩
theorem Two.put2 (h : Two w lo hi E A n c xs B m d ys) {g : Nat} (hp : g < lo) (u v : Value) : Two ((w.setCell ⟨g, 0, none⟩ u).setCell ⟨g, 1, none⟩ v) lo hi E A n c xs B m d ys :=
  (h.far (p := ⟨g, 0, none⟩) (.inl hp) u).far (p := ⟨g, 1, none⟩) (.inl hp) v
theorem Two.of {l1 h1 l2 h2 : Nat} (s : Sl w l1 h1 E A n c xs) (t : Sl w l2 h2 E B m d ys) (h : h1 ≤ l2 ∨ h2 ≤ l1) (a1 : lo ≤ l1) (a2 : h1 ≤ hi) (a3 : lo ≤ l2) (a4 : h2 ≤ hi) : Two w lo hi E A n c xs B m d ys := ⟨l1, h1, l2, h2, a1, a2, a3, a4, h, s, t⟩
theorem Two.nil (hn : n ≤ c) (hm : m ≤ d) : Two w lo lo E A n c [] B m d [] := ⟨lo, lo, lo, lo, Nat.le_refl _, Nat.le_refl _, Nat.le_refl _, Nat.le_refl _, .inl (Nat.le_refl _), Sl.nil hn, Sl.nil hm⟩
end
/-- A pair of slices of ints in new memory is returned, and a bool. -/
def RetCB (w : World) (E : TypeId) (xs ys : List Int) (b : Bool) (e : Ending) (w' : World) : Prop :=
  ∃ A c B d, e = .returned (.tuple #[.agg #[.slice A xs.length c, .slice B ys.length d], .bool b]) ∧ Two w' w.heap.size w'.heap.size E A xs.length c (ints xs) B ys.length d (ints ys) ∧ Ext w w'
/-- The same, with a number between. -/
def RetCIB (w : World) (E : TypeId) (xs ys : List Int) (k : Int) (b : Bool) (e : Ending) (w' : World) : Prop :=
  ∃ A c B d, e = .returned (.tuple #[.agg #[.slice A xs.length c, .slice B ys.length d], .int .i64 k, .bool b]) ∧ Two w' w.heap.size w'.heap.size E A xs.length c (ints xs) B ys.length d (ints ys) ∧ Ext w w'
def RetC (w : World) (E : TypeId) (xs ys : List Int) (e : Ending) (w' : World) : Prop :=
  ∃ A c B d, e = .returned (.agg #[.slice A xs.length c, .slice B ys.length d]) ∧ Two w' w.heap.size w'.heap.size E A xs.length c (ints xs) B ys.length d (ints ys) ∧ Ext w w'
theorem RetCB.nil {w w' : World} {E : TypeId} {xs ys : List Int} {b : Bool} {A B : Option Addr} {c d : Nat} (hx : xs = []) (hy : ys = []) (x : Ext w w') : RetCB w E xs ys b (.returned (.tuple #[.agg #[.slice A 0 c, .slice B 0 d], .bool b])) w' := by
  subst hx; subst hy
  exact ⟨A, c, B, d, rfl, (Two.nil (lo := w.heap.size) (Nat.zero_le _) (Nat.zero_le _)).mono (Nat.le_refl _) x.size, x⟩
theorem RetCB.mk' {w w' : World} {E : TypeId} {xs ys xs' ys' : List Int} {b : Bool} {A B : Option Addr} {n m c d lo hi : Nat} (hx : xs = xs') (hy : ys = ys') (hn : n = xs.length) (hm : m = ys.length)
    (t : Two w' lo hi E A n c (ints xs) B m d (ints ys)) (hlo : w.heap.size ≤ lo) (hhi : hi ≤ w'.heap.size) (x : Ext w w') : RetCB w E xs' ys' b (.returned (.tuple #[.agg #[.slice A n c, .slice B m d], .bool b])) w' := by
  subst hx; subst hy; subst hn; subst hm
  exact ⟨A, c, B, d, rfl, t.mono hlo hhi, x⟩
theorem RetCIB.mk' {w w' : World} {E : TypeId} {xs ys xs' ys' : List Int} {k k' : Int} {b : Bool} {A B : Option Addr} {n m c d lo hi : Nat} (hx : xs = xs') (hy : ys = ys') (hk : k = k') (hn : n = xs.length) (hm : m = ys.length)
    (t : Two w' lo hi E A n c (ints xs) B m d (ints ys)) (hlo : w.heap.size ≤ lo) (hhi : hi ≤ w'.heap.size) (x : Ext w w') : RetCIB w E xs' ys' k' b (.returned (.tuple #[.agg #[.slice A n c, .slice B m d], .int .i64 k, .bool b])) w' := by
  subst hx; subst hy; subst hn; subst hm; subst hk
  exact ⟨A, c, B, d, rfl, t.mono hlo hhi, x⟩
theorem RetCIB.nil {w w' : World} {E : TypeId} {xs ys : List Int} {k k' : Int} {b : Bool} {A B : Option Addr} {c d : Nat} (hx : xs = []) (hy : ys = []) (hk : k = k') (x : Ext w w') : RetCIB w E xs ys k' b (.returned (.tuple #[.agg #[.slice A 0 c, .slice B 0 d], .int .i64 k, .bool b])) w' := by
  subst hx; subst hy; subst hk
  exact ⟨A, c, B, d, rfl, (Two.nil (lo := w.heap.size) (Nat.zero_le _) (Nat.zero_le _)).mono (Nat.le_refl _) x.size, x⟩
/-! ### the same, the second slice owning its whole row (so that it may be appended to) -/
theorem own_mono {w : World} {base base' : Nat} {E : TypeId} {size n : Nat} {v : Value} {xs : List Value} (h : w.ownsRow base E size v n xs) (hb : base' ≤ base) : w.ownsRow base' E size v n xs := by
  refine ⟨h.1, ?_⟩
  rcases h.2 with a | ⟨g, cap, cur, h0, h1, h2⟩
  · exact .inl a
  · exact .inr ⟨g, cap, cur, h0, by omega, h2⟩
theorem own_chg {w w1 : World} {lo hi base : Nat} {E : TypeId} {size n : Nat} {v : Value} {xs : List Value} (h : w.ownsRow base E size v n xs) (c : Chg lo hi w w1) (hb : ∀ g, v.ownBlock = some g → g < lo ∨ hi ≤ g) : w1.ownsRow base E size v n xs := by
  refine ⟨h.1, ?_⟩
  rcases h.2 with a | ⟨g, cap, cur, rfl, h1, h2, h3⟩
  · exact .inl a
  · exact .inr ⟨g, cap, cur, rfl, h1, (c.block g (lt_of_heap h2) (hb g rfl)).trans h2, h3⟩
theorem own_ext {w w1 : World} {base : Nat} {E : TypeId} {size n : Nat} {v : Value} {xs : List Value} (h : w.ownsRow base E size v n xs) (c : Ext w w1) : w1.ownsRow base E size v n xs := own_chg h c fun _ _ => .inr (Nat.zero_le _)
theorem own_lt {w : World} {base : Nat} {E : TypeId} {size n : Nat} {v : Value} {xs : List Value} (h : w.ownsRow base E size v n xs) : ∀ g, v.ownBlock = some g → g < w.heap.size := by
  rcases h.2 with ⟨rfl, _⟩ | ⟨g', cap, cur, rfl, _, h2, _⟩
  · simp [Value.ownBlock]
  · intro g hg
    simp [Value.ownBlock] at hg
    subst hg
    exact lt_of_heap h2
theorem own_far {w : World} {base : Nat} {E : TypeId} {size n : Nat} {v : Value} {xs : List Value} (h : w.ownsRow base E size v n xs) {p : Addr} (hb : ∀ g, v.ownBlock = some g → g ≠ p.block) (u : Value) : (w.setCell p u).ownsRow base E size v n xs :=
  own_chg (lo := p.block) (hi := p.block + 1) h (Chg.setCell (Chg.refl _ _ _) (.inl ⟨Nat.le_refl _, Nat.lt_succ_self _⟩) u) fun g hg => by have := hb g hg; omega
theorem own_put2 {w : World} {base g : Nat} {E : TypeId} {size n : Nat} {v : Value} {xs : List Value} (h : w.ownsRow base E size v n xs) (hb : ∀ g', v.ownBlock = some g' → g' ≠ g) (a b : Value) : ((w.setCell ⟨g, 0, none⟩ a).setCell ⟨g, 1, none⟩ b).ownsRow base E size v n xs :=
  own_far (p := ⟨g, 1, none⟩) (own_far (p := ⟨g, 0, none⟩) h hb a) hb b
theorem own_low {w : World} {base g : Nat} {E : TypeId} {size n : Nat} {v : Value} {xs : List Value} (h : w.ownsRow base E size v n xs) (hg : g < base) : ∀ g', v.ownBlock = some g' → g' ≠ g := fun g' hg' => by have := own_base h g' hg'; omega
theorem own_in {w : World} {l i n d : Nat} {E : TypeId} {B : Option Addr} {ys : List Value} (s : Sl w l i E B n d ys) (hy : 0 < ys.length) : ∀ g', (Value.slice B n d).ownBlock = some g' → l ≤ g' ∧ g' < i := by
  obtain ⟨g, off, rfl, h1, h2, _⟩ := s.addr hy
  intro g' hg'
  simp [Value.ownBlock] at hg'
  omega
def RetSBO (w : World) (E : TypeId) (xs : List Int) (b : Bool) (e : Ending) (w' : World) : Prop :=
  ∃ A c, e = .returned (.tuple #[.slice A xs.length c, .bool b]) ∧ Sl w' w.heap.size w'.heap.size E A xs.length c (ints xs) ∧ Ext w w' ∧ (b = true → w'.ownsRow w.heap.size E 1 (.slice A xs.length c) xs.length (ints xs))
theorem RetSBO.sb {w w' : World} {E : TypeId} {xs : List Int} {b : Bool} {e : Ending} (h : RetSBO w E xs b e w') : RetSB w E xs.length (ints xs) b e w' := by
  obtain ⟨A, c, h1, h2, h3, _⟩ := h; exact ⟨A, c, h1, h2, h3⟩
theorem RetSBO.mk' {w w' : World} {E : TypeId} {xs : List Int} {b : Bool} {A : Option Addr} {n c lo hi base : Nat} (hn : n = xs.length) (s : Sl w' lo hi E A n c (ints xs)) (hlo : w.heap.size ≤ lo) (x : Ext w w') (ow : w'.ownsRow base E 1 (.slice A n c) n (ints xs)) (hb : w.heap.size ≤ base) :
    RetSBO w E xs b (.returned (.tuple #[.slice A n c, .bool b])) w' := by
  subst hn
  exact ⟨A, c, rfl, s.full.mono hlo (Nat.le_refl _), x, fun _ => own_mono ow hb⟩
def RetCBO (w : World) (E : TypeId) (xs ys : List Int) (b : Bool) (e : Ending) (w' : World) : Prop :=
  ∃ A c B d, e = .returned (.tuple #[.agg #[.slice A xs.length c, .slice B ys.length d], .bool b]) ∧ Two w' w.heap.size w'.heap.size E A xs.length c (ints xs) B ys.length d (ints ys) ∧ Ext w w' ∧ w'.ownsRow w.heap.size E 1 (.slice B ys.length d) ys.length (ints ys)
theorem RetCBO.cb {w w' : World} {E : TypeId} {xs ys : List Int} {b : Bool} {e : Ending} (h : RetCBO w E xs ys b e w') : RetCB w E xs ys b e w' := by
  obtain ⟨A, c, B, d, h1, h2, h3, _⟩ := h; exact ⟨A, c, B, d, h1, h2, h3⟩
def RetCIBO (w : World) (E : TypeId) (xs ys : List Int) (k : Int) (b : Bool) (e : Ending) (w' : World) : Prop :=
  ∃ A c B d, e = .returned (.tuple #[.agg #[.slice A xs.length c, .slice B ys.length d], .int .i64 k, .bool b]) ∧ Two w' w.heap.size w'.heap.size E A xs.length c (ints xs) B ys.length d (ints ys) ∧ Ext w w' ∧ w'.ownsRow w.heap.size E 1 (.slice B ys.length d) ys.length (ints ys)
theorem RetCIBO.cib {w w' : World} {E : TypeId} {xs ys : List Int} {k : Int} {b : Bool} {e : Ending} (h : RetCIBO w E xs ys k b e w') : RetCIB w E xs ys k b e w' := by
  obtain ⟨A, c, B, d, h1, h2, h3, _⟩ := h; exact ⟨A, c, B, d, h1, h2, h3⟩
theorem RetCBO.nil {w w' : World} {E : TypeId} {xs ys : List Int} {b : Bool} (hx : xs = []) (hy : ys = []) (x : Ext w w') : RetCBO w E xs ys b (.returned (.tuple #[.agg #[.slice none 0 0, .slice none 0 0], .bool b])) w' := by
  subst hx; subst hy
  exact ⟨none, 0, none, 0, rfl, (Two.nil (lo := w.heap.size) (Nat.zero_le _) (Nat.zero_le _)).mono (Nat.le_refl _) x.size, x, World.ownsRow_nil _ _ _ _⟩
theorem RetCIBO.nil {w w' : World} {E : TypeId} {xs ys : List Int} {k k' : Int} {b : Bool} (hx : xs = []) (hy : ys = []) (hk : k = k') (x : Ext w w') : RetCIBO w E xs ys k' b (.returned (.tuple #[.agg #[.slice none 0 0, .slice none 0 0], .int .i64 k, .bool b])) w' := by
  subst hx; subst hy; subst hk
  exact ⟨none, 0, none, 0, rfl, (Two.nil (lo := w.heap.size) (Nat.zero_le _) (Nat.zero_le _)).mono (Nat.le_refl _) x.size, x, World.ownsRow_nil _ _ _ _⟩
theorem RetCBO.mk' {w w' : World} {E : TypeId} {xs ys xs' ys' : List Int} {b : Bool} {A B : Option Addr} {n m c d lo hi base : Nat} (hx : xs = xs') (hy : ys = ys') (hn : n = xs.length) (hm : m = ys.length)
    (t : Two w' lo hi E A n c (ints xs) B m d (ints ys)) (hlo : w.heap.size ≤ lo) (hhi : hi ≤ w'.heap.size) (x : Ext w w') (ow : w'.ownsRow base E 1 (.slice B m d) m (ints ys)) (hb : w.heap.size ≤ base) : RetCBO w E xs' ys' b (.returned (.tuple #[.agg #[.slice A n c, .slice B m d], .bool b])) w' := by
  subst hx; subst hy; subst hn; subst hm
  exact ⟨A, c, B, d, rfl, t.mono hlo hhi, x, own_mono ow hb⟩
theorem RetCIBO.mk' {w w' : World} {E : TypeId} {xs ys xs' ys' : List Int} {k k' : Int} {b : Bool} {A B : Option Addr} {n m c d lo hi base : Nat} (hx : xs = xs') (hy : ys = ys') (hk : k = k') (hn : n = xs.length) (hm : m = ys.length)
    (t : Two w' lo hi E A n c (ints xs) B m d (ints ys)) (hlo : w.heap.size ≤ lo) (hhi : hi ≤ w'.heap.size) (x : Ext w w') (ow : w'.ownsRow base E 1 (.slice B m d) m (ints ys)) (hb : w.heap.size ≤ base) : RetCIBO w E xs' ys' k' b (.returned (.tuple #[.agg #[.slice A n c, .slice B m d], .int .i64 k, .bool b])) w' := by
  subst hx; subst hy; subst hn; subst hm; subst hk
  exact ⟨A, c, B, d, rfl, t.mono hlo hhi, x, own_mono ow hb⟩
end Go.Proofs.Ytebjdchfofhmhaa
