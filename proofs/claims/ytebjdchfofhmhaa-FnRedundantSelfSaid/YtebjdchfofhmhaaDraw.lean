/-
  The reader of drawn inputs: l6Open and pick. A number that is picked lies in its range; nothing else is said of it.
-/
import Derived.Test.YtebjdchfofhmhaaNum
import Derived.Deep.QuietTactic
import Derived.BigQuiet
import Derived.Laws.BitsAllLaws
import Derived.Laws.BitsLemmas
namespace Go.Proofs.Ytebjdchfofhmhaa
open Go.RowKit

/-- Block r is a reader at place p; its code lies below block B. -/
def Rdr (w : World) (B r p : Nat) : Prop :=
  ∃ (A : Option Addr) (n c : Nat) (zs : List Int), w.heap[r]? = some (.cells #[.slice A n c, .int .i64 p] 89 (0, 0)) ∧ zs.length = n ∧ n ≤ 2000 ∧ Rd w B A n c (zs.map (.int .u8)) ∧ (∀ z ∈ zs, 0 ≤ z ∧ z ≤ 255) ∧ B ≤ r

section
variable {w w1 : World} {B r p lo hi : Nat}
theorem Rdr.lt (h : Rdr w B r p) : r < w.heap.size := by
  obtain ⟨A, n, c, zs, h1, _⟩ := h
  exact lt_of_heap h1
theorem Rdr.ge (h : Rdr w B r p) : B ≤ r := by
  obtain ⟨A, n, c, zs, h1, _, _, _, _, h2⟩ := h
  exact h2
theorem Rdr.chg (h : Rdr w B r p) (k : Chg lo hi w w1) (h1 : r < lo ∨ hi ≤ r) (h2 : B ≤ lo ∨ hi ≤ lo) : Rdr w1 B r p := by
  have hl := h.lt
  obtain ⟨A, n, c, zs, h3, h4, h5, h6, h7, h8⟩ := h
  exact ⟨A, n, c, zs, (k.block r hl h1).trans h3, h4, h5, h6.keep (fun q hq => k.cell (by omega) (by omega)), h7, h8⟩
theorem Rdr.ext (h : Rdr w B r p) (k : Ext w w1) : Rdr w1 B r p := h.chg k (.inr (Nat.zero_le _)) (.inr (Nat.le_refl _))
theorem Rdr.far (h : Rdr w B r p) {q : Addr} (h1 : r < q.block) (u : Value) : Rdr (w.setCell q u) B r p :=
  h.chg (lo := q.block) (hi := q.block + 1) (Chg.setCell (p := q) (Chg.refl _ _ w) (.inl ⟨Nat.le_refl _, Nat.lt_succ_self _⟩) u) (.inl h1) (.inl (by have := h.ge; omega))
end

theorem xor_nn (x y : Int) (hx : 0 ≤ x) (hy : 0 ≤ y) (h1 : x < 4611686018427387904) (h2 : y < 4611686018427387904) : 0 ≤ bits .xor .i64 x y := by
  obtain ⟨a, rfl⟩ := Int.eq_ofNat_of_zero_le hx
  obtain ⟨b, rfl⟩ := Int.eq_ofNat_of_zero_le hy
  have ea : (BitVec.ofInt 64 (a : Int)).toNat = a := by rw [BitVec.ofInt_natCast, BitVec.toNat_ofNat]; exact Nat.mod_eq_of_lt (by omega)
  have eb : (BitVec.ofInt 64 (b : Int)).toNat = b := by rw [BitVec.ofInt_natCast, BitVec.toNat_ofNat]; exact Nat.mod_eq_of_lt (by omega)
  have hx : a ^^^ b < 2 ^ 62 := Nat.xor_lt_two_pow (by omega) (by omega)
  show 0 ≤ IntKind.i64.wrap ((BitVec.ofInt 64 (a : Int) ^^^ BitVec.ofInt 64 (b : Int)).toNat : Int)
  rw [BitVec.toNat_xor, ea, eb, IntWalk.i64_in _ (by omega)]
  omega

set_option maxHeartbeats 400000 in
theorem l6Open_any (A : Option Addr) (n c : Nat) (zs : List Int) (w : World) (hn : zs.length = n) (hm : n ≤ 9223372036854775807) (h : Rd w w.heap.size A n c (zs.map (.int .u8))) (hz : ∀ z ∈ zs, 0 ≤ z ∧ z ≤ 255) :
    Calls Try.prog 44 #[.slice A n c] w fun e w' => e = .returned (.pointer (some ⟨w.heap.size, 0, none⟩)) ∧ Rdr w' w.heap.size w.heap.size 0 ∧ Ext w w' := by
  have HN := Lib.hid hn
  have HZ := Lib.hid hz
  clear hn hz
  by_cases h2 : n ≤ 2000
  · go_enter Try.func44, Try.ntmps44
    go_wp2
    go_ret
    exact ⟨rfl, ⟨A, n, c, zs, heap_alloc_new w _, HN.out, h2, h.alloc (Nat.le_refl _) _, HZ.out, Nat.le_refl _⟩, (Ext.refl w).alloc _⟩
  · have hc := h.1
    have hcI : (n : Int) ≤ (c : Int) := by omega
    have hA : Rd w w.heap.size A 2000 c ((zs.take 2000).map (.int .u8)) := by
      refine ⟨by omega, fun hx => ?_⟩
      obtain ⟨g, off, e, hb, hc⟩ := h.2 (by simp [HN.out]; omega)
      refine ⟨g, off, e, hb, fun j u hu => hc j u ?_⟩
      simp only [List.map_take, List.getElem?_take] at hu
      split at hu
      · exact hu
      · cases hu
    obtain ⟨g, off, rfl⟩ := h.addr (by simp [HN.out]; omega)
    go_enter Try.func44, Try.ntmps44
    go_wp2
    go_ret
    exact ⟨rfl, ⟨_, 2000, c, zs.take 2000, heap_alloc_new w _, by simp [HN.out]; omega, by omega, hA.alloc (Nat.le_refl _) _, fun z hz => HZ.out z (List.mem_of_mem_take hz), Nat.le_refl _⟩, (Ext.refl w).alloc _⟩

/-- what pick leaves -/
def Picked (w : World) (B r p : Nat) (m : Int) (e : Ending) (w' : World) : Prop :=
  ∃ v : Nat, e = .returned (.int .i64 v) ∧ (v : Int) < m ∧ Rdr w' B r (p + 1) ∧ Chg r (r + 1) w w'
theorem Picked.mk' {w w' : World} {B r p : Nat} {m x : Int} (h0 : 0 ≤ x) (h1 : x < m) (h : Rdr w' B r (p + 1)) (k : Chg r (r + 1) w w') : Picked w B r p m (.returned (.int .i64 x)) w' := by
  obtain ⟨v, rfl⟩ := Int.eq_ofNat_of_zero_le h0
  exact ⟨v, rfl, h1, h, k⟩

set_option maxHeartbeats 1000000 in
theorem pick_any (B r p : Nat) (m : Int) (w : World) (hp : p ≤ 1000000) (hm : 1 ≤ m) (hm' : m ≤ 1000000) (h : Rdr w B r p) :
    Calls Try.prog 55 #[.pointer (some ⟨r, 0, none⟩), .int .i64 m] w (Picked w B r p m) := by
  have hm0 : (m == 0) = false := by simp; omega
  obtain ⟨A, n, c, zs, hb, hn, h2, hr, hz, hB⟩ := h
  have hc0 : w.cell? ⟨r, 0, none⟩ = some (.slice A n c) := (cell_of_row w r 0 _ _ _ hb).trans rfl
  have hc1 : w.cell? ⟨r, 1, none⟩ = some (.int .i64 p) := (cell_of_row w r 1 _ _ _ hb).trans rfl
  have hf1 : w.frozen? ⟨r, 1, none⟩ = false := frozen_of_row w r 1 _ _ hb
  have R : Rdr (w.setCell ⟨r, 1, none⟩ (.int .i64 ((p : Int) + 1))) B r (p + 1) := by
    refine ⟨A, n, c, zs, ?_, hn, h2, hr.keep (fun q hq => World.cell?_setCell_other _ _ _ _ (fun e => by subst e; simp at hq; omega)), hz, hB⟩
    have := heap_setCell_same w r 1 _ _ (.int .i64 ((p : Int) + 1)) hb
    rw [this]
    simp
  have C : Chg r (r + 1) w (w.setCell ⟨r, 1, none⟩ (.int .i64 ((p : Int) + 1))) := Chg.setCell (p := ⟨r, 1, none⟩) (Chg.refl r (r + 1) w) (.inl ⟨Nat.le_refl _, Nat.lt_succ_self _⟩) _
  have HR := Lib.hid R
  have HN := Lib.hid hn
  have HZ := Lib.hid hz
  clear R hn hz hb
  by_cases hn0 : n = 0
  · subst hn0
    go_enter Try.func55, Try.ntmps55
    go_wp2
    go_ret
    exact Picked.mk' (by omega) (by omega) HR.out C
  · have hnn : ((n : Int) == 0) = false := by simp; omega
    have hcell : ∀ i, i < n → ∃ z, 0 ≤ z ∧ z ≤ 255 ∧ ∃ g off, A = some ⟨g, off, none⟩ ∧ (w.setCell ⟨r, 1, none⟩ (.int .i64 ((p : Int) + 1))).cell? ⟨g, off + i, none⟩ = some (.int .u8 z) := by
      intro i hi
      obtain ⟨z, hz⟩ := at_of_lt (l := zs) (k := i) (by rw [HN.out]; exact hi)
      obtain ⟨g, off, e, hgB, hcc⟩ := hr.2 (by simp [HN.out]; omega)
      have hz2 := HZ.out z (List.mem_of_getElem? hz)
      refine ⟨z, hz2.1, hz2.2, g, off, e, cell_far (by simp; omega) (hcc i _ (by simp [hz]))⟩
    obtain ⟨g, off, rfl⟩ := hr.addr (by simp [HN.out]; omega)
    by_cases hpn : p < n
    · obtain ⟨z, hz0, hz1, g', off', e, hcz⟩ := hcell p hpn
      simp only [Option.some.injEq, Addr.mk.injEq, and_true] at e
      obtain ⟨rfl, rfl⟩ := e
      clear hcell
      go_enter Try.func55, Try.ntmps55
      go_wp2
      go_ret
      exact Picked.mk' (Int.emod_nonneg _ (by omega)) (Int.emod_lt_of_pos _ (by omega)) HR.out C
    · obtain ⟨i1, hi1⟩ : ∃ i, i = p % n := ⟨_, rfl⟩
      obtain ⟨i2, hi2⟩ : ∃ i, i = (p * 7 + 3) % n := ⟨_, rfl⟩
      obtain ⟨q, hq⟩ : ∃ i, i = p / n := ⟨_, rfl⟩
      have l1 : i1 < n := by rw [hi1]; exact Nat.mod_lt _ (by omega)
      have l2 : i2 < n := by rw [hi2]; exact Nat.mod_lt _ (by omega)
      have lq : q ≤ 1000000 := by rw [hq]; exact Nat.le_trans (Nat.div_le_self _ _) hp
      obtain ⟨z1, hz10, hz11, g', off', e, hcz1⟩ := hcell i1 l1
      simp only [Option.some.injEq, Addr.mk.injEq, and_true] at e
      obtain ⟨rfl, rfl⟩ := e
      obtain ⟨z2, hz20, hz21, g', off', e, hcz2⟩ := hcell i2 l2
      simp only [Option.some.injEq, Addr.mk.injEq, and_true] at e
      obtain ⟨rfl, rfl⟩ := e
      have e1 : (p : Int).tmod (n : Int) = (i1 : Int) := by rw [tmod_nn (by omega), hi1]; omega
      have e4 : ((p : Int) * 7 + 3).tmod (n : Int) = (i2 : Int) := by rw [tmod_nn (by omega), hi2, Int.natCast_emod, Int.natCast_add, Int.natCast_mul]; rfl
      have e10 : (p : Int).tdiv (n : Int) = (q : Int) := by rw [Int.tdiv_eq_ediv_of_nonneg (by omega), hq]; omega
      have e10' : (p : Int) / (n : Int) = (q : Int) := by rw [hq]; omega
      clear hcell hi1 hi2 hq
      have m1 : (0 : Int) ≤ (i1 : Int) := by omega
      have m2 : (i1 : Int) < (n : Int) := by omega
      have m3 : (0 : Int) ≤ (i2 : Int) := by omega
      have m4 : (i2 : Int) < (n : Int) := by omega
      have m5 : ¬ (p : Int) < (n : Int) := by omega
      have f1 : IntKind.i64.wrap ((p : Int) * 7) = (p : Int) * 7 := IntWalk.i64_in _ (by omega)
      have f2 : IntKind.i64.wrap ((p : Int) * 7 + 3) = (p : Int) * 7 + 3 := IntWalk.i64_in _ (by omega)
      have f3 : IntKind.i64.wrap z1 = z1 := IntWalk.i64_in _ (by omega)
      have f4 : IntKind.i64.wrap z2 = z2 := IntWalk.i64_in _ (by omega)
      have f5 : IntKind.i64.wrap (z1 * 131) = z1 * 131 := IntWalk.i64_in _ (by omega)
      have f6 : IntKind.i64.wrap (z2 * 1117) = z2 * 1117 := IntWalk.i64_in _ (by omega)
      have f7 : IntKind.i64.wrap (z1 * 131 + z2 * 1117) = z1 * 131 + z2 * 1117 := IntWalk.i64_in _ (by omega)
      have f8 : IntKind.i64.wrap ((p : Int) * 29) = (p : Int) * 29 := IntWalk.i64_in _ (by omega)
      have f9 : IntKind.i64.wrap (z1 * 131 + z2 * 1117 + (p : Int) * 29) = z1 * 131 + z2 * 1117 + (p : Int) * 29 := IntWalk.i64_in _ (by omega)
      have f10 : IntKind.i64.wrap (q : Int) = (q : Int) := IntWalk.i64_in _ (by omega)
      have f11 : IntKind.i64.wrap ((q : Int) * 53) = (q : Int) * 53 := IntWalk.i64_in _ (by omega)
      have f12 : IntKind.i64.wrap (z1 * 131 + z2 * 1117 + (p : Int) * 29 + (q : Int) * 53) = z1 * 131 + z2 * 1117 + (p : Int) * 29 + (q : Int) * 53 := IntWalk.i64_in _ (by omega)
      go_enter Try.func55, Try.ntmps55
      go_wp2
      go_quiet (fail)
      clear f1 f2 f3 f4 f5 f6 f7 f8 f9 f10 f11 f12
      go_wp2
      go_ret
      have hx := xor_nn (z1 * 131 + z2 * 1117 + (p : Int) * 29 + (q : Int) * 53) ((z1 * 131 + z2 * 1117 + (p : Int) * 29 + (q : Int) * 53) / 64) (by omega) (by omega) (by omega) (by omega)
      refine Picked.mk' ?_ ?_ HR.out (C.drewN _)
      · show 0 ≤ Int.tmod _ _
        rw [tmod_nn hx]
        exact Int.emod_nonneg _ (by omega)
      · show Int.tmod _ _ < _
        rw [tmod_nn hx]
        exact Int.emod_lt_of_pos _ (by omega)
end Go.Proofs.Ytebjdchfofhmhaa
