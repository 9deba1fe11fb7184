/-
  Contracts over skies: addTimes, shifted, fold of the program; l21Fold, SkyShift, SkyAdd, l24Peak of the reference; Max, Index, Equal, Clone of the library at []int.
-/
import Derived.Test.YtohbflekinafjabSky
import Derived.Test.YtohbflekinafjabSkyPlain
import Derived.Test.YtohbflekinafjabCovPlain
import Derived.Deep.RegionHeld3
namespace Go.Proofs.Ytohbflekinafjab
open Go.RowKit

theorem ints_a0 {s : List Int} {k : Nat} (h : k < s.length) : (ints s)[k]? = some (.int .i64 (at0 s k)) := ints_at' (some_at0 h)
/-- a bound on all numbers -/
def IB (M : Int) (s : List Int) : Prop := ∀ k, -M ≤ at0 s k ∧ at0 s k ≤ M
theorem svB_IB {s : List Int} (h : svB s = true) : IB 100000 s := by
  intro k
  by_cases hk : k < s.length
  · exact svB_at h (some_at0 hk)
  · have : at0 s k = 0 := by simp [at0, List.getD, List.getElem?_eq_none (Nat.le_of_not_lt hk)]
    omega
theorem mul_le_of {a b M K : Int} (h1 : -M ≤ a) (h2 : a ≤ M) (h3 : -K ≤ b) (h4 : b ≤ K) : -(M * K) ≤ a * b ∧ a * b ≤ M * K := by
  have hM : 0 ≤ M := by omega
  have hK : 0 ≤ K := by omega
  rcases Int.le_total 0 a with ha | ha <;> rcases Int.le_total 0 b with hb | hb
  · have h5 := Int.mul_le_mul h2 h4 hb hM
    have h6 := Int.mul_nonneg ha hb
    omega
  · have h5 := Int.mul_le_mul h2 (show -b ≤ K by omega) (by omega) hM
    have h6 := Int.mul_nonneg ha (show 0 ≤ -b by omega)
    rw [Int.mul_neg] at h5 h6
    omega
  · have h5 := Int.mul_le_mul (show -a ≤ M by omega) h4 hb hM
    have h6 := Int.mul_nonneg (show 0 ≤ -a by omega) hb
    rw [Int.neg_mul] at h5 h6
    omega
  · have h5 := Int.mul_le_mul (show -a ≤ M by omega) (show -b ≤ K by omega) (by omega) hM
    have h6 := Int.mul_nonneg (show 0 ≤ -a by omega) (show 0 ≤ -b by omega)
    rw [Int.neg_mul_neg] at h5 h6
    omega

/-! ### the library -/

/-! ### the program -/
set_option maxHeartbeats 400000 in
theorem addTimes_any (A B : Option Addr) (c d : Nat) (xs ys : List Int) (t : Int) (w : World) (hn : xs.length = 16) (hm : ys.length = 16) (hb1 : IB 10000000000000 xs) (hb2 : ∀ k, -10000000000000 ≤ t * at0 ys k ∧ t * at0 ys k ≤ 10000000000000)
    (h : Rd w w.heap.size A 16 c (ints xs)) (h' : Rd w w.heap.size B 16 d (ints ys)) :
    Calls Try.prog 47 #[.slice A 16 c, .slice B 16 d, .int .i64 t] w (RetS w 3 16 (ints (addL xs ys t))) := by
  have HN := Lib.hid hn
  have HM := Lib.hid hm
  have HB1 := Lib.hid hb1
  have HB2 := Lib.hid hb2
  obtain ⟨g, off, rfl⟩ := h.addr (by rw [ints_length, hn]; omega)
  obtain ⟨g', off', rfl⟩ := h'.addr (by rw [ints_length, hm]; omega)
  have hmk := makeInts16
  have HL : Hid ((addL xs ys t).length = zero16.length) := by show _ = _; rw [addL_length, zero16_length]
  clear hn hm hb1 hb2
  go_enter Try.func47, Try.ntmps47
  go_wp2
  clear hmk
  go_loopw [14] (fun i wr => ∃ k : Nat, k ≤ 16 ∧ i = .int .i64 k ∧ Sl wr w.heap.size (w.heap.size + 1) 3 (some ⟨w.heap.size, 0, none⟩) 16 16 (ints (over (addL xs ys t) zero16 k)) ∧ Ext w wr) (fun i _ => 16 - (intOf i).toNat)
  case atStart => exact ⟨0, Nat.zero_le _, rfl, by rw [over_zero, ← zero16_rep, ← ints_rep]; exact Sl.made w 3 _ 16, (Ext.refl w).alloc _⟩
  case round =>
    obtain ⟨k, hk, rfl, hs, he⟩ := hrel
    by_cases hlt : k < 16
    · have hc1 := (h.below he.below).cell (ints_a0 (s := xs) (k := k) (by rw [HN.out]; omega))
      have hc2 := (h'.below he.below).cell (ints_a0 (s := ys) (k := k) (by rw [HM.out]; omega))
      obtain ⟨b', hb'⟩ := at_of_lt (l := over (addL xs ys t) zero16 k) (k := k) (by rw [over_length HL.out, zero16_length]; omega)
      have hco := hs.cell (ints_at' hb')
      have hfo := hs.frozen (by rw [ints_length, over_length HL.out, zero16_length]; omega) (0 + k)
      have R := Lib.hid (hs.set_ k (.int .i64 (at0 xs k + t * at0 ys k)))
      rw [ints_set, over_set (addL_at hlt) HL.out] at R
      simp only [Nat.zero_add] at hco hfo R
      obtain ⟨q1, q2⟩ := HB1.out k
      obtain ⟨q3, q4⟩ := HB2.out k
      have h2 : (k : Int) < 16 := by omega
      have h3 : (0 : Int) ≤ (k : Int) := by omega
      have f1 : IntKind.i64.wrap (t * at0 ys k) = t * at0 ys k := IntWalk.i64_in _ (by omega)
      have f2 : IntKind.i64.wrap (at0 xs k + t * at0 ys k) = at0 xs k + t * at0 ys k := IntWalk.i64_in _ (by omega)
      have n1 : g ≠ w.heap.size := by have := h.blk (by rw [ints_length, HN.out]; omega); omega
      have n2 : g' ≠ w.heap.size := by have := h'.blk (by rw [ints_length, HM.out]; omega); omega
      clear hb' hs
      go_wp2
      go_region_held3 (fun w' => w'.cell? ⟨g, off + k, none⟩ = some (.int .i64 (at0 xs k)) ∧ w'.cell? ⟨g', off' + k, none⟩ = some (.int .i64 (at0 ys k))) (first | exact ⟨hc1, hc2⟩ | exact ⟨cell_far (Ne.symm n1) hc1, cell_far (Ne.symm n2) hc2⟩) (fail)
      clear f1 f2
      go_wp2
      go_roundw
      case rel => exact ⟨k + 1, by omega, by go_num, R.out, (he.setCell (Nat.le_refl _) _).drew⟩
      case measure => simp [intOf]; omega
    · go_wp2
      go_ret
      obtain rfl : k = 16 := by omega
      rw [over_end (n := 16) (addL_length _ _ _) zero16_length] at hs
      exact RetS.mk' rfl rfl hs (Nat.le_refl _) he
set_option maxHeartbeats 400000 in
theorem shifted_any (A : Option Addr) (c : Nat) (xs : List Int) (a b p : Nat) (w : World) (hn : xs.length = 16) (ha : a < 4) (hb : b < 4) (hp : p = 4 * b + a) (h : Rd w w.heap.size A 16 c (ints xs)) :
    Calls Try.prog 39 #[.slice A 16 c, .int .i64 a, .int .i64 b] w (RetS w 3 16 (ints (shL xs p))) := by
  have HN := Lib.hid hn
  have HP := Lib.hid hp
  obtain ⟨g, off, rfl⟩ := h.addr (by rw [ints_length, hn]; omega)
  have hmk := makeInts16
  clear hn hp
  go_enter Try.func39, Try.ntmps39
  go_wp2
  clear hmk
  go_loopw [15] (fun i wr => ∃ k : Nat, k ≤ 16 ∧ i = .int .i64 k ∧ Sl wr w.heap.size (w.heap.size + 1) 3 (some ⟨w.heap.size, 0, none⟩) 16 16 (ints (shTo xs p k)) ∧ Ext w wr) (fun i _ => 16 - (intOf i).toNat)
  case atStart => exact ⟨0, Nat.zero_le _, rfl, by show Sl _ _ _ _ _ _ _ (ints zero16); rw [← zero16_rep, ← ints_rep]; exact Sl.made w 3 _ 16, (Ext.refl w).alloc _⟩
  case round =>
    obtain ⟨k, hk, rfl, hs, he⟩ := hrel
    by_cases hlt : k < 16
    · have hc1 := (h.below he.below).cell (ints_a0 (s := xs) (k := k) (by rw [HN.out]; omega))
      have hql := cadd_lt k p
      obtain ⟨b', hb'⟩ := at_of_lt (l := shTo xs p k) (k := cadd k p) (by rw [shTo_length]; omega)
      have hco := hs.cell (ints_at' hb')
      have hfo := hs.frozen (by rw [ints_length, shTo_length]; omega) (0 + cadd k p)
      have R := Lib.hid (hs.set_ (cadd k p) (.int .i64 (at0 xs k)))
      rw [ints_set] at R
      simp only [Nat.zero_add] at hco hfo R
      have HQ : Hid (4 * (((k : Int) / 4 + (b : Int)) % 4) + ((k : Int) % 4 + (a : Int)) % 4 = (cadd k p : Int)) := by have := HP.out; unfold cadd; show _ = _; omega
      clear hb' hs
      go_wp2_with (go_at_call 57; refine (cellAt_eq _ _ _ _ HQ.out).mono ?_; rintro e w' ⟨rfl, rfl⟩)
      go_roundw
      case rel => exact ⟨k + 1, by omega, by go_num, R.out, he.setCell (Nat.le_refl _) _⟩
      case measure => simp [intOf]; omega
    · go_wp2
      go_ret
      obtain rfl : k = 16 := by omega
      rw [shTo_end xs (by have := HP.out; omega)] at hs
      exact RetS.mk' rfl rfl hs (Nat.le_refl _) he
theorem foldTo_IB {a b : List Int} (ha : IB 100000 a) (hb : IB 100000 b) {n : Nat} (hn : n ≤ 16) : IB 160000000000 (foldTo a b n) := by
  intro k
  by_cases hk : k < 16
  · unfold foldTo
    rw [at0_mk16 hk]
    have h1 : ∀ j, j < n → -10000000000 ≤ at0 a j * at0 b (csub k j) ∧ at0 a j * at0 b (csub k j) ≤ 10000000000 := by
      intro j _
      have := mul_le_of (ha j).1 (ha j).2 (hb (csub k j)).1 (hb (csub k j)).2
      omega
    have := sumTo_le h1
    omega
  · have : at0 (foldTo a b n) k = 0 := by simp [at0, List.getD, List.getElem?_eq_none (show (foldTo a b n).length ≤ k by rw [foldTo_length]; omega)]
    omega
theorem shL_IB {a : List Int} {M : Int} (hM : 0 ≤ M) (ha : IB M a) (p : Nat) : IB M (shL a p) := by
  intro k
  by_cases hk : k < 16
  · unfold shL
    rw [at0_mk16 hk]
    exact ha _
  · have : at0 (shL a p) k = 0 := by simp [at0, List.getD, List.getElem?_eq_none (show (shL a p).length ≤ k by rw [shL_length]; omega)]
    omega
end Go.Proofs.Ytohbflekinafjab
