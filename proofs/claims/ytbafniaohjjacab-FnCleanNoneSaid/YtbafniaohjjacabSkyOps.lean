/-
  Contracts over skies: addTimes, shifted, fold of the program; l21Fold, SkyShift, SkyAdd, l24Peak of the reference; Max, Index, Equal, Clone of the library at []int.
-/
import Derived.Test.YtbafniaohjjacabSky
import Derived.Test.YtbafniaohjjacabSkyPlain
import Derived.Test.YtbafniaohjjacabCovPlain
import Derived.Deep.RegionHeld3
namespace Go.Proofs.Ytbafniaohjjacab
open Go.RowKit

theorem ints_a0 {s : List Int} {k : Nat} (h : k < s.length) : (ints s)[k]? = some (.int .i64 (at0 s k)) := ints_at' (some_at0 h)
/-- a bound on all numbers -/
def IB (M : Int) (s : List Int) : Prop := ∀ k, -M ≤ at0 s k ∧ at0 s k ≤ M
theorem svB_IB {s : List Int} (h : svB s = true) : IB 100000 s := by
  intro k
  by_cases hk : k < s.length
  · exact svB_at h (some_at0 hk)
  · have : at0 s k = 0 := by simp [at0, List.getD, List.getElem?_eq_none (Nat.le_of_not_lt hk)]
    omega
theorem mul_le_of {a b M K : Int} (h1 : -M ≤ a) (h2 : a ≤ M) (h3 : -K ≤ b) (h4 : b ≤ K) : -(M * K) ≤ a * b ∧ a * b ≤ M * K := by
  have hM : 0 ≤ M := by omega
  have hK : 0 ≤ K := by omega
  rcases Int.le_total 0 a with ha | ha <;> rcases Int.le_total 0 b with hb | hb
  · have h5 := Int.mul_le_mul h2 h4 hb hM
    have h6 := Int.mul_nonneg ha hb
    omega
  · have h5 := Int.mul_le_mul h2 (show -b ≤ K by omega) (by omega) hM
    have h6 := Int.mul_nonneg ha (show 0 ≤ -b by omega)
    rw [Int.mul_neg] at h5 h6
    omega
  · have h5 := Int.mul_le_mul (show -a ≤ M by omega) h4 hb hM
    have h6 := Int.mul_nonneg (show 0 ≤ -a by omega) hb
    rw [Int.neg_mul] at h5 h6
    omega
  · have h5 := Int.mul_le_mul (show -a ≤ M by omega) (show -b ≤ K by omega) (by omega) hM
    have h6 := Int.mul_nonneg (show 0 ≤ -a by omega) (show 0 ≤ -b by omega)
    rw [Int.neg_mul_neg] at h5 h6
    omega

/-! ### the library -/
set_option maxHeartbeats 400000 in
theorem slicesMax_any (A : Option Addr) (c : Nat) (xs : List Int) (w : World) (hn : xs.length = 16) (h : Rd w w.heap.size A 16 c (ints xs)) :
    Calls Try.prog 43 #[.slice A 16 c] w fun e w' => e = .returned (.int .i64 (top xs)) ∧ w = w' := by
  have HN := Lib.hid hn
  obtain ⟨g, off, rfl⟩ := h.addr (by rw [ints_length, hn]; omega)
  have hc0 := h.cell (ints_a0 (s := xs) (k := 0) (by rw [hn]; omega))
  clear hn
  simp only [Nat.add_zero] at hc0
  go_enter Try.func43, Try.ntmps43
  go_wp2
  go_loop [3, 4] (fun m i => ∃ k : Nat, 1 ≤ k ∧ k ≤ 16 ∧ i = .int .i64 k ∧ m = .int .i64 (topTo xs k)) (fun _ i => 16 - (intOf i).toNat)
  case atStart => exact ⟨1, by omega, by omega, rfl, by rw [topTo_one]⟩
  case round =>
    obtain ⟨k, hk1, hk, rfl, rfl⟩ := hrel
    by_cases hlt : k < 16
    · have hck := h.cell (ints_a0 (s := xs) (k := k) (by rw [HN.out]; omega))
      have HS := Lib.hid (topTo_succ xs k)
      go_wp2
      all_goals
        go_round
        case rel => exact ⟨k + 1, by omega, by omega, by go_num, by rw [HS.out]⟩
        case measure => simp [intOf]; omega
    · obtain rfl : k = 16 := by omega
      go_wp2
      go_ret
      exact ⟨rfl, rfl⟩
set_option maxHeartbeats 400000 in
theorem slicesIndex_top (A : Option Addr) (c : Nat) (xs : List Int) (w : World) (hn : xs.length = 16) (h : Rd w w.heap.size A 16 c (ints xs)) :
    Calls Try.prog 44 #[.slice A 16 c, .int .i64 (top xs)] w fun e w' => e = .returned (.int .i64 (pk xs)) ∧ w = w' := by
  have HN := Lib.hid hn
  obtain ⟨g, off, rfl⟩ := h.addr (by rw [ints_length, hn]; omega)
  clear hn
  have hp := pk_lt xs
  go_enter Try.func44, Try.ntmps44
  go_wp2
  go_loop [8] (fun i => ∃ k : Nat, k ≤ pk xs ∧ i = .int .i64 k) (fun i => 16 - (intOf i).toNat)
  case atStart => exact ⟨0, by omega, rfl⟩
  case round =>
    obtain ⟨k, hk, rfl⟩ := hrel
    have hck := h.cell (ints_a0 (s := xs) (k := k) (by rw [HN.out]; omega))
    by_cases he : k = pk xs
    · subst he
      have hck2 : w.cell? ⟨g, off + pk xs, none⟩ = some (.int .i64 (top xs)) := hck
      clear hck
      go_wp2
      go_ret
      exact ⟨rfl, rfl⟩
    · have hlt := lt_top xs (j := k) (by omega)
      have hb1 : (top xs == at0 xs k) = false := by simp; omega
      go_wp2
      go_round
      case rel => exact ⟨k + 1, by omega, by go_num⟩
      case measure => simp [intOf]; omega
set_option maxHeartbeats 400000 in
theorem slicesEqual_any (A B : Option Addr) (c d : Nat) (xs ys : List Int) (w : World) (hn : xs.length = 16) (hm : ys.length = 16) (h : Rd w w.heap.size A 16 c (ints xs)) (h' : Rd w w.heap.size B 16 d (ints ys)) :
    Calls Try.prog 38 #[.slice A 16 c, .slice B 16 d] w fun e w' => e = .returned (.bool (decide (xs = ys))) ∧ Quiet w w' := by
  have HN := Lib.hid hn
  have HM := Lib.hid hm
  obtain ⟨g, off, rfl⟩ := h.addr (by rw [ints_length, hn]; omega)
  obtain ⟨g', off', rfl⟩ := h'.addr (by rw [ints_length, hm]; omega)
  clear hn hm
  go_enter Try.func38, Try.ntmps38
  go_wp2
  go_loopw [13] (fun i wr => ∃ k : Nat, k ≤ 16 ∧ i = .int .i64 k ∧ Hid (eqToI xs ys k) ∧ Quiet w wr) (fun i _ => 16 - (intOf i).toNat)
  case atStart => exact ⟨0, Nat.zero_le _, rfl, fun _ h => by omega, Quiet.refl _⟩
  case round =>
    obtain ⟨k, hk, rfl, hto, hq⟩ := hrel
    by_cases hlt : k < 16
    · obtain ⟨b, hb⟩ := at_of_lt (l := xs) (k := k) (by have := HN.out; omega)
      obtain ⟨e, he⟩ := at_of_lt (l := ys) (k := k) (by have := HM.out; omega)
      have hcb := (hq.cell _).trans (h.cell (ints_at' hb))
      have hce := (hq.cell _).trans (h'.cell (ints_at' he))
      have HB := Lib.hid hb
      have HE := Lib.hid he
      have h2 : (k : Int) < 16 := by omega
      have h3 : (0 : Int) ≤ (k : Int) := by omega
      clear hb he
      by_cases hbe : b = e
      · subst hbe
        go_wp2
        go_quiet (fail)
        go_wp2
        go_roundw
        case rel => exact ⟨k + 1, by omega, by go_num, eqToI_succ hto (by rw [HB.out, HE.out]), hq.drewN _⟩
        case measure => simp [intOf]; omega
      · have hbe' : (b == e) = false := by simpa using hbe
        have hbe2 : (b != e) = true := by simpa using hbe
        go_wp2
        go_quiet (fail)
        go_wp2
        go_ret
        exact ⟨ret_bool (by symm; simp; rintro rfl; have := HB.out; rw [HE.out] at this; simp at this; exact hbe this.symm), hq.drewN _⟩
    · go_wp2
      go_ret
      obtain rfl : k = 16 := by omega
      exact ⟨ret_bool (by symm; simp; exact eqToI_all hto HN.out HM.out), hq⟩
set_option maxHeartbeats 400000 in
theorem slicesClone_any (A : Option Addr) (n c : Nat) (xs : List Int) (w : World) (hn : xs.length = n) (h0 : 0 < n) (hz : n ≤ 1000) (h : Rd w w.heap.size A n c (ints xs)) :
    Calls Try.prog 29 #[.slice A n c] w (RetS w 3 n (ints xs)) := by
  obtain ⟨g, off, rfl⟩ := h.addr (by rw [ints_length, hn]; omega)
  have HL : Hid ((ints xs).length = n * 1) := by show _ = _; rw [ints_length, hn]; omega
  clear hn
  have q22 : ∀ (w : World) (a : Option Addr) (n c n' c' : Nat), (binOp .eql 23 (.slice a n c) (.slice none n' c')).run Try.prog w = .ok (.bool a.isNone) w := fun w a n c n' c' => Lib.run_eql_slice_nil w _ _ a n c n' c' Try.underlying23
  go_enter Try.func29, Try.ntmps29
  go_wp2_with (at_builtin; refine wpList_appendS (w := w.alloc (.cells #[] 3)) rfl _ _ _ rfl w.heap.size 3 (.int .i64 0) 1 8 I.infoInt Try.underlying23 rfl (by omega) _ 0 [] rfl (World.ownsRow_lit w #[] 0 (Nat.le_refl _) (by simp [maxLen]) rfl) g off n c (ints xs) rfl HL.out ((h.alloc (Nat.le_refl _) _).mono (by simp)) (ints_one xs) (by omega) (by omega) (by simp) ?_; intro v' w' hs' he')
  go_ret
  simp only [Nat.zero_add, List.nil_append] at hs'
  exact RetS.of_own hs' (he' w ((Ext.refl w).alloc _) (Nat.le_refl _))

/-! ### the program -/
set_option maxHeartbeats 400000 in
theorem addTimes_any (A B : Option Addr) (c d : Nat) (xs ys : List Int) (t : Int) (w : World) (hn : xs.length = 16) (hm : ys.length = 16) (hb1 : IB 10000000000000 xs) (hb2 : ∀ k, -10000000000000 ≤ t * at0 ys k ∧ t * at0 ys k ≤ 10000000000000)
    (h : Rd w w.heap.size A 16 c (ints xs)) (h' : Rd w w.heap.size B 16 d (ints ys)) :
    Calls Try.prog 37 #[.slice A 16 c, .slice B 16 d, .int .i64 t] w (RetS w 3 16 (ints (addL xs ys t))) := by
  have HN := Lib.hid hn
  have HM := Lib.hid hm
  have HB1 := Lib.hid hb1
  have HB2 := Lib.hid hb2
  obtain ⟨g, off, rfl⟩ := h.addr (by rw [ints_length, hn]; omega)
  obtain ⟨g', off', rfl⟩ := h'.addr (by rw [ints_length, hm]; omega)
  have hmk := makeInts16
  have HL : Hid ((addL xs ys t).length = zero16.length) := by show _ = _; rw [addL_length, zero16_length]
  clear hn hm hb1 hb2
  go_enter Try.func37, Try.ntmps37
  go_wp2
  clear hmk
  go_loopw [14] (fun i wr => ∃ k : Nat, k ≤ 16 ∧ i = .int .i64 k ∧ Sl wr w.heap.size (w.heap.size + 1) 3 (some ⟨w.heap.size, 0, none⟩) 16 16 (ints (over (addL xs ys t) zero16 k)) ∧ Ext w wr) (fun i _ => 16 - (intOf i).toNat)
  case atStart => exact ⟨0, Nat.zero_le _, rfl, by rw [over_zero, ← zero16_rep, ← ints_rep]; exact Sl.made w 3 _ 16, (Ext.refl w).alloc _⟩
  case round =>
    obtain ⟨k, hk, rfl, hs, he⟩ := hrel
    by_cases hlt : k < 16
    · have hc1 := (h.below he.below).cell (ints_a0 (s := xs) (k := k) (by rw [HN.out]; omega))
      have hc2 := (h'.below he.below).cell (ints_a0 (s := ys) (k := k) (by rw [HM.out]; omega))
      obtain ⟨b', hb'⟩ := at_of_lt (l := over (addL xs ys t) zero16 k) (k := k) (by rw [over_length HL.out, zero16_length]; omega)
      have hco := hs.cell (ints_at' hb')
      have hfo := hs.frozen (by rw [ints_length, over_length HL.out, zero16_length]; omega) (0 + k)
      have R := Lib.hid (hs.set_ k (.int .i64 (at0 xs k + t * at0 ys k)))
      rw [ints_set, over_set (addL_at hlt) HL.out] at R
      simp only [Nat.zero_add] at hco hfo R
      obtain ⟨q1, q2⟩ := HB1.out k
      obtain ⟨q3, q4⟩ := HB2.out k
      have h2 : (k : Int) < 16 := by omega
      have h3 : (0 : Int) ≤ (k : Int) := by omega
      have f1 : IntKind.i64.wrap (t * at0 ys k) = t * at0 ys k := IntWalk.i64_in _ (by omega)
      have f2 : IntKind.i64.wrap (at0 xs k + t * at0 ys k) = at0 xs k + t * at0 ys k := IntWalk.i64_in _ (by omega)
      have n1 : g ≠ w.heap.size := by have := h.blk (by rw [ints_length, HN.out]; omega); omega
      have n2 : g' ≠ w.heap.size := by have := h'.blk (by rw [ints_length, HM.out]; omega); omega
      clear hb' hs
      go_wp2
      go_region_held3 (fun w' => w'.cell? ⟨g, off + k, none⟩ = some (.int .i64 (at0 xs k)) ∧ w'.cell? ⟨g', off' + k, none⟩ = some (.int .i64 (at0 ys k))) (first | exact ⟨hc1, hc2⟩ | exact ⟨cell_far (Ne.symm n1) hc1, cell_far (Ne.symm n2) hc2⟩) (fail)
      clear f1 f2
      go_wp2
      go_roundw
      case rel => exact ⟨k + 1, by omega, by go_num, R.out, (he.setCell (Nat.le_refl _) _).drew⟩
      case measure => simp [intOf]; omega
    · go_wp2
      go_ret
      obtain rfl : k = 16 := by omega
      rw [over_end (n := 16) (addL_length _ _ _) zero16_length] at hs
      exact RetS.mk' rfl rfl hs (Nat.le_refl _) he
set_option maxHeartbeats 400000 in
theorem shifted_any (A : Option Addr) (c : Nat) (xs : List Int) (a b p : Nat) (w : World) (hn : xs.length = 16) (ha : a < 4) (hb : b < 4) (hp : p = 4 * b + a) (h : Rd w w.heap.size A 16 c (ints xs)) :
    Calls Try.prog 39 #[.slice A 16 c, .int .i64 a, .int .i64 b] w (RetS w 3 16 (ints (shL xs p))) := by
  have HN := Lib.hid hn
  have HP := Lib.hid hp
  obtain ⟨g, off, rfl⟩ := h.addr (by rw [ints_length, hn]; omega)
  have hmk := makeInts16
  clear hn hp
  go_enter Try.func39, Try.ntmps39
  go_wp2
  clear hmk
  go_loopw [15] (fun i wr => ∃ k : Nat, k ≤ 16 ∧ i = .int .i64 k ∧ Sl wr w.heap.size (w.heap.size + 1) 3 (some ⟨w.heap.size, 0, none⟩) 16 16 (ints (shTo xs p k)) ∧ Ext w wr) (fun i _ => 16 - (intOf i).toNat)
  case atStart => exact ⟨0, Nat.zero_le _, rfl, by show Sl _ _ _ _ _ _ _ (ints zero16); rw [← zero16_rep, ← ints_rep]; exact Sl.made w 3 _ 16, (Ext.refl w).alloc _⟩
  case round =>
    obtain ⟨k, hk, rfl, hs, he⟩ := hrel
    by_cases hlt : k < 16
    · have hc1 := (h.below he.below).cell (ints_a0 (s := xs) (k := k) (by rw [HN.out]; omega))
      have hql := cadd_lt k p
      obtain ⟨b', hb'⟩ := at_of_lt (l := shTo xs p k) (k := cadd k p) (by rw [shTo_length]; omega)
      have hco := hs.cell (ints_at' hb')
      have hfo := hs.frozen (by rw [ints_length, shTo_length]; omega) (0 + cadd k p)
      have R := Lib.hid (hs.set_ (cadd k p) (.int .i64 (at0 xs k)))
      rw [ints_set] at R
      simp only [Nat.zero_add] at hco hfo R
      have HQ : Hid (4 * (((k : Int) / 4 + (b : Int)) % 4) + ((k : Int) % 4 + (a : Int)) % 4 = (cadd k p : Int)) := by have := HP.out; unfold cadd; show _ = _; omega
      clear hb' hs
      go_wp2_with (go_at_call 50; refine (cellAt_eq _ _ _ _ HQ.out).mono ?_; rintro e w' ⟨rfl, rfl⟩)
      go_roundw
      case rel => exact ⟨k + 1, by omega, by go_num, R.out, he.setCell (Nat.le_refl _) _⟩
      case measure => simp [intOf]; omega
    · go_wp2
      go_ret
      obtain rfl : k = 16 := by omega
      rw [shTo_end xs (by have := HP.out; omega)] at hs
      exact RetS.mk' rfl rfl hs (Nat.le_refl _) he
theorem foldTo_IB {a b : List Int} (ha : IB 100000 a) (hb : IB 100000 b) {n : Nat} (hn : n ≤ 16) : IB 160000000000 (foldTo a b n) := by
  intro k
  by_cases hk : k < 16
  · unfold foldTo
    rw [at0_mk16 hk]
    have h1 : ∀ j, j < n → -10000000000 ≤ at0 a j * at0 b (csub k j) ∧ at0 a j * at0 b (csub k j) ≤ 10000000000 := by
      intro j _
      have := mul_le_of (ha j).1 (ha j).2 (hb (csub k j)).1 (hb (csub k j)).2
      omega
    have := sumTo_le h1
    omega
  · have : at0 (foldTo a b n) k = 0 := by simp [at0, List.getD, List.getElem?_eq_none (show (foldTo a b n).length ≤ k by rw [foldTo_length]; omega)]
    omega
theorem shL_IB {a : List Int} {M : Int} (hM : 0 ≤ M) (ha : IB M a) (p : Nat) : IB M (shL a p) := by
  intro k
  by_cases hk : k < 16
  · unfold shL
    rw [at0_mk16 hk]
    exact ha _
  · have : at0 (shL a p) k = 0 := by simp [at0, List.getD, List.getElem?_eq_none (show (shL a p).length ≤ k by rw [shL_length]; omega)]
    omega
set_option maxHeartbeats 400000 in
theorem fold_any (A B : Option Addr) (c d : Nat) (xs ys : List Int) (w : World) (hn : xs.length = 16) (hm : ys.length = 16) (hb1 : IB 100000 xs) (hb2 : IB 100000 ys)
    (h : Rd w w.heap.size A 16 c (ints xs)) (h' : Rd w w.heap.size B 16 d (ints ys)) :
    Calls Try.prog 35 #[.slice A 16 c, .slice B 16 d] w (RetS w 3 16 (ints (foldL xs ys))) := by
  have HN := Lib.hid hn
  have HM := Lib.hid hm
  have HB1 := Lib.hid hb1
  have HB2 := Lib.hid hb2
  obtain ⟨g, off, rfl⟩ := h.addr (by rw [ints_length, hn]; omega)
  have hmk := makeInts16
  clear hn hm hb1 hb2
  go_enter Try.func35, Try.ntmps35
  go_wp2
  clear hmk
  go_loopw [5, 13] (fun v i wr => ∃ k : Nat, k ≤ 16 ∧ i = .int .i64 k ∧ ∃ (O : Option Addr) (co : Nat), v = .slice O 16 co ∧ Sl wr w.heap.size wr.heap.size 3 O 16 co (ints (foldTo xs ys k)) ∧ Ext w wr) (fun _ i _ => 16 - (intOf i).toNat)
  case atStart => exact ⟨0, Nat.zero_le _, rfl, _, _, rfl, by rw [foldTo_zero, ← zero16_rep, ← ints_rep]; exact (Sl.made w 3 _ 16).full, (Ext.refl w).alloc _⟩
  case round =>
    obtain ⟨k, hk, rfl, O, co, rfl, hs, he⟩ := hrel
    by_cases hlt : k < 16
    · have hc1 := (h.below he.below).cell (ints_a0 (s := xs) (k := k) (by rw [HN.out]; omega))
      have e1 : (k : Int) % 4 = ((k % 4 : Nat) : Int) := by omega
      have e2 : (k : Int) / 4 = ((k / 4 : Nat) : Int) := by omega
      have HE1 := Lib.hid e1
      have HE2 := Lib.hid e2
      clear e1 e2
      go_wp2_with fail
      rw [HE1.out, HE2.out]
      refine (shifted_any B d ys (k % 4) (k / 4) k _ HM.out (by omega) (by omega) (by omega) (h'.ext he)).mono ?_
      rintro e w1 ⟨A1, c1, rfl, s1, x1⟩
      go_wp2_with fail
      refine (addTimes_any O A1 co c1 (foldTo xs ys k) (shL ys k) (at0 xs k) _ (foldTo_length _ _ _) (shL_length _ _) (fun j => by have := foldTo_IB HB1.out HB2.out hk j; omega) (fun j => by have a := HB1.out k; have b := shL_IB (by omega) HB2.out k j; have := mul_le_of a.1 a.2 b.1 b.2; omega) (hs.ext x1).rd s1.rd).mono ?_
      rintro e w2 ⟨A2, c2, rfl, s2, x2⟩
      go_wp2
      go_roundw
      case rel => exact ⟨k + 1, by omega, by go_num, _, _, rfl, by rw [foldTo_succ]; exact s2.mono (he.trans x1).size (Nat.le_refl _), (he.trans x1).trans x2⟩
      case measure => simp [intOf]; omega
    · go_wp2
      go_ret
      obtain rfl : k = 16 := by omega
      exact RetS.mk' rfl rfl hs (Nat.le_refl _) he
end Go.Proofs.Ytbafniaohjjacab
