/-
  Contracts over skies of the reference: l24Peak, SkyShift, SkyAdd, l21Fold.
-/
import Derived.Test.YtbafniaohjjacabSkyFns
import Derived.Test.YtbafniaohjjacabStep
import Derived.Test.YtbafniaohjjacabStruct
namespace Go.Proofs.Ytbafniaohjjacab
open Go.RowKit

set_option maxHeartbeats 400000 in
theorem l24Peak_any (A : Option Addr) (c : Nat) (xs : List Int) (w : World) (hn : xs.length = 16) (h : Rd w w.heap.size A 16 c (ints xs)) :
    Calls Try.prog 40 #[.slice A 16 c] w fun e w' => e = .returned (.int .i64 (pk xs)) ∧ Quiet w w' := by
  have HN := Lib.hid hn
  obtain ⟨g, off, rfl⟩ := h.addr (by rw [ints_length, hn]; omega)
  clear hn
  go_enter Try.func40, Try.ntmps40
  go_wp2
  go_loopw [3, 4] (fun b i wr => ∃ k : Nat, k ≤ 16 ∧ i = .int .i64 k ∧ b = .int .i64 (pkTo xs k : Nat) ∧ Quiet w wr) (fun _ i _ => 16 - (intOf i).toNat)
  case atStart => exact ⟨0, Nat.zero_le _, rfl, rfl, Quiet.refl _⟩
  case round =>
    obtain ⟨k, hk, rfl, rfl, hq⟩ := hrel
    by_cases hlt : k < 16
    · have hp : pkTo xs k < 16 := by
        by_cases h0 : k = 0
        · subst h0; simp [pkTo]
        · have := pkTo_lt xs k (by omega); omega
      have hc1 := (hq.cell _).trans (h.cell (ints_a0 (s := xs) (k := k) (by rw [HN.out]; omega)))
      have hc2 := (hq.cell _).trans (h.cell (ints_a0 (s := xs) (k := pkTo xs k) (by rw [HN.out]; omega)))
      have h2 : (k : Int) < 16 := by omega
      have h3 : (0 : Int) ≤ (k : Int) := by omega
      have h4 : ((pkTo xs k : Nat) : Int) < 16 := by omega
      have h5 : (0 : Int) ≤ ((pkTo xs k : Nat) : Int) := by omega
      by_cases hgt : at0 xs (pkTo xs k) < at0 xs k
      · have HS : Hid (pkTo xs (k + 1) = k) := by show _ = _; simp [pkTo, hgt]
        go_wp2
        go_quiet (fail)
        go_wp2
        go_roundw
        case rel => exact ⟨k + 1, by omega, by go_num, by rw [HS.out], hq.drewN _⟩
        case measure => simp [intOf]; omega
      · have HS : Hid (pkTo xs (k + 1) = pkTo xs k) := by show _ = _; simp [pkTo, hgt]
        have hd : decide (at0 xs (pkTo xs k) < at0 xs k) = false := by simpa using hgt
        go_wp2
        go_quiet (fail)
        go_wp2
        go_roundw
        case rel => exact ⟨k + 1, by omega, by go_num, by rw [HS.out], hq.drewN _⟩
        case measure => simp [intOf]; omega
    · go_wp2
      go_ret
      obtain rfl : k = 16 := by omega
      exact ⟨rfl, hq⟩
set_option maxHeartbeats 400000 in
theorem specSkyShift_any (A : Option Addr) (c : Nat) (xs : List Int) (a b p : Nat) (w : World) (hv : svB xs = true) (ha : a < 4) (hb : b < 4) (hp : p = 4 * b + a) (h : Rd w w.heap.size A 16 c (ints xs)) :
    Calls Try.prog 41 #[.slice A 16 c, .int .i64 a, .int .i64 b] w (RetSB w 3 16 (ints (shL xs p)) true) := by
  have hn := svB_16 hv
  have HC := Lib.hid (specSkyValid_any A 16 c xs w hn (by omega) h)
  rw [hv] at HC
  have HI1 := Lib.hid (l6In_any a 0 3 w)
  have HI2 := Lib.hid (l6In_any b 0 3 w)
  have d1 : decide ((0 : Int) ≤ (a : Int) ∧ (a : Int) ≤ 3) = true := by simp; omega
  have d2 : decide ((0 : Int) ≤ (b : Int) ∧ (b : Int) ≤ 3) = true := by simp; omega
  rw [d1] at HI1
  rw [d2] at HI2
  have HN := Lib.hid hn
  have HP := Lib.hid hp
  obtain ⟨g, off, rfl⟩ := h.addr (by rw [ints_length, hn]; omega)
  have hmk := makeInts16
  clear hn hp hv d1 d2
  go_enter Try.func41, Try.ntmps41
  go_wp2_with fail
  refine HC.out.mono ?_
  rintro e w' ⟨rfl, rfl⟩
  go_wp2_with fail
  refine HI1.out.mono ?_
  rintro e w' ⟨rfl, rfl⟩
  go_wp2_with fail
  refine HI2.out.mono ?_
  rintro e w' ⟨rfl, rfl⟩
  go_wp2_with (go_at_call 47; refine (l21Cells_any _).mono ?_; rintro e w' ⟨rfl, rfl⟩)
  clear hmk
  go_loopw [9] (fun i wr => ∃ k : Nat, k ≤ 16 ∧ i = .int .i64 k ∧ Sl wr w.heap.size (w.heap.size + 1) 3 (some ⟨w.heap.size, 0, none⟩) 16 16 (ints (shTo xs p k)) ∧ Ext w wr) (fun i _ => 16 - (intOf i).toNat)
  case atStart => exact ⟨0, Nat.zero_le _, rfl, by show Sl _ _ _ _ _ _ _ (ints zero16); rw [← zero16_rep, ← ints_rep]; exact Sl.made w 3 _ 16, (Ext.refl w).alloc _⟩
  case round =>
    obtain ⟨k, hk, rfl, hs, he⟩ := hrel
    by_cases hlt : k < 16
    · have hc1 := (h.below he.below).cell (ints_a0 (s := xs) (k := k) (by rw [HN.out]; omega))
      have hql := cadd_lt k p
      obtain ⟨b', hb'⟩ := at_of_lt (l := shTo xs p k) (k := cadd k p) (by rw [shTo_length]; omega)
      have hco := hs.cell (ints_at' hb')
      have hfo := hs.frozen (by rw [ints_length, shTo_length]; omega) (0 + cadd k p)
      have R := Lib.hid (hs.set_ (cadd k p) (.int .i64 (at0 xs k)))
      rw [ints_set] at R
      simp only [Nat.zero_add] at hco hfo R
      have HQ : Hid (4 * (((k : Int) / 4 + (b : Int)) % 4) + ((k : Int) % 4 + (a : Int)) % 4 = (cadd k p : Int)) := by have := HP.out; unfold cadd; show _ = _; omega
      have h2 : (k : Int) < 16 := by omega
      have h3 : (0 : Int) ≤ (k : Int) := by omega
      have h4 : (0 : Int) ≤ (cadd k p : Int) := by omega
      have h5 : (cadd k p : Int) < 16 := by omega
      have f1 : (k : Int).tmod 4 = (k : Int) % 4 := tmod_nn (by omega)
      have f2 : IntKind.i64.wrap ((k : Int) / 4) = (k : Int) / 4 := IntWalk.i64_in _ (by omega)
      have f3 : IntKind.i64.wrap ((k : Int) % 4 + (a : Int)) = (k : Int) % 4 + (a : Int) := IntWalk.i64_in _ (by omega)
      have f4 : IntKind.i64.wrap ((k : Int) / 4 + (b : Int)) = (k : Int) / 4 + (b : Int) := IntWalk.i64_in _ (by omega)
      have n1 : g ≠ w.heap.size := by have := h.blk (by rw [ints_length, HN.out]; omega); omega
      clear hb' hs
      go_wp2_with (go_at_call 47; refine (l21Cells_any _).mono ?_; rintro e w' ⟨rfl, rfl⟩)
      go_region_held3 (fun w' => w'.cell? ⟨g, off + k, none⟩ = some (.int .i64 (at0 xs k))) (first | exact hc1 | exact cell_far (Ne.symm n1) hc1)
          (first | (go_at_call 51; refine (l21At_eq _ _ _ _ HQ.out).mono ?_; rintro e w' ⟨rfl, rfl⟩))
      clear f1 f2 f3 f4
      go_wp2
      go_roundw
      case rel => exact ⟨k + 1, by omega, by go_num, R.out, (he.setCell (Nat.le_refl _) _).drew⟩
      case measure => simp [intOf]; omega
    · go_wp2_with (go_at_call 47; refine (l21Cells_any _).mono ?_; rintro e w' ⟨rfl, rfl⟩)
      go_ret2
      obtain rfl : k = 16 := by omega
      rw [shTo_end xs (by have := HP.out; omega)] at hs
      exact RetSB.mk' rfl rfl hs (Nat.le_refl _) he
set_option maxHeartbeats 1000000 in
/-- SkyAdd of the reference, of two skies and a number in range -/
theorem specSkyAdd_own (A B : Option Addr) (c d : Nat) (xs ys : List Int) (t : Int) (w : World) (hs : saB xs ys t = true) (h : Rd w w.heap.size A 16 c (ints xs)) (h' : Rd w w.heap.size B 16 d (ints ys)) :
    Calls Try.prog 42 #[.slice A 16 c, .slice B 16 d, .int .i64 t] w (RetSBO w 3 (skyOr (addL xs ys t)) (svB (addL xs ys t))) := by
  have hp := hs
  simp only [saB, Bool.and_eq_true] at hp
  obtain ⟨⟨hv, hv'⟩, hd⟩ := hp
  have hn := svB_16 hv
  have hm := svB_16 hv'
  have HC := Lib.hid (specSkyValid_any A 16 c xs (w.alloc (.cells #[] 3)) hn (by omega) ((h.alloc (Nat.le_refl _) _).mono (by simp)))
  have HD := Lib.hid (specSkyValid_any B 16 d ys (w.alloc (.cells #[] 3)) hm (by omega) ((h'.alloc (Nat.le_refl _) _).mono (by simp)))
  have HI := Lib.hid (l6In_any t (-100000) 100000 (w.alloc (.cells #[] 3)))
  rw [hv] at HC
  rw [hv'] at HD
  rw [hd] at HI
  have ht : -100000 ≤ t ∧ t ≤ 100000 := by simpa using hd
  have HB1 := Lib.hid (svB_IB hv)
  have HB2 : Hid (∀ k, -10000000000 ≤ t * at0 ys k ∧ t * at0 ys k ≤ 10000000000) := fun k => by have a := svB_IB hv' k; have := mul_le_of ht.1 ht.2 a.1 a.2; omega
  have HN := Lib.hid hn
  have HM := Lib.hid hm
  obtain ⟨g, off, rfl⟩ := h.addr (by rw [ints_length, hn]; omega)
  obtain ⟨g', off', rfl⟩ := h'.addr (by rw [ints_length, hm]; omega)
  clear hn hm hv hv' hs hd ht
  go_enter Try.func42, Try.ntmps42
  go_wp2_with fail
  refine HC.out.mono ?_
  rintro e w' ⟨rfl, rfl⟩
  go_wp2_with fail
  refine HD.out.mono ?_
  rintro e w' ⟨rfl, rfl⟩
  go_wp2_with fail
  refine HI.out.mono ?_
  rintro e w' ⟨rfl, rfl⟩
  clear HC HD HI
  go_wp2
  go_loopw [8, 9] (fun v i wr => ∃ k : Nat, k ≤ 16 ∧ i = .int .i64 k ∧ wr.ownsRow w.heap.size 3 1 v k (ints ((addL xs ys t).take k)) ∧ Ext w wr) (fun _ i _ => 16 - (intOf i).toNat)
  case atStart => exact ⟨0, Nat.zero_le _, rfl, World.ownsRow_lit w #[] 0 (Nat.le_refl _) (by simp [maxLen]) rfl, (Ext.refl _).alloc _⟩
  case round =>
    obtain ⟨k, hk, rfl, hs, he⟩ := hrel
    by_cases hlt : k < 16
    · have hc1 := (h.below he.below).cell (ints_a0 (s := xs) (k := k) (by rw [HN.out]; omega))
      have hc2 := (h'.below he.below).cell (ints_a0 (s := ys) (k := k) (by rw [HM.out]; omega))
      have HS := Lib.hid (take_snoc_of (addL_at (a := xs) (b := ys) (t := t) hlt))
      have hsz := he.size
      obtain ⟨q1, q2⟩ := HB1.out k
      obtain ⟨q3, q4⟩ := HB2.out k
      have h2 : (k : Int) < 16 := by omega
      have h3 : (0 : Int) ≤ (k : Int) := by omega
      have f1 : IntKind.i64.wrap (t * at0 ys k) = t * at0 ys k := IntWalk.i64_in _ (by omega)
      have f2 : IntKind.i64.wrap (at0 xs k + t * at0 ys k) = at0 xs k + t * at0 ys k := IntWalk.i64_in _ (by omega)
      have g1 : g < wr.heap.size := by have := h.blk (by rw [ints_length, HN.out]; omega); omega
      have g2 : g' < wr.heap.size := by have := h'.blk (by rw [ints_length, HM.out]; omega); omega
      go_wp2_with (go_at_call 47; refine (l21Cells_any _).mono ?_; rintro e w' ⟨rfl, rfl⟩)
      go_region_held3 (fun w' => w'.cell? ⟨g, off + k, none⟩ = some (.int .i64 (at0 xs k)) ∧ w'.cell? ⟨g', off' + k, none⟩ = some (.int .i64 (at0 ys k)))
        (first | exact ⟨hc1, hc2⟩ | exact ⟨(World.cell?_alloc_lt _ _ _ g1).trans hc1, (World.cell?_alloc_lt _ _ _ g2).trans hc2⟩ | exact ⟨(h.below (he' w ((he.alloc _).drew) (Nat.le_refl _)).below).cell (ints_a0 (by rw [HN.out]; omega)), (h'.below (he' w ((he.alloc _).drew) (Nat.le_refl _)).below).cell (ints_a0 (by rw [HM.out]; omega))⟩)
        ((refine step_app (by rfl) _ _ _ (by rfl) w.heap.size 3 (.int .i64 0) 1 8 I.infoInt Try.underlying23 rfl (by omega) _ k _ (by rfl) ((hs.alloc _).drew) wr.heap.size [.int .i64 (at0 xs k + t * at0 ys k)] (by rfl) (by rfl) (heap_alloc_new wr _) (by simp [Value.oneCell']) (by omega) (by omega) (by simp; omega) ?_; intro v' w' hs' he'))
      clear f1 f2
      go_wp2
      go_roundw
      case rel => exact ⟨k + 1, by omega, by go_num, by rw [HS.out, ← ints_append]; exact hs', he' w ((he.alloc _).drew) (Nat.le_refl _)⟩
      case measure => simp [intOf]; omega
    · obtain rfl : k = 16 := by omega
      rw [List.take_of_length_le (by rw [addL_length]; omega)] at hs
      obtain ⟨A1, c1, rfl, s1⟩ := Sl.of_own hs
      have HV := Lib.hid (specSkyValid_any A1 16 c1 (addL xs ys t) wr (addL_length _ _ _) (by omega) s1.rd)
      rcases hw : svB (addL xs ys t) with _ | _
      · rw [hw] at HV
        have HE := Lib.hid (skyOr_no hw)
        have HW := Lib.hid hw
        clear hw
        go_wp2_with (first
          | (go_at_call 47; refine (l21Cells_any _).mono ?_; rintro e w' ⟨rfl, rfl⟩)
          | (go_at_call 31; refine HV.out.mono ?_; rintro e w' ⟨rfl, rfl⟩))
        go_ret2
        rw [HE.out, HW.out]
        exact ⟨_, _, rfl, Sl.nil (Nat.zero_le _), he.alloc _, fun h => by cases h⟩
      · rw [hw] at HV
        have HE := Lib.hid (skyOr_yes hw)
        have HW := Lib.hid hw
        clear hw
        go_wp2_with (first
          | (go_at_call 47; refine (l21Cells_any _).mono ?_; rintro e w' ⟨rfl, rfl⟩)
          | (go_at_call 31; refine HV.out.mono ?_; rintro e w' ⟨rfl, rfl⟩))
        go_ret2
        rw [HE.out, HW.out]
        exact RetSBO.mk' (addL_length _ _ _).symm s1 (Nat.le_refl _) he hs (Nat.le_refl _)
theorem specSkyAdd_yes (A B : Option Addr) (c d : Nat) (xs ys : List Int) (t : Int) (w : World) (hs : saB xs ys t = true) (h : Rd w w.heap.size A 16 c (ints xs)) (h' : Rd w w.heap.size B 16 d (ints ys)) :
    Calls Try.prog 42 #[.slice A 16 c, .slice B 16 d, .int .i64 t] w (RetSB w 3 (skyOr (addL xs ys t)).length (ints (skyOr (addL xs ys t))) (svB (addL xs ys t))) := (specSkyAdd_own A B c d xs ys t w hs h h').mono fun _ _ h => h.sb
end Go.Proofs.Ytbafniaohjjacab
