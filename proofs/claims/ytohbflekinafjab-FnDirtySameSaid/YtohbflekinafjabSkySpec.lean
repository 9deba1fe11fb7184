/-
  Contracts over skies of the reference: l24Peak, SkyShift, SkyAdd, l21Fold.
-/
import Derived.Test.YtohbflekinafjabSkyFns
import Derived.Test.YtohbflekinafjabStep
import Derived.Test.YtohbflekinafjabStruct
namespace Go.Proofs.Ytohbflekinafjab
open Go.RowKit

set_option maxHeartbeats 1000000 in
/-- SkyAdd of the reference, of two skies and a number in range -/
theorem specSkyAdd_own (A B : Option Addr) (c d : Nat) (xs ys : List Int) (t : Int) (w : World) (hs : saB xs ys t = true) (h : Rd w w.heap.size A 16 c (ints xs)) (h' : Rd w w.heap.size B 16 d (ints ys)) :
    Calls Try.prog 44 #[.slice A 16 c, .slice B 16 d, .int .i64 t] w (RetSBO w 3 (skyOr (addL xs ys t)) (svB (addL xs ys t))) := by
  have hp := hs
  simp only [saB, Bool.and_eq_true] at hp
  obtain ⟨⟨hv, hv'⟩, hd⟩ := hp
  have hn := svB_16 hv
  have hm := svB_16 hv'
  have HC := Lib.hid (specSkyValid_any A 16 c xs (w.alloc (.cells #[] 3)) hn (by omega) ((h.alloc (Nat.le_refl _) _).mono (by simp)))
  have HD := Lib.hid (specSkyValid_any B 16 d ys (w.alloc (.cells #[] 3)) hm (by omega) ((h'.alloc (Nat.le_refl _) _).mono (by simp)))
  have HI := Lib.hid (l6In_any t (-100000) 100000 (w.alloc (.cells #[] 3)))
  rw [hv] at HC
  rw [hv'] at HD
  rw [hd] at HI
  have ht : -100000 ≤ t ∧ t ≤ 100000 := by simpa using hd
  have HB1 := Lib.hid (svB_IB hv)
  have HB2 : Hid (∀ k, -10000000000 ≤ t * at0 ys k ∧ t * at0 ys k ≤ 10000000000) := fun k => by have a := svB_IB hv' k; have := mul_le_of ht.1 ht.2 a.1 a.2; omega
  have HN := Lib.hid hn
  have HM := Lib.hid hm
  obtain ⟨g, off, rfl⟩ := h.addr (by rw [ints_length, hn]; omega)
  obtain ⟨g', off', rfl⟩ := h'.addr (by rw [ints_length, hm]; omega)
  clear hn hm hv hv' hs hd ht
  go_enter Try.func44, Try.ntmps44
  go_wp2_with fail
  refine HC.out.mono ?_
  rintro e w' ⟨rfl, rfl⟩
  go_wp2_with fail
  refine HD.out.mono ?_
  rintro e w' ⟨rfl, rfl⟩
  go_wp2_with fail
  refine HI.out.mono ?_
  rintro e w' ⟨rfl, rfl⟩
  clear HC HD HI
  go_wp2
  go_loopw [8, 9] (fun v i wr => ∃ k : Nat, k ≤ 16 ∧ i = .int .i64 k ∧ wr.ownsRow w.heap.size 3 1 v k (ints ((addL xs ys t).take k)) ∧ Ext w wr) (fun _ i _ => 16 - (intOf i).toNat)
  case atStart => exact ⟨0, Nat.zero_le _, rfl, World.ownsRow_lit w #[] 0 (Nat.le_refl _) (by simp [maxLen]) rfl, (Ext.refl _).alloc _⟩
  case round =>
    obtain ⟨k, hk, rfl, hs, he⟩ := hrel
    by_cases hlt : k < 16
    · have hc1 := (h.below he.below).cell (ints_a0 (s := xs) (k := k) (by rw [HN.out]; omega))
      have hc2 := (h'.below he.below).cell (ints_a0 (s := ys) (k := k) (by rw [HM.out]; omega))
      have HS := Lib.hid (take_snoc_of (addL_at (a := xs) (b := ys) (t := t) hlt))
      have hsz := he.size
      obtain ⟨q1, q2⟩ := HB1.out k
      obtain ⟨q3, q4⟩ := HB2.out k
      have h2 : (k : Int) < 16 := by omega
      have h3 : (0 : Int) ≤ (k : Int) := by omega
      have f1 : IntKind.i64.wrap (t * at0 ys k) = t * at0 ys k := IntWalk.i64_in _ (by omega)
      have f2 : IntKind.i64.wrap (at0 xs k + t * at0 ys k) = at0 xs k + t * at0 ys k := IntWalk.i64_in _ (by omega)
      have g1 : g < wr.heap.size := by have := h.blk (by rw [ints_length, HN.out]; omega); omega
      have g2 : g' < wr.heap.size := by have := h'.blk (by rw [ints_length, HM.out]; omega); omega
      go_wp2_with (go_at_call 34; refine (l21Cells_any _).mono ?_; rintro e w' ⟨rfl, rfl⟩)
      go_region_held3 (fun w' => w'.cell? ⟨g, off + k, none⟩ = some (.int .i64 (at0 xs k)) ∧ w'.cell? ⟨g', off' + k, none⟩ = some (.int .i64 (at0 ys k)))
        (first | exact ⟨hc1, hc2⟩ | exact ⟨(World.cell?_alloc_lt _ _ _ g1).trans hc1, (World.cell?_alloc_lt _ _ _ g2).trans hc2⟩ | exact ⟨(h.below (he' w ((he.alloc _).drew) (Nat.le_refl _)).below).cell (ints_a0 (by rw [HN.out]; omega)), (h'.below (he' w ((he.alloc _).drew) (Nat.le_refl _)).below).cell (ints_a0 (by rw [HM.out]; omega))⟩)
        ((refine step_app (by rfl) _ _ _ (by rfl) w.heap.size 3 (.int .i64 0) 1 8 I.infoInt Try.underlying23 rfl (by omega) _ k _ (by rfl) ((hs.alloc _).drew) wr.heap.size [.int .i64 (at0 xs k + t * at0 ys k)] (by rfl) (by rfl) (heap_alloc_new wr _) (by simp [Value.oneCell']) (by omega) (by omega) (by simp; omega) ?_; intro v' w' hs' he'))
      clear f1 f2
      go_wp2
      go_roundw
      case rel => exact ⟨k + 1, by omega, by go_num, by rw [HS.out, ← ints_append]; exact hs', he' w ((he.alloc _).drew) (Nat.le_refl _)⟩
      case measure => simp [intOf]; omega
    · obtain rfl : k = 16 := by omega
      rw [List.take_of_length_le (by rw [addL_length]; omega)] at hs
      obtain ⟨A1, c1, rfl, s1⟩ := Sl.of_own hs
      have HV := Lib.hid (specSkyValid_any A1 16 c1 (addL xs ys t) wr (addL_length _ _ _) (by omega) s1.rd)
      rcases hw : svB (addL xs ys t) with _ | _
      · rw [hw] at HV
        have HE := Lib.hid (skyOr_no hw)
        have HW := Lib.hid hw
        clear hw
        go_wp2_with (first
          | (go_at_call 34; refine (l21Cells_any _).mono ?_; rintro e w' ⟨rfl, rfl⟩)
          | (go_at_call 37; refine HV.out.mono ?_; rintro e w' ⟨rfl, rfl⟩))
        go_ret2
        rw [HE.out, HW.out]
        exact ⟨_, _, rfl, Sl.nil (Nat.zero_le _), he.alloc _, fun h => by cases h⟩
      · rw [hw] at HV
        have HE := Lib.hid (skyOr_yes hw)
        have HW := Lib.hid hw
        clear hw
        go_wp2_with (first
          | (go_at_call 34; refine (l21Cells_any _).mono ?_; rintro e w' ⟨rfl, rfl⟩)
          | (go_at_call 37; refine HV.out.mono ?_; rintro e w' ⟨rfl, rfl⟩))
        go_ret2
        rw [HE.out, HW.out]
        exact RetSBO.mk' (addL_length _ _ _).symm s1 (Nat.le_refl _) he hs (Nat.le_refl _)
theorem specSkyAdd_yes (A B : Option Addr) (c d : Nat) (xs ys : List Int) (t : Int) (w : World) (hs : saB xs ys t = true) (h : Rd w w.heap.size A 16 c (ints xs)) (h' : Rd w w.heap.size B 16 d (ints ys)) :
    Calls Try.prog 44 #[.slice A 16 c, .slice B 16 d, .int .i64 t] w (RetSB w 3 (skyOr (addL xs ys t)).length (ints (skyOr (addL xs ys t))) (svB (addL xs ys t))) := (specSkyAdd_own A B c d xs ys t w hs h h').mono fun _ _ h => h.sb
end Go.Proofs.Ytohbflekinafjab
