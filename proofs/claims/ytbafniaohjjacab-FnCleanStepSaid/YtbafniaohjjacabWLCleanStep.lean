/-
  The walk of FnCleanStep: it returns true and writes nothing that was there.
-/
import Derived.Test.YtbafniaohjjacabCleanLawB
import Derived.Test.YtbafniaohjjacabDrawClB
import Derived.Test.YtbafniaohjjacabCleanFits
import Derived.Test.YtbafniaohjjacabSkyFns
import Derived.Test.YtbafniaohjjacabCleanRun
namespace Go.Proofs.Ytbafniaohjjacab.fnCleanStep
open Go.RowKit
set_option linter.unusedVariables false

set_option maxRecDepth 100000 in
set_option maxHeartbeats 8000000 in
theorem walk (A0 : Option Addr) (n0 c0 : Nat) (b0 : List Int) (w : World) (hn0 : b0.length = n0) (hm0 : n0 ≤ 9223372036854775807) (h0 : Rd w w.heap.size A0 n0 c0 (b0.map (.int .u8))) (hw0 : ∀ z ∈ b0, 0 ≤ z ∧ z ≤ 255) :
    Calls Try.prog 4 #[.slice A0 n0 c0] w fun e w' => e = .returned (.bool true) ∧ Ext w w' := by
  have HN0 := Lib.hid hn0
  have HW0 := Lib.hid hw0
  clear hn0 hw0
  by_cases hz0 : n0 ≤ 1048576
  case neg =>
    go_enter Try.func4, Try.ntmps4
    go_wp2
    go_ret
    exact ⟨rfl, Ext.refl _⟩
  go_enter Try.func4, Try.ntmps4
  go_wp2_with fail
  refine (drawCleanStep_any A0 n0 c0 b0 _ HN0.out hm0 h0 HW0.out).mono ?_
  rintro e w1 ⟨A_c, c_c, B_c, m_c, d_c, A_b, n_b, c_b, xs, ys, bm, rfl, hl_x, hl_y, hb_m, hl_b, hb_n, s_c1, s_c2, s_b, x1⟩
  have HLX := Lib.hid hl_x
  clear hl_x
  have HLY := Lib.hid hl_y
  clear hl_y
  have HLB := Lib.hid hl_b
  clear hl_b
  have E := x1
  have b1 := (Ext.refl w1).alloc (.cells #[.slice A_c 16 c_c, .slice B_c m_c d_c] 25)
  have st_c := St.new w1 #[.slice A_c 16 c_c, .slice B_c m_c d_c] 25
  replace s_c1 := s_c1.ext b1
  replace s_c2 := s_c2.ext b1
  replace s_b := s_b.ext b1
  replace E := E.trans b1
  have q_c_1_a := st_c.cell0
  have q_c_1_b := st_c.cell1
  have q_c_1_c := st_c.lt
  have q_c_1_d := Nat.ne_of_lt q_c_1_c
  have hl1 := csM_length xs ys bm
  have hl2 := csL_length xs ys bm
  rcases hv : stB xs ys bm with _ | _
  case false =>
    have HV := Lib.hid hv
    clear hv
    go_wp2_with fail
    refine (cleanStep_any A_c B_c A_b 16 c_c m_c d_c n_b c_b xs ys bm _ HLX.out HLY.out HLB.out s_c1.rd s_c2.rd s_b.rd).mono ?_
    rintro e w2 ⟨A_out, c_out, B_out, d_out, rfl, s_out, x2⟩
    replace s_c1 := s_c1.ext x2
    replace s_c2 := s_c2.ext x2
    replace st_c := st_c.ext x2
    replace s_b := s_b.ext x2
    replace E := E.trans x2
    rw [HV.out]
    clear q_c_1_a q_c_1_b q_c_1_c q_c_1_d
    have q_c_2_a := st_c.cell0
    have q_c_2_b := st_c.cell1
    have q_c_2_c := st_c.lt
    have q_c_2_d := Nat.ne_of_lt q_c_2_c
    have b2 := (Ext.refl w2).alloc (.cells #[.slice A_out (csM xs ys bm).length c_out, .slice B_out (csL xs ys bm).length d_out] 25)
    have st_out := St.new w2 #[.slice A_out (csM xs ys bm).length c_out, .slice B_out (csL xs ys bm).length d_out] 25
    replace s_c1 := s_c1.ext b2
    replace s_c2 := s_c2.ext b2
    replace st_c := st_c.ext b2
    replace s_b := s_b.ext b2
    replace s_out := s_out.ext b2
    replace E := E.trans b2
    clear q_c_2_a q_c_2_b q_c_2_c q_c_2_d
    have q_c_2_a := st_c.cell0
    have q_c_2_b := st_c.cell1
    have q_c_2_c := st_c.lt
    have q_c_2_d := Nat.ne_of_lt q_c_2_c
    have q_out_2_a := st_out.cell0
    have q_out_2_b := st_out.cell1
    have q_out_2_c := st_out.lt
    have q_out_2_d := Nat.ne_of_lt q_out_2_c
    go_wp2_with fail
    refine (specCleanStep_any A_c B_c A_b 16 c_c m_c d_c n_b c_b xs ys bm _ HLX.out HLY.out HLB.out (by omega) (by omega) (by omega) s_c1.rd s_c2.rd s_b.rd).mono ?_
    rintro e w3 ⟨A_want, c_want, B_want, d_want, rfl, s_want, x3⟩
    replace s_c1 := s_c1.ext x3
    replace s_c2 := s_c2.ext x3
    replace st_c := st_c.ext x3
    replace s_b := s_b.ext x3
    replace s_out := s_out.ext x3
    replace st_out := st_out.ext x3
    replace E := E.trans x3
    rw [HV.out]
    clear q_c_2_a q_c_2_b q_c_2_c q_c_2_d q_out_2_a q_out_2_b q_out_2_c q_out_2_d
    have q_c_3_a := st_c.cell0
    have q_c_3_b := st_c.cell1
    have q_c_3_c := st_c.lt
    have q_c_3_d := Nat.ne_of_lt q_c_3_c
    have q_out_3_a := st_out.cell0
    have q_out_3_b := st_out.cell1
    have q_out_3_c := st_out.lt
    have q_out_3_d := Nat.ne_of_lt q_out_3_c
    have b3 := (Ext.refl w3).alloc (.cells #[.slice A_want (csM xs ys bm).length c_want, .slice B_want (csL xs ys bm).length d_want] 25)
    have st_want := St.new w3 #[.slice A_want (csM xs ys bm).length c_want, .slice B_want (csL xs ys bm).length d_want] 25
    replace s_c1 := s_c1.ext b3
    replace s_c2 := s_c2.ext b3
    replace st_c := st_c.ext b3
    replace s_b := s_b.ext b3
    replace s_out := s_out.ext b3
    replace st_out := st_out.ext b3
    replace s_want := s_want.ext b3
    replace E := E.trans b3
    clear q_c_3_a q_c_3_b q_c_3_c q_c_3_d q_out_3_a q_out_3_b q_out_3_c q_out_3_d
    have q_c_3_a := st_c.cell0
    have q_c_3_b := st_c.cell1
    have q_c_3_c := st_c.lt
    have q_c_3_d := Nat.ne_of_lt q_c_3_c
    have q_out_3_a := st_out.cell0
    have q_out_3_b := st_out.cell1
    have q_out_3_c := st_out.lt
    have q_out_3_d := Nat.ne_of_lt q_out_3_c
    have q_want_3_a := st_want.cell0
    have q_want_3_b := st_want.cell1
    have q_want_3_c := st_want.lt
    have q_want_3_d := Nat.ne_of_lt q_want_3_c
    go_wp2_with fail
    refine (sameClean_any A_out B_out A_want B_want (csM xs ys bm).length c_out (csL xs ys bm).length d_out (csM xs ys bm).length c_want (csL xs ys bm).length d_want (csM xs ys bm) (csL xs ys bm) (csM xs ys bm) (csL xs ys bm) _ rfl rfl rfl rfl (by omega) (by omega) s_out.fst.rd s_out.snd.rd s_want.fst.rd s_want.snd.rd).mono ?_
    rintro e w4 ⟨rfl, x4⟩
    replace s_c1 := s_c1.ext x4
    replace s_c2 := s_c2.ext x4
    replace st_c := st_c.ext x4
    replace s_b := s_b.ext x4
    replace s_out := s_out.ext x4
    replace st_out := st_out.ext x4
    replace s_want := s_want.ext x4
    replace st_want := st_want.ext x4
    replace E := E.trans x4
    clear q_c_3_a q_c_3_b q_c_3_c q_c_3_d q_out_3_a q_out_3_b q_out_3_c q_out_3_d q_want_3_a q_want_3_b q_want_3_c q_want_3_d
    have q_c_4_a := st_c.cell0
    have q_c_4_b := st_c.cell1
    have q_c_4_c := st_c.lt
    have q_c_4_d := Nat.ne_of_lt q_c_4_c
    have q_out_4_a := st_out.cell0
    have q_out_4_b := st_out.cell1
    have q_out_4_c := st_out.lt
    have q_out_4_d := Nat.ne_of_lt q_out_4_c
    have q_want_4_a := st_want.cell0
    have q_want_4_b := st_want.cell1
    have q_want_4_c := st_want.lt
    have q_want_4_d := Nat.ne_of_lt q_want_4_c
    go_wp2_with fail
    refine (sameClean_any A_out B_out A_want B_want (csM xs ys bm).length c_out (csL xs ys bm).length d_out (csM xs ys bm).length c_want (csL xs ys bm).length d_want (csM xs ys bm) (csL xs ys bm) (csM xs ys bm) (csL xs ys bm) _ rfl rfl rfl rfl (by omega) (by omega) s_out.fst.rd s_out.snd.rd s_want.fst.rd s_want.snd.rd).mono ?_
    rintro e w5 ⟨rfl, x5⟩
    replace s_c1 := s_c1.ext x5
    replace s_c2 := s_c2.ext x5
    replace st_c := st_c.ext x5
    replace s_b := s_b.ext x5
    replace s_out := s_out.ext x5
    replace st_out := st_out.ext x5
    replace s_want := s_want.ext x5
    replace st_want := st_want.ext x5
    replace E := E.trans x5
    clear q_c_4_a q_c_4_b q_c_4_c q_c_4_d q_out_4_a q_out_4_b q_out_4_c q_out_4_d q_want_4_a q_want_4_b q_want_4_c q_want_4_d
    have q_c_5_a := st_c.cell0
    have q_c_5_b := st_c.cell1
    have q_c_5_c := st_c.lt
    have q_c_5_d := Nat.ne_of_lt q_c_5_c
    have q_out_5_a := st_out.cell0
    have q_out_5_b := st_out.cell1
    have q_out_5_c := st_out.lt
    have q_out_5_d := Nat.ne_of_lt q_out_5_c
    have q_want_5_a := st_want.cell0
    have q_want_5_b := st_want.cell1
    have q_want_5_c := st_want.lt
    have q_want_5_d := Nat.ne_of_lt q_want_5_c
    go_wp2
    go_ret
    exact ⟨rfl, E⟩
  have HV := Lib.hid hv
  clear hv
  have HS := Lib.hid (step_yes HV.out)
  obtain rfl : m_c = 16 := by rw [← HLY.out]; exact HS.out.2.2.2.1
  obtain rfl : n_b = 16 := by rw [← HLB.out]; exact HS.out.2.2.2.2
  go_wp2_with fail
  refine (cleanStep_any A_c B_c A_b 16 c_c 16 d_c 16 c_b xs ys bm _ HLX.out HLY.out HLB.out s_c1.rd s_c2.rd s_b.rd).mono ?_
  rintro e w6 ⟨A_out, c_out, B_out, d_out, rfl, s_out, x6⟩
  replace s_c1 := s_c1.ext x6
  replace s_c2 := s_c2.ext x6
  replace st_c := st_c.ext x6
  replace s_b := s_b.ext x6
  replace E := E.trans x6
  rw [HV.out]
  rw [HS.out.1, HS.out.2.1, stM_length, HLX.out, stL_length] at s_out
  rw [HS.out.1, HS.out.2.1, stM_length, HLX.out, stL_length]
  clear q_c_1_a q_c_1_b q_c_1_c q_c_1_d
  have q_c_6_a := st_c.cell0
  have q_c_6_b := st_c.cell1
  have q_c_6_c := st_c.lt
  have q_c_6_d := Nat.ne_of_lt q_c_6_c
  have b6 := (Ext.refl w6).alloc (.cells #[.slice A_out 16 c_out, .slice B_out 16 d_out] 25)
  have st_out := St.new w6 #[.slice A_out 16 c_out, .slice B_out 16 d_out] 25
  replace s_c1 := s_c1.ext b6
  replace s_c2 := s_c2.ext b6
  replace st_c := st_c.ext b6
  replace s_b := s_b.ext b6
  replace s_out := s_out.ext b6
  replace E := E.trans b6
  clear q_c_6_a q_c_6_b q_c_6_c q_c_6_d
  have q_c_6_a := st_c.cell0
  have q_c_6_b := st_c.cell1
  have q_c_6_c := st_c.lt
  have q_c_6_d := Nat.ne_of_lt q_c_6_c
  have q_out_6_a := st_out.cell0
  have q_out_6_b := st_out.cell1
  have q_out_6_c := st_out.lt
  have q_out_6_d := Nat.ne_of_lt q_out_6_c
  go_wp2_with fail
  refine (specCleanStep_any A_c B_c A_b 16 c_c 16 d_c 16 c_b xs ys bm _ HLX.out HLY.out HLB.out (by omega) (by omega) (by omega) s_c1.rd s_c2.rd s_b.rd).mono ?_
  rintro e w7 ⟨A_want, c_want, B_want, d_want, rfl, s_want, x7⟩
  replace s_c1 := s_c1.ext x7
  replace s_c2 := s_c2.ext x7
  replace st_c := st_c.ext x7
  replace s_b := s_b.ext x7
  replace s_out := s_out.ext x7
  replace st_out := st_out.ext x7
  replace E := E.trans x7
  rw [HV.out]
  rw [HS.out.1, HS.out.2.1, stM_length, HLX.out, stL_length] at s_want
  rw [HS.out.1, HS.out.2.1, stM_length, HLX.out, stL_length]
  clear q_c_6_a q_c_6_b q_c_6_c q_c_6_d q_out_6_a q_out_6_b q_out_6_c q_out_6_d
  have q_c_7_a := st_c.cell0
  have q_c_7_b := st_c.cell1
  have q_c_7_c := st_c.lt
  have q_c_7_d := Nat.ne_of_lt q_c_7_c
  have q_out_7_a := st_out.cell0
  have q_out_7_b := st_out.cell1
  have q_out_7_c := st_out.lt
  have q_out_7_d := Nat.ne_of_lt q_out_7_c
  have b7 := (Ext.refl w7).alloc (.cells #[.slice A_want 16 c_want, .slice B_want 16 d_want] 25)
  have st_want := St.new w7 #[.slice A_want 16 c_want, .slice B_want 16 d_want] 25
  replace s_c1 := s_c1.ext b7
  replace s_c2 := s_c2.ext b7
  replace st_c := st_c.ext b7
  replace s_b := s_b.ext b7
  replace s_out := s_out.ext b7
  replace st_out := st_out.ext b7
  replace s_want := s_want.ext b7
  replace E := E.trans b7
  clear q_c_7_a q_c_7_b q_c_7_c q_c_7_d q_out_7_a q_out_7_b q_out_7_c q_out_7_d
  have q_c_7_a := st_c.cell0
  have q_c_7_b := st_c.cell1
  have q_c_7_c := st_c.lt
  have q_c_7_d := Nat.ne_of_lt q_c_7_c
  have q_out_7_a := st_out.cell0
  have q_out_7_b := st_out.cell1
  have q_out_7_c := st_out.lt
  have q_out_7_d := Nat.ne_of_lt q_out_7_c
  have q_want_7_a := st_want.cell0
  have q_want_7_b := st_want.cell1
  have q_want_7_c := st_want.lt
  have q_want_7_d := Nat.ne_of_lt q_want_7_c
  go_wp2_with fail
  refine (sameClean_any A_out B_out A_want B_want 16 c_out 16 d_out 16 c_want 16 d_want (stM xs ys bm) (stL ys bm) (stM xs ys bm) (stL ys bm) _ (by rw [stM_length, HLX.out]) stL_length (by rw [stM_length, HLX.out]) stL_length (by omega) (by omega) s_out.fst.rd s_out.snd.rd s_want.fst.rd s_want.snd.rd).mono ?_
  rintro e w8 ⟨rfl, x8⟩
  replace s_c1 := s_c1.ext x8
  replace s_c2 := s_c2.ext x8
  replace st_c := st_c.ext x8
  replace s_b := s_b.ext x8
  replace s_out := s_out.ext x8
  replace st_out := st_out.ext x8
  replace s_want := s_want.ext x8
  replace st_want := st_want.ext x8
  replace E := E.trans x8
  clear q_c_7_a q_c_7_b q_c_7_c q_c_7_d q_out_7_a q_out_7_b q_out_7_c q_out_7_d q_want_7_a q_want_7_b q_want_7_c q_want_7_d
  have q_c_8_a := st_c.cell0
  have q_c_8_b := st_c.cell1
  have q_c_8_c := st_c.lt
  have q_c_8_d := Nat.ne_of_lt q_c_8_c
  have q_out_8_a := st_out.cell0
  have q_out_8_b := st_out.cell1
  have q_out_8_c := st_out.lt
  have q_out_8_d := Nat.ne_of_lt q_out_8_c
  have q_want_8_a := st_want.cell0
  have q_want_8_b := st_want.cell1
  have q_want_8_c := st_want.lt
  have q_want_8_d := Nat.ne_of_lt q_want_8_c
  clear q_c_8_a q_c_8_b q_c_8_c q_c_8_d q_out_8_a q_out_8_b q_out_8_c q_out_8_d q_want_8_a q_want_8_b q_want_8_c q_want_8_d
  clear s_want st_want
  have q_c_8_a := st_c.cell0
  have q_c_8_b := st_c.cell1
  have q_c_8_c := st_c.lt
  have q_c_8_d := Nat.ne_of_lt q_c_8_c
  have q_out_8_a := st_out.cell0
  have q_out_8_b := st_out.cell1
  have q_out_8_c := st_out.lt
  have q_out_8_d := Nat.ne_of_lt q_out_8_c
  clear hl1 hl2
  have HQ := Lib.hid (step_law HV.out)
  go_wp2_with fail
  refine (cleanPeak_any A_c B_c 16 c_c 16 d_c xs ys _ HLX.out HLY.out s_c1.rd s_c2.rd).mono ?_
  rintro e w9 ⟨rfl, x9⟩
  replace s_c1 := s_c1.ext x9
  replace s_c2 := s_c2.ext x9
  replace st_c := st_c.ext x9
  replace s_b := s_b.ext x9
  replace s_out := s_out.ext x9
  replace st_out := st_out.ext x9
  replace E := E.trans x9
  clear q_c_8_a q_c_8_b q_c_8_c q_c_8_d q_out_8_a q_out_8_b q_out_8_c q_out_8_d
  have q_c_9_a := st_c.cell0
  have q_c_9_b := st_c.cell1
  have q_c_9_c := st_c.lt
  have q_c_9_d := Nat.ne_of_lt q_c_9_c
  have q_out_9_a := st_out.cell0
  have q_out_9_b := st_out.cell1
  have q_out_9_c := st_out.lt
  have q_out_9_d := Nat.ne_of_lt q_out_9_c
  rw [HQ.out.1, HQ.out.2.1, HQ.out.2.2.1]
  clear q_c_9_a q_c_9_b q_c_9_c q_c_9_d q_out_9_a q_out_9_b q_out_9_c q_out_9_d
  obtain ⟨g_ca, o_ca, ea_ca, _, _, _⟩ := s_c1.addr (by rw [ints_length, HLX.out]; omega)
  obtain rfl := ea_ca
  obtain ⟨g_outa, o_outa, ea_outa, _, _, _⟩ := s_out.fst.addr (by rw [ints_length, (show (stM xs ys bm).length = 16 from (by rw [stM_length, HLX.out]))]; omega)
  obtain rfl := ea_outa
  obtain ⟨g_outb, o_outb, ea_outb, _, _, _⟩ := s_out.snd.addr (by rw [ints_length, stL_length]; omega)
  obtain rfl := ea_outb
  obtain ⟨g_b, o_b, ea_b, _, _, _⟩ := s_b.addr (by rw [ints_length, HLB.out]; omega)
  obtain rfl := ea_b
  have hpk := pk_lt ys
  have q_c_9_a := st_c.cell0
  have q_c_9_b := st_c.cell1
  have q_c_9_c := st_c.lt
  have q_c_9_d := Nat.ne_of_lt q_c_9_c
  have q_out_9_a := st_out.cell0
  have q_out_9_b := st_out.cell1
  have q_out_9_c := st_out.lt
  have q_out_9_d := Nat.ne_of_lt q_out_9_c
  go_wp2_with fail
  clear q_c_9_a q_c_9_b q_c_9_c q_c_9_d q_out_9_a q_out_9_b q_out_9_c q_out_9_d
  go_loopw [12] (fun i wr => ∃ k : Nat, k ≤ 16 ∧ i = .int .i64 k ∧ Ext w9 wr) (fun i _ => 16 - (intOf i).toNat)
  case atStart => exact ⟨0, Nat.zero_le _, rfl, Ext.refl _⟩
  case round =>
    obtain ⟨k, hk, rfl, hq⟩ := hrel
    have t_c := st_c.ext hq
    have t_c0 := t_c.cell0
    have t_c1 := t_c.cell1
    have t_out := st_out.ext hq
    have t_out0 := t_out.cell0
    have t_out1 := t_out.cell1
    by_cases hlt : k < 16
    · skip
      have k0 := (s_c1.ext hq).cell (ints_a0 (s := xs) (k := k) (by rw [HLX.out]; omega))
      have k1 := (s_out.fst.ext hq).cell (ints_a0 (s := stM xs ys bm) (k := k) (by rw [stM_length, HLX.out]; omega))
      have h2 : (k : Int) < 16 := by omega
      have h3 : (0 : Int) ≤ (k : Int) := by omega
      by_cases hkp : k = pk ys
      · skip
        have hp1 : ((k : Int) != (pk ys : Int)) = false := by simp; omega
        go_wp2_with fail
        go_quiet (fail)
        go_wp2
        go_roundw
        case rel => exact ⟨k + 1, by omega, by go_num, hq.drewN _⟩
        case measure => simp [intOf]; omega
      · skip
        have hp1 : ((k : Int) != (pk ys : Int)) = true := by simp; omega
        rw [HQ.out.2.2.2.1 k hkp] at k1
        go_wp2_with fail
        go_quiet (fail)
        go_wp2
        go_roundw
        case rel => exact ⟨k + 1, by omega, by go_num, hq.drewN _⟩
        case measure => simp [intOf]; omega
    · skip
      have k0 := (s_c1.ext hq).cell (ints_a0 (s := xs) (k := pk ys) (by rw [HLX.out]; omega))
      have k1 := (s_out.fst.ext hq).cell (ints_a0 (s := stM xs ys bm) (k := pk ys) (by rw [stM_length, HLX.out]; omega))
      have k2 := (s_out.snd.ext hq).cell (ints_a0 (s := stL ys bm) (k := pk ys) (by rw [stL_length]; omega))
      have k3 := (s_b.ext hq).cell (ints_a0 (s := bm) (k := 0) (by rw [HLB.out]; omega))
      simp only [Nat.add_zero] at k3
      obtain ⟨u1, u2, u3, u4⟩ := HQ.out.2.2.2.2
      have v1 : decide (at0 bm 0 ≤ top ys) = true := by simpa using u1
      have v2 : decide (at0 xs (pk ys) < at0 (stM xs ys bm) (pk ys)) = true := by simpa using u2
      have v3 : decide (0 ≤ at0 (stL ys bm) (pk ys)) = true := by simpa using u3
      have v4 : decide (at0 (stL ys bm) (pk ys) < at0 bm 0) = true := by simpa using u4
      have h2 : (pk ys : Int) < 16 := by omega
      have h3 : (0 : Int) ≤ (pk ys : Int) := by omega
      go_wp2_with fail
      go_quiet (fail)
      go_wp2
      go_ret
      exact ⟨rfl, (E.trans hq).drewN _⟩
end Go.Proofs.Ytbafniaohjjacab.fnCleanStep
