/-
  The walk of FnCleanNone: it returns true and writes nothing that was there.
-/
import Derived.Test.YtbafniaohjjacabCleanLawB
import Derived.Test.YtbafniaohjjacabDrawClB
import Derived.Test.YtbafniaohjjacabCleanFits
import Derived.Test.YtbafniaohjjacabSkyFns
import Derived.Test.YtbafniaohjjacabCleanRun
import Derived.Test.YtbafniaohjjacabSpot
namespace Go.Proofs.Ytbafniaohjjacab.fnCleanNone
open Go.RowKit
set_option linter.unusedVariables false
set_option linter.unusedSimpArgs false

set_option maxRecDepth 100000 in
set_option maxHeartbeats 8000000 in
theorem walk (A0 : Option Addr) (n0 c0 : Nat) (b0 : List Int) (w : World) (hn0 : b0.length = n0) (hm0 : n0 ≤ 9223372036854775807) (h0 : Rd w w.heap.size A0 n0 c0 (b0.map (.int .u8))) (hw0 : ∀ z ∈ b0, 0 ≤ z ∧ z ≤ 255) :
    Calls Try.prog 9 #[.slice A0 n0 c0] w fun e w' => e = .returned (.bool true) ∧ Ext w w' := by
  have HN0 := Lib.hid hn0
  have HW0 := Lib.hid hw0
  clear hn0 hw0
  by_cases hz0 : n0 ≤ 1048576
  case neg =>
    go_enter Try.func9, Try.ntmps9
    go_wp2
    go_ret
    exact ⟨rfl, Ext.refl _⟩
  go_enter Try.func9, Try.ntmps9
  go_wp2_with fail
  refine (drawCleanRun_any A0 n0 c0 b0 _ HN0.out hm0 h0 HW0.out).mono ?_
  rintro e w1 ⟨A_c, c_c, B_c, m_c, d_c, A_b, n_b, c_b, xs, ys, bm, many, rfl, hl_x, hl_y, hb_m, hl_b, hb_n, s_c1, s_c2, s_b, x1⟩
  have HLX := Lib.hid hl_x
  clear hl_x
  have HLY := Lib.hid hl_y
  clear hl_y
  have HLB := Lib.hid hl_b
  clear hl_b
  have E := x1
  have b1 := (Ext.refl w1).alloc (.cells #[.slice A_c 16 c_c, .slice B_c m_c d_c] 25)
  have st_c := St.new w1 #[.slice A_c 16 c_c, .slice B_c m_c d_c] 25
  replace s_c1 := s_c1.ext b1
  replace s_c2 := s_c2.ext b1
  replace s_b := s_b.ext b1
  replace E := E.trans b1
  have q_c_1_a := st_c.cell0
  have q_c_1_b := st_c.cell1
  have q_c_1_c := st_c.lt
  have q_c_1_d := Nat.ne_of_lt q_c_1_c
  have hl1 := crM_length xs ys bm many
  have hl2 := crL_length xs ys bm many
  rcases hv : crB xs ys bm many with _ | _
  case false =>
    have HV := Lib.hid hv
    clear hv
    go_wp2_with fail
    refine (cleanRun_any A_c B_c A_b 16 c_c m_c d_c n_b c_b xs ys bm many _ HLX.out HLY.out HLB.out s_c1.rd s_c2.rd s_b.rd).mono ?_
    rintro e w2 ⟨A_out, c_out, B_out, d_out, rfl, s_out, x2⟩
    replace s_c1 := s_c1.ext x2
    replace s_c2 := s_c2.ext x2
    replace st_c := st_c.ext x2
    replace s_b := s_b.ext x2
    replace E := E.trans x2
    rw [HV.out]
    clear q_c_1_a q_c_1_b q_c_1_c q_c_1_d
    have q_c_2_a := st_c.cell0
    have q_c_2_b := st_c.cell1
    have q_c_2_c := st_c.lt
    have q_c_2_d := Nat.ne_of_lt q_c_2_c
    have b2 := (Ext.refl w2).alloc (.cells #[.slice A_out (crM xs ys bm many).length c_out, .slice B_out (crL xs ys bm many).length d_out] 25)
    have st_out := St.new w2 #[.slice A_out (crM xs ys bm many).length c_out, .slice B_out (crL xs ys bm many).length d_out] 25
    replace s_c1 := s_c1.ext b2
    replace s_c2 := s_c2.ext b2
    replace st_c := st_c.ext b2
    replace s_b := s_b.ext b2
    replace s_out := s_out.ext b2
    replace E := E.trans b2
    clear q_c_2_a q_c_2_b q_c_2_c q_c_2_d
    have q_c_2_a := st_c.cell0
    have q_c_2_b := st_c.cell1
    have q_c_2_c := st_c.lt
    have q_c_2_d := Nat.ne_of_lt q_c_2_c
    have q_out_2_a := st_out.cell0
    have q_out_2_b := st_out.cell1
    have q_out_2_c := st_out.lt
    have q_out_2_d := Nat.ne_of_lt q_out_2_c
    go_wp2_with fail
    refine (specCleanRun_any A_c B_c A_b 16 c_c m_c d_c n_b c_b xs ys bm many _ HLX.out HLY.out HLB.out (by omega) (by omega) (by omega) s_c1.rd s_c2.rd s_b.rd).mono ?_
    rintro e w3 ⟨A_want, c_want, B_want, d_want, rfl, s_want, x3⟩
    replace s_c1 := s_c1.ext x3
    replace s_c2 := s_c2.ext x3
    replace st_c := st_c.ext x3
    replace s_b := s_b.ext x3
    replace s_out := s_out.ext x3
    replace st_out := st_out.ext x3
    replace E := E.trans x3
    rw [HV.out]
    clear q_c_2_a q_c_2_b q_c_2_c q_c_2_d q_out_2_a q_out_2_b q_out_2_c q_out_2_d
    have q_c_3_a := st_c.cell0
    have q_c_3_b := st_c.cell1
    have q_c_3_c := st_c.lt
    have q_c_3_d := Nat.ne_of_lt q_c_3_c
    have q_out_3_a := st_out.cell0
    have q_out_3_b := st_out.cell1
    have q_out_3_c := st_out.lt
    have q_out_3_d := Nat.ne_of_lt q_out_3_c
    have b3 := (Ext.refl w3).alloc (.cells #[.slice A_want (crM xs ys bm many).length c_want, .slice B_want (crL xs ys bm many).length d_want] 25)
    have st_want := St.new w3 #[.slice A_want (crM xs ys bm many).length c_want, .slice B_want (crL xs ys bm many).length d_want] 25
    replace s_c1 := s_c1.ext b3
    replace s_c2 := s_c2.ext b3
    replace st_c := st_c.ext b3
    replace s_b := s_b.ext b3
    replace s_out := s_out.ext b3
    replace st_out := st_out.ext b3
    replace s_want := s_want.ext b3
    replace E := E.trans b3
    clear q_c_3_a q_c_3_b q_c_3_c q_c_3_d q_out_3_a q_out_3_b q_out_3_c q_out_3_d
    have q_c_3_a := st_c.cell0
    have q_c_3_b := st_c.cell1
    have q_c_3_c := st_c.lt
    have q_c_3_d := Nat.ne_of_lt q_c_3_c
    have q_out_3_a := st_out.cell0
    have q_out_3_b := st_out.cell1
    have q_out_3_c := st_out.lt
    have q_out_3_d := Nat.ne_of_lt q_out_3_c
    have q_want_3_a := st_want.cell0
    have q_want_3_b := st_want.cell1
    have q_want_3_c := st_want.lt
    have q_want_3_d := Nat.ne_of_lt q_want_3_c
    go_wp2_with fail
    refine (sameClean_any A_out B_out A_want B_want (crM xs ys bm many).length c_out (crL xs ys bm many).length d_out (crM xs ys bm many).length c_want (crL xs ys bm many).length d_want (crM xs ys bm many) (crL xs ys bm many) (crM xs ys bm many) (crL xs ys bm many) _ rfl rfl rfl rfl (by omega) (by omega) s_out.fst.rd s_out.snd.rd s_want.fst.rd s_want.snd.rd).mono ?_
    rintro e w4 ⟨rfl, x4⟩
    replace s_c1 := s_c1.ext x4
    replace s_c2 := s_c2.ext x4
    replace st_c := st_c.ext x4
    replace s_b := s_b.ext x4
    replace s_out := s_out.ext x4
    replace st_out := st_out.ext x4
    replace s_want := s_want.ext x4
    replace st_want := st_want.ext x4
    replace E := E.trans x4
    clear q_c_3_a q_c_3_b q_c_3_c q_c_3_d q_out_3_a q_out_3_b q_out_3_c q_out_3_d q_want_3_a q_want_3_b q_want_3_c q_want_3_d
    have q_c_4_a := st_c.cell0
    have q_c_4_b := st_c.cell1
    have q_c_4_c := st_c.lt
    have q_c_4_d := Nat.ne_of_lt q_c_4_c
    have q_out_4_a := st_out.cell0
    have q_out_4_b := st_out.cell1
    have q_out_4_c := st_out.lt
    have q_out_4_d := Nat.ne_of_lt q_out_4_c
    have q_want_4_a := st_want.cell0
    have q_want_4_b := st_want.cell1
    have q_want_4_c := st_want.lt
    have q_want_4_d := Nat.ne_of_lt q_want_4_c
    go_wp2_with fail
    refine (sameClean_any A_out B_out A_want B_want (crM xs ys bm many).length c_out (crL xs ys bm many).length d_out (crM xs ys bm many).length c_want (crL xs ys bm many).length d_want (crM xs ys bm many) (crL xs ys bm many) (crM xs ys bm many) (crL xs ys bm many) _ rfl rfl rfl rfl (by omega) (by omega) s_out.fst.rd s_out.snd.rd s_want.fst.rd s_want.snd.rd).mono ?_
    rintro e w5 ⟨rfl, x5⟩
    replace s_c1 := s_c1.ext x5
    replace s_c2 := s_c2.ext x5
    replace st_c := st_c.ext x5
    replace s_b := s_b.ext x5
    replace s_out := s_out.ext x5
    replace st_out := st_out.ext x5
    replace s_want := s_want.ext x5
    replace st_want := st_want.ext x5
    replace E := E.trans x5
    clear q_c_4_a q_c_4_b q_c_4_c q_c_4_d q_out_4_a q_out_4_b q_out_4_c q_out_4_d q_want_4_a q_want_4_b q_want_4_c q_want_4_d
    have q_c_5_a := st_c.cell0
    have q_c_5_b := st_c.cell1
    have q_c_5_c := st_c.lt
    have q_c_5_d := Nat.ne_of_lt q_c_5_c
    have q_out_5_a := st_out.cell0
    have q_out_5_b := st_out.cell1
    have q_out_5_c := st_out.lt
    have q_out_5_d := Nat.ne_of_lt q_out_5_c
    have q_want_5_a := st_want.cell0
    have q_want_5_b := st_want.cell1
    have q_want_5_c := st_want.lt
    have q_want_5_d := Nat.ne_of_lt q_want_5_c
    go_wp2
    go_ret
    exact ⟨rfl, E⟩
  have HV := Lib.hid hv
  clear hv
  have HP := crB_parts HV.out
  obtain rfl : m_c = 16 := by rw [← HLY.out]; exact svB_16 HP.2.1
  obtain rfl : n_b = 16 := by rw [← HLB.out]; exact svB_16 HP.2.2.1
  obtain ⟨K, rfl⟩ := Int.eq_ofNat_of_zero_le HP.2.2.2.1
  have hK : K ≤ 200 := by have := HP.2.2.2.2; omega
  clear HP
  have HR := Lib.hid (run_law HV.out)
  have hN0 := HR.out.2.2.1
  have hN1 := HR.out.2.2.2.1
  go_wp2_with fail
  refine (cleanRun_any A_c B_c A_b 16 c_c 16 d_c 16 c_b xs ys bm (K : Int) _ HLX.out HLY.out HLB.out s_c1.rd s_c2.rd s_b.rd).mono ?_
  rintro e w6 ⟨A_out, c_out, B_out, d_out, rfl, s_out, x6⟩
  replace s_c1 := s_c1.ext x6
  replace s_c2 := s_c2.ext x6
  replace st_c := st_c.ext x6
  replace s_b := s_b.ext x6
  replace E := E.trans x6
  rw [HV.out]
  rw [HR.out.1, HR.out.2.1] at s_out
  rw [HR.out.1, HR.out.2.1]
  clear q_c_1_a q_c_1_b q_c_1_c q_c_1_d
  have q_c_6_a := st_c.cell0
  have q_c_6_b := st_c.cell1
  have q_c_6_c := st_c.lt
  have q_c_6_d := Nat.ne_of_lt q_c_6_c
  have b6 := (Ext.refl w6).alloc (.cells #[.slice A_out 16 c_out, .slice B_out 16 d_out] 25)
  have st_out := St.new w6 #[.slice A_out 16 c_out, .slice B_out 16 d_out] 25
  replace s_c1 := s_c1.ext b6
  replace s_c2 := s_c2.ext b6
  replace st_c := st_c.ext b6
  replace s_b := s_b.ext b6
  replace s_out := s_out.ext b6
  replace E := E.trans b6
  clear q_c_6_a q_c_6_b q_c_6_c q_c_6_d
  have q_c_6_a := st_c.cell0
  have q_c_6_b := st_c.cell1
  have q_c_6_c := st_c.lt
  have q_c_6_d := Nat.ne_of_lt q_c_6_c
  have q_out_6_a := st_out.cell0
  have q_out_6_b := st_out.cell1
  have q_out_6_c := st_out.lt
  have q_out_6_d := Nat.ne_of_lt q_out_6_c
  go_wp2_with fail
  refine (specCleanRun_any A_c B_c A_b 16 c_c 16 d_c 16 c_b xs ys bm (K : Int) _ HLX.out HLY.out HLB.out (by omega) (by omega) (by omega) s_c1.rd s_c2.rd s_b.rd).mono ?_
  rintro e w7 ⟨A_want, c_want, B_want, d_want, rfl, s_want, x7⟩
  replace s_c1 := s_c1.ext x7
  replace s_c2 := s_c2.ext x7
  replace st_c := st_c.ext x7
  replace s_b := s_b.ext x7
  replace s_out := s_out.ext x7
  replace st_out := st_out.ext x7
  replace E := E.trans x7
  rw [HV.out]
  rw [HR.out.1, HR.out.2.1] at s_want
  rw [HR.out.1, HR.out.2.1]
  clear q_c_6_a q_c_6_b q_c_6_c q_c_6_d q_out_6_a q_out_6_b q_out_6_c q_out_6_d
  have q_c_7_a := st_c.cell0
  have q_c_7_b := st_c.cell1
  have q_c_7_c := st_c.lt
  have q_c_7_d := Nat.ne_of_lt q_c_7_c
  have q_out_7_a := st_out.cell0
  have q_out_7_b := st_out.cell1
  have q_out_7_c := st_out.lt
  have q_out_7_d := Nat.ne_of_lt q_out_7_c
  have b7 := (Ext.refl w7).alloc (.cells #[.slice A_want 16 c_want, .slice B_want 16 d_want] 25)
  have st_want := St.new w7 #[.slice A_want 16 c_want, .slice B_want 16 d_want] 25
  replace s_c1 := s_c1.ext b7
  replace s_c2 := s_c2.ext b7
  replace st_c := st_c.ext b7
  replace s_b := s_b.ext b7
  replace s_out := s_out.ext b7
  replace st_out := st_out.ext b7
  replace s_want := s_want.ext b7
  replace E := E.trans b7
  clear q_c_7_a q_c_7_b q_c_7_c q_c_7_d q_out_7_a q_out_7_b q_out_7_c q_out_7_d
  have q_c_7_a := st_c.cell0
  have q_c_7_b := st_c.cell1
  have q_c_7_c := st_c.lt
  have q_c_7_d := Nat.ne_of_lt q_c_7_c
  have q_out_7_a := st_out.cell0
  have q_out_7_b := st_out.cell1
  have q_out_7_c := st_out.lt
  have q_out_7_d := Nat.ne_of_lt q_out_7_c
  have q_want_7_a := st_want.cell0
  have q_want_7_b := st_want.cell1
  have q_want_7_c := st_want.lt
  have q_want_7_d := Nat.ne_of_lt q_want_7_c
  go_wp2_with fail
  refine (sameClean_any A_out B_out A_want B_want 16 c_out 16 d_out 16 c_want 16 d_want (crM xs ys bm (K : Int)) (crL xs ys bm (K : Int)) (crM xs ys bm (K : Int)) (crL xs ys bm (K : Int)) _ HR.out.1 HR.out.2.1 HR.out.1 HR.out.2.1 (by omega) (by omega) s_out.fst.rd s_out.snd.rd s_want.fst.rd s_want.snd.rd).mono ?_
  rintro e w8 ⟨rfl, x8⟩
  replace s_c1 := s_c1.ext x8
  replace s_c2 := s_c2.ext x8
  replace st_c := st_c.ext x8
  replace s_b := s_b.ext x8
  replace s_out := s_out.ext x8
  replace st_out := st_out.ext x8
  replace s_want := s_want.ext x8
  replace st_want := st_want.ext x8
  replace E := E.trans x8
  clear q_c_7_a q_c_7_b q_c_7_c q_c_7_d q_out_7_a q_out_7_b q_out_7_c q_out_7_d q_want_7_a q_want_7_b q_want_7_c q_want_7_d
  have q_c_8_a := st_c.cell0
  have q_c_8_b := st_c.cell1
  have q_c_8_c := st_c.lt
  have q_c_8_d := Nat.ne_of_lt q_c_8_c
  have q_out_8_a := st_out.cell0
  have q_out_8_b := st_out.cell1
  have q_out_8_c := st_out.lt
  have q_out_8_d := Nat.ne_of_lt q_out_8_c
  have q_want_8_a := st_want.cell0
  have q_want_8_b := st_want.cell1
  have q_want_8_c := st_want.lt
  have q_want_8_d := Nat.ne_of_lt q_want_8_c
  clear q_c_8_a q_c_8_b q_c_8_c q_c_8_d q_out_8_a q_out_8_b q_out_8_c q_out_8_d q_want_8_a q_want_8_b q_want_8_c q_want_8_d
  clear s_want st_want
  have q_c_8_a := st_c.cell0
  have q_c_8_b := st_c.cell1
  have q_c_8_c := st_c.lt
  have q_c_8_d := Nat.ne_of_lt q_c_8_c
  have q_out_8_a := st_out.cell0
  have q_out_8_b := st_out.cell1
  have q_out_8_c := st_out.lt
  have q_out_8_d := Nat.ne_of_lt q_out_8_c
  clear hl1 hl2
  have HZ := Lib.hid (none_law HV.out)
  clear HR hN0 hN1
  go_wp2_with fail
  refine (cleanRun_any A_c B_c A_b 16 c_c 16 d_c 16 c_b xs ys bm 0 _ HLX.out HLY.out HLB.out s_c1.rd s_c2.rd s_b.rd).mono ?_
  rintro e w9 ⟨A_x, c_x, B_x, d_x, rfl, s_x, x9⟩
  replace s_c1 := s_c1.ext x9
  replace s_c2 := s_c2.ext x9
  replace st_c := st_c.ext x9
  replace s_b := s_b.ext x9
  replace s_out := s_out.ext x9
  replace st_out := st_out.ext x9
  replace E := E.trans x9
  rw [HZ.out.1]
  rw [HZ.out.2.1, HZ.out.2.2.1, HLX.out, HLY.out] at s_x
  rw [HZ.out.2.1, HZ.out.2.2.1, HZ.out.2.2.2.1, HLX.out, HLY.out]
  clear q_c_8_a q_c_8_b q_c_8_c q_c_8_d q_out_8_a q_out_8_b q_out_8_c q_out_8_d
  have q_c_9_a := st_c.cell0
  have q_c_9_b := st_c.cell1
  have q_c_9_c := st_c.lt
  have q_c_9_d := Nat.ne_of_lt q_c_9_c
  have q_out_9_a := st_out.cell0
  have q_out_9_b := st_out.cell1
  have q_out_9_c := st_out.lt
  have q_out_9_d := Nat.ne_of_lt q_out_9_c
  have b9 := (Ext.refl w9).alloc (.cells #[.slice A_x 16 c_x, .slice B_x 16 d_x] 25)
  have st_x := St.new w9 #[.slice A_x 16 c_x, .slice B_x 16 d_x] 25
  replace s_c1 := s_c1.ext b9
  replace s_c2 := s_c2.ext b9
  replace st_c := st_c.ext b9
  replace s_b := s_b.ext b9
  replace s_out := s_out.ext b9
  replace st_out := st_out.ext b9
  replace s_x := s_x.ext b9
  replace E := E.trans b9
  clear q_c_9_a q_c_9_b q_c_9_c q_c_9_d q_out_9_a q_out_9_b q_out_9_c q_out_9_d
  have q_c_9_a := st_c.cell0
  have q_c_9_b := st_c.cell1
  have q_c_9_c := st_c.lt
  have q_c_9_d := Nat.ne_of_lt q_c_9_c
  have q_out_9_a := st_out.cell0
  have q_out_9_b := st_out.cell1
  have q_out_9_c := st_out.lt
  have q_out_9_d := Nat.ne_of_lt q_out_9_c
  have q_x_9_a := st_x.cell0
  have q_x_9_b := st_x.cell1
  have q_x_9_c := st_x.lt
  have q_x_9_d := Nat.ne_of_lt q_x_9_c
  clear q_c_9_a q_c_9_b q_c_9_c q_c_9_d q_out_9_a q_out_9_b q_out_9_c q_out_9_d q_x_9_a q_x_9_b q_x_9_c q_x_9_d
  clear s_out st_out
  have q_c_9_a := st_c.cell0
  have q_c_9_b := st_c.cell1
  have q_c_9_c := st_c.lt
  have q_c_9_d := Nat.ne_of_lt q_c_9_c
  have q_x_9_a := st_x.cell0
  have q_x_9_b := st_x.cell1
  have q_x_9_c := st_x.lt
  have q_x_9_d := Nat.ne_of_lt q_x_9_c
  by_cases hmx : mxTo ys 16 = 100000
  case pos =>
    have HMX := Lib.hid hmx
    have hmx' : (mxTo ys 16 == 100000) = true := by simpa using hmx
    clear hmx
    go_wp2_with fail
    generalize (w9.alloc (.cells #[.slice A_x 16 c_x, .slice B_x 16 d_x] 25)) = W0 at *
    have HC1 := Lib.hid st_c
    have HS1 := Lib.hid s_c1
    have HS2 := Lib.hid s_c2
    skip
    go_cut [15, 16, 17] (fun v mv qv wx => RunIn W0 (crM xs ys (spotL 0 100000) 5) (crL xs ys (spotL 0 100000) 5) (crM xs ys (spotL 0 100000) 5).length (crL xs ys (spotL 0 100000) 5).length (crN xs ys (spotL 0 100000) 5) v mv qv wx)
    case first =>
      go_region_held3 (fun w' => w'.cell? ⟨w1.heap.size, 0, none⟩ = some (.slice A_c 16 c_c) ∧ w'.cell? ⟨w1.heap.size, 1, none⟩ = some (.slice B_c 16 d_c)) (exact ⟨(HC1.out.ext (by repeat (first | (with_reducible exact Ext.refl _) | (with_reducible assumption) | (with_reducible refine Ext.drew ?_) | (with_reducible refine Ext.alloc ?_ _) | (with_reducible refine Ext.setCell ?_ (by (try simp only [World.size_alloc, World.size_drew]); omega) _)))).cell0, (HC1.out.ext (by repeat (first | (with_reducible exact Ext.refl _) | (with_reducible assumption) | (with_reducible refine Ext.drew ?_) | (with_reducible refine Ext.alloc ?_ _) | (with_reducible refine Ext.setCell ?_ (by (try simp only [World.size_alloc, World.size_drew]); omega) _)))).cell1⟩) (first | (go_at_call 23; refine (spot_any 0 100000 _ (by omega)).mono ?_; rintro e w71 ⟨A_sp, c_sp, rfl, s_sp, x71⟩; have E71 : Ext W0 w71 := Ext.trans (by repeat (first | (with_reducible exact Ext.refl _) | (with_reducible assumption) | (with_reducible refine Ext.drew ?_) | (with_reducible refine Ext.alloc ?_ _) | (with_reducible refine Ext.setCell ?_ (by (try simp only [World.size_alloc, World.size_drew]); omega) _))) x71; have z71 := x71.size; (try simp only [World.size_alloc, World.size_drew] at z71)) | (go_at_call 12; refine (cleanRun_any A_c B_c A_sp 16 c_c 16 d_c 16 c_sp xs ys (spotL 0 100000) 5 _ HLX.out HLY.out (spotL_length _ _) (HS1.out.ext (by repeat (first | (with_reducible exact Ext.refl _) | (with_reducible assumption) | (with_reducible refine Ext.drew ?_) | (with_reducible refine Ext.alloc ?_ _) | (with_reducible refine Ext.setCell ?_ (by (try simp only [World.size_alloc, World.size_drew]); omega) _)))).rd (HS2.out.ext (by repeat (first | (with_reducible exact Ext.refl _) | (with_reducible assumption) | (with_reducible refine Ext.drew ?_) | (with_reducible refine Ext.alloc ?_ _) | (with_reducible refine Ext.setCell ?_ (by (try simp only [World.size_alloc, World.size_drew]); omega) _)))).rd (s_sp.ext (by repeat (first | (with_reducible exact Ext.refl _) | (with_reducible assumption) | (with_reducible refine Ext.drew ?_) | (with_reducible refine Ext.alloc ?_ _) | (with_reducible refine Ext.setCell ?_ (by (try simp only [World.size_alloc, World.size_drew]); omega) _)))).rd).mono ?_; rintro e w72 ⟨A_y, c_y, B_y, d_y, rfl, s_y, x72⟩; have E72 : Ext W0 w72 := Ext.trans (by repeat (first | (with_reducible exact Ext.refl _) | (with_reducible assumption) | (with_reducible refine Ext.drew ?_) | (with_reducible refine Ext.alloc ?_ _) | (with_reducible refine Ext.setCell ?_ (by (try simp only [World.size_alloc, World.size_drew]); omega) _))) x72; rw [HZ.out.2.2.2.2.1]; skip; (try (refine cutP (P := St w72 (W0.heap.size) #[.slice none 0 0, .slice none 0 0] 25) ?_ ?_; (focus (refine St.ext ?_ x72; (repeat (first | exact St.new _ _ _ | (with_reducible refine st_drew ?_) | (with_reducible refine st_alloc ?_) | (with_reducible refine St.ext ?_ x71))); done)); intro q; have q0 := q.cell0; have q1 := q.cell1; have q2 := q.frozen 0; have q3 := q.frozen 1; have q4 := q.lt; have q5 := Nat.ne_of_lt q4; have Q := Lib.hid q; clear q)); (try (refine cutP (P := St w72 (w71.heap.size) #[.slice none 0 0, .slice none 0 0] 25) ?_ ?_; (focus (refine St.ext ?_ x72; (repeat (first | exact St.new _ _ _ | (with_reducible refine st_drew ?_) | (with_reducible refine st_alloc ?_) | (with_reducible refine St.ext ?_ x71))); done)); intro q; have q0 := q.cell0; have q1 := q.cell1; have q2 := q.frozen 0; have q3 := q.frozen 1; have q4 := q.lt; have q5 := Nat.ne_of_lt q4; have Q := Lib.hid q; clear q))))
      all_goals go_wp2_with fail
      all_goals go_meet
      all_goals first | exact RunIn.put Q.out s_y (by (try simp only [World.size_alloc, World.size_drew]); omega) (by (try simp only [World.size_alloc, World.size_drew]); omega) (by (try simp only [World.size_alloc, World.size_drew]); omega) (by repeat (first | (with_reducible exact Ext.refl _) | (with_reducible assumption) | (with_reducible refine Ext.drew ?_) | (with_reducible refine Ext.alloc ?_ _) | (with_reducible refine Ext.setCell ?_ (by (try simp only [World.size_alloc, World.size_drew]); omega) _))) | exact RunIn.mk' s_y (by (try simp only [World.size_alloc, World.size_drew]); omega) (by repeat (first | (with_reducible exact Ext.refl _) | (with_reducible assumption) | (with_reducible refine Ext.drew ?_) | (with_reducible refine Ext.alloc ?_ _) | (with_reducible refine Ext.setCell ?_ (by (try simp only [World.size_alloc, World.size_drew]); omega) _)))
    case rest =>
      obtain ⟨g_y, A_y, c_y, B_y, d_y, rfl, rfl, rfl, st_y, s_y1, s_y2, x70⟩ := hcut
      rename World => W1
      clear HC1 HS1 HS2
      replace s_c1 := s_c1.ext x70
      replace s_c2 := s_c2.ext x70
      replace st_c := st_c.ext x70
      replace s_b := s_b.ext x70
      replace s_x := s_x.ext x70
      replace st_x := st_x.ext x70
      replace E := E.trans x70
      clear q_c_9_a q_c_9_b q_c_9_c q_c_9_d q_x_9_a q_x_9_b q_x_9_c q_x_9_d
      have q_c_9_a := st_c.cell0
      have q_c_9_b := st_c.cell1
      have q_c_9_c := st_c.lt
      have q_c_9_d := Nat.ne_of_lt q_c_9_c
      have q_x_9_a := st_x.cell0
      have q_x_9_b := st_x.cell1
      have q_x_9_c := st_x.lt
      have q_x_9_d := Nat.ne_of_lt q_x_9_c
      have q_y_9_a := st_y.cell0
      have q_y_9_b := st_y.cell1
      have q_y_9_c := st_y.lt
      have q_y_9_d := Nat.ne_of_lt q_y_9_c
      clear q_c_9_a q_c_9_b q_c_9_c q_c_9_d q_x_9_a q_x_9_b q_x_9_c q_x_9_d q_y_9_a q_y_9_b q_y_9_c q_y_9_d
      obtain ⟨g_cb, o_cb, ea_cb, _, _, _⟩ := s_c2.addr (by rw [ints_length, HLY.out]; omega)
      obtain rfl := ea_cb
      have q_c_9_a := st_c.cell0
      have q_c_9_b := st_c.cell1
      have q_c_9_c := st_c.lt
      have q_c_9_d := Nat.ne_of_lt q_c_9_c
      have q_x_9_a := st_x.cell0
      have q_x_9_b := st_x.cell1
      have q_x_9_c := st_x.lt
      have q_x_9_d := Nat.ne_of_lt q_x_9_c
      have q_y_9_a := st_y.cell0
      have q_y_9_b := st_y.cell1
      have q_y_9_c := st_y.lt
      have q_y_9_d := Nat.ne_of_lt q_y_9_c
      clear q_c_9_a q_c_9_b q_c_9_c q_c_9_d q_x_9_a q_x_9_b q_x_9_c q_x_9_d q_y_9_a q_y_9_b q_y_9_c q_y_9_d
      have q_c_9_a := st_c.cell0
      have q_c_9_b := st_c.cell1
      have q_c_9_c := st_c.lt
      have q_c_9_d := Nat.ne_of_lt q_c_9_c
      have q_x_9_a := st_x.cell0
      have q_x_9_b := st_x.cell1
      have q_x_9_c := st_x.lt
      have q_x_9_d := Nat.ne_of_lt q_x_9_c
      have q_y_9_a := st_y.cell0
      have q_y_9_b := st_y.cell1
      have q_y_9_c := st_y.lt
      have q_y_9_d := Nat.ne_of_lt q_y_9_c
      go_wp2_with fail
      clear q_c_9_a q_c_9_b q_c_9_c q_c_9_d q_x_9_a q_x_9_b q_x_9_c q_x_9_d q_y_9_a q_y_9_b q_y_9_c q_y_9_d
      go_loopw [18, 19] (fun n i wr => ∃ k : Nat, k ≤ 16 ∧ i = .int .i64 k ∧ n = .int .i64 (mxTo ys k) ∧ Ext W1 wr) (fun _ i _ => 16 - (intOf i).toNat)
      case atStart => exact ⟨0, Nat.zero_le _, rfl, rfl, Ext.refl _⟩
      case round =>
        obtain ⟨k, hk, rfl, rfl, hq⟩ := hrel
        have t_c := st_c.ext hq
        have t_c0 := t_c.cell0
        have t_c1 := t_c.cell1
        by_cases hlt : k < 16
        · skip
          have k0 := (s_c2.ext hq).cell (ints_a0 (s := ys) (k := k) (by rw [HLY.out]; omega))
          have h2 : (k : Int) < 16 := by omega
          have h3 : (0 : Int) ≤ (k : Int) := by omega
          go_wp2
          go_roundw
          case rel => exact ⟨k + 1, by omega, by go_num, by rw [mxTo_succ], hq⟩
          case measure => simp [intOf]; omega
        · skip
          obtain rfl : k = 16 := by omega
          clear t_c t_c0 t_c1
          replace s_c1 := s_c1.ext hq
          replace s_c2 := s_c2.ext hq
          replace st_c := st_c.ext hq
          replace s_b := s_b.ext hq
          replace s_x := s_x.ext hq
          replace st_x := st_x.ext hq
          replace s_y1 := s_y1.ext hq
          replace s_y2 := s_y2.ext hq
          replace st_y := st_y.ext hq
          replace E := E.trans hq
          have q9a := st_c.cell0
          have q9b := st_c.cell1
          have q9c := st_x.cell0
          have q9d := st_x.cell1
          have q9e := st_y.cell0
          have q9f := st_y.cell1
          go_wp2_with fail
          refine (sameClean_any A_x B_x A_c (some ⟨g_cb, o_cb, none⟩) 16 c_x 16 d_x 16 c_c 16 d_c xs ys xs ys _ HLX.out HLY.out HLX.out HLY.out (by omega) (by omega) s_x.fst.rd s_x.snd.rd s_c1.rd s_c2.rd).mono ?_
          rintro e w10 ⟨rfl, x10⟩
          replace s_c1 := s_c1.ext x10
          replace s_c2 := s_c2.ext x10
          replace st_c := st_c.ext x10
          replace s_b := s_b.ext x10
          replace s_x := s_x.ext x10
          replace st_x := st_x.ext x10
          replace s_y1 := s_y1.ext x10
          replace s_y2 := s_y2.ext x10
          replace st_y := st_y.ext x10
          replace E := E.trans x10
          have q10a := st_c.cell0
          have q10b := st_c.cell1
          have q10e := st_y.cell0
          have q10f := st_y.cell1
          go_wp2
          go_ret
          exact ⟨rfl, E⟩
  case neg =>
    have HM := Lib.hid (HZ.out.2.2.2.2.2 hmx)
    have hmx' : (mxTo ys 16 == 100000) = false := by simpa using hmx
    clear hmx
    go_wp2_with fail
    generalize (w9.alloc (.cells #[.slice A_x 16 c_x, .slice B_x 16 d_x] 25)) = W0 at *
    have HC1 := Lib.hid st_c
    have HS1 := Lib.hid s_c1
    have HS2 := Lib.hid s_c2
    skip
    go_cut [15, 16, 17] (fun v mv qv wx => RunIn W0 xs ys 16 16 0 v mv qv wx)
    case first =>
      go_region_held3 (fun w' => w'.cell? ⟨w1.heap.size, 0, none⟩ = some (.slice A_c 16 c_c) ∧ w'.cell? ⟨w1.heap.size, 1, none⟩ = some (.slice B_c 16 d_c)) (exact ⟨(HC1.out.ext (by repeat (first | (with_reducible exact Ext.refl _) | (with_reducible assumption) | (with_reducible refine Ext.drew ?_) | (with_reducible refine Ext.alloc ?_ _) | (with_reducible refine Ext.setCell ?_ (by (try simp only [World.size_alloc, World.size_drew]); omega) _)))).cell0, (HC1.out.ext (by repeat (first | (with_reducible exact Ext.refl _) | (with_reducible assumption) | (with_reducible refine Ext.drew ?_) | (with_reducible refine Ext.alloc ?_ _) | (with_reducible refine Ext.setCell ?_ (by (try simp only [World.size_alloc, World.size_drew]); omega) _)))).cell1⟩) (first | (go_at_call 23; refine (spot_any 0 100000 _ (by omega)).mono ?_; rintro e w71 ⟨A_sp, c_sp, rfl, s_sp, x71⟩; have E71 : Ext W0 w71 := Ext.trans (by repeat (first | (with_reducible exact Ext.refl _) | (with_reducible assumption) | (with_reducible refine Ext.drew ?_) | (with_reducible refine Ext.alloc ?_ _) | (with_reducible refine Ext.setCell ?_ (by (try simp only [World.size_alloc, World.size_drew]); omega) _))) x71; have z71 := x71.size; (try simp only [World.size_alloc, World.size_drew] at z71)) | (go_at_call 12; refine (cleanRun_any A_c B_c A_sp 16 c_c 16 d_c 16 c_sp xs ys (spotL 0 100000) 5 _ HLX.out HLY.out (spotL_length _ _) (HS1.out.ext (by repeat (first | (with_reducible exact Ext.refl _) | (with_reducible assumption) | (with_reducible refine Ext.drew ?_) | (with_reducible refine Ext.alloc ?_ _) | (with_reducible refine Ext.setCell ?_ (by (try simp only [World.size_alloc, World.size_drew]); omega) _)))).rd (HS2.out.ext (by repeat (first | (with_reducible exact Ext.refl _) | (with_reducible assumption) | (with_reducible refine Ext.drew ?_) | (with_reducible refine Ext.alloc ?_ _) | (with_reducible refine Ext.setCell ?_ (by (try simp only [World.size_alloc, World.size_drew]); omega) _)))).rd (s_sp.ext (by repeat (first | (with_reducible exact Ext.refl _) | (with_reducible assumption) | (with_reducible refine Ext.drew ?_) | (with_reducible refine Ext.alloc ?_ _) | (with_reducible refine Ext.setCell ?_ (by (try simp only [World.size_alloc, World.size_drew]); omega) _)))).rd).mono ?_; rintro e w72 ⟨A_y, c_y, B_y, d_y, rfl, s_y, x72⟩; have E72 : Ext W0 w72 := Ext.trans (by repeat (first | (with_reducible exact Ext.refl _) | (with_reducible assumption) | (with_reducible refine Ext.drew ?_) | (with_reducible refine Ext.alloc ?_ _) | (with_reducible refine Ext.setCell ?_ (by (try simp only [World.size_alloc, World.size_drew]); omega) _))) x72; rw [HZ.out.2.2.2.2.1]; rw [HM.out.1, HM.out.2.1, HLX.out, HLY.out] at s_y; rw [HM.out.1, HM.out.2.1, HM.out.2.2, HLX.out, HLY.out]; (try (refine cutP (P := St w72 (W0.heap.size) #[.slice none 0 0, .slice none 0 0] 25) ?_ ?_; (focus (refine St.ext ?_ x72; (repeat (first | exact St.new _ _ _ | (with_reducible refine st_drew ?_) | (with_reducible refine st_alloc ?_) | (with_reducible refine St.ext ?_ x71))); done)); intro q; have q0 := q.cell0; have q1 := q.cell1; have q2 := q.frozen 0; have q3 := q.frozen 1; have q4 := q.lt; have q5 := Nat.ne_of_lt q4; have Q := Lib.hid q; clear q)); (try (refine cutP (P := St w72 (w71.heap.size) #[.slice none 0 0, .slice none 0 0] 25) ?_ ?_; (focus (refine St.ext ?_ x72; (repeat (first | exact St.new _ _ _ | (with_reducible refine st_drew ?_) | (with_reducible refine st_alloc ?_) | (with_reducible refine St.ext ?_ x71))); done)); intro q; have q0 := q.cell0; have q1 := q.cell1; have q2 := q.frozen 0; have q3 := q.frozen 1; have q4 := q.lt; have q5 := Nat.ne_of_lt q4; have Q := Lib.hid q; clear q))))
      all_goals go_wp2_with fail
      all_goals go_meet
      all_goals first | exact RunIn.put Q.out s_y (by (try simp only [World.size_alloc, World.size_drew]); omega) (by (try simp only [World.size_alloc, World.size_drew]); omega) (by (try simp only [World.size_alloc, World.size_drew]); omega) (by repeat (first | (with_reducible exact Ext.refl _) | (with_reducible assumption) | (with_reducible refine Ext.drew ?_) | (with_reducible refine Ext.alloc ?_ _) | (with_reducible refine Ext.setCell ?_ (by (try simp only [World.size_alloc, World.size_drew]); omega) _))) | exact RunIn.mk' s_y (by (try simp only [World.size_alloc, World.size_drew]); omega) (by repeat (first | (with_reducible exact Ext.refl _) | (with_reducible assumption) | (with_reducible refine Ext.drew ?_) | (with_reducible refine Ext.alloc ?_ _) | (with_reducible refine Ext.setCell ?_ (by (try simp only [World.size_alloc, World.size_drew]); omega) _)))
    case rest =>
      obtain ⟨g_y, A_y, c_y, B_y, d_y, rfl, rfl, rfl, st_y, s_y1, s_y2, x70⟩ := hcut
      rename World => W1
      clear HC1 HS1 HS2
      replace s_c1 := s_c1.ext x70
      replace s_c2 := s_c2.ext x70
      replace st_c := st_c.ext x70
      replace s_b := s_b.ext x70
      replace s_x := s_x.ext x70
      replace st_x := st_x.ext x70
      replace E := E.trans x70
      clear q_c_9_a q_c_9_b q_c_9_c q_c_9_d q_x_9_a q_x_9_b q_x_9_c q_x_9_d
      have q_c_10_a := st_c.cell0
      have q_c_10_b := st_c.cell1
      have q_c_10_c := st_c.lt
      have q_c_10_d := Nat.ne_of_lt q_c_10_c
      have q_x_10_a := st_x.cell0
      have q_x_10_b := st_x.cell1
      have q_x_10_c := st_x.lt
      have q_x_10_d := Nat.ne_of_lt q_x_10_c
      have q_y_10_a := st_y.cell0
      have q_y_10_b := st_y.cell1
      have q_y_10_c := st_y.lt
      have q_y_10_d := Nat.ne_of_lt q_y_10_c
      clear q_c_10_a q_c_10_b q_c_10_c q_c_10_d q_x_10_a q_x_10_b q_x_10_c q_x_10_d q_y_10_a q_y_10_b q_y_10_c q_y_10_d
      obtain ⟨g_cb, o_cb, ea_cb, _, _, _⟩ := s_c2.addr (by rw [ints_length, HLY.out]; omega)
      obtain rfl := ea_cb
      have q_c_10_a := st_c.cell0
      have q_c_10_b := st_c.cell1
      have q_c_10_c := st_c.lt
      have q_c_10_d := Nat.ne_of_lt q_c_10_c
      have q_x_10_a := st_x.cell0
      have q_x_10_b := st_x.cell1
      have q_x_10_c := st_x.lt
      have q_x_10_d := Nat.ne_of_lt q_x_10_c
      have q_y_10_a := st_y.cell0
      have q_y_10_b := st_y.cell1
      have q_y_10_c := st_y.lt
      have q_y_10_d := Nat.ne_of_lt q_y_10_c
      clear q_c_10_a q_c_10_b q_c_10_c q_c_10_d q_x_10_a q_x_10_b q_x_10_c q_x_10_d q_y_10_a q_y_10_b q_y_10_c q_y_10_d
      have q_c_10_a := st_c.cell0
      have q_c_10_b := st_c.cell1
      have q_c_10_c := st_c.lt
      have q_c_10_d := Nat.ne_of_lt q_c_10_c
      have q_x_10_a := st_x.cell0
      have q_x_10_b := st_x.cell1
      have q_x_10_c := st_x.lt
      have q_x_10_d := Nat.ne_of_lt q_x_10_c
      have q_y_10_a := st_y.cell0
      have q_y_10_b := st_y.cell1
      have q_y_10_c := st_y.lt
      have q_y_10_d := Nat.ne_of_lt q_y_10_c
      go_wp2_with fail
      clear q_c_10_a q_c_10_b q_c_10_c q_c_10_d q_x_10_a q_x_10_b q_x_10_c q_x_10_d q_y_10_a q_y_10_b q_y_10_c q_y_10_d
      go_loopw [18, 19] (fun n i wr => ∃ k : Nat, k ≤ 16 ∧ i = .int .i64 k ∧ n = .int .i64 (mxTo ys k) ∧ Ext W1 wr) (fun _ i _ => 16 - (intOf i).toNat)
      case atStart => exact ⟨0, Nat.zero_le _, rfl, rfl, Ext.refl _⟩
      case round =>
        obtain ⟨k, hk, rfl, rfl, hq⟩ := hrel
        have t_c := st_c.ext hq
        have t_c0 := t_c.cell0
        have t_c1 := t_c.cell1
        by_cases hlt : k < 16
        · skip
          have k0 := (s_c2.ext hq).cell (ints_a0 (s := ys) (k := k) (by rw [HLY.out]; omega))
          have h2 : (k : Int) < 16 := by omega
          have h3 : (0 : Int) ≤ (k : Int) := by omega
          go_wp2
          go_roundw
          case rel => exact ⟨k + 1, by omega, by go_num, by rw [mxTo_succ], hq⟩
          case measure => simp [intOf]; omega
        · skip
          obtain rfl : k = 16 := by omega
          clear t_c t_c0 t_c1
          replace s_c1 := s_c1.ext hq
          replace s_c2 := s_c2.ext hq
          replace st_c := st_c.ext hq
          replace s_b := s_b.ext hq
          replace s_x := s_x.ext hq
          replace st_x := st_x.ext hq
          replace s_y1 := s_y1.ext hq
          replace s_y2 := s_y2.ext hq
          replace st_y := st_y.ext hq
          replace E := E.trans hq
          have q9a := st_c.cell0
          have q9b := st_c.cell1
          have q9c := st_x.cell0
          have q9d := st_x.cell1
          have q9e := st_y.cell0
          have q9f := st_y.cell1
          go_wp2_with fail
          refine (sameClean_any A_x B_x A_c (some ⟨g_cb, o_cb, none⟩) 16 c_x 16 d_x 16 c_c 16 d_c xs ys xs ys _ HLX.out HLY.out HLX.out HLY.out (by omega) (by omega) s_x.fst.rd s_x.snd.rd s_c1.rd s_c2.rd).mono ?_
          rintro e w11 ⟨rfl, x11⟩
          replace s_c1 := s_c1.ext x11
          replace s_c2 := s_c2.ext x11
          replace st_c := st_c.ext x11
          replace s_b := s_b.ext x11
          replace s_x := s_x.ext x11
          replace st_x := st_x.ext x11
          replace s_y1 := s_y1.ext x11
          replace s_y2 := s_y2.ext x11
          replace st_y := st_y.ext x11
          replace E := E.trans x11
          have q11a := st_c.cell0
          have q11b := st_c.cell1
          have q11e := st_y.cell0
          have q11f := st_y.cell1
          go_wp2_with fail
          refine (sameClean_any A_y B_y A_c (some ⟨g_cb, o_cb, none⟩) 16 c_y 16 d_y 16 c_c 16 d_c xs ys xs ys _ HLX.out HLY.out HLX.out HLY.out (by omega) (by omega) s_y1.rd s_y2.rd s_c1.rd s_c2.rd).mono ?_
          rintro e w12 ⟨rfl, x12⟩
          replace s_c1 := s_c1.ext x12
          replace s_c2 := s_c2.ext x12
          replace st_c := st_c.ext x12
          replace s_b := s_b.ext x12
          replace s_x := s_x.ext x12
          replace st_x := st_x.ext x12
          replace s_y1 := s_y1.ext x12
          replace s_y2 := s_y2.ext x12
          replace st_y := st_y.ext x12
          replace E := E.trans x12
          have q12a := st_c.cell0
          have q12b := st_c.cell1
          have q12e := st_y.cell0
          have q12f := st_y.cell1
          go_wp2
          go_ret
          exact ⟨rfl, E⟩
end Go.Proofs.Ytbafniaohjjacab.fnCleanNone
