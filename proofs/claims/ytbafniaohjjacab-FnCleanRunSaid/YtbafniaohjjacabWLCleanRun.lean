/-
  The walk of FnCleanRun: it returns true and writes nothing that was there.
-/
import Derived.Test.YtbafniaohjjacabCleanLawB
import Derived.Test.YtbafniaohjjacabDrawClB
import Derived.Test.YtbafniaohjjacabCleanFits
import Derived.Test.YtbafniaohjjacabSkyFns
import Derived.Test.YtbafniaohjjacabCleanRun
namespace Go.Proofs.Ytbafniaohjjacab.fnCleanRun
open Go.RowKit
set_option linter.unusedVariables false

set_option maxRecDepth 100000 in
set_option maxHeartbeats 8000000 in
theorem walk (A0 : Option Addr) (n0 c0 : Nat) (b0 : List Int) (w : World) (hn0 : b0.length = n0) (hm0 : n0 ≤ 9223372036854775807) (h0 : Rd w w.heap.size A0 n0 c0 (b0.map (.int .u8))) (hw0 : ∀ z ∈ b0, 0 ≤ z ∧ z ≤ 255) :
    Calls Try.prog 6 #[.slice A0 n0 c0] w fun e w' => e = .returned (.bool true) ∧ Ext w w' := by
  have HN0 := Lib.hid hn0
  have HW0 := Lib.hid hw0
  clear hn0 hw0
  by_cases hz0 : n0 ≤ 1048576
  case neg =>
    go_enter Try.func6, Try.ntmps6
    go_wp2
    go_ret
    exact ⟨rfl, Ext.refl _⟩
  go_enter Try.func6, Try.ntmps6
  go_wp2_with fail
  refine (drawCleanRun_any A0 n0 c0 b0 _ HN0.out hm0 h0 HW0.out).mono ?_
  rintro e w1 ⟨A_c, c_c, B_c, m_c, d_c, A_b, n_b, c_b, xs, ys, bm, many, rfl, hl_x, hl_y, hb_m, hl_b, hb_n, s_c1, s_c2, s_b, x1⟩
  have HLX := Lib.hid hl_x
  clear hl_x
  have HLY := Lib.hid hl_y
  clear hl_y
  have HLB := Lib.hid hl_b
  clear hl_b
  have E := x1
  have b1 := (Ext.refl w1).alloc (.cells #[.slice A_c 16 c_c, .slice B_c m_c d_c] 25)
  have st_c := St.new w1 #[.slice A_c 16 c_c, .slice B_c m_c d_c] 25
  replace s_c1 := s_c1.ext b1
  replace s_c2 := s_c2.ext b1
  replace s_b := s_b.ext b1
  replace E := E.trans b1
  have q_c_1_a := st_c.cell0
  have q_c_1_b := st_c.cell1
  have q_c_1_c := st_c.lt
  have q_c_1_d := Nat.ne_of_lt q_c_1_c
  have hl1 := crM_length xs ys bm many
  have hl2 := crL_length xs ys bm many
  rcases hv : crB xs ys bm many with _ | _
  case false =>
    have HV := Lib.hid hv
    clear hv
    go_wp2_with fail
    refine (cleanRun_any A_c B_c A_b 16 c_c m_c d_c n_b c_b xs ys bm many _ HLX.out HLY.out HLB.out s_c1.rd s_c2.rd s_b.rd).mono ?_
    rintro e w2 ⟨A_out, c_out, B_out, d_out, rfl, s_out, x2⟩
    replace s_c1 := s_c1.ext x2
    replace s_c2 := s_c2.ext x2
    replace st_c := st_c.ext x2
    replace s_b := s_b.ext x2
    replace E := E.trans x2
    rw [HV.out]
    clear q_c_1_a q_c_1_b q_c_1_c q_c_1_d
    have q_c_2_a := st_c.cell0
    have q_c_2_b := st_c.cell1
    have q_c_2_c := st_c.lt
    have q_c_2_d := Nat.ne_of_lt q_c_2_c
    have b2 := (Ext.refl w2).alloc (.cells #[.slice A_out (crM xs ys bm many).length c_out, .slice B_out (crL xs ys bm many).length d_out] 25)
    have st_out := St.new w2 #[.slice A_out (crM xs ys bm many).length c_out, .slice B_out (crL xs ys bm many).length d_out] 25
    replace s_c1 := s_c1.ext b2
    replace s_c2 := s_c2.ext b2
    replace st_c := st_c.ext b2
    replace s_b := s_b.ext b2
    replace s_out := s_out.ext b2
    replace E := E.trans b2
    clear q_c_2_a q_c_2_b q_c_2_c q_c_2_d
    have q_c_2_a := st_c.cell0
    have q_c_2_b := st_c.cell1
    have q_c_2_c := st_c.lt
    have q_c_2_d := Nat.ne_of_lt q_c_2_c
    have q_out_2_a := st_out.cell0
    have q_out_2_b := st_out.cell1
    have q_out_2_c := st_out.lt
    have q_out_2_d := Nat.ne_of_lt q_out_2_c
    go_wp2_with fail
    refine (specCleanRun_any A_c B_c A_b 16 c_c m_c d_c n_b c_b xs ys bm many _ HLX.out HLY.out HLB.out (by omega) (by omega) (by omega) s_c1.rd s_c2.rd s_b.rd).mono ?_
    rintro e w3 ⟨A_want, c_want, B_want, d_want, rfl, s_want, x3⟩
    replace s_c1 := s_c1.ext x3
    replace s_c2 := s_c2.ext x3
    replace st_c := st_c.ext x3
    replace s_b := s_b.ext x3
    replace s_out := s_out.ext x3
    replace st_out := st_out.ext x3
    replace E := E.trans x3
    rw [HV.out]
    clear q_c_2_a q_c_2_b q_c_2_c q_c_2_d q_out_2_a q_out_2_b q_out_2_c q_out_2_d
    have q_c_3_a := st_c.cell0
    have q_c_3_b := st_c.cell1
    have q_c_3_c := st_c.lt
    have q_c_3_d := Nat.ne_of_lt q_c_3_c
    have q_out_3_a := st_out.cell0
    have q_out_3_b := st_out.cell1
    have q_out_3_c := st_out.lt
    have q_out_3_d := Nat.ne_of_lt q_out_3_c
    have b3 := (Ext.refl w3).alloc (.cells #[.slice A_want (crM xs ys bm many).length c_want, .slice B_want (crL xs ys bm many).length d_want] 25)
    have st_want := St.new w3 #[.slice A_want (crM xs ys bm many).length c_want, .slice B_want (crL xs ys bm many).length d_want] 25
    replace s_c1 := s_c1.ext b3
    replace s_c2 := s_c2.ext b3
    replace st_c := st_c.ext b3
    replace s_b := s_b.ext b3
    replace s_out := s_out.ext b3
    replace st_out := st_out.ext b3
    replace s_want := s_want.ext b3
    replace E := E.trans b3
    clear q_c_3_a q_c_3_b q_c_3_c q_c_3_d q_out_3_a q_out_3_b q_out_3_c q_out_3_d
    have q_c_3_a := st_c.cell0
    have q_c_3_b := st_c.cell1
    have q_c_3_c := st_c.lt
    have q_c_3_d := Nat.ne_of_lt q_c_3_c
    have q_out_3_a := st_out.cell0
    have q_out_3_b := st_out.cell1
    have q_out_3_c := st_out.lt
    have q_out_3_d := Nat.ne_of_lt q_out_3_c
    have q_want_3_a := st_want.cell0
    have q_want_3_b := st_want.cell1
    have q_want_3_c := st_want.lt
    have q_want_3_d := Nat.ne_of_lt q_want_3_c
    go_wp2_with fail
    refine (sameClean_any A_out B_out A_want B_want (crM xs ys bm many).length c_out (crL xs ys bm many).length d_out (crM xs ys bm many).length c_want (crL xs ys bm many).length d_want (crM xs ys bm many) (crL xs ys bm many) (crM xs ys bm many) (crL xs ys bm many) _ rfl rfl rfl rfl (by omega) (by omega) s_out.fst.rd s_out.snd.rd s_want.fst.rd s_want.snd.rd).mono ?_
    rintro e w4 ⟨rfl, x4⟩
    replace s_c1 := s_c1.ext x4
    replace s_c2 := s_c2.ext x4
    replace st_c := st_c.ext x4
    replace s_b := s_b.ext x4
    replace s_out := s_out.ext x4
    replace st_out := st_out.ext x4
    replace s_want := s_want.ext x4
    replace st_want := st_want.ext x4
    replace E := E.trans x4
    clear q_c_3_a q_c_3_b q_c_3_c q_c_3_d q_out_3_a q_out_3_b q_out_3_c q_out_3_d q_want_3_a q_want_3_b q_want_3_c q_want_3_d
    have q_c_4_a := st_c.cell0
    have q_c_4_b := st_c.cell1
    have q_c_4_c := st_c.lt
    have q_c_4_d := Nat.ne_of_lt q_c_4_c
    have q_out_4_a := st_out.cell0
    have q_out_4_b := st_out.cell1
    have q_out_4_c := st_out.lt
    have q_out_4_d := Nat.ne_of_lt q_out_4_c
    have q_want_4_a := st_want.cell0
    have q_want_4_b := st_want.cell1
    have q_want_4_c := st_want.lt
    have q_want_4_d := Nat.ne_of_lt q_want_4_c
    go_wp2_with fail
    refine (sameClean_any A_out B_out A_want B_want (crM xs ys bm many).length c_out (crL xs ys bm many).length d_out (crM xs ys bm many).length c_want (crL xs ys bm many).length d_want (crM xs ys bm many) (crL xs ys bm many) (crM xs ys bm many) (crL xs ys bm many) _ rfl rfl rfl rfl (by omega) (by omega) s_out.fst.rd s_out.snd.rd s_want.fst.rd s_want.snd.rd).mono ?_
    rintro e w5 ⟨rfl, x5⟩
    replace s_c1 := s_c1.ext x5
    replace s_c2 := s_c2.ext x5
    replace st_c := st_c.ext x5
    replace s_b := s_b.ext x5
    replace s_out := s_out.ext x5
    replace st_out := st_out.ext x5
    replace s_want := s_want.ext x5
    replace st_want := st_want.ext x5
    replace E := E.trans x5
    clear q_c_4_a q_c_4_b q_c_4_c q_c_4_d q_out_4_a q_out_4_b q_out_4_c q_out_4_d q_want_4_a q_want_4_b q_want_4_c q_want_4_d
    have q_c_5_a := st_c.cell0
    have q_c_5_b := st_c.cell1
    have q_c_5_c := st_c.lt
    have q_c_5_d := Nat.ne_of_lt q_c_5_c
    have q_out_5_a := st_out.cell0
    have q_out_5_b := st_out.cell1
    have q_out_5_c := st_out.lt
    have q_out_5_d := Nat.ne_of_lt q_out_5_c
    have q_want_5_a := st_want.cell0
    have q_want_5_b := st_want.cell1
    have q_want_5_c := st_want.lt
    have q_want_5_d := Nat.ne_of_lt q_want_5_c
    go_wp2
    go_ret
    exact ⟨rfl, E⟩
  have HV := Lib.hid hv
  clear hv
  have HP := crB_parts HV.out
  obtain rfl : m_c = 16 := by rw [← HLY.out]; exact svB_16 HP.2.1
  obtain rfl : n_b = 16 := by rw [← HLB.out]; exact svB_16 HP.2.2.1
  obtain ⟨K, rfl⟩ := Int.eq_ofNat_of_zero_le HP.2.2.2.1
  have hK : K ≤ 200 := by have := HP.2.2.2.2; omega
  clear HP
  have HR := Lib.hid (run_law HV.out)
  have hN0 := HR.out.2.2.1
  have hN1 := HR.out.2.2.2.1
  go_wp2_with fail
  refine (cleanRun_any A_c B_c A_b 16 c_c 16 d_c 16 c_b xs ys bm (K : Int) _ HLX.out HLY.out HLB.out s_c1.rd s_c2.rd s_b.rd).mono ?_
  rintro e w6 ⟨A_out, c_out, B_out, d_out, rfl, s_out, x6⟩
  replace s_c1 := s_c1.ext x6
  replace s_c2 := s_c2.ext x6
  replace st_c := st_c.ext x6
  replace s_b := s_b.ext x6
  replace E := E.trans x6
  rw [HV.out]
  rw [HR.out.1, HR.out.2.1] at s_out
  rw [HR.out.1, HR.out.2.1]
  clear q_c_1_a q_c_1_b q_c_1_c q_c_1_d
  have q_c_6_a := st_c.cell0
  have q_c_6_b := st_c.cell1
  have q_c_6_c := st_c.lt
  have q_c_6_d := Nat.ne_of_lt q_c_6_c
  have b6 := (Ext.refl w6).alloc (.cells #[.slice A_out 16 c_out, .slice B_out 16 d_out] 25)
  have st_out := St.new w6 #[.slice A_out 16 c_out, .slice B_out 16 d_out] 25
  replace s_c1 := s_c1.ext b6
  replace s_c2 := s_c2.ext b6
  replace st_c := st_c.ext b6
  replace s_b := s_b.ext b6
  replace s_out := s_out.ext b6
  replace E := E.trans b6
  clear q_c_6_a q_c_6_b q_c_6_c q_c_6_d
  have q_c_6_a := st_c.cell0
  have q_c_6_b := st_c.cell1
  have q_c_6_c := st_c.lt
  have q_c_6_d := Nat.ne_of_lt q_c_6_c
  have q_out_6_a := st_out.cell0
  have q_out_6_b := st_out.cell1
  have q_out_6_c := st_out.lt
  have q_out_6_d := Nat.ne_of_lt q_out_6_c
  go_wp2_with fail
  refine (specCleanRun_any A_c B_c A_b 16 c_c 16 d_c 16 c_b xs ys bm (K : Int) _ HLX.out HLY.out HLB.out (by omega) (by omega) (by omega) s_c1.rd s_c2.rd s_b.rd).mono ?_
  rintro e w7 ⟨A_want, c_want, B_want, d_want, rfl, s_want, x7⟩
  replace s_c1 := s_c1.ext x7
  replace s_c2 := s_c2.ext x7
  replace st_c := st_c.ext x7
  replace s_b := s_b.ext x7
  replace s_out := s_out.ext x7
  replace st_out := st_out.ext x7
  replace E := E.trans x7
  rw [HV.out]
  rw [HR.out.1, HR.out.2.1] at s_want
  rw [HR.out.1, HR.out.2.1]
  clear q_c_6_a q_c_6_b q_c_6_c q_c_6_d q_out_6_a q_out_6_b q_out_6_c q_out_6_d
  have q_c_7_a := st_c.cell0
  have q_c_7_b := st_c.cell1
  have q_c_7_c := st_c.lt
  have q_c_7_d := Nat.ne_of_lt q_c_7_c
  have q_out_7_a := st_out.cell0
  have q_out_7_b := st_out.cell1
  have q_out_7_c := st_out.lt
  have q_out_7_d := Nat.ne_of_lt q_out_7_c
  have b7 := (Ext.refl w7).alloc (.cells #[.slice A_want 16 c_want, .slice B_want 16 d_want] 25)
  have st_want := St.new w7 #[.slice A_want 16 c_want, .slice B_want 16 d_want] 25
  replace s_c1 := s_c1.ext b7
  replace s_c2 := s_c2.ext b7
  replace st_c := st_c.ext b7
  replace s_b := s_b.ext b7
  replace s_out := s_out.ext b7
  replace st_out := st_out.ext b7
  replace s_want := s_want.ext b7
  replace E := E.trans b7
  clear q_c_7_a q_c_7_b q_c_7_c q_c_7_d q_out_7_a q_out_7_b q_out_7_c q_out_7_d
  have q_c_7_a := st_c.cell0
  have q_c_7_b := st_c.cell1
  have q_c_7_c := st_c.lt
  have q_c_7_d := Nat.ne_of_lt q_c_7_c
  have q_out_7_a := st_out.cell0
  have q_out_7_b := st_out.cell1
  have q_out_7_c := st_out.lt
  have q_out_7_d := Nat.ne_of_lt q_out_7_c
  have q_want_7_a := st_want.cell0
  have q_want_7_b := st_want.cell1
  have q_want_7_c := st_want.lt
  have q_want_7_d := Nat.ne_of_lt q_want_7_c
  go_wp2_with fail
  refine (sameClean_any A_out B_out A_want B_want 16 c_out 16 d_out 16 c_want 16 d_want (crM xs ys bm (K : Int)) (crL xs ys bm (K : Int)) (crM xs ys bm (K : Int)) (crL xs ys bm (K : Int)) _ HR.out.1 HR.out.2.1 HR.out.1 HR.out.2.1 (by omega) (by omega) s_out.fst.rd s_out.snd.rd s_want.fst.rd s_want.snd.rd).mono ?_
  rintro e w8 ⟨rfl, x8⟩
  replace s_c1 := s_c1.ext x8
  replace s_c2 := s_c2.ext x8
  replace st_c := st_c.ext x8
  replace s_b := s_b.ext x8
  replace s_out := s_out.ext x8
  replace st_out := st_out.ext x8
  replace s_want := s_want.ext x8
  replace st_want := st_want.ext x8
  replace E := E.trans x8
  clear q_c_7_a q_c_7_b q_c_7_c q_c_7_d q_out_7_a q_out_7_b q_out_7_c q_out_7_d q_want_7_a q_want_7_b q_want_7_c q_want_7_d
  have q_c_8_a := st_c.cell0
  have q_c_8_b := st_c.cell1
  have q_c_8_c := st_c.lt
  have q_c_8_d := Nat.ne_of_lt q_c_8_c
  have q_out_8_a := st_out.cell0
  have q_out_8_b := st_out.cell1
  have q_out_8_c := st_out.lt
  have q_out_8_d := Nat.ne_of_lt q_out_8_c
  have q_want_8_a := st_want.cell0
  have q_want_8_b := st_want.cell1
  have q_want_8_c := st_want.lt
  have q_want_8_d := Nat.ne_of_lt q_want_8_c
  clear q_c_8_a q_c_8_b q_c_8_c q_c_8_d q_out_8_a q_out_8_b q_out_8_c q_out_8_d q_want_8_a q_want_8_b q_want_8_c q_want_8_d
  clear s_want st_want
  have q_c_8_a := st_c.cell0
  have q_c_8_b := st_c.cell1
  have q_c_8_c := st_c.lt
  have q_c_8_d := Nat.ne_of_lt q_c_8_c
  have q_out_8_a := st_out.cell0
  have q_out_8_b := st_out.cell1
  have q_out_8_c := st_out.lt
  have q_out_8_d := Nat.ne_of_lt q_out_8_c
  clear hl1 hl2
  have hs1 := csM_length (crM xs ys bm (K : Int)) (crL xs ys bm (K : Int)) bm
  have hs2 := csL_length (crM xs ys bm (K : Int)) (crL xs ys bm (K : Int)) bm
  rcases hp : stB (crM xs ys bm (K : Int)) (crL xs ys bm (K : Int)) bm with _ | _
  case false =>
    have HPP := Lib.hid hp
    clear hp
    go_wp2_with fail
    refine (cleanStep_any A_out B_out A_b 16 c_out 16 d_out 16 c_b (crM xs ys bm (K : Int)) (crL xs ys bm (K : Int)) bm _ HR.out.1 HR.out.2.1 HLB.out s_out.fst.rd s_out.snd.rd s_b.rd).mono ?_
    rintro e w9 ⟨A_p, c_p, B_p, d_p, rfl, s_p, x9⟩
    replace s_c1 := s_c1.ext x9
    replace s_c2 := s_c2.ext x9
    replace st_c := st_c.ext x9
    replace s_b := s_b.ext x9
    replace s_out := s_out.ext x9
    replace st_out := st_out.ext x9
    replace E := E.trans x9
    rw [HPP.out]
    clear q_c_8_a q_c_8_b q_c_8_c q_c_8_d q_out_8_a q_out_8_b q_out_8_c q_out_8_d
    have q_c_9_a := st_c.cell0
    have q_c_9_b := st_c.cell1
    have q_c_9_c := st_c.lt
    have q_c_9_d := Nat.ne_of_lt q_c_9_c
    have q_out_9_a := st_out.cell0
    have q_out_9_b := st_out.cell1
    have q_out_9_c := st_out.lt
    have q_out_9_d := Nat.ne_of_lt q_out_9_c
    have b9 := (Ext.refl w9).alloc (.cells #[.slice A_p (csM (crM xs ys bm (K : Int)) (crL xs ys bm (K : Int)) bm).length c_p, .slice B_p (csL (crM xs ys bm (K : Int)) (crL xs ys bm (K : Int)) bm).length d_p] 25)
    have st_p := St.new w9 #[.slice A_p (csM (crM xs ys bm (K : Int)) (crL xs ys bm (K : Int)) bm).length c_p, .slice B_p (csL (crM xs ys bm (K : Int)) (crL xs ys bm (K : Int)) bm).length d_p] 25
    replace s_c1 := s_c1.ext b9
    replace s_c2 := s_c2.ext b9
    replace st_c := st_c.ext b9
    replace s_b := s_b.ext b9
    replace s_out := s_out.ext b9
    replace st_out := st_out.ext b9
    replace s_p := s_p.ext b9
    replace E := E.trans b9
    clear q_c_9_a q_c_9_b q_c_9_c q_c_9_d q_out_9_a q_out_9_b q_out_9_c q_out_9_d
    have q_c_9_a := st_c.cell0
    have q_c_9_b := st_c.cell1
    have q_c_9_c := st_c.lt
    have q_c_9_d := Nat.ne_of_lt q_c_9_c
    have q_out_9_a := st_out.cell0
    have q_out_9_b := st_out.cell1
    have q_out_9_c := st_out.lt
    have q_out_9_d := Nat.ne_of_lt q_out_9_c
    have q_p_9_a := st_p.cell0
    have q_p_9_b := st_p.cell1
    have q_p_9_c := st_p.lt
    have q_p_9_d := Nat.ne_of_lt q_p_9_c
    by_cases hNK : (crN xs ys bm (K : Int)) < (K : Int)
    all_goals skip
    case pos =>
      clear q_c_9_a q_c_9_b q_c_9_c q_c_9_d q_out_9_a q_out_9_b q_out_9_c q_out_9_d q_p_9_a q_p_9_b q_p_9_c q_p_9_d
      clear s_p st_p
      have q_c_9_a := st_c.cell0
      have q_c_9_b := st_c.cell1
      have q_c_9_c := st_c.lt
      have q_c_9_d := Nat.ne_of_lt q_c_9_c
      have q_out_9_a := st_out.cell0
      have q_out_9_b := st_out.cell1
      have q_out_9_c := st_out.lt
      have q_out_9_d := Nat.ne_of_lt q_out_9_c
      by_cases hg : (crN xs ys bm (K : Int)) = 0
      case pos =>
        have HG := Lib.hid (HR.out.2.2.2.2.2.1 hg)
        have hg' : ((crN xs ys bm (K : Int)) == 0) = true := by simpa using hg
        clear hg
        go_wp2_with fail
        refine (sameClean_any A_out B_out A_c B_c 16 c_out 16 d_out 16 c_c 16 d_c (crM xs ys bm (K : Int)) (crL xs ys bm (K : Int)) xs ys _ HR.out.1 HR.out.2.1 HLX.out HLY.out (by omega) (by omega) s_out.fst.rd s_out.snd.rd s_c1.rd s_c2.rd).mono ?_
        rintro e w10 ⟨rfl, x10⟩
        replace s_c1 := s_c1.ext x10
        replace s_c2 := s_c2.ext x10
        replace st_c := st_c.ext x10
        replace s_b := s_b.ext x10
        replace s_out := s_out.ext x10
        replace st_out := st_out.ext x10
        replace E := E.trans x10
        clear q_c_9_a q_c_9_b q_c_9_c q_c_9_d q_out_9_a q_out_9_b q_out_9_c q_out_9_d
        have q_c_10_a := st_c.cell0
        have q_c_10_b := st_c.cell1
        have q_c_10_c := st_c.lt
        have q_c_10_d := Nat.ne_of_lt q_c_10_c
        have q_out_10_a := st_out.cell0
        have q_out_10_b := st_out.cell1
        have q_out_10_c := st_out.lt
        have q_out_10_d := Nat.ne_of_lt q_out_10_c
        rw [HG.out.1, HG.out.2]
        go_wp2
        go_ret
        exact ⟨rfl, E⟩
      have hg' : ((crN xs ys bm (K : Int)) == 0) = false := by simpa using hg
      have HG := Lib.hid (HR.out.2.2.2.2.2.2 hg)
      clear hg
      go_wp2_with fail
      refine (cleanStep_any A_c B_c A_b 16 c_c 16 d_c 16 c_b xs ys bm _ HLX.out HLY.out HLB.out s_c1.rd s_c2.rd s_b.rd).mono ?_
      rintro e w11 ⟨A_x, c_x, B_x, d_x, rfl, s_x, x11⟩
      replace s_c1 := s_c1.ext x11
      replace s_c2 := s_c2.ext x11
      replace st_c := st_c.ext x11
      replace s_b := s_b.ext x11
      replace s_out := s_out.ext x11
      replace st_out := st_out.ext x11
      replace E := E.trans x11
      rw [HG.out.1]
      rw [(step_yes HG.out.1).1, (step_yes HG.out.1).2.1, stM_length, HLX.out, stL_length] at s_x
      rw [(step_yes HG.out.1).1, (step_yes HG.out.1).2.1, stM_length, HLX.out, stL_length]
      clear q_c_9_a q_c_9_b q_c_9_c q_c_9_d q_out_9_a q_out_9_b q_out_9_c q_out_9_d
      have q_c_11_a := st_c.cell0
      have q_c_11_b := st_c.cell1
      have q_c_11_c := st_c.lt
      have q_c_11_d := Nat.ne_of_lt q_c_11_c
      have q_out_11_a := st_out.cell0
      have q_out_11_b := st_out.cell1
      have q_out_11_c := st_out.lt
      have q_out_11_d := Nat.ne_of_lt q_out_11_c
      have b11 := (Ext.refl w11).alloc (.cells #[.slice A_x 16 c_x, .slice B_x 16 d_x] 25)
      have st_x := St.new w11 #[.slice A_x 16 c_x, .slice B_x 16 d_x] 25
      replace s_c1 := s_c1.ext b11
      replace s_c2 := s_c2.ext b11
      replace st_c := st_c.ext b11
      replace s_b := s_b.ext b11
      replace s_out := s_out.ext b11
      replace st_out := st_out.ext b11
      replace s_x := s_x.ext b11
      replace E := E.trans b11
      clear q_c_11_a q_c_11_b q_c_11_c q_c_11_d q_out_11_a q_out_11_b q_out_11_c q_out_11_d
      have q_c_11_a := st_c.cell0
      have q_c_11_b := st_c.cell1
      have q_c_11_c := st_c.lt
      have q_c_11_d := Nat.ne_of_lt q_c_11_c
      have q_out_11_a := st_out.cell0
      have q_out_11_b := st_out.cell1
      have q_out_11_c := st_out.lt
      have q_out_11_d := Nat.ne_of_lt q_out_11_c
      have q_x_11_a := st_x.cell0
      have q_x_11_b := st_x.cell1
      have q_x_11_c := st_x.lt
      have q_x_11_d := Nat.ne_of_lt q_x_11_c
      go_wp2_with fail
      refine (cleanRun_any A_x B_x A_b 16 c_x 16 d_x 16 c_b (stM xs ys bm) (stL ys bm) bm ((K : Int) - 1) _ (by rw [stM_length, HLX.out]) stL_length HLB.out s_x.fst.rd s_x.snd.rd s_b.rd).mono ?_
      rintro e w12 ⟨A_y, c_y, B_y, d_y, rfl, s_y, x12⟩
      replace s_c1 := s_c1.ext x12
      replace s_c2 := s_c2.ext x12
      replace st_c := st_c.ext x12
      replace s_b := s_b.ext x12
      replace s_out := s_out.ext x12
      replace st_out := st_out.ext x12
      replace s_x := s_x.ext x12
      replace st_x := st_x.ext x12
      replace E := E.trans x12
      rw [HG.out.2.1]
      rw [HG.out.2.2.1, HG.out.2.2.2.1, HR.out.1, HR.out.2.1] at s_y
      rw [HG.out.2.2.1, HG.out.2.2.2.1, HR.out.1, HR.out.2.1, HG.out.2.2.2.2]
      clear q_c_11_a q_c_11_b q_c_11_c q_c_11_d q_out_11_a q_out_11_b q_out_11_c q_out_11_d q_x_11_a q_x_11_b q_x_11_c q_x_11_d
      have q_c_12_a := st_c.cell0
      have q_c_12_b := st_c.cell1
      have q_c_12_c := st_c.lt
      have q_c_12_d := Nat.ne_of_lt q_c_12_c
      have q_out_12_a := st_out.cell0
      have q_out_12_b := st_out.cell1
      have q_out_12_c := st_out.lt
      have q_out_12_d := Nat.ne_of_lt q_out_12_c
      have q_x_12_a := st_x.cell0
      have q_x_12_b := st_x.cell1
      have q_x_12_c := st_x.lt
      have q_x_12_d := Nat.ne_of_lt q_x_12_c
      have b12 := (Ext.refl w12).alloc (.cells #[.slice A_y 16 c_y, .slice B_y 16 d_y] 25)
      have st_y := St.new w12 #[.slice A_y 16 c_y, .slice B_y 16 d_y] 25
      replace s_c1 := s_c1.ext b12
      replace s_c2 := s_c2.ext b12
      replace st_c := st_c.ext b12
      replace s_b := s_b.ext b12
      replace s_out := s_out.ext b12
      replace st_out := st_out.ext b12
      replace s_x := s_x.ext b12
      replace st_x := st_x.ext b12
      replace s_y := s_y.ext b12
      replace E := E.trans b12
      clear q_c_12_a q_c_12_b q_c_12_c q_c_12_d q_out_12_a q_out_12_b q_out_12_c q_out_12_d q_x_12_a q_x_12_b q_x_12_c q_x_12_d
      have q_c_12_a := st_c.cell0
      have q_c_12_b := st_c.cell1
      have q_c_12_c := st_c.lt
      have q_c_12_d := Nat.ne_of_lt q_c_12_c
      have q_out_12_a := st_out.cell0
      have q_out_12_b := st_out.cell1
      have q_out_12_c := st_out.lt
      have q_out_12_d := Nat.ne_of_lt q_out_12_c
      have q_x_12_a := st_x.cell0
      have q_x_12_b := st_x.cell1
      have q_x_12_c := st_x.lt
      have q_x_12_d := Nat.ne_of_lt q_x_12_c
      have q_y_12_a := st_y.cell0
      have q_y_12_b := st_y.cell1
      have q_y_12_c := st_y.lt
      have q_y_12_d := Nat.ne_of_lt q_y_12_c
      go_wp2_with fail
      refine (sameClean_any A_y B_y A_out B_out 16 c_y 16 d_y 16 c_out 16 d_out (crM xs ys bm (K : Int)) (crL xs ys bm (K : Int)) (crM xs ys bm (K : Int)) (crL xs ys bm (K : Int)) _ HR.out.1 HR.out.2.1 HR.out.1 HR.out.2.1 (by omega) (by omega) s_y.fst.rd s_y.snd.rd s_out.fst.rd s_out.snd.rd).mono ?_
      rintro e w13 ⟨rfl, x13⟩
      replace s_c1 := s_c1.ext x13
      replace s_c2 := s_c2.ext x13
      replace st_c := st_c.ext x13
      replace s_b := s_b.ext x13
      replace s_out := s_out.ext x13
      replace st_out := st_out.ext x13
      replace s_x := s_x.ext x13
      replace st_x := st_x.ext x13
      replace s_y := s_y.ext x13
      replace st_y := st_y.ext x13
      replace E := E.trans x13
      clear q_c_12_a q_c_12_b q_c_12_c q_c_12_d q_out_12_a q_out_12_b q_out_12_c q_out_12_d q_x_12_a q_x_12_b q_x_12_c q_x_12_d q_y_12_a q_y_12_b q_y_12_c q_y_12_d
      have q_c_13_a := st_c.cell0
      have q_c_13_b := st_c.cell1
      have q_c_13_c := st_c.lt
      have q_c_13_d := Nat.ne_of_lt q_c_13_c
      have q_out_13_a := st_out.cell0
      have q_out_13_b := st_out.cell1
      have q_out_13_c := st_out.lt
      have q_out_13_d := Nat.ne_of_lt q_out_13_c
      have q_x_13_a := st_x.cell0
      have q_x_13_b := st_x.cell1
      have q_x_13_c := st_x.lt
      have q_x_13_d := Nat.ne_of_lt q_x_13_c
      have q_y_13_a := st_y.cell0
      have q_y_13_b := st_y.cell1
      have q_y_13_c := st_y.lt
      have q_y_13_d := Nat.ne_of_lt q_y_13_c
      go_wp2
      go_ret
      exact ⟨rfl, E⟩
    case neg =>
      have hNK' : decide ((crN xs ys bm (K : Int)) < (K : Int)) = false := by simpa using hNK
      clear q_c_9_a q_c_9_b q_c_9_c q_c_9_d q_out_9_a q_out_9_b q_out_9_c q_out_9_d q_p_9_a q_p_9_b q_p_9_c q_p_9_d
      clear s_p st_p
      have q_c_13_a := st_c.cell0
      have q_c_13_b := st_c.cell1
      have q_c_13_c := st_c.lt
      have q_c_13_d := Nat.ne_of_lt q_c_13_c
      have q_out_13_a := st_out.cell0
      have q_out_13_b := st_out.cell1
      have q_out_13_c := st_out.lt
      have q_out_13_d := Nat.ne_of_lt q_out_13_c
      by_cases hg : (crN xs ys bm (K : Int)) = 0
      case pos =>
        have HG := Lib.hid (HR.out.2.2.2.2.2.1 hg)
        have hg' : ((crN xs ys bm (K : Int)) == 0) = true := by simpa using hg
        clear hg
        go_wp2_with fail
        refine (sameClean_any A_out B_out A_c B_c 16 c_out 16 d_out 16 c_c 16 d_c (crM xs ys bm (K : Int)) (crL xs ys bm (K : Int)) xs ys _ HR.out.1 HR.out.2.1 HLX.out HLY.out (by omega) (by omega) s_out.fst.rd s_out.snd.rd s_c1.rd s_c2.rd).mono ?_
        rintro e w14 ⟨rfl, x14⟩
        replace s_c1 := s_c1.ext x14
        replace s_c2 := s_c2.ext x14
        replace st_c := st_c.ext x14
        replace s_b := s_b.ext x14
        replace s_out := s_out.ext x14
        replace st_out := st_out.ext x14
        replace E := E.trans x14
        clear q_c_13_a q_c_13_b q_c_13_c q_c_13_d q_out_13_a q_out_13_b q_out_13_c q_out_13_d
        have q_c_14_a := st_c.cell0
        have q_c_14_b := st_c.cell1
        have q_c_14_c := st_c.lt
        have q_c_14_d := Nat.ne_of_lt q_c_14_c
        have q_out_14_a := st_out.cell0
        have q_out_14_b := st_out.cell1
        have q_out_14_c := st_out.lt
        have q_out_14_d := Nat.ne_of_lt q_out_14_c
        rw [HG.out.1, HG.out.2]
        go_wp2
        go_ret
        exact ⟨rfl, E⟩
      have hg' : ((crN xs ys bm (K : Int)) == 0) = false := by simpa using hg
      have HG := Lib.hid (HR.out.2.2.2.2.2.2 hg)
      clear hg
      go_wp2_with fail
      refine (cleanStep_any A_c B_c A_b 16 c_c 16 d_c 16 c_b xs ys bm _ HLX.out HLY.out HLB.out s_c1.rd s_c2.rd s_b.rd).mono ?_
      rintro e w15 ⟨A_x, c_x, B_x, d_x, rfl, s_x, x15⟩
      replace s_c1 := s_c1.ext x15
      replace s_c2 := s_c2.ext x15
      replace st_c := st_c.ext x15
      replace s_b := s_b.ext x15
      replace s_out := s_out.ext x15
      replace st_out := st_out.ext x15
      replace E := E.trans x15
      rw [HG.out.1]
      rw [(step_yes HG.out.1).1, (step_yes HG.out.1).2.1, stM_length, HLX.out, stL_length] at s_x
      rw [(step_yes HG.out.1).1, (step_yes HG.out.1).2.1, stM_length, HLX.out, stL_length]
      clear q_c_13_a q_c_13_b q_c_13_c q_c_13_d q_out_13_a q_out_13_b q_out_13_c q_out_13_d
      have q_c_15_a := st_c.cell0
      have q_c_15_b := st_c.cell1
      have q_c_15_c := st_c.lt
      have q_c_15_d := Nat.ne_of_lt q_c_15_c
      have q_out_15_a := st_out.cell0
      have q_out_15_b := st_out.cell1
      have q_out_15_c := st_out.lt
      have q_out_15_d := Nat.ne_of_lt q_out_15_c
      have b15 := (Ext.refl w15).alloc (.cells #[.slice A_x 16 c_x, .slice B_x 16 d_x] 25)
      have st_x := St.new w15 #[.slice A_x 16 c_x, .slice B_x 16 d_x] 25
      replace s_c1 := s_c1.ext b15
      replace s_c2 := s_c2.ext b15
      replace st_c := st_c.ext b15
      replace s_b := s_b.ext b15
      replace s_out := s_out.ext b15
      replace st_out := st_out.ext b15
      replace s_x := s_x.ext b15
      replace E := E.trans b15
      clear q_c_15_a q_c_15_b q_c_15_c q_c_15_d q_out_15_a q_out_15_b q_out_15_c q_out_15_d
      have q_c_15_a := st_c.cell0
      have q_c_15_b := st_c.cell1
      have q_c_15_c := st_c.lt
      have q_c_15_d := Nat.ne_of_lt q_c_15_c
      have q_out_15_a := st_out.cell0
      have q_out_15_b := st_out.cell1
      have q_out_15_c := st_out.lt
      have q_out_15_d := Nat.ne_of_lt q_out_15_c
      have q_x_15_a := st_x.cell0
      have q_x_15_b := st_x.cell1
      have q_x_15_c := st_x.lt
      have q_x_15_d := Nat.ne_of_lt q_x_15_c
      go_wp2_with fail
      refine (cleanRun_any A_x B_x A_b 16 c_x 16 d_x 16 c_b (stM xs ys bm) (stL ys bm) bm ((K : Int) - 1) _ (by rw [stM_length, HLX.out]) stL_length HLB.out s_x.fst.rd s_x.snd.rd s_b.rd).mono ?_
      rintro e w16 ⟨A_y, c_y, B_y, d_y, rfl, s_y, x16⟩
      replace s_c1 := s_c1.ext x16
      replace s_c2 := s_c2.ext x16
      replace st_c := st_c.ext x16
      replace s_b := s_b.ext x16
      replace s_out := s_out.ext x16
      replace st_out := st_out.ext x16
      replace s_x := s_x.ext x16
      replace st_x := st_x.ext x16
      replace E := E.trans x16
      rw [HG.out.2.1]
      rw [HG.out.2.2.1, HG.out.2.2.2.1, HR.out.1, HR.out.2.1] at s_y
      rw [HG.out.2.2.1, HG.out.2.2.2.1, HR.out.1, HR.out.2.1, HG.out.2.2.2.2]
      clear q_c_15_a q_c_15_b q_c_15_c q_c_15_d q_out_15_a q_out_15_b q_out_15_c q_out_15_d q_x_15_a q_x_15_b q_x_15_c q_x_15_d
      have q_c_16_a := st_c.cell0
      have q_c_16_b := st_c.cell1
      have q_c_16_c := st_c.lt
      have q_c_16_d := Nat.ne_of_lt q_c_16_c
      have q_out_16_a := st_out.cell0
      have q_out_16_b := st_out.cell1
      have q_out_16_c := st_out.lt
      have q_out_16_d := Nat.ne_of_lt q_out_16_c
      have q_x_16_a := st_x.cell0
      have q_x_16_b := st_x.cell1
      have q_x_16_c := st_x.lt
      have q_x_16_d := Nat.ne_of_lt q_x_16_c
      have b16 := (Ext.refl w16).alloc (.cells #[.slice A_y 16 c_y, .slice B_y 16 d_y] 25)
      have st_y := St.new w16 #[.slice A_y 16 c_y, .slice B_y 16 d_y] 25
      replace s_c1 := s_c1.ext b16
      replace s_c2 := s_c2.ext b16
      replace st_c := st_c.ext b16
      replace s_b := s_b.ext b16
      replace s_out := s_out.ext b16
      replace st_out := st_out.ext b16
      replace s_x := s_x.ext b16
      replace st_x := st_x.ext b16
      replace s_y := s_y.ext b16
      replace E := E.trans b16
      clear q_c_16_a q_c_16_b q_c_16_c q_c_16_d q_out_16_a q_out_16_b q_out_16_c q_out_16_d q_x_16_a q_x_16_b q_x_16_c q_x_16_d
      have q_c_16_a := st_c.cell0
      have q_c_16_b := st_c.cell1
      have q_c_16_c := st_c.lt
      have q_c_16_d := Nat.ne_of_lt q_c_16_c
      have q_out_16_a := st_out.cell0
      have q_out_16_b := st_out.cell1
      have q_out_16_c := st_out.lt
      have q_out_16_d := Nat.ne_of_lt q_out_16_c
      have q_x_16_a := st_x.cell0
      have q_x_16_b := st_x.cell1
      have q_x_16_c := st_x.lt
      have q_x_16_d := Nat.ne_of_lt q_x_16_c
      have q_y_16_a := st_y.cell0
      have q_y_16_b := st_y.cell1
      have q_y_16_c := st_y.lt
      have q_y_16_d := Nat.ne_of_lt q_y_16_c
      go_wp2_with fail
      refine (sameClean_any A_y B_y A_out B_out 16 c_y 16 d_y 16 c_out 16 d_out (crM xs ys bm (K : Int)) (crL xs ys bm (K : Int)) (crM xs ys bm (K : Int)) (crL xs ys bm (K : Int)) _ HR.out.1 HR.out.2.1 HR.out.1 HR.out.2.1 (by omega) (by omega) s_y.fst.rd s_y.snd.rd s_out.fst.rd s_out.snd.rd).mono ?_
      rintro e w17 ⟨rfl, x17⟩
      replace s_c1 := s_c1.ext x17
      replace s_c2 := s_c2.ext x17
      replace st_c := st_c.ext x17
      replace s_b := s_b.ext x17
      replace s_out := s_out.ext x17
      replace st_out := st_out.ext x17
      replace s_x := s_x.ext x17
      replace st_x := st_x.ext x17
      replace s_y := s_y.ext x17
      replace st_y := st_y.ext x17
      replace E := E.trans x17
      clear q_c_16_a q_c_16_b q_c_16_c q_c_16_d q_out_16_a q_out_16_b q_out_16_c q_out_16_d q_x_16_a q_x_16_b q_x_16_c q_x_16_d q_y_16_a q_y_16_b q_y_16_c q_y_16_d
      have q_c_17_a := st_c.cell0
      have q_c_17_b := st_c.cell1
      have q_c_17_c := st_c.lt
      have q_c_17_d := Nat.ne_of_lt q_c_17_c
      have q_out_17_a := st_out.cell0
      have q_out_17_b := st_out.cell1
      have q_out_17_c := st_out.lt
      have q_out_17_d := Nat.ne_of_lt q_out_17_c
      have q_x_17_a := st_x.cell0
      have q_x_17_b := st_x.cell1
      have q_x_17_c := st_x.lt
      have q_x_17_d := Nat.ne_of_lt q_x_17_c
      have q_y_17_a := st_y.cell0
      have q_y_17_b := st_y.cell1
      have q_y_17_c := st_y.lt
      have q_y_17_d := Nat.ne_of_lt q_y_17_c
      go_wp2
      go_ret
      exact ⟨rfl, E⟩
  case true =>
    have HPP := Lib.hid hp
    have hNK : ¬ (crN xs ys bm (K : Int)) < (K : Int) := fun h => by have := HR.out.2.2.2.2.1 h; rw [hp] at this; cases this
    have hNK' : decide ((crN xs ys bm (K : Int)) < (K : Int)) = false := by simpa using hNK
    clear hp
    go_wp2_with fail
    refine (cleanStep_any A_out B_out A_b 16 c_out 16 d_out 16 c_b (crM xs ys bm (K : Int)) (crL xs ys bm (K : Int)) bm _ HR.out.1 HR.out.2.1 HLB.out s_out.fst.rd s_out.snd.rd s_b.rd).mono ?_
    rintro e w18 ⟨A_p, c_p, B_p, d_p, rfl, s_p, x18⟩
    replace s_c1 := s_c1.ext x18
    replace s_c2 := s_c2.ext x18
    replace st_c := st_c.ext x18
    replace s_b := s_b.ext x18
    replace s_out := s_out.ext x18
    replace st_out := st_out.ext x18
    replace E := E.trans x18
    rw [HPP.out]
    clear q_c_8_a q_c_8_b q_c_8_c q_c_8_d q_out_8_a q_out_8_b q_out_8_c q_out_8_d
    have q_c_18_a := st_c.cell0
    have q_c_18_b := st_c.cell1
    have q_c_18_c := st_c.lt
    have q_c_18_d := Nat.ne_of_lt q_c_18_c
    have q_out_18_a := st_out.cell0
    have q_out_18_b := st_out.cell1
    have q_out_18_c := st_out.lt
    have q_out_18_d := Nat.ne_of_lt q_out_18_c
    have b18 := (Ext.refl w18).alloc (.cells #[.slice A_p (csM (crM xs ys bm (K : Int)) (crL xs ys bm (K : Int)) bm).length c_p, .slice B_p (csL (crM xs ys bm (K : Int)) (crL xs ys bm (K : Int)) bm).length d_p] 25)
    have st_p := St.new w18 #[.slice A_p (csM (crM xs ys bm (K : Int)) (crL xs ys bm (K : Int)) bm).length c_p, .slice B_p (csL (crM xs ys bm (K : Int)) (crL xs ys bm (K : Int)) bm).length d_p] 25
    replace s_c1 := s_c1.ext b18
    replace s_c2 := s_c2.ext b18
    replace st_c := st_c.ext b18
    replace s_b := s_b.ext b18
    replace s_out := s_out.ext b18
    replace st_out := st_out.ext b18
    replace s_p := s_p.ext b18
    replace E := E.trans b18
    clear q_c_18_a q_c_18_b q_c_18_c q_c_18_d q_out_18_a q_out_18_b q_out_18_c q_out_18_d
    have q_c_18_a := st_c.cell0
    have q_c_18_b := st_c.cell1
    have q_c_18_c := st_c.lt
    have q_c_18_d := Nat.ne_of_lt q_c_18_c
    have q_out_18_a := st_out.cell0
    have q_out_18_b := st_out.cell1
    have q_out_18_c := st_out.lt
    have q_out_18_d := Nat.ne_of_lt q_out_18_c
    have q_p_18_a := st_p.cell0
    have q_p_18_b := st_p.cell1
    have q_p_18_c := st_p.lt
    have q_p_18_d := Nat.ne_of_lt q_p_18_c
    clear q_c_18_a q_c_18_b q_c_18_c q_c_18_d q_out_18_a q_out_18_b q_out_18_c q_out_18_d q_p_18_a q_p_18_b q_p_18_c q_p_18_d
    clear s_p st_p
    have q_c_18_a := st_c.cell0
    have q_c_18_b := st_c.cell1
    have q_c_18_c := st_c.lt
    have q_c_18_d := Nat.ne_of_lt q_c_18_c
    have q_out_18_a := st_out.cell0
    have q_out_18_b := st_out.cell1
    have q_out_18_c := st_out.lt
    have q_out_18_d := Nat.ne_of_lt q_out_18_c
    by_cases hg : (crN xs ys bm (K : Int)) = 0
    case pos =>
      have HG := Lib.hid (HR.out.2.2.2.2.2.1 hg)
      have hg' : ((crN xs ys bm (K : Int)) == 0) = true := by simpa using hg
      clear hg
      go_wp2_with fail
      refine (sameClean_any A_out B_out A_c B_c 16 c_out 16 d_out 16 c_c 16 d_c (crM xs ys bm (K : Int)) (crL xs ys bm (K : Int)) xs ys _ HR.out.1 HR.out.2.1 HLX.out HLY.out (by omega) (by omega) s_out.fst.rd s_out.snd.rd s_c1.rd s_c2.rd).mono ?_
      rintro e w19 ⟨rfl, x19⟩
      replace s_c1 := s_c1.ext x19
      replace s_c2 := s_c2.ext x19
      replace st_c := st_c.ext x19
      replace s_b := s_b.ext x19
      replace s_out := s_out.ext x19
      replace st_out := st_out.ext x19
      replace E := E.trans x19
      clear q_c_18_a q_c_18_b q_c_18_c q_c_18_d q_out_18_a q_out_18_b q_out_18_c q_out_18_d
      have q_c_19_a := st_c.cell0
      have q_c_19_b := st_c.cell1
      have q_c_19_c := st_c.lt
      have q_c_19_d := Nat.ne_of_lt q_c_19_c
      have q_out_19_a := st_out.cell0
      have q_out_19_b := st_out.cell1
      have q_out_19_c := st_out.lt
      have q_out_19_d := Nat.ne_of_lt q_out_19_c
      rw [HG.out.1, HG.out.2]
      go_wp2
      go_ret
      exact ⟨rfl, E⟩
    have hg' : ((crN xs ys bm (K : Int)) == 0) = false := by simpa using hg
    have HG := Lib.hid (HR.out.2.2.2.2.2.2 hg)
    clear hg
    go_wp2_with fail
    refine (cleanStep_any A_c B_c A_b 16 c_c 16 d_c 16 c_b xs ys bm _ HLX.out HLY.out HLB.out s_c1.rd s_c2.rd s_b.rd).mono ?_
    rintro e w20 ⟨A_x, c_x, B_x, d_x, rfl, s_x, x20⟩
    replace s_c1 := s_c1.ext x20
    replace s_c2 := s_c2.ext x20
    replace st_c := st_c.ext x20
    replace s_b := s_b.ext x20
    replace s_out := s_out.ext x20
    replace st_out := st_out.ext x20
    replace E := E.trans x20
    rw [HG.out.1]
    rw [(step_yes HG.out.1).1, (step_yes HG.out.1).2.1, stM_length, HLX.out, stL_length] at s_x
    rw [(step_yes HG.out.1).1, (step_yes HG.out.1).2.1, stM_length, HLX.out, stL_length]
    clear q_c_18_a q_c_18_b q_c_18_c q_c_18_d q_out_18_a q_out_18_b q_out_18_c q_out_18_d
    have q_c_20_a := st_c.cell0
    have q_c_20_b := st_c.cell1
    have q_c_20_c := st_c.lt
    have q_c_20_d := Nat.ne_of_lt q_c_20_c
    have q_out_20_a := st_out.cell0
    have q_out_20_b := st_out.cell1
    have q_out_20_c := st_out.lt
    have q_out_20_d := Nat.ne_of_lt q_out_20_c
    have b20 := (Ext.refl w20).alloc (.cells #[.slice A_x 16 c_x, .slice B_x 16 d_x] 25)
    have st_x := St.new w20 #[.slice A_x 16 c_x, .slice B_x 16 d_x] 25
    replace s_c1 := s_c1.ext b20
    replace s_c2 := s_c2.ext b20
    replace st_c := st_c.ext b20
    replace s_b := s_b.ext b20
    replace s_out := s_out.ext b20
    replace st_out := st_out.ext b20
    replace s_x := s_x.ext b20
    replace E := E.trans b20
    clear q_c_20_a q_c_20_b q_c_20_c q_c_20_d q_out_20_a q_out_20_b q_out_20_c q_out_20_d
    have q_c_20_a := st_c.cell0
    have q_c_20_b := st_c.cell1
    have q_c_20_c := st_c.lt
    have q_c_20_d := Nat.ne_of_lt q_c_20_c
    have q_out_20_a := st_out.cell0
    have q_out_20_b := st_out.cell1
    have q_out_20_c := st_out.lt
    have q_out_20_d := Nat.ne_of_lt q_out_20_c
    have q_x_20_a := st_x.cell0
    have q_x_20_b := st_x.cell1
    have q_x_20_c := st_x.lt
    have q_x_20_d := Nat.ne_of_lt q_x_20_c
    go_wp2_with fail
    refine (cleanRun_any A_x B_x A_b 16 c_x 16 d_x 16 c_b (stM xs ys bm) (stL ys bm) bm ((K : Int) - 1) _ (by rw [stM_length, HLX.out]) stL_length HLB.out s_x.fst.rd s_x.snd.rd s_b.rd).mono ?_
    rintro e w21 ⟨A_y, c_y, B_y, d_y, rfl, s_y, x21⟩
    replace s_c1 := s_c1.ext x21
    replace s_c2 := s_c2.ext x21
    replace st_c := st_c.ext x21
    replace s_b := s_b.ext x21
    replace s_out := s_out.ext x21
    replace st_out := st_out.ext x21
    replace s_x := s_x.ext x21
    replace st_x := st_x.ext x21
    replace E := E.trans x21
    rw [HG.out.2.1]
    rw [HG.out.2.2.1, HG.out.2.2.2.1, HR.out.1, HR.out.2.1] at s_y
    rw [HG.out.2.2.1, HG.out.2.2.2.1, HR.out.1, HR.out.2.1, HG.out.2.2.2.2]
    clear q_c_20_a q_c_20_b q_c_20_c q_c_20_d q_out_20_a q_out_20_b q_out_20_c q_out_20_d q_x_20_a q_x_20_b q_x_20_c q_x_20_d
    have q_c_21_a := st_c.cell0
    have q_c_21_b := st_c.cell1
    have q_c_21_c := st_c.lt
    have q_c_21_d := Nat.ne_of_lt q_c_21_c
    have q_out_21_a := st_out.cell0
    have q_out_21_b := st_out.cell1
    have q_out_21_c := st_out.lt
    have q_out_21_d := Nat.ne_of_lt q_out_21_c
    have q_x_21_a := st_x.cell0
    have q_x_21_b := st_x.cell1
    have q_x_21_c := st_x.lt
    have q_x_21_d := Nat.ne_of_lt q_x_21_c
    have b21 := (Ext.refl w21).alloc (.cells #[.slice A_y 16 c_y, .slice B_y 16 d_y] 25)
    have st_y := St.new w21 #[.slice A_y 16 c_y, .slice B_y 16 d_y] 25
    replace s_c1 := s_c1.ext b21
    replace s_c2 := s_c2.ext b21
    replace st_c := st_c.ext b21
    replace s_b := s_b.ext b21
    replace s_out := s_out.ext b21
    replace st_out := st_out.ext b21
    replace s_x := s_x.ext b21
    replace st_x := st_x.ext b21
    replace s_y := s_y.ext b21
    replace E := E.trans b21
    clear q_c_21_a q_c_21_b q_c_21_c q_c_21_d q_out_21_a q_out_21_b q_out_21_c q_out_21_d q_x_21_a q_x_21_b q_x_21_c q_x_21_d
    have q_c_21_a := st_c.cell0
    have q_c_21_b := st_c.cell1
    have q_c_21_c := st_c.lt
    have q_c_21_d := Nat.ne_of_lt q_c_21_c
    have q_out_21_a := st_out.cell0
    have q_out_21_b := st_out.cell1
    have q_out_21_c := st_out.lt
    have q_out_21_d := Nat.ne_of_lt q_out_21_c
    have q_x_21_a := st_x.cell0
    have q_x_21_b := st_x.cell1
    have q_x_21_c := st_x.lt
    have q_x_21_d := Nat.ne_of_lt q_x_21_c
    have q_y_21_a := st_y.cell0
    have q_y_21_b := st_y.cell1
    have q_y_21_c := st_y.lt
    have q_y_21_d := Nat.ne_of_lt q_y_21_c
    go_wp2_with fail
    refine (sameClean_any A_y B_y A_out B_out 16 c_y 16 d_y 16 c_out 16 d_out (crM xs ys bm (K : Int)) (crL xs ys bm (K : Int)) (crM xs ys bm (K : Int)) (crL xs ys bm (K : Int)) _ HR.out.1 HR.out.2.1 HR.out.1 HR.out.2.1 (by omega) (by omega) s_y.fst.rd s_y.snd.rd s_out.fst.rd s_out.snd.rd).mono ?_
    rintro e w22 ⟨rfl, x22⟩
    replace s_c1 := s_c1.ext x22
    replace s_c2 := s_c2.ext x22
    replace st_c := st_c.ext x22
    replace s_b := s_b.ext x22
    replace s_out := s_out.ext x22
    replace st_out := st_out.ext x22
    replace s_x := s_x.ext x22
    replace st_x := st_x.ext x22
    replace s_y := s_y.ext x22
    replace st_y := st_y.ext x22
    replace E := E.trans x22
    clear q_c_21_a q_c_21_b q_c_21_c q_c_21_d q_out_21_a q_out_21_b q_out_21_c q_out_21_d q_x_21_a q_x_21_b q_x_21_c q_x_21_d q_y_21_a q_y_21_b q_y_21_c q_y_21_d
    have q_c_22_a := st_c.cell0
    have q_c_22_b := st_c.cell1
    have q_c_22_c := st_c.lt
    have q_c_22_d := Nat.ne_of_lt q_c_22_c
    have q_out_22_a := st_out.cell0
    have q_out_22_b := st_out.cell1
    have q_out_22_c := st_out.lt
    have q_out_22_d := Nat.ne_of_lt q_out_22_c
    have q_x_22_a := st_x.cell0
    have q_x_22_b := st_x.cell1
    have q_x_22_c := st_x.lt
    have q_x_22_d := Nat.ne_of_lt q_x_22_c
    have q_y_22_a := st_y.cell0
    have q_y_22_b := st_y.cell1
    have q_y_22_c := st_y.lt
    have q_y_22_d := Nat.ne_of_lt q_y_22_c
    go_wp2
    go_ret
    exact ⟨rfl, E⟩
end Go.Proofs.Ytbafniaohjjacab.fnCleanRun
