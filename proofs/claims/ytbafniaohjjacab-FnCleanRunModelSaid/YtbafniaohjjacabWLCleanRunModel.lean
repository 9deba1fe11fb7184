/-
  The walk of FnCleanRunModel: it returns true and writes nothing that was there.
-/
import Derived.Test.YtbafniaohjjacabCleanLawB
import Derived.Test.YtbafniaohjjacabDrawClB
import Derived.Test.YtbafniaohjjacabCleanFits
import Derived.Test.YtbafniaohjjacabSkyFns
import Derived.Test.YtbafniaohjjacabCleanRun
namespace Go.Proofs.Ytbafniaohjjacab.fnCleanRunModel
open Go.RowKit
set_option linter.unusedVariables false

set_option maxRecDepth 100000 in
set_option maxHeartbeats 8000000 in
theorem walk (A0 : Option Addr) (n0 c0 : Nat) (b0 : List Int) (w : World) (hn0 : b0.length = n0) (hm0 : n0 ≤ 9223372036854775807) (h0 : Rd w w.heap.size A0 n0 c0 (b0.map (.int .u8))) (hw0 : ∀ z ∈ b0, 0 ≤ z ∧ z ≤ 255) :
    Calls Try.prog 7 #[.slice A0 n0 c0] w fun e w' => e = .returned (.bool true) ∧ Ext w w' := by
  have HN0 := Lib.hid hn0
  have HW0 := Lib.hid hw0
  clear hn0 hw0
  by_cases hz0 : n0 ≤ 1048576
  case neg =>
    go_enter Try.func7, Try.ntmps7
    go_wp2
    go_ret
    exact ⟨rfl, Ext.refl _⟩
  go_enter Try.func7, Try.ntmps7
  go_wp2_with fail
  refine (drawCleanRun_any A0 n0 c0 b0 _ HN0.out hm0 h0 HW0.out).mono ?_
  rintro e w1 ⟨A_c, c_c, B_c, m_c, d_c, A_b, n_b, c_b, xs, ys, bm, many, rfl, hl_x, hl_y, hb_m, hl_b, hb_n, s_c1, s_c2, s_b, x1⟩
  have HLX := Lib.hid hl_x
  clear hl_x
  have HLY := Lib.hid hl_y
  clear hl_y
  have HLB := Lib.hid hl_b
  clear hl_b
  have E := x1
  have b1 := (Ext.refl w1).alloc (.cells #[.slice A_c 16 c_c, .slice B_c m_c d_c] 25)
  have st_c := St.new w1 #[.slice A_c 16 c_c, .slice B_c m_c d_c] 25
  replace s_c1 := s_c1.ext b1
  replace s_c2 := s_c2.ext b1
  replace s_b := s_b.ext b1
  replace E := E.trans b1
  have q_c_1_a := st_c.cell0
  have q_c_1_b := st_c.cell1
  have q_c_1_c := st_c.lt
  have q_c_1_d := Nat.ne_of_lt q_c_1_c
  have hl1 := crM_length xs ys bm many
  have hl2 := crL_length xs ys bm many
  rcases hv : crB xs ys bm many with _ | _
  case false =>
    have HV := Lib.hid hv
    clear hv
    go_wp2_with fail
    refine (cleanRun_any A_c B_c A_b 16 c_c m_c d_c n_b c_b xs ys bm many _ HLX.out HLY.out HLB.out s_c1.rd s_c2.rd s_b.rd).mono ?_
    rintro e w2 ⟨A_out, c_out, B_out, d_out, rfl, s_out, x2⟩
    replace s_c1 := s_c1.ext x2
    replace s_c2 := s_c2.ext x2
    replace st_c := st_c.ext x2
    replace s_b := s_b.ext x2
    replace E := E.trans x2
    rw [HV.out]
    clear q_c_1_a q_c_1_b q_c_1_c q_c_1_d
    have q_c_2_a := st_c.cell0
    have q_c_2_b := st_c.cell1
    have q_c_2_c := st_c.lt
    have q_c_2_d := Nat.ne_of_lt q_c_2_c
    have b2 := (Ext.refl w2).alloc (.cells #[.slice A_out (crM xs ys bm many).length c_out, .slice B_out (crL xs ys bm many).length d_out] 25)
    have st_out := St.new w2 #[.slice A_out (crM xs ys bm many).length c_out, .slice B_out (crL xs ys bm many).length d_out] 25
    replace s_c1 := s_c1.ext b2
    replace s_c2 := s_c2.ext b2
    replace st_c := st_c.ext b2
    replace s_b := s_b.ext b2
    replace s_out := s_out.ext b2
    replace E := E.trans b2
    clear q_c_2_a q_c_2_b q_c_2_c q_c_2_d
    have q_c_2_a := st_c.cell0
    have q_c_2_b := st_c.cell1
    have q_c_2_c := st_c.lt
    have q_c_2_d := Nat.ne_of_lt q_c_2_c
    have q_out_2_a := st_out.cell0
    have q_out_2_b := st_out.cell1
    have q_out_2_c := st_out.lt
    have q_out_2_d := Nat.ne_of_lt q_out_2_c
    go_wp2_with fail
    refine (specCleanRun_any A_c B_c A_b 16 c_c m_c d_c n_b c_b xs ys bm many _ HLX.out HLY.out HLB.out (by omega) (by omega) (by omega) s_c1.rd s_c2.rd s_b.rd).mono ?_
    rintro e w3 ⟨A_want, c_want, B_want, d_want, rfl, s_want, x3⟩
    replace s_c1 := s_c1.ext x3
    replace s_c2 := s_c2.ext x3
    replace st_c := st_c.ext x3
    replace s_b := s_b.ext x3
    replace s_out := s_out.ext x3
    replace st_out := st_out.ext x3
    replace E := E.trans x3
    rw [HV.out]
    clear q_c_2_a q_c_2_b q_c_2_c q_c_2_d q_out_2_a q_out_2_b q_out_2_c q_out_2_d
    have q_c_3_a := st_c.cell0
    have q_c_3_b := st_c.cell1
    have q_c_3_c := st_c.lt
    have q_c_3_d := Nat.ne_of_lt q_c_3_c
    have q_out_3_a := st_out.cell0
    have q_out_3_b := st_out.cell1
    have q_out_3_c := st_out.lt
    have q_out_3_d := Nat.ne_of_lt q_out_3_c
    have b3 := (Ext.refl w3).alloc (.cells #[.slice A_want (crM xs ys bm many).length c_want, .slice B_want (crL xs ys bm many).length d_want] 25)
    have st_want := St.new w3 #[.slice A_want (crM xs ys bm many).length c_want, .slice B_want (crL xs ys bm many).length d_want] 25
    replace s_c1 := s_c1.ext b3
    replace s_c2 := s_c2.ext b3
    replace st_c := st_c.ext b3
    replace s_b := s_b.ext b3
    replace s_out := s_out.ext b3
    replace st_out := st_out.ext b3
    replace s_want := s_want.ext b3
    replace E := E.trans b3
    clear q_c_3_a q_c_3_b q_c_3_c q_c_3_d q_out_3_a q_out_3_b q_out_3_c q_out_3_d
    have q_c_3_a := st_c.cell0
    have q_c_3_b := st_c.cell1
    have q_c_3_c := st_c.lt
    have q_c_3_d := Nat.ne_of_lt q_c_3_c
    have q_out_3_a := st_out.cell0
    have q_out_3_b := st_out.cell1
    have q_out_3_c := st_out.lt
    have q_out_3_d := Nat.ne_of_lt q_out_3_c
    have q_want_3_a := st_want.cell0
    have q_want_3_b := st_want.cell1
    have q_want_3_c := st_want.lt
    have q_want_3_d := Nat.ne_of_lt q_want_3_c
    go_wp2_with fail
    refine (sameClean_any A_out B_out A_want B_want (crM xs ys bm many).length c_out (crL xs ys bm many).length d_out (crM xs ys bm many).length c_want (crL xs ys bm many).length d_want (crM xs ys bm many) (crL xs ys bm many) (crM xs ys bm many) (crL xs ys bm many) _ rfl rfl rfl rfl (by omega) (by omega) s_out.fst.rd s_out.snd.rd s_want.fst.rd s_want.snd.rd).mono ?_
    rintro e w4 ⟨rfl, x4⟩
    replace s_c1 := s_c1.ext x4
    replace s_c2 := s_c2.ext x4
    replace st_c := st_c.ext x4
    replace s_b := s_b.ext x4
    replace s_out := s_out.ext x4
    replace st_out := st_out.ext x4
    replace s_want := s_want.ext x4
    replace st_want := st_want.ext x4
    replace E := E.trans x4
    clear q_c_3_a q_c_3_b q_c_3_c q_c_3_d q_out_3_a q_out_3_b q_out_3_c q_out_3_d q_want_3_a q_want_3_b q_want_3_c q_want_3_d
    have q_c_4_a := st_c.cell0
    have q_c_4_b := st_c.cell1
    have q_c_4_c := st_c.lt
    have q_c_4_d := Nat.ne_of_lt q_c_4_c
    have q_out_4_a := st_out.cell0
    have q_out_4_b := st_out.cell1
    have q_out_4_c := st_out.lt
    have q_out_4_d := Nat.ne_of_lt q_out_4_c
    have q_want_4_a := st_want.cell0
    have q_want_4_b := st_want.cell1
    have q_want_4_c := st_want.lt
    have q_want_4_d := Nat.ne_of_lt q_want_4_c
    go_wp2_with fail
    refine (sameClean_any A_out B_out A_want B_want (crM xs ys bm many).length c_out (crL xs ys bm many).length d_out (crM xs ys bm many).length c_want (crL xs ys bm many).length d_want (crM xs ys bm many) (crL xs ys bm many) (crM xs ys bm many) (crL xs ys bm many) _ rfl rfl rfl rfl (by omega) (by omega) s_out.fst.rd s_out.snd.rd s_want.fst.rd s_want.snd.rd).mono ?_
    rintro e w5 ⟨rfl, x5⟩
    replace s_c1 := s_c1.ext x5
    replace s_c2 := s_c2.ext x5
    replace st_c := st_c.ext x5
    replace s_b := s_b.ext x5
    replace s_out := s_out.ext x5
    replace st_out := st_out.ext x5
    replace s_want := s_want.ext x5
    replace st_want := st_want.ext x5
    replace E := E.trans x5
    clear q_c_4_a q_c_4_b q_c_4_c q_c_4_d q_out_4_a q_out_4_b q_out_4_c q_out_4_d q_want_4_a q_want_4_b q_want_4_c q_want_4_d
    have q_c_5_a := st_c.cell0
    have q_c_5_b := st_c.cell1
    have q_c_5_c := st_c.lt
    have q_c_5_d := Nat.ne_of_lt q_c_5_c
    have q_out_5_a := st_out.cell0
    have q_out_5_b := st_out.cell1
    have q_out_5_c := st_out.lt
    have q_out_5_d := Nat.ne_of_lt q_out_5_c
    have q_want_5_a := st_want.cell0
    have q_want_5_b := st_want.cell1
    have q_want_5_c := st_want.lt
    have q_want_5_d := Nat.ne_of_lt q_want_5_c
    go_wp2
    go_ret
    exact ⟨rfl, E⟩
  have HV := Lib.hid hv
  clear hv
  have HP := crB_parts HV.out
  obtain rfl : m_c = 16 := by rw [← HLY.out]; exact svB_16 HP.2.1
  obtain rfl : n_b = 16 := by rw [← HLB.out]; exact svB_16 HP.2.2.1
  obtain ⟨K, rfl⟩ := Int.eq_ofNat_of_zero_le HP.2.2.2.1
  have hK : K ≤ 200 := by have := HP.2.2.2.2; omega
  clear HP
  have HR := Lib.hid (run_law HV.out)
  have hN0 := HR.out.2.2.1
  have hN1 := HR.out.2.2.2.1
  go_wp2_with fail
  refine (cleanRun_any A_c B_c A_b 16 c_c 16 d_c 16 c_b xs ys bm (K : Int) _ HLX.out HLY.out HLB.out s_c1.rd s_c2.rd s_b.rd).mono ?_
  rintro e w6 ⟨A_out, c_out, B_out, d_out, rfl, s_out, x6⟩
  replace s_c1 := s_c1.ext x6
  replace s_c2 := s_c2.ext x6
  replace st_c := st_c.ext x6
  replace s_b := s_b.ext x6
  replace E := E.trans x6
  rw [HV.out]
  rw [HR.out.1, HR.out.2.1] at s_out
  rw [HR.out.1, HR.out.2.1]
  clear q_c_1_a q_c_1_b q_c_1_c q_c_1_d
  have q_c_6_a := st_c.cell0
  have q_c_6_b := st_c.cell1
  have q_c_6_c := st_c.lt
  have q_c_6_d := Nat.ne_of_lt q_c_6_c
  have b6 := (Ext.refl w6).alloc (.cells #[.slice A_out 16 c_out, .slice B_out 16 d_out] 25)
  have st_out := St.new w6 #[.slice A_out 16 c_out, .slice B_out 16 d_out] 25
  replace s_c1 := s_c1.ext b6
  replace s_c2 := s_c2.ext b6
  replace st_c := st_c.ext b6
  replace s_b := s_b.ext b6
  replace s_out := s_out.ext b6
  replace E := E.trans b6
  clear q_c_6_a q_c_6_b q_c_6_c q_c_6_d
  have q_c_6_a := st_c.cell0
  have q_c_6_b := st_c.cell1
  have q_c_6_c := st_c.lt
  have q_c_6_d := Nat.ne_of_lt q_c_6_c
  have q_out_6_a := st_out.cell0
  have q_out_6_b := st_out.cell1
  have q_out_6_c := st_out.lt
  have q_out_6_d := Nat.ne_of_lt q_out_6_c
  go_wp2_with fail
  refine (specCleanRun_any A_c B_c A_b 16 c_c 16 d_c 16 c_b xs ys bm (K : Int) _ HLX.out HLY.out HLB.out (by omega) (by omega) (by omega) s_c1.rd s_c2.rd s_b.rd).mono ?_
  rintro e w7 ⟨A_want, c_want, B_want, d_want, rfl, s_want, x7⟩
  replace s_c1 := s_c1.ext x7
  replace s_c2 := s_c2.ext x7
  replace st_c := st_c.ext x7
  replace s_b := s_b.ext x7
  replace s_out := s_out.ext x7
  replace st_out := st_out.ext x7
  replace E := E.trans x7
  rw [HV.out]
  rw [HR.out.1, HR.out.2.1] at s_want
  rw [HR.out.1, HR.out.2.1]
  clear q_c_6_a q_c_6_b q_c_6_c q_c_6_d q_out_6_a q_out_6_b q_out_6_c q_out_6_d
  have q_c_7_a := st_c.cell0
  have q_c_7_b := st_c.cell1
  have q_c_7_c := st_c.lt
  have q_c_7_d := Nat.ne_of_lt q_c_7_c
  have q_out_7_a := st_out.cell0
  have q_out_7_b := st_out.cell1
  have q_out_7_c := st_out.lt
  have q_out_7_d := Nat.ne_of_lt q_out_7_c
  have b7 := (Ext.refl w7).alloc (.cells #[.slice A_want 16 c_want, .slice B_want 16 d_want] 25)
  have st_want := St.new w7 #[.slice A_want 16 c_want, .slice B_want 16 d_want] 25
  replace s_c1 := s_c1.ext b7
  replace s_c2 := s_c2.ext b7
  replace st_c := st_c.ext b7
  replace s_b := s_b.ext b7
  replace s_out := s_out.ext b7
  replace st_out := st_out.ext b7
  replace s_want := s_want.ext b7
  replace E := E.trans b7
  clear q_c_7_a q_c_7_b q_c_7_c q_c_7_d q_out_7_a q_out_7_b q_out_7_c q_out_7_d
  have q_c_7_a := st_c.cell0
  have q_c_7_b := st_c.cell1
  have q_c_7_c := st_c.lt
  have q_c_7_d := Nat.ne_of_lt q_c_7_c
  have q_out_7_a := st_out.cell0
  have q_out_7_b := st_out.cell1
  have q_out_7_c := st_out.lt
  have q_out_7_d := Nat.ne_of_lt q_out_7_c
  have q_want_7_a := st_want.cell0
  have q_want_7_b := st_want.cell1
  have q_want_7_c := st_want.lt
  have q_want_7_d := Nat.ne_of_lt q_want_7_c
  go_wp2_with fail
  refine (sameClean_any A_out B_out A_want B_want 16 c_out 16 d_out 16 c_want 16 d_want (crM xs ys bm (K : Int)) (crL xs ys bm (K : Int)) (crM xs ys bm (K : Int)) (crL xs ys bm (K : Int)) _ HR.out.1 HR.out.2.1 HR.out.1 HR.out.2.1 (by omega) (by omega) s_out.fst.rd s_out.snd.rd s_want.fst.rd s_want.snd.rd).mono ?_
  rintro e w8 ⟨rfl, x8⟩
  replace s_c1 := s_c1.ext x8
  replace s_c2 := s_c2.ext x8
  replace st_c := st_c.ext x8
  replace s_b := s_b.ext x8
  replace s_out := s_out.ext x8
  replace st_out := st_out.ext x8
  replace s_want := s_want.ext x8
  replace st_want := st_want.ext x8
  replace E := E.trans x8
  clear q_c_7_a q_c_7_b q_c_7_c q_c_7_d q_out_7_a q_out_7_b q_out_7_c q_out_7_d q_want_7_a q_want_7_b q_want_7_c q_want_7_d
  have q_c_8_a := st_c.cell0
  have q_c_8_b := st_c.cell1
  have q_c_8_c := st_c.lt
  have q_c_8_d := Nat.ne_of_lt q_c_8_c
  have q_out_8_a := st_out.cell0
  have q_out_8_b := st_out.cell1
  have q_out_8_c := st_out.lt
  have q_out_8_d := Nat.ne_of_lt q_out_8_c
  have q_want_8_a := st_want.cell0
  have q_want_8_b := st_want.cell1
  have q_want_8_c := st_want.lt
  have q_want_8_d := Nat.ne_of_lt q_want_8_c
  clear q_c_8_a q_c_8_b q_c_8_c q_c_8_d q_out_8_a q_out_8_b q_out_8_c q_out_8_d q_want_8_a q_want_8_b q_want_8_c q_want_8_d
  clear s_want st_want
  have q_c_8_a := st_c.cell0
  have q_c_8_b := st_c.cell1
  have q_c_8_c := st_c.lt
  have q_c_8_d := Nat.ne_of_lt q_c_8_c
  have q_out_8_a := st_out.cell0
  have q_out_8_b := st_out.cell1
  have q_out_8_c := st_out.lt
  have q_out_8_d := Nat.ne_of_lt q_out_8_c
  clear hl1 hl2
  have HQ := Lib.hid (model_law HV.out)
  clear q_c_8_a q_c_8_b q_c_8_c q_c_8_d q_out_8_a q_out_8_b q_out_8_c q_out_8_d
  obtain ⟨g_ca, o_ca, ea_ca, _, _, _⟩ := s_c1.addr (by rw [ints_length, HLX.out]; omega)
  obtain rfl := ea_ca
  obtain ⟨g_outa, o_outa, ea_outa, _, _, _⟩ := s_out.fst.addr (by rw [ints_length, HR.out.1]; omega)
  obtain rfl := ea_outa
  have q_c_8_a := st_c.cell0
  have q_c_8_b := st_c.cell1
  have q_c_8_c := st_c.lt
  have q_c_8_d := Nat.ne_of_lt q_c_8_c
  have q_out_8_a := st_out.cell0
  have q_out_8_b := st_out.cell1
  have q_out_8_c := st_out.lt
  have q_out_8_d := Nat.ne_of_lt q_out_8_c
  go_wp2_with fail
  clear q_c_8_a q_c_8_b q_c_8_c q_c_8_d q_out_8_a q_out_8_b q_out_8_c q_out_8_d
  go_loopw [12, 13] (fun n i wr => ∃ k : Nat, k ≤ 16 ∧ i = .int .i64 k ∧ n = .int .i64 (mdTo xs (crM xs ys bm (K : Int)) k) ∧ Ext w8 wr) (fun _ i _ => 16 - (intOf i).toNat)
  case atStart => exact ⟨0, Nat.zero_le _, rfl, rfl, Ext.refl _⟩
  case round =>
    obtain ⟨k, hk, rfl, rfl, hq⟩ := hrel
    have t_c := st_c.ext hq
    have t_c0 := t_c.cell0
    have t_c1 := t_c.cell1
    have t_out := st_out.ext hq
    have t_out0 := t_out.cell0
    have t_out1 := t_out.cell1
    obtain ⟨b1, b2⟩ := HQ.out.2.2 k hk
    by_cases hlt : k < 16
    · skip
      have k0 := (s_c1.ext hq).cell (ints_a0 (s := xs) (k := k) (by rw [HLX.out]; omega))
      have k1 := (s_out.fst.ext hq).cell (ints_a0 (s := (crM xs ys bm (K : Int))) (k := k) (by rw [HR.out.1]; omega))
      have h2 : (k : Int) < 16 := by omega
      have h3 : (0 : Int) ≤ (k : Int) := by omega
      obtain ⟨u1, u2, u3, u4, u5⟩ := HQ.out.1 k
      have v1 : decide (at0 (crM xs ys bm (K : Int)) k < at0 xs k) = false := by simp; omega
      have f1 : IntKind.i64.wrap (mdTo xs (crM xs ys bm (K : Int)) k + at0 (crM xs ys bm (K : Int)) k) = mdTo xs (crM xs ys bm (K : Int)) k + at0 (crM xs ys bm (K : Int)) k := IntWalk.i64_in _ (by omega)
      have f2 : IntKind.i64.wrap (mdTo xs (crM xs ys bm (K : Int)) k + at0 (crM xs ys bm (K : Int)) k - at0 xs k) = mdTo xs (crM xs ys bm (K : Int)) (k + 1) := by rw [IntWalk.i64_in _ (by omega), mdTo_succ]; omega
      have HF1 := Lib.hid f1
      have HF2 := Lib.hid f2
      clear f1 f2
      go_wp2_with fail
      go_quiet (fail)
      have f1 := HF1.out
      have f2 := HF2.out
      go_wp2_with fail
      go_quiet (fail)
      clear f1 f2
      go_wp2
      go_roundw
      case rel => exact ⟨k + 1, by omega, by go_num, rfl, hq.drewN _⟩
      case measure => simp [intOf]; omega
    · skip
      obtain rfl : k = 16 := by omega
      have u0 := HQ.out.2.1
      have u1 : decide ((crN xs ys bm (K : Int)) ≤ mdTo xs (crM xs ys bm (K : Int)) 16) = true := by simpa using u0
      go_wp2
      go_ret
      exact ⟨rfl, E.trans hq⟩
end Go.Proofs.Ytbafniaohjjacab.fnCleanRunModel
