/-
  The walk of FnCleanPeak: it returns true and writes nothing that was there.
-/
import Derived.Test.YtbafniaohjjacaaSpot
import Derived.Test.YtbafniaohjjacaaDrawClB
import Derived.Test.YtbafniaohjjacaaCleanB
namespace Go.Proofs.Ytbafniaohjjacaa.fnCleanPeak
open Go.RowKit
set_option linter.unusedVariables false

set_option maxRecDepth 100000 in
set_option maxHeartbeats 8000000 in
theorem walk (A0 : Option Addr) (n0 c0 : Nat) (b0 : List Int) (w : World) (hn0 : b0.length = n0) (hm0 : n0 ≤ 9223372036854775807) (h0 : Rd w w.heap.size A0 n0 c0 (b0.map (.int .u8))) (hw0 : ∀ z ∈ b0, 0 ≤ z ∧ z ≤ 255) :
    Calls Try.prog 9 #[.slice A0 n0 c0] w fun e w' => e = .returned (.bool true) ∧ Ext w w' := by
  have HN0 := Lib.hid hn0
  have HW0 := Lib.hid hw0
  clear hn0 hw0
  by_cases hz0 : n0 ≤ 1048576
  case neg =>
    go_enter Try.func9, Try.ntmps9
    go_wp2
    go_ret
    exact ⟨rfl, Ext.refl _⟩
  go_enter Try.func9, Try.ntmps9
  go_wp2_with fail
  refine (drawCleanPeak_any A0 n0 c0 b0 _ HN0.out hm0 h0 HW0.out).mono ?_
  rintro e w1 ⟨A_c, c_c, B_c, m_c, d_c, xs, ys, rfl, hl_x, hl_y, hb_m, s_c1, s_c2, x1⟩
  have HLX := Lib.hid hl_x
  clear hl_x
  have HLY := Lib.hid hl_y
  clear hl_y
  have E := x1
  have b1 := (Ext.refl w1).alloc (.cells #[.slice A_c 16 c_c, .slice B_c m_c d_c] 24)
  have st_c := St.new w1 #[.slice A_c 16 c_c, .slice B_c m_c d_c] 24
  replace s_c1 := s_c1.ext b1
  replace s_c2 := s_c2.ext b1
  replace E := E.trans b1
  have q_c_1_a := st_c.cell0
  have q_c_1_b := st_c.cell1
  have q_c_1_c := st_c.lt
  have q_c_1_d := Nat.ne_of_lt q_c_1_c
  rcases hv : (svB xs && svB ys) with _ | _
  case false =>
    have HV := Lib.hid hv
    clear hv
    go_wp2_with fail
    refine (cleanPeak_any A_c B_c 16 c_c m_c d_c xs ys _ HLX.out HLY.out s_c1.rd s_c2.rd).mono ?_
    rintro e w2 ⟨rfl, x2⟩
    replace s_c1 := s_c1.ext x2
    replace s_c2 := s_c2.ext x2
    replace st_c := st_c.ext x2
    replace E := E.trans x2
    clear q_c_1_a q_c_1_b q_c_1_c q_c_1_d
    have q_c_2_a := st_c.cell0
    have q_c_2_b := st_c.cell1
    have q_c_2_c := st_c.lt
    have q_c_2_d := Nat.ne_of_lt q_c_2_c
    rw [HV.out]
    go_wp2_with fail
    refine (specCleanPeak_any A_c B_c 16 c_c m_c d_c xs ys _ HLX.out HLY.out (by omega) (by omega) s_c1.rd s_c2.rd).mono ?_
    rintro e w3 ⟨rfl, x3⟩
    replace s_c1 := s_c1.ext x3
    replace s_c2 := s_c2.ext x3
    replace st_c := st_c.ext x3
    replace E := E.trans x3
    clear q_c_2_a q_c_2_b q_c_2_c q_c_2_d
    have q_c_3_a := st_c.cell0
    have q_c_3_b := st_c.cell1
    have q_c_3_c := st_c.lt
    have q_c_3_d := Nat.ne_of_lt q_c_3_c
    rw [HV.out]
    go_wp2
    go_ret
    exact ⟨rfl, E⟩
  have HV := Lib.hid hv
  clear hv
  have HP := Lib.hid (peak_law HV.out)
  obtain rfl : m_c = 16 := by rw [← HLY.out]; exact HP.out.2.2.2.1
  go_wp2_with fail
  refine (cleanPeak_any A_c B_c 16 c_c 16 d_c xs ys _ HLX.out HLY.out s_c1.rd s_c2.rd).mono ?_
  rintro e w4 ⟨rfl, x4⟩
  replace s_c1 := s_c1.ext x4
  replace s_c2 := s_c2.ext x4
  replace st_c := st_c.ext x4
  replace E := E.trans x4
  clear q_c_1_a q_c_1_b q_c_1_c q_c_1_d
  have q_c_4_a := st_c.cell0
  have q_c_4_b := st_c.cell1
  have q_c_4_c := st_c.lt
  have q_c_4_d := Nat.ne_of_lt q_c_4_c
  rw [HV.out, HP.out.1, HP.out.2.1]
  go_wp2_with fail
  refine (specCleanPeak_any A_c B_c 16 c_c 16 d_c xs ys _ HLX.out HLY.out (by omega) (by omega) s_c1.rd s_c2.rd).mono ?_
  rintro e w5 ⟨rfl, x5⟩
  replace s_c1 := s_c1.ext x5
  replace s_c2 := s_c2.ext x5
  replace st_c := st_c.ext x5
  replace E := E.trans x5
  clear q_c_4_a q_c_4_b q_c_4_c q_c_4_d
  have q_c_5_a := st_c.cell0
  have q_c_5_b := st_c.cell1
  have q_c_5_c := st_c.lt
  have q_c_5_d := Nat.ne_of_lt q_c_5_c
  rw [HV.out, HP.out.1, HP.out.2.1]
  have hpk := pk_lt ys
  clear q_c_5_a q_c_5_b q_c_5_c q_c_5_d
  obtain ⟨g_cb, o_cb, ea_cb, _, _, _⟩ := s_c2.addr (by rw [ints_length, HLY.out]; omega)
  obtain rfl := ea_cb
  have q_c_5_a := st_c.cell0
  have q_c_5_b := st_c.cell1
  have q_c_5_c := st_c.lt
  have q_c_5_d := Nat.ne_of_lt q_c_5_c
  go_wp2_with fail
  clear q_c_5_a q_c_5_b q_c_5_c q_c_5_d
  go_loopw [10] (fun i wr => ∃ k : Nat, k ≤ 16 ∧ i = .int .i64 k ∧ Ext w5 wr) (fun i _ => 16 - (intOf i).toNat)
  case atStart => exact ⟨0, Nat.zero_le _, rfl, Ext.refl _⟩
  case round =>
    obtain ⟨k, hk, rfl, hq⟩ := hrel
    have t_c := st_c.ext hq
    have t_c0 := t_c.cell0
    have t_c1 := t_c.cell1
    by_cases hlt : k < 16
    · skip
      have k0 := (s_c2.ext hq).cell (ints_a0 (s := ys) (k := k) (by rw [HLY.out]; omega))
      have h2 : (k : Int) < 16 := by omega
      have h3 : (0 : Int) ≤ (k : Int) := by omega
      obtain ⟨u1, u2⟩ := HP.out.2.2.2.2.2 k hlt
      have v1 : decide (top ys < at0 ys k) = false := by simpa using u1
      by_cases hkp : k < pk ys
      · skip
        have v2 : (at0 ys k == top ys) = false := by have := u2 hkp; simp; omega
        go_wp2
        go_roundw
        case rel => exact ⟨k + 1, by omega, by go_num, hq⟩
        case measure => simp [intOf]; omega
      · skip
        have v2 : decide (((k : Nat) : Int) < ((pk ys : Nat) : Int)) = false := by simp; omega
        have v3 : decide (k < pk ys) = false := by simpa using hkp
        go_wp2
        go_roundw
        case rel => exact ⟨k + 1, by omega, by go_num, hq⟩
        case measure => simp [intOf]; omega
    · skip
      have k2 := (s_c2.ext hq).cell (ints_a0 (s := ys) (k := pk ys) (by rw [HLY.out]; omega))
      have k3 := HP.out.2.2.2.2.1
      rw [← k3] at k2
      clear k3
      have h2 : (pk ys : Int) < 16 := by omega
      have h3 : (0 : Int) ≤ (pk ys : Int) := by omega
      go_wp2
      go_ret
      exact ⟨rfl, E.trans hq⟩
end Go.Proofs.Ytbafniaohjjacaa.fnCleanPeak
