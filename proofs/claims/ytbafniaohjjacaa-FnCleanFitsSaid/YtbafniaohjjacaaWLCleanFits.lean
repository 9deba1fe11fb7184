/-
  The walk of FnCleanFits: it returns true and writes nothing that was there.
-/
import Derived.Test.YtbafniaohjjacaaSpot
import Derived.Test.YtbafniaohjjacaaDrawClF
import Derived.Test.YtbafniaohjjacaaCleanFits
import Derived.Test.YtbafniaohjjacaaSkyFns
namespace Go.Proofs.Ytbafniaohjjacaa.fnCleanFits
open Go.RowKit
set_option linter.unusedVariables false

set_option maxRecDepth 100000 in
set_option maxHeartbeats 8000000 in
theorem walk (A0 : Option Addr) (n0 c0 : Nat) (b0 : List Int) (A1 : Option Addr) (n1 c1 : Nat) (b1 : List Int) (w : World) (hn0 : b0.length = n0) (hm0 : n0 ≤ 9223372036854775807) (h0 : Rd w w.heap.size A0 n0 c0 (b0.map (.int .u8))) (hw0 : ∀ z ∈ b0, 0 ≤ z ∧ z ≤ 255) (hn1 : b1.length = n1) (hm1 : n1 ≤ 9223372036854775807) (h1 : Rd w w.heap.size A1 n1 c1 (b1.map (.int .u8))) (hw1 : ∀ z ∈ b1, 0 ≤ z ∧ z ≤ 255) :
    Calls Try.prog 10 #[.slice A0 n0 c0, .slice A1 n1 c1] w fun e w' => e = .returned (.bool true) ∧ Ext w w' := by
  have HN0 := Lib.hid hn0
  have HW0 := Lib.hid hw0
  clear hn0 hw0
  have HN1 := Lib.hid hn1
  have HW1 := Lib.hid hw1
  clear hn1 hw1
  by_cases hz0 : n0 ≤ 1048576
  case neg =>
    go_enter Try.func10, Try.ntmps10
    go_wp2
    go_ret
    exact ⟨rfl, Ext.refl _⟩
  by_cases hz1 : n1 ≤ 1048576
  case neg =>
    go_enter Try.func10, Try.ntmps10
    go_wp2
    go_ret
    exact ⟨rfl, Ext.refl _⟩
  go_enter Try.func10, Try.ntmps10
  go_wp2_with fail
  refine (drawCleanFits_any A0 n0 c0 b0 _ HN0.out hm0 h0 HW0.out).mono ?_
  rintro e w1 ⟨A_c, c_c, B_c, d_c, A_b, c_b, A_d, c_d, xs, ys, bm, d, rfl, hl_x, hl_y, hl_b, hl_d, s_c1, s_c2, s_b, s_d, x1⟩
  have HLX := Lib.hid hl_x
  clear hl_x
  have HLY := Lib.hid hl_y
  clear hl_y
  have HLB := Lib.hid hl_b
  clear hl_b
  have HLD := Lib.hid hl_d
  clear hl_d
  have E := x1
  have b1 := (Ext.refl w1).alloc (.cells #[.slice A_c 16 c_c, .slice B_c 16 d_c] 24)
  have st_c := St.new w1 #[.slice A_c 16 c_c, .slice B_c 16 d_c] 24
  replace s_c1 := s_c1.ext b1
  replace s_c2 := s_c2.ext b1
  replace s_b := s_b.ext b1
  replace s_d := s_d.ext b1
  replace E := E.trans b1
  have q_c_1_a := st_c.cell0
  have q_c_1_b := st_c.cell1
  have q_c_1_c := st_c.lt
  have q_c_1_d := Nat.ne_of_lt q_c_1_c
  rcases hv : fitB xs ys bm d with _ | _
  case false =>
    have HV := Lib.hid hv
    clear hv
    go_wp2_with fail
    refine (cleanFits_any A_c B_c A_b A_d 16 c_c 16 d_c 16 c_b 16 c_d xs ys bm d _ HLX.out HLY.out HLB.out HLD.out s_c1.rd s_c2.rd s_b.rd s_d.rd).mono ?_
    rintro e w2 ⟨rfl, x2⟩
    replace s_c1 := s_c1.ext x2
    replace s_c2 := s_c2.ext x2
    replace st_c := st_c.ext x2
    replace s_b := s_b.ext x2
    replace s_d := s_d.ext x2
    replace E := E.trans x2
    clear q_c_1_a q_c_1_b q_c_1_c q_c_1_d
    have q_c_2_a := st_c.cell0
    have q_c_2_b := st_c.cell1
    have q_c_2_c := st_c.lt
    have q_c_2_d := Nat.ne_of_lt q_c_2_c
    rw [HV.out]
    go_wp2_with fail
    refine (specCleanFits_any A_c B_c A_b A_d 16 c_c 16 d_c 16 c_b 16 c_d xs ys bm d _ HLX.out HLY.out HLB.out HLD.out (by omega) (by omega) (by omega) (by omega) s_c1.rd s_c2.rd s_b.rd s_d.rd).mono ?_
    rintro e w3 ⟨rfl, x3⟩
    replace s_c1 := s_c1.ext x3
    replace s_c2 := s_c2.ext x3
    replace st_c := st_c.ext x3
    replace s_b := s_b.ext x3
    replace s_d := s_d.ext x3
    replace E := E.trans x3
    clear q_c_2_a q_c_2_b q_c_2_c q_c_2_d
    have q_c_3_a := st_c.cell0
    have q_c_3_b := st_c.cell1
    have q_c_3_c := st_c.lt
    have q_c_3_d := Nat.ne_of_lt q_c_3_c
    rw [HV.out]
    go_wp2
    go_ret
    exact ⟨rfl, E⟩
  have HV := Lib.hid hv
  clear hv
  go_wp2_with fail
  refine (cleanFits_any A_c B_c A_b A_d 16 c_c 16 d_c 16 c_b 16 c_d xs ys bm d _ HLX.out HLY.out HLB.out HLD.out s_c1.rd s_c2.rd s_b.rd s_d.rd).mono ?_
  rintro e w4 ⟨rfl, x4⟩
  replace s_c1 := s_c1.ext x4
  replace s_c2 := s_c2.ext x4
  replace st_c := st_c.ext x4
  replace s_b := s_b.ext x4
  replace s_d := s_d.ext x4
  replace E := E.trans x4
  clear q_c_1_a q_c_1_b q_c_1_c q_c_1_d
  have q_c_4_a := st_c.cell0
  have q_c_4_b := st_c.cell1
  have q_c_4_c := st_c.lt
  have q_c_4_d := Nat.ne_of_lt q_c_4_c
  rw [HV.out]
  go_wp2_with fail
  refine (specCleanFits_any A_c B_c A_b A_d 16 c_c 16 d_c 16 c_b 16 c_d xs ys bm d _ HLX.out HLY.out HLB.out HLD.out (by omega) (by omega) (by omega) (by omega) s_c1.rd s_c2.rd s_b.rd s_d.rd).mono ?_
  rintro e w5 ⟨rfl, x5⟩
  replace s_c1 := s_c1.ext x5
  replace s_c2 := s_c2.ext x5
  replace st_c := st_c.ext x5
  replace s_b := s_b.ext x5
  replace s_d := s_d.ext x5
  replace E := E.trans x5
  clear q_c_4_a q_c_4_b q_c_4_c q_c_4_d
  have q_c_5_a := st_c.cell0
  have q_c_5_b := st_c.cell1
  have q_c_5_c := st_c.lt
  have q_c_5_d := Nat.ne_of_lt q_c_5_c
  rw [HV.out]
  obtain ⟨j, hjj⟩ : ∃ j, j = n1 % 16 := ⟨_, rfl⟩
  have hj : j < 16 := by rw [hjj]; exact Nat.mod_lt _ (by omega)
  have e1 : (n1 : Int).tmod 16 = (j : Int) := by rw [tmod_nn (by omega), hjj, Int.natCast_emod]; rfl
  have e2 : (n1 : Int) % 16 = (j : Int) := by rw [hjj, Int.natCast_emod]; rfl
  clear hjj
  have HF := Lib.hid (fits_law HV.out j hj)
  clear q_c_5_a q_c_5_b q_c_5_c q_c_5_d
  obtain ⟨g_cb, o_cb, ea_cb, _, _, _⟩ := s_c2.addr (by rw [ints_length, HLY.out]; omega)
  obtain rfl := ea_cb
  obtain ⟨g_d, o_d, ea_d, _, _, _⟩ := s_d.addr (by rw [ints_length, HLD.out]; omega)
  obtain rfl := ea_d
  have q_c_5_a := st_c.cell0
  have q_c_5_b := st_c.cell1
  have q_c_5_c := st_c.lt
  have q_c_5_d := Nat.ne_of_lt q_c_5_c
  have hb0 := (HF.out.2.2.2.2 j).1
  have hb1 := (HF.out.2.2.2.2 j).2.1
  have j2 : (j : Int) < 16 := by omega
  have j3 : (0 : Int) ≤ (j : Int) := by omega
  go_wp2_with (at_builtin; refine wpList_appendV (w := w5.alloc (.cells #[] 3)) rfl _ _ _ rfl w5.heap.size 3 (.int .i64 0) 1 8 I.infoInt Try.underlying22 rfl (by omega) _ 0 [] rfl (World.ownsRow_lit w5 #[] 0 (Nat.le_refl _) (by simp [maxLen]) rfl) g_d o_d 16 c_d (ints d) rfl (by rw [ints_length, HLD.out]) (s_d.rd.ext ((Ext.refl _).alloc _)) (ints_one d) (by omega) (by omega) (by omega) (by simp) ?_; intro g6 c6 w60 s6 hg6 he6; simp only [Nat.zero_add, List.nil_append] at s6; have x60 := he6 w5 ((Ext.refl _).alloc _) (Nat.le_refl _); have hc6 := s6.cell (ints_a0 (s := d) (k := j) (by rw [HLD.out]; omega)); have hf6 := s6.frozen (by rw [ints_length, HLD.out]; omega) (0 + j); simp only [Nat.zero_add] at hc6 hf6; have T0 := st_c.ext x60; have j0 := T0.cell0; have j1 := T0.cell1; have nb := Nat.ne_of_lt (show w1.heap.size < g6 by omega))
  have s7 := s6.set_ j (.int .i64 (at0 d j - 1))
  rw [ints_set] at s7
  simp only [Nat.zero_add] at s7
  have x61 : Ext w5 (w60.setCell ⟨g6, j, none⟩ (.int .i64 (at0 d j - 1))) := x60.setCell (p := ⟨g6, j, none⟩) hg6 _
  clear s6 he6 hc6 hf6 T0 j0 j1 nb
  replace s_c1 := s_c1.ext x61
  replace s_c2 := s_c2.ext x61
  replace st_c := st_c.ext x61
  replace s_b := s_b.ext x61
  replace s_d := s_d.ext x61
  replace E := E.trans x61
  have s_x := s7.full
  have HLZ : Hid ((d.set j (at0 d j - 1)).length = 16) := (by show _ = _; simp [HLD.out])
  clear s7 x61
  generalize (w60.setCell ⟨g6, j, none⟩ (.int .i64 (at0 d j - 1))) = w61 at *
  clear q_c_5_a q_c_5_b q_c_5_c q_c_5_d
  have q_c_5_a := st_c.cell0
  have q_c_5_b := st_c.cell1
  have q_c_5_c := st_c.lt
  have q_c_5_d := Nat.ne_of_lt q_c_5_c
  rcases hok : sfOk xs bm with _ | _
  case false =>
    have HK := Lib.hid hok
    clear hok
    go_wp2_with fail
    refine (skyFold_any A_c A_b 16 16 c_c c_b xs bm _ HLX.out HLB.out s_c1.rd s_b.rd).mono ?_
    rintro e w106 ⟨A_y, c_y, rfl, s_y, x106⟩
    replace s_c1 := s_c1.ext x106
    replace s_c2 := s_c2.ext x106
    replace st_c := st_c.ext x106
    replace s_b := s_b.ext x106
    replace s_d := s_d.ext x106
    replace s_x := s_x.ext x106
    replace E := E.trans x106
    rw [HK.out]
    have HQ := Lib.hid (HF.out.2.2.1 HK.out)
    rw [HQ.out, List.length_nil] at s_y
    rw [HQ.out, List.length_nil]
    clear q_c_5_a q_c_5_b q_c_5_c q_c_5_d
    have q_c_106_a := st_c.cell0
    have q_c_106_b := st_c.cell1
    have q_c_106_c := st_c.lt
    have q_c_106_d := Nat.ne_of_lt q_c_106_c
    go_wp2_with fail
    clear q_c_106_a q_c_106_b q_c_106_c q_c_106_d
    go_loopw [14] (fun i wr => ∃ k : Nat, k ≤ 0 ∧ i = .int .i64 k ∧ Ext w106 wr) (fun i _ => 0 - (intOf i).toNat)
    case atStart => exact ⟨0, Nat.zero_le _, rfl, Ext.refl _⟩
    case round =>
      obtain ⟨k, hk, rfl, hq⟩ := hrel
      obtain rfl : k = 0 := by omega
      replace s_c1 := s_c1.ext hq
      replace s_c2 := s_c2.ext hq
      replace st_c := st_c.ext hq
      replace s_b := s_b.ext hq
      replace s_d := s_d.ext hq
      replace s_x := s_x.ext hq
      replace s_y := s_y.ext hq
      replace E := E.trans hq
      have q_c_106_a := st_c.cell0
      have q_c_106_b := st_c.cell1
      have q_c_106_c := st_c.lt
      have q_c_106_d := Nat.ne_of_lt q_c_106_c
      go_wp2_with fail
      refine (cleanFits_any A_c (some ⟨g_cb, o_cb, none⟩) A_b (some ⟨g6, 0, none⟩) 16 c_c 16 d_c 16 c_b 16 c6 xs ys bm (d.set j (at0 d j - 1)) _ HLX.out HLY.out HLB.out HLZ.out s_c1.rd s_c2.rd s_b.rd s_x.rd).mono ?_
      rintro e w107 ⟨rfl, x107⟩
      replace s_c1 := s_c1.ext x107
      replace s_c2 := s_c2.ext x107
      replace st_c := st_c.ext x107
      replace s_b := s_b.ext x107
      replace s_d := s_d.ext x107
      replace s_x := s_x.ext x107
      replace s_y := s_y.ext x107
      replace E := E.trans x107
      clear q_c_106_a q_c_106_b q_c_106_c q_c_106_d
      have q_c_107_a := st_c.cell0
      have q_c_107_b := st_c.cell1
      have q_c_107_c := st_c.lt
      have q_c_107_d := Nat.ne_of_lt q_c_107_c
      rw [HF.out.2.1]
      go_wp2
      go_ret
      exact ⟨rfl, E⟩
  case true =>
    have HK := Lib.hid hok
    clear hok
    go_wp2_with fail
    refine (skyFold_any A_c A_b 16 16 c_c c_b xs bm _ HLX.out HLB.out s_c1.rd s_b.rd).mono ?_
    rintro e w108 ⟨A_y, c_y, rfl, s_y, x108⟩
    replace s_c1 := s_c1.ext x108
    replace s_c2 := s_c2.ext x108
    replace st_c := st_c.ext x108
    replace s_b := s_b.ext x108
    replace s_d := s_d.ext x108
    replace s_x := s_x.ext x108
    replace E := E.trans x108
    rw [HK.out]
    have HQ := Lib.hid (HF.out.2.2.2.1 HK.out)
    rw [HQ.out.1] at s_y
    rw [HQ.out.1]
    obtain ⟨g_y, o_y, ea_y, _, _, _⟩ := s_y.addr (by rw [ints_length, HQ.out.1]; omega)
    obtain rfl := ea_y
    clear q_c_5_a q_c_5_b q_c_5_c q_c_5_d
    have q_c_108_a := st_c.cell0
    have q_c_108_b := st_c.cell1
    have q_c_108_c := st_c.lt
    have q_c_108_d := Nat.ne_of_lt q_c_108_c
    go_wp2_with fail
    clear q_c_108_a q_c_108_b q_c_108_c q_c_108_d
    go_loopw [14] (fun i wr => ∃ k : Nat, k ≤ 16 ∧ i = .int .i64 k ∧ Ext w108 wr) (fun i _ => 16 - (intOf i).toNat)
    case atStart => exact ⟨0, Nat.zero_le _, rfl, Ext.refl _⟩
    case round =>
      obtain ⟨k, hk, rfl, hq⟩ := hrel
      have t_c := st_c.ext hq
      have t_c0 := t_c.cell0
      have t_c1 := t_c.cell1
      by_cases hlt : k < 16
      · skip
        have k0 := (s_y.ext hq).cell (ints_a0 (s := sfL xs bm) (k := k) (by rw [HQ.out.1]; omega))
        have k1 := (s_c2.ext hq).cell (ints_a0 (s := ys) (k := k) (by rw [HLY.out]; omega))
        have k2 := (s_d.ext hq).cell (ints_a0 (s := d) (k := k) (by rw [HLD.out]; omega))
        have h2 : (k : Int) < 16 := by omega
        have h3 : (0 : Int) ≤ (k : Int) := by omega
        have f1 : IntKind.i64.wrap (at0 (sfL xs bm) k + at0 ys k) = at0 d k := by have a := HQ.out.2 k hlt; have b := HF.out.2.2.2.2 k; rw [IntWalk.i64_in _ (by omega)]; exact a.1
        go_wp2_with fail
        go_quiet (fail)
        go_wp2
        go_roundw
        case rel => exact ⟨k + 1, by omega, by go_num, hq.drewN _⟩
        case measure => simp [intOf]; omega
      · skip
        obtain rfl : k = 16 := by omega
        clear t_c t_c0 t_c1
        replace s_c1 := s_c1.ext hq
        replace s_c2 := s_c2.ext hq
        replace st_c := st_c.ext hq
        replace s_b := s_b.ext hq
        replace s_d := s_d.ext hq
        replace s_x := s_x.ext hq
        replace s_y := s_y.ext hq
        replace E := E.trans hq
        have q_c_108_a := st_c.cell0
        have q_c_108_b := st_c.cell1
        have q_c_108_c := st_c.lt
        have q_c_108_d := Nat.ne_of_lt q_c_108_c
        go_wp2_with fail
        refine (cleanFits_any A_c (some ⟨g_cb, o_cb, none⟩) A_b (some ⟨g6, 0, none⟩) 16 c_c 16 d_c 16 c_b 16 c6 xs ys bm (d.set j (at0 d j - 1)) _ HLX.out HLY.out HLB.out HLZ.out s_c1.rd s_c2.rd s_b.rd s_x.rd).mono ?_
        rintro e w109 ⟨rfl, x109⟩
        replace s_c1 := s_c1.ext x109
        replace s_c2 := s_c2.ext x109
        replace st_c := st_c.ext x109
        replace s_b := s_b.ext x109
        replace s_d := s_d.ext x109
        replace s_x := s_x.ext x109
        replace s_y := s_y.ext x109
        replace E := E.trans x109
        clear q_c_108_a q_c_108_b q_c_108_c q_c_108_d
        have q_c_109_a := st_c.cell0
        have q_c_109_b := st_c.cell1
        have q_c_109_c := st_c.lt
        have q_c_109_d := Nat.ne_of_lt q_c_109_c
        rw [HF.out.2.1]
        go_wp2
        go_ret
        exact ⟨rfl, E⟩
end Go.Proofs.Ytbafniaohjjacaa.fnCleanFits
