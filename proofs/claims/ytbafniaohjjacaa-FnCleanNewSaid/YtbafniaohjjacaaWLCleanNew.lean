/-
  The walk of FnCleanNew: it returns true and writes nothing that was there.
-/
import Derived.Test.YtbafniaohjjacaaSpot
import Derived.Test.YtbafniaohjjacaaDrawClF
import Derived.Test.YtbafniaohjjacaaCleanB
import Derived.Test.YtbafniaohjjacaaCleanFits
import Derived.Test.YtbafniaohjjacaaSkyFns
namespace Go.Proofs.Ytbafniaohjjacaa.fnCleanNew
open Go.RowKit
set_option linter.unusedVariables false

set_option maxRecDepth 100000 in
set_option maxHeartbeats 8000000 in
theorem walk (A0 : Option Addr) (n0 c0 : Nat) (b0 : List Int) (A1 : Option Addr) (n1 c1 : Nat) (b1 : List Int) (w : World) (hn0 : b0.length = n0) (hm0 : n0 ≤ 9223372036854775807) (h0 : Rd w w.heap.size A0 n0 c0 (b0.map (.int .u8))) (hw0 : ∀ z ∈ b0, 0 ≤ z ∧ z ≤ 255) (hn1 : b1.length = n1) (hm1 : n1 ≤ 9223372036854775807) (h1 : Rd w w.heap.size A1 n1 c1 (b1.map (.int .u8))) (hw1 : ∀ z ∈ b1, 0 ≤ z ∧ z ≤ 255) :
    Calls Try.prog 8 #[.slice A0 n0 c0, .slice A1 n1 c1] w fun e w' => e = .returned (.bool true) ∧ Ext w w' := by
  have HN0 := Lib.hid hn0
  have HW0 := Lib.hid hw0
  clear hn0 hw0
  have HN1 := Lib.hid hn1
  have HW1 := Lib.hid hw1
  clear hn1 hw1
  by_cases hz0 : n0 ≤ 1048576
  case neg =>
    go_enter Try.func8, Try.ntmps8
    go_wp2
    go_ret
    exact ⟨rfl, Ext.refl _⟩
  by_cases hz1 : n1 ≤ 1048576
  case neg =>
    go_enter Try.func8, Try.ntmps8
    go_wp2
    go_ret
    exact ⟨rfl, Ext.refl _⟩
  go_enter Try.func8, Try.ntmps8
  go_wp2_with fail
  refine (drawCleanNew_any A0 n0 c0 b0 _ HN0.out hm0 h0 HW0.out).mono ?_
  rintro e w1 ⟨A_d, n_d, c_d, d, rfl, hl_d, hb_d, s_d, x1⟩
  have HL_d := Lib.hid hl_d
  clear hl_d
  have E := x1
  have hl1 := cnM_length d
  have hl2 := cnL_length d
  rcases hv : svB d with _ | _
  case false =>
    have HV := Lib.hid hv
    clear hv
    go_wp2_with fail
    refine (cleanNew_any A_d n_d c_d d _ HL_d.out s_d.rd).mono ?_
    rintro e w2 ⟨A_out, c_out, B_out, d_out, rfl, s_out, x2⟩
    replace s_d := s_d.ext x2
    replace E := E.trans x2
    rw [HV.out]
    have b2 := (Ext.refl w2).alloc (.cells #[.slice A_out (cnM d).length c_out, .slice B_out (cnL d).length d_out] 24)
    have st_out := St.new w2 #[.slice A_out (cnM d).length c_out, .slice B_out (cnL d).length d_out] 24
    replace s_d := s_d.ext b2
    replace s_out := s_out.ext b2
    replace E := E.trans b2
    have q_out_2_a := st_out.cell0
    have q_out_2_b := st_out.cell1
    have q_out_2_c := st_out.lt
    have q_out_2_d := Nat.ne_of_lt q_out_2_c
    go_wp2_with fail
    refine (specCleanNew_any A_d n_d c_d d _ HL_d.out (by omega) s_d.rd).mono ?_
    rintro e w3 ⟨A_want, c_want, B_want, d_want, rfl, s_want, x3⟩
    replace s_d := s_d.ext x3
    replace s_out := s_out.ext x3
    replace st_out := st_out.ext x3
    replace E := E.trans x3
    rw [HV.out]
    clear q_out_2_a q_out_2_b q_out_2_c q_out_2_d
    have q_out_3_a := st_out.cell0
    have q_out_3_b := st_out.cell1
    have q_out_3_c := st_out.lt
    have q_out_3_d := Nat.ne_of_lt q_out_3_c
    have b3 := (Ext.refl w3).alloc (.cells #[.slice A_want (cnM d).length c_want, .slice B_want (cnL d).length d_want] 24)
    have st_want := St.new w3 #[.slice A_want (cnM d).length c_want, .slice B_want (cnL d).length d_want] 24
    replace s_d := s_d.ext b3
    replace s_out := s_out.ext b3
    replace st_out := st_out.ext b3
    replace s_want := s_want.ext b3
    replace E := E.trans b3
    clear q_out_3_a q_out_3_b q_out_3_c q_out_3_d
    have q_out_3_a := st_out.cell0
    have q_out_3_b := st_out.cell1
    have q_out_3_c := st_out.lt
    have q_out_3_d := Nat.ne_of_lt q_out_3_c
    have q_want_3_a := st_want.cell0
    have q_want_3_b := st_want.cell1
    have q_want_3_c := st_want.lt
    have q_want_3_d := Nat.ne_of_lt q_want_3_c
    go_wp2_with fail
    refine (sameClean_any A_out B_out A_want B_want (cnM d).length c_out (cnL d).length d_out (cnM d).length c_want (cnL d).length d_want (cnM d) (cnL d) (cnM d) (cnL d) _ rfl rfl rfl rfl (by omega) (by omega) s_out.fst.rd s_out.snd.rd s_want.fst.rd s_want.snd.rd).mono ?_
    rintro e w4 ⟨rfl, x4⟩
    replace s_d := s_d.ext x4
    replace s_out := s_out.ext x4
    replace st_out := st_out.ext x4
    replace s_want := s_want.ext x4
    replace st_want := st_want.ext x4
    replace E := E.trans x4
    clear q_out_3_a q_out_3_b q_out_3_c q_out_3_d q_want_3_a q_want_3_b q_want_3_c q_want_3_d
    have q_out_4_a := st_out.cell0
    have q_out_4_b := st_out.cell1
    have q_out_4_c := st_out.lt
    have q_out_4_d := Nat.ne_of_lt q_out_4_c
    have q_want_4_a := st_want.cell0
    have q_want_4_b := st_want.cell1
    have q_want_4_c := st_want.lt
    have q_want_4_d := Nat.ne_of_lt q_want_4_c
    go_wp2_with fail
    refine (sameClean_any A_out B_out A_want B_want (cnM d).length c_out (cnL d).length d_out (cnM d).length c_want (cnL d).length d_want (cnM d) (cnL d) (cnM d) (cnL d) _ rfl rfl rfl rfl (by omega) (by omega) s_out.fst.rd s_out.snd.rd s_want.fst.rd s_want.snd.rd).mono ?_
    rintro e w5 ⟨rfl, x5⟩
    replace s_d := s_d.ext x5
    replace s_out := s_out.ext x5
    replace st_out := st_out.ext x5
    replace s_want := s_want.ext x5
    replace st_want := st_want.ext x5
    replace E := E.trans x5
    clear q_out_4_a q_out_4_b q_out_4_c q_out_4_d q_want_4_a q_want_4_b q_want_4_c q_want_4_d
    have q_out_5_a := st_out.cell0
    have q_out_5_b := st_out.cell1
    have q_out_5_c := st_out.lt
    have q_out_5_d := Nat.ne_of_lt q_out_5_c
    have q_want_5_a := st_want.cell0
    have q_want_5_b := st_want.cell1
    have q_want_5_c := st_want.lt
    have q_want_5_d := Nat.ne_of_lt q_want_5_c
    go_wp2
    go_ret
    exact ⟨rfl, E⟩
  have HV := Lib.hid hv
  clear hv
  have hj : n1 % 16 < 16 := Nat.mod_lt _ (by omega)
  have HP := Lib.hid (new_law HV.out (n1 % 16))
  obtain rfl : n_d = 16 := by rw [← HL_d.out]; exact HP.out.2.2.1
  go_wp2_with fail
  refine (cleanNew_any A_d 16 c_d d _ HL_d.out s_d.rd).mono ?_
  rintro e w6 ⟨A_out, c_out, B_out, d_out, rfl, s_out, x6⟩
  replace s_d := s_d.ext x6
  replace E := E.trans x6
  rw [HV.out]
  rw [HP.out.1, HP.out.2.1, zero16_length, HL_d.out] at s_out
  rw [HP.out.1, HP.out.2.1, zero16_length, HL_d.out]
  have b6 := (Ext.refl w6).alloc (.cells #[.slice A_out 16 c_out, .slice B_out 16 d_out] 24)
  have st_out := St.new w6 #[.slice A_out 16 c_out, .slice B_out 16 d_out] 24
  replace s_d := s_d.ext b6
  replace s_out := s_out.ext b6
  replace E := E.trans b6
  have q_out_6_a := st_out.cell0
  have q_out_6_b := st_out.cell1
  have q_out_6_c := st_out.lt
  have q_out_6_d := Nat.ne_of_lt q_out_6_c
  go_wp2_with fail
  refine (specCleanNew_any A_d 16 c_d d _ HL_d.out (by omega) s_d.rd).mono ?_
  rintro e w7 ⟨A_want, c_want, B_want, d_want, rfl, s_want, x7⟩
  replace s_d := s_d.ext x7
  replace s_out := s_out.ext x7
  replace st_out := st_out.ext x7
  replace E := E.trans x7
  rw [HV.out]
  rw [HP.out.1, HP.out.2.1, zero16_length, HL_d.out] at s_want
  rw [HP.out.1, HP.out.2.1, zero16_length, HL_d.out]
  clear q_out_6_a q_out_6_b q_out_6_c q_out_6_d
  have q_out_7_a := st_out.cell0
  have q_out_7_b := st_out.cell1
  have q_out_7_c := st_out.lt
  have q_out_7_d := Nat.ne_of_lt q_out_7_c
  have b7 := (Ext.refl w7).alloc (.cells #[.slice A_want 16 c_want, .slice B_want 16 d_want] 24)
  have st_want := St.new w7 #[.slice A_want 16 c_want, .slice B_want 16 d_want] 24
  replace s_d := s_d.ext b7
  replace s_out := s_out.ext b7
  replace st_out := st_out.ext b7
  replace s_want := s_want.ext b7
  replace E := E.trans b7
  clear q_out_7_a q_out_7_b q_out_7_c q_out_7_d
  have q_out_7_a := st_out.cell0
  have q_out_7_b := st_out.cell1
  have q_out_7_c := st_out.lt
  have q_out_7_d := Nat.ne_of_lt q_out_7_c
  have q_want_7_a := st_want.cell0
  have q_want_7_b := st_want.cell1
  have q_want_7_c := st_want.lt
  have q_want_7_d := Nat.ne_of_lt q_want_7_c
  go_wp2_with fail
  refine (sameClean_any A_out B_out A_want B_want 16 c_out 16 d_out 16 c_want 16 d_want zero16 d zero16 d _ zero16_length HL_d.out zero16_length HL_d.out (by omega) (by omega) s_out.fst.rd s_out.snd.rd s_want.fst.rd s_want.snd.rd).mono ?_
  rintro e w8 ⟨rfl, x8⟩
  replace s_d := s_d.ext x8
  replace s_out := s_out.ext x8
  replace st_out := st_out.ext x8
  replace s_want := s_want.ext x8
  replace st_want := st_want.ext x8
  replace E := E.trans x8
  clear q_out_7_a q_out_7_b q_out_7_c q_out_7_d q_want_7_a q_want_7_b q_want_7_c q_want_7_d
  have q_out_8_a := st_out.cell0
  have q_out_8_b := st_out.cell1
  have q_out_8_c := st_out.lt
  have q_out_8_d := Nat.ne_of_lt q_out_8_c
  have q_want_8_a := st_want.cell0
  have q_want_8_b := st_want.cell1
  have q_want_8_c := st_want.lt
  have q_want_8_d := Nat.ne_of_lt q_want_8_c
  clear q_out_8_a q_out_8_b q_out_8_c q_out_8_d q_want_8_a q_want_8_b q_want_8_c q_want_8_d
  clear s_want st_want
  have q_out_8_a := st_out.cell0
  have q_out_8_b := st_out.cell1
  have q_out_8_c := st_out.lt
  have q_out_8_d := Nat.ne_of_lt q_out_8_c
  clear hl1 hl2
  go_wp2_with fail
  refine (skySum_any A_out 16 c_out zero16 _ zero16_length s_out.fst.rd).mono ?_
  rintro e w_ ⟨rfl, rfl⟩
  rw [HP.out.2.2.2.1, HP.out.2.2.2.2.1]
  obtain ⟨j, hjj⟩ : ∃ j, j = n1 % 16 := ⟨_, rfl⟩
  rw [← hjj] at hj HP
  have e1 : (n1 : Int).tmod 16 = (j : Int) := by rw [tmod_nn (by omega), hjj, Int.natCast_emod]; rfl
  have e2 : (n1 : Int) % 16 = (j : Int) := by rw [hjj, Int.natCast_emod]; rfl
  clear hjj
  have HO1 := Lib.hid st_out
  have HS1 := Lib.hid s_out.fst
  have HS2 := Lib.hid s_out.snd
  have HS3 := Lib.hid s_d
  go_wp2_with fail
  generalize hW : w8 = W0 at *
  clear hW
  go_region_held3 (fun w' => w'.cell? ⟨w6.heap.size, 0, none⟩ = some (.slice A_out 16 c_out) ∧ w'.cell? ⟨w6.heap.size, 1, none⟩ = some (.slice B_out 16 d_out)) (exact ⟨(HO1.out.ext (by repeat (first | (with_reducible exact Ext.refl _) | (with_reducible assumption) | (with_reducible refine Ext.drew ?_) | (with_reducible refine Ext.alloc ?_ _)))).cell0, (HO1.out.ext (by repeat (first | (with_reducible exact Ext.refl _) | (with_reducible assumption) | (with_reducible refine Ext.drew ?_) | (with_reducible refine Ext.alloc ?_ _)))).cell1⟩) (first | (go_at_call 32; refine (sameInts_self B_out A_d d_out c_d d _ HL_d.out (HS2.out.ext (by repeat (first | (with_reducible exact Ext.refl _) | (with_reducible assumption) | (with_reducible refine Ext.drew ?_) | (with_reducible refine Ext.alloc ?_ _)))).rd (HS3.out.ext (by repeat (first | (with_reducible exact Ext.refl _) | (with_reducible assumption) | (with_reducible refine Ext.drew ?_) | (with_reducible refine Ext.alloc ?_ _)))).rd).mono ?_; rintro e w70 ⟨rfl, x70⟩; have E70 : Ext W0 w70 := Ext.trans (by repeat (first | (with_reducible exact Ext.refl _) | (with_reducible assumption) | (with_reducible refine Ext.drew ?_) | (with_reducible refine Ext.alloc ?_ _))) x70) | (go_at_call 33; refine (spot_any j 3 _ hj).mono ?_; rintro e w71 ⟨A_sp, c_sp, rfl, s_sp, x71⟩; have E71 : Ext W0 w71 := Ext.trans (by repeat (first | (with_reducible exact Ext.refl _) | (with_reducible assumption) | (with_reducible refine Ext.drew ?_) | (with_reducible refine Ext.alloc ?_ _))) x71) | (go_at_call 24; refine (cleanFits_any A_out B_out A_sp A_d 16 c_out 16 d_out 16 c_sp 16 c_d zero16 d (spotL j 3) d _ zero16_length HL_d.out (spotL_length _ _) HL_d.out (HS1.out.ext (by repeat (first | (with_reducible exact Ext.refl _) | (with_reducible assumption) | (with_reducible refine Ext.drew ?_) | (with_reducible refine Ext.alloc ?_ _)))).rd (HS2.out.ext (by repeat (first | (with_reducible exact Ext.refl _) | (with_reducible assumption) | (with_reducible refine Ext.drew ?_) | (with_reducible refine Ext.alloc ?_ _)))).rd (s_sp.ext (by repeat (first | (with_reducible exact Ext.refl _) | (with_reducible assumption) | (with_reducible refine Ext.drew ?_) | (with_reducible refine Ext.alloc ?_ _)))).rd (HS3.out.ext (by repeat (first | (with_reducible exact Ext.refl _) | (with_reducible assumption) | (with_reducible refine Ext.drew ?_) | (with_reducible refine Ext.alloc ?_ _)))).rd).mono ?_; rintro e w72 ⟨rfl, x72⟩; have E72 : Ext W0 w72 := Ext.trans (by repeat (first | (with_reducible exact Ext.refl _) | (with_reducible assumption) | (with_reducible refine Ext.drew ?_) | (with_reducible refine Ext.alloc ?_ _))) x72; rw [HP.out.2.2.2.2.2]))
  all_goals go_wp2
  all_goals go_ret
  all_goals exact ⟨rfl, E.trans (by repeat (first | (with_reducible exact Ext.refl _) | (with_reducible assumption) | (with_reducible refine Ext.drew ?_) | (with_reducible refine Ext.alloc ?_ _)))⟩
end Go.Proofs.Ytbafniaohjjacaa.fnCleanNew
