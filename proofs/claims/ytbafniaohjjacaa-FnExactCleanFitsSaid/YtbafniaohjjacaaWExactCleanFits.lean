/-
  The walk of FnExactCleanFits: it returns true and writes nothing that was there.
-/
import Derived.Test.YtbafniaohjjacaaCleanLaws
import Derived.Test.YtbafniaohjjacaaCleanFits
namespace Go.Proofs.Ytbafniaohjjacaa.fnExactCleanFits
open Go.RowKit
set_option linter.unusedVariables false

set_option maxRecDepth 100000 in
set_option maxHeartbeats 2000000 in
theorem walk (A0 : Option Addr) (n0 c0 : Nat) (b0 : List Int) (B0 : Option Addr) (m0 d0 : Nat) (f0 : List Int) (A1 : Option Addr) (n1 c1 : Nat) (b1 : List Int) (A2 : Option Addr) (n2 c2 : Nat) (b2 : List Int) (w : World) (hn0 : b0.length = n0) (hm0 : n0 ≤ 9223372036854775807) (h0 : Rd w w.heap.size A0 n0 c0 (ints b0)) (hnn0 : f0.length = m0) (hmm0 : m0 ≤ 9223372036854775807) (hr0 : Rd w w.heap.size B0 m0 d0 (ints f0)) (hn1 : b1.length = n1) (hm1 : n1 ≤ 9223372036854775807) (h1 : Rd w w.heap.size A1 n1 c1 (ints b1)) (hn2 : b2.length = n2) (hm2 : n2 ≤ 9223372036854775807) (h2 : Rd w w.heap.size A2 n2 c2 (ints b2)) :
    Calls Try.prog 5 #[.agg #[.slice A0 n0 c0, .slice B0 m0 d0], .slice A1 n1 c1, .slice A2 n2 c2] w fun e w' => e = .returned (.bool true) ∧ Ext w w' := by
  have HN0 := Lib.hid hn0
  have HM0 := Lib.hid hnn0
  clear hn0 hnn0
  have HN1 := Lib.hid hn1
  clear hn1
  have HN2 := Lib.hid hn2
  clear hn2
  by_cases hz1 : n1 ≤ 1048576
  case neg =>
    go_enter Try.func5, Try.ntmps5
    go_wp2
    go_ret
    exact ⟨rfl, (Ext.refl w).alloc _⟩
  by_cases hz2 : n2 ≤ 1048576
  case neg =>
    go_enter Try.func5, Try.ntmps5
    go_wp2
    go_ret
    exact ⟨rfl, (Ext.refl w).alloc _⟩
  by_cases hz0 : (n0 : Int) + m0 ≤ 1048576
  case neg =>
    go_enter Try.func5, Try.ntmps5
    go_wp2_with fail
    refine (szClean_no A0 B0 n0 c0 m0 d0 _ hm0 hmm0 (by omega)).mono ?_
    rintro e w1 ⟨rfl, x1⟩
    go_wp2
    go_ret
    exact ⟨rfl, ((Ext.refl w).alloc _).trans x1⟩
  have zn0 : n0 ≤ 1048576 := by omega
  have zm0 : m0 ≤ 1048576 := by omega
  go_enter Try.func5, Try.ntmps5
  have E := (Ext.refl w).alloc (.cells #[.slice A0 n0 c0, .slice B0 m0 d0] 33)
  have st_P := St.new w #[.slice A0 n0 c0, .slice B0 m0 d0] 33
  go_wp2_with fail
  refine (szClean_yes A0 B0 n0 c0 m0 d0 _ hz0).mono ?_
  rintro e w1 ⟨rfl, x1⟩
  replace st_P := st_P.ext x1
  replace E := E.trans x1
  have z_x1 := x1.size
  try simp only [World.size_alloc] at z_x1
  have q_P_1_a := st_P.cell0
  have q_P_1_b := st_P.cell1
  have q_P_1_c := st_P.lt
  have q_P_1_d := Nat.ne_of_lt q_P_1_c
  go_wp2_with fail
  refine (toClean_any A0 B0 n0 c0 m0 d0 b0 f0 _ HN0.out HM0.out zn0 zm0 (h0.ext E) (hr0.ext E)).mono ?_
  rintro e w2 ⟨A_a, c_a, B_a, d_a, rfl, s_a, x2⟩
  replace st_P := st_P.ext x2
  replace E := E.trans x2
  have z_x2 := x2.size
  try simp only [World.size_alloc] at z_x2
  clear q_P_1_a q_P_1_b q_P_1_c q_P_1_d
  have q_P_2_a := st_P.cell0
  have q_P_2_b := st_P.cell1
  have q_P_2_c := st_P.lt
  have q_P_2_d := Nat.ne_of_lt q_P_2_c
  go_wp2_with fail
  refine (toIntS_any A1 n1 c1 b1 _ HN1.out hz1 (h1.ext E)).mono ?_
  rintro e w3 ⟨A_b, c_b, rfl, s_b, x3⟩
  replace st_P := st_P.ext x3
  replace s_a := s_a.ext x3
  replace E := E.trans x3
  have z_x3 := x3.size
  try simp only [World.size_alloc] at z_x3
  clear q_P_2_a q_P_2_b q_P_2_c q_P_2_d
  have q_P_3_a := st_P.cell0
  have q_P_3_b := st_P.cell1
  have q_P_3_c := st_P.lt
  have q_P_3_d := Nat.ne_of_lt q_P_3_c
  go_wp2_with fail
  refine (toIntS_any A2 n2 c2 b2 _ HN2.out hz2 (h2.ext E)).mono ?_
  rintro e w4 ⟨A_c, c_c, rfl, s_c, x4⟩
  replace st_P := st_P.ext x4
  replace s_a := s_a.ext x4
  replace s_b := s_b.ext x4
  replace E := E.trans x4
  have z_x4 := x4.size
  try simp only [World.size_alloc] at z_x4
  clear q_P_3_a q_P_3_b q_P_3_c q_P_3_d
  have q_P_4_a := st_P.cell0
  have q_P_4_b := st_P.cell1
  have q_P_4_c := st_P.lt
  have q_P_4_d := Nat.ne_of_lt q_P_4_c
  go_wp2_with fail
  refine (specCleanFits_any A_a B_a A_b A_c b0.length c_a f0.length d_a n1 c_b n2 c_c b0 f0 b1 b2 _ rfl rfl HN1.out HN2.out (by rw [HN0.out]; omega) (by rw [HM0.out]; omega) hz1 hz2 s_a.fst.rd s_a.snd.rd s_b.rd s_c.rd).mono ?_
  rintro e w5 ⟨rfl, x5⟩
  replace st_P := st_P.ext x5
  replace s_a := s_a.ext x5
  replace s_b := s_b.ext x5
  replace s_c := s_c.ext x5
  replace E := E.trans x5
  have z_x5 := x5.size
  try simp only [World.size_alloc] at z_x5
  clear q_P_4_a q_P_4_b q_P_4_c q_P_4_d
  have q_P_5_a := st_P.cell0
  have q_P_5_b := st_P.cell1
  have q_P_5_c := st_P.lt
  have q_P_5_d := Nat.ne_of_lt q_P_5_c
  clear s_a
  clear s_b
  clear s_c
  go_wp2_with fail
  refine (toClean_any A0 B0 n0 c0 m0 d0 b0 f0 _ HN0.out HM0.out zn0 zm0 (h0.ext E) (hr0.ext E)).mono ?_
  rintro e w6 ⟨A_X, c_X, B_X, d_X, rfl, s_X, x6⟩
  replace st_P := st_P.ext x6
  replace E := E.trans x6
  have z_x6 := x6.size
  try simp only [World.size_alloc] at z_x6
  clear q_P_5_a q_P_5_b q_P_5_c q_P_5_d
  have q_P_6_a := st_P.cell0
  have q_P_6_b := st_P.cell1
  have q_P_6_c := st_P.lt
  have q_P_6_d := Nat.ne_of_lt q_P_6_c
  have b6 := (Ext.refl w6).alloc (.cells #[.slice A_X b0.length c_X, .slice B_X f0.length d_X] 24)
  have st_X := St.new w6 #[.slice A_X b0.length c_X, .slice B_X f0.length d_X] 24
  replace st_P := st_P.ext b6
  replace s_X := s_X.ext b6
  replace E := E.trans b6
  have z_b6 := b6.size
  try simp only [World.size_alloc] at z_b6
  go_wp2_with fail
  refine (toIntS_any A1 n1 c1 b1 _ HN1.out hz1 (h1.ext E)).mono ?_
  rintro e w7 ⟨A_Y, c_Y, rfl, s_Y, x7⟩
  replace st_P := st_P.ext x7
  replace s_X := s_X.ext x7
  replace st_X := st_X.ext x7
  replace E := E.trans x7
  have z_x7 := x7.size
  try simp only [World.size_alloc] at z_x7
  clear q_P_6_a q_P_6_b q_P_6_c q_P_6_d
  have q_P_7_a := st_P.cell0
  have q_P_7_b := st_P.cell1
  have q_P_7_c := st_P.lt
  have q_P_7_d := Nat.ne_of_lt q_P_7_c
  have q_X_7_a := st_X.cell0
  have q_X_7_b := st_X.cell1
  have q_X_7_c := st_X.lt
  have q_X_7_d := Nat.ne_of_lt q_X_7_c
  go_wp2_with fail
  refine (toIntS_any A2 n2 c2 b2 _ HN2.out hz2 (h2.ext E)).mono ?_
  rintro e w8 ⟨A_Z, c_Z, rfl, s_Z, x8⟩
  replace st_P := st_P.ext x8
  replace s_X := s_X.ext x8
  replace st_X := st_X.ext x8
  replace s_Y := s_Y.ext x8
  replace E := E.trans x8
  have z_x8 := x8.size
  try simp only [World.size_alloc] at z_x8
  clear q_P_7_a q_P_7_b q_P_7_c q_P_7_d q_X_7_a q_X_7_b q_X_7_c q_X_7_d
  have q_P_8_a := st_P.cell0
  have q_P_8_b := st_P.cell1
  have q_P_8_c := st_P.lt
  have q_P_8_d := Nat.ne_of_lt q_P_8_c
  have q_X_8_a := st_X.cell0
  have q_X_8_b := st_X.cell1
  have q_X_8_c := st_X.lt
  have q_X_8_d := Nat.ne_of_lt q_X_8_c
  go_wp2_with fail
  refine (cleanFits_any A_X B_X A_Y A_Z b0.length c_X f0.length d_X n1 c_Y n2 c_Z b0 f0 b1 b2 _ rfl rfl HN1.out HN2.out s_X.fst.rd s_X.snd.rd s_Y.rd s_Z.rd).mono ?_
  rintro e w9 ⟨rfl, x9⟩
  replace st_P := st_P.ext x9
  replace s_X := s_X.ext x9
  replace st_X := st_X.ext x9
  replace s_Y := s_Y.ext x9
  replace s_Z := s_Z.ext x9
  replace E := E.trans x9
  have z_x9 := x9.size
  try simp only [World.size_alloc] at z_x9
  clear q_P_8_a q_P_8_b q_P_8_c q_P_8_d q_X_8_a q_X_8_b q_X_8_c q_X_8_d
  have q_P_9_a := st_P.cell0
  have q_P_9_b := st_P.cell1
  have q_P_9_c := st_P.lt
  have q_P_9_d := Nat.ne_of_lt q_P_9_c
  have q_X_9_a := st_X.cell0
  have q_X_9_b := st_X.cell1
  have q_X_9_c := st_X.lt
  have q_X_9_d := Nat.ne_of_lt q_X_9_c
  clear q_P_9_a q_P_9_b q_P_9_c q_P_9_d q_X_9_a q_X_9_b q_X_9_c q_X_9_d
  have HSX := Lib.hid st_X
  have HSP := Lib.hid st_P
  have qx0 := st_X.cell0
  have qx1 := st_X.cell1
  have qp0 := st_P.cell0
  have qp1 := st_P.cell1
  go_wp2_with fail
  go_region_held3 (fun w' => w'.cell? ⟨w6.heap.size, 0, none⟩ = some (.slice A_X b0.length c_X) ∧ w'.cell? ⟨w6.heap.size, 1, none⟩ = some (.slice B_X f0.length d_X) ∧ w'.cell? ⟨w.heap.size, 0, none⟩ = some (.slice A0 n0 c0) ∧ w'.cell? ⟨w.heap.size, 1, none⟩ = some (.slice B0 m0 d0))
    (exact ⟨(HSX.out.ext (by repeat (first | (with_reducible exact Ext.refl _) | (with_reducible assumption) | (with_reducible refine Ext.drew ?_) | (with_reducible refine Ext.alloc ?_ _)))).cell0, (HSX.out.ext (by repeat (first | (with_reducible exact Ext.refl _) | (with_reducible assumption) | (with_reducible refine Ext.drew ?_) | (with_reducible refine Ext.alloc ?_ _)))).cell1, (HSP.out.ext (by repeat (first | (with_reducible exact Ext.refl _) | (with_reducible assumption) | (with_reducible refine Ext.drew ?_) | (with_reducible refine Ext.alloc ?_ _)))).cell0, (HSP.out.ext (by repeat (first | (with_reducible exact Ext.refl _) | (with_reducible assumption) | (with_reducible refine Ext.drew ?_) | (with_reducible refine Ext.alloc ?_ _)))).cell1⟩)
    (first
      | (go_at_call 21; refine (toClean_any A0 B0 n0 c0 m0 d0 b0 f0 _ HN0.out HM0.out zn0 zm0 (h0.ext (E.trans (by repeat (first | (with_reducible exact Ext.refl _) | (with_reducible assumption) | (with_reducible refine Ext.drew ?_) | (with_reducible refine Ext.alloc ?_ _))))) (hr0.ext (E.trans (by repeat (first | (with_reducible exact Ext.refl _) | (with_reducible assumption) | (with_reducible refine Ext.drew ?_) | (with_reducible refine Ext.alloc ?_ _)))))).mono ?_; rintro e w10 ⟨A_T, c_T, B_T, d_T, rfl, s_T, x10⟩; have y10 : Ext w9 w10 := Ext.trans (by repeat (first | (with_reducible exact Ext.refl _) | (with_reducible assumption) | (with_reducible refine Ext.drew ?_) | (with_reducible refine Ext.alloc ?_ _))) x10)
      | (go_at_call 14; refine (eqClean_any A_X B_X A_T B_T b0.length c_X f0.length d_X b0.length c_T f0.length d_T b0 f0 b0 f0 _ rfl rfl rfl rfl (by rw [HN0.out]; omega) (by rw [HM0.out]; omega) (s_X.fst.ext (by repeat (first | (with_reducible exact Ext.refl _) | (with_reducible assumption) | (with_reducible refine Ext.drew ?_) | (with_reducible refine Ext.alloc ?_ _)))).rd (s_X.snd.ext (by repeat (first | (with_reducible exact Ext.refl _) | (with_reducible assumption) | (with_reducible refine Ext.drew ?_) | (with_reducible refine Ext.alloc ?_ _)))).rd (s_T.fst.ext (by repeat (first | (with_reducible exact Ext.refl _) | (with_reducible assumption) | (with_reducible refine Ext.drew ?_) | (with_reducible refine Ext.alloc ?_ _)))).rd (s_T.snd.ext (by repeat (first | (with_reducible exact Ext.refl _) | (with_reducible assumption) | (with_reducible refine Ext.drew ?_) | (with_reducible refine Ext.alloc ?_ _)))).rd).mono ?_; rintro e w11 ⟨rfl, x11⟩; have y11 : Ext w9 w11 := Ext.trans (by repeat (first | (with_reducible exact Ext.refl _) | (with_reducible assumption) | (with_reducible refine Ext.drew ?_) | (with_reducible refine Ext.alloc ?_ _))) x11))
  clear qx0 qx1 qp0 qp1 HSX HSP
  replace st_P := st_P.ext y11
  replace s_X := s_X.ext y11
  replace st_X := st_X.ext y11
  replace s_Y := s_Y.ext y11
  replace s_Z := s_Z.ext y11
  replace E := E.trans y11
  have z_y11 := y11.size
  try simp only [World.size_alloc] at z_y11
  have q_P_11_a := st_P.cell0
  have q_P_11_b := st_P.cell1
  have q_P_11_c := st_P.lt
  have q_P_11_d := Nat.ne_of_lt q_P_11_c
  have q_X_11_a := st_X.cell0
  have q_X_11_b := st_X.cell1
  have q_X_11_c := st_X.lt
  have q_X_11_d := Nat.ne_of_lt q_X_11_c
  go_wp2_with fail
  refine (toIntS_any A1 n1 c1 b1 _ HN1.out hz1 (h1.ext E)).mono ?_
  rintro e w12 ⟨A_U, c_U, rfl, s_U, x12⟩
  replace st_P := st_P.ext x12
  replace s_X := s_X.ext x12
  replace st_X := st_X.ext x12
  replace s_Y := s_Y.ext x12
  replace s_Z := s_Z.ext x12
  replace E := E.trans x12
  have z_x12 := x12.size
  try simp only [World.size_alloc] at z_x12
  clear q_P_11_a q_P_11_b q_P_11_c q_P_11_d q_X_11_a q_X_11_b q_X_11_c q_X_11_d
  have q_P_12_a := st_P.cell0
  have q_P_12_b := st_P.cell1
  have q_P_12_c := st_P.lt
  have q_P_12_d := Nat.ne_of_lt q_P_12_c
  have q_X_12_a := st_X.cell0
  have q_X_12_b := st_X.cell1
  have q_X_12_c := st_X.lt
  have q_X_12_d := Nat.ne_of_lt q_X_12_c
  go_wp2_with fail
  refine (eqIntS_any A_Y A_U n1 n1 c_Y c_U b1 b1 _ HN1.out HN1.out hz1 s_Y.rd s_U.rd).mono ?_
  rintro e w13 ⟨rfl, y13⟩
  have x13 := y13.ext
  replace st_P := st_P.ext x13
  replace s_X := s_X.ext x13
  replace st_X := st_X.ext x13
  replace s_Y := s_Y.ext x13
  replace s_Z := s_Z.ext x13
  replace s_U := s_U.ext x13
  replace E := E.trans x13
  have z_x13 := x13.size
  try simp only [World.size_alloc] at z_x13
  clear q_P_12_a q_P_12_b q_P_12_c q_P_12_d q_X_12_a q_X_12_b q_X_12_c q_X_12_d
  have q_P_13_a := st_P.cell0
  have q_P_13_b := st_P.cell1
  have q_P_13_c := st_P.lt
  have q_P_13_d := Nat.ne_of_lt q_P_13_c
  have q_X_13_a := st_X.cell0
  have q_X_13_b := st_X.cell1
  have q_X_13_c := st_X.lt
  have q_X_13_d := Nat.ne_of_lt q_X_13_c
  clear s_U
  go_wp2_with fail
  refine (toIntS_any A2 n2 c2 b2 _ HN2.out hz2 (h2.ext E)).mono ?_
  rintro e w14 ⟨A_V, c_V, rfl, s_V, x14⟩
  replace st_P := st_P.ext x14
  replace s_X := s_X.ext x14
  replace st_X := st_X.ext x14
  replace s_Y := s_Y.ext x14
  replace s_Z := s_Z.ext x14
  replace E := E.trans x14
  have z_x14 := x14.size
  try simp only [World.size_alloc] at z_x14
  clear q_P_13_a q_P_13_b q_P_13_c q_P_13_d q_X_13_a q_X_13_b q_X_13_c q_X_13_d
  have q_P_14_a := st_P.cell0
  have q_P_14_b := st_P.cell1
  have q_P_14_c := st_P.lt
  have q_P_14_d := Nat.ne_of_lt q_P_14_c
  have q_X_14_a := st_X.cell0
  have q_X_14_b := st_X.cell1
  have q_X_14_c := st_X.lt
  have q_X_14_d := Nat.ne_of_lt q_X_14_c
  go_wp2_with fail
  refine (eqIntS_any A_Z A_V n2 n2 c_Z c_V b2 b2 _ HN2.out HN2.out hz2 s_Z.rd s_V.rd).mono ?_
  rintro e w15 ⟨rfl, y15⟩
  have x15 := y15.ext
  replace st_P := st_P.ext x15
  replace s_X := s_X.ext x15
  replace st_X := st_X.ext x15
  replace s_Y := s_Y.ext x15
  replace s_Z := s_Z.ext x15
  replace s_V := s_V.ext x15
  replace E := E.trans x15
  have z_x15 := x15.size
  try simp only [World.size_alloc] at z_x15
  clear q_P_14_a q_P_14_b q_P_14_c q_P_14_d q_X_14_a q_X_14_b q_X_14_c q_X_14_d
  have q_P_15_a := st_P.cell0
  have q_P_15_b := st_P.cell1
  have q_P_15_c := st_P.lt
  have q_P_15_d := Nat.ne_of_lt q_P_15_c
  have q_X_15_a := st_X.cell0
  have q_X_15_b := st_X.cell1
  have q_X_15_c := st_X.lt
  have q_X_15_d := Nat.ne_of_lt q_X_15_c
  go_wp2
  go_ret
  exact ⟨rfl, E⟩
end Go.Proofs.Ytbafniaohjjacaa.fnExactCleanFits
