/-
  The walk of FnExactCleanRun: it returns true and writes nothing that was there.
-/
import Derived.Test.YtbafniaohjjacaaCleanLaws
import Derived.Test.YtbafniaohjjacaaSpecRun
namespace Go.Proofs.Ytbafniaohjjacaa.fnExactCleanRun
open Go.RowKit
set_option linter.unusedVariables false

set_option maxRecDepth 100000 in
set_option maxHeartbeats 2000000 in
theorem walk (A0 : Option Addr) (n0 c0 : Nat) (b0 : List Int) (B0 : Option Addr) (m0 d0 : Nat) (f0 : List Int) (A1 : Option Addr) (n1 c1 : Nat) (b1 : List Int) (a2 : Int) (w : World) (hn0 : b0.length = n0) (hm0 : n0 ≤ 9223372036854775807) (h0 : Rd w w.heap.size A0 n0 c0 (ints b0)) (hnn0 : f0.length = m0) (hmm0 : m0 ≤ 9223372036854775807) (hr0 : Rd w w.heap.size B0 m0 d0 (ints f0)) (hn1 : b1.length = n1) (hm1 : n1 ≤ 9223372036854775807) (h1 : Rd w w.heap.size A1 n1 c1 (ints b1)) :
    Calls Try.prog 7 #[.agg #[.slice A0 n0 c0, .slice B0 m0 d0], .slice A1 n1 c1, .int .i64 a2] w fun e w' => e = .returned (.bool true) ∧ Ext w w' := by
  have HN0 := Lib.hid hn0
  have HM0 := Lib.hid hnn0
  clear hn0 hnn0
  have HN1 := Lib.hid hn1
  clear hn1
  by_cases hz1 : n1 ≤ 1048576
  case neg =>
    go_enter Try.func7, Try.ntmps7
    go_wp2
    go_ret
    exact ⟨rfl, (Ext.refl w).alloc _⟩
  by_cases hz0 : (n0 : Int) + m0 ≤ 1048576
  case neg =>
    go_enter Try.func7, Try.ntmps7
    go_wp2_with fail
    refine (szClean_no A0 B0 n0 c0 m0 d0 _ hm0 hmm0 (by omega)).mono ?_
    rintro e w1 ⟨rfl, x1⟩
    go_wp2
    go_ret
    exact ⟨rfl, ((Ext.refl w).alloc _).trans x1⟩
  have zn0 : n0 ≤ 1048576 := by omega
  have zm0 : m0 ≤ 1048576 := by omega
  have hl1 := crM_length b0 f0 b1 a2
  have hl2 := crL_length b0 f0 b1 a2
  go_enter Try.func7, Try.ntmps7
  have E := (Ext.refl w).alloc (.cells #[.slice A0 n0 c0, .slice B0 m0 d0] 33)
  have st_P := St.new w #[.slice A0 n0 c0, .slice B0 m0 d0] 33
  go_wp2_with fail
  refine (szClean_yes A0 B0 n0 c0 m0 d0 _ hz0).mono ?_
  rintro e w1 ⟨rfl, x1⟩
  replace st_P := st_P.ext x1
  replace E := E.trans x1
  have z_x1 := x1.size
  try simp only [World.size_alloc] at z_x1
  have q_P_1_a := st_P.cell0
  have q_P_1_b := st_P.cell1
  have q_P_1_c := st_P.lt
  have q_P_1_d := Nat.ne_of_lt q_P_1_c
  go_wp2_with fail
  refine (toClean_any A0 B0 n0 c0 m0 d0 b0 f0 _ HN0.out HM0.out zn0 zm0 (h0.ext E) (hr0.ext E)).mono ?_
  rintro e w2 ⟨A_a, c_a, B_a, d_a, rfl, s_a, x2⟩
  replace st_P := st_P.ext x2
  replace E := E.trans x2
  have z_x2 := x2.size
  try simp only [World.size_alloc] at z_x2
  clear q_P_1_a q_P_1_b q_P_1_c q_P_1_d
  have q_P_2_a := st_P.cell0
  have q_P_2_b := st_P.cell1
  have q_P_2_c := st_P.lt
  have q_P_2_d := Nat.ne_of_lt q_P_2_c
  go_wp2_with fail
  refine (toIntS_any A1 n1 c1 b1 _ HN1.out hz1 (h1.ext E)).mono ?_
  rintro e w3 ⟨A_b, c_b, rfl, s_b, x3⟩
  replace st_P := st_P.ext x3
  replace s_a := s_a.ext x3
  replace E := E.trans x3
  have z_x3 := x3.size
  try simp only [World.size_alloc] at z_x3
  clear q_P_2_a q_P_2_b q_P_2_c q_P_2_d
  have q_P_3_a := st_P.cell0
  have q_P_3_b := st_P.cell1
  have q_P_3_c := st_P.lt
  have q_P_3_d := Nat.ne_of_lt q_P_3_c
  go_wp2_with fail
  refine (specCleanRun_any A_a B_a A_b b0.length c_a f0.length d_a n1 c_b b0 f0 b1 a2 _ rfl rfl HN1.out (by rw [HN0.out]; omega) (by rw [HM0.out]; omega) hz1 s_a.fst.rd s_a.snd.rd s_b.rd).mono ?_
  rintro e w4 ⟨A_W, c_W, B_W, d_W, rfl, s_W, x4⟩
  replace st_P := st_P.ext x4
  replace s_a := s_a.ext x4
  replace s_b := s_b.ext x4
  replace E := E.trans x4
  have z_x4 := x4.size
  try simp only [World.size_alloc] at z_x4
  clear q_P_3_a q_P_3_b q_P_3_c q_P_3_d
  have q_P_4_a := st_P.cell0
  have q_P_4_b := st_P.cell1
  have q_P_4_c := st_P.lt
  have q_P_4_d := Nat.ne_of_lt q_P_4_c
  have b4 := (Ext.refl w4).alloc (.cells #[.slice A_W (crM b0 f0 b1 a2).length c_W, .slice B_W (crL b0 f0 b1 a2).length d_W] 24)
  have st_W := St.new w4 #[.slice A_W (crM b0 f0 b1 a2).length c_W, .slice B_W (crL b0 f0 b1 a2).length d_W] 24
  replace st_P := st_P.ext b4
  replace s_a := s_a.ext b4
  replace s_b := s_b.ext b4
  replace s_W := s_W.ext b4
  replace E := E.trans b4
  have z_b4 := b4.size
  try simp only [World.size_alloc] at z_b4
  clear s_a
  clear s_b
  go_wp2_with fail
  refine (toClean_any A0 B0 n0 c0 m0 d0 b0 f0 _ HN0.out HM0.out zn0 zm0 (h0.ext E) (hr0.ext E)).mono ?_
  rintro e w5 ⟨A_X, c_X, B_X, d_X, rfl, s_X, x5⟩
  replace st_P := st_P.ext x5
  replace s_W := s_W.ext x5
  replace st_W := st_W.ext x5
  replace E := E.trans x5
  have z_x5 := x5.size
  try simp only [World.size_alloc] at z_x5
  clear q_P_4_a q_P_4_b q_P_4_c q_P_4_d
  have q_P_5_a := st_P.cell0
  have q_P_5_b := st_P.cell1
  have q_P_5_c := st_P.lt
  have q_P_5_d := Nat.ne_of_lt q_P_5_c
  have q_W_5_a := st_W.cell0
  have q_W_5_b := st_W.cell1
  have q_W_5_c := st_W.lt
  have q_W_5_d := Nat.ne_of_lt q_W_5_c
  have b5 := (Ext.refl w5).alloc (.cells #[.slice A_X b0.length c_X, .slice B_X f0.length d_X] 24)
  have st_X := St.new w5 #[.slice A_X b0.length c_X, .slice B_X f0.length d_X] 24
  replace st_P := st_P.ext b5
  replace s_W := s_W.ext b5
  replace st_W := st_W.ext b5
  replace s_X := s_X.ext b5
  replace E := E.trans b5
  have z_b5 := b5.size
  try simp only [World.size_alloc] at z_b5
  go_wp2_with fail
  refine (toIntS_any A1 n1 c1 b1 _ HN1.out hz1 (h1.ext E)).mono ?_
  rintro e w6 ⟨A_Y, c_Y, rfl, s_Y, x6⟩
  replace st_P := st_P.ext x6
  replace s_W := s_W.ext x6
  replace st_W := st_W.ext x6
  replace s_X := s_X.ext x6
  replace st_X := st_X.ext x6
  replace E := E.trans x6
  have z_x6 := x6.size
  try simp only [World.size_alloc] at z_x6
  clear q_P_5_a q_P_5_b q_P_5_c q_P_5_d q_W_5_a q_W_5_b q_W_5_c q_W_5_d
  have q_P_6_a := st_P.cell0
  have q_P_6_b := st_P.cell1
  have q_P_6_c := st_P.lt
  have q_P_6_d := Nat.ne_of_lt q_P_6_c
  have q_W_6_a := st_W.cell0
  have q_W_6_b := st_W.cell1
  have q_W_6_c := st_W.lt
  have q_W_6_d := Nat.ne_of_lt q_W_6_c
  have q_X_6_a := st_X.cell0
  have q_X_6_b := st_X.cell1
  have q_X_6_c := st_X.lt
  have q_X_6_d := Nat.ne_of_lt q_X_6_c
  go_wp2_with fail
  refine (cleanRun_any A_X B_X A_Y b0.length c_X f0.length d_X n1 c_Y b0 f0 b1 a2 _ rfl rfl HN1.out s_X.fst.rd s_X.snd.rd s_Y.rd).mono ?_
  rintro e w7 ⟨A_G, c_G, B_G, d_G, rfl, s_G, x7⟩
  replace st_P := st_P.ext x7
  replace s_W := s_W.ext x7
  replace st_W := st_W.ext x7
  replace s_X := s_X.ext x7
  replace st_X := st_X.ext x7
  replace s_Y := s_Y.ext x7
  replace E := E.trans x7
  have z_x7 := x7.size
  try simp only [World.size_alloc] at z_x7
  clear q_P_6_a q_P_6_b q_P_6_c q_P_6_d q_W_6_a q_W_6_b q_W_6_c q_W_6_d q_X_6_a q_X_6_b q_X_6_c q_X_6_d
  have q_P_7_a := st_P.cell0
  have q_P_7_b := st_P.cell1
  have q_P_7_c := st_P.lt
  have q_P_7_d := Nat.ne_of_lt q_P_7_c
  have q_W_7_a := st_W.cell0
  have q_W_7_b := st_W.cell1
  have q_W_7_c := st_W.lt
  have q_W_7_d := Nat.ne_of_lt q_W_7_c
  have q_X_7_a := st_X.cell0
  have q_X_7_b := st_X.cell1
  have q_X_7_c := st_X.lt
  have q_X_7_d := Nat.ne_of_lt q_X_7_c
  have b7 := (Ext.refl w7).alloc (.cells #[.slice A_G (crM b0 f0 b1 a2).length c_G, .slice B_G (crL b0 f0 b1 a2).length d_G] 24)
  have st_G := St.new w7 #[.slice A_G (crM b0 f0 b1 a2).length c_G, .slice B_G (crL b0 f0 b1 a2).length d_G] 24
  replace st_P := st_P.ext b7
  replace s_W := s_W.ext b7
  replace st_W := st_W.ext b7
  replace s_X := s_X.ext b7
  replace st_X := st_X.ext b7
  replace s_Y := s_Y.ext b7
  replace s_G := s_G.ext b7
  replace E := E.trans b7
  have z_b7 := b7.size
  try simp only [World.size_alloc] at z_b7
  go_wp2_with fail
  refine (eqClean_any A_G B_G A_W B_W (crM b0 f0 b1 a2).length c_G (crL b0 f0 b1 a2).length d_G (crM b0 f0 b1 a2).length c_W (crL b0 f0 b1 a2).length d_W (crM b0 f0 b1 a2) (crL b0 f0 b1 a2) (crM b0 f0 b1 a2) (crL b0 f0 b1 a2) _ rfl rfl rfl rfl (by omega) (by omega) s_G.fst.rd s_G.snd.rd s_W.fst.rd s_W.snd.rd).mono ?_
  rintro e w8 ⟨rfl, x8⟩
  replace st_P := st_P.ext x8
  replace s_W := s_W.ext x8
  replace st_W := st_W.ext x8
  replace s_X := s_X.ext x8
  replace st_X := st_X.ext x8
  replace s_Y := s_Y.ext x8
  replace s_G := s_G.ext x8
  replace st_G := st_G.ext x8
  replace E := E.trans x8
  have z_x8 := x8.size
  try simp only [World.size_alloc] at z_x8
  clear q_P_7_a q_P_7_b q_P_7_c q_P_7_d q_W_7_a q_W_7_b q_W_7_c q_W_7_d q_X_7_a q_X_7_b q_X_7_c q_X_7_d
  have q_P_8_a := st_P.cell0
  have q_P_8_b := st_P.cell1
  have q_P_8_c := st_P.lt
  have q_P_8_d := Nat.ne_of_lt q_P_8_c
  have q_W_8_a := st_W.cell0
  have q_W_8_b := st_W.cell1
  have q_W_8_c := st_W.lt
  have q_W_8_d := Nat.ne_of_lt q_W_8_c
  have q_X_8_a := st_X.cell0
  have q_X_8_b := st_X.cell1
  have q_X_8_c := st_X.lt
  have q_X_8_d := Nat.ne_of_lt q_X_8_c
  have q_G_8_a := st_G.cell0
  have q_G_8_b := st_G.cell1
  have q_G_8_c := st_G.lt
  have q_G_8_d := Nat.ne_of_lt q_G_8_c
  clear q_P_8_a q_P_8_b q_P_8_c q_P_8_d q_W_8_a q_W_8_b q_W_8_c q_W_8_d q_X_8_a q_X_8_b q_X_8_c q_X_8_d q_G_8_a q_G_8_b q_G_8_c q_G_8_d
  have HSX := Lib.hid st_X
  have HSP := Lib.hid st_P
  have qx0 := st_X.cell0
  have qx1 := st_X.cell1
  have qp0 := st_P.cell0
  have qp1 := st_P.cell1
  go_wp2_with fail
  go_region_held3 (fun w' => w'.cell? ⟨w5.heap.size, 0, none⟩ = some (.slice A_X b0.length c_X) ∧ w'.cell? ⟨w5.heap.size, 1, none⟩ = some (.slice B_X f0.length d_X) ∧ w'.cell? ⟨w.heap.size, 0, none⟩ = some (.slice A0 n0 c0) ∧ w'.cell? ⟨w.heap.size, 1, none⟩ = some (.slice B0 m0 d0))
    (exact ⟨(HSX.out.ext (by repeat (first | (with_reducible exact Ext.refl _) | (with_reducible assumption) | (with_reducible refine Ext.drew ?_) | (with_reducible refine Ext.alloc ?_ _)))).cell0, (HSX.out.ext (by repeat (first | (with_reducible exact Ext.refl _) | (with_reducible assumption) | (with_reducible refine Ext.drew ?_) | (with_reducible refine Ext.alloc ?_ _)))).cell1, (HSP.out.ext (by repeat (first | (with_reducible exact Ext.refl _) | (with_reducible assumption) | (with_reducible refine Ext.drew ?_) | (with_reducible refine Ext.alloc ?_ _)))).cell0, (HSP.out.ext (by repeat (first | (with_reducible exact Ext.refl _) | (with_reducible assumption) | (with_reducible refine Ext.drew ?_) | (with_reducible refine Ext.alloc ?_ _)))).cell1⟩)
    (first
      | (go_at_call 21; refine (toClean_any A0 B0 n0 c0 m0 d0 b0 f0 _ HN0.out HM0.out zn0 zm0 (h0.ext (E.trans (by repeat (first | (with_reducible exact Ext.refl _) | (with_reducible assumption) | (with_reducible refine Ext.drew ?_) | (with_reducible refine Ext.alloc ?_ _))))) (hr0.ext (E.trans (by repeat (first | (with_reducible exact Ext.refl _) | (with_reducible assumption) | (with_reducible refine Ext.drew ?_) | (with_reducible refine Ext.alloc ?_ _)))))).mono ?_; rintro e w9 ⟨A_T, c_T, B_T, d_T, rfl, s_T, x9⟩; have y9 : Ext w8 w9 := Ext.trans (by repeat (first | (with_reducible exact Ext.refl _) | (with_reducible assumption) | (with_reducible refine Ext.drew ?_) | (with_reducible refine Ext.alloc ?_ _))) x9)
      | (go_at_call 14; refine (eqClean_any A_X B_X A_T B_T b0.length c_X f0.length d_X b0.length c_T f0.length d_T b0 f0 b0 f0 _ rfl rfl rfl rfl (by rw [HN0.out]; omega) (by rw [HM0.out]; omega) (s_X.fst.ext (by repeat (first | (with_reducible exact Ext.refl _) | (with_reducible assumption) | (with_reducible refine Ext.drew ?_) | (with_reducible refine Ext.alloc ?_ _)))).rd (s_X.snd.ext (by repeat (first | (with_reducible exact Ext.refl _) | (with_reducible assumption) | (with_reducible refine Ext.drew ?_) | (with_reducible refine Ext.alloc ?_ _)))).rd (s_T.fst.ext (by repeat (first | (with_reducible exact Ext.refl _) | (with_reducible assumption) | (with_reducible refine Ext.drew ?_) | (with_reducible refine Ext.alloc ?_ _)))).rd (s_T.snd.ext (by repeat (first | (with_reducible exact Ext.refl _) | (with_reducible assumption) | (with_reducible refine Ext.drew ?_) | (with_reducible refine Ext.alloc ?_ _)))).rd).mono ?_; rintro e w10 ⟨rfl, x10⟩; have y10 : Ext w8 w10 := Ext.trans (by repeat (first | (with_reducible exact Ext.refl _) | (with_reducible assumption) | (with_reducible refine Ext.drew ?_) | (with_reducible refine Ext.alloc ?_ _))) x10))
  clear qx0 qx1 qp0 qp1 HSX HSP
  replace st_P := st_P.ext y10
  replace s_W := s_W.ext y10
  replace st_W := st_W.ext y10
  replace s_X := s_X.ext y10
  replace st_X := st_X.ext y10
  replace s_Y := s_Y.ext y10
  replace s_G := s_G.ext y10
  replace st_G := st_G.ext y10
  replace E := E.trans y10
  have z_y10 := y10.size
  try simp only [World.size_alloc] at z_y10
  have q_P_10_a := st_P.cell0
  have q_P_10_b := st_P.cell1
  have q_P_10_c := st_P.lt
  have q_P_10_d := Nat.ne_of_lt q_P_10_c
  have q_W_10_a := st_W.cell0
  have q_W_10_b := st_W.cell1
  have q_W_10_c := st_W.lt
  have q_W_10_d := Nat.ne_of_lt q_W_10_c
  have q_X_10_a := st_X.cell0
  have q_X_10_b := st_X.cell1
  have q_X_10_c := st_X.lt
  have q_X_10_d := Nat.ne_of_lt q_X_10_c
  have q_G_10_a := st_G.cell0
  have q_G_10_b := st_G.cell1
  have q_G_10_c := st_G.lt
  have q_G_10_d := Nat.ne_of_lt q_G_10_c
  go_wp2_with fail
  refine (toIntS_any A1 n1 c1 b1 _ HN1.out hz1 (h1.ext E)).mono ?_
  rintro e w11 ⟨A_U, c_U, rfl, s_U, x11⟩
  replace st_P := st_P.ext x11
  replace s_W := s_W.ext x11
  replace st_W := st_W.ext x11
  replace s_X := s_X.ext x11
  replace st_X := st_X.ext x11
  replace s_Y := s_Y.ext x11
  replace s_G := s_G.ext x11
  replace st_G := st_G.ext x11
  replace E := E.trans x11
  have z_x11 := x11.size
  try simp only [World.size_alloc] at z_x11
  clear q_P_10_a q_P_10_b q_P_10_c q_P_10_d q_W_10_a q_W_10_b q_W_10_c q_W_10_d q_X_10_a q_X_10_b q_X_10_c q_X_10_d q_G_10_a q_G_10_b q_G_10_c q_G_10_d
  have q_P_11_a := st_P.cell0
  have q_P_11_b := st_P.cell1
  have q_P_11_c := st_P.lt
  have q_P_11_d := Nat.ne_of_lt q_P_11_c
  have q_W_11_a := st_W.cell0
  have q_W_11_b := st_W.cell1
  have q_W_11_c := st_W.lt
  have q_W_11_d := Nat.ne_of_lt q_W_11_c
  have q_X_11_a := st_X.cell0
  have q_X_11_b := st_X.cell1
  have q_X_11_c := st_X.lt
  have q_X_11_d := Nat.ne_of_lt q_X_11_c
  have q_G_11_a := st_G.cell0
  have q_G_11_b := st_G.cell1
  have q_G_11_c := st_G.lt
  have q_G_11_d := Nat.ne_of_lt q_G_11_c
  go_wp2_with fail
  refine (eqIntS_any A_Y A_U n1 n1 c_Y c_U b1 b1 _ HN1.out HN1.out hz1 s_Y.rd s_U.rd).mono ?_
  rintro e w12 ⟨rfl, y12⟩
  have x12 := y12.ext
  replace st_P := st_P.ext x12
  replace s_W := s_W.ext x12
  replace st_W := st_W.ext x12
  replace s_X := s_X.ext x12
  replace st_X := st_X.ext x12
  replace s_Y := s_Y.ext x12
  replace s_G := s_G.ext x12
  replace st_G := st_G.ext x12
  replace s_U := s_U.ext x12
  replace E := E.trans x12
  have z_x12 := x12.size
  try simp only [World.size_alloc] at z_x12
  clear q_P_11_a q_P_11_b q_P_11_c q_P_11_d q_W_11_a q_W_11_b q_W_11_c q_W_11_d q_X_11_a q_X_11_b q_X_11_c q_X_11_d q_G_11_a q_G_11_b q_G_11_c q_G_11_d
  have q_P_12_a := st_P.cell0
  have q_P_12_b := st_P.cell1
  have q_P_12_c := st_P.lt
  have q_P_12_d := Nat.ne_of_lt q_P_12_c
  have q_W_12_a := st_W.cell0
  have q_W_12_b := st_W.cell1
  have q_W_12_c := st_W.lt
  have q_W_12_d := Nat.ne_of_lt q_W_12_c
  have q_X_12_a := st_X.cell0
  have q_X_12_b := st_X.cell1
  have q_X_12_c := st_X.lt
  have q_X_12_d := Nat.ne_of_lt q_X_12_c
  have q_G_12_a := st_G.cell0
  have q_G_12_b := st_G.cell1
  have q_G_12_c := st_G.lt
  have q_G_12_d := Nat.ne_of_lt q_G_12_c
  clear s_U
  have HLN : b0.length ≤ 1048576 := by rw [HN0.out]; omega
  have HLM : f0.length ≤ 1048576 := by rw [HM0.out]; omega
  go_wp2_with fail
  refine (markClean_any A_X B_X b0.length c_X f0.length d_X _ _ b0 f0 1 _ rfl rfl (by rw [HN0.out]; omega) (by rw [HM0.out]; omega) (by omega) (by omega) (by (try simp only [World.size_alloc]); omega) s_X).mono ?_
  rintro e w13 ⟨rfl, t_13, g13⟩
  clear s_X
  have z_g13 := g13.size
  try simp only [World.size_alloc] at z_g13
  replace st_P := st_P.chg g13 (by (try simp only [World.size_alloc]); omega)
  replace s_W := s_W.chg g13 (by (try simp only [World.size_alloc]); omega)
  replace st_W := st_W.chg g13 (by (try simp only [World.size_alloc]); omega)
  replace st_X := st_X.chg g13 (by (try simp only [World.size_alloc]); omega)
  replace s_Y := s_Y.chg g13 (by (try simp only [World.size_alloc]); omega)
  replace s_G := s_G.chg g13 (by (try simp only [World.size_alloc]); omega)
  replace st_G := st_G.chg g13 (by (try simp only [World.size_alloc]); omega)
  replace E := E.more g13 (by (try simp only [World.size_alloc]); omega)
  clear q_P_12_a q_P_12_b q_P_12_c q_P_12_d q_W_12_a q_W_12_b q_W_12_c q_W_12_d q_X_12_a q_X_12_b q_X_12_c q_X_12_d q_G_12_a q_G_12_b q_G_12_c q_G_12_d
  have q_P_13_a := st_P.cell0
  have q_P_13_b := st_P.cell1
  have q_P_13_c := st_P.lt
  have q_P_13_d := Nat.ne_of_lt q_P_13_c
  have q_W_13_a := st_W.cell0
  have q_W_13_b := st_W.cell1
  have q_W_13_c := st_W.lt
  have q_W_13_d := Nat.ne_of_lt q_W_13_c
  have q_X_13_a := st_X.cell0
  have q_X_13_b := st_X.cell1
  have q_X_13_c := st_X.lt
  have q_X_13_d := Nat.ne_of_lt q_X_13_c
  have q_G_13_a := st_G.cell0
  have q_G_13_b := st_G.cell1
  have q_G_13_c := st_G.lt
  have q_G_13_d := Nat.ne_of_lt q_G_13_c
  go_wp2_with fail
  refine (markIntS_any A_Y n1 c_Y _ _ b1 (1 + (b0.length : Nat) + (f0.length : Nat)) _ HN1.out hz1 (by omega) (by omega) s_Y).mono ?_
  rintro e w14 ⟨rfl, t_14, g14⟩
  clear s_Y
  have z_g14 := g14.size
  try simp only [World.size_alloc] at z_g14
  replace st_P := st_P.chg g14 (by (try simp only [World.size_alloc]); omega)
  replace s_W := s_W.chg g14 (by (try simp only [World.size_alloc]); omega)
  replace st_W := st_W.chg g14 (by (try simp only [World.size_alloc]); omega)
  replace t_13 := t_13.chg g14 (by (try simp only [World.size_alloc]); omega)
  replace st_X := st_X.chg g14 (by (try simp only [World.size_alloc]); omega)
  replace s_G := s_G.chg g14 (by (try simp only [World.size_alloc]); omega)
  replace st_G := st_G.chg g14 (by (try simp only [World.size_alloc]); omega)
  replace E := E.more g14 (by (try simp only [World.size_alloc]); omega)
  clear q_P_13_a q_P_13_b q_P_13_c q_P_13_d q_W_13_a q_W_13_b q_W_13_c q_W_13_d q_X_13_a q_X_13_b q_X_13_c q_X_13_d q_G_13_a q_G_13_b q_G_13_c q_G_13_d
  have q_P_14_a := st_P.cell0
  have q_P_14_b := st_P.cell1
  have q_P_14_c := st_P.lt
  have q_P_14_d := Nat.ne_of_lt q_P_14_c
  have q_W_14_a := st_W.cell0
  have q_W_14_b := st_W.cell1
  have q_W_14_c := st_W.lt
  have q_W_14_d := Nat.ne_of_lt q_W_14_c
  have q_X_14_a := st_X.cell0
  have q_X_14_b := st_X.cell1
  have q_X_14_c := st_X.lt
  have q_X_14_d := Nat.ne_of_lt q_X_14_c
  have q_G_14_a := st_G.cell0
  have q_G_14_b := st_G.cell1
  have q_G_14_c := st_G.lt
  have q_G_14_d := Nat.ne_of_lt q_G_14_c
  clear t_13 st_X
  clear t_14
  go_wp2_with fail
  refine (eqClean_any A_G B_G A_W B_W (crM b0 f0 b1 a2).length c_G (crL b0 f0 b1 a2).length d_G (crM b0 f0 b1 a2).length c_W (crL b0 f0 b1 a2).length d_W (crM b0 f0 b1 a2) (crL b0 f0 b1 a2) (crM b0 f0 b1 a2) (crL b0 f0 b1 a2) _ rfl rfl rfl rfl (by omega) (by omega) s_G.fst.rd s_G.snd.rd s_W.fst.rd s_W.snd.rd).mono ?_
  rintro e w15 ⟨rfl, x15⟩
  replace st_P := st_P.ext x15
  replace s_W := s_W.ext x15
  replace st_W := st_W.ext x15
  replace s_G := s_G.ext x15
  replace st_G := st_G.ext x15
  replace E := E.trans x15
  have z_x15 := x15.size
  try simp only [World.size_alloc] at z_x15
  clear q_P_14_a q_P_14_b q_P_14_c q_P_14_d q_W_14_a q_W_14_b q_W_14_c q_W_14_d q_X_14_a q_X_14_b q_X_14_c q_X_14_d q_G_14_a q_G_14_b q_G_14_c q_G_14_d
  have q_P_15_a := st_P.cell0
  have q_P_15_b := st_P.cell1
  have q_P_15_c := st_P.lt
  have q_P_15_d := Nat.ne_of_lt q_P_15_c
  have q_W_15_a := st_W.cell0
  have q_W_15_b := st_W.cell1
  have q_W_15_c := st_W.lt
  have q_W_15_d := Nat.ne_of_lt q_W_15_c
  have q_G_15_a := st_G.cell0
  have q_G_15_b := st_G.cell1
  have q_G_15_c := st_G.lt
  have q_G_15_d := Nat.ne_of_lt q_G_15_c
  go_wp2_with fail
  refine (markClean_any A_G B_G (crM b0 f0 b1 a2).length c_G (crL b0 f0 b1 a2).length d_G _ _ (crM b0 f0 b1 a2) (crL b0 f0 b1 a2) 1 _ rfl rfl (by omega) (by omega) (by omega) (by omega) (by (try simp only [World.size_alloc]); omega) s_G).mono ?_
  rintro e w16 ⟨rfl, t_16, g16⟩
  clear s_G
  have z_g16 := g16.size
  try simp only [World.size_alloc] at z_g16
  replace st_P := st_P.chg g16 (by (try simp only [World.size_alloc]); omega)
  replace s_W := s_W.chg g16 (by (try simp only [World.size_alloc]); omega)
  replace st_W := st_W.chg g16 (by (try simp only [World.size_alloc]); omega)
  replace st_G := st_G.chg g16 (by (try simp only [World.size_alloc]); omega)
  replace E := E.more g16 (by (try simp only [World.size_alloc]); omega)
  clear q_P_15_a q_P_15_b q_P_15_c q_P_15_d q_W_15_a q_W_15_b q_W_15_c q_W_15_d q_G_15_a q_G_15_b q_G_15_c q_G_15_d
  have q_P_16_a := st_P.cell0
  have q_P_16_b := st_P.cell1
  have q_P_16_c := st_P.lt
  have q_P_16_d := Nat.ne_of_lt q_P_16_c
  have q_W_16_a := st_W.cell0
  have q_W_16_b := st_W.cell1
  have q_W_16_c := st_W.lt
  have q_W_16_d := Nat.ne_of_lt q_W_16_c
  have q_G_16_a := st_G.cell0
  have q_G_16_b := st_G.cell1
  have q_G_16_c := st_G.lt
  have q_G_16_d := Nat.ne_of_lt q_G_16_c
  go_wp2_with fail
  refine (heldClean_any A_G B_G (crM b0 f0 b1 a2).length c_G (crL b0 f0 b1 a2).length d_G 1 _ (by omega) (by omega) (by omega) (by omega) t_16.fst.rd t_16.snd.rd).mono ?_
  rintro e w17 ⟨rfl, x17⟩
  replace st_P := st_P.ext x17
  replace s_W := s_W.ext x17
  replace st_W := st_W.ext x17
  replace t_16 := t_16.ext x17
  replace st_G := st_G.ext x17
  replace E := E.trans x17
  have z_x17 := x17.size
  try simp only [World.size_alloc] at z_x17
  clear q_P_16_a q_P_16_b q_P_16_c q_P_16_d q_W_16_a q_W_16_b q_W_16_c q_W_16_d q_G_16_a q_G_16_b q_G_16_c q_G_16_d
  have q_P_17_a := st_P.cell0
  have q_P_17_b := st_P.cell1
  have q_P_17_c := st_P.lt
  have q_P_17_d := Nat.ne_of_lt q_P_17_c
  have q_W_17_a := st_W.cell0
  have q_W_17_b := st_W.cell1
  have q_W_17_c := st_W.lt
  have q_W_17_d := Nat.ne_of_lt q_W_17_c
  have q_G_17_a := st_G.cell0
  have q_G_17_b := st_G.cell1
  have q_G_17_c := st_G.lt
  have q_G_17_d := Nat.ne_of_lt q_G_17_c
  go_wp2_with fail
  refine (toClean_any A0 B0 n0 c0 m0 d0 b0 f0 _ HN0.out HM0.out zn0 zm0 (h0.ext E) (hr0.ext E)).mono ?_
  rintro e w18 ⟨A_p, c_p, B_p, d_p, rfl, s_p, x18⟩
  replace st_P := st_P.ext x18
  replace s_W := s_W.ext x18
  replace st_W := st_W.ext x18
  replace t_16 := t_16.ext x18
  replace st_G := st_G.ext x18
  replace E := E.trans x18
  have z_x18 := x18.size
  try simp only [World.size_alloc] at z_x18
  clear q_P_17_a q_P_17_b q_P_17_c q_P_17_d q_W_17_a q_W_17_b q_W_17_c q_W_17_d q_G_17_a q_G_17_b q_G_17_c q_G_17_d
  have q_P_18_a := st_P.cell0
  have q_P_18_b := st_P.cell1
  have q_P_18_c := st_P.lt
  have q_P_18_d := Nat.ne_of_lt q_P_18_c
  have q_W_18_a := st_W.cell0
  have q_W_18_b := st_W.cell1
  have q_W_18_c := st_W.lt
  have q_W_18_d := Nat.ne_of_lt q_W_18_c
  have q_G_18_a := st_G.cell0
  have q_G_18_b := st_G.cell1
  have q_G_18_c := st_G.lt
  have q_G_18_d := Nat.ne_of_lt q_G_18_c
  go_wp2_with fail
  refine (toIntS_any A1 n1 c1 b1 _ HN1.out hz1 (h1.ext E)).mono ?_
  rintro e w19 ⟨A_q, c_q, rfl, s_q, x19⟩
  replace st_P := st_P.ext x19
  replace s_W := s_W.ext x19
  replace st_W := st_W.ext x19
  replace t_16 := t_16.ext x19
  replace st_G := st_G.ext x19
  replace s_p := s_p.ext x19
  replace E := E.trans x19
  have z_x19 := x19.size
  try simp only [World.size_alloc] at z_x19
  clear q_P_18_a q_P_18_b q_P_18_c q_P_18_d q_W_18_a q_W_18_b q_W_18_c q_W_18_d q_G_18_a q_G_18_b q_G_18_c q_G_18_d
  have q_P_19_a := st_P.cell0
  have q_P_19_b := st_P.cell1
  have q_P_19_c := st_P.lt
  have q_P_19_d := Nat.ne_of_lt q_P_19_c
  have q_W_19_a := st_W.cell0
  have q_W_19_b := st_W.cell1
  have q_W_19_c := st_W.lt
  have q_W_19_d := Nat.ne_of_lt q_W_19_c
  have q_G_19_a := st_G.cell0
  have q_G_19_b := st_G.cell1
  have q_G_19_c := st_G.lt
  have q_G_19_d := Nat.ne_of_lt q_G_19_c
  go_wp2_with fail
  refine (cleanRun_any A_p B_p A_q b0.length c_p f0.length d_p n1 c_q b0 f0 b1 a2 _ rfl rfl HN1.out s_p.fst.rd s_p.snd.rd s_q.rd).mono ?_
  rintro e w20 ⟨A_H, c_H, B_H, d_H, rfl, s_H, x20⟩
  replace st_P := st_P.ext x20
  replace s_W := s_W.ext x20
  replace st_W := st_W.ext x20
  replace t_16 := t_16.ext x20
  replace st_G := st_G.ext x20
  replace s_p := s_p.ext x20
  replace s_q := s_q.ext x20
  replace E := E.trans x20
  have z_x20 := x20.size
  try simp only [World.size_alloc] at z_x20
  clear q_P_19_a q_P_19_b q_P_19_c q_P_19_d q_W_19_a q_W_19_b q_W_19_c q_W_19_d q_G_19_a q_G_19_b q_G_19_c q_G_19_d
  have q_P_20_a := st_P.cell0
  have q_P_20_b := st_P.cell1
  have q_P_20_c := st_P.lt
  have q_P_20_d := Nat.ne_of_lt q_P_20_c
  have q_W_20_a := st_W.cell0
  have q_W_20_b := st_W.cell1
  have q_W_20_c := st_W.lt
  have q_W_20_d := Nat.ne_of_lt q_W_20_c
  have q_G_20_a := st_G.cell0
  have q_G_20_b := st_G.cell1
  have q_G_20_c := st_G.lt
  have q_G_20_d := Nat.ne_of_lt q_G_20_c
  have b20 := (Ext.refl w20).alloc (.cells #[.slice A_H (crM b0 f0 b1 a2).length c_H, .slice B_H (crL b0 f0 b1 a2).length d_H] 24)
  have st_H := St.new w20 #[.slice A_H (crM b0 f0 b1 a2).length c_H, .slice B_H (crL b0 f0 b1 a2).length d_H] 24
  replace st_P := st_P.ext b20
  replace s_W := s_W.ext b20
  replace st_W := st_W.ext b20
  replace t_16 := t_16.ext b20
  replace st_G := st_G.ext b20
  replace s_p := s_p.ext b20
  replace s_q := s_q.ext b20
  replace s_H := s_H.ext b20
  replace E := E.trans b20
  have z_b20 := b20.size
  try simp only [World.size_alloc] at z_b20
  clear s_p
  clear s_q
  go_wp2_with fail
  refine (eqClean_any A_H B_H A_W B_W (crM b0 f0 b1 a2).length c_H (crL b0 f0 b1 a2).length d_H (crM b0 f0 b1 a2).length c_W (crL b0 f0 b1 a2).length d_W (crM b0 f0 b1 a2) (crL b0 f0 b1 a2) (crM b0 f0 b1 a2) (crL b0 f0 b1 a2) _ rfl rfl rfl rfl (by omega) (by omega) s_H.fst.rd s_H.snd.rd s_W.fst.rd s_W.snd.rd).mono ?_
  rintro e w21 ⟨rfl, x21⟩
  replace st_P := st_P.ext x21
  replace s_W := s_W.ext x21
  replace st_W := st_W.ext x21
  replace t_16 := t_16.ext x21
  replace st_G := st_G.ext x21
  replace s_H := s_H.ext x21
  replace st_H := st_H.ext x21
  replace E := E.trans x21
  have z_x21 := x21.size
  try simp only [World.size_alloc] at z_x21
  clear q_P_20_a q_P_20_b q_P_20_c q_P_20_d q_W_20_a q_W_20_b q_W_20_c q_W_20_d q_G_20_a q_G_20_b q_G_20_c q_G_20_d
  have q_P_21_a := st_P.cell0
  have q_P_21_b := st_P.cell1
  have q_P_21_c := st_P.lt
  have q_P_21_d := Nat.ne_of_lt q_P_21_c
  have q_W_21_a := st_W.cell0
  have q_W_21_b := st_W.cell1
  have q_W_21_c := st_W.lt
  have q_W_21_d := Nat.ne_of_lt q_W_21_c
  have q_G_21_a := st_G.cell0
  have q_G_21_b := st_G.cell1
  have q_G_21_c := st_G.lt
  have q_G_21_d := Nat.ne_of_lt q_G_21_c
  have q_H_21_a := st_H.cell0
  have q_H_21_b := st_H.cell1
  have q_H_21_c := st_H.lt
  have q_H_21_d := Nat.ne_of_lt q_H_21_c
  clear s_H st_H
  clear s_W st_W
  go_wp2_with fail
  refine (heldClean_any A_G B_G (crM b0 f0 b1 a2).length c_G (crL b0 f0 b1 a2).length d_G 1 _ (by omega) (by omega) (by omega) (by omega) t_16.fst.rd t_16.snd.rd).mono ?_
  rintro e w22 ⟨rfl, x22⟩
  replace st_P := st_P.ext x22
  replace t_16 := t_16.ext x22
  replace st_G := st_G.ext x22
  replace E := E.trans x22
  have z_x22 := x22.size
  try simp only [World.size_alloc] at z_x22
  clear q_P_21_a q_P_21_b q_P_21_c q_P_21_d q_W_21_a q_W_21_b q_W_21_c q_W_21_d q_G_21_a q_G_21_b q_G_21_c q_G_21_d q_H_21_a q_H_21_b q_H_21_c q_H_21_d
  have q_P_22_a := st_P.cell0
  have q_P_22_b := st_P.cell1
  have q_P_22_c := st_P.lt
  have q_P_22_d := Nat.ne_of_lt q_P_22_c
  have q_G_22_a := st_G.cell0
  have q_G_22_b := st_G.cell1
  have q_G_22_c := st_G.lt
  have q_G_22_d := Nat.ne_of_lt q_G_22_c
  go_wp2
  go_ret
  exact ⟨rfl, E⟩
end Go.Proofs.Ytbafniaohjjacaa.fnExactCleanRun
