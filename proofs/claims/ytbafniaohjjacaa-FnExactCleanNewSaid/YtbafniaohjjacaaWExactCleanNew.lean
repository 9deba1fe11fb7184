/-
  The walk of FnExactCleanNew: it returns true and writes nothing that was there.
-/
import Derived.Test.YtbafniaohjjacaaCleanLaws
namespace Go.Proofs.Ytbafniaohjjacaa.fnExactCleanNew
open Go.RowKit
set_option linter.unusedVariables false

set_option maxRecDepth 100000 in
set_option maxHeartbeats 1000000 in
theorem walk (A0 : Option Addr) (n0 c0 : Nat) (b0 : List Int) (w : World) (hn0 : b0.length = n0) (hm0 : n0 ≤ 9223372036854775807) (h0 : Rd w w.heap.size A0 n0 c0 (ints b0)) :
    Calls Try.prog 3 #[.slice A0 n0 c0] w fun e w' => e = .returned (.bool true) ∧ Ext w w' := by
  have HN0 := Lib.hid hn0
  clear hn0
  by_cases hz0 : n0 ≤ 1048576
  case neg =>
    go_enter Try.func3, Try.ntmps3
    go_wp2
    go_ret
    exact ⟨rfl, Ext.refl _⟩
  have hl1 := cnM_length b0
  have hl2 := cnL_length b0
  go_enter Try.func3, Try.ntmps3
  go_wp2_with fail
  refine (toIntS_any A0 n0 c0 b0 _ HN0.out hz0 h0).mono ?_
  rintro e w1 ⟨A_a, c_a, rfl, s_a, x1⟩
  have E := x1
  have z_x1 := x1.size
  try simp only [World.size_alloc] at z_x1
  go_wp2_with fail
  refine (specCleanNew_any A_a n0 c_a b0 _ HN0.out hz0 s_a.rd).mono ?_
  rintro e w2 ⟨A_W, c_W, B_W, d_W, rfl, s_W, x2⟩
  replace s_a := s_a.ext x2
  replace E := E.trans x2
  have z_x2 := x2.size
  try simp only [World.size_alloc] at z_x2
  have b2 := (Ext.refl w2).alloc (.cells #[.slice A_W (cnM b0).length c_W, .slice B_W (cnL b0).length d_W] 24)
  have st_W := St.new w2 #[.slice A_W (cnM b0).length c_W, .slice B_W (cnL b0).length d_W] 24
  replace s_a := s_a.ext b2
  replace s_W := s_W.ext b2
  replace E := E.trans b2
  have z_b2 := b2.size
  try simp only [World.size_alloc] at z_b2
  clear s_a
  go_wp2_with fail
  refine (toIntS_any A0 n0 c0 b0 _ HN0.out hz0 (h0.ext E)).mono ?_
  rintro e w3 ⟨A_X, c_X, rfl, s_X, x3⟩
  replace s_W := s_W.ext x3
  replace st_W := st_W.ext x3
  replace E := E.trans x3
  have z_x3 := x3.size
  try simp only [World.size_alloc] at z_x3
  have q_W_3_a := st_W.cell0
  have q_W_3_b := st_W.cell1
  have q_W_3_c := st_W.lt
  have q_W_3_d := Nat.ne_of_lt q_W_3_c
  go_wp2_with fail
  refine (cleanNew_any A_X n0 c_X b0 _ HN0.out s_X.rd).mono ?_
  rintro e w4 ⟨A_G, c_G, B_G, d_G, rfl, s_G, x4⟩
  replace s_W := s_W.ext x4
  replace st_W := st_W.ext x4
  replace s_X := s_X.ext x4
  replace E := E.trans x4
  have z_x4 := x4.size
  try simp only [World.size_alloc] at z_x4
  clear q_W_3_a q_W_3_b q_W_3_c q_W_3_d
  have q_W_4_a := st_W.cell0
  have q_W_4_b := st_W.cell1
  have q_W_4_c := st_W.lt
  have q_W_4_d := Nat.ne_of_lt q_W_4_c
  have b4 := (Ext.refl w4).alloc (.cells #[.slice A_G (cnM b0).length c_G, .slice B_G (cnL b0).length d_G] 24)
  have st_G := St.new w4 #[.slice A_G (cnM b0).length c_G, .slice B_G (cnL b0).length d_G] 24
  replace s_W := s_W.ext b4
  replace st_W := st_W.ext b4
  replace s_X := s_X.ext b4
  replace s_G := s_G.ext b4
  replace E := E.trans b4
  have z_b4 := b4.size
  try simp only [World.size_alloc] at z_b4
  go_wp2_with fail
  refine (eqClean_any A_G B_G A_W B_W (cnM b0).length c_G (cnL b0).length d_G (cnM b0).length c_W (cnL b0).length d_W (cnM b0) (cnL b0) (cnM b0) (cnL b0) _ rfl rfl rfl rfl (by omega) (by omega) s_G.fst.rd s_G.snd.rd s_W.fst.rd s_W.snd.rd).mono ?_
  rintro e w5 ⟨rfl, x5⟩
  replace s_W := s_W.ext x5
  replace st_W := st_W.ext x5
  replace s_X := s_X.ext x5
  replace s_G := s_G.ext x5
  replace st_G := st_G.ext x5
  replace E := E.trans x5
  have z_x5 := x5.size
  try simp only [World.size_alloc] at z_x5
  clear q_W_4_a q_W_4_b q_W_4_c q_W_4_d
  have q_W_5_a := st_W.cell0
  have q_W_5_b := st_W.cell1
  have q_W_5_c := st_W.lt
  have q_W_5_d := Nat.ne_of_lt q_W_5_c
  have q_G_5_a := st_G.cell0
  have q_G_5_b := st_G.cell1
  have q_G_5_c := st_G.lt
  have q_G_5_d := Nat.ne_of_lt q_G_5_c
  go_wp2_with fail
  refine (toIntS_any A0 n0 c0 b0 _ HN0.out hz0 (h0.ext E)).mono ?_
  rintro e w6 ⟨A_T, c_T, rfl, s_T, x6⟩
  replace s_W := s_W.ext x6
  replace st_W := st_W.ext x6
  replace s_X := s_X.ext x6
  replace s_G := s_G.ext x6
  replace st_G := st_G.ext x6
  replace E := E.trans x6
  have z_x6 := x6.size
  try simp only [World.size_alloc] at z_x6
  clear q_W_5_a q_W_5_b q_W_5_c q_W_5_d q_G_5_a q_G_5_b q_G_5_c q_G_5_d
  have q_W_6_a := st_W.cell0
  have q_W_6_b := st_W.cell1
  have q_W_6_c := st_W.lt
  have q_W_6_d := Nat.ne_of_lt q_W_6_c
  have q_G_6_a := st_G.cell0
  have q_G_6_b := st_G.cell1
  have q_G_6_c := st_G.lt
  have q_G_6_d := Nat.ne_of_lt q_G_6_c
  go_wp2_with fail
  refine (eqIntS_any A_X A_T n0 n0 c_X c_T b0 b0 _ HN0.out HN0.out hz0 s_X.rd s_T.rd).mono ?_
  rintro e w7 ⟨rfl, y7⟩
  have x7 := y7.ext
  replace s_W := s_W.ext x7
  replace st_W := st_W.ext x7
  replace s_X := s_X.ext x7
  replace s_G := s_G.ext x7
  replace st_G := st_G.ext x7
  replace s_T := s_T.ext x7
  replace E := E.trans x7
  have z_x7 := x7.size
  try simp only [World.size_alloc] at z_x7
  clear q_W_6_a q_W_6_b q_W_6_c q_W_6_d q_G_6_a q_G_6_b q_G_6_c q_G_6_d
  have q_W_7_a := st_W.cell0
  have q_W_7_b := st_W.cell1
  have q_W_7_c := st_W.lt
  have q_W_7_d := Nat.ne_of_lt q_W_7_c
  have q_G_7_a := st_G.cell0
  have q_G_7_b := st_G.cell1
  have q_G_7_c := st_G.lt
  have q_G_7_d := Nat.ne_of_lt q_G_7_c
  clear s_T
  go_wp2_with fail
  refine (markIntS_any A_X n0 c_X _ _ b0 1 _ HN0.out hz0 (by omega) (by omega) s_X).mono ?_
  rintro e w8 ⟨rfl, t_8, g8⟩
  clear s_X
  have z_g8 := g8.size
  try simp only [World.size_alloc] at z_g8
  replace s_W := s_W.chg g8 (by (try simp only [World.size_alloc]); omega)
  replace st_W := st_W.chg g8 (by (try simp only [World.size_alloc]); omega)
  replace s_G := s_G.chg g8 (by (try simp only [World.size_alloc]); omega)
  replace st_G := st_G.chg g8 (by (try simp only [World.size_alloc]); omega)
  replace E := E.more g8 (by (try simp only [World.size_alloc]); omega)
  clear q_W_7_a q_W_7_b q_W_7_c q_W_7_d q_G_7_a q_G_7_b q_G_7_c q_G_7_d
  have q_W_8_a := st_W.cell0
  have q_W_8_b := st_W.cell1
  have q_W_8_c := st_W.lt
  have q_W_8_d := Nat.ne_of_lt q_W_8_c
  have q_G_8_a := st_G.cell0
  have q_G_8_b := st_G.cell1
  have q_G_8_c := st_G.lt
  have q_G_8_d := Nat.ne_of_lt q_G_8_c
  clear t_8
  go_wp2_with fail
  refine (eqClean_any A_G B_G A_W B_W (cnM b0).length c_G (cnL b0).length d_G (cnM b0).length c_W (cnL b0).length d_W (cnM b0) (cnL b0) (cnM b0) (cnL b0) _ rfl rfl rfl rfl (by omega) (by omega) s_G.fst.rd s_G.snd.rd s_W.fst.rd s_W.snd.rd).mono ?_
  rintro e w9 ⟨rfl, x9⟩
  replace s_W := s_W.ext x9
  replace st_W := st_W.ext x9
  replace s_G := s_G.ext x9
  replace st_G := st_G.ext x9
  replace E := E.trans x9
  have z_x9 := x9.size
  try simp only [World.size_alloc] at z_x9
  clear q_W_8_a q_W_8_b q_W_8_c q_W_8_d q_G_8_a q_G_8_b q_G_8_c q_G_8_d
  have q_W_9_a := st_W.cell0
  have q_W_9_b := st_W.cell1
  have q_W_9_c := st_W.lt
  have q_W_9_d := Nat.ne_of_lt q_W_9_c
  have q_G_9_a := st_G.cell0
  have q_G_9_b := st_G.cell1
  have q_G_9_c := st_G.lt
  have q_G_9_d := Nat.ne_of_lt q_G_9_c
  go_wp2_with fail
  refine (markClean_any A_G B_G (cnM b0).length c_G (cnL b0).length d_G _ _ (cnM b0) (cnL b0) 1 _ rfl rfl (by omega) (by omega) (by omega) (by omega) (by (try simp only [World.size_alloc]); omega) s_G).mono ?_
  rintro e w10 ⟨rfl, t_10, g10⟩
  clear s_G
  have z_g10 := g10.size
  try simp only [World.size_alloc] at z_g10
  replace s_W := s_W.chg g10 (by (try simp only [World.size_alloc]); omega)
  replace st_W := st_W.chg g10 (by (try simp only [World.size_alloc]); omega)
  replace st_G := st_G.chg g10 (by (try simp only [World.size_alloc]); omega)
  replace E := E.more g10 (by (try simp only [World.size_alloc]); omega)
  clear q_W_9_a q_W_9_b q_W_9_c q_W_9_d q_G_9_a q_G_9_b q_G_9_c q_G_9_d
  have q_W_10_a := st_W.cell0
  have q_W_10_b := st_W.cell1
  have q_W_10_c := st_W.lt
  have q_W_10_d := Nat.ne_of_lt q_W_10_c
  have q_G_10_a := st_G.cell0
  have q_G_10_b := st_G.cell1
  have q_G_10_c := st_G.lt
  have q_G_10_d := Nat.ne_of_lt q_G_10_c
  go_wp2_with fail
  refine (heldClean_any A_G B_G (cnM b0).length c_G (cnL b0).length d_G 1 _ (by omega) (by omega) (by omega) (by omega) t_10.fst.rd t_10.snd.rd).mono ?_
  rintro e w11 ⟨rfl, x11⟩
  replace s_W := s_W.ext x11
  replace st_W := st_W.ext x11
  replace t_10 := t_10.ext x11
  replace st_G := st_G.ext x11
  replace E := E.trans x11
  have z_x11 := x11.size
  try simp only [World.size_alloc] at z_x11
  clear q_W_10_a q_W_10_b q_W_10_c q_W_10_d q_G_10_a q_G_10_b q_G_10_c q_G_10_d
  have q_W_11_a := st_W.cell0
  have q_W_11_b := st_W.cell1
  have q_W_11_c := st_W.lt
  have q_W_11_d := Nat.ne_of_lt q_W_11_c
  have q_G_11_a := st_G.cell0
  have q_G_11_b := st_G.cell1
  have q_G_11_c := st_G.lt
  have q_G_11_d := Nat.ne_of_lt q_G_11_c
  go_wp2_with fail
  refine (toIntS_any A0 n0 c0 b0 _ HN0.out hz0 (h0.ext E)).mono ?_
  rintro e w12 ⟨A_Y, c_Y, rfl, s_Y, x12⟩
  replace s_W := s_W.ext x12
  replace st_W := st_W.ext x12
  replace t_10 := t_10.ext x12
  replace st_G := st_G.ext x12
  replace E := E.trans x12
  have z_x12 := x12.size
  try simp only [World.size_alloc] at z_x12
  clear q_W_11_a q_W_11_b q_W_11_c q_W_11_d q_G_11_a q_G_11_b q_G_11_c q_G_11_d
  have q_W_12_a := st_W.cell0
  have q_W_12_b := st_W.cell1
  have q_W_12_c := st_W.lt
  have q_W_12_d := Nat.ne_of_lt q_W_12_c
  have q_G_12_a := st_G.cell0
  have q_G_12_b := st_G.cell1
  have q_G_12_c := st_G.lt
  have q_G_12_d := Nat.ne_of_lt q_G_12_c
  go_wp2_with fail
  refine (cleanNew_any A_Y n0 c_Y b0 _ HN0.out s_Y.rd).mono ?_
  rintro e w13 ⟨A_H, c_H, B_H, d_H, rfl, s_H, x13⟩
  replace s_W := s_W.ext x13
  replace st_W := st_W.ext x13
  replace t_10 := t_10.ext x13
  replace st_G := st_G.ext x13
  replace s_Y := s_Y.ext x13
  replace E := E.trans x13
  have z_x13 := x13.size
  try simp only [World.size_alloc] at z_x13
  clear q_W_12_a q_W_12_b q_W_12_c q_W_12_d q_G_12_a q_G_12_b q_G_12_c q_G_12_d
  have q_W_13_a := st_W.cell0
  have q_W_13_b := st_W.cell1
  have q_W_13_c := st_W.lt
  have q_W_13_d := Nat.ne_of_lt q_W_13_c
  have q_G_13_a := st_G.cell0
  have q_G_13_b := st_G.cell1
  have q_G_13_c := st_G.lt
  have q_G_13_d := Nat.ne_of_lt q_G_13_c
  have b13 := (Ext.refl w13).alloc (.cells #[.slice A_H (cnM b0).length c_H, .slice B_H (cnL b0).length d_H] 24)
  have st_H := St.new w13 #[.slice A_H (cnM b0).length c_H, .slice B_H (cnL b0).length d_H] 24
  replace s_W := s_W.ext b13
  replace st_W := st_W.ext b13
  replace t_10 := t_10.ext b13
  replace st_G := st_G.ext b13
  replace s_Y := s_Y.ext b13
  replace s_H := s_H.ext b13
  replace E := E.trans b13
  have z_b13 := b13.size
  try simp only [World.size_alloc] at z_b13
  clear s_Y
  go_wp2_with fail
  refine (eqClean_any A_H B_H A_W B_W (cnM b0).length c_H (cnL b0).length d_H (cnM b0).length c_W (cnL b0).length d_W (cnM b0) (cnL b0) (cnM b0) (cnL b0) _ rfl rfl rfl rfl (by omega) (by omega) s_H.fst.rd s_H.snd.rd s_W.fst.rd s_W.snd.rd).mono ?_
  rintro e w14 ⟨rfl, x14⟩
  replace s_W := s_W.ext x14
  replace st_W := st_W.ext x14
  replace t_10 := t_10.ext x14
  replace st_G := st_G.ext x14
  replace s_H := s_H.ext x14
  replace st_H := st_H.ext x14
  replace E := E.trans x14
  have z_x14 := x14.size
  try simp only [World.size_alloc] at z_x14
  clear q_W_13_a q_W_13_b q_W_13_c q_W_13_d q_G_13_a q_G_13_b q_G_13_c q_G_13_d
  have q_W_14_a := st_W.cell0
  have q_W_14_b := st_W.cell1
  have q_W_14_c := st_W.lt
  have q_W_14_d := Nat.ne_of_lt q_W_14_c
  have q_G_14_a := st_G.cell0
  have q_G_14_b := st_G.cell1
  have q_G_14_c := st_G.lt
  have q_G_14_d := Nat.ne_of_lt q_G_14_c
  have q_H_14_a := st_H.cell0
  have q_H_14_b := st_H.cell1
  have q_H_14_c := st_H.lt
  have q_H_14_d := Nat.ne_of_lt q_H_14_c
  clear s_H st_H
  clear s_W st_W
  go_wp2_with fail
  refine (heldClean_any A_G B_G (cnM b0).length c_G (cnL b0).length d_G 1 _ (by omega) (by omega) (by omega) (by omega) t_10.fst.rd t_10.snd.rd).mono ?_
  rintro e w15 ⟨rfl, x15⟩
  replace t_10 := t_10.ext x15
  replace st_G := st_G.ext x15
  replace E := E.trans x15
  have z_x15 := x15.size
  try simp only [World.size_alloc] at z_x15
  clear q_W_14_a q_W_14_b q_W_14_c q_W_14_d q_G_14_a q_G_14_b q_G_14_c q_G_14_d q_H_14_a q_H_14_b q_H_14_c q_H_14_d
  have q_G_15_a := st_G.cell0
  have q_G_15_b := st_G.cell1
  have q_G_15_c := st_G.lt
  have q_G_15_d := Nat.ne_of_lt q_G_15_c
  go_wp2
  go_ret
  exact ⟨rfl, E⟩
end Go.Proofs.Ytbafniaohjjacaa.fnExactCleanNew
