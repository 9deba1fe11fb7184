/-
  The walk of FnExactCleanPeak: it returns true and writes nothing that was there.
-/
import Derived.Test.YtbafniaohjjacaaCleanLaws
namespace Go.Proofs.Ytbafniaohjjacaa.fnExactCleanPeak
open Go.RowKit
set_option linter.unusedVariables false

set_option maxRecDepth 100000 in
set_option maxHeartbeats 2000000 in
theorem walk (A0 : Option Addr) (n0 c0 : Nat) (b0 : List Int) (B0 : Option Addr) (m0 d0 : Nat) (f0 : List Int) (w : World) (hn0 : b0.length = n0) (hm0 : n0 ≤ 9223372036854775807) (h0 : Rd w w.heap.size A0 n0 c0 (ints b0)) (hnn0 : f0.length = m0) (hmm0 : m0 ≤ 9223372036854775807) (hr0 : Rd w w.heap.size B0 m0 d0 (ints f0)) :
    Calls Try.prog 4 #[.agg #[.slice A0 n0 c0, .slice B0 m0 d0]] w fun e w' => e = .returned (.bool true) ∧ Ext w w' := by
  have HN0 := Lib.hid hn0
  have HM0 := Lib.hid hnn0
  clear hn0 hnn0
  by_cases hz0 : (n0 : Int) + m0 ≤ 1048576
  case neg =>
    go_enter Try.func4, Try.ntmps4
    go_wp2_with fail
    refine (szClean_no A0 B0 n0 c0 m0 d0 _ hm0 hmm0 (by omega)).mono ?_
    rintro e w1 ⟨rfl, x1⟩
    go_wp2
    go_ret
    exact ⟨rfl, ((Ext.refl w).alloc _).trans x1⟩
  have zn0 : n0 ≤ 1048576 := by omega
  have zm0 : m0 ≤ 1048576 := by omega
  go_enter Try.func4, Try.ntmps4
  have E := (Ext.refl w).alloc (.cells #[.slice A0 n0 c0, .slice B0 m0 d0] 33)
  have st_P := St.new w #[.slice A0 n0 c0, .slice B0 m0 d0] 33
  go_wp2_with fail
  refine (szClean_yes A0 B0 n0 c0 m0 d0 _ hz0).mono ?_
  rintro e w1 ⟨rfl, x1⟩
  replace st_P := st_P.ext x1
  replace E := E.trans x1
  have z_x1 := x1.size
  try simp only [World.size_alloc] at z_x1
  have q_P_1_a := st_P.cell0
  have q_P_1_b := st_P.cell1
  have q_P_1_c := st_P.lt
  have q_P_1_d := Nat.ne_of_lt q_P_1_c
  go_wp2_with fail
  refine (toClean_any A0 B0 n0 c0 m0 d0 b0 f0 _ HN0.out HM0.out zn0 zm0 (h0.ext E) (hr0.ext E)).mono ?_
  rintro e w2 ⟨A_a, c_a, B_a, d_a, rfl, s_a, x2⟩
  replace st_P := st_P.ext x2
  replace E := E.trans x2
  have z_x2 := x2.size
  try simp only [World.size_alloc] at z_x2
  clear q_P_1_a q_P_1_b q_P_1_c q_P_1_d
  have q_P_2_a := st_P.cell0
  have q_P_2_b := st_P.cell1
  have q_P_2_c := st_P.lt
  have q_P_2_d := Nat.ne_of_lt q_P_2_c
  go_wp2_with fail
  refine (specCleanPeak_any A_a B_a b0.length c_a f0.length d_a b0 f0 _ rfl rfl (by rw [HN0.out]; omega) (by rw [HM0.out]; omega) s_a.fst.rd s_a.snd.rd).mono ?_
  rintro e w3 ⟨rfl, x3⟩
  replace st_P := st_P.ext x3
  replace s_a := s_a.ext x3
  replace E := E.trans x3
  have z_x3 := x3.size
  try simp only [World.size_alloc] at z_x3
  clear q_P_2_a q_P_2_b q_P_2_c q_P_2_d
  have q_P_3_a := st_P.cell0
  have q_P_3_b := st_P.cell1
  have q_P_3_c := st_P.lt
  have q_P_3_d := Nat.ne_of_lt q_P_3_c
  clear s_a
  go_wp2_with fail
  refine (toClean_any A0 B0 n0 c0 m0 d0 b0 f0 _ HN0.out HM0.out zn0 zm0 (h0.ext E) (hr0.ext E)).mono ?_
  rintro e w4 ⟨A_X, c_X, B_X, d_X, rfl, s_X, x4⟩
  replace st_P := st_P.ext x4
  replace E := E.trans x4
  have z_x4 := x4.size
  try simp only [World.size_alloc] at z_x4
  clear q_P_3_a q_P_3_b q_P_3_c q_P_3_d
  have q_P_4_a := st_P.cell0
  have q_P_4_b := st_P.cell1
  have q_P_4_c := st_P.lt
  have q_P_4_d := Nat.ne_of_lt q_P_4_c
  have b4 := (Ext.refl w4).alloc (.cells #[.slice A_X b0.length c_X, .slice B_X f0.length d_X] 24)
  have st_X := St.new w4 #[.slice A_X b0.length c_X, .slice B_X f0.length d_X] 24
  replace st_P := st_P.ext b4
  replace s_X := s_X.ext b4
  replace E := E.trans b4
  have z_b4 := b4.size
  try simp only [World.size_alloc] at z_b4
  go_wp2_with fail
  refine (cleanPeak_any A_X B_X b0.length c_X f0.length d_X b0 f0 _ rfl rfl s_X.fst.rd s_X.snd.rd).mono ?_
  rintro e w5 ⟨rfl, x5⟩
  replace st_P := st_P.ext x5
  replace s_X := s_X.ext x5
  replace st_X := st_X.ext x5
  replace E := E.trans x5
  have z_x5 := x5.size
  try simp only [World.size_alloc] at z_x5
  clear q_P_4_a q_P_4_b q_P_4_c q_P_4_d
  have q_P_5_a := st_P.cell0
  have q_P_5_b := st_P.cell1
  have q_P_5_c := st_P.lt
  have q_P_5_d := Nat.ne_of_lt q_P_5_c
  have q_X_5_a := st_X.cell0
  have q_X_5_b := st_X.cell1
  have q_X_5_c := st_X.lt
  have q_X_5_d := Nat.ne_of_lt q_X_5_c
  clear q_P_5_a q_P_5_b q_P_5_c q_P_5_d q_X_5_a q_X_5_b q_X_5_c q_X_5_d
  have HSX := Lib.hid st_X
  have HSP := Lib.hid st_P
  have qx0 := st_X.cell0
  have qx1 := st_X.cell1
  have qp0 := st_P.cell0
  have qp1 := st_P.cell1
  go_wp2_with fail
  go_region_held3 (fun w' => w'.cell? ⟨w4.heap.size, 0, none⟩ = some (.slice A_X b0.length c_X) ∧ w'.cell? ⟨w4.heap.size, 1, none⟩ = some (.slice B_X f0.length d_X) ∧ w'.cell? ⟨w.heap.size, 0, none⟩ = some (.slice A0 n0 c0) ∧ w'.cell? ⟨w.heap.size, 1, none⟩ = some (.slice B0 m0 d0))
    (exact ⟨(HSX.out.ext (by repeat (first | (with_reducible exact Ext.refl _) | (with_reducible assumption) | (with_reducible refine Ext.drew ?_) | (with_reducible refine Ext.alloc ?_ _)))).cell0, (HSX.out.ext (by repeat (first | (with_reducible exact Ext.refl _) | (with_reducible assumption) | (with_reducible refine Ext.drew ?_) | (with_reducible refine Ext.alloc ?_ _)))).cell1, (HSP.out.ext (by repeat (first | (with_reducible exact Ext.refl _) | (with_reducible assumption) | (with_reducible refine Ext.drew ?_) | (with_reducible refine Ext.alloc ?_ _)))).cell0, (HSP.out.ext (by repeat (first | (with_reducible exact Ext.refl _) | (with_reducible assumption) | (with_reducible refine Ext.drew ?_) | (with_reducible refine Ext.alloc ?_ _)))).cell1⟩)
    (first
      | (go_at_call 21; refine (toClean_any A0 B0 n0 c0 m0 d0 b0 f0 _ HN0.out HM0.out zn0 zm0 (h0.ext (E.trans (by repeat (first | (with_reducible exact Ext.refl _) | (with_reducible assumption) | (with_reducible refine Ext.drew ?_) | (with_reducible refine Ext.alloc ?_ _))))) (hr0.ext (E.trans (by repeat (first | (with_reducible exact Ext.refl _) | (with_reducible assumption) | (with_reducible refine Ext.drew ?_) | (with_reducible refine Ext.alloc ?_ _)))))).mono ?_; rintro e w6 ⟨A_T, c_T, B_T, d_T, rfl, s_T, x6⟩; have y6 : Ext w5 w6 := Ext.trans (by repeat (first | (with_reducible exact Ext.refl _) | (with_reducible assumption) | (with_reducible refine Ext.drew ?_) | (with_reducible refine Ext.alloc ?_ _))) x6)
      | (go_at_call 14; refine (eqClean_any A_X B_X A_T B_T b0.length c_X f0.length d_X b0.length c_T f0.length d_T b0 f0 b0 f0 _ rfl rfl rfl rfl (by rw [HN0.out]; omega) (by rw [HM0.out]; omega) (s_X.fst.ext (by repeat (first | (with_reducible exact Ext.refl _) | (with_reducible assumption) | (with_reducible refine Ext.drew ?_) | (with_reducible refine Ext.alloc ?_ _)))).rd (s_X.snd.ext (by repeat (first | (with_reducible exact Ext.refl _) | (with_reducible assumption) | (with_reducible refine Ext.drew ?_) | (with_reducible refine Ext.alloc ?_ _)))).rd (s_T.fst.ext (by repeat (first | (with_reducible exact Ext.refl _) | (with_reducible assumption) | (with_reducible refine Ext.drew ?_) | (with_reducible refine Ext.alloc ?_ _)))).rd (s_T.snd.ext (by repeat (first | (with_reducible exact Ext.refl _) | (with_reducible assumption) | (with_reducible refine Ext.drew ?_) | (with_reducible refine Ext.alloc ?_ _)))).rd).mono ?_; rintro e w7 ⟨rfl, x7⟩; have y7 : Ext w5 w7 := Ext.trans (by repeat (first | (with_reducible exact Ext.refl _) | (with_reducible assumption) | (with_reducible refine Ext.drew ?_) | (with_reducible refine Ext.alloc ?_ _))) x7))
  clear qx0 qx1 qp0 qp1 HSX HSP
  replace st_P := st_P.ext y7
  replace s_X := s_X.ext y7
  replace st_X := st_X.ext y7
  replace E := E.trans y7
  have z_y7 := y7.size
  try simp only [World.size_alloc] at z_y7
  have q_P_7_a := st_P.cell0
  have q_P_7_b := st_P.cell1
  have q_P_7_c := st_P.lt
  have q_P_7_d := Nat.ne_of_lt q_P_7_c
  have q_X_7_a := st_X.cell0
  have q_X_7_b := st_X.cell1
  have q_X_7_c := st_X.lt
  have q_X_7_d := Nat.ne_of_lt q_X_7_c
  go_wp2
  go_ret
  exact ⟨rfl, E⟩
end Go.Proofs.Ytbafniaohjjacaa.fnExactCleanPeak
