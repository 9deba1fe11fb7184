/-
  The walk of FnExactCoverTurn: it returns true and writes nothing that was there.
-/
import Derived.Test.YtealhjcibgcllaaCovD
import Derived.Test.YtealhjcibgcllaaFlags
namespace Go.Proofs.Ytealhjcibgcllaa.fnExactCoverTurn
open Go.RowKit

set_option maxHeartbeats 1000000 in
theorem walk (A0 : Option Addr) (n0 c0 : Nat) (b0 : List Bool) (w : World) (hn0 : b0.length = n0) (hm0 : n0 ≤ 9223372036854775807) (h0 : Rd w w.heap.size A0 n0 c0 (bools b0)) :
    Calls Try.prog 8 #[.slice A0 n0 c0] w fun e w' => e = .returned (.bool true) ∧ Ext w w' := by
  have HN0 := Lib.hid hn0
  clear hn0
  by_cases hz0 : n0 ≤ 1048576
  case neg =>
    go_enter Try.func8, Try.ntmps8
    go_wp2
    go_ret
    exact ⟨rfl, Ext.refl _⟩
  have hres : (covTurn b0).length ≤ 1048576 := by have := covTurn_length b0; omega
  go_enter Try.func8, Try.ntmps8
  go_wp2_with fail
  refine (toBoolS_any A0 n0 c0 b0 _ HN0.out hz0 h0).mono ?_
  rintro e w1 ⟨A_a0, c_a0, rfl, s_a0, x1⟩
  have E := x1
  go_wp2_with fail
  refine (specCoverTurn_any A_a0 n0 c_a0 b0 _ HN0.out s_a0.rd).mono ?_
  rintro e w2 ⟨A_W, c_W, rfl, s_W, x2⟩
  replace s_a0 := s_a0.ext x2
  replace E := E.trans x2
  clear s_a0
  go_wp2_with fail
  refine (toBoolS_any A0 n0 c0 b0 _ HN0.out hz0 (h0.ext E)).mono ?_
  rintro e w3 ⟨A_X0, c_X0, rfl, s_X0, x3⟩
  replace s_W := s_W.ext x3
  replace E := E.trans x3
  go_wp2_with fail
  refine (coverTurn_any A_X0 n0 c_X0 b0 _ HN0.out s_X0.rd).mono ?_
  rintro e w4 ⟨A_G, c_G, rfl, s_G, x4⟩
  replace s_W := s_W.ext x4
  replace s_X0 := s_X0.ext x4
  replace E := E.trans x4
  go_wp2_with fail
  refine (eqBoolS_any A_G A_W (covTurn b0).length (covTurn b0).length c_G c_W (covTurn b0) (covTurn b0) _ rfl rfl hres s_G.rd s_W.rd).mono ?_
  rintro e w5 ⟨rfl, y5⟩
  have x5 := y5.ext
  replace s_W := s_W.ext x5
  replace s_X0 := s_X0.ext x5
  replace s_G := s_G.ext x5
  replace E := E.trans x5
  go_wp2_with fail
  refine (toBoolS_any A0 n0 c0 b0 _ HN0.out hz0 (h0.ext E)).mono ?_
  rintro e w6 ⟨A_T0, c_T0, rfl, s_T0, x6⟩
  replace s_W := s_W.ext x6
  replace s_X0 := s_X0.ext x6
  replace s_G := s_G.ext x6
  replace E := E.trans x6
  go_wp2_with fail
  refine (eqBoolS_any A_X0 A_T0 n0 n0 c_X0 c_T0 b0 b0 _ HN0.out HN0.out hz0 s_X0.rd s_T0.rd).mono ?_
  rintro e w7 ⟨rfl, y7⟩
  have x7 := y7.ext
  replace s_W := s_W.ext x7
  replace s_X0 := s_X0.ext x7
  replace s_G := s_G.ext x7
  replace s_T0 := s_T0.ext x7
  replace E := E.trans x7
  clear s_T0
  go_wp2_with fail
  refine (markBoolS_any A_X0 n0 c_X0 _ _ b0 1 _ HN0.out hz0 (by omega) (by omega) s_X0).mono ?_
  rintro e w8 ⟨rfl, sm8, g8⟩
  replace s_W := s_W.chg g8 (by have := x1.size; have := x2.size; have := x3.size; have := x4.size; have := x5.size; have := x6.size; have := x7.size; omega)
  replace s_G := s_G.chg g8 (by have := x1.size; have := x2.size; have := x3.size; have := x4.size; have := x5.size; have := x6.size; have := x7.size; omega)
  clear s_X0
  replace E := E.more g8 (by have := x1.size; have := x2.size; have := x3.size; have := x4.size; have := x5.size; have := x6.size; have := x7.size; omega)
  clear sm8
  go_wp2_with fail
  refine (eqBoolS_any A_G A_W (covTurn b0).length (covTurn b0).length c_G c_W (covTurn b0) (covTurn b0) _ rfl rfl hres s_G.rd s_W.rd).mono ?_
  rintro e w9 ⟨rfl, y9⟩
  have x9 := y9.ext
  replace s_W := s_W.ext x9
  replace s_G := s_G.ext x9
  replace E := E.trans x9
  go_wp2_with fail
  refine (markBoolS_any A_G (covTurn b0).length c_G _ _ (covTurn b0) 1 _ rfl hres (by omega) (by omega) s_G).mono ?_
  rintro e w10 ⟨rfl, sm10, g10⟩
  replace s_W := s_W.chg g10 (by have := x1.size; have := x2.size; have := x3.size; have := x4.size; have := x5.size; have := x6.size; have := x7.size; have := g8.size; have := x9.size; omega)
  clear s_G
  replace E := E.more g10 (by have := x1.size; have := x2.size; have := x3.size; have := x4.size; have := x5.size; have := x6.size; have := x7.size; have := g8.size; have := x9.size; omega)
  go_wp2_with fail
  refine (heldBoolS_any A_G (covTurn b0).length c_G 1 _ hres (by omega) (by omega) sm10.rd).mono ?_
  rintro e w_ ⟨rfl, rfl⟩
  go_wp2_with fail
  refine (toBoolS_any A0 n0 c0 b0 _ HN0.out hz0 (h0.ext E)).mono ?_
  rintro e w11 ⟨A_Y0, c_Y0, rfl, s_Y0, x11⟩
  replace s_W := s_W.ext x11
  replace sm10 := sm10.ext x11
  replace E := E.trans x11
  go_wp2_with fail
  refine (coverTurn_any A_Y0 n0 c_Y0 b0 _ HN0.out s_Y0.rd).mono ?_
  rintro e w12 ⟨A_H, c_H, rfl, s_H, x12⟩
  replace s_W := s_W.ext x12
  replace sm10 := sm10.ext x12
  replace s_Y0 := s_Y0.ext x12
  replace E := E.trans x12
  clear s_Y0
  go_wp2_with fail
  refine (eqBoolS_any A_H A_W (covTurn b0).length (covTurn b0).length c_H c_W (covTurn b0) (covTurn b0) _ rfl rfl hres s_H.rd s_W.rd).mono ?_
  rintro e w13 ⟨rfl, y13⟩
  have x13 := y13.ext
  replace s_W := s_W.ext x13
  replace sm10 := sm10.ext x13
  replace s_H := s_H.ext x13
  replace E := E.trans x13
  clear s_H
  clear s_W
  go_wp2_with fail
  refine (heldBoolS_any A_G (covTurn b0).length c_G 1 _ hres (by omega) (by omega) sm10.rd).mono ?_
  rintro e w_ ⟨rfl, rfl⟩
  go_wp2
  go_ret
  exact ⟨rfl, E⟩
end Go.Proofs.Ytealhjcibgcllaa.fnExactCoverTurn
