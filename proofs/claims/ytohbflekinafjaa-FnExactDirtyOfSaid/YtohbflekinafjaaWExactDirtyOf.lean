/-
  The walk of FnExactDirtyOf: it returns true and writes nothing that was there.
-/
import Derived.Test.YtohbflekinafjaaDirty
import Derived.Test.YtohbflekinafjaaInts
import Derived.Test.YtohbflekinafjaaFlags
namespace Go.Proofs.Ytohbflekinafjaa.fnExactDirtyOf
open Go.RowKit

set_option maxHeartbeats 1000000 in
theorem walk (A0 : Option Addr) (n0 c0 : Nat) (b0 : List Int) (A1 : Option Addr) (n1 c1 : Nat) (b1 : List Bool) (w : World) (hn0 : b0.length = n0) (hm0 : n0 ≤ 9223372036854775807) (h0 : Rd w w.heap.size A0 n0 c0 (ints b0)) (hn1 : b1.length = n1) (hm1 : n1 ≤ 9223372036854775807) (h1 : Rd w w.heap.size A1 n1 c1 (bools b1)) :
    Calls Try.prog 5 #[.slice A0 n0 c0, .slice A1 n1 c1] w fun e w' => e = .returned (.bool true) ∧ Ext w w' := by
  have HN0 := Lib.hid hn0
  clear hn0
  have HN1 := Lib.hid hn1
  clear hn1
  by_cases hz0 : n0 ≤ 1048576
  case neg =>
    go_enter Try.func5, Try.ntmps5
    go_wp2
    go_ret
    exact ⟨rfl, Ext.refl _⟩
  by_cases hz1 : n1 ≤ 1048576
  case neg =>
    go_enter Try.func5, Try.ntmps5
    go_wp2
    go_ret
    exact ⟨rfl, Ext.refl _⟩
  have hres : (doL b0 b1).length ≤ 1048576 := by have := doL_length b0 b1; omega
  go_enter Try.func5, Try.ntmps5
  go_wp2_with fail
  refine (toIntS_any A0 n0 c0 b0 _ HN0.out hz0 h0).mono ?_
  rintro e w1 ⟨A_a0, c_a0, rfl, s_a0, x1⟩
  have E := x1
  go_wp2_with fail
  refine (toBoolS_any A1 n1 c1 b1 _ HN1.out hz1 (h1.ext E)).mono ?_
  rintro e w2 ⟨A_a1, c_a1, rfl, s_a1, x2⟩
  replace s_a0 := s_a0.ext x2
  replace E := E.trans x2
  go_wp2_with fail
  refine (specDirtyOf_any A_a0 A_a1 n0 n1 c_a0 c_a1 b0 b1 _ HN0.out HN1.out hz0 s_a0.rd s_a1.rd).mono ?_
  rintro e w3 ⟨A_W, c_W, rfl, s_W, x3⟩
  replace s_a0 := s_a0.ext x3
  replace s_a1 := s_a1.ext x3
  replace E := E.trans x3
  clear s_a0
  clear s_a1
  go_wp2_with fail
  refine (toIntS_any A0 n0 c0 b0 _ HN0.out hz0 (h0.ext E)).mono ?_
  rintro e w4 ⟨A_X0, c_X0, rfl, s_X0, x4⟩
  replace s_W := s_W.ext x4
  replace E := E.trans x4
  go_wp2_with fail
  refine (toBoolS_any A1 n1 c1 b1 _ HN1.out hz1 (h1.ext E)).mono ?_
  rintro e w5 ⟨A_X1, c_X1, rfl, s_X1, x5⟩
  replace s_W := s_W.ext x5
  replace s_X0 := s_X0.ext x5
  replace E := E.trans x5
  go_wp2_with fail
  refine (dirtyOf_any A_X0 A_X1 n0 n1 c_X0 c_X1 b0 b1 _ HN0.out HN1.out s_X0.rd s_X1.rd).mono ?_
  rintro e w6 ⟨A_G, c_G, rfl, s_G, x6⟩
  replace s_W := s_W.ext x6
  replace s_X0 := s_X0.ext x6
  replace s_X1 := s_X1.ext x6
  replace E := E.trans x6
  go_wp2_with fail
  refine (eqIntS_any A_G A_W (doL b0 b1).length (doL b0 b1).length c_G c_W (doL b0 b1) (doL b0 b1) _ rfl rfl hres s_G.rd s_W.rd).mono ?_
  rintro e w7 ⟨rfl, y7⟩
  have x7 := y7.ext
  replace s_W := s_W.ext x7
  replace s_X0 := s_X0.ext x7
  replace s_X1 := s_X1.ext x7
  replace s_G := s_G.ext x7
  replace E := E.trans x7
  go_wp2_with fail
  refine (toIntS_any A0 n0 c0 b0 _ HN0.out hz0 (h0.ext E)).mono ?_
  rintro e w8 ⟨A_T0, c_T0, rfl, s_T0, x8⟩
  replace s_W := s_W.ext x8
  replace s_X0 := s_X0.ext x8
  replace s_X1 := s_X1.ext x8
  replace s_G := s_G.ext x8
  replace E := E.trans x8
  go_wp2_with fail
  refine (eqIntS_any A_X0 A_T0 n0 n0 c_X0 c_T0 b0 b0 _ HN0.out HN0.out hz0 s_X0.rd s_T0.rd).mono ?_
  rintro e w9 ⟨rfl, y9⟩
  have x9 := y9.ext
  replace s_W := s_W.ext x9
  replace s_X0 := s_X0.ext x9
  replace s_X1 := s_X1.ext x9
  replace s_G := s_G.ext x9
  replace s_T0 := s_T0.ext x9
  replace E := E.trans x9
  clear s_T0
  go_wp2_with fail
  refine (toBoolS_any A1 n1 c1 b1 _ HN1.out hz1 (h1.ext E)).mono ?_
  rintro e w10 ⟨A_T1, c_T1, rfl, s_T1, x10⟩
  replace s_W := s_W.ext x10
  replace s_X0 := s_X0.ext x10
  replace s_X1 := s_X1.ext x10
  replace s_G := s_G.ext x10
  replace E := E.trans x10
  go_wp2_with fail
  refine (eqBoolS_any A_X1 A_T1 n1 n1 c_X1 c_T1 b1 b1 _ HN1.out HN1.out hz1 s_X1.rd s_T1.rd).mono ?_
  rintro e w11 ⟨rfl, y11⟩
  have x11 := y11.ext
  replace s_W := s_W.ext x11
  replace s_X0 := s_X0.ext x11
  replace s_X1 := s_X1.ext x11
  replace s_G := s_G.ext x11
  replace s_T1 := s_T1.ext x11
  replace E := E.trans x11
  clear s_T1
  go_wp2_with fail
  refine (markIntS_any A_X0 n0 c_X0 _ _ b0 1 _ HN0.out hz0 (by omega) (by omega) s_X0).mono ?_
  rintro e w12 ⟨rfl, sm12, g12⟩
  replace s_W := s_W.chg g12 (by have := x1.size; have := x2.size; have := x3.size; have := x4.size; have := x5.size; have := x6.size; have := x7.size; have := x8.size; have := x9.size; have := x10.size; have := x11.size; omega)
  replace s_X1 := s_X1.chg g12 (by have := x1.size; have := x2.size; have := x3.size; have := x4.size; have := x5.size; have := x6.size; have := x7.size; have := x8.size; have := x9.size; have := x10.size; have := x11.size; omega)
  replace s_G := s_G.chg g12 (by have := x1.size; have := x2.size; have := x3.size; have := x4.size; have := x5.size; have := x6.size; have := x7.size; have := x8.size; have := x9.size; have := x10.size; have := x11.size; omega)
  clear s_X0
  replace E := E.more g12 (by have := x1.size; have := x2.size; have := x3.size; have := x4.size; have := x5.size; have := x6.size; have := x7.size; have := x8.size; have := x9.size; have := x10.size; have := x11.size; omega)
  go_wp2_with fail
  refine (markBoolS_any A_X1 n1 c_X1 _ _ b1 (1 + (n0 : Int)) _ HN1.out hz1 (by omega) (by omega) s_X1).mono ?_
  rintro e w13 ⟨rfl, sm13, g13⟩
  replace s_W := s_W.chg g13 (by have := x1.size; have := x2.size; have := x3.size; have := x4.size; have := x5.size; have := x6.size; have := x7.size; have := x8.size; have := x9.size; have := x10.size; have := x11.size; have := g12.size; omega)
  replace sm12 := sm12.chg g13 (by have := x1.size; have := x2.size; have := x3.size; have := x4.size; have := x5.size; have := x6.size; have := x7.size; have := x8.size; have := x9.size; have := x10.size; have := x11.size; have := g12.size; omega)
  replace s_G := s_G.chg g13 (by have := x1.size; have := x2.size; have := x3.size; have := x4.size; have := x5.size; have := x6.size; have := x7.size; have := x8.size; have := x9.size; have := x10.size; have := x11.size; have := g12.size; omega)
  clear s_X1
  replace E := E.more g13 (by have := x1.size; have := x2.size; have := x3.size; have := x4.size; have := x5.size; have := x6.size; have := x7.size; have := x8.size; have := x9.size; have := x10.size; have := x11.size; have := g12.size; omega)
  clear sm12
  clear sm13
  go_wp2_with fail
  refine (eqIntS_any A_G A_W (doL b0 b1).length (doL b0 b1).length c_G c_W (doL b0 b1) (doL b0 b1) _ rfl rfl hres s_G.rd s_W.rd).mono ?_
  rintro e w14 ⟨rfl, y14⟩
  have x14 := y14.ext
  replace s_W := s_W.ext x14
  replace s_G := s_G.ext x14
  replace E := E.trans x14
  go_wp2_with fail
  refine (markIntS_any A_G (doL b0 b1).length c_G _ _ (doL b0 b1) 1 _ rfl hres (by omega) (by omega) s_G).mono ?_
  rintro e w15 ⟨rfl, sm15, g15⟩
  replace s_W := s_W.chg g15 (by have := x1.size; have := x2.size; have := x3.size; have := x4.size; have := x5.size; have := x6.size; have := x7.size; have := x8.size; have := x9.size; have := x10.size; have := x11.size; have := g12.size; have := g13.size; have := x14.size; omega)
  clear s_G
  replace E := E.more g15 (by have := x1.size; have := x2.size; have := x3.size; have := x4.size; have := x5.size; have := x6.size; have := x7.size; have := x8.size; have := x9.size; have := x10.size; have := x11.size; have := g12.size; have := g13.size; have := x14.size; omega)
  go_wp2_with fail
  refine (heldIntS_any A_G (doL b0 b1).length c_G 1 _ hres (by omega) (by omega) sm15.rd).mono ?_
  rintro e w_ ⟨rfl, rfl⟩
  go_wp2_with fail
  refine (toIntS_any A0 n0 c0 b0 _ HN0.out hz0 (h0.ext E)).mono ?_
  rintro e w16 ⟨A_Y0, c_Y0, rfl, s_Y0, x16⟩
  replace s_W := s_W.ext x16
  replace sm15 := sm15.ext x16
  replace E := E.trans x16
  go_wp2_with fail
  refine (toBoolS_any A1 n1 c1 b1 _ HN1.out hz1 (h1.ext E)).mono ?_
  rintro e w17 ⟨A_Y1, c_Y1, rfl, s_Y1, x17⟩
  replace s_W := s_W.ext x17
  replace sm15 := sm15.ext x17
  replace s_Y0 := s_Y0.ext x17
  replace E := E.trans x17
  go_wp2_with fail
  refine (dirtyOf_any A_Y0 A_Y1 n0 n1 c_Y0 c_Y1 b0 b1 _ HN0.out HN1.out s_Y0.rd s_Y1.rd).mono ?_
  rintro e w18 ⟨A_H, c_H, rfl, s_H, x18⟩
  replace s_W := s_W.ext x18
  replace sm15 := sm15.ext x18
  replace s_Y0 := s_Y0.ext x18
  replace s_Y1 := s_Y1.ext x18
  replace E := E.trans x18
  clear s_Y0
  clear s_Y1
  go_wp2_with fail
  refine (eqIntS_any A_H A_W (doL b0 b1).length (doL b0 b1).length c_H c_W (doL b0 b1) (doL b0 b1) _ rfl rfl hres s_H.rd s_W.rd).mono ?_
  rintro e w19 ⟨rfl, y19⟩
  have x19 := y19.ext
  replace s_W := s_W.ext x19
  replace sm15 := sm15.ext x19
  replace s_H := s_H.ext x19
  replace E := E.trans x19
  clear s_H
  clear s_W
  go_wp2_with fail
  refine (heldIntS_any A_G (doL b0 b1).length c_G 1 _ hres (by omega) (by omega) sm15.rd).mono ?_
  rintro e w_ ⟨rfl, rfl⟩
  go_wp2
  go_ret
  exact ⟨rfl, E⟩
end Go.Proofs.Ytohbflekinafjaa.fnExactDirtyOf
