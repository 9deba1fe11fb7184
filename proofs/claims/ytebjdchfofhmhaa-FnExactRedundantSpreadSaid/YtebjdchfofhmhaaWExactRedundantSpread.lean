/-
  The walk of FnExactRedundantSpread: it returns true and writes nothing that was there.
-/
import Derived.Test.YtebjdchfofhmhaaRedL
import Derived.Test.YtebjdchfofhmhaaPAnt
import Derived.Test.YtebjdchfofhmhaaPVis
namespace Go.Proofs.Ytebjdchfofhmhaa.fnExactRedundantSpread
open Go.RowKit

set_option maxHeartbeats 1000000 in
theorem walk (A0 : Option Addr) (n0 c0 : Nat) (b0 : List (Int × Int)) (A1 : Option Addr) (n1 c1 : Nat) (b1 : List (Int × Int)) (w : World) (hn0 : b0.length = n0) (hm0 : n0 ≤ 9223372036854775807) (h0 : Rd w w.heap.size A0 n0 c0 (pairs b0)) (hn1 : b1.length = n1) (hm1 : n1 ≤ 9223372036854775807) (h1 : Rd w w.heap.size A1 n1 c1 (pairs b1)) :
    Calls Try.prog 4 #[.slice A0 n0 c0, .slice A1 n1 c1] w fun e w' => e = .returned (.bool true) ∧ Ext w w' := by
  have HN0 := Lib.hid hn0
  clear hn0
  have HN1 := Lib.hid hn1
  clear hn1
  by_cases hs0 : (n0 : Int) ≤ 1048576
  case neg =>
    go_enter Try.func4, Try.ntmps4
    go_wp2_with fail
    refine (szAntS_any A0 n0 c0 1048576 _ (by omega) (by omega) (by omega)).mono ?_
    rintro e w_ ⟨rfl, rfl⟩
    rw [if_pos (by omega)]
    go_wp2
    go_ret
    exact ⟨rfl, Ext.refl _⟩
  by_cases hs1 : (n1 : Int) ≤ 1048576 - (n0 : Int)
  case neg =>
    go_enter Try.func4, Try.ntmps4
    go_wp2_with fail
    refine (szAntS_any A0 n0 c0 1048576 _ (by omega) (by omega) (by omega)).mono ?_
    rintro e w_ ⟨rfl, rfl⟩
    rw [if_neg (by omega)]
    go_wp2_with fail
    refine (szVisS_any A1 n1 c1 (1048576 - (n0 : Int)) _ (by omega) (by omega) (by omega)).mono ?_
    rintro e w_ ⟨rfl, rfl⟩
    rw [if_pos (by omega)]
    go_wp2
    go_ret
    exact ⟨rfl, Ext.refl _⟩
  have hz0 : n0 ≤ 1048576 := by omega
  have hz1 : n1 ≤ 1048576 := by omega
  obtain ⟨L, hL⟩ : ∃ L, rsO b0 b1 = L := ⟨_, rfl⟩
  obtain ⟨ok, hok⟩ : ∃ ok, rsB b0 b1 = ok := ⟨_, rfl⟩
  have hres : L.length ≤ 1048576 := by rw [← hL]; have := rsO_short b0 b1; omega
  have HSP := Lib.hid (fun (A0 A1 : Option Addr) (c0 c1 : Nat) (W : World) (r0 : Rd W W.heap.size A0 n0 c0 (pairs b0)) (r1 : Rd W W.heap.size A1 n1 c1 (pairs b1)) => specSpread_any A0 A1 n0 c0 n1 c1 b0 b1 W HN0.out HN1.out hz0 hz1 r0 r1)
  have HIM := Lib.hid (fun (A0 A1 : Option Addr) (c0 c1 : Nat) (W : World) (r0 : Rd W W.heap.size A0 n0 c0 (pairs b0)) (r1 : Rd W W.heap.size A1 n1 c1 (pairs b1)) => redundantSpread_any A0 A1 n0 c0 n1 c1 b0 b1 W HN0.out HN1.out hz0 hz1 r0 r1)
  rw [hL, hok] at HSP HIM
  clear hL hok
  go_enter Try.func4, Try.ntmps4
  go_wp2_with fail
  refine (szAntS_any A0 n0 c0 1048576 _ (by omega) (by omega) (by omega)).mono ?_
  rintro e w_ ⟨rfl, rfl⟩
  rw [if_neg (by omega)]
  go_wp2_with fail
  refine (szVisS_any A1 n1 c1 (1048576 - (n0 : Int)) _ (by omega) (by omega) (by omega)).mono ?_
  rintro e w_ ⟨rfl, rfl⟩
  rw [if_neg (by omega)]
  go_wp2_with fail
  refine (toAntS_any A0 n0 c0 b0 _ HN0.out hz0 h0).mono ?_
  rintro e w1 ⟨A_a0, c_a0, rfl, s_a0, x1⟩
  have E := x1
  go_wp2_with fail
  refine (toVisS_any A1 n1 c1 b1 _ HN1.out hz1 (h1.ext E)).mono ?_
  rintro e w2 ⟨A_a1, c_a1, rfl, s_a1, x2⟩
  replace s_a0 := s_a0.ext x2
  replace E := E.trans x2
  go_wp2_with fail
  refine (HSP.out A_a0 A_a1 c_a0 c_a1 _ s_a0.rd s_a1.rd).mono ?_
  rintro e w3 ⟨A_W, c_W, rfl, s_W, x3⟩
  replace s_a0 := s_a0.ext x3
  replace s_a1 := s_a1.ext x3
  replace E := E.trans x3
  clear s_a0
  clear s_a1
  go_wp2_with fail
  refine (toAntS_any A0 n0 c0 b0 _ HN0.out hz0 (h0.ext E)).mono ?_
  rintro e w4 ⟨A_X0, c_X0, rfl, s_X0, x4⟩
  replace s_W := s_W.ext x4
  replace E := E.trans x4
  go_wp2_with fail
  refine (toVisS_any A1 n1 c1 b1 _ HN1.out hz1 (h1.ext E)).mono ?_
  rintro e w5 ⟨A_X1, c_X1, rfl, s_X1, x5⟩
  replace s_W := s_W.ext x5
  replace s_X0 := s_X0.ext x5
  replace E := E.trans x5
  go_wp2_with fail
  refine (HIM.out A_X0 A_X1 c_X0 c_X1 _ s_X0.rd s_X1.rd).mono ?_
  rintro e w6 ⟨A_G, c_G, rfl, s_G, x6⟩
  replace s_W := s_W.ext x6
  replace s_X0 := s_X0.ext x6
  replace s_X1 := s_X1.ext x6
  replace E := E.trans x6
  go_wp2_with fail
  refine (eqVisS_any A_G A_W (L).length (L).length c_G c_W (L) (L) _ rfl rfl hres s_G.rd s_W.rd).mono ?_
  rintro e w7 ⟨rfl, x7⟩
  replace s_W := s_W.ext x7
  replace s_X0 := s_X0.ext x7
  replace s_X1 := s_X1.ext x7
  replace s_G := s_G.ext x7
  replace E := E.trans x7
  go_wp2_with fail
  refine (toAntS_any A0 n0 c0 b0 _ HN0.out hz0 (h0.ext E)).mono ?_
  rintro e w8 ⟨A_T0, c_T0, rfl, s_T0, x8⟩
  replace s_W := s_W.ext x8
  replace s_X0 := s_X0.ext x8
  replace s_X1 := s_X1.ext x8
  replace s_G := s_G.ext x8
  replace E := E.trans x8
  go_wp2_with fail
  refine (eqAntS_any A_X0 A_T0 n0 n0 c_X0 c_T0 b0 b0 _ HN0.out HN0.out hz0 s_X0.rd s_T0.rd).mono ?_
  rintro e w9 ⟨rfl, x9⟩
  replace s_W := s_W.ext x9
  replace s_X0 := s_X0.ext x9
  replace s_X1 := s_X1.ext x9
  replace s_G := s_G.ext x9
  replace s_T0 := s_T0.ext x9
  replace E := E.trans x9
  clear s_T0
  go_wp2_with fail
  refine (toVisS_any A1 n1 c1 b1 _ HN1.out hz1 (h1.ext E)).mono ?_
  rintro e w10 ⟨A_T1, c_T1, rfl, s_T1, x10⟩
  replace s_W := s_W.ext x10
  replace s_X0 := s_X0.ext x10
  replace s_X1 := s_X1.ext x10
  replace s_G := s_G.ext x10
  replace E := E.trans x10
  go_wp2_with fail
  refine (eqVisS_any A_X1 A_T1 n1 n1 c_X1 c_T1 b1 b1 _ HN1.out HN1.out hz1 s_X1.rd s_T1.rd).mono ?_
  rintro e w11 ⟨rfl, x11⟩
  replace s_W := s_W.ext x11
  replace s_X0 := s_X0.ext x11
  replace s_X1 := s_X1.ext x11
  replace s_G := s_G.ext x11
  replace s_T1 := s_T1.ext x11
  replace E := E.trans x11
  clear s_T1
  go_wp2_with fail
  refine (markAntS_any A_X0 n0 c_X0 _ _ b0 1 _ HN0.out hz0 (by omega) (by omega) s_X0).mono ?_
  rintro e w12 ⟨rfl, sm12, g12⟩
  replace s_W := s_W.chg g12 (by have := x1.size; have := x2.size; have := x3.size; have := x4.size; have := x5.size; have := x6.size; have := x7.size; have := x8.size; have := x9.size; have := x10.size; have := x11.size; omega)
  replace s_X1 := s_X1.chg g12 (by have := x1.size; have := x2.size; have := x3.size; have := x4.size; have := x5.size; have := x6.size; have := x7.size; have := x8.size; have := x9.size; have := x10.size; have := x11.size; omega)
  replace s_G := s_G.chg g12 (by have := x1.size; have := x2.size; have := x3.size; have := x4.size; have := x5.size; have := x6.size; have := x7.size; have := x8.size; have := x9.size; have := x10.size; have := x11.size; omega)
  clear s_X0
  replace E := E.more g12 (by have := x1.size; have := x2.size; have := x3.size; have := x4.size; have := x5.size; have := x6.size; have := x7.size; have := x8.size; have := x9.size; have := x10.size; have := x11.size; omega)
  go_wp2_with fail
  refine (markVisS_any A_X1 n1 c_X1 _ _ b1 (1 + 2 * (n0 : Int)) _ HN1.out hz1 (by omega) (by omega) s_X1).mono ?_
  rintro e w13 ⟨rfl, sm13, g13⟩
  replace s_W := s_W.chg g13 (by have := x1.size; have := x2.size; have := x3.size; have := x4.size; have := x5.size; have := x6.size; have := x7.size; have := x8.size; have := x9.size; have := x10.size; have := x11.size; have := g12.size; omega)
  replace sm12 := sm12.chg g13 (by have := x1.size; have := x2.size; have := x3.size; have := x4.size; have := x5.size; have := x6.size; have := x7.size; have := x8.size; have := x9.size; have := x10.size; have := x11.size; have := g12.size; omega)
  replace s_G := s_G.chg g13 (by have := x1.size; have := x2.size; have := x3.size; have := x4.size; have := x5.size; have := x6.size; have := x7.size; have := x8.size; have := x9.size; have := x10.size; have := x11.size; have := g12.size; omega)
  clear s_X1
  replace E := E.more g13 (by have := x1.size; have := x2.size; have := x3.size; have := x4.size; have := x5.size; have := x6.size; have := x7.size; have := x8.size; have := x9.size; have := x10.size; have := x11.size; have := g12.size; omega)
  clear sm12
  clear sm13
  go_wp2_with fail
  refine (eqVisS_any A_G A_W (L).length (L).length c_G c_W (L) (L) _ rfl rfl hres s_G.rd s_W.rd).mono ?_
  rintro e w14 ⟨rfl, x14⟩
  replace s_W := s_W.ext x14
  replace s_G := s_G.ext x14
  replace E := E.trans x14
  go_wp2_with fail
  refine (markVisS_any A_G (L).length c_G _ _ (L) 1 _ rfl hres (by omega) (by omega) s_G).mono ?_
  rintro e w15 ⟨rfl, sm15, g15⟩
  replace s_W := s_W.chg g15 (by have := x1.size; have := x2.size; have := x3.size; have := x4.size; have := x5.size; have := x6.size; have := x7.size; have := x8.size; have := x9.size; have := x10.size; have := x11.size; have := g12.size; have := g13.size; have := x14.size; omega)
  clear s_G
  replace E := E.more g15 (by have := x1.size; have := x2.size; have := x3.size; have := x4.size; have := x5.size; have := x6.size; have := x7.size; have := x8.size; have := x9.size; have := x10.size; have := x11.size; have := g12.size; have := g13.size; have := x14.size; omega)
  go_wp2_with fail
  refine (heldVisS_any A_G (L).length c_G 1 _ hres (by omega) (by omega) sm15.rd).mono ?_
  rintro e w_ ⟨rfl, rfl⟩
  go_wp2_with fail
  refine (toAntS_any A0 n0 c0 b0 _ HN0.out hz0 (h0.ext E)).mono ?_
  rintro e w16 ⟨A_Y0, c_Y0, rfl, s_Y0, x16⟩
  replace s_W := s_W.ext x16
  replace sm15 := sm15.ext x16
  replace E := E.trans x16
  go_wp2_with fail
  refine (toVisS_any A1 n1 c1 b1 _ HN1.out hz1 (h1.ext E)).mono ?_
  rintro e w17 ⟨A_Y1, c_Y1, rfl, s_Y1, x17⟩
  replace s_W := s_W.ext x17
  replace sm15 := sm15.ext x17
  replace s_Y0 := s_Y0.ext x17
  replace E := E.trans x17
  go_wp2_with fail
  refine (HIM.out A_Y0 A_Y1 c_Y0 c_Y1 _ s_Y0.rd s_Y1.rd).mono ?_
  rintro e w18 ⟨A_H, c_H, rfl, s_H, x18⟩
  replace s_W := s_W.ext x18
  replace sm15 := sm15.ext x18
  replace s_Y0 := s_Y0.ext x18
  replace s_Y1 := s_Y1.ext x18
  replace E := E.trans x18
  clear s_Y0
  clear s_Y1
  go_wp2_with fail
  refine (eqVisS_any A_H A_W (L).length (L).length c_H c_W (L) (L) _ rfl rfl hres s_H.rd s_W.rd).mono ?_
  rintro e w19 ⟨rfl, x19⟩
  replace s_W := s_W.ext x19
  replace sm15 := sm15.ext x19
  replace s_H := s_H.ext x19
  replace E := E.trans x19
  clear s_H
  clear s_W
  go_wp2_with fail
  refine (heldVisS_any A_G (L).length c_G 1 _ hres (by omega) (by omega) sm15.rd).mono ?_
  rintro e w_ ⟨rfl, rfl⟩
  go_wp2
  go_ret
  exact ⟨rfl, E⟩
end Go.Proofs.Ytebjdchfofhmhaa.fnExactRedundantSpread
