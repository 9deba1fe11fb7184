/-
  The walk of FnExactSolveGains: it returns true and writes nothing that was there.
-/
import Derived.Test.YtpjglnmnfmibnaaAmpS
import Derived.Test.YtpjglnmnfmibnaaPVis
namespace Go.Proofs.Ytpjglnmnfmibnaa.fnExactSolveGains
open Go.RowKit

set_option maxHeartbeats 1000000 in
theorem walk (a0 : Int) (A1 : Option Addr) (n1 c1 : Nat) (b1 : List (Int × Int)) (A2 : Option Addr) (n2 c2 : Nat) (b2 : List (Int × Int)) (w : World) (hn1 : b1.length = n1) (hm1 : n1 ≤ 9223372036854775807) (h1 : Rd w w.heap.size A1 n1 c1 (pairs b1)) (hn2 : b2.length = n2) (hm2 : n2 ≤ 9223372036854775807) (h2 : Rd w w.heap.size A2 n2 c2 (pairs b2)) :
    Calls Try.prog 3 #[.int .i64 a0, .slice A1 n1 c1, .slice A2 n2 c2] w fun e w' => e = .returned (.bool true) ∧ Ext w w' := by
  have HN1 := Lib.hid hn1
  clear hn1
  have HN2 := Lib.hid hn2
  clear hn2
  by_cases hs1 : (n1 : Int) ≤ 1048576
  case neg =>
    go_enter Try.func3, Try.ntmps3
    go_wp2_with fail
    refine (szVisS_any A1 n1 c1 1048576 _ (by omega) (by omega) (by omega)).mono ?_
    rintro e w_ ⟨rfl, rfl⟩
    rw [if_pos (by omega)]
    go_wp2
    go_ret
    exact ⟨rfl, Ext.refl _⟩
  by_cases hs2 : (n2 : Int) ≤ 1048576 - (n1 : Int)
  case neg =>
    go_enter Try.func3, Try.ntmps3
    go_wp2_with fail
    refine (szVisS_any A1 n1 c1 1048576 _ (by omega) (by omega) (by omega)).mono ?_
    rintro e w_ ⟨rfl, rfl⟩
    rw [if_neg (by omega)]
    go_wp2_with fail
    refine (szVisS_any A2 n2 c2 (1048576 - (n1 : Int)) _ (by omega) (by omega) (by omega)).mono ?_
    rintro e w_ ⟨rfl, rfl⟩
    rw [if_pos (by omega)]
    go_wp2
    go_ret
    exact ⟨rfl, Ext.refl _⟩
  have hz1 : n1 ≤ 1048576 := by omega
  have hz2 : n2 ≤ 1048576 := by omega
  obtain ⟨L, hL⟩ : ∃ L, sgL a0 b1 b2 = L := ⟨_, rfl⟩
  obtain ⟨ok, hok⟩ : ∃ ok, sgB a0 b1 b2 = ok := ⟨_, rfl⟩
  have hres : L.length ≤ 1048576 := by rw [← hL]; have := sgL_short a0 b1 b2; omega
  have HSP := Lib.hid (fun (A1 A2 : Option Addr) (c1 c2 : Nat) (W : World) (r1 : Rd W W.heap.size A1 n1 c1 (pairs b1)) (r2 : Rd W W.heap.size A2 n2 c2 (pairs b2)) => specSolveGains_any a0 A1 A2 n1 c1 n2 c2 b1 b2 W HN1.out HN2.out hz1 hz2 r1 r2)
  have HIM := Lib.hid (fun (A1 A2 : Option Addr) (c1 c2 : Nat) (W : World) (r1 : Rd W W.heap.size A1 n1 c1 (pairs b1)) (r2 : Rd W W.heap.size A2 n2 c2 (pairs b2)) => solveGains_any a0 A1 A2 n1 c1 n2 c2 b1 b2 W HN1.out HN2.out hz1 hz2 r1 r2)
  rw [hL, hok] at HSP HIM
  clear hL hok
  go_enter Try.func3, Try.ntmps3
  go_wp2_with fail
  refine (szVisS_any A1 n1 c1 1048576 _ (by omega) (by omega) (by omega)).mono ?_
  rintro e w_ ⟨rfl, rfl⟩
  rw [if_neg (by omega)]
  go_wp2_with fail
  refine (szVisS_any A2 n2 c2 (1048576 - (n1 : Int)) _ (by omega) (by omega) (by omega)).mono ?_
  rintro e w_ ⟨rfl, rfl⟩
  rw [if_neg (by omega)]
  go_wp2_with fail
  refine (toVisS_any A1 n1 c1 b1 _ HN1.out hz1 h1).mono ?_
  rintro e w1 ⟨A_a1, c_a1, rfl, s_a1, x1⟩
  have E := x1
  go_wp2_with fail
  refine (toVisS_any A2 n2 c2 b2 _ HN2.out hz2 (h2.ext E)).mono ?_
  rintro e w2 ⟨A_a2, c_a2, rfl, s_a2, x2⟩
  replace s_a1 := s_a1.ext x2
  replace E := E.trans x2
  go_wp2_with fail
  refine (HSP.out A_a1 A_a2 c_a1 c_a2 _ s_a1.rd s_a2.rd).mono ?_
  rintro e w3 ⟨A_W, c_W, rfl, s_W, x3⟩
  replace s_a1 := s_a1.ext x3
  replace s_a2 := s_a2.ext x3
  replace E := E.trans x3
  clear s_a1
  clear s_a2
  go_wp2_with fail
  refine (toVisS_any A1 n1 c1 b1 _ HN1.out hz1 (h1.ext E)).mono ?_
  rintro e w4 ⟨A_X1, c_X1, rfl, s_X1, x4⟩
  replace s_W := s_W.ext x4
  replace E := E.trans x4
  go_wp2_with fail
  refine (toVisS_any A2 n2 c2 b2 _ HN2.out hz2 (h2.ext E)).mono ?_
  rintro e w5 ⟨A_X2, c_X2, rfl, s_X2, x5⟩
  replace s_W := s_W.ext x5
  replace s_X1 := s_X1.ext x5
  replace E := E.trans x5
  go_wp2_with fail
  refine (HIM.out A_X1 A_X2 c_X1 c_X2 _ s_X1.rd s_X2.rd).mono ?_
  rintro e w6 ⟨A_G, c_G, rfl, s_G, x6⟩
  replace s_W := s_W.ext x6
  replace s_X1 := s_X1.ext x6
  replace s_X2 := s_X2.ext x6
  replace E := E.trans x6
  go_wp2_with fail
  refine (eqVisS_any A_G A_W (L).length (L).length c_G c_W (L) (L) _ rfl rfl hres s_G.rd s_W.rd).mono ?_
  rintro e w7 ⟨rfl, x7⟩
  replace s_W := s_W.ext x7
  replace s_X1 := s_X1.ext x7
  replace s_X2 := s_X2.ext x7
  replace s_G := s_G.ext x7
  replace E := E.trans x7
  go_wp2_with fail
  refine (toVisS_any A1 n1 c1 b1 _ HN1.out hz1 (h1.ext E)).mono ?_
  rintro e w8 ⟨A_T1, c_T1, rfl, s_T1, x8⟩
  replace s_W := s_W.ext x8
  replace s_X1 := s_X1.ext x8
  replace s_X2 := s_X2.ext x8
  replace s_G := s_G.ext x8
  replace E := E.trans x8
  go_wp2_with fail
  refine (eqVisS_any A_X1 A_T1 n1 n1 c_X1 c_T1 b1 b1 _ HN1.out HN1.out hz1 s_X1.rd s_T1.rd).mono ?_
  rintro e w9 ⟨rfl, x9⟩
  replace s_W := s_W.ext x9
  replace s_X1 := s_X1.ext x9
  replace s_X2 := s_X2.ext x9
  replace s_G := s_G.ext x9
  replace s_T1 := s_T1.ext x9
  replace E := E.trans x9
  clear s_T1
  go_wp2_with fail
  refine (toVisS_any A2 n2 c2 b2 _ HN2.out hz2 (h2.ext E)).mono ?_
  rintro e w10 ⟨A_T2, c_T2, rfl, s_T2, x10⟩
  replace s_W := s_W.ext x10
  replace s_X1 := s_X1.ext x10
  replace s_X2 := s_X2.ext x10
  replace s_G := s_G.ext x10
  replace E := E.trans x10
  go_wp2_with fail
  refine (eqVisS_any A_X2 A_T2 n2 n2 c_X2 c_T2 b2 b2 _ HN2.out HN2.out hz2 s_X2.rd s_T2.rd).mono ?_
  rintro e w11 ⟨rfl, x11⟩
  replace s_W := s_W.ext x11
  replace s_X1 := s_X1.ext x11
  replace s_X2 := s_X2.ext x11
  replace s_G := s_G.ext x11
  replace s_T2 := s_T2.ext x11
  replace E := E.trans x11
  clear s_T2
  go_wp2_with fail
  refine (markVisS_any A_X1 n1 c_X1 _ _ b1 1 _ HN1.out hz1 (by omega) (by omega) s_X1).mono ?_
  rintro e w12 ⟨rfl, sm12, g12⟩
  replace s_W := s_W.chg g12 (by have := x1.size; have := x2.size; have := x3.size; have := x4.size; have := x5.size; have := x6.size; have := x7.size; have := x8.size; have := x9.size; have := x10.size; have := x11.size; omega)
  replace s_X2 := s_X2.chg g12 (by have := x1.size; have := x2.size; have := x3.size; have := x4.size; have := x5.size; have := x6.size; have := x7.size; have := x8.size; have := x9.size; have := x10.size; have := x11.size; omega)
  replace s_G := s_G.chg g12 (by have := x1.size; have := x2.size; have := x3.size; have := x4.size; have := x5.size; have := x6.size; have := x7.size; have := x8.size; have := x9.size; have := x10.size; have := x11.size; omega)
  clear s_X1
  replace E := E.more g12 (by have := x1.size; have := x2.size; have := x3.size; have := x4.size; have := x5.size; have := x6.size; have := x7.size; have := x8.size; have := x9.size; have := x10.size; have := x11.size; omega)
  go_wp2_with fail
  refine (markVisS_any A_X2 n2 c_X2 _ _ b2 (1 + 2 * (n1 : Int)) _ HN2.out hz2 (by omega) (by omega) s_X2).mono ?_
  rintro e w13 ⟨rfl, sm13, g13⟩
  replace s_W := s_W.chg g13 (by have := x1.size; have := x2.size; have := x3.size; have := x4.size; have := x5.size; have := x6.size; have := x7.size; have := x8.size; have := x9.size; have := x10.size; have := x11.size; have := g12.size; omega)
  replace sm12 := sm12.chg g13 (by have := x1.size; have := x2.size; have := x3.size; have := x4.size; have := x5.size; have := x6.size; have := x7.size; have := x8.size; have := x9.size; have := x10.size; have := x11.size; have := g12.size; omega)
  replace s_G := s_G.chg g13 (by have := x1.size; have := x2.size; have := x3.size; have := x4.size; have := x5.size; have := x6.size; have := x7.size; have := x8.size; have := x9.size; have := x10.size; have := x11.size; have := g12.size; omega)
  clear s_X2
  replace E := E.more g13 (by have := x1.size; have := x2.size; have := x3.size; have := x4.size; have := x5.size; have := x6.size; have := x7.size; have := x8.size; have := x9.size; have := x10.size; have := x11.size; have := g12.size; omega)
  clear sm12
  clear sm13
  go_wp2_with fail
  refine (eqVisS_any A_G A_W (L).length (L).length c_G c_W (L) (L) _ rfl rfl hres s_G.rd s_W.rd).mono ?_
  rintro e w14 ⟨rfl, x14⟩
  replace s_W := s_W.ext x14
  replace s_G := s_G.ext x14
  replace E := E.trans x14
  go_wp2_with fail
  refine (markVisS_any A_G (L).length c_G _ _ (L) 1 _ rfl hres (by omega) (by omega) s_G).mono ?_
  rintro e w15 ⟨rfl, sm15, g15⟩
  replace s_W := s_W.chg g15 (by have := x1.size; have := x2.size; have := x3.size; have := x4.size; have := x5.size; have := x6.size; have := x7.size; have := x8.size; have := x9.size; have := x10.size; have := x11.size; have := g12.size; have := g13.size; have := x14.size; omega)
  clear s_G
  replace E := E.more g15 (by have := x1.size; have := x2.size; have := x3.size; have := x4.size; have := x5.size; have := x6.size; have := x7.size; have := x8.size; have := x9.size; have := x10.size; have := x11.size; have := g12.size; have := g13.size; have := x14.size; omega)
  go_wp2_with fail
  refine (heldVisS_any A_G (L).length c_G 1 _ hres (by omega) (by omega) sm15.rd).mono ?_
  rintro e w_ ⟨rfl, rfl⟩
  go_wp2_with fail
  refine (toVisS_any A1 n1 c1 b1 _ HN1.out hz1 (h1.ext E)).mono ?_
  rintro e w16 ⟨A_Y1, c_Y1, rfl, s_Y1, x16⟩
  replace s_W := s_W.ext x16
  replace sm15 := sm15.ext x16
  replace E := E.trans x16
  go_wp2_with fail
  refine (toVisS_any A2 n2 c2 b2 _ HN2.out hz2 (h2.ext E)).mono ?_
  rintro e w17 ⟨A_Y2, c_Y2, rfl, s_Y2, x17⟩
  replace s_W := s_W.ext x17
  replace sm15 := sm15.ext x17
  replace s_Y1 := s_Y1.ext x17
  replace E := E.trans x17
  go_wp2_with fail
  refine (HIM.out A_Y1 A_Y2 c_Y1 c_Y2 _ s_Y1.rd s_Y2.rd).mono ?_
  rintro e w18 ⟨A_H, c_H, rfl, s_H, x18⟩
  replace s_W := s_W.ext x18
  replace sm15 := sm15.ext x18
  replace s_Y1 := s_Y1.ext x18
  replace s_Y2 := s_Y2.ext x18
  replace E := E.trans x18
  clear s_Y1
  clear s_Y2
  go_wp2_with fail
  refine (eqVisS_any A_H A_W (L).length (L).length c_H c_W (L) (L) _ rfl rfl hres s_H.rd s_W.rd).mono ?_
  rintro e w19 ⟨rfl, x19⟩
  replace s_W := s_W.ext x19
  replace sm15 := sm15.ext x19
  replace s_H := s_H.ext x19
  replace E := E.trans x19
  clear s_H
  clear s_W
  go_wp2_with fail
  refine (heldVisS_any A_G (L).length c_G 1 _ hres (by omega) (by omega) sm15.rd).mono ?_
  rintro e w_ ⟨rfl, rfl⟩
  go_wp2
  go_ret
  exact ⟨rfl, E⟩
end Go.Proofs.Ytpjglnmnfmibnaa.fnExactSolveGains
