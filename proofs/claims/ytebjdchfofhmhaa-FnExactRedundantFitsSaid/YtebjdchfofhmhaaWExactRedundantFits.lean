/-
  The walk of FnExactRedundantFits: it returns true and writes nothing that was there.
-/
import Derived.Test.YtebjdchfofhmhaaRedL
import Derived.Test.YtebjdchfofhmhaaPAnt
import Derived.Test.YtebjdchfofhmhaaPVis
namespace Go.Proofs.Ytebjdchfofhmhaa.fnExactRedundantFits
open Go.RowKit

set_option maxHeartbeats 1000000 in
theorem walk (A0 : Option Addr) (n0 c0 : Nat) (b0 : List (Int × Int)) (A1 : Option Addr) (n1 c1 : Nat) (b1 : List (Int × Int)) (w : World) (hn0 : b0.length = n0) (hm0 : n0 ≤ 9223372036854775807) (h0 : Rd w w.heap.size A0 n0 c0 (pairs b0)) (hn1 : b1.length = n1) (hm1 : n1 ≤ 9223372036854775807) (h1 : Rd w w.heap.size A1 n1 c1 (pairs b1)) :
    Calls Try.prog 3 #[.slice A0 n0 c0, .slice A1 n1 c1] w fun e w' => e = .returned (.bool true) ∧ Ext w w' := by
  have HN0 := Lib.hid hn0
  clear hn0
  have HN1 := Lib.hid hn1
  clear hn1
  by_cases hs0 : (n0 : Int) ≤ 1048576
  case neg =>
    go_enter Try.func3, Try.ntmps3
    go_wp2_with fail
    refine (szAntS_any A0 n0 c0 1048576 _ (by omega) (by omega) (by omega)).mono ?_
    rintro e w_ ⟨rfl, rfl⟩
    rw [if_pos (by omega)]
    go_wp2
    go_ret
    exact ⟨rfl, Ext.refl _⟩
  by_cases hs1 : (n1 : Int) ≤ 1048576 - (n0 : Int)
  case neg =>
    go_enter Try.func3, Try.ntmps3
    go_wp2_with fail
    refine (szAntS_any A0 n0 c0 1048576 _ (by omega) (by omega) (by omega)).mono ?_
    rintro e w_ ⟨rfl, rfl⟩
    rw [if_neg (by omega)]
    go_wp2_with fail
    refine (szVisS_any A1 n1 c1 (1048576 - (n0 : Int)) _ (by omega) (by omega) (by omega)).mono ?_
    rintro e w_ ⟨rfl, rfl⟩
    rw [if_pos (by omega)]
    go_wp2
    go_ret
    exact ⟨rfl, Ext.refl _⟩
  have hz0 : n0 ≤ 1048576 := by omega
  have hz1 : n1 ≤ 1048576 := by omega
  obtain ⟨L, hL⟩ : ∃ L, rfB b0 b1 = L := ⟨_, rfl⟩
  have HSP := Lib.hid (fun (A0 A1 : Option Addr) (c0 c1 : Nat) (W : World) (r0 : Rd W W.heap.size A0 n0 c0 (pairs b0)) (r1 : Rd W W.heap.size A1 n1 c1 (pairs b1)) => specFits_any A0 A1 n0 c0 n1 c1 b0 b1 W HN0.out HN1.out hz0 hz1 r0 r1)
  have HIM := Lib.hid (fun (A0 A1 : Option Addr) (c0 c1 : Nat) (W : World) (r0 : Rd W W.heap.size A0 n0 c0 (pairs b0)) (r1 : Rd W W.heap.size A1 n1 c1 (pairs b1)) => redundantFits_any A0 A1 n0 c0 n1 c1 b0 b1 W HN0.out HN1.out hz0 hz1 r0 r1)
  rw [hL] at HSP HIM
  clear hL
  go_enter Try.func3, Try.ntmps3
  go_wp2_with fail
  refine (szAntS_any A0 n0 c0 1048576 _ (by omega) (by omega) (by omega)).mono ?_
  rintro e w_ ⟨rfl, rfl⟩
  rw [if_neg (by omega)]
  go_wp2_with fail
  refine (szVisS_any A1 n1 c1 (1048576 - (n0 : Int)) _ (by omega) (by omega) (by omega)).mono ?_
  rintro e w_ ⟨rfl, rfl⟩
  rw [if_neg (by omega)]
  go_wp2_with fail
  refine (toAntS_any A0 n0 c0 b0 _ HN0.out hz0 h0).mono ?_
  rintro e w1 ⟨A_a0, c_a0, rfl, s_a0, x1⟩
  have E := x1
  go_wp2_with fail
  refine (toVisS_any A1 n1 c1 b1 _ HN1.out hz1 (h1.ext E)).mono ?_
  rintro e w2 ⟨A_a1, c_a1, rfl, s_a1, x2⟩
  replace s_a0 := s_a0.ext x2
  replace E := E.trans x2
  go_wp2_with fail
  refine (HSP.out A_a0 A_a1 c_a0 c_a1 _ s_a0.rd s_a1.rd).mono ?_
  rintro e w3 ⟨rfl, x3⟩
  replace s_a0 := s_a0.ext x3
  replace s_a1 := s_a1.ext x3
  replace E := E.trans x3
  clear s_a0
  clear s_a1
  go_wp2_with fail
  refine (toAntS_any A0 n0 c0 b0 _ HN0.out hz0 (h0.ext E)).mono ?_
  rintro e w4 ⟨A_X0, c_X0, rfl, s_X0, x4⟩
  replace E := E.trans x4
  go_wp2_with fail
  refine (toVisS_any A1 n1 c1 b1 _ HN1.out hz1 (h1.ext E)).mono ?_
  rintro e w5 ⟨A_X1, c_X1, rfl, s_X1, x5⟩
  replace s_X0 := s_X0.ext x5
  replace E := E.trans x5
  go_wp2_with fail
  refine (HIM.out A_X0 A_X1 c_X0 c_X1 _ s_X0.rd s_X1.rd).mono ?_
  rintro e w6 ⟨rfl, x6⟩
  replace s_X0 := s_X0.ext x6
  replace s_X1 := s_X1.ext x6
  replace E := E.trans x6
  go_wp2_with fail
  refine (toAntS_any A0 n0 c0 b0 _ HN0.out hz0 (h0.ext E)).mono ?_
  rintro e w8 ⟨A_T0, c_T0, rfl, s_T0, x8⟩
  replace s_X0 := s_X0.ext x8
  replace s_X1 := s_X1.ext x8
  replace E := E.trans x8
  go_wp2_with fail
  refine (eqAntS_any A_X0 A_T0 n0 n0 c_X0 c_T0 b0 b0 _ HN0.out HN0.out hz0 s_X0.rd s_T0.rd).mono ?_
  rintro e w9 ⟨rfl, x9⟩
  replace s_X0 := s_X0.ext x9
  replace s_X1 := s_X1.ext x9
  replace s_T0 := s_T0.ext x9
  replace E := E.trans x9
  clear s_T0
  go_wp2_with fail
  refine (toVisS_any A1 n1 c1 b1 _ HN1.out hz1 (h1.ext E)).mono ?_
  rintro e w10 ⟨A_T1, c_T1, rfl, s_T1, x10⟩
  replace s_X0 := s_X0.ext x10
  replace s_X1 := s_X1.ext x10
  replace E := E.trans x10
  go_wp2_with fail
  refine (eqVisS_any A_X1 A_T1 n1 n1 c_X1 c_T1 b1 b1 _ HN1.out HN1.out hz1 s_X1.rd s_T1.rd).mono ?_
  rintro e w11 ⟨rfl, x11⟩
  replace s_X0 := s_X0.ext x11
  replace s_X1 := s_X1.ext x11
  replace s_T1 := s_T1.ext x11
  replace E := E.trans x11
  clear s_T1
  go_wp2
  go_ret
  exact ⟨rfl, E⟩
end Go.Proofs.Ytebjdchfofhmhaa.fnExactRedundantFits
