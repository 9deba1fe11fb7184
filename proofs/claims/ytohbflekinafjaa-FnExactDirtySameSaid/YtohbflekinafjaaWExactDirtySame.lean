/-
  The walk of FnExactDirtySame: it returns true and writes nothing that was there.
-/
import Derived.Test.YtohbflekinafjaaDirtyS
import Derived.Test.YtohbflekinafjaaInts
import Derived.Test.YtohbflekinafjaaFlags
namespace Go.Proofs.Ytohbflekinafjaa.fnExactDirtySame
open Go.RowKit
set_option linter.unusedVariables false

set_option maxRecDepth 100000 in
set_option maxHeartbeats 2000000 in
theorem walk (A0 : Option Addr) (n0 c0 : Nat) (b0 : List Int) (A1 : Option Addr) (n1 c1 : Nat) (b1 : List Int) (A2 : Option Addr) (n2 c2 : Nat) (b2 : List Bool) (w : World) (hn0 : b0.length = n0) (hm0 : n0 ≤ 9223372036854775807) (h0 : Rd w w.heap.size A0 n0 c0 (ints b0)) (hn1 : b1.length = n1) (hm1 : n1 ≤ 9223372036854775807) (h1 : Rd w w.heap.size A1 n1 c1 (ints b1)) (hn2 : b2.length = n2) (hm2 : n2 ≤ 9223372036854775807) (h2 : Rd w w.heap.size A2 n2 c2 (bools b2)) :
    Calls Try.prog 3 #[.slice A0 n0 c0, .slice A1 n1 c1, .slice A2 n2 c2] w fun e w' => e = .returned (.bool true) ∧ Ext w w' := by
  have HN0 := Lib.hid hn0
  clear hn0
  have HN1 := Lib.hid hn1
  clear hn1
  have HN2 := Lib.hid hn2
  clear hn2
  by_cases hz0 : n0 ≤ 1048576
  case neg =>
    go_enter Try.func3, Try.ntmps3
    go_wp2
    go_ret
    exact ⟨rfl, Ext.refl _⟩
  by_cases hz1 : n1 ≤ 1048576
  case neg =>
    go_enter Try.func3, Try.ntmps3
    go_wp2
    go_ret
    exact ⟨rfl, Ext.refl _⟩
  by_cases hz2 : n2 ≤ 1048576
  case neg =>
    go_enter Try.func3, Try.ntmps3
    go_wp2
    go_ret
    exact ⟨rfl, Ext.refl _⟩
  go_enter Try.func3, Try.ntmps3
  go_wp2_with fail
  refine (toIntS_any A0 n0 c0 b0 _ HN0.out hz0 h0).mono ?_
  rintro e w1 ⟨A_a0, c_a0, rfl, s_a0, x1⟩
  have E := x1
  go_wp2_with fail
  refine (toIntS_any A1 n1 c1 b1 _ HN1.out hz1 (h1.ext E)).mono ?_
  rintro e w2 ⟨A_a1, c_a1, rfl, s_a1, x2⟩
  replace s_a0 := s_a0.ext x2
  replace E := E.trans x2
  go_wp2_with fail
  refine (toBoolS_any A2 n2 c2 b2 _ HN2.out hz2 (h2.ext E)).mono ?_
  rintro e w3 ⟨A_a2, c_a2, rfl, s_a2, x3⟩
  replace s_a0 := s_a0.ext x3
  replace s_a1 := s_a1.ext x3
  replace E := E.trans x3
  go_wp2_with fail
  refine (specDirtySame_any A_a0 A_a1 A_a2 n0 n1 n2 c_a0 c_a1 c_a2 b0 b1 b2 _ HN0.out HN1.out HN2.out hz0 hz1 s_a0.rd s_a1.rd s_a2.rd).mono ?_
  rintro e w4 ⟨rfl, x4⟩
  replace s_a0 := s_a0.ext x4
  replace s_a1 := s_a1.ext x4
  replace s_a2 := s_a2.ext x4
  replace E := E.trans x4
  clear s_a0
  clear s_a1
  clear s_a2
  go_wp2_with fail
  refine (toIntS_any A0 n0 c0 b0 _ HN0.out hz0 (h0.ext E)).mono ?_
  rintro e w5 ⟨A_X0, c_X0, rfl, s_X0, x5⟩
  replace E := E.trans x5
  go_wp2_with fail
  refine (toIntS_any A1 n1 c1 b1 _ HN1.out hz1 (h1.ext E)).mono ?_
  rintro e w6 ⟨A_X1, c_X1, rfl, s_X1, x6⟩
  replace s_X0 := s_X0.ext x6
  replace E := E.trans x6
  go_wp2_with fail
  refine (toBoolS_any A2 n2 c2 b2 _ HN2.out hz2 (h2.ext E)).mono ?_
  rintro e w7 ⟨A_X2, c_X2, rfl, s_X2, x7⟩
  replace s_X0 := s_X0.ext x7
  replace s_X1 := s_X1.ext x7
  replace E := E.trans x7
  go_wp2_with fail
  refine (dirtySame_any A_X0 A_X1 A_X2 n0 n1 n2 c_X0 c_X1 c_X2 b0 b1 b2 _ HN0.out HN1.out HN2.out s_X0.rd s_X1.rd s_X2.rd).mono ?_
  rintro e w8 ⟨rfl, x8⟩
  replace s_X0 := s_X0.ext x8
  replace s_X1 := s_X1.ext x8
  replace s_X2 := s_X2.ext x8
  replace E := E.trans x8
  go_wp2_with fail
  refine (toIntS_any A0 n0 c0 b0 _ HN0.out hz0 (h0.ext E)).mono ?_
  rintro e w9 ⟨A_T0, c_T0, rfl, s_T0, x9⟩
  replace s_X0 := s_X0.ext x9
  replace s_X1 := s_X1.ext x9
  replace s_X2 := s_X2.ext x9
  replace E := E.trans x9
  go_wp2_with fail
  refine (eqIntS_any A_X0 A_T0 n0 n0 c_X0 c_T0 b0 b0 _ HN0.out HN0.out hz0 s_X0.rd s_T0.rd).mono ?_
  rintro e w10 ⟨rfl, y10⟩
  have x10 := y10.ext
  replace s_X0 := s_X0.ext x10
  replace s_X1 := s_X1.ext x10
  replace s_X2 := s_X2.ext x10
  replace s_T0 := s_T0.ext x10
  replace E := E.trans x10
  clear s_T0
  go_wp2_with fail
  refine (toIntS_any A1 n1 c1 b1 _ HN1.out hz1 (h1.ext E)).mono ?_
  rintro e w11 ⟨A_T1, c_T1, rfl, s_T1, x11⟩
  replace s_X0 := s_X0.ext x11
  replace s_X1 := s_X1.ext x11
  replace s_X2 := s_X2.ext x11
  replace E := E.trans x11
  go_wp2_with fail
  refine (eqIntS_any A_X1 A_T1 n1 n1 c_X1 c_T1 b1 b1 _ HN1.out HN1.out hz1 s_X1.rd s_T1.rd).mono ?_
  rintro e w12 ⟨rfl, y12⟩
  have x12 := y12.ext
  replace s_X0 := s_X0.ext x12
  replace s_X1 := s_X1.ext x12
  replace s_X2 := s_X2.ext x12
  replace s_T1 := s_T1.ext x12
  replace E := E.trans x12
  clear s_T1
  go_wp2_with fail
  refine (toBoolS_any A2 n2 c2 b2 _ HN2.out hz2 (h2.ext E)).mono ?_
  rintro e w13 ⟨A_T2, c_T2, rfl, s_T2, x13⟩
  replace s_X0 := s_X0.ext x13
  replace s_X1 := s_X1.ext x13
  replace s_X2 := s_X2.ext x13
  replace E := E.trans x13
  go_wp2_with fail
  refine (eqBoolS_any A_X2 A_T2 n2 n2 c_X2 c_T2 b2 b2 _ HN2.out HN2.out hz2 s_X2.rd s_T2.rd).mono ?_
  rintro e w14 ⟨rfl, y14⟩
  have x14 := y14.ext
  replace s_X0 := s_X0.ext x14
  replace s_X1 := s_X1.ext x14
  replace s_X2 := s_X2.ext x14
  replace s_T2 := s_T2.ext x14
  replace E := E.trans x14
  clear s_T2
  go_wp2
  go_ret
  exact ⟨rfl, E⟩
end Go.Proofs.Ytohbflekinafjaa.fnExactDirtySame
