/-
  The walk of FnDirtyShift: it returns true and writes nothing that was there.
-/
import Derived.Test.YtohbflekinafjabDirty
import Derived.Test.YtohbflekinafjabDrawDi
import Derived.Test.YtohbflekinafjabDirtyLaws
import Derived.Test.YtohbflekinafjabFlags
import Derived.Test.YtohbflekinafjabDrawC
import Derived.Test.YtohbflekinafjabSkyShiftI
namespace Go.Proofs.Ytohbflekinafjab.fnDirtyShift
open Go.RowKit
set_option linter.unusedVariables false

set_option maxRecDepth 100000 in
set_option maxHeartbeats 8000000 in
theorem walk (A0 : Option Addr) (n0 c0 : Nat) (b0 : List Int) (A1 : Option Addr) (n1 c1 : Nat) (b1 : List Int) (w : World) (hn0 : b0.length = n0) (hm0 : n0 ≤ 9223372036854775807) (h0 : Rd w w.heap.size A0 n0 c0 (b0.map (.int .u8))) (hw0 : ∀ z ∈ b0, 0 ≤ z ∧ z ≤ 255) (hn1 : b1.length = n1) (hm1 : n1 ≤ 9223372036854775807) (h1 : Rd w w.heap.size A1 n1 c1 (b1.map (.int .u8))) (hw1 : ∀ z ∈ b1, 0 ≤ z ∧ z ≤ 255) :
    Calls Try.prog 5 #[.slice A0 n0 c0, .slice A1 n1 c1] w fun e w' => e = .returned (.bool true) ∧ Ext w w' := by
  have HN0 := Lib.hid hn0
  have HW0 := Lib.hid hw0
  clear hn0 hw0
  have HN1 := Lib.hid hn1
  have HW1 := Lib.hid hw1
  clear hn1 hw1
  by_cases hz0 : n0 ≤ 1048576
  case neg =>
    go_enter Try.func5, Try.ntmps5
    go_wp2
    go_ret
    exact ⟨rfl, Ext.refl _⟩
  by_cases hz1 : n1 ≤ 1048576
  case neg =>
    go_enter Try.func5, Try.ntmps5
    go_wp2
    go_ret
    exact ⟨rfl, Ext.refl _⟩
  go_enter Try.func5, Try.ntmps5
  go_wp2_with fail
  refine (drawDirtyOf_any A0 n0 c0 b0 _ HN0.out hm0 h0 HW0.out).mono ?_
  rintro e w1 ⟨A_s, n_s, c_s, s, A_c, n_c, c_c, c, rfl, hl_s, hb_s, hl_c, hb_c, s_s, s_c, x1⟩
  have HL_s := Lib.hid hl_s
  clear hl_s
  have HL_c := Lib.hid hl_c
  clear hl_c
  have E := x1
  have hdl := doL_length s c
  rcases hv : dokB s c with _ | _
  case false =>
    go_wp2_with fail
    refine (dirtyOf_any A_s A_c n_s n_c c_s c_c s c _ HL_s.out HL_c.out s_s.rd s_c.rd).mono ?_
    rintro e w2 ⟨A_out, c_out, rfl, s_out, x2⟩
    replace s_s := s_s.ext x2
    replace s_c := s_c.ext x2
    replace E := E.trans x2
    go_wp2_with fail
    refine (specDirtyOf_any A_s A_c n_s n_c c_s c_c s c _ HL_s.out HL_c.out (by omega) s_s.rd s_c.rd).mono ?_
    rintro e w3 ⟨A_want, c_want, rfl, s_want, x3⟩
    replace s_s := s_s.ext x3
    replace s_c := s_c.ext x3
    replace s_out := s_out.ext x3
    replace E := E.trans x3
    go_wp2_with fail
    refine (sameInts_any A_out A_want (doL s c).length (doL s c).length c_out c_want (doL s c) (doL s c) _ rfl rfl (by omega) s_out.rd s_want.rd).mono ?_
    rintro e w4 ⟨rfl, y4⟩
    have x4 := y4.ext
    replace s_s := s_s.ext x4
    replace s_c := s_c.ext x4
    replace s_out := s_out.ext x4
    replace s_want := s_want.ext x4
    replace E := E.trans x4
    go_wp2_with fail
    refine (sameInts_any A_out A_want (doL s c).length (doL s c).length c_out c_want (doL s c) (doL s c) _ rfl rfl (by omega) s_out.rd s_want.rd).mono ?_
    rintro e w5 ⟨rfl, y5⟩
    have x5 := y5.ext
    replace s_s := s_s.ext x5
    replace s_c := s_c.ext x5
    replace s_out := s_out.ext x5
    replace s_want := s_want.ext x5
    replace E := E.trans x5
    go_wp2
    go_ret
    exact ⟨rfl, E⟩
  obtain ⟨vs, vc, vd⟩ := dokB_parts hv
  go_wp2_with fail
  refine (dirtyOf_any A_s A_c n_s n_c c_s c_c s c _ HL_s.out HL_c.out s_s.rd s_c.rd).mono ?_
  rintro e w6 ⟨A_out, c_out, rfl, s_out, x6⟩
  replace s_s := s_s.ext x6
  replace s_c := s_c.ext x6
  replace E := E.trans x6
  go_wp2_with fail
  refine (specDirtyOf_any A_s A_c n_s n_c c_s c_c s c _ HL_s.out HL_c.out (by omega) s_s.rd s_c.rd).mono ?_
  rintro e w7 ⟨A_want, c_want, rfl, s_want, x7⟩
  replace s_s := s_s.ext x7
  replace s_c := s_c.ext x7
  replace s_out := s_out.ext x7
  replace E := E.trans x7
  go_wp2_with fail
  refine (sameInts_any A_out A_want (doL s c).length (doL s c).length c_out c_want (doL s c) (doL s c) _ rfl rfl (by omega) s_out.rd s_want.rd).mono ?_
  rintro e w8 ⟨rfl, y8⟩
  have x8 := y8.ext
  replace s_s := s_s.ext x8
  replace s_c := s_c.ext x8
  replace s_out := s_out.ext x8
  replace s_want := s_want.ext x8
  replace E := E.trans x8
  clear s_want
  have HD := Lib.hid (doL_yes hv)
  have HV := Lib.hid hv
  clear hv
  obtain rfl : n_s = 16 := by rw [← HL_s.out, svB_16 vs]
  have HN1 : Hid ((doL s c).length = 16) := by show _ = _; rw [HD.out, dirtL_length']
  rw [HN1.out] at s_out
  rw [HN1.out]
  have HP := Lib.hid (shift_ok (p := 4 * (n1 / 4 % 4) + n1 % 4) vs vc vd HD.out (by omega))
  have VS := Lib.hid vs
  clear vs vc vd hdl
  go_wp2_with fail
  refine (skyShift_yes A_s c_s s (n1 % 4) (n1 / 4 % 4) _ _ VS.out (by omega) (by omega) rfl s_s.rd).mono ?_
  rintro e w9 ⟨A_m, c_m, rfl, s_m, x9⟩
  replace s_s := s_s.ext x9
  replace s_c := s_c.ext x9
  replace s_out := s_out.ext x9
  replace E := E.trans x9
  go_wp2_with fail
  refine (dirtyOf_any A_m A_c 16 n_c c_m c_c (shL s (4 * (n1 / 4 % 4) + n1 % 4)) c _ (shL_length _ _) HL_c.out s_m.rd s_c.rd).mono ?_
  rintro e w10 ⟨A_d, c_d, rfl, s_d, x10⟩
  replace s_s := s_s.ext x10
  replace s_c := s_c.ext x10
  replace s_out := s_out.ext x10
  replace s_m := s_m.ext x10
  replace E := E.trans x10
  rw [HP.out.2.1, shL_length] at s_d
  rw [HP.out.2.1, HP.out.1, shL_length]
  go_wp2_with fail
  refine (skyShift_yes A_out c_out (doL s c) (n1 % 4) (n1 / 4 % 4) _ _ HP.out.2.2 (by omega) (by omega) rfl s_out.rd).mono ?_
  rintro e w11 ⟨A_t, c_t, rfl, s_t, x11⟩
  replace s_s := s_s.ext x11
  replace s_c := s_c.ext x11
  replace s_out := s_out.ext x11
  replace s_m := s_m.ext x11
  replace s_d := s_d.ext x11
  replace E := E.trans x11
  go_wp2_with fail
  refine (sameInts_any A_d A_t 16 16 c_d c_t (shL (doL s c) (4 * (n1 / 4 % 4) + n1 % 4)) (shL (doL s c) (4 * (n1 / 4 % 4) + n1 % 4)) _ (shL_length _ _) (shL_length _ _) (by omega) s_d.rd s_t.rd).mono ?_
  rintro e w12 ⟨rfl, y12⟩
  have x12 := y12.ext
  replace s_s := s_s.ext x12
  replace s_c := s_c.ext x12
  replace s_out := s_out.ext x12
  replace s_m := s_m.ext x12
  replace s_d := s_d.ext x12
  replace s_t := s_t.ext x12
  replace E := E.trans x12
  go_wp2
  go_ret
  exact ⟨rfl, E⟩
end Go.Proofs.Ytohbflekinafjab.fnDirtyShift
