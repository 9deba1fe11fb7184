/-
  The walk of FnDirtySame: it returns true and writes nothing that was there.
-/
import Derived.Test.YtohbflekinafjabDirtyS
import Derived.Test.YtohbflekinafjabDrawDS
import Derived.Test.YtohbflekinafjabDirtyLaws
import Derived.Test.YtohbflekinafjabFlags
import Derived.Test.YtohbflekinafjabDrawC
namespace Go.Proofs.Ytohbflekinafjab.fnDirtySame
open Go.RowKit
set_option linter.unusedVariables false

set_option maxRecDepth 100000 in
set_option maxHeartbeats 8000000 in
theorem walk (A0 : Option Addr) (n0 c0 : Nat) (b0 : List Int) (w : World) (hn0 : b0.length = n0) (hm0 : n0 ≤ 9223372036854775807) (h0 : Rd w w.heap.size A0 n0 c0 (b0.map (.int .u8))) (hw0 : ∀ z ∈ b0, 0 ≤ z ∧ z ≤ 255) :
    Calls Try.prog 8 #[.slice A0 n0 c0] w fun e w' => e = .returned (.bool true) ∧ Ext w w' := by
  have HN0 := Lib.hid hn0
  have HW0 := Lib.hid hw0
  clear hn0 hw0
  by_cases hz0 : n0 ≤ 1048576
  case neg =>
    go_enter Try.func8, Try.ntmps8
    go_wp2
    go_ret
    exact ⟨rfl, Ext.refl _⟩
  go_enter Try.func8, Try.ntmps8
  go_wp2_with fail
  refine (drawDirtySame_any A0 n0 c0 b0 _ HN0.out hm0 h0 HW0.out).mono ?_
  rintro e w1 ⟨A_a, n_a, c_a, a, A_b, n_b, c_b, b, A_c, n_c, c_c, c, rfl, hl_a, hb_a, hl_b, hb_b, hl_c, hb_c, s_a, s_b, s_c, x1⟩
  have HL_a := Lib.hid hl_a
  clear hl_a
  have HL_b := Lib.hid hl_b
  clear hl_b
  have HL_c := Lib.hid hl_c
  clear hl_c
  have E := x1
  rcases hv : dsB a b c with _ | _
  case false =>
    have HV := Lib.hid hv
    clear hv
    go_wp2_with fail
    refine (dirtySame_any A_a A_b A_c n_a n_b n_c c_a c_b c_c a b c _ HL_a.out HL_b.out HL_c.out s_a.rd s_b.rd s_c.rd).mono ?_
    rintro e w2 ⟨rfl, x2⟩
    replace s_a := s_a.ext x2
    replace s_b := s_b.ext x2
    replace s_c := s_c.ext x2
    replace E := E.trans x2
    rw [HV.out]
    go_wp2_with fail
    refine (specDirtySame_any A_a A_b A_c n_a n_b n_c c_a c_b c_c a b c _ HL_a.out HL_b.out HL_c.out (by omega) (by omega) s_a.rd s_b.rd s_c.rd).mono ?_
    rintro e w3 ⟨rfl, x3⟩
    replace s_a := s_a.ext x3
    replace s_b := s_b.ext x3
    replace s_c := s_c.ext x3
    replace E := E.trans x3
    rw [HV.out]
    go_wp2
    go_ret
    exact ⟨rfl, E⟩
  have HV := Lib.hid hv
  clear hv
  go_wp2_with fail
  refine (dirtySame_any A_a A_b A_c n_a n_b n_c c_a c_b c_c a b c _ HL_a.out HL_b.out HL_c.out s_a.rd s_b.rd s_c.rd).mono ?_
  rintro e w4 ⟨rfl, x4⟩
  replace s_a := s_a.ext x4
  replace s_b := s_b.ext x4
  replace s_c := s_c.ext x4
  replace E := E.trans x4
  rw [HV.out]
  go_wp2_with fail
  refine (specDirtySame_any A_a A_b A_c n_a n_b n_c c_a c_b c_c a b c _ HL_a.out HL_b.out HL_c.out (by omega) (by omega) s_a.rd s_b.rd s_c.rd).mono ?_
  rintro e w5 ⟨rfl, x5⟩
  replace s_a := s_a.ext x5
  replace s_b := s_b.ext x5
  replace s_c := s_c.ext x5
  replace E := E.trans x5
  rw [HV.out]
  have HI := Lib.hid (ds_image HV.out)
  have HS := Lib.hid (ds_swap HV.out)
  have hdl := doL_length a c
  have hdl2 := doL_length b c
  go_wp2_with fail
  refine (dirtyOf_any A_a A_c n_a n_c c_a c_c a c _ HL_a.out HL_c.out s_a.rd s_c.rd).mono ?_
  rintro e w6 ⟨A_x, c_x, rfl, s_x, x6⟩
  replace s_a := s_a.ext x6
  replace s_b := s_b.ext x6
  replace s_c := s_c.ext x6
  replace E := E.trans x6
  go_wp2_with fail
  refine (dirtyOf_any A_b A_c n_b n_c c_b c_c b c _ HL_b.out HL_c.out s_b.rd s_c.rd).mono ?_
  rintro e w7 ⟨A_y, c_y, rfl, s_y, x7⟩
  replace s_a := s_a.ext x7
  replace s_b := s_b.ext x7
  replace s_c := s_c.ext x7
  replace s_x := s_x.ext x7
  replace E := E.trans x7
  go_wp2_with fail
  refine (dirtySame_any A_b A_a A_c n_b n_a n_c c_b c_a c_c b a c _ HL_b.out HL_a.out HL_c.out s_b.rd s_a.rd s_c.rd).mono ?_
  rintro e w8 ⟨rfl, x8⟩
  replace s_a := s_a.ext x8
  replace s_b := s_b.ext x8
  replace s_c := s_c.ext x8
  replace s_x := s_x.ext x8
  replace s_y := s_y.ext x8
  replace E := E.trans x8
  rw [HS.out]
  rw [← HI.out.1, ← HI.out.2]
  rw [← HI.out.2] at s_y
  clear s_a
  clear s_b
  clear s_c
  go_wp2_with fail
  refine (sameInts_any A_x A_y (doL a c).length (doL a c).length c_x c_y (doL a c) (doL a c) _ rfl rfl (by omega) s_x.rd s_y.rd).mono ?_
  rintro e w9 ⟨rfl, y9⟩
  have x9 := y9.ext
  replace s_x := s_x.ext x9
  replace s_y := s_y.ext x9
  replace E := E.trans x9
  go_wp2
  go_ret
  exact ⟨rfl, E⟩
end Go.Proofs.Ytohbflekinafjab.fnDirtySame
