/-
  The walk of FnCoverHoles: it returns true and writes nothing that was there.
-/
import Derived.Test.YtealhjcibgcllaaCovD
import Derived.Test.YtealhjcibgcllaaFlags
import Derived.Test.YtealhjcibgcllaaDrawC
namespace Go.Proofs.Ytealhjcibgcllaa.fnCoverHoles
open Go.RowKit

set_option maxHeartbeats 1000000 in
theorem walk (A0 : Option Addr) (n0 c0 : Nat) (b0 : List Int) (w : World) (hn0 : b0.length = n0) (hm0 : n0 ≤ 9223372036854775807) (h0 : Rd w w.heap.size A0 n0 c0 (b0.map (.int .u8))) (hw0 : ∀ z ∈ b0, 0 ≤ z ∧ z ≤ 255) :
    Calls Try.prog 9 #[.slice A0 n0 c0] w fun e w' => e = .returned (.bool true) ∧ Ext w w' := by
  have HN0 := Lib.hid hn0
  clear hn0
  have HW0 := Lib.hid hw0
  clear hw0
  by_cases hz0 : n0 ≤ 1048576
  case neg =>
    go_enter Try.func9, Try.ntmps9
    go_wp2
    go_ret
    exact ⟨rfl, Ext.refl _⟩
  go_enter Try.func9, Try.ntmps9
  go_wp2_with fail
  refine (drawCoverHoles_any A0 n0 c0 b0 _ HN0.out hm0 h0 HW0.out).mono ?_
  rintro e w1 ⟨A_c, n_c, c_c, c, rfl, hl_c, hb_c, s_c, x1⟩
  have HL_c := Lib.hid hl_c
  clear hl_c
  have E := x1
  have hlen := covHoles_length c
  rcases hv : cvB c with _ | _
  case false =>
    go_wp2_with fail
    refine (coverHoles_any A_c n_c c_c c _ HL_c.out s_c.rd).mono ?_
    rintro e w2 ⟨A_out, c_out, rfl, s_out, x2⟩
    replace s_c := s_c.ext x2
    replace E := E.trans x2
    go_wp2_with fail
    refine (specCoverHoles_any A_c n_c c_c c _ HL_c.out s_c.rd).mono ?_
    rintro e w3 ⟨A_want, c_want, rfl, s_want, x3⟩
    replace s_c := s_c.ext x3
    replace s_out := s_out.ext x3
    replace E := E.trans x3
    go_wp2_with fail
    refine (sameFlags_any A_out A_want (covHoles c).length (covHoles c).length c_out c_want (covHoles c) (covHoles c) _ rfl rfl (by omega) s_out.rd s_want.rd).mono ?_
    rintro e w4 ⟨rfl, y4⟩
    have x4 := y4.ext
    replace s_c := s_c.ext x4
    replace s_out := s_out.ext x4
    replace s_want := s_want.ext x4
    replace E := E.trans x4
    go_wp2_with fail
    refine (sameFlags_any A_out A_want (covHoles c).length (covHoles c).length c_out c_want (covHoles c) (covHoles c) _ rfl rfl (by omega) s_out.rd s_want.rd).mono ?_
    rintro e w5 ⟨rfl, y5⟩
    have x5 := y5.ext
    replace s_c := s_c.ext x5
    replace s_out := s_out.ext x5
    replace s_want := s_want.ext x5
    replace E := E.trans x5
    go_wp2
    go_ret
    exact ⟨rfl, E⟩
  go_wp2_with fail
  refine (coverHoles_any A_c n_c c_c c _ HL_c.out s_c.rd).mono ?_
  rintro e w6 ⟨A_out, c_out, rfl, s_out, x6⟩
  replace s_c := s_c.ext x6
  replace E := E.trans x6
  go_wp2_with fail
  refine (specCoverHoles_any A_c n_c c_c c _ HL_c.out s_c.rd).mono ?_
  rintro e w7 ⟨A_want, c_want, rfl, s_want, x7⟩
  replace s_c := s_c.ext x7
  replace s_out := s_out.ext x7
  replace E := E.trans x7
  go_wp2_with fail
  refine (sameFlags_any A_out A_want (covHoles c).length (covHoles c).length c_out c_want (covHoles c) (covHoles c) _ rfl rfl (by omega) s_out.rd s_want.rd).mono ?_
  rintro e w8 ⟨rfl, y8⟩
  have x8 := y8.ext
  replace s_c := s_c.ext x8
  replace s_out := s_out.ext x8
  replace s_want := s_want.ext x8
  replace E := E.trans x8
  have v2 := cvB_holes hv
  have hh := holes_holes hv
  have HH := Lib.hid hh
  clear hh
  have hl2 := covHoles_length (covHoles c)
  have d1 : decide (covHoles (covHoles c) = c) = true := by simp [HH.out]
  go_wp2_with fail
  refine (coverHoles_any A_out (covHoles c).length c_out (covHoles c) _ rfl s_out.rd).mono ?_
  rintro e w9 ⟨A_x, c_x, rfl, s_x, x9⟩
  replace s_c := s_c.ext x9
  replace s_out := s_out.ext x9
  replace s_want := s_want.ext x9
  replace E := E.trans x9
  go_wp2_with fail
  refine (sameFlags_any A_x A_c (covHoles (covHoles c)).length n_c c_x c_c (covHoles (covHoles c)) c _ rfl HL_c.out (by omega) s_x.rd s_c.rd).mono ?_
  rintro e w10 ⟨rfl, y10⟩
  have x10 := y10.ext
  replace s_c := s_c.ext x10
  replace s_out := s_out.ext x10
  replace s_want := s_want.ext x10
  replace s_x := s_x.ext x10
  replace E := E.trans x10
  go_wp2_with fail
  refine (coverValid_any A_out (covHoles c).length c_out (covHoles c) _ rfl s_out.rd).mono ?_
  rintro e w_ ⟨rfl, rfl⟩
  go_wp2
  go_ret
  exact ⟨rfl, E⟩
end Go.Proofs.Ytealhjcibgcllaa.fnCoverHoles
