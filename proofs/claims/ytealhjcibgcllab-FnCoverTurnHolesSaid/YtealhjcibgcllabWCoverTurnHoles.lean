/-
  The walk of FnCoverTurnHoles: it returns true and writes nothing that was there.
-/
import Derived.Test.YtealhjcibgcllabCovD
import Derived.Test.YtealhjcibgcllabFlags
import Derived.Test.YtealhjcibgcllabDrawC
namespace Go.Proofs.Ytealhjcibgcllab.fnCoverTurnHoles
open Go.RowKit

set_option maxHeartbeats 1000000 in
theorem walk (A0 : Option Addr) (n0 c0 : Nat) (b0 : List Int) (w : World) (hn0 : b0.length = n0) (hm0 : n0 ≤ 9223372036854775807) (h0 : Rd w w.heap.size A0 n0 c0 (b0.map (.int .u8))) (hw0 : ∀ z ∈ b0, 0 ≤ z ∧ z ≤ 255) :
    Calls Try.prog 9 #[.slice A0 n0 c0] w fun e w' => e = .returned (.bool true) ∧ Ext w w' := by
  have HN0 := Lib.hid hn0
  clear hn0
  have HW0 := Lib.hid hw0
  clear hw0
  by_cases hz0 : n0 ≤ 1048576
  case neg =>
    go_enter Try.func9, Try.ntmps9
    go_wp2
    go_ret
    exact ⟨rfl, Ext.refl _⟩
  go_enter Try.func9, Try.ntmps9
  go_wp2_with fail
  refine (drawCoverTurn_any A0 n0 c0 b0 _ HN0.out hm0 h0 HW0.out).mono ?_
  rintro e w1 ⟨A_c, n_c, c_c, c, rfl, hl_c, hb_c, s_c, x1⟩
  have HL_c := Lib.hid hl_c
  clear hl_c
  have E := x1
  have hlen := covTurn_length c
  rcases hv : cvB c with _ | _
  case false =>
    go_wp2_with fail
    refine (coverTurn_any A_c n_c c_c c _ HL_c.out s_c.rd).mono ?_
    rintro e w2 ⟨A_out, c_out, rfl, s_out, x2⟩
    replace s_c := s_c.ext x2
    replace E := E.trans x2
    go_wp2_with fail
    refine (specCoverTurn_any A_c n_c c_c c _ HL_c.out s_c.rd).mono ?_
    rintro e w3 ⟨A_want, c_want, rfl, s_want, x3⟩
    replace s_c := s_c.ext x3
    replace s_out := s_out.ext x3
    replace E := E.trans x3
    go_wp2_with fail
    refine (sameFlags_any A_out A_want (covTurn c).length (covTurn c).length c_out c_want (covTurn c) (covTurn c) _ rfl rfl (by omega) s_out.rd s_want.rd).mono ?_
    rintro e w4 ⟨rfl, y4⟩
    have x4 := y4.ext
    replace s_c := s_c.ext x4
    replace s_out := s_out.ext x4
    replace s_want := s_want.ext x4
    replace E := E.trans x4
    go_wp2_with fail
    refine (sameFlags_any A_out A_want (covTurn c).length (covTurn c).length c_out c_want (covTurn c) (covTurn c) _ rfl rfl (by omega) s_out.rd s_want.rd).mono ?_
    rintro e w5 ⟨rfl, y5⟩
    have x5 := y5.ext
    replace s_c := s_c.ext x5
    replace s_out := s_out.ext x5
    replace s_want := s_want.ext x5
    replace E := E.trans x5
    go_wp2
    go_ret
    exact ⟨rfl, E⟩
  go_wp2_with fail
  refine (coverTurn_any A_c n_c c_c c _ HL_c.out s_c.rd).mono ?_
  rintro e w6 ⟨A_out, c_out, rfl, s_out, x6⟩
  replace s_c := s_c.ext x6
  replace E := E.trans x6
  go_wp2_with fail
  refine (specCoverTurn_any A_c n_c c_c c _ HL_c.out s_c.rd).mono ?_
  rintro e w7 ⟨A_want, c_want, rfl, s_want, x7⟩
  replace s_c := s_c.ext x7
  replace s_out := s_out.ext x7
  replace E := E.trans x7
  go_wp2_with fail
  refine (sameFlags_any A_out A_want (covTurn c).length (covTurn c).length c_out c_want (covTurn c) (covTurn c) _ rfl rfl (by omega) s_out.rd s_want.rd).mono ?_
  rintro e w8 ⟨rfl, y8⟩
  have x8 := y8.ext
  replace s_c := s_c.ext x8
  replace s_out := s_out.ext x8
  replace s_want := s_want.ext x8
  replace E := E.trans x8
  have v2 := cvB_turn hv
  have v3 := cvB_holes hv
  have v4 := cvB_holes (cvB_turn hv)
  have HH := Lib.hid (turn_holes hv)
  have HF := Lib.hid (join_holes_self (cvB_turn hv))
  have d1 : decide (covHoles (covTurn c) = covTurn (covHoles c)) = true := by simp [HH.out]
  have d2 : decide (covJoin (covTurn c) (covHoles (covTurn c)) = full16) = true := by simp [HF.out]
  have l1 := covHoles_length (covTurn c)
  have l2 := covJoin_length (covTurn c) (covHoles (covTurn c))
  go_wp2_with fail
  refine (coverHoles_any A_out (covTurn c).length c_out (covTurn c) _ rfl s_out.rd).mono ?_
  rintro e w9 ⟨A_x, c_x, rfl, s_x, x9⟩
  replace s_c := s_c.ext x9
  replace s_out := s_out.ext x9
  replace s_want := s_want.ext x9
  replace E := E.trans x9
  go_wp2_with fail
  refine (coverHoles_any A_c n_c c_c c _ HL_c.out s_c.rd).mono ?_
  rintro e w10 ⟨A_y, c_y, rfl, s_y, x10⟩
  replace s_c := s_c.ext x10
  replace s_out := s_out.ext x10
  replace s_want := s_want.ext x10
  replace s_x := s_x.ext x10
  replace E := E.trans x10
  go_wp2_with fail
  refine (coverTurn_any A_y (covHoles c).length c_y (covHoles c) _ rfl s_y.rd).mono ?_
  rintro e w11 ⟨A_z, c_z, rfl, s_z, x11⟩
  replace s_c := s_c.ext x11
  replace s_out := s_out.ext x11
  replace s_want := s_want.ext x11
  replace s_x := s_x.ext x11
  replace s_y := s_y.ext x11
  replace E := E.trans x11
  go_wp2_with fail
  refine (coverJoin_any A_out A_x (covTurn c).length (covHoles (covTurn c)).length c_out c_x (covTurn c) (covHoles (covTurn c)) _ rfl rfl s_out.rd s_x.rd).mono ?_
  rintro e w12 ⟨A_j, c_j, rfl, s_j, x12⟩
  replace s_c := s_c.ext x12
  replace s_out := s_out.ext x12
  replace s_want := s_want.ext x12
  replace s_x := s_x.ext x12
  replace s_y := s_y.ext x12
  replace s_z := s_z.ext x12
  replace E := E.trans x12
  go_wp2_with fail
  refine (sameFlags_any A_x A_z (covHoles (covTurn c)).length (covTurn (covHoles c)).length c_x c_z (covHoles (covTurn c)) (covTurn (covHoles c)) _ rfl rfl (by omega) s_x.rd s_z.rd).mono ?_
  rintro e w13 ⟨rfl, y13⟩
  have x13 := y13.ext
  replace s_c := s_c.ext x13
  replace s_out := s_out.ext x13
  replace s_want := s_want.ext x13
  replace s_x := s_x.ext x13
  replace s_y := s_y.ext x13
  replace s_z := s_z.ext x13
  replace s_j := s_j.ext x13
  replace E := E.trans x13
  go_wp2_with fail
  refine (fullCover_any _).mono ?_
  rintro e w14 ⟨A_f, c_f, rfl, s_f, x14⟩
  replace s_c := s_c.ext x14
  replace s_out := s_out.ext x14
  replace s_want := s_want.ext x14
  replace s_x := s_x.ext x14
  replace s_y := s_y.ext x14
  replace s_z := s_z.ext x14
  replace s_j := s_j.ext x14
  replace E := E.trans x14
  go_wp2_with fail
  refine (sameFlags_any A_j A_f (covJoin (covTurn c) (covHoles (covTurn c))).length 16 c_j c_f (covJoin (covTurn c) (covHoles (covTurn c))) (full16) _ rfl full16_length (by omega) s_j.rd s_f.rd).mono ?_
  rintro e w15 ⟨rfl, y15⟩
  have x15 := y15.ext
  replace s_c := s_c.ext x15
  replace s_out := s_out.ext x15
  replace s_want := s_want.ext x15
  replace s_x := s_x.ext x15
  replace s_y := s_y.ext x15
  replace s_z := s_z.ext x15
  replace s_j := s_j.ext x15
  replace s_f := s_f.ext x15
  replace E := E.trans x15
  go_wp2
  go_ret
  exact ⟨rfl, E⟩
end Go.Proofs.Ytealhjcibgcllab.fnCoverTurnHoles
