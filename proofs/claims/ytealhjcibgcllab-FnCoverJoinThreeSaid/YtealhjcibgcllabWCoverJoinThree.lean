/-
  The walk of FnCoverJoinThree: it returns true and writes nothing that was there.
-/
import Derived.Test.YtealhjcibgcllabCovD
import Derived.Test.YtealhjcibgcllabFlags
import Derived.Test.YtealhjcibgcllabDrawC
namespace Go.Proofs.Ytealhjcibgcllab.fnCoverJoinThree
open Go.RowKit

set_option maxHeartbeats 1000000 in
theorem walk (A0 : Option Addr) (n0 c0 : Nat) (b0 : List Int) (w : World) (hn0 : b0.length = n0) (hm0 : n0 ≤ 9223372036854775807) (h0 : Rd w w.heap.size A0 n0 c0 (b0.map (.int .u8))) (hw0 : ∀ z ∈ b0, 0 ≤ z ∧ z ≤ 255) :
    Calls Try.prog 4 #[.slice A0 n0 c0] w fun e w' => e = .returned (.bool true) ∧ Ext w w' := by
  have HN0 := Lib.hid hn0
  clear hn0
  have HW0 := Lib.hid hw0
  clear hw0
  by_cases hz0 : n0 ≤ 1048576
  case neg =>
    go_enter Try.func4, Try.ntmps4
    go_wp2
    go_ret
    exact ⟨rfl, Ext.refl _⟩
  go_enter Try.func4, Try.ntmps4
  go_wp2_with fail
  refine (drawCoverJoin_any A0 n0 c0 b0 _ HN0.out hm0 h0 HW0.out).mono ?_
  rintro e w1 ⟨A_a, n_a, c_a, a, A_b, n_b, c_b, b, rfl, hl_a, hb_a, hl_b, hb_b, s_a, s_b, x1⟩
  have HL_a := Lib.hid hl_a
  clear hl_a
  have HL_b := Lib.hid hl_b
  clear hl_b
  have E := x1
  have hlen := covJoin_length a b
  by_cases hv : (cvB a && cvB b) = true
  case neg =>
    have hv0 : (cvB a && cvB b) = false := by simpa using hv
    clear hv
    go_wp2_with fail
    refine (coverJoin_any A_a A_b n_a n_b c_a c_b a b _ HL_a.out HL_b.out s_a.rd s_b.rd).mono ?_
    rintro e w2 ⟨A_out, c_out, rfl, s_out, x2⟩
    replace s_a := s_a.ext x2
    replace s_b := s_b.ext x2
    replace E := E.trans x2
    go_wp2_with fail
    refine (specCoverJoin_any A_a A_b n_a n_b c_a c_b a b _ HL_a.out HL_b.out s_a.rd s_b.rd).mono ?_
    rintro e w3 ⟨A_want, c_want, rfl, s_want, x3⟩
    replace s_a := s_a.ext x3
    replace s_b := s_b.ext x3
    replace s_out := s_out.ext x3
    replace E := E.trans x3
    go_wp2_with fail
    refine (sameFlags_any A_out A_want (covJoin a b).length (covJoin a b).length c_out c_want (covJoin a b) (covJoin a b) _ rfl rfl (by omega) s_out.rd s_want.rd).mono ?_
    rintro e w4 ⟨rfl, y4⟩
    have x4 := y4.ext
    replace s_a := s_a.ext x4
    replace s_b := s_b.ext x4
    replace s_out := s_out.ext x4
    replace s_want := s_want.ext x4
    replace E := E.trans x4
    go_wp2_with fail
    refine (sameFlags_any A_out A_want (covJoin a b).length (covJoin a b).length c_out c_want (covJoin a b) (covJoin a b) _ rfl rfl (by omega) s_out.rd s_want.rd).mono ?_
    rintro e w5 ⟨rfl, y5⟩
    have x5 := y5.ext
    replace s_a := s_a.ext x5
    replace s_b := s_b.ext x5
    replace s_out := s_out.ext x5
    replace s_want := s_want.ext x5
    replace E := E.trans x5
    go_wp2
    go_ret
    exact ⟨rfl, E⟩
  obtain ⟨va, vb⟩ : cvB a = true ∧ cvB b = true := by simpa using hv
  clear hv
  go_wp2_with fail
  refine (coverJoin_any A_a A_b n_a n_b c_a c_b a b _ HL_a.out HL_b.out s_a.rd s_b.rd).mono ?_
  rintro e w6 ⟨A_out, c_out, rfl, s_out, x6⟩
  replace s_a := s_a.ext x6
  replace s_b := s_b.ext x6
  replace E := E.trans x6
  go_wp2_with fail
  refine (specCoverJoin_any A_a A_b n_a n_b c_a c_b a b _ HL_a.out HL_b.out s_a.rd s_b.rd).mono ?_
  rintro e w7 ⟨A_want, c_want, rfl, s_want, x7⟩
  replace s_a := s_a.ext x7
  replace s_b := s_b.ext x7
  replace s_out := s_out.ext x7
  replace E := E.trans x7
  go_wp2_with fail
  refine (sameFlags_any A_out A_want (covJoin a b).length (covJoin a b).length c_out c_want (covJoin a b) (covJoin a b) _ rfl rfl (by omega) s_out.rd s_want.rd).mono ?_
  rintro e w8 ⟨rfl, y8⟩
  have x8 := y8.ext
  replace s_a := s_a.ext x8
  replace s_b := s_b.ext x8
  replace s_out := s_out.ext x8
  replace s_want := s_want.ext x8
  replace E := E.trans x8
  have v1 := cvB_join va vb
  have v2 := cvB_turn va
  have v3 := cvB_join vb (cvB_turn va)
  have HH := Lib.hid (join_assoc va vb (cvB_turn va))
  have d1 : decide (covJoin (covJoin a b) (covTurn a) = covJoin a (covJoin b (covTurn a))) = true := by simp [HH.out]
  have l1 := covJoin_length (covJoin a b) (covTurn a)
  go_wp2_with fail
  refine (coverTurn_any A_a n_a c_a a _ HL_a.out s_a.rd).mono ?_
  rintro e w9 ⟨A_t, c_t, rfl, s_t, x9⟩
  replace s_a := s_a.ext x9
  replace s_b := s_b.ext x9
  replace s_out := s_out.ext x9
  replace s_want := s_want.ext x9
  replace E := E.trans x9
  go_wp2_with fail
  refine (coverJoin_any A_out A_t (covJoin a b).length (covTurn a).length c_out c_t (covJoin a b) (covTurn a) _ rfl rfl s_out.rd s_t.rd).mono ?_
  rintro e w10 ⟨A_x, c_x, rfl, s_x, x10⟩
  replace s_a := s_a.ext x10
  replace s_b := s_b.ext x10
  replace s_out := s_out.ext x10
  replace s_want := s_want.ext x10
  replace s_t := s_t.ext x10
  replace E := E.trans x10
  go_wp2_with fail
  refine (coverJoin_any A_b A_t n_b (covTurn a).length c_b c_t b (covTurn a) _ HL_b.out rfl s_b.rd s_t.rd).mono ?_
  rintro e w11 ⟨A_y, c_y, rfl, s_y, x11⟩
  replace s_a := s_a.ext x11
  replace s_b := s_b.ext x11
  replace s_out := s_out.ext x11
  replace s_want := s_want.ext x11
  replace s_t := s_t.ext x11
  replace s_x := s_x.ext x11
  replace E := E.trans x11
  go_wp2_with fail
  refine (coverJoin_any A_a A_y n_a (covJoin b (covTurn a)).length c_a c_y a (covJoin b (covTurn a)) _ HL_a.out rfl s_a.rd s_y.rd).mono ?_
  rintro e w12 ⟨A_z, c_z, rfl, s_z, x12⟩
  replace s_a := s_a.ext x12
  replace s_b := s_b.ext x12
  replace s_out := s_out.ext x12
  replace s_want := s_want.ext x12
  replace s_t := s_t.ext x12
  replace s_x := s_x.ext x12
  replace s_y := s_y.ext x12
  replace E := E.trans x12
  go_wp2_with fail
  refine (sameFlags_any A_x A_z (covJoin (covJoin a b) (covTurn a)).length (covJoin a (covJoin b (covTurn a))).length c_x c_z (covJoin (covJoin a b) (covTurn a)) (covJoin a (covJoin b (covTurn a))) _ rfl rfl (by omega) s_x.rd s_z.rd).mono ?_
  rintro e w13 ⟨rfl, y13⟩
  have x13 := y13.ext
  replace s_a := s_a.ext x13
  replace s_b := s_b.ext x13
  replace s_out := s_out.ext x13
  replace s_want := s_want.ext x13
  replace s_t := s_t.ext x13
  replace s_x := s_x.ext x13
  replace s_y := s_y.ext x13
  replace s_z := s_z.ext x13
  replace E := E.trans x13
  go_wp2
  go_ret
  exact ⟨rfl, E⟩
end Go.Proofs.Ytealhjcibgcllab.fnCoverJoinThree
