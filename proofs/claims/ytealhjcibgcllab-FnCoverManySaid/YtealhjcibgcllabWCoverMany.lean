/-
  The walk of FnCoverMany: it returns true and writes nothing that was there.
-/
import Derived.Test.YtealhjcibgcllabCovD
import Derived.Test.YtealhjcibgcllabFlags
import Derived.Test.YtealhjcibgcllabDrawC
namespace Go.Proofs.Ytealhjcibgcllab.fnCoverMany
open Go.RowKit

set_option maxHeartbeats 1000000 in
theorem walk (A0 : Option Addr) (n0 c0 : Nat) (b0 : List Int) (w : World) (hn0 : b0.length = n0) (hm0 : n0 ≤ 9223372036854775807) (h0 : Rd w w.heap.size A0 n0 c0 (b0.map (.int .u8))) (hw0 : ∀ z ∈ b0, 0 ≤ z ∧ z ≤ 255) :
    Calls Try.prog 3 #[.slice A0 n0 c0] w fun e w' => e = .returned (.bool true) ∧ Ext w w' := by
  have HN0 := Lib.hid hn0
  clear hn0
  have HW0 := Lib.hid hw0
  clear hw0
  by_cases hz0 : n0 ≤ 1048576
  case neg =>
    go_enter Try.func3, Try.ntmps3
    go_wp2
    go_ret
    exact ⟨rfl, Ext.refl _⟩
  go_enter Try.func3, Try.ntmps3
  go_wp2_with fail
  refine (drawCoverMany_any A0 n0 c0 b0 _ HN0.out hm0 h0 HW0.out).mono ?_
  rintro e w1 ⟨A_c, n_c, c_c, c, rfl, hl_c, hb_c, s_c, x1⟩
  have HL_c := Lib.hid hl_c
  clear hl_c
  have E := x1
  rcases hv : cvB c with _ | _
  case false =>
    have hm : covMany c = -1 := by simp [covMany, hv]
    go_wp2_with fail
    refine (coverMany_any A_c n_c c_c c _ HL_c.out s_c.rd).mono ?_
    rintro e w_ ⟨rfl, rfl⟩
    go_wp2_with fail
    refine (specCoverMany_any A_c n_c c_c c _ HL_c.out s_c.rd).mono ?_
    rintro e w2 ⟨rfl, y2⟩
    have x2 := y2.ext
    replace s_c := s_c.ext x2
    replace E := E.trans x2
    go_wp2
    go_ret
    exact ⟨rfl, E⟩
  obtain ⟨m0, m1⟩ := covMany_range hv
  obtain ⟨m2, m3⟩ := covMany_range (cvB_holes hv)
  have hs := many_holes hv
  have HS := Lib.hid hs
  clear hs
  have d1 : (covMany c + covMany (covHoles c) == 16) = true := by simp [HS.out]
  go_wp2_with fail
  refine (coverMany_any A_c n_c c_c c _ HL_c.out s_c.rd).mono ?_
  rintro e w_ ⟨rfl, rfl⟩
  go_wp2_with fail
  refine (specCoverMany_any A_c n_c c_c c _ HL_c.out s_c.rd).mono ?_
  rintro e w3 ⟨rfl, y3⟩
  have x3 := y3.ext
  replace s_c := s_c.ext x3
  replace E := E.trans x3
  go_wp2_with fail
  refine (coverHoles_any A_c n_c c_c c _ HL_c.out s_c.rd).mono ?_
  rintro e w4 ⟨A_x, c_x, rfl, s_x, x4⟩
  replace s_c := s_c.ext x4
  replace E := E.trans x4
  go_wp2_with fail
  refine (coverMany_any A_x (covHoles c).length c_x (covHoles c) _ rfl s_x.rd).mono ?_
  rintro e w_ ⟨rfl, rfl⟩
  go_wp2
  go_ret
  exact ⟨rfl, E⟩
end Go.Proofs.Ytealhjcibgcllab.fnCoverMany
