/-
  The walk of FnSolveGainsSame: it returns true and writes nothing that was there.
-/
import Derived.Test.YtpjglnmnfmibnabCloseB
import Derived.Test.YtpjglnmnfmibnabDrawX
import Derived.Test.YtpjglnmnfmibnabAmpS
import Derived.Test.YtpjglnmnfmibnabSgP
import Derived.Test.YtpjglnmnfmibnabCloseC
import Derived.Test.YtpjglnmnfmibnabSameV
import Derived.Deep.QuietTactic
import Derived.BigQuiet
namespace Go.Proofs.Ytpjglnmnfmibnab.fnSolveGainsSame
open Go.RowKit
set_option linter.unusedVariables false

set_option maxRecDepth 100000 in
set_option maxHeartbeats 4000000 in
theorem walk (A0 : Option Addr) (n0 c0 : Nat) (b0 : List Int) (w : World) (hn0 : b0.length = n0) (hm0 : n0 ≤ 9223372036854775807) (h0 : Rd w w.heap.size A0 n0 c0 (b0.map (.int .u8))) (hw0 : ∀ z ∈ b0, 0 ≤ z ∧ z ≤ 255) :
    Calls Try.prog 5 #[.slice A0 n0 c0] w fun e w' => e = .returned (.bool true) ∧ Ext w w' := by
  have HN0 := Lib.hid hn0
  have HW0 := Lib.hid hw0
  clear hn0 hw0
  by_cases hz0 : n0 ≤ 1048576
  case neg =>
    go_enter Try.func5, Try.ntmps5
    go_wp2
    go_ret
    exact ⟨rfl, Ext.refl _⟩
  go_enter Try.func5, Try.ntmps5
  go_wp2_with fail
  refine (drawSolveGains_any A0 n0 c0 b0 _ HN0.out hm0 h0 HW0.out).mono ?_
  rintro e w1 ⟨N, A_l, n_l, c_l, l, A_m, n_m, c_m, m, rfl, g1, g2, hl, g3, g4, hm, g5, g6, s_l, s_m, x1⟩
  obtain ⟨g, ok, hgn, HC1, HC2, HC3⟩ : ∃ (g : VL) (ok : Bool), g.length ≤ 7 ∧
      Hid (∀ W, Rd W W.heap.size A_l n_l c_l (pairs l) → Rd W W.heap.size A_m n_m c_m (pairs m) → Calls Try.prog 13 #[.int .i64 (N : Int), .slice A_l n_l c_l, .slice A_m n_m c_m] W (RetSB W 30 g.length (pairs g) ok)) ∧
      Hid (∀ W, Rd W W.heap.size A_l n_l c_l (pairs l) → Rd W W.heap.size A_m n_m c_m (pairs m) → Calls Try.prog 14 #[.int .i64 (N : Int), .slice A_l n_l c_l, .slice A_m n_m c_m] W (RetSB W 30 g.length (pairs g) ok)) ∧
      Hid (ok = true → ∀ W, Rd W W.heap.size A_l n_l c_l (pairs l) → Rd W W.heap.size A_m n_m c_m (pairs m) → Calls Try.prog 9 #[.int .i64 (N : Int), .slice A_l n_l c_l, .slice A_m n_m c_m] W fun e w' => e = .returned (.bool true) ∧ Ext W w') := by
    refine ⟨sgL (N : Int) l m, sgB (N : Int) l m, sgL_short _ _ _, fun W r1 r2 => solveGains_any (N : Int) A_l A_m n_l c_l n_m c_m l m W hl hm (by omega) (by omega) r1 r2,
      fun W r1 r2 => specSolveGains_any (N : Int) A_l A_m n_l c_l n_m c_m l m W hl hm (by omega) (by omega) r1 r2, fun h W r1 r2 => ?_⟩
    have := closeSame_any (N : Int) A_l A_m n_l c_l n_m c_m l m W hl hm (by omega) (by omega) r1 r2
    rw [sg_same h] at this
    exact this
  have HL := Lib.hid hl
  have HM := Lib.hid hm
  clear hl hm
  have E := x1
  go_wp2_with fail
  refine (HC1.out _ s_l.rd s_m.rd).mono ?_
  rintro e w2 ⟨A_o, c_o, rfl, s_o, x2⟩
  replace s_l := s_l.ext x2
  replace s_m := s_m.ext x2
  replace E := E.trans x2
  cases ok
  case false =>
    go_wp2_with fail
    refine (HC2.out _ s_l.rd s_m.rd).mono ?_
    rintro e w3 ⟨A_w, c_w, rfl, s_w, x3⟩
    replace s_o := s_o.ext x3
    replace E := E.trans x3
    go_wp2_with fail
    refine (sameVis_any A_o A_w g.length g.length c_o c_w g g _ rfl rfl (by omega) s_o.rd s_w.rd).mono ?_
    rintro e w4 ⟨rfl, y4⟩
    replace s_o := s_o.ext y4.ext
    replace s_w := s_w.ext y4.ext
    replace E := E.trans y4.ext
    rw [show decide (g = g) = true from decide_eq_true rfl]
    go_wp2_with fail
    refine (sameVis_any A_o A_w g.length g.length c_o c_w g g _ rfl rfl (by omega) s_o.rd s_w.rd).mono ?_
    rintro e w5 ⟨rfl, y5⟩
    replace E := E.trans y5.ext
    rw [show decide (g = g) = true from decide_eq_true rfl]
    go_wp2
    go_ret
    exact ⟨rfl, E⟩
  have HC3' := Lib.hid (HC3.out rfl)
  clear HC3
  go_wp2_with fail
  refine (HC2.out _ s_l.rd s_m.rd).mono ?_
  rintro e w3 ⟨A_w, c_w, rfl, s_w, x3⟩
  replace s_l := s_l.ext x3
  replace s_m := s_m.ext x3
  replace s_o := s_o.ext x3
  replace E := E.trans x3
  clear HC1 HC2
  go_wp2_with fail
  refine (sameVis_any A_o A_w g.length g.length c_o c_w g g _ rfl rfl (by omega) s_o.rd s_w.rd).mono ?_
  rintro e w4 ⟨rfl, y4⟩
  have x4 := y4.ext
  replace s_l := s_l.ext x4
  replace s_m := s_m.ext x4
  replace s_o := s_o.ext x4
  replace E := E.trans x4
  rw [show decide (g = g) = true from decide_eq_true rfl]
  clear s_w x1 x2 x3 y4 x4
  by_cases h5 : (5 : Int) < (N : Int)
  · go_wp2
    go_ret
    exact ⟨rfl, E⟩
  · go_wp2_with fail
    refine (HC3'.out _ s_l.rd s_m.rd).mono ?_
    rintro e w5 ⟨rfl, x5⟩
    replace E := E.trans x5
    go_wp2
    go_ret
    exact ⟨rfl, E⟩
end Go.Proofs.Ytpjglnmnfmibnab.fnSolveGainsSame
