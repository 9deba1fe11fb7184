/-
  The walk of FnSolveGains: it returns true and writes nothing that was there.
-/
import Derived.Test.YtpjglnmnfmibnaaCloseB
import Derived.Test.YtpjglnmnfmibnaaDrawX
import Derived.Test.YtpjglnmnfmibnaaAmpS
import Derived.Test.YtpjglnmnfmibnaaGainQ
import Derived.Test.YtpjglnmnfmibnaaSameV
import Derived.Deep.QuietTactic
import Derived.BigQuiet
namespace Go.Proofs.Ytpjglnmnfmibnaa.fnSolveGains
open Go.RowKit
set_option linter.unusedVariables false

set_option maxRecDepth 100000 in
set_option maxHeartbeats 4000000 in
theorem walk (A0 : Option Addr) (n0 c0 : Nat) (b0 : List Int) (w : World) (hn0 : b0.length = n0) (hm0 : n0 ≤ 9223372036854775807) (h0 : Rd w w.heap.size A0 n0 c0 (b0.map (.int .u8))) (hw0 : ∀ z ∈ b0, 0 ≤ z ∧ z ≤ 255) :
    Calls Try.prog 4 #[.slice A0 n0 c0] w fun e w' => e = .returned (.bool true) ∧ Ext w w' := by
  have HN0 := Lib.hid hn0
  have HW0 := Lib.hid hw0
  clear hn0 hw0
  by_cases hz0 : n0 ≤ 1048576
  case neg =>
    go_enter Try.func4, Try.ntmps4
    go_wp2
    go_ret
    exact ⟨rfl, Ext.refl _⟩
  go_enter Try.func4, Try.ntmps4
  go_wp2_with fail
  refine (drawSolveGains_any A0 n0 c0 b0 _ HN0.out hm0 h0 HW0.out).mono ?_
  rintro e w1 ⟨N, A_l, n_l, c_l, l, A_m, n_m, c_m, m, rfl, g1, g2, hl, g3, g4, hm, g5, g6, s_l, s_m, x1⟩
  obtain ⟨g, ok, hgn, HC1, HC2, HC3, HC4, HC5, HLS⟩ : ∃ (g : VL) (ok : Bool), g.length ≤ 7 ∧
      Hid (∀ W, Rd W W.heap.size A_l n_l c_l (pairs l) → Rd W W.heap.size A_m n_m c_m (pairs m) → Calls Try.prog 12 #[.int .i64 (N : Int), .slice A_l n_l c_l, .slice A_m n_m c_m] W (RetSB W 47 g.length (pairs g) ok)) ∧
      Hid (∀ W, Rd W W.heap.size A_l n_l c_l (pairs l) → Rd W W.heap.size A_m n_m c_m (pairs m) → Calls Try.prog 10 #[.int .i64 (N : Int), .slice A_l n_l c_l, .slice A_m n_m c_m] W (RetSB W 47 g.length (pairs g) ok)) ∧
      Hid (ok = true → ∀ W A c, Rd W W.heap.size A_m n_m c_m (pairs m) → Rd W W.heap.size A g.length c (pairs g) → Calls Try.prog 18 #[.int .i64 (N : Int), .slice A_m n_m c_m, .slice A g.length c] W (RetSB W 47 n_l (pairs l) true)) ∧
      Hid (ok = true → ∀ W A c, Rd W W.heap.size A_l n_l c_l (pairs l) → Rd W W.heap.size A g.length c (pairs g) → Calls Try.prog 19 #[.int .i64 (N : Int), .slice A_l n_l c_l, .slice A g.length c] W (RetSB W 47 n_m (pairs m) true)) ∧
      Hid (ok = true → ∀ W A c, Rd W W.heap.size A g.length c (pairs g) → Calls Try.prog 20 #[.int .i64 (N : Int), .slice A g.length c] W fun e w' => e = .returned (.bool true) ∧ Ext W w') ∧
      True := by
    refine ⟨sgL (N : Int) l m, sgB (N : Int) l m, sgL_short _ _ _, fun W r1 r2 => solveGains_any (N : Int) A_l A_m n_l c_l n_m c_m l m W hl hm (by omega) (by omega) r1 r2,
      fun W r1 r2 => specSolveGains_any (N : Int) A_l A_m n_l c_l n_m c_m l m W hl hm (by omega) (by omega) r1 r2, fun h W A c r1 r2 => ?_, fun h W A c r1 r2 => ?_, fun h W A c r1 => ?_, trivial⟩
    · have F := sg_facts h
      have := gainApply_any (N : Int) A_m A n_m c_m _ c m (sgL (N : Int) l m) W hm rfl (by omega) (by have := sgL_short (N : Int) l m; omega) r1 r2
      rw [F.app, F.appl, hl] at this
      exact this
    · have F := sg_facts h
      have := gainRemove_ok N A_l A n_l c_l _ c l (sgL (N : Int) l m) W F.vl F.ga F.goes hl rfl (by omega) (by have := sgL_short (N : Int) l m; omega) r1 r2
      rw [F.rem, ← F.lm, hm] at this
      exact this
    · have F := sg_facts h
      have := gainsValid_any (N : Int) A _ c (sgL (N : Int) l m) W rfl (by have := sgL_short (N : Int) l m; omega) r1
      rw [F.ga] at this
      exact this
  have HL := Lib.hid hl
  have HM := Lib.hid hm
  clear hl hm
  have E := x1
  go_wp2_with fail
  refine (HC1.out _ s_l.rd s_m.rd).mono ?_
  rintro e w2 ⟨A_o, c_o, rfl, s_o, x2⟩
  replace s_l := s_l.ext x2
  replace s_m := s_m.ext x2
  replace E := E.trans x2
  cases ok
  case false =>
    go_wp2_with fail
    refine (HC2.out _ s_l.rd s_m.rd).mono ?_
    rintro e w3 ⟨A_w, c_w, rfl, s_w, x3⟩
    replace s_o := s_o.ext x3
    replace E := E.trans x3
    go_wp2_with fail
    refine (sameVis_any A_o A_w g.length g.length c_o c_w g g _ rfl rfl (by omega) s_o.rd s_w.rd).mono ?_
    rintro e w4 ⟨rfl, y4⟩
    replace s_o := s_o.ext y4.ext
    replace s_w := s_w.ext y4.ext
    replace E := E.trans y4.ext
    rw [show decide (g = g) = true from decide_eq_true rfl]
    go_wp2_with fail
    refine (sameVis_any A_o A_w g.length g.length c_o c_w g g _ rfl rfl (by omega) s_o.rd s_w.rd).mono ?_
    rintro e w5 ⟨rfl, y5⟩
    replace E := E.trans y5.ext
    rw [show decide (g = g) = true from decide_eq_true rfl]
    go_wp2
    go_ret
    exact ⟨rfl, E⟩
  have HC3' := Lib.hid (HC3.out rfl)
  have HC4' := Lib.hid (HC4.out rfl)
  have HC5' := Lib.hid (HC5.out rfl)
  clear HC3 HC4 HC5
  go_wp2_with fail
  refine (HC2.out _ s_l.rd s_m.rd).mono ?_
  rintro e w3 ⟨A_w, c_w, rfl, s_w, x3⟩
  replace s_l := s_l.ext x3
  replace s_m := s_m.ext x3
  replace s_o := s_o.ext x3
  replace E := E.trans x3
  clear HC1 HC2
  go_wp2_with fail
  refine (sameVis_any A_o A_w g.length g.length c_o c_w g g _ rfl rfl (by omega) s_o.rd s_w.rd).mono ?_
  rintro e w4 ⟨rfl, y4⟩
  have x4 := y4.ext
  replace s_l := s_l.ext x4
  replace s_m := s_m.ext x4
  replace s_o := s_o.ext x4
  replace E := E.trans x4
  rw [show decide (g = g) = true from decide_eq_true rfl]
  clear s_w x1 x2 x3 y4 x4
  go_wp2_with fail
  refine (HC3'.out _ A_o c_o s_m.rd s_o.rd).mono ?_
  rintro e w5 ⟨A_x, c_x, rfl, s_x, x5⟩
  replace s_l := s_l.ext x5
  replace s_m := s_m.ext x5
  replace s_o := s_o.ext x5
  replace E := E.trans x5
  go_wp2_with fail
  refine (HC4'.out _ A_o c_o s_l.rd s_o.rd).mono ?_
  rintro e w6 ⟨A_y, c_y, rfl, s_y, x6⟩
  replace s_l := s_l.ext x6
  replace s_m := s_m.ext x6
  replace s_o := s_o.ext x6
  replace s_x := s_x.ext x6
  replace E := E.trans x6
  go_wp2_with fail
  refine (sameVis_any A_x A_l n_l n_l c_x c_l l l _ HL.out HL.out (by omega) s_x.rd s_l.rd).mono ?_
  rintro e w7 ⟨rfl, y7⟩
  have x7 := y7.ext
  replace s_m := s_m.ext x7
  replace s_o := s_o.ext x7
  replace s_y := s_y.ext x7
  replace E := E.trans x7
  rw [show decide (l = l) = true from decide_eq_true rfl]
  go_wp2_with fail
  refine (sameVis_any A_y A_m n_m n_m c_y c_m m m _ HM.out HM.out (by omega) s_y.rd s_m.rd).mono ?_
  rintro e w8 ⟨rfl, y8⟩
  have x8 := y8.ext
  replace s_o := s_o.ext x8
  replace E := E.trans x8
  rw [show decide (m = m) = true from decide_eq_true rfl]
  go_wp2_with fail
  refine (HC5'.out _ A_o c_o s_o.rd).mono ?_
  rintro e w9 ⟨rfl, x9⟩
  replace E := E.trans x9
  go_wp2
  go_ret
  exact ⟨rfl, E⟩
end Go.Proofs.Ytpjglnmnfmibnaa.fnSolveGains
