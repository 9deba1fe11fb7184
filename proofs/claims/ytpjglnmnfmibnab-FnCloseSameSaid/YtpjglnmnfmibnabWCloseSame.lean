/-
  The walk of FnCloseSame: it returns true and writes nothing that was there.
-/
import Derived.Test.YtpjglnmnfmibnabCloseC
import Derived.Test.YtpjglnmnfmibnabCloseT
import Derived.Test.YtpjglnmnfmibnabDrawX
namespace Go.Proofs.Ytpjglnmnfmibnab.fnCloseSame
open Go.RowKit
set_option linter.unusedVariables false

set_option maxRecDepth 100000 in
set_option maxHeartbeats 4000000 in
theorem walk (A0 : Option Addr) (n0 c0 : Nat) (b0 : List Int) (w : World) (hn0 : b0.length = n0) (hm0 : n0 ≤ 9223372036854775807) (h0 : Rd w w.heap.size A0 n0 c0 (b0.map (.int .u8))) (hw0 : ∀ z ∈ b0, 0 ≤ z ∧ z ≤ 255) :
    Calls Try.prog 3 #[.slice A0 n0 c0] w fun e w' => e = .returned (.bool true) ∧ Ext w w' := by
  have HN0 := Lib.hid hn0
  have HW0 := Lib.hid hw0
  clear hn0 hw0
  by_cases hz0 : n0 ≤ 1048576
  case neg =>
    go_enter Try.func3, Try.ntmps3
    go_wp2
    go_ret
    exact ⟨rfl, Ext.refl _⟩
  go_enter Try.func3, Try.ntmps3
  go_wp2_with fail
  refine (drawCloseSame_any A0 n0 c0 b0 _ HN0.out hm0 h0 HW0.out).mono ?_
  rintro e w1 ⟨N, A_a, n_a, c_a, a, A_b, n_b, c_b, b, rfl, g1, g2, ha, g3, g4, hb, g5, g6, s_a, s_b, x1⟩
  obtain ⟨ok, HC1, HC2, HC3⟩ : ∃ (ok : Bool),
      Hid (∀ W, Rd W W.heap.size A_a n_a c_a (pairs a) → Rd W W.heap.size A_b n_b c_b (pairs b) → Calls Try.prog 9 #[.int .i64 (N : Int), .slice A_a n_a c_a, .slice A_b n_b c_b] W fun e w' => e = .returned (.bool ok) ∧ Ext W w') ∧
      Hid (∀ W, Rd W W.heap.size A_a n_a c_a (pairs a) → Rd W W.heap.size A_b n_b c_b (pairs b) → Calls Try.prog 10 #[.int .i64 (N : Int), .slice A_a n_a c_a, .slice A_b n_b c_b] W fun e w' => e = .returned (.bool ok) ∧ Ext W w') ∧
      Hid (ok = true → (∀ W, Rd W W.heap.size A_a n_a c_a (pairs a) → Rd W W.heap.size A_b n_b c_b (pairs b) → Calls Try.prog 9 #[.int .i64 (N : Int), .slice A_b n_b c_b, .slice A_a n_a c_a] W fun e w' => e = .returned (.bool true) ∧ Ext W w') ∧
        (∀ W, Rd W W.heap.size A_a n_a c_a (pairs a) → Calls Try.prog 9 #[.int .i64 (N : Int), .slice A_a n_a c_a, .slice A_a n_a c_a] W fun e w' => e = .returned (.bool true) ∧ Ext W w') ∧
        (∀ W, Rd W W.heap.size A_b n_b c_b (pairs b) → Calls Try.prog 9 #[.int .i64 (N : Int), .slice A_b n_b c_b, .slice A_b n_b c_b] W fun e w' => e = .returned (.bool true) ∧ Ext W w')) := by
    refine ⟨csB (N : Int) a b, fun W r1 r2 => closeSame_any (N : Int) A_a A_b n_a c_a n_b c_b a b W ha hb (by omega) (by omega) r1 r2, fun W r1 r2 => specCloseSame_any (N : Int) A_a A_b n_a c_a n_b c_b a b W ha hb (by omega) (by omega) r1 r2, fun h => ?_⟩
    obtain ⟨e1, e2, e3⟩ := csB_same h
    refine ⟨fun W r1 r2 => ?_, fun W r1 => ?_, fun W r2 => ?_⟩
    · have := closeSame_any (N : Int) A_b A_a n_b c_b n_a c_a b a W hb ha (by omega) (by omega) r2 r1
      rwa [e1] at this
    · have := closeSame_any (N : Int) A_a A_a n_a c_a n_a c_a a a W ha ha (by omega) (by omega) r1 r1
      rwa [e2] at this
    · have := closeSame_any (N : Int) A_b A_b n_b c_b n_b c_b b b W hb hb (by omega) (by omega) r2 r2
      rwa [e3] at this
  clear ha hb
  have E := x1
  go_wp2_with fail
  refine (HC1.out _ s_a.rd s_b.rd).mono ?_
  rintro e w2 ⟨rfl, x2⟩
  replace s_a := s_a.ext x2
  replace s_b := s_b.ext x2
  replace E := E.trans x2
  go_wp2_with fail
  refine (HC2.out _ s_a.rd s_b.rd).mono ?_
  rintro e w3 ⟨rfl, x3⟩
  replace s_a := s_a.ext x3
  replace s_b := s_b.ext x3
  replace E := E.trans x3
  clear HC1 HC2 x1 x2 x3
  cases ok
  · go_wp2
    go_ret
    exact ⟨rfl, E⟩
  obtain ⟨h1, h2, h3⟩ := HC3.out rfl
  have H1 := Lib.hid h1
  have H2 := Lib.hid h2
  have H3 := Lib.hid h3
  clear h1 h2 h3 HC3
  go_wp2_with fail
  refine (H1.out _ s_a.rd s_b.rd).mono ?_
  rintro e w4 ⟨rfl, x4⟩
  replace s_a := s_a.ext x4
  replace s_b := s_b.ext x4
  replace E := E.trans x4
  go_wp2_with fail
  refine (H2.out _ s_a.rd).mono ?_
  rintro e w5 ⟨rfl, x5⟩
  replace s_b := s_b.ext x5
  replace E := E.trans x5
  go_wp2_with fail
  refine (H3.out _ s_b.rd).mono ?_
  rintro e w6 ⟨rfl, x6⟩
  replace E := E.trans x6
  go_wp2
  go_ret
  exact ⟨rfl, E⟩
end Go.Proofs.Ytpjglnmnfmibnab.fnCloseSame
