/-
  Contract of SkyShift of the program, at a valid sky and a shift inside the grid.
-/
import Derived.Test.YtohbflekinafjabSkyFns
namespace Go.Proofs.Ytohbflekinafjab
open Go.RowKit

theorem isSide_yes (a : Nat) (w : World) (ha : a < 4) : Calls Try.prog 38 #[.int .i64 a] w fun e w' => e = .returned (.bool true) ∧ w = w' := by
  have h1 : (0 : Int) ≤ (a : Int) := by omega
  have h2 : (a : Int) < 4 := by omega
  go_enter Try.func38, Try.ntmps38
  go_wp2
  go_ret
  exact ⟨rfl, rfl⟩
set_option maxHeartbeats 1000000 in
theorem skyShift_yes (A : Option Addr) (c : Nat) (xs : List Int) (a b p : Nat) (w : World) (hv : svB xs = true) (ha : a < 4) (hb : b < 4) (hp : p = 4 * b + a) (h : Rd w w.heap.size A 16 c (ints xs)) :
    Calls Try.prog 14 #[.slice A 16 c, .int .i64 a, .int .i64 b] w (RetSB w 3 16 (ints (shL xs p)) true) := by
  have hn := svB_16 hv
  have HC := Lib.hid (skyValid_any A 16 c xs w hn h)
  rw [hv] at HC
  have HA := Lib.hid (isSide_yes a w ha)
  have HB := Lib.hid (isSide_yes b w hb)
  have HS := Lib.hid (shifted_any A c xs a b p w hn ha hb hp h)
  clear hn hv hp h
  go_enter Try.func14, Try.ntmps14
  go_wp2_with fail
  refine HC.out.mono ?_
  rintro e w' ⟨rfl, rfl⟩
  go_wp2_with fail
  refine HA.out.mono ?_
  rintro e w' ⟨rfl, rfl⟩
  go_wp2_with fail
  refine HB.out.mono ?_
  rintro e w' ⟨rfl, rfl⟩
  go_wp2_with fail
  refine HS.out.mono ?_
  rintro e w1 ⟨A1, c1, rfl, s1, x1⟩
  go_wp2
  go_ret2
  exact ⟨A1, c1, rfl, s1, x1⟩
end Go.Proofs.Ytohbflekinafjab
