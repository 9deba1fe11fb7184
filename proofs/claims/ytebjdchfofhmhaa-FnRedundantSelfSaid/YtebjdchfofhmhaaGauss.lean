/-
  Contracts of the small functions on Gaussian integers and on ranges: inRange, l6In, GaussValid, plus, times, GaussUnit.
-/
import Derived.Test.YtebjdchfofhmhaaNum
import Derived.Test.YtebjdchfofhmhaaSkyVal
import Derived.Laws.BitsAllLaws
import Derived.Laws.BitsLemmas
namespace Go.Proofs.Ytebjdchfofhmhaa
open Go.RowKit

theorem and_three (k : Int) : bits .and .i64 k 3 = k % 4 := by
  show IntKind.i64.wrap ((BitVec.ofInt 64 k &&& BitVec.ofInt 64 3).toNat : Int) = _
  have e3 : (BitVec.ofInt 64 3).toNat = 3 := by decide
  rw [BitVec.toNat_and, e3, BitVec.toNat_ofInt]
  have h2 : (k % ((2 ^ 64 : Nat) : Int)).toNat &&& 3 = (k % ((2 ^ 64 : Nat) : Int)).toNat % 4 := Nat.and_two_pow_sub_one_eq_mod _ 2
  rw [h2]
  have h3 : (((k % ((2 ^ 64 : Nat) : Int)).toNat % 4 : Nat) : Int) = k % 4 := by omega
  rw [h3, IntWalk.i64_in _ (by omega)]

theorem inRange_any (n l : Int) (w : World) (h1 : 0 ≤ l) (h2 : l ≤ 1000000000000) :
    Calls Try.prog 72 #[.int .i64 n, .int .i64 l] w fun e w' => e = .returned (.bool (decide (-l ≤ n ∧ n ≤ l))) ∧ w = w' := by
  by_cases a : -l ≤ n
  · by_cases b : n ≤ l
    · go_enter Try.func72, Try.ntmps72
      go_wp2
      go_ret
      exact ⟨ret_bool (by simp [a, b]), rfl⟩
    · have hd : decide (n ≤ l) = false := by simpa using b
      go_enter Try.func72, Try.ntmps72
      go_wp2
      go_ret
      exact ⟨ret_bool (by simp), rfl⟩
  · have hd : decide (-l ≤ n) = false := by simpa using a
    go_enter Try.func72, Try.ntmps72
    go_wp2
    go_ret
    exact ⟨ret_bool (by simp), rfl⟩
theorem l6In_any (n l h : Int) (w : World) :
    Calls Try.prog 60 #[.int .i64 n, .int .i64 l, .int .i64 h] w fun e w' => e = .returned (.bool (decide (l ≤ n ∧ n ≤ h))) ∧ w = w' := by
  by_cases a : l ≤ n
  · by_cases b : n ≤ h
    · go_enter Try.func60, Try.ntmps60
      go_wp2
      go_ret
      exact ⟨ret_bool (by simp [a, b]), rfl⟩
    · have hd : decide (n ≤ h) = false := by simpa using b
      go_enter Try.func60, Try.ntmps60
      go_wp2
      go_ret
      exact ⟨ret_bool (by simp), rfl⟩
  · have hd : decide (l ≤ n) = false := by simpa using a
    go_enter Try.func60, Try.ntmps60
    go_wp2
    go_ret
    exact ⟨ret_bool (by simp), rfl⟩
end Go.Proofs.Ytebjdchfofhmhaa
