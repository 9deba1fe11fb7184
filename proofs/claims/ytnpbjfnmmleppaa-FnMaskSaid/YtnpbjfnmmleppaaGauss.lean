/-
  Contracts of the small functions on Gaussian integers and on ranges: inRange, l6In, GaussValid, plus, times, GaussUnit.
-/
import Derived.Test.YtnpbjfnmmleppaaNum
import Derived.Test.YtnpbjfnmmleppaaSkyVal
import Derived.Laws.BitsAllLaws
import Derived.Laws.BitsLemmas
namespace Go.Proofs.Ytnpbjfnmmleppaa
open Go.RowKit

theorem and_three (k : Int) : bits .and .i64 k 3 = k % 4 := by
  show IntKind.i64.wrap ((BitVec.ofInt 64 k &&& BitVec.ofInt 64 3).toNat : Int) = _
  have e3 : (BitVec.ofInt 64 3).toNat = 3 := by decide
  rw [BitVec.toNat_and, e3, BitVec.toNat_ofInt]
  have h2 : (k % ((2 ^ 64 : Nat) : Int)).toNat &&& 3 = (k % ((2 ^ 64 : Nat) : Int)).toNat % 4 := Nat.and_two_pow_sub_one_eq_mod _ 2
  rw [h2]
  have h3 : (((k % ((2 ^ 64 : Nat) : Int)).toNat % 4 : Nat) : Int) = k % 4 := by omega
  rw [h3, IntWalk.i64_in _ (by omega)]

theorem inRange_any (n l : Int) (w : World) (h1 : 0 ≤ l) (h2 : l ≤ 1000000000000) :
    Calls Try.prog 37 #[.int .i64 n, .int .i64 l] w fun e w' => e = .returned (.bool (decide (-l ≤ n ∧ n ≤ l))) ∧ w = w' := by
  by_cases a : -l ≤ n
  · by_cases b : n ≤ l
    · go_enter Try.func37, Try.ntmps37
      go_wp2
      go_ret
      exact ⟨ret_bool (by simp [a, b]), rfl⟩
    · have hd : decide (n ≤ l) = false := by simpa using b
      go_enter Try.func37, Try.ntmps37
      go_wp2
      go_ret
      exact ⟨ret_bool (by simp), rfl⟩
  · have hd : decide (-l ≤ n) = false := by simpa using a
    go_enter Try.func37, Try.ntmps37
    go_wp2
    go_ret
    exact ⟨ret_bool (by simp), rfl⟩
theorem l6In_any (n l h : Int) (w : World) :
    Calls Try.prog 34 #[.int .i64 n, .int .i64 l, .int .i64 h] w fun e w' => e = .returned (.bool (decide (l ≤ n ∧ n ≤ h))) ∧ w = w' := by
  by_cases a : l ≤ n
  · by_cases b : n ≤ h
    · go_enter Try.func34, Try.ntmps34
      go_wp2
      go_ret
      exact ⟨ret_bool (by simp [a, b]), rfl⟩
    · have hd : decide (n ≤ h) = false := by simpa using b
      go_enter Try.func34, Try.ntmps34
      go_wp2
      go_ret
      exact ⟨ret_bool (by simp), rfl⟩
  · have hd : decide (l ≤ n) = false := by simpa using a
    go_enter Try.func34, Try.ntmps34
    go_wp2
    go_ret
    exact ⟨ret_bool (by simp), rfl⟩
theorem gaussValid_any (a b : Int) (w : World) :
    Calls Try.prog 32 #[.agg #[.int .i64 a, .int .i64 b]] w fun e w' => e = .returned (.bool (gvB (a, b))) ∧ Ext w w' := by
  by_cases h1 : -1000000000 ≤ a ∧ a ≤ 1000000000
  · have hd : decide (-1000000000 ≤ a ∧ a ≤ 1000000000) = true := by simpa using h1
    have HD := Lib.hid hd
    clear hd
    go_enter Try.func32, Try.ntmps32
    go_wp2_with fail
    refine (inRange_any a 1000000000 _ (by omega) (by omega)).mono ?_
    rintro e w1 ⟨rfl, rfl⟩
    rw [HD.out]
    go_wp2_with fail
    refine (inRange_any b 1000000000 _ (by omega) (by omega)).mono ?_
    rintro e w1 ⟨rfl, rfl⟩
    go_wp2
    go_ret
    exact ⟨ret_bool (by unfold gvB inB; rw [HD.out]; simp), (Ext.refl w).alloc _⟩
  · have hd : decide (-1000000000 ≤ a ∧ a ≤ 1000000000) = false := by simpa using h1
    have HD := Lib.hid hd
    clear hd
    go_enter Try.func32, Try.ntmps32
    go_wp2_with fail
    refine (inRange_any a 1000000000 _ (by omega) (by omega)).mono ?_
    rintro e w1 ⟨rfl, rfl⟩
    rw [HD.out]
    go_wp2
    go_ret
    exact ⟨ret_bool (by unfold gvB inB; rw [HD.out]; simp), (Ext.refl w).alloc _⟩
theorem specGaussValid_any (a b : Int) (w : World) :
    Calls Try.prog 27 #[.agg #[.int .i64 a, .int .i64 b]] w fun e w' => e = .returned (.bool (gvB (a, b))) ∧ Ext w w' := by
  by_cases h1 : -1000000000 ≤ a ∧ a ≤ 1000000000
  · have hd : decide (-1000000000 ≤ a ∧ a ≤ 1000000000) = true := by simpa using h1
    have HD := Lib.hid hd
    clear hd
    go_enter Try.func27, Try.ntmps27
    go_wp2_with fail
    refine (l6In_any a (-1000000000) 1000000000 _).mono ?_
    rintro e w1 ⟨rfl, rfl⟩
    rw [HD.out]
    go_wp2_with fail
    refine (l6In_any b (-1000000000) 1000000000 _).mono ?_
    rintro e w1 ⟨rfl, rfl⟩
    go_wp2
    go_ret
    exact ⟨ret_bool (by unfold gvB inB; rw [HD.out]; simp), (Ext.refl w).alloc _⟩
  · have hd : decide (-1000000000 ≤ a ∧ a ≤ 1000000000) = false := by simpa using h1
    have HD := Lib.hid hd
    clear hd
    go_enter Try.func27, Try.ntmps27
    go_wp2_with fail
    refine (l6In_any a (-1000000000) 1000000000 _).mono ?_
    rintro e w1 ⟨rfl, rfl⟩
    rw [HD.out]
    go_wp2
    go_ret
    exact ⟨ret_bool (by unfold gvB inB; rw [HD.out]; simp), (Ext.refl w).alloc _⟩
end Go.Proofs.Ytnpbjfnmmleppaa
