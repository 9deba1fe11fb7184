/-
  Contracts of the small functions on Gaussian integers and on ranges: inRange, l6In, GaussValid, plus, times, GaussUnit.
-/
import Derived.Test.YtohbflekinafjaaNum
import Derived.Test.YtohbflekinafjaaSkyVal
import Derived.Laws.BitsAllLaws
import Derived.Laws.BitsLemmas
namespace Go.Proofs.Ytohbflekinafjaa
open Go.RowKit

theorem and_three (k : Int) : bits .and .i64 k 3 = k % 4 := by
  show IntKind.i64.wrap ((BitVec.ofInt 64 k &&& BitVec.ofInt 64 3).toNat : Int) = _
  have e3 : (BitVec.ofInt 64 3).toNat = 3 := by decide
  rw [BitVec.toNat_and, e3, BitVec.toNat_ofInt]
  have h2 : (k % ((2 ^ 64 : Nat) : Int)).toNat &&& 3 = (k % ((2 ^ 64 : Nat) : Int)).toNat % 4 := Nat.and_two_pow_sub_one_eq_mod _ 2
  rw [h2]
  have h3 : (((k % ((2 ^ 64 : Nat) : Int)).toNat % 4 : Nat) : Int) = k % 4 := by omega
  rw [h3, IntWalk.i64_in _ (by omega)]

theorem inRange_any (n l : Int) (w : World) (h1 : 0 ≤ l) (h2 : l ≤ 1000000000000) :
    Calls Try.prog 70 #[.int .i64 n, .int .i64 l] w fun e w' => e = .returned (.bool (decide (-l ≤ n ∧ n ≤ l))) ∧ w = w' := by
  by_cases a : -l ≤ n
  · by_cases b : n ≤ l
    · go_enter Try.func70, Try.ntmps70
      go_wp2
      go_ret
      exact ⟨ret_bool (by simp [a, b]), rfl⟩
    · have hd : decide (n ≤ l) = false := by simpa using b
      go_enter Try.func70, Try.ntmps70
      go_wp2
      go_ret
      exact ⟨ret_bool (by simp), rfl⟩
  · have hd : decide (-l ≤ n) = false := by simpa using a
    go_enter Try.func70, Try.ntmps70
    go_wp2
    go_ret
    exact ⟨ret_bool (by simp), rfl⟩
theorem l6In_any (n l h : Int) (w : World) :
    Calls Try.prog 66 #[.int .i64 n, .int .i64 l, .int .i64 h] w fun e w' => e = .returned (.bool (decide (l ≤ n ∧ n ≤ h))) ∧ w = w' := by
  by_cases a : l ≤ n
  · by_cases b : n ≤ h
    · go_enter Try.func66, Try.ntmps66
      go_wp2
      go_ret
      exact ⟨ret_bool (by simp [a, b]), rfl⟩
    · have hd : decide (n ≤ h) = false := by simpa using b
      go_enter Try.func66, Try.ntmps66
      go_wp2
      go_ret
      exact ⟨ret_bool (by simp), rfl⟩
  · have hd : decide (l ≤ n) = false := by simpa using a
    go_enter Try.func66, Try.ntmps66
    go_wp2
    go_ret
    exact ⟨ret_bool (by simp), rfl⟩
theorem gaussValid_any (a b : Int) (w : World) :
    Calls Try.prog 72 #[.agg #[.int .i64 a, .int .i64 b]] w fun e w' => e = .returned (.bool (gvB (a, b))) ∧ Ext w w' := by
  by_cases h1 : -1000000000 ≤ a ∧ a ≤ 1000000000
  · have hd : decide (-1000000000 ≤ a ∧ a ≤ 1000000000) = true := by simpa using h1
    have HD := Lib.hid hd
    clear hd
    go_enter Try.func72, Try.ntmps72
    go_wp2_with fail
    refine (inRange_any a 1000000000 _ (by omega) (by omega)).mono ?_
    rintro e w1 ⟨rfl, rfl⟩
    rw [HD.out]
    go_wp2_with fail
    refine (inRange_any b 1000000000 _ (by omega) (by omega)).mono ?_
    rintro e w1 ⟨rfl, rfl⟩
    go_wp2
    go_ret
    exact ⟨ret_bool (by unfold gvB inB; rw [HD.out]; simp), (Ext.refl w).alloc _⟩
  · have hd : decide (-1000000000 ≤ a ∧ a ≤ 1000000000) = false := by simpa using h1
    have HD := Lib.hid hd
    clear hd
    go_enter Try.func72, Try.ntmps72
    go_wp2_with fail
    refine (inRange_any a 1000000000 _ (by omega) (by omega)).mono ?_
    rintro e w1 ⟨rfl, rfl⟩
    rw [HD.out]
    go_wp2
    go_ret
    exact ⟨ret_bool (by unfold gvB inB; rw [HD.out]; simp), (Ext.refl w).alloc _⟩
theorem specGaussValid_any (a b : Int) (w : World) :
    Calls Try.prog 63 #[.agg #[.int .i64 a, .int .i64 b]] w fun e w' => e = .returned (.bool (gvB (a, b))) ∧ Ext w w' := by
  by_cases h1 : -1000000000 ≤ a ∧ a ≤ 1000000000
  · have hd : decide (-1000000000 ≤ a ∧ a ≤ 1000000000) = true := by simpa using h1
    have HD := Lib.hid hd
    clear hd
    go_enter Try.func63, Try.ntmps63
    go_wp2_with fail
    refine (l6In_any a (-1000000000) 1000000000 _).mono ?_
    rintro e w1 ⟨rfl, rfl⟩
    rw [HD.out]
    go_wp2_with fail
    refine (l6In_any b (-1000000000) 1000000000 _).mono ?_
    rintro e w1 ⟨rfl, rfl⟩
    go_wp2
    go_ret
    exact ⟨ret_bool (by unfold gvB inB; rw [HD.out]; simp), (Ext.refl w).alloc _⟩
  · have hd : decide (-1000000000 ≤ a ∧ a ≤ 1000000000) = false := by simpa using h1
    have HD := Lib.hid hd
    clear hd
    go_enter Try.func63, Try.ntmps63
    go_wp2_with fail
    refine (l6In_any a (-1000000000) 1000000000 _).mono ?_
    rintro e w1 ⟨rfl, rfl⟩
    rw [HD.out]
    go_wp2
    go_ret
    exact ⟨ret_bool (by unfold gvB inB; rw [HD.out]; simp), (Ext.refl w).alloc _⟩
theorem plus_any (a b c d : Int) (w : World) (h11 : -1000000000000 ≤ a) (h12 : a ≤ 1000000000000) (h21 : -1000000000000 ≤ b) (h22 : b ≤ 1000000000000) (h31 : -1000000000000 ≤ c) (h32 : c ≤ 1000000000000) (h41 : -1000000000000 ≤ d) (h42 : d ≤ 1000000000000) :
    Calls Try.prog 60 #[.agg #[.int .i64 a, .int .i64 b], .agg #[.int .i64 c, .int .i64 d]] w fun e w' => e = .returned (.agg #[.int .i64 (a + c), .int .i64 (b + d)]) ∧ ∃ c1 c2 c3 : Array Value, w' = ((w.alloc (.cells c1 47)).alloc (.cells c2 47)).alloc (.cells c3 47) := by
  go_enter Try.func60, Try.ntmps60
  go_wp2
  simp [bodyPost, results, Try.results60, go_sem]
  exact ⟨_, _, _, rfl⟩
theorem times_any (a b k : Int) (w : World) (h11 : -1000000000000 ≤ a) (h12 : a ≤ 1000000000000) (h21 : -1000000000000 ≤ b) (h22 : b ≤ 1000000000000) :
    Calls Try.prog 61 #[.agg #[.int .i64 a, .int .i64 b], .agg #[.int .i64 (ur k), .int .i64 (ui k)]] w fun e w' => e = .returned (.agg #[.int .i64 (tre a b k), .int .i64 (tim a b k)]) ∧ ∃ c1 c2 c3 : Array Value, w' = ((w.alloc (.cells c1 47)).alloc (.cells c2 47)).alloc (.cells c3 47) := by
  unfold tre tim
  rcases unit_cases k with ⟨h1, h2⟩ | ⟨h1, h2⟩ | ⟨h1, h2⟩ | ⟨h1, h2⟩ <;> rw [h1, h2] <;> clear h1 h2
  all_goals
    go_enter Try.func61, Try.ntmps61
    go_wp2
    simp [bodyPost, results, Try.results61, go_sem]
    exact ⟨_, _, _, rfl⟩
theorem gaussUnit_any (k : Int) (w : World) :
    Calls Try.prog 62 #[.int .i64 k] w fun e w' => e = .returned (.agg #[.int .i64 (ur k), .int .i64 (ui k)]) ∧ ∃ c1 : Array Value, w' = w.alloc (.cells c1 47) := by
  have hand := and_three k
  have i0 : ∀ w, (Instr.index 84 (.agg #[.int .i64 1, .int .i64 0, .int .i64 0, .int .i64 1, .int .i64 (-1), .int .i64 0, .int .i64 0, .int .i64 (-1)]) (.int .i64 0)).run Try.prog w = .ok (.agg #[.int .i64 1, .int .i64 0]) w := fun _ => by kernel_rfl
  have i1 : ∀ w, (Instr.index 84 (.agg #[.int .i64 1, .int .i64 0, .int .i64 0, .int .i64 1, .int .i64 (-1), .int .i64 0, .int .i64 0, .int .i64 (-1)]) (.int .i64 1)).run Try.prog w = .ok (.agg #[.int .i64 0, .int .i64 1]) w := fun _ => by kernel_rfl
  have i2 : ∀ w, (Instr.index 84 (.agg #[.int .i64 1, .int .i64 0, .int .i64 0, .int .i64 1, .int .i64 (-1), .int .i64 0, .int .i64 0, .int .i64 (-1)]) (.int .i64 2)).run Try.prog w = .ok (.agg #[.int .i64 (-1), .int .i64 0]) w := fun _ => by kernel_rfl
  have i3 : ∀ w, (Instr.index 84 (.agg #[.int .i64 1, .int .i64 0, .int .i64 0, .int .i64 1, .int .i64 (-1), .int .i64 0, .int .i64 0, .int .i64 (-1)]) (.int .i64 3)).run Try.prog w = .ok (.agg #[.int .i64 0, .int .i64 (-1)]) w := fun _ => by kernel_rfl
  unfold ur ui
  have h : k % 4 = 0 ∨ k % 4 = 1 ∨ k % 4 = 2 ∨ k % 4 = 3 := by omega
  rcases h with h | h | h | h <;> rw [h] at hand <;> rw [h] <;> clear h
  all_goals
    go_enter Try.func62, Try.ntmps62
    go_wp2
    simp [bodyPost, results, Try.results62, go_sem]
    exact ⟨_, rfl⟩
end Go.Proofs.Ytohbflekinafjaa
