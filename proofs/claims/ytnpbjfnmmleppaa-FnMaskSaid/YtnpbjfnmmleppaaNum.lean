/-
  Contracts of the functions over plain numbers: circle, cellAt, opposite, l1Mod, l21At, l21Cells, rest, cellAt of the laws.
-/
import Derived.Test.YtnpbjfnmmleppaaProg
import Derived.Test.YtnpbjfnmmleppaaCovPlain
namespace Go.Proofs.Ytnpbjfnmmleppaa
open Go.RowKit

theorem mod_circle (n m : Int) (h1 : 1 ≤ m) (h2 : m ≤ 1000000) : (wrap64 (n.tmod m + m)).tmod m = n % m := by
  have hb := Int.emod_nonneg n (b := m) (by omega)
  have hc := Int.emod_lt_of_pos n (b := m) (by omega)
  have hb' := Int.emod_nonneg (-n) (b := m) (by omega)
  have hc' := Int.emod_lt_of_pos (-n) (b := m) (by omega)
  rcases Int.le_total 0 n with h | h
  · rw [tmod_nn h, IntWalk.wrap64_in _ ⟨by omega, by omega⟩, tmod_nn (by omega)]
    rw [Int.add_emod_right, Int.emod_emod_of_dvd _ (Int.dvd_refl m)]
  · rw [tmod_np h, IntWalk.wrap64_in _ ⟨by omega, by omega⟩, tmod_nn (by omega)]
    rw [Int.add_emod_right, ← Int.emod_emod_of_dvd (-((-n) % m)) (Int.dvd_refl m)]
    have : (-((-n) % m)) % m = n % m := by
      have e : -((-n) % m) = n + m * ((-n) / m) := by rw [Int.emod_def]; omega
      rw [e, Int.add_mul_emod_self_left]
    rw [this, Int.emod_emod_of_dvd _ (Int.dvd_refl m)]

theorem circle_any (n m : Int) (w : World) (h1 : 1 ≤ m) (h2 : m ≤ 1000000) :
    Calls Try.prog 38 #[.int .i64 n, .int .i64 m] w fun e w' => e = .returned (.int .i64 (n % m)) ∧ w = w' := by
  have hm : (m == 0) = false := by simp; omega
  go_enter Try.func38, Try.ntmps38
  go_wp2
  go_ret
  exact ⟨ret_int (mod_circle n m h1 h2), rfl⟩
theorem cellAt_any (x y : Int) (w : World) :
    Calls Try.prog 33 #[.int .i64 x, .int .i64 y] w fun e w' => e = .returned (.int .i64 (4 * (y % 4) + x % 4)) ∧ w = w' := by
  have h11 : 0 ≤ x % 4 := by omega
  have h12 : x % 4 ≤ 3 := by omega
  have h21 : 0 ≤ y % 4 := by omega
  have h22 : y % 4 ≤ 3 := by omega
  go_enter Try.func33, Try.ntmps33
  go_wp2_with (go_at_call 38; refine (circle_any _ _ _ (by omega) (by omega)).mono ?_; rintro e w' ⟨rfl, rfl⟩)
  go_ret
  exact ⟨rfl, rfl⟩
theorem cellAt_eq (x y r : Int) (w : World) (h : 4 * (y % 4) + x % 4 = r) :
    Calls Try.prog 33 #[.int .i64 x, .int .i64 y] w fun e w' => e = .returned (.int .i64 r) ∧ w = w' := h ▸ cellAt_any x y w
theorem opposite_any (k : Nat) (hk : k < 16) (w : World) :
    Calls Try.prog 26 #[.int .i64 (k : Int)] w fun e w' => e = .returned (.int .i64 (opp k : Int)) ∧ w = w' := by
  go_enter Try.func26, Try.ntmps26
  go_wp2_with (go_at_call 33; refine (cellAt_any _ _ _).mono ?_; rintro e w' ⟨rfl, rfl⟩)
  go_ret
  exact ⟨ret_int (by unfold opp; omega), rfl⟩
theorem l1Mod_any (n m : Int) (w : World) (h1 : 1 ≤ m) (h2 : m ≤ 1000000) :
    Calls Try.prog 31 #[.int .i64 n, .int .i64 m] w fun e w' => e = .returned (.int .i64 (n % m)) ∧ w = w' := by
  have hm : (m == 0) = false := by simp; omega
  have hb := Int.emod_nonneg n (b := m) (by omega)
  have hc := Int.emod_lt_of_pos n (b := m) (by omega)
  have hb' := Int.emod_nonneg (-n) (b := m) (by omega)
  have hc' := Int.emod_lt_of_pos (-n) (b := m) (by omega)
  rcases Int.le_total 0 n with h | h
  · have ht := tmod_nn (m := m) h
    have h0 : 0 ≤ n.tmod m := by omega
    have HT := Lib.hid ht
    clear ht
    go_enter Try.func31, Try.ntmps31
    go_wp2
    go_ret
    exact ⟨ret_int (by have := HT.out; omega), rfl⟩
  · have ht := tmod_np (m := m) h
    have HT := Lib.hid ht
    clear ht
    by_cases h0 : n.tmod m < 0
    · have h0' : -m < n.tmod m := by have := HT.out; omega
      go_enter Try.func31, Try.ntmps31
      go_wp2
      go_ret
      refine ⟨ret_int ?_, rfl⟩
      have e := HT.out
      rw [Int.neg_emod_eq_sub_emod] at e
      have h3 := Int.emod_add_mul_ediv n m
      have h4 := Int.emod_add_mul_ediv (-n) m
      have h5 : (-n) % m = m - n % m ∨ ((-n) % m = 0 ∧ n % m = 0) := by
        by_cases hz : n % m = 0
        · right
          exact ⟨Int.emod_eq_zero_of_dvd (Int.dvd_neg.2 (Int.dvd_of_emod_eq_zero hz)), hz⟩
        · left
          rw [Int.neg_emod]
          simp [Int.dvd_iff_emod_eq_zero, hz]
          omega
      have := HT.out
      omega
    · go_enter Try.func31, Try.ntmps31
      go_wp2
      go_ret
      refine ⟨ret_int ?_, rfl⟩
      have e := HT.out
      have hz : (-n) % m = 0 := by omega
      have : n % m = 0 := Int.emod_eq_zero_of_dvd (Int.dvd_neg.1 (Int.dvd_of_emod_eq_zero hz))
      omega
theorem l21At_any (x y : Int) (w : World) :
    Calls Try.prog 24 #[.int .i64 x, .int .i64 y] w fun e w' => e = .returned (.int .i64 (4 * (y % 4) + x % 4)) ∧ w = w' := by
  have h11 : 0 ≤ x % 4 := by omega
  have h12 : x % 4 ≤ 3 := by omega
  have h21 : 0 ≤ y % 4 := by omega
  have h22 : y % 4 ≤ 3 := by omega
  go_enter Try.func24, Try.ntmps24
  go_wp2_with (go_at_call 31; refine (l1Mod_any _ _ _ (by omega) (by omega)).mono ?_; rintro e w' ⟨rfl, rfl⟩)
  go_ret
  exact ⟨rfl, rfl⟩
theorem l21At_eq (x y r : Int) (w : World) (h : 4 * (y % 4) + x % 4 = r) :
    Calls Try.prog 24 #[.int .i64 x, .int .i64 y] w fun e w' => e = .returned (.int .i64 r) ∧ w = w' := h ▸ l21At_any x y w
/-- the index of the opposite cell, as the walk writes it inside a region that draws its order -/
theorem opp_wrapped (k : Nat) (hk : k < 16) : 4 * (IntKind.i64.wrap (-IntKind.i64.wrap ((k : Int) / 4)) % 4) + IntKind.i64.wrap (-(k : Int).tmod 4) % 4 = (opp k : Int) := by
  rw [tmod_nn (by omega), IntWalk.i64_in ((k : Int) / 4) (by omega), IntWalk.i64_in (-((k : Int) / 4)) (by omega), IntWalk.i64_in (-((k : Int) % 4)) (by omega)]
  unfold opp
  omega
theorem quarter_wrapped (k : Nat) (hk : k < 16) : 4 * ((k : Int).tmod 4 % 4) + IntKind.i64.wrap (-IntKind.i64.wrap ((k : Int) / 4)) % 4 = (quarter k : Int) := by
  rw [tmod_nn (by omega), IntWalk.i64_in ((k : Int) / 4) (by omega), IntWalk.i64_in (-((k : Int) / 4)) (by omega)]
  unfold quarter
  omega
theorem l21Cells_any (w : World) :
    Calls Try.prog 23 #[] w fun e w' => e = .returned (.int .i64 16) ∧ w = w' := by
  go_enter Try.func23, Try.ntmps23
  go_wp2
  go_ret
  exact ⟨rfl, rfl⟩
end Go.Proofs.Ytnpbjfnmmleppaa
