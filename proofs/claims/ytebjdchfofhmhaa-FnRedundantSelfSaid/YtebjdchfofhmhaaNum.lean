/-
  Contracts of the functions over plain numbers: circle, cellAt, opposite, l1Mod, l21At, l21Cells, rest, cellAt of the laws.
-/
import Derived.Test.YtebjdchfofhmhaaProg
import Derived.Test.YtebjdchfofhmhaaCovPlain
namespace Go.Proofs.Ytebjdchfofhmhaa
open Go.RowKit

theorem mod_circle (n m : Int) (h1 : 1 ≤ m) (h2 : m ≤ 1000000) : (wrap64 (n.tmod m + m)).tmod m = n % m := by
  have hb := Int.emod_nonneg n (b := m) (by omega)
  have hc := Int.emod_lt_of_pos n (b := m) (by omega)
  have hb' := Int.emod_nonneg (-n) (b := m) (by omega)
  have hc' := Int.emod_lt_of_pos (-n) (b := m) (by omega)
  rcases Int.le_total 0 n with h | h
  · rw [tmod_nn h, IntWalk.wrap64_in _ ⟨by omega, by omega⟩, tmod_nn (by omega)]
    rw [Int.add_emod_right, Int.emod_emod_of_dvd _ (Int.dvd_refl m)]
  · rw [tmod_np h, IntWalk.wrap64_in _ ⟨by omega, by omega⟩, tmod_nn (by omega)]
    rw [Int.add_emod_right, ← Int.emod_emod_of_dvd (-((-n) % m)) (Int.dvd_refl m)]
    have : (-((-n) % m)) % m = n % m := by
      have e : -((-n) % m) = n + m * ((-n) / m) := by rw [Int.emod_def]; omega
      rw [e, Int.add_mul_emod_self_left]
    rw [this, Int.emod_emod_of_dvd _ (Int.dvd_refl m)]

theorem l1Mod_any (n m : Int) (w : World) (h1 : 1 ≤ m) (h2 : m ≤ 1000000) :
    Calls Try.prog 65 #[.int .i64 n, .int .i64 m] w fun e w' => e = .returned (.int .i64 (n % m)) ∧ w = w' := by
  have hm : (m == 0) = false := by simp; omega
  have hb := Int.emod_nonneg n (b := m) (by omega)
  have hc := Int.emod_lt_of_pos n (b := m) (by omega)
  have hb' := Int.emod_nonneg (-n) (b := m) (by omega)
  have hc' := Int.emod_lt_of_pos (-n) (b := m) (by omega)
  rcases Int.le_total 0 n with h | h
  · have ht := tmod_nn (m := m) h
    have h0 : 0 ≤ n.tmod m := by omega
    have HT := Lib.hid ht
    clear ht
    go_enter Try.func65, Try.ntmps65
    go_wp2
    go_ret
    exact ⟨ret_int (by have := HT.out; omega), rfl⟩
  · have ht := tmod_np (m := m) h
    have HT := Lib.hid ht
    clear ht
    by_cases h0 : n.tmod m < 0
    · have h0' : -m < n.tmod m := by have := HT.out; omega
      go_enter Try.func65, Try.ntmps65
      go_wp2
      go_ret
      refine ⟨ret_int ?_, rfl⟩
      have e := HT.out
      rw [Int.neg_emod_eq_sub_emod] at e
      have h3 := Int.emod_add_mul_ediv n m
      have h4 := Int.emod_add_mul_ediv (-n) m
      have h5 : (-n) % m = m - n % m ∨ ((-n) % m = 0 ∧ n % m = 0) := by
        by_cases hz : n % m = 0
        · right
          exact ⟨Int.emod_eq_zero_of_dvd (Int.dvd_neg.2 (Int.dvd_of_emod_eq_zero hz)), hz⟩
        · left
          rw [Int.neg_emod]
          simp [Int.dvd_iff_emod_eq_zero, hz]
          omega
      have := HT.out
      omega
    · go_enter Try.func65, Try.ntmps65
      go_wp2
      go_ret
      refine ⟨ret_int ?_, rfl⟩
      have e := HT.out
      have hz : (-n) % m = 0 := by omega
      have : n % m = 0 := Int.emod_eq_zero_of_dvd (Int.dvd_neg.1 (Int.dvd_of_emod_eq_zero hz))
      omega
/-- the index of the opposite cell, as the walk writes it inside a region that draws its order -/
theorem opp_wrapped (k : Nat) (hk : k < 16) : 4 * (IntKind.i64.wrap (-IntKind.i64.wrap ((k : Int) / 4)) % 4) + IntKind.i64.wrap (-(k : Int).tmod 4) % 4 = (opp k : Int) := by
  rw [tmod_nn (by omega), IntWalk.i64_in ((k : Int) / 4) (by omega), IntWalk.i64_in (-((k : Int) / 4)) (by omega), IntWalk.i64_in (-((k : Int) % 4)) (by omega)]
  unfold opp
  omega
theorem quarter_wrapped (k : Nat) (hk : k < 16) : 4 * ((k : Int).tmod 4 % 4) + IntKind.i64.wrap (-IntKind.i64.wrap ((k : Int) / 4)) % 4 = (quarter k : Int) := by
  rw [tmod_nn (by omega), IntWalk.i64_in ((k : Int) / 4) (by omega), IntWalk.i64_in (-((k : Int) / 4)) (by omega)]
  unfold quarter
  omega
end Go.Proofs.Ytebjdchfofhmhaa
