/-
  Contracts over skies: addTimes, shifted, fold of the program; l21Fold, SkyShift, SkyAdd, l24Peak of the reference; Max, Index, Equal, Clone of the library at []int.
-/
import Derived.Test.YtnpbjfnmmleppaaSky
import Derived.Test.YtnpbjfnmmleppaaSkyPlain
import Derived.Test.YtnpbjfnmmleppaaCovPlain
import Derived.Deep.RegionHeld3
namespace Go.Proofs.Ytnpbjfnmmleppaa
open Go.RowKit

theorem ints_a0 {s : List Int} {k : Nat} (h : k < s.length) : (ints s)[k]? = some (.int .i64 (at0 s k)) := ints_at' (some_at0 h)
/-- a bound on all numbers -/
def IB (M : Int) (s : List Int) : Prop := ∀ k, -M ≤ at0 s k ∧ at0 s k ≤ M
theorem svB_IB {s : List Int} (h : svB s = true) : IB 100000 s := by
  intro k
  by_cases hk : k < s.length
  · exact svB_at h (some_at0 hk)
  · have : at0 s k = 0 := by simp [at0, List.getD, List.getElem?_eq_none (Nat.le_of_not_lt hk)]
    omega
theorem mul_le_of {a b M K : Int} (h1 : -M ≤ a) (h2 : a ≤ M) (h3 : -K ≤ b) (h4 : b ≤ K) : -(M * K) ≤ a * b ∧ a * b ≤ M * K := by
  have hM : 0 ≤ M := by omega
  have hK : 0 ≤ K := by omega
  rcases Int.le_total 0 a with ha | ha <;> rcases Int.le_total 0 b with hb | hb
  · have h5 := Int.mul_le_mul h2 h4 hb hM
    have h6 := Int.mul_nonneg ha hb
    omega
  · have h5 := Int.mul_le_mul h2 (show -b ≤ K by omega) (by omega) hM
    have h6 := Int.mul_nonneg ha (show 0 ≤ -b by omega)
    rw [Int.mul_neg] at h5 h6
    omega
  · have h5 := Int.mul_le_mul (show -a ≤ M by omega) h4 hb hM
    have h6 := Int.mul_nonneg (show 0 ≤ -a by omega) hb
    rw [Int.neg_mul] at h5 h6
    omega
  · have h5 := Int.mul_le_mul (show -a ≤ M by omega) (show -b ≤ K by omega) (by omega) hM
    have h6 := Int.mul_nonneg (show 0 ≤ -a by omega) (show 0 ≤ -b by omega)
    rw [Int.neg_mul_neg] at h5 h6
    omega

/-! ### the library -/

/-! ### the program -/
theorem foldTo_IB {a b : List Int} (ha : IB 100000 a) (hb : IB 100000 b) {n : Nat} (hn : n ≤ 16) : IB 160000000000 (foldTo a b n) := by
  intro k
  by_cases hk : k < 16
  · unfold foldTo
    rw [at0_mk16 hk]
    have h1 : ∀ j, j < n → -10000000000 ≤ at0 a j * at0 b (csub k j) ∧ at0 a j * at0 b (csub k j) ≤ 10000000000 := by
      intro j _
      have := mul_le_of (ha j).1 (ha j).2 (hb (csub k j)).1 (hb (csub k j)).2
      omega
    have := sumTo_le h1
    omega
  · have : at0 (foldTo a b n) k = 0 := by simp [at0, List.getD, List.getElem?_eq_none (show (foldTo a b n).length ≤ k by rw [foldTo_length]; omega)]
    omega
theorem shL_IB {a : List Int} {M : Int} (hM : 0 ≤ M) (ha : IB M a) (p : Nat) : IB M (shL a p) := by
  intro k
  by_cases hk : k < 16
  · unfold shL
    rw [at0_mk16 hk]
    exact ha _
  · have : at0 (shL a p) k = 0 := by simp [at0, List.getD, List.getElem?_eq_none (show (shL a p).length ≤ k by rw [shL_length]; omega)]
    omega
end Go.Proofs.Ytnpbjfnmmleppaa
