/-
  Contracts of the functions over plain numbers of phases and baselines, of the program and of the reference.
-/
import Derived.Test.YtebjdchfofhmhaaSolPlainB
import Derived.Test.YtebjdchfofhmhaaNum
namespace Go.Proofs.Ytebjdchfofhmhaa
open Go.RowKit

def phB (a : Int) : Bool := decide (0 ≤ a) && decide (a < 360)
theorem row_int {N i : Nat} (hN : N < 8) (hi : i < N) : ∃ X : Nat, (i : Int) * (2 * (N : Int) - (i : Int) - 1) = (X : Int) ∧ X ≤ 42 ∧ X / 2 = row N i := by
  refine ⟨i * (2 * N - i - 1), ?_, ?_, rfl⟩
  · rw [Int.natCast_mul]
    congr 1
    omega
  · have h : ∀ N, N < 8 → ∀ i, i < N → i * (2 * N - i - 1) ≤ 42 := by decide
    exact h N hN i hi
theorem low_int {N i : Nat} (hN : N < 8) (hi : i < N) : ∃ X Y : Nat, (i : Int) * (N : Int) = (X : Int) ∧ X ≤ 49 ∧ (i : Int) * ((i : Int) + 1) = (Y : Int) ∧ Y ≤ 56 ∧ (X : Int) - ((Y / 2 : Nat) : Int) = (row N i : Nat) := by
  refine ⟨i * N, i * (i + 1), by rw [Int.natCast_mul], ?_, by rw [Int.natCast_mul]; rfl, ?_, ?_⟩
  · have h : ∀ N, N < 8 → ∀ i, i < N → i * N ≤ 49 := by decide
    exact h N hN i hi
  · have h : ∀ i, i < 8 → i * (i + 1) ≤ 56 := by decide
    exact h i (by omega)
  · have h : ∀ N, N < 8 → ∀ i, i < N → i * N - i * (i + 1) / 2 = row N i ∧ i * (i + 1) / 2 ≤ i * N := by decide
    have := h N hN i hi
    omega
theorem isPhase_any (a : Int) (w : World) : Calls Try.prog 71 #[.int .i64 a] w fun e w' => e = .returned (.bool (phB a)) ∧ w = w' := by
  by_cases h : 0 ≤ a
  · by_cases h2 : a < 360
    · go_enter Try.func71, Try.ntmps71
      go_wp2
      go_ret
      exact ⟨ret_bool (by simp [phB, h, h2]), rfl⟩
    · go_enter Try.func71, Try.ntmps71
      go_wp2
      go_ret
      exact ⟨ret_bool (by simp [phB, h2]), rfl⟩
  · go_enter Try.func71, Try.ntmps71
    go_wp2
    go_ret
    exact ⟨ret_bool (by unfold phB; rw [decide_eq_false (show ¬ 0 ≤ a by omega)]; rfl), rfl⟩
theorem isMany_any (a : Int) (w : World) : Calls Try.prog 50 #[.int .i64 a] w fun e w' => e = .returned (.bool (mnB a)) ∧ w = w' := by
  by_cases h : 2 ≤ a
  · by_cases h2 : a ≤ 7
    · go_enter Try.func50, Try.ntmps50
      go_wp2
      go_ret
      exact ⟨ret_bool (by simp [mnB, h, h2]), rfl⟩
    · go_enter Try.func50, Try.ntmps50
      go_wp2
      go_ret
      exact ⟨ret_bool (by simp [mnB, h2]), rfl⟩
  · go_enter Try.func50, Try.ntmps50
    go_wp2
    go_ret
    exact ⟨ret_bool (by unfold mnB; rw [decide_eq_false (show ¬ 2 ≤ a by omega)]; rfl), rfl⟩
theorem nb_int {N : Nat} (h : 2 ≤ N) (h' : N ≤ 7) : ∃ X : Nat, (N : Int) * ((N : Int) - 1) = (X : Int) ∧ X ≤ 42 ∧ X / 2 = nb N := by
  refine ⟨N * (N - 1), ?_, ?_, rfl⟩
  · rw [Int.natCast_mul]
    congr 1
    omega
  · have h : ∀ N, N < 8 → N * (N - 1) ≤ 42 := by decide
    exact h N (by omega)
theorem baseMany_any (a : Int) (w : World) : Calls Try.prog 51 #[.int .i64 a] w fun e w' => e = .returned (.int .i64 (nbI a)) ∧ w = w' := by
  rcases h : mnB a with _ | _
  · have HM := Lib.hid h
    have HN : Hid (nbI a = 0) := nbI_zero.2 h
    clear h
    go_enter Try.func51, Try.ntmps51
    go_wp2_with (go_at_call 50; refine (isMany_any _ _).mono ?_; rintro e w' ⟨rfl, rfl⟩; rw [HM.out])
    go_ret
    exact ⟨ret_int HN.out.symm, rfl⟩
  · obtain ⟨N, rfl, h1, h2⟩ := mnB_nat h
    have HM := Lib.hid h
    have HN := Lib.hid (nbI_nat h1 h2)
    obtain ⟨X, hX, hX2, hX3⟩ := nb_int h1 h2
    have HX3 := Lib.hid hX3
    clear h hX3
    go_enter Try.func51, Try.ntmps51
    go_wp2_with (go_at_call 50; refine (isMany_any _ _).mono ?_; rintro e w' ⟨rfl, rfl⟩; rw [HM.out])
    go_ret
    exact ⟨ret_int (by rw [HN.out, ← HX3.out]; omega), rfl⟩
theorem phase_of (x : Int) : (if x.tmod 360 < 0 then x.tmod 360 + 360 else x.tmod 360) = x % 360 := by
  rcases Int.le_total 0 x with h | h
  · rw [tmod_nn h]; split <;> omega
  · rw [tmod_np h]; split <;> omega
theorem phaseOf_any (x : Int) (w : World) : Calls Try.prog 57 #[.int .i64 x] w fun e w' => e = .returned (.int .i64 (x % 360)) ∧ w = w' := by
  have hp := phase_of x
  have hb : -360 < x.tmod 360 ∧ x.tmod 360 < 360 := by
    rcases Int.le_total 0 x with h | h
    · rw [tmod_nn h]; omega
    · rw [tmod_np h]; omega
  obtain ⟨h1, h2⟩ := hb
  generalize ht : x.tmod 360 = t at *
  by_cases h : t < 0
  · rw [if_pos h] at hp
    have HP := Lib.hid hp
    have ht' : decide (t < 0) = true := by simpa using h
    clear hp
    go_enter Try.func57, Try.ntmps57
    go_wp2
    go_ret
    exact ⟨ret_int HP.out, rfl⟩
  · rw [if_neg h] at hp
    have HP := Lib.hid hp
    have ht' : decide (t < 0) = false := by simpa using h
    clear hp
    go_enter Try.func57, Try.ntmps57
    go_wp2
    go_ret
    exact ⟨ret_int HP.out, rfl⟩
theorem baseAt_any (N i j : Nat) (w : World) (hN : N < 8) (hi : i < N) (hj : j < N) (hne : i ≠ j) :
    Calls Try.prog 80 #[.int .i64 (N : Int), .int .i64 (i : Int), .int .i64 (j : Int)] w fun e w' => e = .returned (.int .i64 (bAt N i j : Nat)) ∧ w = w' := by
  rcases Nat.lt_or_ge j i with h | h
  · obtain ⟨X, hX, hX2, hX3⟩ := row_int hN hj
    have HX3 := Lib.hid hX3
    have HB : Hid (bAt N i j = bIx N j i) := if_pos h
    clear hX3
    go_enter Try.func80, Try.ntmps80
    go_wp2
    go_ret
    exact ⟨ret_int (by rw [HB.out]; unfold bIx; rw [← HX3.out]; omega), rfl⟩
  · have h' : i < j := by omega
    obtain ⟨X, hX, hX2, hX3⟩ := row_int hN hi
    have HX3 := Lib.hid hX3
    have HB : Hid (bAt N i j = bIx N i j) := if_neg (by omega)
    have hd : decide (j < i) = false := by simp; omega
    clear hX3
    go_enter Try.func80, Try.ntmps80
    go_wp2
    go_ret
    exact ⟨ret_int (by rw [HB.out]; unfold bIx; rw [← HX3.out]; omega), rfl⟩
/-- the sign that PhaseSigned gives -/
def sgn (a : Int) : Int := if 180 < a then a - 360 else a
theorem near_sgn (a b : Int) : near a b = mxI (sgn ((a - b) % 360)) (-sgn ((a - b) % 360)) := by
  have h1 := Int.emod_nonneg (a - b) (b := 360) (by omega)
  have h2 := Int.emod_lt_of_pos (a - b) (b := 360) (by omega)
  unfold near mxI sgn
  split <;> split <;> omega
/-! ### the reference -/
theorem in_any (n l h : Int) (w : World) : Calls Try.prog 60 #[.int .i64 n, .int .i64 l, .int .i64 h] w fun e w' => e = .returned (.bool (decide (l ≤ n) && decide (n ≤ h))) ∧ w = w' := by
  by_cases h1 : l ≤ n
  · by_cases h2 : n ≤ h
    · have h1' : decide (l ≤ n) = true := by simpa using h1
      have h2' : decide (n ≤ h) = true := by simpa using h2
      go_enter Try.func60, Try.ntmps60
      go_wp2
      go_ret
      exact ⟨ret_bool (by rw [h1', h2']; rfl), rfl⟩
    · have h1' : decide (l ≤ n) = true := by simpa using h1
      have h2' : decide (n ≤ h) = false := by simpa using h2
      go_enter Try.func60, Try.ntmps60
      go_wp2
      go_ret
      exact ⟨ret_bool rfl, rfl⟩
  · have h1' : decide (l ≤ n) = false := by simpa using h1
    go_enter Try.func60, Try.ntmps60
    go_wp2
    go_ret
    exact ⟨ret_bool rfl, rfl⟩
theorem specBaseMany_any (a : Int) (w : World) : Calls Try.prog 61 #[.int .i64 a] w fun e w' => e = .returned (.int .i64 (nbI a)) ∧ w = w' := by
  rcases h : mnB a with _ | _
  · have HM : Hid ((decide (2 ≤ a) && decide (a ≤ 7)) = false) := h
    have HN : Hid (nbI a = 0) := nbI_zero.2 h
    clear h
    go_enter Try.func61, Try.ntmps61
    go_wp2_with (go_at_call 60; refine (in_any _ _ _ _).mono ?_; rintro e w' ⟨rfl, rfl⟩; rw [HM.out])
    go_ret
    exact ⟨ret_int HN.out.symm, rfl⟩
  · obtain ⟨N, rfl, h1, h2⟩ := mnB_nat h
    have HM : Hid ((decide (2 ≤ (N : Int)) && decide ((N : Int) ≤ 7)) = true) := h
    have HN := Lib.hid (nbI_nat h1 h2)
    obtain ⟨X, hX, hX2, hX3⟩ := nb_int h1 h2
    have HX3 := Lib.hid hX3
    clear h hX3
    go_enter Try.func61, Try.ntmps61
    go_wp2_with (go_at_call 60; refine (in_any _ _ _ _).mono ?_; rintro e w' ⟨rfl, rfl⟩; rw [HM.out])
    go_ret
    exact ⟨ret_int (by rw [HN.out, ← HX3.out]; omega), rfl⟩
theorem l2Phase_any (a : Int) (w : World) : Calls Try.prog 62 #[.int .i64 a] w fun e w' => e = .returned (.bool (phB a)) ∧ w = w' := by
  have HP : Hid ((decide (0 ≤ a) && decide (a ≤ 359)) = phB a) := by show _ = _; unfold phB; congr 1; simp; omega
  go_enter Try.func62, Try.ntmps62
  go_wp2_with (go_at_call 60; refine (in_any _ _ _ _).mono ?_; rintro e w' ⟨rfl, rfl⟩; rw [HP.out])
  go_ret
  exact ⟨rfl, rfl⟩
theorem specPhaseOf_any (x : Int) (w : World) : Calls Try.prog 40 #[.int .i64 x] w fun e w' => e = .returned (.int .i64 (x % 360)) ∧ w = w' := by
  go_enter Try.func40, Try.ntmps40
  go_wp2_with (go_at_call 65; refine (l1Mod_any _ _ _ (by omega) (by omega)).mono ?_; rintro e w' ⟨rfl, rfl⟩)
  go_ret
  exact ⟨rfl, rfl⟩
theorem specBaseIndex_any (N i j : Nat) (w : World) (hN : N < 8) (hi : i < N) (hj : j < N) (hne : i ≠ j) :
    Calls Try.prog 74 #[.int .i64 (N : Int), .int .i64 (i : Int), .int .i64 (j : Int)] w fun e w' => e = .returned (.int .i64 (bAt N i j : Nat)) ∧ w = w' := by
  have HNB : Hid (nbI (N : Int) = nb N) := nbI_nat (by omega) (by omega)
  have hp := nb_pos N hN (by omega)
  have HI : Hid ((decide ((0 : Int) ≤ (i : Int)) && decide ((i : Int) ≤ (N : Int) - 1)) = true) := by show _ = _; simp; omega
  have HJ : Hid ((decide ((0 : Int) ≤ (j : Int)) && decide ((j : Int) ≤ (N : Int) - 1)) = true) := by show _ = _; simp; omega
  have hn0 : ((nb N : Int) == 0) = false := by simp; omega
  have hij : ((i : Int) == (j : Int)) = false := by simp; omega
  rcases Nat.lt_or_ge j i with h | h
  · obtain ⟨X, Y, hX, hX2, hY, hY2, hXY⟩ := low_int hN hj
    have HXY := Lib.hid hXY
    have HB : Hid (bAt N i j = bIx N j i) := if_pos h
    have hd : decide (j < i) = true := by simpa using h
    have hd2 : decide (i < j) = false := by simp; omega
    clear hXY
    go_enter Try.func74, Try.ntmps74
    go_wp2_with (first | (go_at_call 61; refine (specBaseMany_any _ _).mono ?_; rintro e w' ⟨rfl, rfl⟩; rw [HNB.out]) | (go_at_call 60; refine (in_any _ _ _ _).mono ?_; rintro e w' ⟨rfl, rfl⟩; (first | rw [HI.out] | rw [HJ.out])))
    go_ret
    exact ⟨ret_int (by rw [HB.out]; unfold bIx; have := HXY.out; omega), rfl⟩
  · obtain ⟨X, Y, hX, hX2, hY, hY2, hXY⟩ := low_int hN hi
    have HXY := Lib.hid hXY
    have HB : Hid (bAt N i j = bIx N i j) := if_neg (by omega)
    have hd : decide (j < i) = false := by simp; omega
    have hd2 : decide (i < j) = true := by simp; omega
    clear hXY
    go_enter Try.func74, Try.ntmps74
    go_wp2_with (first | (go_at_call 61; refine (specBaseMany_any _ _).mono ?_; rintro e w' ⟨rfl, rfl⟩; rw [HNB.out]) | (go_at_call 60; refine (in_any _ _ _ _).mono ?_; rintro e w' ⟨rfl, rfl⟩; (first | rw [HI.out] | rw [HJ.out])))
    go_ret
    exact ⟨ret_int (by rw [HB.out]; unfold bIx; have := HXY.out; omega), rfl⟩
end Go.Proofs.Ytebjdchfofhmhaa
