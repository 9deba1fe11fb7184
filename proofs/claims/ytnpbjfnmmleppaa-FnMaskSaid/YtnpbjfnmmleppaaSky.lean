/-
  Contracts of SkyValid of the program and of the reference, allInRange, skyChecked.
-/
import Derived.Test.YtnpbjfnmmleppaaGauss
import Derived.Test.YtnpbjfnmmleppaaInts
namespace Go.Proofs.Ytnpbjfnmmleppaa
open Go.RowKit

set_option maxHeartbeats 400000 in
theorem specSkyValid_any (A : Option Addr) (n c : Nat) (xs : List Int) (w : World) (hn : xs.length = n) (hz : n ≤ 4611686018427387904) (h : Rd w w.heap.size A n c (ints xs)) :
    Calls Try.prog 28 #[.slice A n c] w fun e w' => e = .returned (.bool (svB xs)) ∧ w = w' := by
  have HN := Lib.hid hn
  clear hn
  go_enter Try.func28, Try.ntmps28
  go_wp2
  go_loop [3] (fun i => ∃ k : Nat, k ≤ n ∧ i = .int .i64 k ∧ Hid (allTo 100000 xs k)) (fun i => n - (intOf i).toNat)
  case atStart => exact ⟨0, Nat.zero_le _, rfl, fun _ _ h => by omega⟩
  case round =>
    obtain ⟨k, hk, rfl, hto⟩ := hrel
    by_cases hlt : k < n
    · obtain ⟨b, hb⟩ := at_of_lt (l := xs) (k := k) (by have := HN.out; omega)
      obtain ⟨g, off, rfl⟩ := h.addr (by rw [ints_length, HN.out]; omega)
      have hcb := h.cell (ints_at' hb)
      have HB := Lib.hid hb
      have HC := Lib.hid (l6In_any b (-100000) 100000 w)
      clear hb
      rcases hi : inB 100000 b with _ | _
      · have HI := Lib.hid hi
        have hd : decide (-100000 ≤ b ∧ b ≤ 100000) = false := hi
        rw [hd] at HC
        clear hi hd
        go_wp2_with (go_at_call 34; refine HC.out.mono ?_; rintro e w' ⟨rfl, rfl⟩)
        go_ret
        exact ⟨ret_bool (by unfold svB; rw [all_false HB.out HI.out]; simp), rfl⟩
      · have HI := Lib.hid hi
        have hd : decide (-100000 ≤ b ∧ b ≤ 100000) = true := hi
        rw [hd] at HC
        clear hi hd
        go_wp2_with (go_at_call 34; refine HC.out.mono ?_; rintro e w' ⟨rfl, rfl⟩)
        go_round
        case rel => exact ⟨k + 1, by omega, by go_num, allTo_succ hto HB.out HI.out⟩
        case measure => simp [intOf]; omega
    · go_wp2_with (go_at_call 23; refine (l21Cells_any _).mono ?_; rintro e w' ⟨rfl, rfl⟩)
      go_ret
      refine ⟨ret_bool ?_, rfl⟩
      unfold svB
      rw [allTo_end hto (by rw [HN.out]; omega), HN.out]
      rw [Bool.eq_iff_iff]
      simp
      omega
end Go.Proofs.Ytnpbjfnmmleppaa
