/-
  Contracts of SkyValid of the program and of the reference, allInRange, skyChecked.
-/
import Derived.Test.YtbafniaohjjacabGauss
import Derived.Test.YtbafniaohjjacabInts
namespace Go.Proofs.Ytbafniaohjjacab
open Go.RowKit

set_option maxHeartbeats 400000 in
theorem allInRange_any (A : Option Addr) (n c : Nat) (xs : List Int) (l : Int) (w : World) (hn : xs.length = n) (hz : n ≤ 4611686018427387904) (h1 : 0 ≤ l) (h2 : l ≤ 1000000000000) (h : Rd w w.heap.size A n c (ints xs)) :
    Calls Try.prog 49 #[.slice A n c, .int .i64 l] w fun e w' => e = .returned (.bool (xs.all (inB l))) ∧ w = w' := by
  have HN := Lib.hid hn
  clear hn
  go_enter Try.func49, Try.ntmps49
  go_wp2
  go_loop [9] (fun i => ∃ k : Nat, k ≤ n ∧ i = .int .i64 k ∧ Hid (allTo l xs k)) (fun i => n - (intOf i).toNat)
  case atStart => exact ⟨0, Nat.zero_le _, rfl, fun _ _ h => by omega⟩
  case round =>
    obtain ⟨k, hk, rfl, hto⟩ := hrel
    by_cases hlt : k < n
    · obtain ⟨b, hb⟩ := at_of_lt (l := xs) (k := k) (by have := HN.out; omega)
      obtain ⟨g, off, rfl⟩ := h.addr (by rw [ints_length, HN.out]; omega)
      have hcb := h.cell (ints_at' hb)
      have HB := Lib.hid hb
      have HC := Lib.hid (inRange_any b l w h1 h2)
      clear hb
      rcases hi : inB l b with _ | _
      · have HI := Lib.hid hi
        have hd : decide (-l ≤ b ∧ b ≤ l) = false := hi
        rw [hd] at HC
        clear hi hd
        go_wp2_with (go_at_call 36; refine HC.out.mono ?_; rintro e w' ⟨rfl, rfl⟩)
        go_ret
        exact ⟨ret_bool (all_false HB.out HI.out).symm, rfl⟩
      · have HI := Lib.hid hi
        have hd : decide (-l ≤ b ∧ b ≤ l) = true := hi
        rw [hd] at HC
        clear hi hd
        go_wp2_with (go_at_call 36; refine HC.out.mono ?_; rintro e w' ⟨rfl, rfl⟩)
        go_round
        case rel => exact ⟨k + 1, by omega, by go_num, allTo_succ hto HB.out HI.out⟩
        case measure => simp [intOf]; omega
    · go_wp2
      go_ret
      exact ⟨ret_bool (allTo_end hto (by rw [HN.out]; omega)).symm, rfl⟩
theorem skyValid_any (A : Option Addr) (n c : Nat) (xs : List Int) (w : World) (hn : xs.length = n) (h : Rd w w.heap.size A n c (ints xs)) :
    Calls Try.prog 28 #[.slice A n c] w fun e w' => e = .returned (.bool (svB xs)) ∧ w = w' := by
  by_cases h16 : n = 16
  · subst h16
    have HC := Lib.hid (allInRange_any A 16 c xs 100000 w hn (by omega) (by omega) (by omega) h)
    rw [← svB_all hn] at HC
    clear hn h
    go_enter Try.func28, Try.ntmps28
    go_wp2_with (go_at_call 49; refine HC.out.mono ?_; rintro e w' ⟨rfl, rfl⟩)
    go_ret
    exact ⟨rfl, rfl⟩
  · have h16' : ((n : Int) == 16) = false := by simp; omega
    have HS := Lib.hid (svB_len (by rw [hn]; exact h16))
    clear hn h
    go_enter Try.func28, Try.ntmps28
    go_wp2
    go_ret
    exact ⟨ret_bool HS.out.symm, rfl⟩
set_option maxHeartbeats 400000 in
theorem specSkyValid_any (A : Option Addr) (n c : Nat) (xs : List Int) (w : World) (hn : xs.length = n) (hz : n ≤ 4611686018427387904) (h : Rd w w.heap.size A n c (ints xs)) :
    Calls Try.prog 31 #[.slice A n c] w fun e w' => e = .returned (.bool (svB xs)) ∧ w = w' := by
  have HN := Lib.hid hn
  clear hn
  go_enter Try.func31, Try.ntmps31
  go_wp2
  go_loop [3] (fun i => ∃ k : Nat, k ≤ n ∧ i = .int .i64 k ∧ Hid (allTo 100000 xs k)) (fun i => n - (intOf i).toNat)
  case atStart => exact ⟨0, Nat.zero_le _, rfl, fun _ _ h => by omega⟩
  case round =>
    obtain ⟨k, hk, rfl, hto⟩ := hrel
    by_cases hlt : k < n
    · obtain ⟨b, hb⟩ := at_of_lt (l := xs) (k := k) (by have := HN.out; omega)
      obtain ⟨g, off, rfl⟩ := h.addr (by rw [ints_length, HN.out]; omega)
      have hcb := h.cell (ints_at' hb)
      have HB := Lib.hid hb
      have HC := Lib.hid (l6In_any b (-100000) 100000 w)
      clear hb
      rcases hi : inB 100000 b with _ | _
      · have HI := Lib.hid hi
        have hd : decide (-100000 ≤ b ∧ b ≤ 100000) = false := hi
        rw [hd] at HC
        clear hi hd
        go_wp2_with (go_at_call 32; refine HC.out.mono ?_; rintro e w' ⟨rfl, rfl⟩)
        go_ret
        exact ⟨ret_bool (by unfold svB; rw [all_false HB.out HI.out]; simp), rfl⟩
      · have HI := Lib.hid hi
        have hd : decide (-100000 ≤ b ∧ b ≤ 100000) = true := hi
        rw [hd] at HC
        clear hi hd
        go_wp2_with (go_at_call 32; refine HC.out.mono ?_; rintro e w' ⟨rfl, rfl⟩)
        go_round
        case rel => exact ⟨k + 1, by omega, by go_num, allTo_succ hto HB.out HI.out⟩
        case measure => simp [intOf]; omega
    · go_wp2_with (go_at_call 47; refine (l21Cells_any _).mono ?_; rintro e w' ⟨rfl, rfl⟩)
      go_ret
      refine ⟨ret_bool ?_, rfl⟩
      unfold svB
      rw [allTo_end hto (by rw [HN.out]; omega), HN.out]
      rw [Bool.eq_iff_iff]
      simp
      omega
theorem skyChecked_yes (A : Option Addr) (n c : Nat) (xs : List Int) (w : World) (hn : xs.length = n) (h : Rd w w.heap.size A n c (ints xs)) (hv : svB xs = true) :
    Calls Try.prog 34 #[.slice A n c] w fun e w' => e = .returned (.tuple #[.slice A n c, .bool true]) ∧ w = w' := by
  have HC := Lib.hid (skyValid_any A n c xs w hn h)
  rw [hv] at HC
  clear hn h hv
  go_enter Try.func34, Try.ntmps34
  go_wp2_with (go_at_call 28; refine HC.out.mono ?_; rintro e w' ⟨rfl, rfl⟩)
  go_ret2
  exact ⟨rfl, rfl⟩
theorem skyChecked_no (A : Option Addr) (n c : Nat) (xs : List Int) (w : World) (hn : xs.length = n) (h : Rd w w.heap.size A n c (ints xs)) (hv : svB xs = false) :
    Calls Try.prog 34 #[.slice A n c] w fun e w' => e = .returned (.tuple #[.slice none 0 0, .bool false]) ∧ w = w' := by
  have HC := Lib.hid (skyValid_any A n c xs w hn h)
  rw [hv] at HC
  clear hn h hv
  go_enter Try.func34, Try.ntmps34
  go_wp2_with (go_at_call 28; refine HC.out.mono ?_; rintro e w' ⟨rfl, rfl⟩)
  go_ret2
  exact ⟨rfl, rfl⟩
end Go.Proofs.Ytbafniaohjjacab
