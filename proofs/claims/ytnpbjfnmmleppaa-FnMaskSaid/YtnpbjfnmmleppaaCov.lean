/-
  Contracts of the coverage functions of the program and of the reference: each returns what a plain Lean function of the list of cells gives.
-/
import Derived.Test.YtnpbjfnmmleppaaNum
import Derived.Deep.QuietTactic
import Derived.BigQuiet
import Derived.Outline
namespace Go.Proofs.Ytnpbjfnmmleppaa
open Go.RowKit

set_option maxHeartbeats 400000 in
theorem coverValid_any (A : Option Addr) (n c : Nat) (bs : List Bool) (w : World) (hn : bs.length = n) (h : Rd w w.heap.size A n c (bools bs)) :
    Calls Try.prog 14 #[.slice A n c] w fun e w' => e = .returned (.bool (cvB bs)) ∧ w = w' := by
  have HN := Lib.hid hn
  clear hn
  by_cases h16 : n = 16
  · subst h16
    obtain ⟨g, off, rfl⟩ := h.addr (by rw [bools_length, HN.out]; omega)
    go_enter Try.func14, Try.ntmps14
    go_wp2
    go_loop [10] (fun i => ∃ k : Nat, k ≤ 16 ∧ i = .int .i64 k ∧ Hid (cvTo bs k)) (fun i => 16 - (intOf i).toNat)
    case atStart => exact ⟨0, Nat.zero_le _, rfl, fun _ h => by omega⟩
    case round =>
      obtain ⟨k, hk, rfl, hto⟩ := hrel
      by_cases hlt : k < 16
      · have hol := opp_lt k
        obtain ⟨b, hb⟩ := at_of_lt (l := bs) (k := k) (by have := HN.out; omega)
        obtain ⟨d, hd⟩ := at_of_lt (l := bs) (k := opp k) (by have := HN.out; omega)
        have hcb := h.cell (bools_at hb)
        have hcd := h.cell (bools_at hd)
        have HB := Lib.hid hb
        have HD := Lib.hid hd
        clear hb hd
        by_cases hbd : b = d
        · subst hbd
          go_wp2_with (go_at_call 26; refine (opposite_any _ hlt _).mono ?_; rintro e w' ⟨rfl, rfl⟩)
          go_round
          case rel => exact ⟨k + 1, by omega, by go_num, cvTo_succ hto (by rw [HB.out, HD.out])⟩
          case measure => simp [intOf]; omega
        · have hbd' : (d == b) = false := by simp; exact fun e => hbd e.symm
          go_wp2_with (go_at_call 26; refine (opposite_any _ hlt _).mono ?_; rintro e w' ⟨rfl, rfl⟩)
          go_ret
          exact ⟨ret_bool (cvB_false hlt (by rw [HB.out, HD.out]; simpa using hbd)).symm, rfl⟩
      · go_wp2
        go_ret
        have : k = 16 := by omega
        subst this
        exact ⟨ret_bool (cvB_true HN.out hto).symm, rfl⟩
  · have h16' : ((n : Int) == 16) = false := by simp; omega
    go_enter Try.func14, Try.ntmps14
    go_wp2
    go_ret
    exact ⟨ret_bool (cvB_len (by rw [HN.out]; exact h16)).symm, rfl⟩
set_option maxHeartbeats 400000 in
theorem specCoverValid_any (A : Option Addr) (n c : Nat) (bs : List Bool) (w : World) (hn : bs.length = n) (h : Rd w w.heap.size A n c (bools bs)) :
    Calls Try.prog 17 #[.slice A n c] w fun e w' => e = .returned (.bool (cvB bs)) ∧ Quiet w w' := by
  have HN := Lib.hid hn
  clear hn
  by_cases h16 : n = 16
  · subst h16
    obtain ⟨g, off, rfl⟩ := h.addr (by rw [bools_length, HN.out]; omega)
    go_enter Try.func17, Try.ntmps17
    go_wp2_with (go_at_call 23; refine (l21Cells_any _).mono ?_; rintro e w' ⟨rfl, rfl⟩)
    go_loopw [3] (fun i wr => ∃ k : Nat, k ≤ 16 ∧ i = .int .i64 k ∧ Hid (cvTo bs k) ∧ Quiet w wr) (fun i _ => 16 - (intOf i).toNat)
    case atStart => exact ⟨0, Nat.zero_le _, rfl, fun _ h => by omega, Quiet.refl _⟩
    case round =>
      obtain ⟨k, hk, rfl, hto, hq⟩ := hrel
      by_cases hlt : k < 16
      · have hol : ((opp k : Nat) : Int) < 16 := by have := opp_lt k; omega
        obtain ⟨b, hb⟩ := at_of_lt (l := bs) (k := k) (by have := HN.out; omega)
        obtain ⟨d, hd⟩ := at_of_lt (l := bs) (k := opp k) (by have := HN.out; have := opp_lt k; omega)
        have hcb := (hq.cell _).trans (h.cell (bools_at hb))
        have hcd := (hq.cell _).trans (h.cell (bools_at hd))
        have HB := Lib.hid hb
        have HD := Lib.hid hd
        have h2 : (k : Int) < 16 := by omega
        have h3 : (0 : Int) ≤ (k : Int) := by omega
        have h4 : (0 : Int) ≤ (opp k : Int) := by omega
        have HX := Lib.hid (opp_wrapped k hlt)
        clear hb hd
        cases b <;> cases d
        all_goals
          go_wp2_with (go_at_call 23; refine (l21Cells_any _).mono ?_; rintro e w' ⟨rfl, rfl⟩)
          go_quiet ((go_at_call 24; exact quiet_same (l21At_eq _ _ _ _ HX.out)))
          go_wp2
        · go_roundw
          case rel => exact ⟨k + 1, by omega, by go_num, cvTo_succ hto (by rw [HB.out, HD.out]), hq.drewN _⟩
          case measure => simp [intOf]; omega
        · go_ret
          exact ⟨ret_bool (cvB_false hlt (by rw [HB.out, HD.out]; simp)).symm, hq.drewN _⟩
        · go_ret
          exact ⟨ret_bool (cvB_false hlt (by rw [HB.out, HD.out]; simp)).symm, hq.drewN _⟩
        · go_roundw
          case rel => exact ⟨k + 1, by omega, by go_num, cvTo_succ hto (by rw [HB.out, HD.out]), hq.drewN _⟩
          case measure => simp [intOf]; omega
      · go_wp2_with (go_at_call 23; refine (l21Cells_any _).mono ?_; rintro e w' ⟨rfl, rfl⟩)
        go_ret
        have : k = 16 := by omega
        subst this
        exact ⟨ret_bool (cvB_true HN.out hto).symm, hq⟩
  · have h16' : ((n : Int) == 16) = false := by simp; omega
    go_enter Try.func17, Try.ntmps17
    go_wp2_with (go_at_call 23; refine (l21Cells_any _).mono ?_; rintro e w' ⟨rfl, rfl⟩)
    go_ret
    exact ⟨ret_bool (cvB_len (by rw [HN.out]; exact h16)).symm, Quiet.refl _⟩
end Go.Proofs.Ytnpbjfnmmleppaa
