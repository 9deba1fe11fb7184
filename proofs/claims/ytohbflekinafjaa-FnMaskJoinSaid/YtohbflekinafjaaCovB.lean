/-
  Contracts of CoverMany, CoverHoles, CoverJoin, CoverTurn of the program and of the reference.
-/
import Derived.Test.YtohbflekinafjaaCov
namespace Go.Proofs.Ytohbflekinafjaa
open Go.RowKit

theorem A.infoBool : (Try.prog.info? 4).map (fun i => (i.zero, i.size, i.bytes)) = some (some (.bool false), 1, 1) := by kernel_rfl

theorem make16 (w : World) : (Instr.makeSlice 23 (.int .i64 16) (.int .i64 16)).run Try.prog w = .ok (.slice (some ⟨w.heap.size, 0, none⟩) 16 16) (w.alloc (.cells (madeCells #[.bool false] 16) 4)) :=
  run_make1 (P := Try.prog) 23 4 (.bool false) 1 A.infoBool Try.underlying23 rfl 16 (by omega) (by omega) w

set_option maxHeartbeats 400000 in
theorem coverHoles_any (A : Option Addr) (n c : Nat) (bs : List Bool) (w : World) (hn : bs.length = n) (h : Rd w w.heap.size A n c (bools bs)) :
    Calls Try.prog 31 #[.slice A n c] w (RetSB w 4 (covHoles bs).length (bools (covHoles bs)) (cvB bs)) := by
  have hc := coverValid_any A n c bs w hn h
  rcases hv : cvB bs with _ | _
  · rw [hv] at hc
    have HC := Lib.hid hc
    have HV := Lib.hid hv
    clear hc hv hn h
    go_enter Try.func31, Try.ntmps31
    go_wp2_with (go_at_call 38; refine HC.out.mono ?_; rintro e w' ⟨rfl, rfl⟩)
    go_ret2
    exact RetSB.nil (by simp [covHoles, HV.out]) (by simp [covHoles, HV.out, bools]) (Ext.refl _)
  · rw [hv] at hc
    obtain rfl : n = 16 := by rw [← hn]; exact cvB_16 hv
    obtain ⟨g, off, rfl⟩ := h.addr (by rw [bools_length, hn]; omega)
    have HC := Lib.hid hc
    have HV := Lib.hid hv
    have HN := Lib.hid hn
    have hl : (bs.map (!·)).length = zeros16.length := by simp [hn, zeros16]
    have HL := Lib.hid hl
    have hmk := make16
    clear hc hv hn hl
    go_enter Try.func31, Try.ntmps31
    go_wp2_with (go_at_call 38; refine HC.out.mono ?_; rintro e w' ⟨rfl, rfl⟩)
    clear hmk
    go_loopw [14] (fun i wr => ∃ k : Nat, k ≤ 16 ∧ i = .int .i64 k ∧ Sl wr w.heap.size (w.heap.size + 1) 4 (some ⟨w.heap.size, 0, none⟩) 16 16 (bools (over (bs.map (!·)) zeros16 k)) ∧ Ext w wr) (fun i _ => 16 - (intOf i).toNat)
    case atStart => exact ⟨0, Nat.zero_le _, rfl, by rw [over_zero, zeros16, ← bools_rep]; exact Sl.made w 4 _ 16, (Ext.refl w).alloc _⟩
    case round =>
      obtain ⟨k, hk, rfl, hs, he⟩ := hrel
      by_cases hlt : k < 16
      · obtain ⟨b, hb⟩ := at_of_lt (l := bs) (k := k) (by have := HN.out; omega)
        have hcb := (h.below he.below).cell (bools_at hb)
        obtain ⟨b', hb'⟩ := at_of_lt (l := over (bs.map (!·)) zeros16 k) (k := k) (by rw [over_length HL.out]; simp [zeros16]; omega)
        have hco := hs.cell (bools_at hb')
        have hfo := hs.frozen (by rw [bools_length, over_length HL.out]; simp [zeros16]) (0 + k)
        have R := Lib.hid (hs.set_ k (.bool !b))
        rw [bools_set, over_set (by simp [hb]) HL.out] at R
        simp only [Nat.zero_add] at hco hfo R
        clear hb hb' hs
        go_wp2
        go_roundw
        case rel => exact ⟨k + 1, by omega, by go_num, R.out, he.setCell (Nat.le_refl _) _⟩
        case measure => simp [intOf]; omega
      · go_wp2
        go_ret2
        obtain rfl : k = 16 := by omega
        rw [over_end (n := 16) (by simp [HN.out]) (by simp [zeros16])] at hs
        exact RetSB.mk' (by simp [covHoles, HV.out, HN.out]) (by simp [covHoles, HV.out]) hs (Nat.le_refl _) he
end Go.Proofs.Ytohbflekinafjaa
