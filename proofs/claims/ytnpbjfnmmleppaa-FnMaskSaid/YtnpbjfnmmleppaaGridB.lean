/-
  Contracts over grids: masked, l23Mask, allGauss, GridValid, GridMask.
-/
import Derived.Test.YtnpbjfnmmleppaaGrid
import Derived.Test.YtnpbjfnmmleppaaCovD
namespace Go.Proofs.Ytnpbjfnmmleppaa
open Go.RowKit

theorem makeG16 (w : World) : (Instr.makeSlice 23 (.int .i64 16) (.int .i64 16)).run Try.prog w = .ok (.slice (some ⟨w.heap.size, 0, none⟩) 16 16) (w.alloc (.cells (madeCells #[.int .i64 0, .int .i64 0] 32) 31)) :=
  run_make2 (P := Try.prog) 23 31 16 G.info Try.underlying23 16 (by omega) (by omega) w

set_option maxHeartbeats 400000 in
theorem masked_any (A B : Option Addr) (c d : Nat) (gs : List (Int × Int)) (bs : List Bool) (w : World) (hn : gs.length = 16) (hm : bs.length = 16) (h : Rd w w.heap.size A 16 c (pairs gs)) (h' : Rd w w.heap.size B 16 d (bools bs)) :
    Calls Try.prog 15 #[.slice A 16 c, .slice B 16 d] w (RetS w 31 16 (pairs (maskL gs bs))) := by
  have hl : (maskL gs bs).length = zeroG.length := by rw [maskL_length hn hm, zeroG_length]
  have HN := Lib.hid hn
  have HM := Lib.hid hm
  have HL := Lib.hid hl
  obtain ⟨g, off, rfl⟩ := h.addr (by rw [pairs_length, hn]; omega)
  obtain ⟨g', off', rfl⟩ := h'.addr (by rw [bools_length, hm]; omega)
  have hmk := makeG16
  clear hn hm hl
  go_enter Try.func15, Try.ntmps15
  go_wp2
  clear hmk
  go_loopw [13] (fun i wr => ∃ k : Nat, k ≤ 16 ∧ i = .int .i64 k ∧ Sl wr w.heap.size (w.heap.size + 1) 31 (some ⟨w.heap.size, 0, none⟩) 16 16 (pairs (over (maskL gs bs) zeroG k)) ∧ Ext w wr) (fun i _ => 16 - (intOf i).toNat)
  case atStart => exact ⟨0, Nat.zero_le _, rfl, by rw [over_zero]; exact Sl.made2 w 31 16, (Ext.refl w).alloc _⟩
  case round =>
    obtain ⟨k, hk, rfl, hs, he⟩ := hrel
    by_cases hlt : k < 16
    · obtain ⟨⟨p, q⟩, hp⟩ := at_of_lt (l := gs) (k := k) (by have := HN.out; omega)
      obtain ⟨b, hb⟩ := at_of_lt (l := bs) (k := k) (by have := HM.out; omega)
      have hcb := (h'.below he.below).cell (bools_at hb)
      have hc0 := (h.below he.below).fst hp
      have hc1 := (h.below he.below).snd hp
      have hma := maskL_at hp hb
      cases b
      · have HS := Lib.hid (over_skip hma (zeroG_at hlt) HL.out)
        clear hma hp hb
        go_wp2
        go_roundw
        case rel => exact ⟨k + 1, by omega, by go_num, by rw [HS.out]; exact hs, he⟩
        case measure => simp [intOf]; omega
      · have ho : (over (maskL gs bs) zeroG k)[k]? = some (0, 0) := by rw [over_at HL.out (Nat.le_refl _)]; exact zeroG_at hlt
        have hco0 := hs.fst ho
        have hco1 := hs.snd ho
        have hfo0 := hs.frozen (by rw [pairs_length, over_length HL.out, zeroG_length]; omega) (0 + k * 2)
        have hfo1 := hs.frozen (by rw [pairs_length, over_length HL.out, zeroG_length]; omega) (0 + k * 2 + 1)
        have R := Lib.hid (hs.set2 k p q)
        rw [over_set (by simpa using hma) HL.out] at R
        simp only [Nat.zero_add] at hco0 hco1 hfo0 hfo1 R
        clear hma hp hb ho hs
        go_wp2
        go_roundw
        case rel => exact ⟨k + 1, by omega, by go_num, R.out, (he.setCell (Nat.le_refl _) _).setCell (Nat.le_refl _) _⟩
        case measure => simp [intOf]; omega
    · go_wp2
      go_ret
      obtain rfl : k = 16 := by omega
      rw [over_end (n := 16) (maskL_length HN.out HM.out) zeroG_length] at hs
      exact RetS.mk' rfl rfl hs (Nat.le_refl _) he
set_option maxHeartbeats 400000 in
theorem l23Mask_any (A B : Option Addr) (c d : Nat) (gs : List (Int × Int)) (bs : List Bool) (w : World) (hn : gs.length = 16) (hm : bs.length = 16) (h : Rd w w.heap.size A 16 c (pairs gs)) (h' : Rd w w.heap.size B 16 d (bools bs)) :
    Calls Try.prog 18 #[.slice A 16 c, .slice B 16 d] w (RetS w 31 16 (pairs (maskL gs bs))) := by
  have HN := Lib.hid hn
  have HM := Lib.hid hm
  obtain ⟨g, off, rfl⟩ := h.addr (by rw [pairs_length, hn]; omega)
  obtain ⟨g', off', rfl⟩ := h'.addr (by rw [bools_length, hm]; omega)
  clear hn hm
  go_enter Try.func18, Try.ntmps18
  go_wp2
  go_loopw [5, 6] (fun v i wr => ∃ k : Nat, k ≤ 16 ∧ i = .int .i64 k ∧ wr.ownsRow w.heap.size 31 2 v k (pairs ((maskL gs bs).take k)) ∧ Ext w wr) (fun _ i _ => 16 - (intOf i).toNat)
  case atStart => exact ⟨0, Nat.zero_le _, rfl, World.ownsRow_lit w #[] 0 (Nat.le_refl _) (by simp [maxLen]) rfl, (Ext.refl _).alloc _⟩
  case round =>
    obtain ⟨k, hk, rfl, hs, he⟩ := hrel
    by_cases hlt : k < 16
    · obtain ⟨⟨p, q⟩, hp⟩ := at_of_lt (l := gs) (k := k) (by have := HN.out; omega)
      obtain ⟨b, hb⟩ := at_of_lt (l := bs) (k := k) (by have := HM.out; omega)
      have hcb := (h'.below he.below).cell (bools_at hb)
      have hc0 := (h.below he.below).fst hp
      have hc1 := (h.below he.below).snd hp
      have HS := Lib.hid (take_snoc_of (maskL_at hp hb))
      have hsz := he.size
      clear hp hb
      cases b
      · go_wp2_with (first
          | (go_at_call 23; refine (l21Cells_any _).mono ?_; rintro e w' ⟨rfl, rfl⟩)
          | (at_builtin; refine wpList_append2 rfl _ _ _ rfl w.heap.size 31 16 G.info Try.underlying23 _ k _ rfl hs 0 0 rfl (by omega) (by omega) hsz ?_; intro v' w' hs' he'))
        go_roundw
        case rel => exact ⟨k + 1, by omega, by go_num, by rw [HS.out]; exact hs', he' w he (Nat.le_refl _)⟩
        case measure => simp [intOf]; omega
      · go_wp2_with (first
          | (go_at_call 23; refine (l21Cells_any _).mono ?_; rintro e w' ⟨rfl, rfl⟩)
          | (at_builtin; refine wpList_append2 rfl _ _ _ rfl w.heap.size 31 16 G.info Try.underlying23 _ k _ rfl hs p q rfl (by omega) (by omega) hsz ?_; intro v' w' hs' he'))
        go_roundw
        case rel => exact ⟨k + 1, by omega, by go_num, by rw [HS.out]; exact hs', he' w he (Nat.le_refl _)⟩
        case measure => simp [intOf]; omega
    · go_wp2_with (go_at_call 23; refine (l21Cells_any _).mono ?_; rintro e w' ⟨rfl, rfl⟩)
      go_ret
      obtain rfl : k = 16 := by omega
      rw [List.take_of_length_le (by rw [maskL_length HN.out HM.out]; omega)] at hs
      exact RetS.of_own hs he
end Go.Proofs.Ytnpbjfnmmleppaa
