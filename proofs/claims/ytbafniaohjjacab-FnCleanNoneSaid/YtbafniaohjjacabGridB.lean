/-
  Contracts over grids: masked, l23Mask, allGauss, GridValid, GridMask.
-/
import Derived.Test.YtbafniaohjjacabGrid
import Derived.Test.YtbafniaohjjacabCovD
namespace Go.Proofs.Ytbafniaohjjacab
open Go.RowKit

theorem makeG16 (w : World) : (Instr.makeSlice 79 (.int .i64 16) (.int .i64 16)).run Try.prog w = .ok (.slice (some ⟨w.heap.size, 0, none⟩) 16 16) (w.alloc (.cells (madeCells #[.int .i64 0, .int .i64 0] 32) 77)) :=
  run_make2 (P := Try.prog) 79 77 16 G.info Try.underlying79 16 (by omega) (by omega) w

set_option maxHeartbeats 400000 in
theorem l23Mask_any (A B : Option Addr) (c d : Nat) (gs : List (Int × Int)) (bs : List Bool) (w : World) (hn : gs.length = 16) (hm : bs.length = 16) (h : Rd w w.heap.size A 16 c (pairs gs)) (h' : Rd w w.heap.size B 16 d (bools bs)) :
    Calls Try.prog 60 #[.slice A 16 c, .slice B 16 d] w (RetS w 77 16 (pairs (maskL gs bs))) := by
  have HN := Lib.hid hn
  have HM := Lib.hid hm
  obtain ⟨g, off, rfl⟩ := h.addr (by rw [pairs_length, hn]; omega)
  obtain ⟨g', off', rfl⟩ := h'.addr (by rw [bools_length, hm]; omega)
  clear hn hm
  go_enter Try.func60, Try.ntmps60
  go_wp2
  go_loopw [5, 6] (fun v i wr => ∃ k : Nat, k ≤ 16 ∧ i = .int .i64 k ∧ wr.ownsRow w.heap.size 77 2 v k (pairs ((maskL gs bs).take k)) ∧ Ext w wr) (fun _ i _ => 16 - (intOf i).toNat)
  case atStart => exact ⟨0, Nat.zero_le _, rfl, World.ownsRow_lit w #[] 0 (Nat.le_refl _) (by simp [maxLen]) rfl, (Ext.refl _).alloc _⟩
  case round =>
    obtain ⟨k, hk, rfl, hs, he⟩ := hrel
    by_cases hlt : k < 16
    · obtain ⟨⟨p, q⟩, hp⟩ := at_of_lt (l := gs) (k := k) (by have := HN.out; omega)
      obtain ⟨b, hb⟩ := at_of_lt (l := bs) (k := k) (by have := HM.out; omega)
      have hcb := (h'.below he.below).cell (bools_at hb)
      have hc0 := (h.below he.below).fst hp
      have hc1 := (h.below he.below).snd hp
      have HS := Lib.hid (take_snoc_of (maskL_at hp hb))
      have hsz := he.size
      clear hp hb
      cases b
      · go_wp2_with (first
          | (go_at_call 47; refine (l21Cells_any _).mono ?_; rintro e w' ⟨rfl, rfl⟩)
          | (at_builtin; refine wpList_append2 rfl _ _ _ rfl w.heap.size 77 16 G.info Try.underlying79 _ k _ rfl hs 0 0 rfl (by omega) (by omega) hsz ?_; intro v' w' hs' he'))
        go_roundw
        case rel => exact ⟨k + 1, by omega, by go_num, by rw [HS.out]; exact hs', he' w he (Nat.le_refl _)⟩
        case measure => simp [intOf]; omega
      · go_wp2_with (first
          | (go_at_call 47; refine (l21Cells_any _).mono ?_; rintro e w' ⟨rfl, rfl⟩)
          | (at_builtin; refine wpList_append2 rfl _ _ _ rfl w.heap.size 77 16 G.info Try.underlying79 _ k _ rfl hs p q rfl (by omega) (by omega) hsz ?_; intro v' w' hs' he'))
        go_roundw
        case rel => exact ⟨k + 1, by omega, by go_num, by rw [HS.out]; exact hs', he' w he (Nat.le_refl _)⟩
        case measure => simp [intOf]; omega
    · go_wp2_with (go_at_call 47; refine (l21Cells_any _).mono ?_; rintro e w' ⟨rfl, rfl⟩)
      go_ret
      obtain rfl : k = 16 := by omega
      rw [List.take_of_length_le (by rw [maskL_length HN.out HM.out]; omega)] at hs
      exact RetS.of_own hs he
end Go.Proofs.Ytbafniaohjjacab
