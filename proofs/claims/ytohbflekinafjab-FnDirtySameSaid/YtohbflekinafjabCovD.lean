/-
  Contracts of CoverMany, CoverHoles, CoverJoin, CoverTurn of the reference.
-/
import Derived.Test.YtohbflekinafjabCovC
import Derived.Deep.RegionHeld3
namespace Go.Proofs.Ytohbflekinafjab
open Go.RowKit


set_option maxHeartbeats 400000 in
theorem specCoverHoles_any (A : Option Addr) (n c : Nat) (bs : List Bool) (w : World) (hn : bs.length = n) (h : Rd w w.heap.size A n c (bools bs)) :
    Calls Try.prog 41 #[.slice A n c] w (RetSB w 4 (covHoles bs).length (bools (covHoles bs)) (cvB bs)) := by
  have hc := specCoverValid_any A n c bs (w.alloc (.cells #[] 4)) hn ((h.alloc (Nat.le_refl _) _).mono (by simp))
  rcases hv : cvB bs with _ | _
  · rw [hv] at hc
    have HC := Lib.hid hc
    have HV := Lib.hid hv
    clear hc hv hn h
    go_enter Try.func41, Try.ntmps41
    go_wp2_with (go_at_call 33; refine HC.out.mono ?_; rintro e w' ⟨rfl, hq⟩)
    go_ret2
    exact RetSB.nil (by simp [covHoles, HV.out]) (by simp [covHoles, HV.out, bools]) (((Ext.refl _).alloc _).trans hq.ext)
  · rw [hv] at hc
    obtain rfl : n = 16 := by rw [← hn]; exact cvB_16 hv
    obtain ⟨g, off, rfl⟩ := h.addr (by rw [bools_length, hn]; omega)
    have HC := Lib.hid hc
    have HV := Lib.hid hv
    have HN := Lib.hid hn
    clear hc hv hn
    go_enter Try.func41, Try.ntmps41
    go_wp2_with (go_at_call 33; refine HC.out.mono ?_; rintro e w1 ⟨rfl, hq⟩)
    go_loopw [4, 5] (fun v i wr => ∃ k : Nat, k ≤ 16 ∧ i = .int .i64 k ∧ wr.ownsRow w.heap.size 4 1 v k (bools ((bs.map (!·)).take k)) ∧ Ext w wr) (fun _ i _ => 16 - (intOf i).toNat)
    case atStart => exact ⟨0, Nat.zero_le _, rfl, own_quiet (World.ownsRow_lit w #[] 0 (Nat.le_refl _) (by simp [maxLen]) rfl) hq, ((Ext.refl _).alloc _).trans hq.ext⟩
    case round =>
      obtain ⟨k, hk, rfl, hs, he⟩ := hrel
      by_cases hlt : k < 16
      · obtain ⟨b, hb⟩ := at_of_lt (l := bs) (k := k) (by have := HN.out; omega)
        have hcb := (h.below he.below).cell (bools_at hb)
        have hsz := he.size
        have HS : Hid ((bs.map (!·)).take (k + 1) = (bs.map (!·)).take k ++ [!b]) := take_snoc_of (by simp [hb])
        clear hb
        go_wp2_with (first
          | (go_at_call 34; refine (l21Cells_any _).mono ?_; rintro e w' ⟨rfl, rfl⟩)
          | (at_builtin; refine wpList_append1 rfl _ _ _ rfl w.heap.size 4 (.bool false) 1 A.infoBool Try.underlying24 rfl _ k _ rfl hs (.bool !b) rfl rfl (by omega) (by omega) hsz ?_; intro v' w' hs' he'))
        go_roundw
        case rel => exact ⟨k + 1, by omega, by go_num, by rw [HS.out, ← bools_append]; exact hs', he' w he (Nat.le_refl _)⟩
        case measure => simp [intOf]; omega
      · go_wp2_with (go_at_call 34; refine (l21Cells_any _).mono ?_; rintro e w' ⟨rfl, rfl⟩)
        go_ret2
        obtain rfl : k = 16 := by omega
        rw [List.take_of_length_le (by simp [HN.out])] at hs
        have := RetSB.of_own (b := true) hs he
        simpa [covHoles, HV.out, HN.out] using this


end Go.Proofs.Ytohbflekinafjab
