/-
  Contracts over grids (lists of Gaussian integers): realGrid, realParts, masked, l23Mask, GridValid.
-/
import Derived.Test.YtohbflekinafjaaSky
import Derived.Test.YtohbflekinafjaaPairs
import Derived.Test.YtohbflekinafjaaMaskPlain
namespace Go.Proofs.Ytohbflekinafjaa
open Go.RowKit

theorem G.info : (Try.prog.info? 47).map (fun i => (i.zero, i.size, i.bytes)) = some (some (.agg #[.int .i64 0, .int .i64 0]), 2, 16) := by kernel_rfl

set_option maxHeartbeats 400000 in
theorem realGrid_any (A : Option Addr) (n c : Nat) (xs : List Int) (w : World) (hn : xs.length = n) (hz : n ≤ 1048576) (h : Rd w w.heap.size A n c (ints xs)) :
    Calls Try.prog 42 #[.slice A n c] w (RetS w 47 n (pairs (realG xs))) := by
  have HN := Lib.hid hn
  clear hn
  go_enter Try.func42, Try.ntmps42
  go_wp2
  go_loopw [3, 8] (fun v i wr => ∃ k : Nat, k ≤ n ∧ i = .int .i64 k ∧ wr.ownsRow w.heap.size 47 2 v k (pairs ((realG xs).take k)) ∧ Ext w wr) (fun _ i _ => n - (intOf i).toNat)
  case atStart => exact ⟨0, Nat.zero_le _, rfl, World.ownsRow_nil _ _ _ _, Ext.refl _⟩
  case round =>
    obtain ⟨k, hk, rfl, hs, he⟩ := hrel
    by_cases hlt : k < n
    · obtain ⟨b, hb⟩ := at_of_lt (l := xs) (k := k) (by have := HN.out; omega)
      obtain ⟨g, off, rfl⟩ := h.addr (by rw [ints_length, HN.out]; omega)
      have hcb := (h.below he.below).cell (ints_at' hb)
      have hsz := he.size
      have HS : Hid ((realG xs).take (k + 1) = (realG xs).take k ++ [(b, 0)]) := take_snoc_of (by simp [realG, hb])
      clear hb
      go_wp2_with (at_builtin; refine wpList_append2 rfl _ _ _ rfl w.heap.size 47 16 G.info Try.underlying31 _ k _ rfl hs b 0 rfl (by omega) (by omega) hsz ?_; intro v' w' hs' he')
      go_roundw
      case rel => exact ⟨k + 1, by omega, by go_num, by rw [HS.out]; exact hs', he' w he (Nat.le_refl _)⟩
      case measure => simp [intOf]; omega
    · go_wp2
      go_ret
      obtain rfl : k = n := by omega
      rw [List.take_of_length_le (by simp [realG, HN.out])] at hs
      exact RetS.of_own hs he
set_option maxHeartbeats 400000 in
theorem realParts_any (A : Option Addr) (n c : Nat) (gs : List (Int × Int)) (w : World) (hn : gs.length = n) (hz : n ≤ 1048576) (h : Rd w w.heap.size A n c (pairs gs)) :
    Calls Try.prog 51 #[.slice A n c] w (RetS w 3 n (ints (reals gs))) := by
  have HN := Lib.hid hn
  clear hn
  go_enter Try.func51, Try.ntmps51
  go_wp2
  go_loopw [3, 8] (fun v i wr => ∃ k : Nat, k ≤ n ∧ i = .int .i64 k ∧ wr.ownsRow w.heap.size 3 1 v k (ints ((reals gs).take k)) ∧ Ext w wr) (fun _ i _ => n - (intOf i).toNat)
  case atStart => exact ⟨0, Nat.zero_le _, rfl, World.ownsRow_nil _ _ _ _, Ext.refl _⟩
  case round =>
    obtain ⟨k, hk, rfl, hs, he⟩ := hrel
    by_cases hlt : k < n
    · obtain ⟨⟨p, q⟩, hb⟩ := at_of_lt (l := gs) (k := k) (by have := HN.out; omega)
      obtain ⟨g, off, rfl⟩ := h.addr (by rw [pairs_length, HN.out]; omega)
      have hc0 := (h.below he.below).fst hb
      have hc1 := (h.below he.below).snd hb
      have hsz := he.size
      have HS : Hid ((reals gs).take (k + 1) = (reals gs).take k ++ [p]) := take_snoc_of (by simp [reals, hb])
      clear hb
      go_wp2_with (at_builtin; refine wpList_append1 (w := wr.alloc (.cells #[.int .i64 p, .int .i64 q] 47)) rfl _ _ _ rfl w.heap.size 3 (.int .i64 0) 8 I.infoInt Try.underlying22 rfl _ k _ rfl (hs.alloc _) (.int .i64 p) (by simp; rfl) rfl (by omega) (by omega) (by simp; omega) ?_; intro v' w' hs' he')
      go_roundw
      case rel => exact ⟨k + 1, by omega, by go_num, by rw [HS.out, ← ints_append]; exact hs', he' w (he.alloc _) (Nat.le_refl _)⟩
      case measure => simp [intOf]; omega
    · go_wp2
      go_ret
      obtain rfl : k = n := by omega
      rw [List.take_of_length_le (by simp [reals, HN.out])] at hs
      exact RetS.of_own hs he
end Go.Proofs.Ytohbflekinafjaa
