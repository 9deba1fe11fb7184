/-
  Contracts of CoverJoin and CoverTurn of the program.
-/
import Derived.Test.YtealhjcibgcllaaCovB
namespace Go.Proofs.Ytealhjcibgcllaa
open Go.RowKit

theorem join_at {a b : List Bool} {k : Nat} {x y : Bool} (h : a[k]? = some x) (h' : b[k]? = some y) : (List.zipWith (· || ·) a b)[k]? = some (x || y) := by
  rw [List.getElem?_zipWith, h, h']
set_option maxHeartbeats 1000000 in
theorem coverJoin_any (A B : Option Addr) (n m c d : Nat) (xs bs : List Bool) (w : World) (hn : xs.length = n) (hm : bs.length = m) (h : Rd w w.heap.size A n c (bools xs)) (h' : Rd w w.heap.size B m d (bools bs)) :
    Calls Try.prog 23 #[.slice A n c, .slice B m d] w (RetSB w 4 (covJoin xs bs).length (bools (covJoin xs bs)) (cvB xs && cvB bs)) := by
  have hc := coverValid_any A n c xs w hn h
  have hd := coverValid_any B m d bs w hm h'
  rcases hv : cvB xs with _ | _
  · rw [hv] at hc
    have HC := Lib.hid hc
    have HV := Lib.hid hv
    clear hc hv hn h hd hm h'
    go_enter Try.func23, Try.ntmps23
    go_wp2_with fail
    refine HC.out.mono ?_
    rintro e w' ⟨rfl, rfl⟩
    go_wp2
    go_ret2
    exact RetSB.nil (by simp [covJoin, HV.out]) (by simp [covJoin, HV.out, bools]) (Ext.refl _)
  rw [hv] at hc
  rcases hv' : cvB bs with _ | _
  · rw [hv'] at hd
    have HC := Lib.hid hc
    have HD := Lib.hid hd
    have HV := Lib.hid hv
    have HV' := Lib.hid hv'
    clear hc hv hn h hd hm h' hv'
    go_enter Try.func23, Try.ntmps23
    go_wp2_with fail
    refine HC.out.mono ?_
    rintro e w' ⟨rfl, rfl⟩
    go_wp2_with fail
    refine HD.out.mono ?_
    rintro e w' ⟨rfl, rfl⟩
    go_wp2
    go_ret2
    exact RetSB.nil (by simp [covJoin, HV'.out]) (by simp [covJoin, HV'.out, bools]) (Ext.refl _)
  · rw [hv'] at hd
    obtain rfl : n = 16 := by rw [← hn]; exact cvB_16 hv
    obtain rfl : m = 16 := by rw [← hm]; exact cvB_16 hv'
    obtain ⟨g, off, rfl⟩ := h.addr (by rw [bools_length, hn]; omega)
    obtain ⟨g', off', rfl⟩ := h'.addr (by rw [bools_length, hm]; omega)
    have HC := Lib.hid hc
    have HD := Lib.hid hd
    have HV := Lib.hid hv
    have HV' := Lib.hid hv'
    have HN := Lib.hid hn
    have HM := Lib.hid hm
    have hl : (List.zipWith (· || ·) xs bs).length = zeros16.length := by simp [hn, hm, zeros16]
    have HL := Lib.hid hl
    have hmk := make16
    clear hc hv hn hl hd hm hv'
    go_enter Try.func23, Try.ntmps23
    go_wp2_with fail
    refine HC.out.mono ?_
    rintro e w' ⟨rfl, rfl⟩
    go_wp2_with fail
    refine HD.out.mono ?_
    rintro e w' ⟨rfl, rfl⟩
    go_wp2
    clear hmk
    go_loopw [21] (fun i wr => ∃ k : Nat, k ≤ 16 ∧ i = .int .i64 k ∧ Sl wr w.heap.size (w.heap.size + 1) 4 (some ⟨w.heap.size, 0, none⟩) 16 16 (bools (over (List.zipWith (· || ·) xs bs) zeros16 k)) ∧ Ext w wr) (fun i _ => 16 - (intOf i).toNat)
    case atStart => exact ⟨0, Nat.zero_le _, rfl, by rw [over_zero, zeros16, ← bools_rep]; exact Sl.made w 4 _ 16, (Ext.refl w).alloc _⟩
    case round =>
      obtain ⟨k, hk, rfl, hs, he⟩ := hrel
      by_cases hlt : k < 16
      · obtain ⟨b, hb⟩ := at_of_lt (l := xs) (k := k) (by have := HN.out; omega)
        obtain ⟨d', hd⟩ := at_of_lt (l := bs) (k := k) (by have := HM.out; omega)
        have hcb := (h.below he.below).cell (bools_at hb)
        have hcd := (h'.below he.below).cell (bools_at hd)
        obtain ⟨b', hb'⟩ := at_of_lt (l := over (List.zipWith (· || ·) xs bs) zeros16 k) (k := k) (by rw [over_length HL.out]; simp [zeros16]; omega)
        have hco := hs.cell (bools_at hb')
        have hfo := hs.frozen (by rw [bools_length, over_length HL.out]; simp [zeros16]) (0 + k)
        have R := Lib.hid (hs.set_ k (.bool (b || d')))
        rw [bools_set, over_set (join_at hb hd) HL.out] at R
        simp only [Nat.zero_add] at hco hfo R
        clear hb hb' hs hd
        cases b
        all_goals
          go_wp2
          go_roundw
          case rel => exact ⟨k + 1, by omega, by go_num, R.out, he.setCell (Nat.le_refl _) _⟩
          case measure => simp [intOf]; omega
      · go_wp2
        go_ret2
        obtain rfl : k = 16 := by omega
        rw [over_end (n := 16) (by simp [HN.out, HM.out]) (by simp [zeros16])] at hs
        exact RetSB.mk' (by simp [covJoin, HV.out, HV'.out, HN.out, HM.out]) (by simp [covJoin, HV.out, HV'.out]) hs (Nat.le_refl _) he

set_option maxHeartbeats 400000 in
theorem coverTurn_any (A : Option Addr) (n c : Nat) (bs : List Bool) (w : World) (hn : bs.length = n) (h : Rd w w.heap.size A n c (bools bs)) :
    Calls Try.prog 25 #[.slice A n c] w (RetSB w 4 (covTurn bs).length (bools (covTurn bs)) (cvB bs)) := by
  have hc := coverValid_any A n c bs w hn h
  rcases hv : cvB bs with _ | _
  · rw [hv] at hc
    have HC := Lib.hid hc
    have HV := Lib.hid hv
    clear hc hv hn h
    go_enter Try.func25, Try.ntmps25
    go_wp2_with (go_at_call 12; refine HC.out.mono ?_; rintro e w' ⟨rfl, rfl⟩)
    go_ret2
    exact RetSB.nil (by simp [covTurn, HV.out]) (by simp [covTurn, HV.out, bools]) (Ext.refl _)
  · rw [hv] at hc
    obtain rfl : n = 16 := by rw [← hn]; exact cvB_16 hv
    obtain ⟨g, off, rfl⟩ := h.addr (by rw [bools_length, hn]; omega)
    have HC := Lib.hid hc
    have HV := Lib.hid hv
    have HN := Lib.hid hn
    have hmk := make16
    clear hc hv hn
    go_enter Try.func25, Try.ntmps25
    go_wp2_with (go_at_call 12; refine HC.out.mono ?_; rintro e w' ⟨rfl, rfl⟩)
    clear hmk
    go_loopw [15] (fun i wr => ∃ k : Nat, k ≤ 16 ∧ i = .int .i64 k ∧ Sl wr w.heap.size (w.heap.size + 1) 4 (some ⟨w.heap.size, 0, none⟩) 16 16 (bools (turnTo bs k)) ∧ Ext w wr) (fun i _ => 16 - (intOf i).toNat)
    case atStart => exact ⟨0, Nat.zero_le _, rfl, by rw [turnTo, zeros16, ← bools_rep]; exact Sl.made w 4 _ 16, (Ext.refl w).alloc _⟩
    case round =>
      obtain ⟨k, hk, rfl, hs, he⟩ := hrel
      by_cases hlt : k < 16
      · obtain ⟨b, hb⟩ := at_of_lt (l := bs) (k := k) (by have := HN.out; omega)
        have hql := quarter_lt k
        have hcb := (h.below he.below).cell (bools_at hb)
        obtain ⟨b', hb'⟩ := at_of_lt (l := turnTo bs k) (k := quarter k) (by rw [turnTo_length]; omega)
        have hco := hs.cell (bools_at hb')
        have hfo := hs.frozen (by rw [bools_length, turnTo_length]; omega) (0 + quarter k)
        have R := Lib.hid (hs.set_ (quarter k) (.bool b))
        rw [bools_set, ← turnTo_succ hb] at R
        simp only [Nat.zero_add] at hco hfo R
        have HQ : Hid (4 * ((k : Int) % 4 % 4) + -((k : Int) / 4) % 4 = (quarter k : Int)) := by unfold quarter; show _ = _; omega
        clear hb hb' hs
        go_wp2_with (go_at_call 35; refine (cellAt_eq _ _ _ _ HQ.out).mono ?_; rintro e w' ⟨rfl, rfl⟩)
        go_roundw
        case rel => exact ⟨k + 1, by omega, by go_num, R.out, he.setCell (Nat.le_refl _) _⟩
        case measure => simp [intOf]; omega
      · go_wp2
        go_ret2
        obtain rfl : k = 16 := by omega
        exact RetSB.mk' (by simp [covTurn, HV.out, turnTo_length]) (by simp [covTurn, HV.out]) hs (Nat.le_refl _) he
end Go.Proofs.Ytealhjcibgcllaa
