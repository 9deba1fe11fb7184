/-
  Contracts of CoverMany, CoverHoles, CoverJoin, CoverTurn of the reference.
-/
import Derived.Test.YtealhjcibgcllaaCovC
import Derived.Deep.RegionHeld3
namespace Go.Proofs.Ytealhjcibgcllaa
open Go.RowKit

set_option maxHeartbeats 400000 in
theorem specCoverMany_any (A : Option Addr) (n c : Nat) (bs : List Bool) (w : World) (hn : bs.length = n) (h : Rd w w.heap.size A n c (bools bs)) :
    Calls Try.prog 14 #[.slice A n c] w fun e w' => e = .returned (.int .i64 (covMany bs)) ∧ Quiet w w' := by
  have hc := specCoverValid_any A n c bs w hn h
  rcases hv : cvB bs with _ | _
  · rw [hv] at hc
    have HC := Lib.hid hc
    have HV := Lib.hid hv
    clear hc hv hn h
    go_enter Try.func14, Try.ntmps14
    go_wp2_with (go_at_call 10; refine HC.out.mono ?_; rintro e w' ⟨rfl, hq⟩)
    go_ret
    exact ⟨ret_int (by simp [covMany, HV.out]), hq⟩
  · rw [hv] at hc
    obtain rfl : n = 16 := by rw [← hn]; exact cvB_16 hv
    obtain ⟨g, off, rfl⟩ := h.addr (by rw [bools_length, hn]; omega)
    have HC := Lib.hid hc
    have HV := Lib.hid hv
    have HN := Lib.hid hn
    clear hc hv hn
    go_enter Try.func14, Try.ntmps14
    go_wp2_with (go_at_call 10; refine HC.out.mono ?_; rintro e w1 ⟨rfl, hq⟩)
    go_loop [3, 4] (fun m i => ∃ k : Nat, k ≤ 16 ∧ i = .int .i64 k ∧ m = .int .i64 (countTo bs k)) (fun _ i => 16 - (intOf i).toNat)
    case atStart => exact ⟨0, Nat.zero_le _, rfl, rfl⟩
    case round =>
      obtain ⟨k, hk, rfl, rfl⟩ := hrel
      by_cases hlt : k < 16
      · obtain ⟨b, hb⟩ := at_of_lt (l := bs) (k := k) (by have := HN.out; omega)
        have hcb := (hq.cell _).trans (h.cell (bools_at hb))
        have HS := Lib.hid (countTo_succ hb)
        have hle := countTo_le bs k
        clear hb
        cases b
        all_goals
          go_wp2_with (go_at_call 28; refine (l21Cells_any _).mono ?_; rintro e w' ⟨rfl, rfl⟩)
          go_round
          case rel => exact ⟨k + 1, by omega, by go_num, by rw [HS.out]; go_num⟩
          case measure => simp [intOf]; omega
      · go_wp2_with (go_at_call 28; refine (l21Cells_any _).mono ?_; rintro e w' ⟨rfl, rfl⟩)
        go_ret
        have : k = 16 := by omega
        subst this
        exact ⟨ret_int (by simp [covMany, HV.out]), hq⟩

set_option maxHeartbeats 400000 in
theorem specCoverHoles_any (A : Option Addr) (n c : Nat) (bs : List Bool) (w : World) (hn : bs.length = n) (h : Rd w w.heap.size A n c (bools bs)) :
    Calls Try.prog 18 #[.slice A n c] w (RetSB w 4 (covHoles bs).length (bools (covHoles bs)) (cvB bs)) := by
  have hc := specCoverValid_any A n c bs (w.alloc (.cells #[] 4)) hn ((h.alloc (Nat.le_refl _) _).mono (by simp))
  rcases hv : cvB bs with _ | _
  · rw [hv] at hc
    have HC := Lib.hid hc
    have HV := Lib.hid hv
    clear hc hv hn h
    go_enter Try.func18, Try.ntmps18
    go_wp2_with (go_at_call 10; refine HC.out.mono ?_; rintro e w' ⟨rfl, hq⟩)
    go_ret2
    exact RetSB.nil (by simp [covHoles, HV.out]) (by simp [covHoles, HV.out, bools]) (((Ext.refl _).alloc _).trans hq.ext)
  · rw [hv] at hc
    obtain rfl : n = 16 := by rw [← hn]; exact cvB_16 hv
    obtain ⟨g, off, rfl⟩ := h.addr (by rw [bools_length, hn]; omega)
    have HC := Lib.hid hc
    have HV := Lib.hid hv
    have HN := Lib.hid hn
    clear hc hv hn
    go_enter Try.func18, Try.ntmps18
    go_wp2_with (go_at_call 10; refine HC.out.mono ?_; rintro e w1 ⟨rfl, hq⟩)
    go_loopw [4, 5] (fun v i wr => ∃ k : Nat, k ≤ 16 ∧ i = .int .i64 k ∧ wr.ownsRow w.heap.size 4 1 v k (bools ((bs.map (!·)).take k)) ∧ Ext w wr) (fun _ i _ => 16 - (intOf i).toNat)
    case atStart => exact ⟨0, Nat.zero_le _, rfl, own_quiet (World.ownsRow_lit w #[] 0 (Nat.le_refl _) (by simp [maxLen]) rfl) hq, ((Ext.refl _).alloc _).trans hq.ext⟩
    case round =>
      obtain ⟨k, hk, rfl, hs, he⟩ := hrel
      by_cases hlt : k < 16
      · obtain ⟨b, hb⟩ := at_of_lt (l := bs) (k := k) (by have := HN.out; omega)
        have hcb := (h.below he.below).cell (bools_at hb)
        have hsz := he.size
        have HS : Hid ((bs.map (!·)).take (k + 1) = (bs.map (!·)).take k ++ [!b]) := take_snoc_of (by simp [hb])
        clear hb
        go_wp2_with (first
          | (go_at_call 28; refine (l21Cells_any _).mono ?_; rintro e w' ⟨rfl, rfl⟩)
          | (at_builtin; refine wpList_append1 rfl _ _ _ rfl w.heap.size 4 (.bool false) 1 A.infoBool Try.underlying22 rfl _ k _ rfl hs (.bool !b) rfl rfl (by omega) (by omega) hsz ?_; intro v' w' hs' he'))
        go_roundw
        case rel => exact ⟨k + 1, by omega, by go_num, by rw [HS.out, ← bools_append]; exact hs', he' w he (Nat.le_refl _)⟩
        case measure => simp [intOf]; omega
      · go_wp2_with (go_at_call 28; refine (l21Cells_any _).mono ?_; rintro e w' ⟨rfl, rfl⟩)
        go_ret2
        obtain rfl : k = 16 := by omega
        rw [List.take_of_length_le (by simp [HN.out])] at hs
        have := RetSB.of_own (b := true) hs he
        simpa [covHoles, HV.out, HN.out] using this

set_option maxHeartbeats 1000000 in
theorem specCoverJoin_any (A B : Option Addr) (n m c d : Nat) (xs bs : List Bool) (w : World) (hn : xs.length = n) (hm : bs.length = m) (h : Rd w w.heap.size A n c (bools xs)) (h' : Rd w w.heap.size B m d (bools bs)) :
    Calls Try.prog 22 #[.slice A n c, .slice B m d] w (RetSB w 4 (covJoin xs bs).length (bools (covJoin xs bs)) (cvB xs && cvB bs)) := by
  have hc := specCoverValid_any A n c xs (w.alloc (.cells #[] 4)) hn ((h.alloc (Nat.le_refl _) _).mono (by simp))
  have hd : ∀ w1, Quiet (w.alloc (.cells #[] 4)) w1 → Calls Try.prog 10 #[.slice B m d] w1 fun e w' => e = .returned (.bool (cvB bs)) ∧ Quiet w1 w' :=
    fun w1 hq => specCoverValid_any B m d bs w1 hm (((h'.alloc (Nat.le_refl _) _).mono (by simp)).ext hq.ext)
  rcases hv : cvB xs with _ | _
  · rw [hv] at hc
    have HC := Lib.hid hc
    have HV := Lib.hid hv
    clear hc hv hn h hd hm h'
    go_enter Try.func22, Try.ntmps22
    go_wp2_with fail
    refine HC.out.mono ?_
    rintro e w' ⟨rfl, hq⟩
    go_wp2
    go_ret2
    exact RetSB.nil (by simp [covJoin, HV.out]) (by simp [covJoin, HV.out, bools]) (((Ext.refl _).alloc _).trans hq.ext)
  rw [hv] at hc
  rcases hv' : cvB bs with _ | _
  · rw [hv'] at hd
    have HC := Lib.hid hc
    have HD := Lib.hid hd
    have HV := Lib.hid hv
    have HV' := Lib.hid hv'
    clear hc hv hn h hd hm h' hv'
    go_enter Try.func22, Try.ntmps22
    go_wp2_with fail
    refine HC.out.mono ?_
    rintro e w1 ⟨rfl, hq⟩
    go_wp2_with fail
    refine (HD.out w1 hq).mono ?_
    rintro e w2 ⟨rfl, hq2⟩
    go_wp2
    go_ret2
    exact RetSB.nil (by simp [covJoin, HV'.out]) (by simp [covJoin, HV'.out, bools]) (((Ext.refl _).alloc _).trans (hq.trans hq2).ext)
  · rw [hv'] at hd
    obtain rfl : n = 16 := by rw [← hn]; exact cvB_16 hv
    obtain rfl : m = 16 := by rw [← hm]; exact cvB_16 hv'
    obtain ⟨g, off, rfl⟩ := h.addr (by rw [bools_length, hn]; omega)
    obtain ⟨g', off', rfl⟩ := h'.addr (by rw [bools_length, hm]; omega)
    have HC := Lib.hid hc
    have HD := Lib.hid hd
    have HV := Lib.hid hv
    have HV' := Lib.hid hv'
    have HN := Lib.hid hn
    have HM := Lib.hid hm
    clear hc hv hn hd hm hv'
    go_enter Try.func22, Try.ntmps22
    go_wp2_with fail
    refine HC.out.mono ?_
    rintro e w1 ⟨rfl, hq1⟩
    go_wp2_with fail
    refine (HD.out w1 hq1).mono ?_
    rintro e w2 ⟨rfl, hq2⟩
    have hq := hq1.trans hq2
    clear hq1 hq2
    go_wp2
    go_loopw [6, 7] (fun v i wr => ∃ k : Nat, k ≤ 16 ∧ i = .int .i64 k ∧ wr.ownsRow w.heap.size 4 1 v k (bools ((List.zipWith (· || ·) xs bs).take k)) ∧ Ext w wr) (fun _ i _ => 16 - (intOf i).toNat)
    case atStart => exact ⟨0, Nat.zero_le _, rfl, own_quiet (World.ownsRow_lit w #[] 0 (Nat.le_refl _) (by simp [maxLen]) rfl) hq, ((Ext.refl _).alloc _).trans hq.ext⟩
    case round =>
      obtain ⟨k, hk, rfl, hs, he⟩ := hrel
      by_cases hlt : k < 16
      · obtain ⟨b, hb⟩ := at_of_lt (l := xs) (k := k) (by have := HN.out; omega)
        obtain ⟨d', hd⟩ := at_of_lt (l := bs) (k := k) (by have := HM.out; omega)
        have hcb := (h.below he.below).cell (bools_at hb)
        have hcd := (h'.below he.below).cell (bools_at hd)
        have hsz := he.size
        have HS : Hid ((List.zipWith (· || ·) xs bs).take (k + 1) = (List.zipWith (· || ·) xs bs).take k ++ [b || d']) := take_snoc_of (join_at hb hd)
        clear hb hd
        cases b
        all_goals
          go_wp2_with (first
            | (go_at_call 28; refine (l21Cells_any _).mono ?_; rintro e w' ⟨rfl, rfl⟩)
            | (at_builtin; refine wpList_append1 rfl _ _ _ rfl w.heap.size 4 (.bool false) 1 A.infoBool Try.underlying22 rfl _ k _ rfl hs _ rfl rfl (by omega) (by omega) hsz ?_; intro v' w' hs' he'))
          go_roundw
          case rel => exact ⟨k + 1, by omega, by go_num, by rw [HS.out, ← bools_append]; exact hs', he' w he (Nat.le_refl _)⟩
          case measure => simp [intOf]; omega
      · go_wp2_with (go_at_call 28; refine (l21Cells_any _).mono ?_; rintro e w' ⟨rfl, rfl⟩)
        go_ret2
        obtain rfl : k = 16 := by omega
        rw [List.take_of_length_le (by simp [HN.out, HM.out])] at hs
        have := RetSB.of_own (b := true) hs he
        simpa [covJoin, HV.out, HV'.out, HN.out, HM.out] using this

set_option maxHeartbeats 400000 in
theorem specCoverTurn_any (A : Option Addr) (n c : Nat) (bs : List Bool) (w : World) (hn : bs.length = n) (h : Rd w w.heap.size A n c (bools bs)) :
    Calls Try.prog 24 #[.slice A n c] w (RetSB w 4 (covTurn bs).length (bools (covTurn bs)) (cvB bs)) := by
  have hc := specCoverValid_any A n c bs w hn h
  rcases hv : cvB bs with _ | _
  · rw [hv] at hc
    have HC := Lib.hid hc
    have HV := Lib.hid hv
    clear hc hv hn h
    go_enter Try.func24, Try.ntmps24
    go_wp2_with (go_at_call 10; refine HC.out.mono ?_; rintro e w1 ⟨rfl, hq⟩)
    go_ret2
    exact RetSB.nil (by simp [covTurn, HV.out]) (by simp [covTurn, HV.out, bools]) (hq.ext.alloc _)
  · rw [hv] at hc
    obtain rfl : n = 16 := by rw [← hn]; exact cvB_16 hv
    obtain ⟨g, off, rfl⟩ := h.addr (by rw [bools_length, hn]; omega)
    have HC := Lib.hid hc
    have HV := Lib.hid hv
    have HN := Lib.hid hn
    have hmk := make16
    clear hc hv hn
    go_enter Try.func24, Try.ntmps24
    go_wp2_with (first
      | (go_at_call 10; refine HC.out.mono ?_; rintro e w1 ⟨rfl, hq⟩)
      | (go_at_call 28; refine (l21Cells_any _).mono ?_; rintro e w' ⟨rfl, rfl⟩))
    clear hmk
    go_loopw [5] (fun i wr => ∃ k : Nat, k ≤ 16 ∧ i = .int .i64 k ∧ Sl wr w1.heap.size (w1.heap.size + 1) 4 (some ⟨w1.heap.size, 0, none⟩) 16 16 (bools (turnTo bs k)) ∧ Ext w1 wr) (fun i _ => 16 - (intOf i).toNat)
    case atStart => exact ⟨0, Nat.zero_le _, rfl, by rw [turnTo, zeros16, ← bools_rep]; exact Sl.made w1 4 _ 16, (Ext.refl w1).alloc _⟩
    case round =>
      obtain ⟨k, hk, rfl, hs, he⟩ := hrel
      by_cases hlt : k < 16
      · obtain ⟨b, hb⟩ := at_of_lt (l := bs) (k := k) (by have := HN.out; omega)
        have hql := quarter_lt k
        have hcb := (h.below (hq.ext.trans he).below).cell (bools_at hb)
        obtain ⟨b', hb'⟩ := at_of_lt (l := turnTo bs k) (k := quarter k) (by rw [turnTo_length]; omega)
        have hco := hs.cell (bools_at hb')
        have hfo := hs.frozen (by rw [bools_length, turnTo_length]; omega) (0 + quarter k)
        have R := Lib.hid (hs.set_ (quarter k) (.bool b))
        rw [bools_set, ← turnTo_succ hb] at R
        simp only [Nat.zero_add] at hco hfo R
        have HQ := Lib.hid (quarter_wrapped k hlt)
        have h2 : (k : Int) < 16 := by omega
        have h3 : (0 : Int) ≤ (k : Int) := by omega
        have h4 : (0 : Int) ≤ (quarter k : Int) := by omega
        have h5 : (quarter k : Int) < 16 := by omega
        clear hb hb' hs
        go_wp2_with (go_at_call 28; refine (l21Cells_any _).mono ?_; rintro e w' ⟨rfl, rfl⟩)
        have hgl : g ≠ w1.heap.size := by have := h.blk (by rw [bools_length, HN.out]; omega); have := hq.ext.size; omega
        go_region_held3 (fun w' => w'.cell? ⟨g, off + k, none⟩ = some (.bool b)) (first | exact hcb | exact cell_far (Ne.symm hgl) hcb)
          (first | (go_at_call 29; refine (l21At_eq _ _ _ _ HQ.out).mono ?_; rintro e w' ⟨rfl, rfl⟩))
        go_wp2
        go_roundw
        case rel => exact ⟨k + 1, by omega, by go_num, R.out, (he.setCell (Nat.le_refl _) _).drew⟩
        case measure => simp [intOf]; omega
      · go_wp2_with (go_at_call 28; refine (l21Cells_any _).mono ?_; rintro e w' ⟨rfl, rfl⟩)
        go_ret2
        obtain rfl : k = 16 := by omega
        exact RetSB.mk' (by simp [covTurn, HV.out, turnTo_length]) (by simp [covTurn, HV.out]) hs hq.ext.size (hq.ext.trans he)
end Go.Proofs.Ytealhjcibgcllaa
