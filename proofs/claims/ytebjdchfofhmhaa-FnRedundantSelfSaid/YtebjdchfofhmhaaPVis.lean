/-
  Contracts of the laws' own helpers over lists of Vis: toVisS, eqVisS, markVisS, heldVisS, szVisS, sameVis.
-/
import Derived.Test.YtebjdchfofhmhaaPairs
import Derived.Test.YtebjdchfofhmhaaProg
import Derived.Deep.QuietTactic
import Derived.BigQuiet
import Derived.Deep.RegionHeld3
namespace Go.Proofs.Ytebjdchfofhmhaa
open Go.RowKit

theorem Vis.info : (Try.prog.info? 44).map (fun i => (i.zero, i.size, i.bytes)) = some (some (.agg #[.int .i64 0, .int .i64 0]), 2, 16) := by kernel_rfl

theorem toVis_any (a b : Int) (w : World) :
    Calls Try.prog 31 #[.agg #[.int .i64 a, .int .i64 b]] w fun e w' => e = .returned (.agg #[.int .i64 a, .int .i64 b]) ∧ Ext w w' := by
  go_enter Try.func31, Try.ntmps31
  go_wp2
  simp [bodyPost, results, Try.results31, go_sem]
  repeat (first | exact Ext.refl _ | apply Ext.alloc | refine Ext.setCell ?_ (by simp) _)
set_option maxHeartbeats 400000 in
theorem toVisS_any (A : Option Addr) (n c : Nat) (gs : List (Int × Int)) (w : World) (hn : gs.length = n) (hz : n ≤ 1048576) (h : Rd w w.heap.size A n c (pairs gs)) :
    Calls Try.prog 13 #[.slice A n c] w (RetS w 44 n (pairs gs)) := by
  have HN := Lib.hid hn
  have hmk := run_make2 (P := Try.prog) 29 44 16 Vis.info Try.underlying29 n (by omega) (by omega)
  have hl : gs.length = (List.replicate n ((0 : Int), (0 : Int))).length := by simp [hn]
  have HL := Lib.hid hl
  clear hn hl
  go_enter Try.func13, Try.ntmps13
  go_wp2
  clear hmk
  go_loopw [4] (fun i wr => ∃ k : Nat, k ≤ n ∧ i = .int .i64 k ∧ Sl wr w.heap.size (w.heap.size + 1) 44 (some ⟨w.heap.size, 0, none⟩) n n (pairs (over gs (List.replicate n (0, 0)) k)) ∧ Ext w wr) (fun i _ => n - (intOf i).toNat)
  case atStart => exact ⟨0, Nat.zero_le _, rfl, by rw [over_zero]; exact Sl.made2 w 44 n, (Ext.refl w).alloc _⟩
  case round =>
    obtain ⟨k, hk, rfl, hs, he⟩ := hrel
    by_cases hlt : k < n
    · obtain ⟨⟨p, q⟩, hb⟩ := at_of_lt (l := gs) (k := k) (by have := HN.out; omega)
      obtain ⟨g, off, rfl⟩ := h.addr (by rw [pairs_length, HN.out]; omega)
      have hc0 := (h.below he.below).fst hb
      have hc1 := (h.below he.below).snd hb
      have HB := Lib.hid hb
      clear hb
      go_wp2_with fail
      refine (toVis_any p q _).mono ?_
      rintro e w1 ⟨rfl, x1⟩
      replace hs := hs.ext x1
      replace he := he.trans x1
      obtain ⟨⟨p', q'⟩, hb'⟩ := at_of_lt (l := over gs (List.replicate n (0, 0)) k) (k := k) (by rw [over_length HL.out]; simp; omega)
      have hco0 := hs.fst hb'
      have hco1 := hs.snd hb'
      have hfo0 := hs.frozen (by rw [pairs_length, over_length HL.out]; simp; omega) (0 + k * 2)
      have hfo1 := hs.frozen (by rw [pairs_length, over_length HL.out]; simp; omega) (0 + k * 2 + 1)
      have R := Lib.hid (hs.set2 k p q)
      rw [over_set HB.out HL.out] at R
      simp only [Nat.zero_add] at hco0 hco1 hfo0 hfo1 R
      clear hb' hs
      go_wp2
      go_roundw
      case rel => exact ⟨k + 1, by omega, by go_num, R.out, (he.setCell (Nat.le_refl _) _).setCell (Nat.le_refl _) _⟩
      case measure => simp [intOf]; omega
    · go_wp2
      go_ret
      obtain rfl : k = n := by omega
      rw [over_end HN.out (by simp)] at hs
      exact RetS.mk' rfl rfl hs (Nat.le_refl _) he
theorem szVisS_any (A : Option Addr) (n c : Nat) (l : Int) (w : World) (hm : n ≤ 9223372036854775807) (h1 : 0 ≤ l) (h2 : l ≤ 1048576) :
    Calls Try.prog 10 #[.slice A n c, .int .i64 l] w fun e w' => e = .returned (.int .i64 (if l < n then -1 else l - n)) ∧ w = w' := by
  by_cases hl : l < n
  · rw [if_pos hl]
    go_enter Try.func10, Try.ntmps10
    go_wp2
    go_ret
    exact ⟨rfl, rfl⟩
  · rw [if_neg hl]
    go_enter Try.func10, Try.ntmps10
    go_wp2
    go_ret
    exact ⟨rfl, rfl⟩

def eqToVis (a b : List (Int × Int)) (k : Nat) : Prop := ∀ j, j < k → a[j]? = b[j]?
theorem eqToVis_succ {a b : List (Int × Int)} {k : Nat} (h : eqToVis a b k) (e : a[k]? = b[k]?) : eqToVis a b (k + 1) := by
  intro j hj
  by_cases hjk : j = k
  · subst hjk; exact e
  · exact h j (by omega)
theorem eqToVis_all {a b : List (Int × Int)} {n : Nat} (h : eqToVis a b n) (h1 : a.length = n) (h2 : b.length = n) : a = b := by
  apply List.ext_getElem?
  intro j
  rcases Nat.lt_or_ge j n with hj | hj
  · exact h j hj
  · rw [List.getElem?_eq_none (by omega), List.getElem?_eq_none (by omega)]
theorem eqVis_any (a b c d : Int) (w : World) :
    Calls Try.prog 34 #[.agg #[.int .i64 a, .int .i64 b], .agg #[.int .i64 c, .int .i64 d]] w fun e w' => e = .returned (.bool (decide ((a, b) = (c, d)))) ∧ ∃ c1 c2 : Array Value, w' = (w.alloc (.cells c1 44)).alloc (.cells c2 44) := by
  by_cases h1 : a = c
  · subst h1
    by_cases h2 : b = d
    · subst h2
      go_enter Try.func34, Try.ntmps34
      go_wp2
      go_ret
      exact ⟨ret_bool (by simp), _, _, rfl⟩
    · have h2' : (b == d) = false := by simpa using h2
      have h2'' : (b != d) = true := by simpa using h2
      go_enter Try.func34, Try.ntmps34
      go_wp2
      go_ret
      exact ⟨ret_bool (by simp [h2]), _, _, rfl⟩
  · have h1' : (a == c) = false := by simpa using h1
    have h1'' : (a != c) = true := by simpa using h1
    go_enter Try.func34, Try.ntmps34
    go_wp2
    go_ret
    exact ⟨ret_bool (by simp [h1]), _, _, rfl⟩
set_option maxHeartbeats 1000000 in
theorem eqVisS_any (A B : Option Addr) (n m c d : Nat) (xs ys : List (Int × Int)) (w : World) (hn : xs.length = n) (hm : ys.length = m) (hz : n ≤ 1048576) (h : Rd w w.heap.size A n c (pairs xs)) (h' : Rd w w.heap.size B m d (pairs ys)) :
    Calls Try.prog 16 #[.slice A n c, .slice B m d] w fun e w' => e = .returned (.bool (decide (xs = ys))) ∧ Ext w w' := by
  have HN := Lib.hid hn
  have HM := Lib.hid hm
  clear hn hm
  by_cases hnm : n = m
  · subst hnm
    go_enter Try.func16, Try.ntmps16
    go_wp2
    go_loopw [5] (fun i wr => ∃ k : Nat, k ≤ n ∧ i = .int .i64 k ∧ Hid (eqToVis xs ys k) ∧ Ext w wr) (fun i _ => n - (intOf i).toNat)
    case atStart => exact ⟨0, Nat.zero_le _, rfl, fun _ h => by omega, Ext.refl _⟩
    case round =>
      obtain ⟨k, hk, rfl, hto, he⟩ := hrel
      by_cases hlt : k < n
      · obtain ⟨⟨p, q⟩, hb⟩ := at_of_lt (l := xs) (k := k) (by have := HN.out; omega)
        obtain ⟨⟨r, s⟩, hb'⟩ := at_of_lt (l := ys) (k := k) (by have := HM.out; omega)
        obtain ⟨g, off, rfl⟩ := h.addr (by rw [pairs_length, HN.out]; omega)
        obtain ⟨g', off', rfl⟩ := h'.addr (by rw [pairs_length, HM.out]; omega)
        have hc0 := (h.below he.below).fst hb
        have hc1 := (h.below he.below).snd hb
        have hd0 := (h'.below he.below).fst hb'
        have hd1 := (h'.below he.below).snd hb'
        have hg : g < wr.heap.size := by have := h.blk (by rw [pairs_length, HN.out]; omega); have := he.size; omega
        have hg' : g' < wr.heap.size := by have := h'.blk (by rw [pairs_length, HM.out]; omega); have := he.size; omega
        have HB := Lib.hid hb
        have HB' := Lib.hid hb'
        have h2 : (k : Int) < (n : Int) := by omega
        have h3 : (0 : Int) ≤ (k : Int) := by omega
        have HC := Lib.hid (fun w' => eqVis_any p q r s w')
        clear hb hb'
        by_cases hpq : (p, q) = (r, s)
        · rw [decide_eq_true hpq] at HC
          have HE := Lib.hid hpq
          clear hpq
          go_wp2
          go_region_held3 (fun w' => w'.cell? ⟨g, off + k * 2, none⟩ = some (.int .i64 p) ∧ w'.cell? ⟨g, off + k * 2 + 1, none⟩ = some (.int .i64 q) ∧ w'.cell? ⟨g', off' + k * 2, none⟩ = some (.int .i64 r) ∧ w'.cell? ⟨g', off' + k * 2 + 1, none⟩ = some (.int .i64 s)) (first | exact ⟨hc0, hc1, hd0, hd1⟩ | exact ⟨cell_new2 hg hc0, cell_new2 hg hc1, cell_new2 hg' hd0, cell_new2 hg' hd1⟩)
            (first | (go_at_call 34; refine (HC.out _).mono ?_; rintro e w' ⟨rfl, o1, o2, rfl⟩))
          go_wp2
          go_roundw
          case rel => exact ⟨k + 1, by omega, by go_num, eqToVis_succ hto (by rw [HB.out, HB'.out, HE.out]), by repeat (first | exact he | apply Ext.drew | apply Ext.alloc)⟩
          case measure => simp [intOf]; omega
        · rw [decide_eq_false hpq] at HC
          have HE := Lib.hid hpq
          clear hpq
          go_wp2
          go_region_held3 (fun w' => w'.cell? ⟨g, off + k * 2, none⟩ = some (.int .i64 p) ∧ w'.cell? ⟨g, off + k * 2 + 1, none⟩ = some (.int .i64 q) ∧ w'.cell? ⟨g', off' + k * 2, none⟩ = some (.int .i64 r) ∧ w'.cell? ⟨g', off' + k * 2 + 1, none⟩ = some (.int .i64 s)) (first | exact ⟨hc0, hc1, hd0, hd1⟩ | exact ⟨cell_new2 hg hc0, cell_new2 hg hc1, cell_new2 hg' hd0, cell_new2 hg' hd1⟩)
            (first | (go_at_call 34; refine (HC.out _).mono ?_; rintro e w' ⟨rfl, o1, o2, rfl⟩))
          go_wp2
          go_ret
          exact ⟨ret_bool (by symm; simp; rintro rfl; have := HB.out; rw [HB'.out] at this; simp only [Option.some.injEq] at this; exact HE.out this.symm), by repeat (first | exact he | apply Ext.drew | apply Ext.alloc)⟩
      · go_wp2
        go_ret
        obtain rfl : k = n := by omega
        exact ⟨ret_bool (by symm; simp; exact eqToVis_all hto HN.out HM.out), he⟩
  · have hnm' : ((n : Int) == (m : Int)) = false := by simp; omega
    go_enter Try.func16, Try.ntmps16
    go_wp2
    go_ret
    exact ⟨ret_bool (by symm; simp; rintro rfl; exact hnm (by rw [← HN.out, ← HM.out])), Ext.refl _⟩
/-- what markVisS lays: n pairs, the first with the number k -/
def marksVis (k : Int) (n : Nat) : List (Int × Int) := (List.range n).map fun i : Nat => (k + 2 * (i : Int), k + 2 * (i : Int) + 1)
theorem marksVis_at {k : Int} {n i : Nat} (h : i < n) : (marksVis k n)[i]? = some (k + 2 * (i : Int), k + 2 * (i : Int) + 1) := by simp [marksVis, h]
theorem marksVis_length (k : Int) (n : Nat) : (marksVis k n).length = n := by simp [marksVis]
set_option maxHeartbeats 400000 in
theorem markVisS_any (A : Option Addr) (n c lo hi : Nat) (bs : List (Int × Int)) (k0 : Int) (w : World) (hn : bs.length = n) (hz : n ≤ 1048576) (hk : 0 ≤ k0) (hk0 : k0 ≤ 10000000) (h : Sl w lo hi 44 A n c (pairs bs)) :
    Calls Try.prog 20 #[.slice A n c, .int .i64 k0] w fun e w' => e = .returned (.int .i64 (k0 + 2 * n)) ∧ Sl w' lo hi 44 A n c (pairs (marksVis k0 n)) ∧ Chg lo hi w w' := by
  have hl : (marksVis k0 n).length = bs.length := by rw [marksVis_length, hn]
  have HL := Lib.hid hl
  have HN := Lib.hid hn
  clear hl hn
  go_enter Try.func20, Try.ntmps20
  go_wp2
  go_loopw [1, 5] (fun q i wr => ∃ k : Nat, k ≤ n ∧ i = .int .i64 k ∧ q = .int .i64 (k0 + 2 * k) ∧ Sl wr lo hi 44 A n c (pairs (over (marksVis k0 n) bs k)) ∧ Chg lo hi w wr) (fun _ i _ => n - (intOf i).toNat)
  case atStart => exact ⟨0, Nat.zero_le _, rfl, by simp, by rw [over_zero]; exact h, Chg.refl _ _ _⟩
  case round =>
    obtain ⟨k, hk, rfl, rfl, hs, he⟩ := hrel
    by_cases hlt : k < n
    · obtain ⟨g, off, rfl, hg1, hg2, hg3⟩ := hs.addr (by rw [pairs_length, over_length HL.out, HN.out]; omega)
      obtain ⟨⟨p', q'⟩, hb'⟩ := at_of_lt (l := over (marksVis k0 n) bs k) (k := k) (by rw [over_length HL.out, HN.out]; omega)
      have hco0 := hs.fst hb'
      have hco1 := hs.snd hb'
      have hfo0 := hs.frozen (by rw [pairs_length, over_length HL.out, HN.out]; omega) (off + k * 2)
      have hfo1 := hs.frozen (by rw [pairs_length, over_length HL.out, HN.out]; omega) (off + k * 2 + 1)
      have R := Lib.hid (hs.set2 k (k0 + 2 * (k : Int)) (k0 + 2 * (k : Int) + 1))
      rw [over_set (marksVis_at hlt) HL.out] at R
      clear hb' hs h
      go_wp2
      go_roundw
      case rel => exact ⟨k + 1, by omega, by go_num, by go_num, R.out, (he.setCell (.inl ⟨hg1, hg2⟩) _).setCell (.inl ⟨hg1, hg2⟩) _⟩
      case measure => simp [intOf]; omega
    · go_wp2
      go_ret
      obtain rfl : k = n := by omega
      rw [over_end (marksVis_length _ _) HN.out] at hs
      exact ⟨rfl, hs, he⟩
set_option maxHeartbeats 400000 in
theorem heldVisS_any (A : Option Addr) (n c : Nat) (k0 : Int) (w : World) (hz : n ≤ 1048576) (hk : 0 ≤ k0) (hk0 : k0 ≤ 10000000) (h : Rd w w.heap.size A n c (pairs (marksVis k0 n))) :
    Calls Try.prog 21 #[.slice A n c, .int .i64 k0] w fun e w' => e = .returned (.int .i64 (k0 + 2 * n)) ∧ w = w' := by
  go_enter Try.func21, Try.ntmps21
  go_wp2
  go_loop [1, 5] (fun q i => ∃ k : Nat, k ≤ n ∧ i = .int .i64 k ∧ q = .int .i64 (k0 + 2 * k)) (fun _ i => n - (intOf i).toNat)
  case atStart => exact ⟨0, Nat.zero_le _, rfl, by simp⟩
  case round =>
    obtain ⟨k, hk, rfl, rfl⟩ := hrel
    by_cases hlt : k < n
    · obtain ⟨g, off, rfl⟩ := h.addr (by rw [pairs_length, marksVis_length]; omega)
      have hc0 := h.fst (marksVis_at hlt)
      have hc1 := h.snd (marksVis_at hlt)
      go_wp2
      go_round
      case rel => exact ⟨k + 1, by omega, by go_num, by go_num⟩
      case measure => simp [intOf]; omega
    · go_wp2
      go_ret
      obtain rfl : k = n := by omega
      exact ⟨rfl, rfl⟩
end Go.Proofs.Ytebjdchfofhmhaa
