/-
  Contracts of the laws' own helpers over lists of ints: toIntS, eqIntS, markIntS, heldIntS, sameInts.
-/
import Derived.Test.YtbafniaohjjacaaNum
import Derived.Deep.QuietTactic
import Derived.BigQuiet
namespace Go.Proofs.Ytbafniaohjjacaa
open Go.RowKit

theorem I.infoInt : (Try.prog.info? 3).map (fun i => (i.zero, i.size, i.bytes)) = some (some (.int .i64 0), 1, 8) := by kernel_rfl
theorem makeInts16 (w : World) : (Instr.makeSlice 22 (.int .i64 16) (.int .i64 16)).run Try.prog w = .ok (.slice (some ⟨w.heap.size, 0, none⟩) 16 16) (w.alloc (.cells (madeCells #[.int .i64 0] 16) 3)) :=
  run_make1 (P := Try.prog) 22 3 (.int .i64 0) 8 I.infoInt Try.underlying22 rfl 16 (by omega) (by omega) w

set_option maxHeartbeats 400000 in
theorem toIntS_any (A : Option Addr) (n c : Nat) (bs : List Int) (w : World) (hn : bs.length = n) (hz : n ≤ 1048576) (h : Rd w w.heap.size A n c (ints bs)) :
    Calls Try.prog 12 #[.slice A n c] w (RetS w 3 n (ints bs)) := by
  have HN := Lib.hid hn
  have hmk := run_make1 (P := Try.prog) 22 3 (.int .i64 0) 8 I.infoInt Try.underlying22 rfl n (by omega) (by omega)
  have hl : bs.length = (List.replicate n (0 : Int)).length := by simp [hn]
  have HL := Lib.hid hl
  clear hn hl
  go_enter Try.func12, Try.ntmps12
  go_wp2
  clear hmk
  go_loopw [4] (fun i wr => ∃ k : Nat, k ≤ n ∧ i = .int .i64 k ∧ Sl wr w.heap.size (w.heap.size + 1) 3 (some ⟨w.heap.size, 0, none⟩) n n (ints (over bs (List.replicate n 0) k)) ∧ Ext w wr) (fun i _ => n - (intOf i).toNat)
  case atStart => exact ⟨0, Nat.zero_le _, rfl, by rw [over_zero, ← ints_rep]; exact Sl.made w 3 _ n, (Ext.refl w).alloc _⟩
  case round =>
    obtain ⟨k, hk, rfl, hs, he⟩ := hrel
    by_cases hlt : k < n
    · obtain ⟨b, hb⟩ := at_of_lt (l := bs) (k := k) (by have := HN.out; omega)
      obtain ⟨g, off, rfl⟩ := h.addr (by rw [ints_length, HN.out]; omega)
      have hcb := (h.below he.below).cell (ints_at' hb)
      obtain ⟨b', hb'⟩ := at_of_lt (l := over bs (List.replicate n 0) k) (k := k) (by rw [over_length HL.out]; simp; omega)
      have hco := hs.cell (ints_at' hb')
      have hfo := hs.frozen (by rw [ints_length, over_length HL.out]; simp; omega) (0 + k)
      have R := Lib.hid (hs.set_ k (.int .i64 b))
      rw [ints_set, over_set hb HL.out] at R
      simp only [Nat.zero_add] at hco hfo R
      clear hb hb' hs
      go_wp2
      go_roundw
      case rel => exact ⟨k + 1, by omega, by go_num, R.out, he.setCell (Nat.le_refl _) _⟩
      case measure => simp [intOf]; omega
    · go_wp2
      go_ret
      obtain rfl : k = n := by omega
      rw [over_end HN.out (by simp)] at hs
      exact RetS.mk' rfl rfl hs (Nat.le_refl _) he

def eqToI (a b : List Int) (k : Nat) : Prop := ∀ j, j < k → a[j]? = b[j]?
theorem eqToI_succ {a b : List Int} {k : Nat} (h : eqToI a b k) (e : a[k]? = b[k]?) : eqToI a b (k + 1) := by
  intro j hj
  by_cases hjk : j = k
  · subst hjk; exact e
  · exact h j (by omega)
theorem eqToI_all {a b : List Int} {n : Nat} (h : eqToI a b n) (h1 : a.length = n) (h2 : b.length = n) : a = b := by
  apply List.ext_getElem?
  intro j
  rcases Nat.lt_or_ge j n with hj | hj
  · exact h j hj
  · rw [List.getElem?_eq_none (by omega), List.getElem?_eq_none (by omega)]

set_option maxHeartbeats 400000 in
theorem eqIntS_any (A B : Option Addr) (n m c d : Nat) (xs ys : List Int) (w : World) (hn : xs.length = n) (hm : ys.length = m) (hz : n ≤ 1048576) (h : Rd w w.heap.size A n c (ints xs)) (h' : Rd w w.heap.size B m d (ints ys)) :
    Calls Try.prog 15 #[.slice A n c, .slice B m d] w fun e w' => e = .returned (.bool (decide (xs = ys))) ∧ Quiet w w' := by
  have HN := Lib.hid hn
  have HM := Lib.hid hm
  clear hn hm
  by_cases hnm : n = m
  · subst hnm
    go_enter Try.func15, Try.ntmps15
    go_wp2
    go_loopw [5] (fun i wr => ∃ k : Nat, k ≤ n ∧ i = .int .i64 k ∧ Hid (eqToI xs ys k) ∧ Quiet w wr) (fun i _ => n - (intOf i).toNat)
    case atStart => exact ⟨0, Nat.zero_le _, rfl, fun _ h => by omega, Quiet.refl _⟩
    case round =>
      obtain ⟨k, hk, rfl, hto, hq⟩ := hrel
      by_cases hlt : k < n
      · obtain ⟨b, hb⟩ := at_of_lt (l := xs) (k := k) (by have := HN.out; omega)
        obtain ⟨e, he⟩ := at_of_lt (l := ys) (k := k) (by have := HM.out; omega)
        obtain ⟨g, off, rfl⟩ := h.addr (by rw [ints_length, HN.out]; omega)
        obtain ⟨g', off', rfl⟩ := h'.addr (by rw [ints_length, HM.out]; omega)
        have hcb := (hq.cell _).trans (h.cell (ints_at' hb))
        have hce := (hq.cell _).trans (h'.cell (ints_at' he))
        have HB := Lib.hid hb
        have HE := Lib.hid he
        have h2 : (k : Int) < (n : Int) := by omega
        have h3 : (0 : Int) ≤ (k : Int) := by omega
        clear hb he
        by_cases hbe : b = e
        · subst hbe
          go_wp2
          go_quiet (fail)
          go_wp2
          go_roundw
          case rel => exact ⟨k + 1, by omega, by go_num, eqToI_succ hto (by rw [HB.out, HE.out]), hq.drewN _⟩
          case measure => simp [intOf]; omega
        · have hbe' : (b == e) = false := by simpa using hbe
          have hbe2 : (b != e) = true := by simpa using hbe
          go_wp2
          go_quiet (fail)
          go_wp2
          go_ret
          exact ⟨ret_bool (by symm; simp; rintro rfl; have := HB.out; rw [HE.out] at this; simp at this; exact hbe this.symm), hq.drewN _⟩
      · go_wp2
        go_ret
        obtain rfl : k = n := by omega
        exact ⟨ret_bool (by symm; simp; exact eqToI_all hto HN.out HM.out), hq⟩
  · have hnm' : ((n : Int) == (m : Int)) = false := by simp; omega
    go_enter Try.func15, Try.ntmps15
    go_wp2
    go_ret
    exact ⟨ret_bool (by symm; simp; rintro rfl; exact hnm (by rw [← HN.out, ← HM.out])), Quiet.refl _⟩

set_option maxHeartbeats 400000 in
theorem sameInts_any (A B : Option Addr) (n m c d : Nat) (xs ys : List Int) (w : World) (hn : xs.length = n) (hm : ys.length = m) (hz : n ≤ 1048576) (h : Rd w w.heap.size A n c (ints xs)) (h' : Rd w w.heap.size B m d (ints ys)) :
    Calls Try.prog 32 #[.slice A n c, .slice B m d] w fun e w' => e = .returned (.bool (decide (xs = ys))) ∧ Quiet w w' := by
  have HN := Lib.hid hn
  have HM := Lib.hid hm
  clear hn hm
  by_cases hnm : n = m
  · subst hnm
    go_enter Try.func32, Try.ntmps32
    go_wp2
    go_loopw [5] (fun i wr => ∃ k : Nat, k ≤ n ∧ i = .int .i64 k ∧ Hid (eqToI xs ys k) ∧ Quiet w wr) (fun i _ => n - (intOf i).toNat)
    case atStart => exact ⟨0, Nat.zero_le _, rfl, fun _ h => by omega, Quiet.refl _⟩
    case round =>
      obtain ⟨k, hk, rfl, hto, hq⟩ := hrel
      by_cases hlt : k < n
      · obtain ⟨b, hb⟩ := at_of_lt (l := xs) (k := k) (by have := HN.out; omega)
        obtain ⟨e, he⟩ := at_of_lt (l := ys) (k := k) (by have := HM.out; omega)
        obtain ⟨g, off, rfl⟩ := h.addr (by rw [ints_length, HN.out]; omega)
        obtain ⟨g', off', rfl⟩ := h'.addr (by rw [ints_length, HM.out]; omega)
        have hcb := (hq.cell _).trans (h.cell (ints_at' hb))
        have hce := (hq.cell _).trans (h'.cell (ints_at' he))
        have HB := Lib.hid hb
        have HE := Lib.hid he
        have h2 : (k : Int) < (n : Int) := by omega
        have h3 : (0 : Int) ≤ (k : Int) := by omega
        clear hb he
        by_cases hbe : b = e
        · subst hbe
          go_wp2
          go_quiet (fail)
          go_wp2
          go_roundw
          case rel => exact ⟨k + 1, by omega, by go_num, eqToI_succ hto (by rw [HB.out, HE.out]), hq.drewN _⟩
          case measure => simp [intOf]; omega
        · have hbe' : (b == e) = false := by simpa using hbe
          have hbe2 : (b != e) = true := by simpa using hbe
          go_wp2
          go_quiet (fail)
          go_wp2
          go_ret
          exact ⟨ret_bool (by symm; simp; rintro rfl; have := HB.out; rw [HE.out] at this; simp at this; exact hbe this.symm), hq.drewN _⟩
      · go_wp2
        go_ret
        obtain rfl : k = n := by omega
        exact ⟨ret_bool (by symm; simp; exact eqToI_all hto HN.out HM.out), hq⟩
  · have hnm' : ((n : Int) == (m : Int)) = false := by simp; omega
    go_enter Try.func32, Try.ntmps32
    go_wp2
    go_ret
    exact ⟨ret_bool (by symm; simp; rintro rfl; exact hnm (by rw [← HN.out, ← HM.out])), Quiet.refl _⟩

/-- what markIntS lays: n cells, the first with the number k -/
def marksI (k : Int) (n : Nat) : List Int := (List.range n).map fun i : Nat => k + (i : Int)
theorem marksI_at {k : Int} {n i : Nat} (h : i < n) : (marksI k n)[i]? = some (k + (i : Int)) := by simp [marksI, h]
theorem marksI_length (k : Int) (n : Nat) : (marksI k n).length = n := by simp [marksI]

set_option maxHeartbeats 400000 in
theorem markIntS_any (A : Option Addr) (n c lo hi : Nat) (bs : List Int) (k0 : Int) (w : World) (hn : bs.length = n) (hz : n ≤ 1048576) (hk : 0 ≤ k0) (hk0 : k0 ≤ 10000000) (h : Sl w lo hi 3 A n c (ints bs)) :
    Calls Try.prog 16 #[.slice A n c, .int .i64 k0] w fun e w' => e = .returned (.int .i64 (k0 + n)) ∧ Sl w' lo hi 3 A n c (ints (marksI k0 n)) ∧ Chg lo hi w w' := by
  have hl : (marksI k0 n).length = bs.length := by rw [marksI_length, hn]
  have HL := Lib.hid hl
  have HN := Lib.hid hn
  clear hl hn
  go_enter Try.func16, Try.ntmps16
  go_wp2
  go_loopw [1, 5] (fun q i wr => ∃ k : Nat, k ≤ n ∧ i = .int .i64 k ∧ q = .int .i64 (k0 + k) ∧ Sl wr lo hi 3 A n c (ints (over (marksI k0 n) bs k)) ∧ Chg lo hi w wr) (fun _ i _ => n - (intOf i).toNat)
  case atStart => exact ⟨0, Nat.zero_le _, rfl, by simp, by rw [over_zero]; exact h, Chg.refl _ _ _⟩
  case round =>
    obtain ⟨k, hk, rfl, rfl, hs, he⟩ := hrel
    by_cases hlt : k < n
    · obtain ⟨g, off, rfl, hg1, hg2, hg3⟩ := hs.addr (by rw [ints_length, over_length HL.out, HN.out]; omega)
      obtain ⟨b', hb'⟩ := at_of_lt (l := over (marksI k0 n) bs k) (k := k) (by rw [over_length HL.out, HN.out]; omega)
      have hco := hs.cell (ints_at' hb')
      have hfo := hs.frozen (by rw [ints_length, over_length HL.out, HN.out]; omega) (off + k)
      have R := Lib.hid (hs.set_ k (.int .i64 (k0 + (k : Int))))
      rw [ints_set, over_set (marksI_at hlt) HL.out] at R
      clear hb' hs h
      go_wp2
      go_roundw
      case rel => exact ⟨k + 1, by omega, by go_num, by go_num, R.out, he.setCell (.inl ⟨hg1, hg2⟩) _⟩
      case measure => simp [intOf]; omega
    · go_wp2
      go_ret
      obtain rfl : k = n := by omega
      rw [over_end (marksI_length _ _) HN.out] at hs
      exact ⟨rfl, hs, he⟩
set_option maxHeartbeats 400000 in
theorem heldIntS_any (A : Option Addr) (n c : Nat) (k0 : Int) (w : World) (hz : n ≤ 1048576) (hk : 0 ≤ k0) (hk0 : k0 ≤ 10000000) (h : Rd w w.heap.size A n c (ints (marksI k0 n))) :
    Calls Try.prog 41 #[.slice A n c, .int .i64 k0] w fun e w' => e = .returned (.int .i64 (k0 + n)) ∧ w = w' := by
  go_enter Try.func41, Try.ntmps41
  go_wp2
  go_loop [1, 5] (fun q i => ∃ k : Nat, k ≤ n ∧ i = .int .i64 k ∧ q = .int .i64 (k0 + k)) (fun _ i => n - (intOf i).toNat)
  case atStart => exact ⟨0, Nat.zero_le _, rfl, by simp⟩
  case round =>
    obtain ⟨k, hk, rfl, rfl⟩ := hrel
    by_cases hlt : k < n
    · obtain ⟨g, off, rfl⟩ := h.addr (by rw [ints_length, marksI_length]; omega)
      have hcb := h.cell (ints_at' (marksI_at hlt))
      go_wp2
      go_round
      case rel => exact ⟨k + 1, by omega, by go_num, by go_num⟩
      case measure => simp [intOf]; omega
    · go_wp2
      go_ret
      obtain rfl : k = n := by omega
      exact ⟨rfl, rfl⟩
end Go.Proofs.Ytbafniaohjjacaa
