/-
  Contracts of the laws' own helpers over lists of bools: toBoolS, eqBoolS, markBoolS, heldBoolS, sameFlags, fullCover.
-/
import Derived.Test.YtohbflekinafjaaNum
import Derived.Deep.QuietTactic
import Derived.BigQuiet
namespace Go.Proofs.Ytohbflekinafjaa
open Go.RowKit

theorem B.infoBool : (Try.prog.info? 4).map (fun i => (i.zero, i.size, i.bytes)) = some (some (.bool false), 1, 1) := by kernel_rfl

set_option maxHeartbeats 400000 in
theorem toBoolS_any (A : Option Addr) (n c : Nat) (bs : List Bool) (w : World) (hn : bs.length = n) (hz : n ≤ 1048576) (h : Rd w w.heap.size A n c (bools bs)) :
    Calls Try.prog 11 #[.slice A n c] w (RetS w 4 n (bools bs)) := by
  have HN := Lib.hid hn
  have hmk := run_make1 (P := Try.prog) 23 4 (.bool false) 1 B.infoBool Try.underlying23 rfl n (by omega) (by omega)
  have hl : bs.length = (List.replicate n false).length := by simp [hn]
  have HL := Lib.hid hl
  clear hn hl
  go_enter Try.func11, Try.ntmps11
  go_wp2
  clear hmk
  go_loopw [4] (fun i wr => ∃ k : Nat, k ≤ n ∧ i = .int .i64 k ∧ Sl wr w.heap.size (w.heap.size + 1) 4 (some ⟨w.heap.size, 0, none⟩) n n (bools (over bs (List.replicate n false) k)) ∧ Ext w wr) (fun i _ => n - (intOf i).toNat)
  case atStart => exact ⟨0, Nat.zero_le _, rfl, by rw [over_zero, ← bools_rep]; exact Sl.made w 4 _ n, (Ext.refl w).alloc _⟩
  case round =>
    obtain ⟨k, hk, rfl, hs, he⟩ := hrel
    by_cases hlt : k < n
    · obtain ⟨b, hb⟩ := at_of_lt (l := bs) (k := k) (by have := HN.out; omega)
      obtain ⟨g, off, rfl⟩ := h.addr (by rw [bools_length, HN.out]; omega)
      have hcb := (h.below he.below).cell (bools_at hb)
      obtain ⟨b', hb'⟩ := at_of_lt (l := over bs (List.replicate n false) k) (k := k) (by rw [over_length HL.out]; simp; omega)
      have hco := hs.cell (bools_at hb')
      have hfo := hs.frozen (by rw [bools_length, over_length HL.out]; simp; omega) (0 + k)
      have R := Lib.hid (hs.set_ k (.bool b))
      rw [bools_set, over_set hb HL.out] at R
      simp only [Nat.zero_add] at hco hfo R
      clear hb hb' hs
      go_wp2
      go_roundw
      case rel => exact ⟨k + 1, by omega, by go_num, R.out, he.setCell (Nat.le_refl _) _⟩
      case measure => simp [intOf]; omega
    · go_wp2
      go_ret
      obtain rfl : k = n := by omega
      rw [over_end HN.out (by simp)] at hs
      exact RetS.mk' rfl rfl hs (Nat.le_refl _) he

def eqTo (a b : List Bool) (k : Nat) : Prop := ∀ j, j < k → a[j]? = b[j]?
theorem eqTo_succ {a b : List Bool} {k : Nat} (h : eqTo a b k) (e : a[k]? = b[k]?) : eqTo a b (k + 1) := by
  intro j hj
  by_cases hjk : j = k
  · subst hjk; exact e
  · exact h j (by omega)
theorem eqTo_all {a b : List Bool} {n : Nat} (h : eqTo a b n) (h1 : a.length = n) (h2 : b.length = n) : a = b := by
  apply List.ext_getElem?
  intro j
  rcases Nat.lt_or_ge j n with hj | hj
  · exact h j hj
  · rw [List.getElem?_eq_none (by omega), List.getElem?_eq_none (by omega)]

set_option maxHeartbeats 400000 in
theorem eqBoolS_any (A B : Option Addr) (n m c d : Nat) (xs ys : List Bool) (w : World) (hn : xs.length = n) (hm : ys.length = m) (hz : n ≤ 1048576) (h : Rd w w.heap.size A n c (bools xs)) (h' : Rd w w.heap.size B m d (bools ys)) :
    Calls Try.prog 14 #[.slice A n c, .slice B m d] w fun e w' => e = .returned (.bool (decide (xs = ys))) ∧ Quiet w w' := by
  have HN := Lib.hid hn
  have HM := Lib.hid hm
  clear hn hm
  by_cases hnm : n = m
  · subst hnm
    go_enter Try.func14, Try.ntmps14
    go_wp2
    go_loopw [5] (fun i wr => ∃ k : Nat, k ≤ n ∧ i = .int .i64 k ∧ Hid (eqTo xs ys k) ∧ Quiet w wr) (fun i _ => n - (intOf i).toNat)
    case atStart => exact ⟨0, Nat.zero_le _, rfl, fun _ h => by omega, Quiet.refl _⟩
    case round =>
      obtain ⟨k, hk, rfl, hto, hq⟩ := hrel
      by_cases hlt : k < n
      · obtain ⟨b, hb⟩ := at_of_lt (l := xs) (k := k) (by have := HN.out; omega)
        obtain ⟨e, he⟩ := at_of_lt (l := ys) (k := k) (by have := HM.out; omega)
        obtain ⟨g, off, rfl⟩ := h.addr (by rw [bools_length, HN.out]; omega)
        obtain ⟨g', off', rfl⟩ := h'.addr (by rw [bools_length, HM.out]; omega)
        have hcb := (hq.cell _).trans (h.cell (bools_at hb))
        have hce := (hq.cell _).trans (h'.cell (bools_at he))
        have HB := Lib.hid hb
        have HE := Lib.hid he
        have h2 : (k : Int) < (n : Int) := by omega
        have h3 : (0 : Int) ≤ (k : Int) := by omega
        clear hb he
        cases b <;> cases e
        all_goals
          go_wp2
          go_quiet (fail)
          go_wp2
        · go_roundw
          case rel => exact ⟨k + 1, by omega, by go_num, eqTo_succ hto (by rw [HB.out, HE.out]), hq.drewN _⟩
          case measure => simp [intOf]; omega
        · go_ret
          exact ⟨ret_bool (by symm; simp; rintro rfl; have := HB.out; rw [HE.out] at this; cases this), hq.drewN _⟩
        · go_ret
          exact ⟨ret_bool (by symm; simp; rintro rfl; have := HB.out; rw [HE.out] at this; cases this), hq.drewN _⟩
        · go_roundw
          case rel => exact ⟨k + 1, by omega, by go_num, eqTo_succ hto (by rw [HB.out, HE.out]), hq.drewN _⟩
          case measure => simp [intOf]; omega
      · go_wp2
        go_ret
        obtain rfl : k = n := by omega
        exact ⟨ret_bool (by symm; simp; exact eqTo_all hto HN.out HM.out), hq⟩
  · have hnm' : ((n : Int) == (m : Int)) = false := by simp; omega
    go_enter Try.func14, Try.ntmps14
    go_wp2
    go_ret
    exact ⟨ret_bool (by symm; simp; rintro rfl; exact hnm (by rw [← HN.out, ← HM.out])), Quiet.refl _⟩


/-- what markBoolS lays: n cells, the first with the number k -/
def marksB (k : Int) (n : Nat) : List Bool := (List.range n).map fun i : Nat => ((k + (i : Int)) % 3 == 0)
theorem marksB_at {k : Int} {n i : Nat} (h : i < n) : (marksB k n)[i]? = some ((k + (i : Int)) % 3 == 0) := by simp [marksB, h]
theorem marksB_length (k : Int) (n : Nat) : (marksB k n).length = n := by simp [marksB]

set_option maxHeartbeats 400000 in
theorem markBoolS_any (A : Option Addr) (n c lo hi : Nat) (bs : List Bool) (k0 : Int) (w : World) (hn : bs.length = n) (hz : n ≤ 1048576) (hk : 0 ≤ k0) (hk0 : k0 ≤ 10000000) (h : Sl w lo hi 4 A n c (bools bs)) :
    Calls Try.prog 21 #[.slice A n c, .int .i64 k0] w fun e w' => e = .returned (.int .i64 (k0 + n)) ∧ Sl w' lo hi 4 A n c (bools (marksB k0 n)) ∧ Chg lo hi w w' := by
  have hl : (marksB k0 n).length = bs.length := by rw [marksB_length, hn]
  have HL := Lib.hid hl
  have HN := Lib.hid hn
  clear hl hn
  go_enter Try.func21, Try.ntmps21
  go_wp2
  go_loopw [1, 5] (fun q i wr => ∃ k : Nat, k ≤ n ∧ i = .int .i64 k ∧ q = .int .i64 (k0 + k) ∧ Sl wr lo hi 4 A n c (bools (over (marksB k0 n) bs k)) ∧ Chg lo hi w wr) (fun _ i _ => n - (intOf i).toNat)
  case atStart => exact ⟨0, Nat.zero_le _, rfl, by simp, by rw [over_zero]; exact h, Chg.refl _ _ _⟩
  case round =>
    obtain ⟨k, hk, rfl, rfl, hs, he⟩ := hrel
    by_cases hlt : k < n
    · obtain ⟨g, off, rfl, hg1, hg2, hg3⟩ := hs.addr (by rw [bools_length, over_length HL.out, HN.out]; omega)
      obtain ⟨b', hb'⟩ := at_of_lt (l := over (marksB k0 n) bs k) (k := k) (by rw [over_length HL.out, HN.out]; omega)
      have hco := hs.cell (bools_at hb')
      have hfo := hs.frozen (by rw [bools_length, over_length HL.out, HN.out]; omega) (off + k)
      have R := Lib.hid (hs.set_ k (.bool ((k0 + (k : Int)) % 3 == 0)))
      rw [bools_set, over_set (marksB_at hlt) HL.out] at R
      clear hb' hs h
      go_wp2
      go_roundw
      case rel => exact ⟨k + 1, by omega, by go_num, by go_num, R.out, he.setCell (.inl ⟨hg1, hg2⟩) _⟩
      case measure => simp [intOf]; omega
    · go_wp2
      go_ret
      obtain rfl : k = n := by omega
      rw [over_end (marksB_length _ _) HN.out] at hs
      exact ⟨rfl, hs, he⟩
theorem rep_snoc {α : Type} (k : Nat) (x : α) : List.replicate (k + 1) x = List.replicate k x ++ [x] := List.replicate_succ'
set_option maxHeartbeats 400000 in
theorem fullCover_any (w : World) : Calls Try.prog 30 #[] w (RetS w 4 16 (bools full16)) := by
  go_enter Try.func30, Try.ntmps30
  go_wp2
  go_loopw [1, 2] (fun v i wr => ∃ k : Nat, k ≤ 16 ∧ i = .int .i64 k ∧ wr.ownsRow w.heap.size 4 1 v k (bools (List.replicate k true)) ∧ Ext w wr) (fun _ i _ => 16 - (intOf i).toNat)
  case atStart => exact ⟨0, Nat.zero_le _, rfl, World.ownsRow_lit w #[] 0 (Nat.le_refl _) (by simp [maxLen]) rfl, (Ext.refl _).alloc _⟩
  case round =>
    obtain ⟨k, hk, rfl, hs, he⟩ := hrel
    by_cases hlt : k < 16
    · have hsz := he.size
      go_wp2_with (at_builtin; refine wpList_append1 rfl _ _ _ rfl w.heap.size 4 (.bool false) 1 B.infoBool Try.underlying23 rfl _ k _ rfl hs _ rfl rfl (by omega) (by omega) hsz ?_; intro v' w' hs' he')
      go_roundw
      case rel => exact ⟨k + 1, by omega, by go_num, by rw [rep_snoc, ← bools_append]; exact hs', he' w he (Nat.le_refl _)⟩
      case measure => simp [intOf]; omega
    · go_wp2
      go_ret
      obtain rfl : k = 16 := by omega
      exact RetS.of_own hs he
end Go.Proofs.Ytohbflekinafjaa
