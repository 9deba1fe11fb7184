/-
  Contracts of the laws' own helpers over lists of ints: toIntS, eqIntS, markIntS, heldIntS, sameInts.
-/
import Derived.Test.YtpjglnmnfmibnabNum
import Derived.Deep.QuietTactic
import Derived.BigQuiet
namespace Go.Proofs.Ytpjglnmnfmibnab
open Go.RowKit

theorem I.infoInt : (Try.prog.info? 3).map (fun i => (i.zero, i.size, i.bytes)) = some (some (.int .i64 0), 1, 8) := by kernel_rfl
theorem makeInts16 (w : World) : (Instr.makeSlice 38 (.int .i64 16) (.int .i64 16)).run Try.prog w = .ok (.slice (some ⟨w.heap.size, 0, none⟩) 16 16) (w.alloc (.cells (madeCells #[.int .i64 0] 16) 3)) :=
  run_make1 (P := Try.prog) 38 3 (.int .i64 0) 8 I.infoInt Try.underlying38 rfl 16 (by omega) (by omega) w


def eqToI (a b : List Int) (k : Nat) : Prop := ∀ j, j < k → a[j]? = b[j]?
theorem eqToI_succ {a b : List Int} {k : Nat} (h : eqToI a b k) (e : a[k]? = b[k]?) : eqToI a b (k + 1) := by
  intro j hj
  by_cases hjk : j = k
  · subst hjk; exact e
  · exact h j (by omega)
theorem eqToI_all {a b : List Int} {n : Nat} (h : eqToI a b n) (h1 : a.length = n) (h2 : b.length = n) : a = b := by
  apply List.ext_getElem?
  intro j
  rcases Nat.lt_or_ge j n with hj | hj
  · exact h j hj
  · rw [List.getElem?_eq_none (by omega), List.getElem?_eq_none (by omega)]


set_option maxHeartbeats 400000 in
theorem sameInts_any (A B : Option Addr) (n m c d : Nat) (xs ys : List Int) (w : World) (hn : xs.length = n) (hm : ys.length = m) (hz : n ≤ 1048576) (h : Rd w w.heap.size A n c (ints xs)) (h' : Rd w w.heap.size B m d (ints ys)) :
    Calls Try.prog 19 #[.slice A n c, .slice B m d] w fun e w' => e = .returned (.bool (decide (xs = ys))) ∧ Quiet w w' := by
  have HN := Lib.hid hn
  have HM := Lib.hid hm
  clear hn hm
  by_cases hnm : n = m
  · subst hnm
    go_enter Try.func19, Try.ntmps19
    go_wp2
    go_loopw [5] (fun i wr => ∃ k : Nat, k ≤ n ∧ i = .int .i64 k ∧ Hid (eqToI xs ys k) ∧ Quiet w wr) (fun i _ => n - (intOf i).toNat)
    case atStart => exact ⟨0, Nat.zero_le _, rfl, fun _ h => by omega, Quiet.refl _⟩
    case round =>
      obtain ⟨k, hk, rfl, hto, hq⟩ := hrel
      by_cases hlt : k < n
      · obtain ⟨b, hb⟩ := at_of_lt (l := xs) (k := k) (by have := HN.out; omega)
        obtain ⟨e, he⟩ := at_of_lt (l := ys) (k := k) (by have := HM.out; omega)
        obtain ⟨g, off, rfl⟩ := h.addr (by rw [ints_length, HN.out]; omega)
        obtain ⟨g', off', rfl⟩ := h'.addr (by rw [ints_length, HM.out]; omega)
        have hcb := (hq.cell _).trans (h.cell (ints_at' hb))
        have hce := (hq.cell _).trans (h'.cell (ints_at' he))
        have HB := Lib.hid hb
        have HE := Lib.hid he
        have h2 : (k : Int) < (n : Int) := by omega
        have h3 : (0 : Int) ≤ (k : Int) := by omega
        clear hb he
        by_cases hbe : b = e
        · subst hbe
          go_wp2
          go_quiet (fail)
          go_wp2
          go_roundw
          case rel => exact ⟨k + 1, by omega, by go_num, eqToI_succ hto (by rw [HB.out, HE.out]), hq.drewN _⟩
          case measure => simp [intOf]; omega
        · have hbe' : (b == e) = false := by simpa using hbe
          have hbe2 : (b != e) = true := by simpa using hbe
          go_wp2
          go_quiet (fail)
          go_wp2
          go_ret
          exact ⟨ret_bool (by symm; simp; rintro rfl; have := HB.out; rw [HE.out] at this; simp at this; exact hbe this.symm), hq.drewN _⟩
      · go_wp2
        go_ret
        obtain rfl : k = n := by omega
        exact ⟨ret_bool (by symm; simp; exact eqToI_all hto HN.out HM.out), hq⟩
  · have hnm' : ((n : Int) == (m : Int)) = false := by simp; omega
    go_enter Try.func19, Try.ntmps19
    go_wp2
    go_ret
    exact ⟨ret_bool (by symm; simp; rintro rfl; exact hnm (by rw [← HN.out, ← HM.out])), Quiet.refl _⟩

/-- what markIntS lays: n cells, the first with the number k -/
def marksI (k : Int) (n : Nat) : List Int := (List.range n).map fun i : Nat => k + (i : Int)
theorem marksI_at {k : Int} {n i : Nat} (h : i < n) : (marksI k n)[i]? = some (k + (i : Int)) := by simp [marksI, h]
theorem marksI_length (k : Int) (n : Nat) : (marksI k n).length = n := by simp [marksI]

end Go.Proofs.Ytpjglnmnfmibnab
