/-
  Contracts of the laws' own helpers over lists of bools: toBoolS, eqBoolS, markBoolS, heldBoolS, sameFlags, fullCover.
-/
import Derived.Test.YtnpbjfnmmleppaaNum
import Derived.Deep.QuietTactic
import Derived.BigQuiet
namespace Go.Proofs.Ytnpbjfnmmleppaa
open Go.RowKit

theorem B.infoBool : (Try.prog.info? 4).map (fun i => (i.zero, i.size, i.bytes)) = some (some (.bool false), 1, 1) := by kernel_rfl


def eqTo (a b : List Bool) (k : Nat) : Prop := ∀ j, j < k → a[j]? = b[j]?
theorem eqTo_succ {a b : List Bool} {k : Nat} (h : eqTo a b k) (e : a[k]? = b[k]?) : eqTo a b (k + 1) := by
  intro j hj
  by_cases hjk : j = k
  · subst hjk; exact e
  · exact h j (by omega)
theorem eqTo_all {a b : List Bool} {n : Nat} (h : eqTo a b n) (h1 : a.length = n) (h2 : b.length = n) : a = b := by
  apply List.ext_getElem?
  intro j
  rcases Nat.lt_or_ge j n with hj | hj
  · exact h j hj
  · rw [List.getElem?_eq_none (by omega), List.getElem?_eq_none (by omega)]



/-- what markBoolS lays: n cells, the first with the number k -/
def marksB (k : Int) (n : Nat) : List Bool := (List.range n).map fun i : Nat => ((k + (i : Int)) % 3 == 0)
theorem marksB_at {k : Int} {n i : Nat} (h : i < n) : (marksB k n)[i]? = some ((k + (i : Int)) % 3 == 0) := by simp [marksB, h]
theorem marksB_length (k : Int) (n : Nat) : (marksB k n).length = n := by simp [marksB]

theorem rep_snoc {α : Type} (k : Nat) (x : α) : List.replicate (k + 1) x = List.replicate k x ++ [x] := List.replicate_succ'
set_option maxHeartbeats 400000 in
theorem fullCover_any (w : World) : Calls Try.prog 9 #[] w (RetS w 4 16 (bools full16)) := by
  go_enter Try.func9, Try.ntmps9
  go_wp2
  go_loopw [1, 2] (fun v i wr => ∃ k : Nat, k ≤ 16 ∧ i = .int .i64 k ∧ wr.ownsRow w.heap.size 4 1 v k (bools (List.replicate k true)) ∧ Ext w wr) (fun _ i _ => 16 - (intOf i).toNat)
  case atStart => exact ⟨0, Nat.zero_le _, rfl, World.ownsRow_lit w #[] 0 (Nat.le_refl _) (by simp [maxLen]) rfl, (Ext.refl _).alloc _⟩
  case round =>
    obtain ⟨k, hk, rfl, hs, he⟩ := hrel
    by_cases hlt : k < 16
    · have hsz := he.size
      go_wp2_with (at_builtin; refine wpList_append1 rfl _ _ _ rfl w.heap.size 4 (.bool false) 1 B.infoBool Try.underlying24 rfl _ k _ rfl hs _ rfl rfl (by omega) (by omega) hsz ?_; intro v' w' hs' he')
      go_roundw
      case rel => exact ⟨k + 1, by omega, by go_num, by rw [rep_snoc, ← bools_append]; exact hs', he' w he (Nat.le_refl _)⟩
      case measure => simp [intOf]; omega
    · go_wp2
      go_ret
      obtain rfl : k = 16 := by omega
      exact RetS.of_own hs he
end Go.Proofs.Ytnpbjfnmmleppaa
