/-
  Contracts of the laws' own helpers over lists of ints: toIntS, eqIntS, markIntS, heldIntS, sameInts.
-/
import Derived.Test.YtebjdchfofhmhaaNum
import Derived.Deep.QuietTactic
import Derived.BigQuiet
namespace Go.Proofs.Ytebjdchfofhmhaa
open Go.RowKit

theorem I.infoInt : (Try.prog.info? 3).map (fun i => (i.zero, i.size, i.bytes)) = some (some (.int .i64 0), 1, 8) := by kernel_rfl
theorem makeInts16 (w : World) : (Instr.makeSlice 41 (.int .i64 16) (.int .i64 16)).run Try.prog w = .ok (.slice (some ⟨w.heap.size, 0, none⟩) 16 16) (w.alloc (.cells (madeCells #[.int .i64 0] 16) 3)) :=
  run_make1 (P := Try.prog) 41 3 (.int .i64 0) 8 I.infoInt Try.underlying41 rfl 16 (by omega) (by omega) w


def eqToI (a b : List Int) (k : Nat) : Prop := ∀ j, j < k → a[j]? = b[j]?
theorem eqToI_succ {a b : List Int} {k : Nat} (h : eqToI a b k) (e : a[k]? = b[k]?) : eqToI a b (k + 1) := by
  intro j hj
  by_cases hjk : j = k
  · subst hjk; exact e
  · exact h j (by omega)
theorem eqToI_all {a b : List Int} {n : Nat} (h : eqToI a b n) (h1 : a.length = n) (h2 : b.length = n) : a = b := by
  apply List.ext_getElem?
  intro j
  rcases Nat.lt_or_ge j n with hj | hj
  · exact h j hj
  · rw [List.getElem?_eq_none (by omega), List.getElem?_eq_none (by omega)]



/-- what markIntS lays: n cells, the first with the number k -/
def marksI (k : Int) (n : Nat) : List Int := (List.range n).map fun i : Nat => k + (i : Int)
theorem marksI_at {k : Int} {n i : Nat} (h : i < n) : (marksI k n)[i]? = some (k + (i : Int)) := by simp [marksI, h]
theorem marksI_length (k : Int) (n : Nat) : (marksI k n).length = n := by simp [marksI]

end Go.Proofs.Ytebjdchfofhmhaa
