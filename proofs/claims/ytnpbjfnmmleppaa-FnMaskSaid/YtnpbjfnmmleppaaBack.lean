/-
  Contracts of the reference's way back: l21Back, DirtyOf, BeamOf.
-/
import Derived.Test.YtnpbjfnmmleppaaTrans
import Derived.Test.YtnpbjfnmmleppaaGridB
import Derived.StillTailTactics
namespace Go.Proofs.Ytnpbjfnmmleppaa
open Go.RowKit

theorem ex_back {x y k : Nat} (hx : x < 4) : -((x : Int) * ((k : Int) % 4)) - (y : Int) * ((k : Int) / 4) = -1 * ex (4 * y + x) k := by
  rw [← Int.one_mul (ex (4 * y + x) k), ← ex_uv hx]
  omega
theorem ur_mul {M p : Int} (e : Int) (h1 : -M ≤ p) (h2 : p ≤ M) : (-M ≤ p * ur e ∧ p * ur e ≤ M) ∧ (-M ≤ p * ui e ∧ p * ui e ≤ M) := by
  rcases unit_cases e with ⟨a, b⟩ | ⟨a, b⟩ | ⟨a, b⟩ | ⟨a, b⟩ <;> rw [a, b] <;> omega
theorem maskL_GB {M : Int} (hM : 0 ≤ M) {g : List (Int × Int)} {c : List Bool} (h : GB M g) : GB M (maskL g c) := by
  intro k p q hk
  simp only [maskL, List.getElem?_zipWith] at hk
  rcases hx : g[k]? with _ | x
  · simp [hx] at hk
  · rcases hb : c[k]? with _ | b
    · simp [hx, hb] at hk
    · simp [hx, hb] at hk
      cases b
      · simp at hk; obtain ⟨rfl, rfl⟩ := hk; omega
      · simp at hk; subst hk; exact h k p q hx
/-- the dirty image as the reference writes it -/
def dirtyR (s : List Int) (c : List Bool) : List Int := reals (transL (maskL (skyG s) c) (-1))
theorem dirtyR_length (s : List Int) (c : List Bool) : (dirtyR s c).length = 16 := by simp [dirtyR, reals, transL_length]
theorem dirtyR_at {s : List Int} {c : List Bool} {k : Nat} (h : k < 16) : (dirtyR s c)[k]? = some (pre (maskL (skyG s) c) (-1) k 16) := by simp [dirtyR, reals, transL_at h]
def dokB (s : List Int) (c : List Bool) : Bool := svB s && cvB c && svB (dirtyR s c)
def doL (s : List Int) (c : List Bool) : List Int := if dokB s c then dirtyR s c else []
theorem doL_length (s : List Int) (c : List Bool) : (doL s c).length ≤ 16 := by
  unfold doL
  split
  · rw [dirtyR_length]; omega
  · simp
end Go.Proofs.Ytnpbjfnmmleppaa
