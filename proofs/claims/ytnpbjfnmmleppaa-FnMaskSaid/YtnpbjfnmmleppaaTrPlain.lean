/-
  The transform of a grid as plain sums. No program in sight.
-/
import Derived.Test.YtnpbjfnmmleppaaSkyVal
namespace Go.Proofs.Ytnpbjfnmmleppaa

/-- the exponent of i at a cell of the grid and a cell of the sky -/
def ex (to at_ : Nat) : Int := ((to % 4 * (at_ % 4) + to / 4 * (at_ / 4) : Nat) : Int)
theorem ex_le (to at_ : Nat) (h1 : to < 16) (h2 : at_ < 16) : 0 ≤ ex to at_ ∧ ex to at_ ≤ 18 := by
  unfold ex
  have a1 : to % 4 ≤ 3 := by omega
  have a2 : at_ % 4 ≤ 3 := by omega
  have a3 : to / 4 ≤ 3 := by omega
  have a4 : at_ / 4 ≤ 3 := by omega
  have b1 := Nat.mul_le_mul a1 a2
  have b2 := Nat.mul_le_mul a3 a4
  omega
def pre (g : List (Int × Int)) (sg : Int) (to : Nat) : Nat → Int
  | 0 => 0
  | k + 1 => pre g sg to k + tre (g.getD k (0, 0)).1 (g.getD k (0, 0)).2 (sg * ex to k)
def pim (g : List (Int × Int)) (sg : Int) (to : Nat) : Nat → Int
  | 0 => 0
  | k + 1 => pim g sg to k + tim (g.getD k (0, 0)).1 (g.getD k (0, 0)).2 (sg * ex to k)
theorem pre_succ {g : List (Int × Int)} {k : Nat} {p q : Int} (h : g[k]? = some (p, q)) (sg : Int) (to : Nat) : pre g sg to (k + 1) = pre g sg to k + tre p q (sg * ex to k) := by
  simp [pre, List.getD, h]
theorem pim_succ {g : List (Int × Int)} {k : Nat} {p q : Int} (h : g[k]? = some (p, q)) (sg : Int) (to : Nat) : pim g sg to (k + 1) = pim g sg to k + tim p q (sg * ex to k) := by
  simp [pim, List.getD, h]
def transL (g : List (Int × Int)) (sg : Int) : List (Int × Int) := (List.range 16).map fun to => (pre g sg to 16, pim g sg to 16)
theorem transL_length (g : List (Int × Int)) (sg : Int) : (transL g sg).length = 16 := by simp [transL]
theorem transL_at {g : List (Int × Int)} {sg : Int} {k : Nat} (h : k < 16) : (transL g sg)[k]? = some (pre g sg k 16, pim g sg k 16) := by simp [transL, h]
/-- all parts lie within a bound -/
def GB (M : Int) (g : List (Int × Int)) : Prop := ∀ (k : Nat) (p q : Int), g[k]? = some (p, q) → (-M ≤ p ∧ p ≤ M) ∧ (-M ≤ q ∧ q ≤ M)
theorem term_le {M p q : Int} (k : Int) (h1 : -M ≤ p ∧ p ≤ M) (h2 : -M ≤ q ∧ q ≤ M) : (-M ≤ tre p q k ∧ tre p q k ≤ M) ∧ (-M ≤ tim p q k ∧ tim p q k ≤ M) := by
  unfold tre tim
  rcases unit_cases k with ⟨a, b⟩ | ⟨a, b⟩ | ⟨a, b⟩ | ⟨a, b⟩ <;> rw [a, b] <;> omega
theorem psum_le {g : List (Int × Int)} {M : Int} (hg : GB M g) (sg : Int) (to k : Nat) (hk : k ≤ g.length) : (-(M * k) ≤ pre g sg to k ∧ pre g sg to k ≤ M * k) ∧ (-(M * k) ≤ pim g sg to k ∧ pim g sg to k ≤ M * k) := by
  induction k with
  | zero => simp [pre, pim]
  | succ k ih =>
    obtain ⟨⟨p, q⟩, hp⟩ := at_of_lt (l := g) (k := k) (by omega)
    obtain ⟨h1, h2⟩ := hg k p q hp
    have ht := term_le (sg * ex to k) h1 h2
    have := ih (by omega)
    rw [pre_succ hp, pim_succ hp]
    have e : M * ((k + 1 : Nat) : Int) = M * (k : Int) + M := by rw [Int.natCast_add, Int.mul_add]; simp
    rw [e]
    omega
end Go.Proofs.Ytnpbjfnmmleppaa
