/-
  Grids in plain numbers: masks, real parts. No program in sight.
-/
import Derived.Test.YtnpbjfnmmleppaaBase
namespace Go.Proofs.Ytnpbjfnmmleppaa
def realG (s : List Int) : List (Int × Int) := s.map fun x => (x, 0)
def reals (g : List (Int × Int)) : List Int := g.map (·.1)

/-- a grid with 0 where the coverage is not set -/
def maskL (g : List (Int × Int)) (c : List Bool) : List (Int × Int) := List.zipWith (fun x b => if b then x else (0, 0)) g c
theorem maskL_at {g : List (Int × Int)} {c : List Bool} {k : Nat} {x : Int × Int} {b : Bool} (hx : g[k]? = some x) (hb : c[k]? = some b) : (maskL g c)[k]? = some (if b then x else (0, 0)) := by
  simp [maskL, List.getElem?_zipWith, hx, hb]
theorem maskL_length {g : List (Int × Int)} {c : List Bool} (h1 : g.length = 16) (h2 : c.length = 16) : (maskL g c).length = 16 := by simp [maskL, h1, h2]
def zeroG : List (Int × Int) := List.replicate 16 (0, 0)
theorem zeroG_length : zeroG.length = 16 := by simp [zeroG]
theorem zeroG_at {k : Nat} (h : k < 16) : zeroG[k]? = some (0, 0) := by unfold zeroG; rw [List.getElem?_replicate, if_pos h]
theorem over_skip {α : Type} {l old : List α} {k : Nat} {y : α} (h : l[k]? = some y) (h' : old[k]? = some y) (hl : l.length = old.length) : over l old (k + 1) = over l old k := by
  rw [← over_set h hl]
  apply List.ext_getElem?
  intro j
  by_cases hj : j = k
  · subst hj
    rw [List.getElem?_set_self (by rw [over_length hl]; exact lt_of_at h'), over_at hl (Nat.le_refl _), h']
  · rw [List.getElem?_set_ne (Ne.symm hj)]

end Go.Proofs.Ytnpbjfnmmleppaa
