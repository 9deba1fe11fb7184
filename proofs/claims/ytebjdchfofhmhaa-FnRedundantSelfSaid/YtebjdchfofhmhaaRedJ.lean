/-
  Groups of baselines met one by one; and a map that holds the first baseline of each vector met so far and of its opposite.
-/
import Derived.Test.YtebjdchfofhmhaaRedI
import Derived.Test.YtebjdchfofhmhaaGainI
import Derived.Test.YtebjdchfofhmhaaOpen
import Derived.Maps.OwnIn
import Derived.DeepKeys4
import Derived.Maps.Views
import Derived.RangeFuncWrites
namespace Go.Proofs.Ytebjdchfofhmhaa
open Go.RowKit Go.Maps
set_option linter.unusedSimpArgs false
set_option linter.unusedVariables false

/-! ### plain -/
def vf (l : VL) (ps : List (Nat × Nat)) (k : Nat) : Int × Int := vec l (ps[k]?.getD (0, 0)).1 (ps[k]?.getD (0, 0)).2
theorem vf_bp (l : VL) : vf l (bp l.length) = bvec l := rfl
theorem vf_old (l : VL) {ps : List (Nat × Nat)} {p : Nat × Nat} {k : Nat} (h : k < ps.length) : vf l (ps ++ [p]) k = vf l ps k := by
  unfold vf; rw [List.getElem?_append_left h]
theorem vf_new (l : VL) (ps : List (Nat × Nat)) (p : Nat × Nat) : vf l (ps ++ [p]) ps.length = vec l p.1 p.2 := by
  unfold vf; simp
theorem lea_congr {f g : Nat → Int × Int} {k : Nat} {u : Int × Int} (h : ∀ m, m < k → f m = g m) : lea f k u = lea g k u := by
  cases e : lea g k u with
  | none =>
    cases e2 : lea f k u with
    | none => rfl
    | some m =>
      obtain ⟨h1, h2, _⟩ := lea_some e2
      exact absurd (by rw [← h m h1]; exact h2) (lea_none e m h1)
  | some m =>
    obtain ⟨h1, h2, h3⟩ := lea_some e
    exact lea_mk h1 (by rw [h m h1]; exact h2) fun j hj => by rw [h j (by omega)]; exact h3 j hj
def leS (l : VL) (ps : List (Nat × Nat)) (u : Int × Int) : Option Nat := lea (vf l ps) ps.length u
def gsL (l : VL) (ps : List (Nat × Nat)) : List Int := (List.range ps.length).map fun k => ((grp (vf l ps) k : Nat) : Int)
theorem gsL_bp (l : VL) (h : l.length < 8) : gsL l (bp l.length) = grL l := by
  unfold gsL grL; rw [bp_length _ h, vf_bp]
theorem gsL_length (l : VL) (ps : List (Nat × Nat)) : (gsL l ps).length = ps.length := by simp [gsL]
theorem leS_pre (l : VL) (ps : List (Nat × Nat)) (p : Nat × Nat) (u : Int × Int) : lea (vf l (ps ++ [p])) ps.length u = leS l ps u := lea_congr fun m hm => vf_old l hm
theorem gsL_snoc (l : VL) (ps : List (Nat × Nat)) (p : Nat × Nat) : gsL l (ps ++ [p]) = gsL l ps ++ [(((leS l ps (vec l p.1 p.2)).getD ps.length : Nat) : Int)] := by
  unfold gsL
  rw [List.length_append, List.length_singleton, List.range_succ, List.map_append]
  congr 1
  · refine List.map_congr_left fun k hk => ?_
    have hk' := List.mem_range.1 hk
    rw [grp_congr (f := vf l (ps ++ [p])) (g := vf l ps) fun m hm => by rw [vf_old l (by omega), vf_old l hk']]
  · simp only [List.map_cons, List.map_nil, List.cons.injEq, and_true]
    unfold grp
    rw [vf_new, leS_pre]
theorem leS_old {l : VL} {ps : List (Nat × Nat)} {p : Nat × Nat} {m : Nat} (h : leS l ps (vec l p.1 p.2) = some m) (u : Int × Int) : leS l (ps ++ [p]) u = leS l ps u := by
  have h2 : lea (vf l (ps ++ [p])) ps.length (vf l (ps ++ [p]) ps.length) = some m := by rw [vf_new, leS_pre, h]
  have := lea_old h2 u
  rw [leS_pre] at this
  unfold leS at this ⊢
  rw [List.length_append, List.length_singleton]
  exact this
theorem leS_new {l : VL} {ps : List (Nat × Nat)} {p : Nat × Nat} (h : leS l ps (vec l p.1 p.2) = none) (u : Int × Int) : leS l (ps ++ [p]) u = if u = vec l p.1 p.2 ∨ u = ngv (vec l p.1 p.2) then some ps.length else leS l ps u := by
  have h2 : lea (vf l (ps ++ [p])) ps.length (vf l (ps ++ [p]) ps.length) = none := by rw [vf_new, leS_pre, h]
  have := lea_new h2 u
  rw [vf_new, leS_pre] at this
  conv => lhs; unfold leS
  rw [List.length_append, List.length_singleton]
  exact this
theorem leS_lt {l : VL} {ps : List (Nat × Nat)} {u : Int × Int} {m : Nat} (h : leS l ps u = some m) : m < ps.length := (lea_some h).1

/-! ### keys -/
theorem antRow : 49 < Try.prog.types.size := by decide +kernel
theorem antWide : (match Try.prog.underlying 49 with | some (.array _ _) | some (.struct _) => true | _ => false) = true := by kernel_rfl
theorem antLaw : Keyed Try.prog 49 := Keyed.of_law (deep_law_laid laidOut (m := 2) (by omega) antRow (by kernel_rfl) antWide)
def InR (u : Int × Int) : Prop := -100000 ≤ u.1 ∧ u.1 ≤ 100000 ∧ -100000 ≤ u.2 ∧ u.2 ≤ 100000
def kL (u : Int × Int) : Lit := .string (keyBytes [.int .i64 u.1, .int .i64 u.2])
theorem wf_in {a : Int} (h1 : -100000 ≤ a) (h2 : a ≤ 100000) : (Lit.int .i64 a).wf = true := by
  simp only [Lit.wf, Bool.and_eq_true, decide_eq_true_eq]
  exact ⟨by show (-9223372036854775808 : Int) ≤ a; omega, by show a ≤ (9223372036854775807 : Int); omega⟩
theorem antHu : Try.prog.keyType 49 = true := by kernel_rfl
theorem antCells : Try.prog.cellsOf 49 = 2 := by kernel_rfl
theorem intCells : Try.prog.cellsOf 3 = 1 := by kernel_rfl
theorem pv_formed (a b : Int) : (Value.agg #[.int .i64 a, .int .i64 b]).formed Try.prog 49 = true := by
  simp [Value.formed, Try.underlying49, antCells]
theorem key_lits (d : Nat) {a b : Int} (wa : (Lit.int .i64 a).wf = true) (wb : (Lit.int .i64 b).wf = true) : Try.prog.keyLits (d + 2) 49 [.int .i64 a, .int .i64 b] = some [.int .i64 a, .int .i64 b] := by
  unfold Program.keyLits
  simp only [Try.underlying49]
  rw [if_pos ⟨by rw [antCells]; rfl, by kernel_rfl⟩]
  simp [Program.keyLits, Try.underlying3, intCells, wa, wb, List.mapM_cons]
theorem key_some {u : Int × Int} (h : InR u) : keyOf Try.prog 49 (pv u) = some (kL u) := by
  obtain ⟨a, b⟩ := u
  have wa := wf_in h.1 h.2.1
  have wb := wf_in h.2.2.1 h.2.2.2
  obtain ⟨m, hm⟩ : ∃ m, Try.prog.types.size = m + 1 := ⟨Try.prog.types.size - 1, by have := antRow; omega⟩
  unfold keyOf pv kL
  simp only [Try.underlying49]
  rw [if_pos (by rw [antHu, pv_formed]; rfl), hm]
  show Option.map _ (Try.prog.keyLits (m + 2) 49 [.int .i64 a, .int .i64 b]) = _
  rw [key_lits m wa wb]
  rfl
theorem pv_inj {u v : Int × Int} (h : pv u = pv v) : u = v := by
  obtain ⟨a, b⟩ := u
  obtain ⟨c, d⟩ := v
  simp [pv] at h
  simp [h]
theorem kL_inj {u v : Int × Int} (hu : InR u) (hv : InR v) (h : u ≠ v) : kL u ≠ kL v := fun e => h (pv_inj (antLaw.inj (key_some hu) (by rw [e]; exact key_some hv)))
theorem kL_key {u : Int × Int} : WideAt.IsKeyLit (kL u) := trivial
theorem ngv_in {u : Int × Int} (h : InR u) : InR (ngv u) := by
  obtain ⟨h1, h2, h3, h4⟩ := h
  unfold InR ngv
  simp only
  omega

/-! ### the map -/
def dI (n : Nat) : DataW Unit := .lit (.int .i64 (n : Int))
/-- the map holds, for each vector met so far and its opposite, the first baseline that has it -/
structure MI (l : VL) (ps : List (Nat × Nat)) (D : DataW Unit) : Prop where
  map : IsMap D
  at_ : ∀ u, InR u → Maps.has D (kL u) = (leS l ps u).isSome ∧ ∀ m, leS l ps u = some m → D.atKey (kL u) (.lit (.int .i64 0)) = dI m
theorem mi_start (l : VL) : MI l [] (.map []) := ⟨isMap_empty, fun u _ => ⟨rfl, fun m h => by simp [leS, lea] at h⟩⟩
theorem mi_old {l : VL} {ps : List (Nat × Nat)} {p : Nat × Nat} {m : Nat} {D : DataW Unit} (h : MI l ps D) (e : leS l ps (vec l p.1 p.2) = some m) : MI l (ps ++ [p]) D :=
  ⟨h.map, fun u hu => by rw [leS_old e]; exact h.at_ u hu⟩
theorem mi_new {l : VL} {ps : List (Nat × Nat)} {p : Nat × Nat} {D : DataW Unit} (h : MI l ps D) (hv : InR (vec l p.1 p.2)) (e : leS l ps (vec l p.1 p.2) = none) :
    MI l (ps ++ [p]) ((D.put (kL (vec l p.1 p.2)) (dI ps.length)).put (kL (ngv (vec l p.1 p.2))) (dI ps.length)) := by
  refine ⟨(h.map.put _ _).put _ _, fun u hu => ?_⟩
  rw [leS_new e]
  by_cases h2 : u = ngv (vec l p.1 p.2)
  · subst h2
    rw [if_pos (.inr rfl), has_put_same (h.map.put _ _) kL_key, atKey_put_same (h.map.put _ _) kL_key]
    exact ⟨rfl, fun m hm => by rw [Option.some.inj hm]⟩
  · have n2 := kL_inj hu (ngv_in hv) h2
    rw [has_put_other n2, atKey_put_other n2]
    by_cases h1 : u = vec l p.1 p.2
    · subst h1
      rw [if_pos (.inl rfl), has_put_same h.map kL_key, atKey_put_same h.map kL_key]
      exact ⟨rfl, fun m hm => by rw [Option.some.inj hm]⟩
    · have n1 := kL_inj hu hv h1
      rw [has_put_other n1, atKey_put_other n1, if_neg (by rintro (h | h) <;> contradiction)]
      exact h.at_ u hu
end Go.Proofs.Ytebjdchfofhmhaa
