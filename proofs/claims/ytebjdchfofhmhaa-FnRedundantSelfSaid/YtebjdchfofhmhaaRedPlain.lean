/-
  Arrays, vectors of baselines, redundant groups, and what is spread over them, as lists of pairs: what the functions compute, and the laws about it. No program in sight.
-/
import Derived.Test.YtebjdchfofhmhaaSolPlainB
namespace Go.Proofs.Ytebjdchfofhmhaa

/-! ### arrays -/
def plB (a : Int × Int) : Bool := decide (-1000 ≤ a.1) && decide (a.1 ≤ 1000) && (decide (-1000 ≤ a.2) && decide (a.2 ≤ 1000))
theorem plB_iff {a : Int × Int} : plB a = true ↔ -1000 ≤ a.1 ∧ a.1 ≤ 1000 ∧ -1000 ≤ a.2 ∧ a.2 ≤ 1000 := by
  simp only [plB, Bool.and_eq_true, decide_eq_true_eq]
  omega
def vAt (l : VL) (k : Nat) : Int × Int := (vAm l k, vPh l k)
def arAt (l : VL) (k : Nat) : Bool := plB (vAt l k) && !decide (vAt l k ∈ l.take k)
def arTo (l : VL) (k : Nat) : Prop := ∀ j, j < k → arAt l j = true
def arB (l : VL) : Bool := decide (2 ≤ l.length) && decide (l.length ≤ 7) && (List.range l.length).all (arAt l)
theorem arTo_succ {l : VL} {k : Nat} (h : arTo l k) (e : arAt l k = true) : arTo l (k + 1) := fun j hj => by
  by_cases hjk : j = k
  · subst hjk; exact e
  · exact h j (by omega)
theorem arB_len {l : VL} (h : ¬ (2 ≤ l.length ∧ l.length ≤ 7)) : arB l = false := by
  simp only [arB, Bool.and_eq_false_iff, decide_eq_false_iff_not]
  omega
theorem arB_no {l : VL} {k : Nat} (hk : k < l.length) (e : arAt l k = false) : arB l = false := by
  have : (List.range l.length).all (arAt l) = false := by
    rw [List.all_eq_false]
    exact ⟨k, List.mem_range.2 hk, by rw [e]; decide⟩
  simp [arB, this]
theorem arB_yes {l : VL} (h1 : 2 ≤ l.length) (h2 : l.length ≤ 7) (h : arTo l l.length) : arB l = true := by
  have : (List.range l.length).all (arAt l) = true := by
    rw [List.all_eq_true]
    exact fun j hj => h j (List.mem_range.1 hj)
  simp [arB, this, h1, h2]
theorem arB_all {l : VL} (h1 : arTo l l.length) : arB l = (decide (2 ≤ l.length) && decide (l.length ≤ 7)) := by
  have : (List.range l.length).all (arAt l) = true := by
    rw [List.all_eq_true]
    exact fun j hj => h1 j (List.mem_range.1 hj)
  simp [arB, this]
structure Arr (l : VL) : Prop where
  two : 2 ≤ l.length
  seven : l.length ≤ 7
  at_ : ∀ j, j < l.length → arAt l j = true
theorem arr_of {l : VL} (h : arB l = true) : Arr l := by
  simp only [arB, Bool.and_eq_true, decide_eq_true_eq, List.all_eq_true, List.mem_range] at h
  exact ⟨h.1.1, h.1.2, h.2⟩
theorem Arr.yes {l : VL} (h : Arr l) : arB l = true := arB_yes h.two h.seven h.at_
theorem Arr.in_ {l : VL} (h : Arr l) {j : Nat} (hj : j < l.length) : -1000 ≤ vAm l j ∧ vAm l j ≤ 1000 ∧ -1000 ≤ vPh l j ∧ vPh l j ≤ 1000 := by
  have := (Bool.and_eq_true_iff.1 (h.at_ j hj)).1
  exact plB_iff.1 this
theorem Arr.ne {l : VL} (h : Arr l) {i j : Nat} (hij : i < j) (hj : j < l.length) : vAt l i ≠ vAt l j := by
  intro e
  have := h.at_ j hj
  simp only [arAt, Bool.and_eq_true, Bool.not_eq_true', decide_eq_false_iff_not] at this
  refine this.2 ?_
  rw [← e]
  refine List.mem_of_getElem? (i := i) ?_
  rw [List.getElem?_take, if_pos hij]
  exact some_v (by omega)

/-! ### vectors -/
def ngv (a : Int × Int) : Int × Int := (-a.1, -a.2)
theorem ngv_ngv (a : Int × Int) : ngv (ngv a) = a := by simp [ngv]
def vec (l : VL) (i j : Nat) : Int × Int := (vAm l j - vAm l i, vPh l j - vPh l i)
def pr (n k : Nat) : Nat × Nat := (bp n)[k]?.getD (0, 0)
def bvec (l : VL) (k : Nat) : Int × Int := vec l (pr l.length k).1 (pr l.length k).2
theorem pr_in {n k : Nat} (hn : n < 8) (hk : k < nb n) : (pr n k).1 < (pr n k).2 ∧ (pr n k).2 < n ∧ bIx n (pr n k).1 (pr n k).2 = k := bp_inv0 n hn k hk
theorem pr_at {n i j : Nat} (hn : n < 8) (hi : i < j) (hj : j < n) : pr n (bIx n i j) = (i, j) := by
  unfold pr; rw [bp_at n hn i (by omega) j hj hi]; rfl
theorem bp_pr {n k : Nat} (hn : n < 8) (hk : k < nb n) : (bp n)[k]? = some (pr n k) := by
  obtain ⟨i, j, h, _⟩ := bp_inv hn hk
  unfold pr; rw [h]; rfl
def sg (a b : Int × Int) : Int := if a = b then 1 else if a = ngv b then -1 else 0
def lk (a b : Int × Int) : Prop := a = b ∨ a = ngv b
instance (a b : Int × Int) : Decidable (lk a b) := by unfold lk; exact inferInstance
theorem sg_lk {a b : Int × Int} : sg a b ≠ 0 ↔ lk a b := by
  unfold sg lk
  split
  · simp [*]
  · split <;> simp [*]
theorem sg_zero {a b : Int × Int} : sg a b = 0 ↔ ¬ lk a b := by
  rw [← sg_lk]; simp
theorem sg_range (a b : Int × Int) : -1 ≤ sg a b ∧ sg a b ≤ 1 := by
  unfold sg; split
  · omega
  · split <;> omega
theorem lk_refl (a : Int × Int) : lk a a := .inl rfl
theorem lk_symm {a b : Int × Int} (h : lk a b) : lk b a := by
  rcases h with rfl | rfl
  · exact .inl rfl
  · exact .inr (ngv_ngv b).symm
theorem lk_trans {a b c : Int × Int} (h : lk a b) (k : lk b c) : lk a c := by
  rcases h with rfl | rfl
  · exact k
  · rcases k with rfl | rfl
    · exact .inr rfl
    · exact .inl (ngv_ngv c)
theorem sg_self (a : Int × Int) : sg a a = 1 := by simp [sg]
theorem sg_neg {a b : Int × Int} (h : lk a b) : sg a b < 0 ↔ a ≠ b := by
  unfold sg
  by_cases e : a = b
  · simp [e]
  · rw [if_neg e, if_pos (h.resolve_left e)]
    simp [e]

/-! ### groups -/
/-- the first of k baselines in line with a vector -/
def lea (f : Nat → Int × Int) (k : Nat) (u : Int × Int) : Option Nat := (List.range k).find? fun m => decide (lk (f m) u)
def grp (f : Nat → Int × Int) (k : Nat) : Nat := (lea f k (f k)).getD k
theorem lea_zero (f : Nat → Int × Int) (u : Int × Int) : lea f 0 u = none := rfl
theorem lea_succ (f : Nat → Int × Int) (k : Nat) (u : Int × Int) : lea f (k + 1) u = (lea f k u).or (if lk (f k) u then some k else none) := by
  unfold lea
  rw [List.range_succ, List.find?_append]
  congr 1
  by_cases h : lk (f k) u <;> simp [h]
theorem lea_some {f : Nat → Int × Int} {k m : Nat} {u : Int × Int} (h : lea f k u = some m) : m < k ∧ lk (f m) u ∧ ∀ j, j < m → ¬ lk (f j) u := by
  induction k with
  | zero => simp [lea] at h
  | succ k ih =>
    rw [lea_succ] at h
    cases e : lea f k u with
    | some m' =>
      rw [e] at h
      simp only [Option.some_or, Option.some.injEq] at h
      subst h
      obtain ⟨h1, h2⟩ := ih e
      exact ⟨by omega, h2⟩
    | none =>
      rw [e] at h
      simp only [Option.none_or] at h
      split at h
      · next hl =>
        obtain rfl := Option.some.inj h
        refine ⟨by omega, hl, fun j hj => ?_⟩
        unfold lea at e
        rw [List.find?_eq_none] at e
        simpa using e j (List.mem_range.2 hj)
      · cases h
theorem lea_none {f : Nat → Int × Int} {k : Nat} {u : Int × Int} (h : lea f k u = none) : ∀ j, j < k → ¬ lk (f j) u := by
  intro j hj
  unfold lea at h
  rw [List.find?_eq_none] at h
  simpa using h j (List.mem_range.2 hj)
theorem lea_mk {f : Nat → Int × Int} {k m : Nat} {u : Int × Int} (h1 : m < k) (h2 : lk (f m) u) (h3 : ∀ j, j < m → ¬ lk (f j) u) : lea f k u = some m := by
  cases e : lea f k u with
  | none => exact absurd h2 (lea_none e m h1)
  | some m' =>
    obtain ⟨k1, k2, k3⟩ := lea_some e
    congr 1
    rcases Nat.lt_trichotomy m m' with hlt | rfl | hlt
    · exact absurd h2 (k3 m hlt)
    · rfl
    · exact absurd k2 (h3 m' hlt)
/-- a vector in line with one met before adds nothing -/
theorem lea_old {f : Nat → Int × Int} {k m : Nat} (h : lea f k (f k) = some m) (u : Int × Int) : lea f (k + 1) u = lea f k u := by
  rw [lea_succ]
  obtain ⟨h1, h2, h3⟩ := lea_some h
  by_cases hl : lk (f k) u
  · have : lea f k u = some m := lea_mk h1 (lk_trans h2 hl) fun j hj hj' => h3 j hj (lk_trans hj' (lk_symm hl))
    rw [this]; rfl
  · rw [if_neg hl]; simp
theorem lea_new {f : Nat → Int × Int} {k : Nat} (h : lea f k (f k) = none) (u : Int × Int) : lea f (k + 1) u = if u = f k ∨ u = ngv (f k) then some k else lea f k u := by
  rw [lea_succ]
  have hu : lk (f k) u ↔ (u = f k ∨ u = ngv (f k)) := ⟨fun h => (lk_symm h : lk u (f k)), fun h => lk_symm (show lk u (f k) from h)⟩
  by_cases hl : lk (f k) u
  · rw [if_pos hl, if_pos (hu.1 hl)]
    have : lea f k u = none := by
      cases e : lea f k u with
      | none => rfl
      | some m =>
        obtain ⟨h1, h2, _⟩ := lea_some e
        exact absurd (lk_trans h2 (lk_symm hl)) (lea_none h m h1)
    rw [this]; rfl
  · rw [if_neg hl, if_neg (fun h => hl (hu.2 h))]; simp
theorem grp_spec (f : Nat → Int × Int) (k : Nat) : grp f k ≤ k ∧ lk (f (grp f k)) (f k) ∧ ∀ j, j < grp f k → ¬ lk (f j) (f k) := by
  unfold grp
  cases e : lea f k (f k) with
  | none => exact ⟨Nat.le_refl _, lk_refl _, lea_none e⟩
  | some m =>
    obtain ⟨h1, h2⟩ := lea_some e
    exact ⟨Nat.le_of_lt h1, h2⟩
theorem grp_eq {f : Nat → Int × Int} {k m : Nat} (h2 : lk (f m) (f k)) (h3 : ∀ j, j < m → ¬ lk (f j) (f k)) : grp f k = m := by
  obtain ⟨k1, k2, k3⟩ := grp_spec f k
  rcases Nat.lt_trichotomy m (grp f k) with hlt | he | hlt
  · exact absurd h2 (k3 m hlt)
  · exact he.symm
  · exact absurd k2 (h3 _ hlt)
theorem grp_grp (f : Nat → Int × Int) (k : Nat) : grp f (grp f k) = grp f k := by
  obtain ⟨_, k2, k3⟩ := grp_spec f k
  exact grp_eq (lk_refl _) fun j hj h => k3 j hj (lk_trans h k2)
theorem grp_congr {f g : Nat → Int × Int} {k : Nat} (h : ∀ m, m ≤ k → (lk (f m) (f k) ↔ lk (g m) (g k))) : grp f k = grp g k := by
  obtain ⟨k1, k2, k3⟩ := grp_spec g k
  exact grp_eq ((h _ k1).2 k2) fun j hj hj' => k3 j hj ((h j (by omega)).1 hj')
def grL (l : VL) : List Int := (List.range (nb l.length)).map fun k => ((grp (bvec l) k : Nat) : Int)
def grO (l : VL) : List Int := if arB l then grL l else []
theorem grL_length (l : VL) : (grL l).length = nb l.length := by simp [grL]
theorem grL_at {l : VL} {k : Nat} (h : k < nb l.length) : (grL l)[k]? = some ((grp (bvec l) k : Nat) : Int) := by simp [grL, h]

/-! ### what is spread -/
def ngp (v : Int × Int) : Int × Int := (v.1, (-v.2) % 360)
def spv (f : Nat → Int × Int) (v : VL) (k : Nat) : Int × Int := if f (grp f k) = f k then vAt v (grp f k) else ngp (vAt v (grp f k))
def rsL (l v : VL) : VL := (List.range (nb l.length)).map (spv (bvec l) v)
def rsB (l v : VL) : Bool := arB l && visB (l.length : Int) v
def rsO (l v : VL) : VL := if rsB l v then rsL l v else []
def rfB (l v : VL) : Bool := rsB l v && decide (rsL l v = v)
theorem rsL_length (l v : VL) : (rsL l v).length = nb l.length := by simp [rsL]
theorem rsL_at {l v : VL} {k : Nat} (h : k < nb l.length) : (rsL l v)[k]? = some (spv (bvec l) v k) := by simp [rsL, h]
theorem vAt_of {l : VL} {k : Nat} {x : Int × Int} (h : l[k]? = some x) : vAt l k = x := by simp [vAt, vAm, vPh, h]
theorem at_vAt {l : VL} {k : Nat} (h : k < l.length) : l[k]? = some (vAt l k) := some_v h
theorem ext_v {a b : VL} {n : Nat} (ha : a.length = n) (hb : b.length = n) (h : ∀ k, k < n → vAt a k = vAt b k) : a = b := by
  apply List.ext_getElem?
  intro k
  by_cases hk : k < n
  · rw [at_vAt (by omega), at_vAt (by omega), h k hk]
  · rw [List.getElem?_eq_none (by omega), List.getElem?_eq_none (by omega)]
theorem rs_at {l v : VL} {k : Nat} (h : k < nb l.length) : vAt (rsL l v) k = spv (bvec l) v k := vAt_of (rsL_at h)
theorem rsB_parts {l v : VL} (h : rsB l v = true) : Arr l ∧ v.length = nb l.length ∧ rgB 1000000 v = true := by
  simp only [rsB, Bool.and_eq_true] at h
  obtain ⟨N, e, _, _, h3, h4⟩ := visB_parts h.2
  obtain rfl : l.length = N := by omega
  exact ⟨arr_of h.1, h3, h4⟩
theorem rsB_mk {l v : VL} (h : Arr l) (h1 : v.length = nb l.length) (h2 : rgB 1000000 v = true) : rsB l v = true := by
  simp only [rsB, Bool.and_eq_true]
  exact ⟨h.yes, visB_mk h.two h.seven h1 h2⟩
theorem rg_v {lim : Int} {v : VL} (h : rgB lim v = true) {k : Nat} (hk : k < v.length) : 1 ≤ (vAt v k).1 ∧ (vAt v k).1 ≤ lim ∧ 0 ≤ (vAt v k).2 ∧ (vAt v k).2 < 360 := rgB_at h hk
theorem rs_vis {l v : VL} (h : rsB l v = true) : visB (l.length : Int) (rsL l v) = true := by
  obtain ⟨A, h1, h2⟩ := rsB_parts h
  refine visB_mk A.two A.seven (rsL_length l v) (rgB_mk fun k hk => ?_)
  rw [rsL_length] at hk
  show 1 ≤ (vAt (rsL l v) k).1 ∧ (vAt (rsL l v) k).1 ≤ _ ∧ 0 ≤ (vAt (rsL l v) k).2 ∧ (vAt (rsL l v) k).2 < 360
  rw [rs_at hk]
  have hg := (grp_spec (bvec l) k).1
  have := rg_v h2 (k := grp (bvec l) k) (by omega)
  unfold spv
  split
  · exact this
  · unfold ngp; simp only; omega
theorem rs_first {l v : VL} {k : Nat} (h : k < nb l.length) (e : grp (bvec l) k = k) : vAt (rsL l v) k = vAt v k := by
  rw [rs_at h]; unfold spv; rw [e, if_pos rfl]
theorem rs_rs {l v : VL} : rsL l (rsL l v) = rsL l v := by
  refine ext_v (rsL_length _ _) (rsL_length _ _) fun k hk => ?_
  rw [rs_at hk, rs_at hk]
  have hg := (grp_spec (bvec l) k).1
  have e : vAt (rsL l v) (grp (bvec l) k) = vAt v (grp (bvec l) k) := rs_first (by omega) (grp_grp _ _)
  unfold spv
  rw [e]
theorem rs_fits {l v : VL} (h : rsB l v = true) : rfB l (rsL l v) = true := by
  have := rs_vis h
  simp only [rsB, Bool.and_eq_true] at h
  simp [rfB, rsB, h.1, this, rs_rs]
theorem rf_parts {l v : VL} (h : rfB l v = true) : rsB l v = true ∧ rsL l v = v := by
  simp only [rfB, Bool.and_eq_true, decide_eq_true_eq] at h
  exact h

/-! ### a point source -/
def dot (a d : Int × Int) : Int := a.1 * d.1 + a.2 * d.2
def vpF (l : VL) (d : Int × Int) (amp : Int) (k : Nat) : Int × Int := (amp, (dot (bvec l k) d) % 360)
def vpL (l : VL) (d : Int × Int) (amp : Int) : VL := (List.range (nb l.length)).map (vpF l d amp)
theorem vpL_length (l : VL) (d : Int × Int) (amp : Int) : (vpL l d amp).length = nb l.length := by simp [vpL]
theorem vp_at {l : VL} {d : Int × Int} {amp : Int} {k : Nat} (h : k < nb l.length) : vAt (vpL l d amp) k = vpF l d amp k := vAt_of (by simp [vpL, h])
theorem dot_ngv (a d : Int × Int) : dot (ngv a) d = -dot a d := by
  unfold dot ngv; simp only [Int.neg_mul]; omega
theorem rs_vp (l : VL) (d : Int × Int) (amp : Int) : rsL l (vpL l d amp) = vpL l d amp := by
  refine ext_v (rsL_length _ _) (vpL_length _ _ _) fun k hk => ?_
  obtain ⟨hg, hl, _⟩ := grp_spec (bvec l) k
  rw [rs_at hk, vp_at hk]
  unfold spv
  rw [vp_at (by omega)]
  split
  · next e => unfold vpF; rw [e]
  · next e =>
    have e2 := hl.resolve_left e
    unfold ngp vpF
    rw [e2, dot_ngv]
    simp only [Prod.mk.injEq, true_and]
    omega
theorem vp_vis {l : VL} (h : Arr l) (d : Int × Int) {amp : Int} (h1 : 1 ≤ amp) (h2 : amp ≤ 1000000) : visB (l.length : Int) (vpL l d amp) = true := by
  refine visB_mk h.two h.seven (vpL_length _ _ _) (rgB_mk fun k hk => ?_)
  rw [vpL_length] at hk
  show 1 ≤ (vAt (vpL l d amp) k).1 ∧ (vAt (vpL l d amp) k).1 ≤ _ ∧ 0 ≤ (vAt (vpL l d amp) k).2 ∧ (vAt (vpL l d amp) k).2 < 360
  rw [vp_at hk]
  unfold vpF
  simp only
  omega

/-! ### turned arrays -/
def rot (a : Int × Int) : Int × Int := (-a.2, a.1)
def trn : Nat → VL → VL
  | 0, l => l
  | k + 1, l => (trn k l).map rot
theorem trn_length (k : Nat) (l : VL) : (trn k l).length = l.length := by
  induction k with
  | zero => rfl
  | succ k ih => simp [trn, ih]
theorem rot_at {l : VL} {k : Nat} : vAt (l.map rot) k = rot (vAt l k) := by
  unfold vAt vAm vPh rot
  rw [List.getElem?_map]
  cases l[k]? <;> simp
theorem rot_inj {a b : Int × Int} : rot a = rot b ↔ a = b := by
  unfold rot
  obtain ⟨a1, a2⟩ := a
  obtain ⟨b1, b2⟩ := b
  simp only [Prod.mk.injEq]
  constructor
  · rintro ⟨h1, h2⟩; exact ⟨h2, by omega⟩
  · rintro ⟨h1, h2⟩; exact ⟨by omega, h1⟩
theorem rot_ngv (a : Int × Int) : rot (ngv a) = ngv (rot a) := by simp [rot, ngv]
theorem rot_lk {a b : Int × Int} : lk (rot a) (rot b) ↔ lk a b := by
  unfold lk
  rw [← rot_ngv, rot_inj, rot_inj]
theorem vec_v (l : VL) (i j : Nat) : vec l i j = ((vAt l j).1 - (vAt l i).1, (vAt l j).2 - (vAt l i).2) := rfl
theorem rot_bvec (l : VL) (k : Nat) : bvec (l.map rot) k = rot (bvec l k) := by
  unfold bvec
  rw [List.length_map]
  unfold vec
  have h1 : ∀ j, vAm (l.map rot) j = -vPh l j := fun j => congrArg Prod.fst (rot_at (l := l) (k := j))
  have h2 : ∀ j, vPh (l.map rot) j = vAm l j := fun j => congrArg Prod.snd (rot_at (l := l) (k := j))
  rw [h1, h1, h2, h2]
  unfold rot
  simp only [Prod.mk.injEq, and_true]
  omega
theorem rot_arr {l : VL} (h : Arr l) : Arr (l.map rot) where
  two := by rw [List.length_map]; exact h.two
  seven := by rw [List.length_map]; exact h.seven
  at_ := fun j hj => by
    rw [List.length_map] at hj
    have := h.at_ j hj
    simp only [arAt, Bool.and_eq_true, Bool.not_eq_true', decide_eq_false_iff_not] at this ⊢
    rw [rot_at]
    refine ⟨?_, fun hm => this.2 ?_⟩
    · have h1 := plB_iff.1 this.1
      refine plB_iff.2 ?_
      unfold rot; simp only; omega
    · rw [← List.map_take] at hm
      obtain ⟨x, hx, e⟩ := List.mem_map.1 hm
      rw [rot_inj] at e
      rw [← e]; exact hx
theorem rot_rs {l v : VL} : rsL (l.map rot) v = rsL l v := by
  unfold rsL
  rw [List.length_map]
  refine List.map_congr_left fun k _ => ?_
  have hg : grp (bvec (l.map rot)) k = grp (bvec l) k := grp_congr fun m _ => by rw [rot_bvec, rot_bvec]; exact rot_lk
  unfold spv
  rw [hg, rot_bvec, rot_bvec]
  simp only [rot_inj]
theorem trn_arr {l : VL} (h : Arr l) (k : Nat) : Arr (trn k l) := by
  induction k with
  | zero => exact h
  | succ k ih => exact rot_arr ih
theorem trn_rs (k : Nat) (l v : VL) : rsL (trn k l) v = rsL l v := by
  induction k with
  | zero => rfl
  | succ k ih => exact rot_rs.trans ih
theorem trn_fits {l v : VL} (k : Nat) (h : rfB l v = true) : rfB (trn k l) v = true := by
  obtain ⟨h1, h2⟩ := rf_parts h
  obtain ⟨A, h3, h4⟩ := rsB_parts h1
  have := rsB_mk (l := trn k l) (v := v) (trn_arr A k) (by rw [trn_length]; exact h3) h4
  simp only [rfB, Bool.and_eq_true, decide_eq_true_eq]
  exact ⟨this, by rw [trn_rs]; exact h2⟩

/-! ### equal gains -/
theorem rs_gain {l v x : VL} {a : Int} (h : rfB l v = true) (hx : x.length = nb l.length) (hr : visB (l.length : Int) x = true) (e : ∀ k, k < nb l.length → vAt x k = ((vAt v k).1 * a, (vAt v k).2)) : rfB l x = true := by
  obtain ⟨h1, h2⟩ := rf_parts h
  obtain ⟨A, h3, h4⟩ := rsB_parts h1
  simp only [rfB, rsB, Bool.and_eq_true, decide_eq_true_eq]
  refine ⟨⟨A.yes, hr⟩, ext_v (rsL_length _ _) hx fun k hk => ?_⟩
  have hg := (grp_spec (bvec l) k).1
  have hv : vAt v k = spv (bvec l) v k := by rw [← rs_at hk, h2]
  rw [rs_at hk, e k hk, hv]
  unfold spv
  rw [e _ (by omega)]
  split
  · rfl
  · rfl
end Go.Proofs.Ytebjdchfofhmhaa
