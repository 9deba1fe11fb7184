/-
  Phases on a net of antennas: links, roots, what a spread of phases keeps, and that a solution whose roots have the phase 0 is unique. No program in sight.
-/
import Derived.Test.YtebjdchfofhmhaaBase
namespace Go.Proofs.Ytebjdchfofhmhaa

/-- a net: antennas below n, links in both directions, the turn of a link -/
structure Net (n : Nat) (E : Nat → Nat → Prop) (t : Nat → Nat → Int) : Prop where
  symm : ∀ u v, E u v → E v u
  lt : ∀ u v, E u v → u < n ∧ v < n
  anti : ∀ u v, E u v → (t u v + t v u) % 360 = 0
/-- phases that fit all links -/
def Fit (E : Nat → Nat → Prop) (t : Nat → Nat → Int) (q : Nat → Int) : Prop := ∀ u v, E u v → (q v - q u - t u v) % 360 = 0
/-- linked, directly or through others -/
inductive Lk (E : Nat → Nat → Prop) : Nat → Nat → Prop
  | refl (u : Nat) : Lk E u u
  | step {u v w : Nat} : Lk E u v → E v w → Lk E u w
def Root (E : Nat → Nat → Prop) (r : Nat) : Prop := ∀ v, Lk E r v → r ≤ v

section
variable {n : Nat} {E : Nat → Nat → Prop} {t : Nat → Nat → Int}
theorem Lk.trans {u v w : Nat} (h : Lk E u v) (k : Lk E v w) : Lk E u w := by
  induction k with
  | refl => exact h
  | step _ e ih => exact ih.step e
theorem Lk.symm (N : Net n E t) {u v : Nat} (h : Lk E u v) : Lk E v u := by
  induction h with
  | refl => exact .refl _
  | step _ e ih => exact Lk.trans (Lk.step (.refl _) (N.symm _ _ e)) ih
theorem root_ex (N : Net n E t) : ∀ v, ∃ r, Root E r ∧ Lk E r v := by
  intro v
  induction v using Nat.strongRecOn with
  | _ v ih =>
    by_cases h : ∃ w, w < v ∧ Lk E v w
    · obtain ⟨w, hw, hl⟩ := h
      obtain ⟨r, h1, h2⟩ := ih w hw
      exact ⟨r, h1, h2.trans (hl.symm N)⟩
    · refine ⟨v, fun w hw => ?_, .refl v⟩
      rcases Nat.lt_or_ge w v with hlt | hge
      · exact absurd ⟨w, hlt, hw⟩ h
      · exact hge
theorem root_unique (N : Net n E t) {r s v : Nat} (hr : Root E r) (hs : Root E s) (h : Lk E r v) (k : Lk E s v) : r = s := by
  have a := hr s (h.trans (k.symm N))
  have b := hs r (k.trans (h.symm N))
  omega
theorem Lk.lt (N : Net n E t) {u v : Nat} (h : Lk E u v) (hu : u < n) : v < n := by
  cases h with
  | refl => exact hu
  | step _ e => exact (N.lt _ _ e).2
theorem fit_diff {p q : Nat → Int} (hp : Fit E t p) (hq : Fit E t q) {u v : Nat} (h : Lk E u v) : ((p v - p u) - (q v - q u)) % 360 = 0 := by
  induction h with
  | refl => simp
  | step _ e ih =>
    have a := hp _ _ e
    have b := hq _ _ e
    omega

/-- what a spread of phases keeps: each known antenna has a known root, and the phase that any solution has relative to that root -/
structure Der (n : Nat) (E : Nat → Nat → Prop) (t : Nat → Nat → Int) (kn : Nat → Bool) (ph : Nat → Int) : Prop where
  der : ∀ v, kn v = true → ∃ r, Root E r ∧ Lk E r v ∧ kn r = true ∧ ∀ q, Fit E t q → (ph v - (q v - q r)) % 360 = 0
  zero : ∀ v, kn v = true → Root E v → ph v = 0
  rng : ∀ v, 0 ≤ ph v ∧ ph v < 360
  none : ∀ v, kn v = false → ph v = 0
def upd {α : Type} (f : Nat → α) (k : Nat) (x : α) : Nat → α := fun j => if j = k then x else f j
theorem upd_same {α : Type} (f : Nat → α) (k : Nat) (x : α) : upd f k x k = x := by simp [upd]
theorem upd_ne {α : Type} {f : Nat → α} {k j : Nat} {x : α} (h : j ≠ k) : upd f k x j = f j := by simp [upd, h]
theorem upd_id {α : Type} {f : Nat → α} {k : Nat} {x : α} (h : f k = x) : upd f k x = f := by
  funext j; unfold upd; split
  · next e => rw [e, h]
  · rfl
theorem upd_true {f : Nat → Bool} {k v : Nat} (h : f v = true) : upd f k true v = true := by unfold upd; split <;> simp [h]
theorem Der.start : Der n E t (fun _ => false) (fun _ => 0) := ⟨(fun _ h => by cases h), (fun _ h => by cases h), (fun _ => by omega), fun _ _ => rfl⟩
/-- known antennas are known with all to which they are linked -/
def Shut (E : Nat → Nat → Prop) (kn : Nat → Bool) : Prop := ∀ u v, E u v → kn u = true → kn v = true
theorem Shut.lk {kn : Nat → Bool} (h : Shut E kn) {u v : Nat} (l : Lk E u v) (hu : kn u = true) : kn v = true := by
  induction l with
  | refl => exact hu
  | step _ e ih => exact h _ _ e ih
/-- the next antenna that is not known is a root -/
theorem root_next (N : Net n E t) {kn : Nat → Bool} {s : Nat} (h : Shut E kn) (hs : kn s = false) (hl : ∀ v, v < s → kn v = true) : Root E s := by
  intro v hv
  rcases Nat.lt_or_ge v s with hlt | hge
  · have := h.lk (hv.symm N) (hl v hlt)
    rw [hs] at this; cases this
  · exact hge
theorem Der.root {kn : Nat → Bool} {ph : Nat → Int} {s : Nat} (h : Der n E t kn ph) (hs : kn s = false) (hr : Root E s) : Der n E t (upd kn s true) ph := by
  refine ⟨fun v hv => ?_, fun v hv hr' => ?_, h.rng, fun v hv => ?_⟩
  · by_cases e : v = s
    · subst e
      exact ⟨v, hr, .refl v, upd_same _ _ _, fun q _ => by rw [h.none v hs]; simp⟩
    · rw [upd_ne e] at hv
      obtain ⟨r, a, b, c, d⟩ := h.der v hv
      exact ⟨r, a, b, upd_true c, d⟩
  · by_cases e : v = s
    · subst e; exact h.none v hs
    · rw [upd_ne e] at hv; exact h.zero v hv hr'
  · by_cases e : v = s
    · subst e; rw [upd_same] at hv; cases hv
    · rw [upd_ne e] at hv; exact h.none v hv
theorem Der.add (N : Net n E t) {kn : Nat → Bool} {ph : Nat → Int} {i j : Nat} (h : Der n E t kn ph) (hi : kn i = true) (hj : kn j = false) (e : E i j) : Der n E t (upd kn j true) (upd ph j ((ph i + t i j) % 360)) := by
  have hij : i ≠ j := by rintro rfl; rw [hi] at hj; cases hj
  refine ⟨fun v hv => ?_, fun v hv hr' => ?_, fun v => ?_, fun v hv => ?_⟩
  · by_cases ev : v = j
    · subst ev
      obtain ⟨r, a, b, c, d⟩ := h.der i hi
      refine ⟨r, a, b.step e, upd_true c, fun q hq => ?_⟩
      have h1 := d q hq
      have h2 := hq _ _ e
      rw [upd_same]
      omega
    · rw [upd_ne ev] at hv
      obtain ⟨r, a, b, c, d⟩ := h.der v hv
      refine ⟨r, a, b, upd_true c, fun q hq => ?_⟩
      rw [upd_ne ev]
      exact d q hq
  · by_cases ev : v = j
    · subst ev
      obtain ⟨r, a, b, c, d⟩ := h.der i hi
      have := root_unique N a hr' (b.step e) (.refl v)
      subst this
      rw [c] at hj; cases hj
    · rw [upd_ne ev] at hv ⊢
      exact h.zero v hv hr'
  · by_cases ev : v = j
    · subst ev; rw [upd_same]; omega
    · rw [upd_ne ev]; exact h.rng v
  · by_cases ev : v = j
    · subst ev; rw [upd_same] at hv; cases hv
    · rw [upd_ne ev] at hv ⊢; exact h.none v hv
/-- a known link that does not fit: there is no solution -/
theorem Der.wrong (N : Net n E t) {kn : Nat → Bool} {ph : Nat → Int} {i j : Nat} (h : Der n E t kn ph) (hi : kn i = true) (hj : kn j = true) (e : E i j) (hne : ph j ≠ (ph i + t i j) % 360) : ∀ q, ¬ Fit E t q := by
  intro q hq
  obtain ⟨r, a, b, c, d⟩ := h.der i hi
  obtain ⟨r', a', b', c', d'⟩ := h.der j hj
  have := root_unique N a a' (b.step e) b'
  subst this
  have h1 := d q hq
  have h2 := d' q hq
  have h3 := hq _ _ e
  have h4 := h.rng j
  omega
/-- the end: all antennas known; where there is a solution at all, this is one -/
theorem Der.fit (N : Net n E t) {kn : Nat → Bool} {ph : Nat → Int} (h : Der n E t kn ph) (hk : ∀ v, v < n → kn v = true) {q : Nat → Int} (hq : Fit E t q) : Fit E t ph := by
  intro u v e
  obtain ⟨r, a, b, c, d⟩ := h.der u (hk u (N.lt _ _ e).1)
  obtain ⟨r', a', b', c', d'⟩ := h.der v (hk v (N.lt _ _ e).2)
  have := root_unique N a a' (b.step e) b'
  subst this
  have h1 := d q hq
  have h2 := d' q hq
  have h3 := hq _ _ e
  omega
/-! ### the search of the program: a queue -/
/-- links from antennas that are done are known, and fit -/
def Cons (E : Nat → Nat → Prop) (t : Nat → Nat → Int) (kn : Nat → Bool) (ph : Nat → Int) (done : Nat → Nat → Prop) : Prop :=
  ∀ u v, E u v → kn u = true → done u v → kn v = true ∧ (ph v - ph u - t u v) % 360 = 0
def Done (Q : List Nat) (i j : Nat) (u v : Nat) : Prop := u ∉ Q ∨ (u = i ∧ v < j)
theorem Cons.mono {kn : Nat → Bool} {ph : Nat → Int} {d d' : Nat → Nat → Prop} (h : Cons E t kn ph d) (hd : ∀ u v, E u v → d' u v → d u v) : Cons E t kn ph d' :=
  fun u v e hu hd' => h u v e hu (hd u v e hd')
theorem cons_begin {kn : Nat → Bool} {ph : Nat → Int} {s : Nat} (h : Cons E t kn ph fun _ _ => True) : Cons E t (upd kn s true) ph (fun u _ => u ∉ [s]) := by
  intro u v e hu hd
  have hus : u ≠ s := by simpa using hd
  rw [upd_ne hus] at hu
  obtain ⟨a, b⟩ := h u v e hu trivial
  exact ⟨upd_true a, b⟩
theorem cons_head {kn : Nat → Bool} {ph : Nat → Int} {i : Nat} {Q : List Nat} (h : Cons E t kn ph fun u _ => u ∉ Q) : Cons E t kn ph (Done Q i 0) :=
  h.mono fun u v _ hd => by rcases hd with h | ⟨_, h⟩; exact h; omega
theorem cons_skip {kn : Nat → Bool} {ph : Nat → Int} {i j : Nat} {Q : List Nat} (h : Cons E t kn ph (Done Q i j)) (hn : ¬ E i j) : Cons E t kn ph (Done Q i (j + 1)) :=
  h.mono fun u v e hd => by
    rcases hd with h | ⟨rfl, h⟩
    · exact .inl h
    · refine .inr ⟨rfl, ?_⟩
      rcases Nat.lt_or_ge v j with hlt | hge
      · exact hlt
      · obtain rfl : v = j := by omega
        exact absurd e hn
theorem cons_known {kn : Nat → Bool} {ph : Nat → Int} {i j : Nat} {Q : List Nat} (h : Cons E t kn ph (Done Q i j)) (hk : kn j = true) (he : ph j = (ph i + t i j) % 360) : Cons E t kn ph (Done Q i (j + 1)) := by
  intro u v e hu hd
  by_cases hv : u = i ∧ v = j
  · obtain ⟨rfl, rfl⟩ := hv
    exact ⟨hk, by omega⟩
  · refine h u v e hu ?_
    rcases hd with h | ⟨rfl, h⟩
    · exact .inl h
    · exact .inr ⟨rfl, by omega⟩
theorem cons_add {kn : Nat → Bool} {ph : Nat → Int} {i j : Nat} {Q : List Nat} (h : Cons E t kn ph (Done Q i j)) (hi : kn i = true) (hk : kn j = false) :
    Cons E t (upd kn j true) (upd ph j ((ph i + t i j) % 360)) (Done (Q ++ [j]) i (j + 1)) := by
  have hij : i ≠ j := by rintro rfl; rw [hi] at hk; cases hk
  intro u v e hu hd
  by_cases hv : u = i ∧ v = j
  · obtain ⟨rfl, rfl⟩ := hv
    exact ⟨upd_same _ _ _, by rw [upd_same, upd_ne hij]; omega⟩
  · have huj : u ≠ j := by
      rintro rfl
      rcases hd with h | ⟨h, _⟩
      · simp at h
      · exact hij h.symm
    rw [upd_ne huj] at hu
    have hd' : Done Q i j u v := by
      rcases hd with h | ⟨rfl, h⟩
      · exact .inl fun hm => h (by simp [hm])
      · exact .inr ⟨rfl, by omega⟩
    obtain ⟨a, b⟩ := h u v e hu hd'
    have hvj : v ≠ j := by rintro rfl; rw [hk] at a; cases a
    exact ⟨upd_true a, by rw [upd_ne huj, upd_ne hvj]; exact b⟩
theorem cons_pop (N : Net n E t) {kn : Nat → Bool} {ph : Nat → Int} {i : Nat} {Q : List Nat} (h : Cons E t kn ph (Done (i :: Q) i n)) : Cons E t kn ph (fun u _ => u ∉ Q) :=
  h.mono fun u v e hd => by
    by_cases hu : u = i
    · exact .inr ⟨hu, (N.lt _ _ e).2⟩
    · exact .inl (by simp [hu, hd])
theorem Cons.shut {kn : Nat → Bool} {ph : Nat → Int} (h : Cons E t kn ph fun _ _ => True) : Shut E kn := fun u v e hu => (h u v e hu trivial).1
/-! ### counts of known antennas -/
def cntF (kn : Nat → Bool) : Nat → Nat
  | 0 => 0
  | k + 1 => cntF kn k + (if kn k then 1 else 0)
theorem cntF_le (kn : Nat → Bool) (k : Nat) : cntF kn k ≤ k := by
  induction k with
  | zero => simp [cntF]
  | succ k ih => simp only [cntF]; split <;> omega
theorem cntF_mono {a b : Nat → Bool} (h : ∀ v, a v = true → b v = true) (k : Nat) : cntF a k ≤ cntF b k := by
  induction k with
  | zero => simp [cntF]
  | succ k ih =>
    simp only [cntF]
    by_cases e : a k = true
    · rw [if_pos e, if_pos (h k e)]; omega
    · rw [if_neg e]; omega
theorem cntF_strict {a b : Nat → Bool} (h : ∀ v, a v = true → b v = true) {j : Nat} (h1 : a j = false) (h2 : b j = true) {k : Nat} (hj : j < k) : cntF a k + 1 ≤ cntF b k := by
  induction k with
  | zero => omega
  | succ k ih =>
    simp only [cntF]
    by_cases e : j = k
    · subst e
      have := cntF_mono h j
      rw [h1, h2]; simp; omega
    · have := ih (by omega)
      by_cases e : a k = true
      · rw [if_pos e, if_pos (h k e)]; omega
      · rw [if_neg e]; omega
theorem cntF_pos {a : Nat → Bool} {j k : Nat} (h : a j = true) (hj : j < k) : 1 ≤ cntF a k := by
  induction k with
  | zero => omega
  | succ k ih =>
    simp only [cntF]
    by_cases e : j = k
    · subst e; rw [h]; simp
    · have := ih (by omega); omega
theorem cntF_upd {a : Nat → Bool} {j k : Nat} (h : a j = false) (hj : j < k) : cntF (upd a j true) k = cntF a k + 1 := by
  induction k with
  | zero => omega
  | succ k ih =>
    simp only [cntF]
    by_cases e : j = k
    · subst e
      have e2 : ∀ m, m ≤ j → cntF (upd a j true) m = cntF a m := by
        intro m hm
        induction m with
        | zero => rfl
        | succ m ih2 => simp only [cntF]; rw [ih2 (by omega), upd_ne (by omega)]
      rw [e2 j (Nat.le_refl _), upd_same, h]; simp
    · rw [ih (by omega), upd_ne (Ne.symm e)]; omega
/-! ### the spread of the reference: rounds over all pairs -/
/-- behind a part of a round: what was known is known, with the neighbours that have been looked at; where nothing was to do, nothing was done -/
structure Rnd (E : Nat → Nat → Prop) (k0 kn : Nat → Bool) (i j : Nat) : Prop where
  old : ∀ v, k0 v = true → kn v = true
  nb : ∀ u v, E u v → k0 u = true → (u < i ∨ (u = i ∧ v < j)) → kn v = true
  same : Shut E k0 → kn = k0
theorem Rnd.start (k0 : Nat → Bool) : Rnd E k0 k0 0 0 := ⟨fun _ h => h, fun _ _ _ _ h => by omega, fun _ => rfl⟩
theorem Rnd.skip {k0 kn : Nat → Bool} {i j : Nat} (h : Rnd E k0 kn i j) (hn : ¬ E i j ∨ kn i = false ∨ kn j = true) : Rnd E k0 kn i (j + 1) := by
  refine ⟨h.old, fun u v e hu hd => ?_, h.same⟩
  by_cases hv : u = i ∧ v = j
  · obtain ⟨rfl, rfl⟩ := hv
    rcases hn with hn | hn | hn
    · exact absurd e hn
    · rw [h.old _ hu] at hn; cases hn
    · exact hn
  · exact h.nb u v e hu (by omega)
theorem Rnd.add {k0 kn : Nat → Bool} {i j : Nat} (h : Rnd E k0 kn i j) (e : E i j) (hi : kn i = true) (hj : kn j = false) : Rnd E k0 (upd kn j true) i (j + 1) := by
  refine ⟨fun v hv => upd_true (h.old v hv), fun u v e' hu hd => ?_, fun hs => ?_⟩
  · by_cases hv : u = i ∧ v = j
    · obtain ⟨rfl, rfl⟩ := hv; exact upd_same _ _ _
    · exact upd_true (h.nb u v e' hu (by omega))
  · have := h.same hs
    subst this
    rw [hs i j e hi] at hj; cases hj
theorem Rnd.row (N : Net n E t) {k0 kn : Nat → Bool} {i : Nat} (h : Rnd E k0 kn i n) : Rnd E k0 kn (i + 1) 0 :=
  ⟨h.old, fun u v e hu hd => by
    rcases hd with hd | ⟨_, hd⟩
    · refine h.nb u v e hu ?_
      have := (N.lt _ _ e).2
      omega
    · omega, h.same⟩
theorem Rnd.end_ (N : Net n E t) {k0 kn : Nat → Bool} (h : Rnd E k0 kn n 0) : (∀ v, k0 v = true → kn v = true) ∧ (∀ u v, E u v → k0 u = true → kn v = true) ∧ (Shut E k0 → kn = k0) :=
  ⟨h.old, fun u v e hu => h.nb u v e hu (.inl (N.lt _ _ e).1), h.same⟩
/-- behind r rounds: shut, or more than r are known -/
def Rounds (n : Nat) (E : Nat → Nat → Prop) (r : Nat) (kn : Nat → Bool) : Prop := Shut E kn ∨ r + 1 ≤ cntF kn n
theorem rounds_start {kn : Nat → Bool} {i : Nat} (hi : i < n) (h : kn i = true) : Rounds n E 0 kn := .inr (cntF_pos h hi)
theorem rounds_step (N : Net n E t) {kn kn' : Nat → Bool} {r : Nat} (h : Rounds n E r kn) (h1 : ∀ v, kn v = true → kn' v = true) (h2 : ∀ u v, E u v → kn u = true → kn' v = true) (h3 : Shut E kn → kn' = kn) : Rounds n E (r + 1) kn' := by
  by_cases hs : Shut E kn
  · rw [h3 hs]; exact .inl hs
  · rcases h with h | h
    · exact absurd h hs
    · simp only [Shut, Classical.not_forall] at hs
      obtain ⟨u, v, e, hu, hv⟩ := hs
      have hv' : kn v = false := by simpa using hv
      exact .inr (by have := cntF_strict h1 hv' (h2 u v e hu) (N.lt _ _ e).2; omega)
theorem rounds_end {kn : Nat → Bool} (h : Rounds n E n kn) : Shut E kn := by
  rcases h with h | h
  · exact h
  · have := cntF_le kn n; omega
/-! ### solutions -/
def pAt (l : List Int) (k : Nat) : Int := l[k]?.getD 0
def bAt0 (l : List Bool) (k : Nat) : Bool := l[k]?.getD false
theorem pAt_some {l : List Int} {k : Nat} {x : Int} (h : l[k]? = some x) : pAt l k = x := by simp [pAt, h]
theorem bAt0_some {l : List Bool} {k : Nat} {x : Bool} (h : l[k]? = some x) : bAt0 l k = x := by simp [bAt0, h]
theorem some_pAt {l : List Int} {k : Nat} (h : k < l.length) : l[k]? = some (pAt l k) := by simp [pAt, h]
theorem some_bAt0 {l : List Bool} {k : Nat} (h : k < l.length) : l[k]? = some (bAt0 l k) := by simp [bAt0, h]
theorem pAt_set {l : List Int} {k : Nat} {x : Int} (h : k < l.length) : pAt (l.set k x) = upd (pAt l) k x := by
  funext j
  unfold pAt upd
  split
  · next e => subst e; rw [List.getElem?_set_self h]; rfl
  · next e => rw [List.getElem?_set_ne (Ne.symm e)]
theorem bAt0_set {l : List Bool} {k : Nat} {x : Bool} (h : k < l.length) : bAt0 (l.set k x) = upd (bAt0 l) k x := by
  funext j
  unfold bAt0 upd
  split
  · next e => subst e; rw [List.getElem?_set_self h]; rfl
  · next e => rw [List.getElem?_set_ne (Ne.symm e)]
theorem pAt_rep (n : Nat) : pAt (List.replicate n 0) = fun _ => 0 := by
  funext j; unfold pAt; rw [List.getElem?_replicate]; split <;> rfl
theorem bAt0_rep (n : Nat) : bAt0 (List.replicate n false) = fun _ => false := by
  funext j; unfold bAt0; rw [List.getElem?_replicate]; split <;> rfl
/-- what solving answers: the solution whose roots have the phase 0, or nothing where there is none -/
def Sol (n : Nat) (E : Nat → Nat → Prop) (t : Nat → Nat → Int) (out : List Int) (ok : Bool) : Prop :=
  (ok = true ∧ out.length = n ∧ (∀ v, 0 ≤ pAt out v ∧ pAt out v < 360) ∧ Fit E t (pAt out) ∧ ∀ r, r < n → Root E r → pAt out r = 0) ∨ (ok = false ∧ out = [] ∧ ∀ q, ¬ Fit E t q)
theorem Sol.unique (N : Net n E t) {a b : List Int} {x y : Bool} (h : Sol n E t a x) (k : Sol n E t b y) : a = b ∧ x = y := by
  rcases h with ⟨rfl, l1, r1, f1, z1⟩ | ⟨rfl, rfl, n1⟩ <;> rcases k with ⟨rfl, l2, r2, f2, z2⟩ | ⟨rfl, rfl, n2⟩
  · refine ⟨?_, rfl⟩
    apply List.ext_getElem?
    intro v
    rcases Nat.lt_or_ge v n with hv | hv
    · obtain ⟨r, hr, hl⟩ := root_ex N v
      have hd := fit_diff f1 f2 hl
      have hrn : r < n := (hl.symm N).lt N hv
      rw [z1 r hrn hr, z2 r hrn hr] at hd
      have e1 := r1 v
      have e2 := r2 v
      rw [some_pAt (by omega), some_pAt (by omega)]
      congr 1
      omega
    · rw [List.getElem?_eq_none (by omega), List.getElem?_eq_none (by omega)]
  · exact absurd f1 (n2 _)
  · exact absurd f2 (n1 _)
  · exact ⟨rfl, rfl⟩
theorem Sol.of_der {kn : Nat → Bool} {out : List Int} (h : Der n E t kn (pAt out)) (hl : out.length = n) (hk : ∀ v, v < n → kn v = true) (hf : Fit E t (pAt out)) : Sol n E t out true :=
  .inl ⟨rfl, hl, h.rng, hf, fun r hr hR => h.zero r (hk r hr) hR⟩
end
end Go.Proofs.Ytebjdchfofhmhaa
