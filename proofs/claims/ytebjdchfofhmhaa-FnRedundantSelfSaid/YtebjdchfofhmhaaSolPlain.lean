/-
  Visibilities of n antennas as lists of pairs: baselines, validity, phases of a loop, solutions. No program in sight.
-/
import Derived.Test.YtebjdchfofhmhaaNetPlain
namespace Go.Proofs.Ytebjdchfofhmhaa

abbrev VL := List (Int × Int)
def vAm (l : VL) (k : Nat) : Int := (l[k]?.getD (0, 0)).1
def vPh (l : VL) (k : Nat) : Int := (l[k]?.getD (0, 0)).2
theorem some_v {l : VL} {k : Nat} (h : k < l.length) : l[k]? = some (vAm l k, vPh l k) := by simp [vAm, vPh, h]
theorem v_some {l : VL} {k : Nat} {a b : Int} (h : l[k]? = some (a, b)) : vAm l k = a ∧ vPh l k = b := by simp [vAm, vPh, h]
/-! ### baselines -/
def nb (n : Nat) : Nat := n * (n - 1) / 2
def row (n i : Nat) : Nat := i * (2 * n - i - 1) / 2
def bIx (n i j : Nat) : Nat := row n i + (j - i - 1)
def bAt (n i j : Nat) : Nat := if j < i then bIx n j i else bIx n i j
def bp (n : Nat) : List (Nat × Nat) := (List.range n).flatMap fun i => (List.range (n - i - 1)).map fun d => (i, i + 1 + d)
theorem nb_le : ∀ n, n < 8 → nb n ≤ 21 := by decide
theorem nb_pos : ∀ n, n < 8 → 2 ≤ n → 1 ≤ nb n := by decide
theorem row_zero (n : Nat) : row n 0 = 0 := by simp [row]
theorem row_end : ∀ n, n < 8 → row n n = nb n := by decide
theorem row_succ : ∀ n, n < 8 → ∀ i, i < n → row n (i + 1) = row n i + (n - i - 1) := by decide
theorem bIx_lt : ∀ n, n < 8 → ∀ i, i < n → ∀ j, j < n → i < j → bIx n i j < nb n := by decide
theorem bp_length : ∀ n, n < 8 → (bp n).length = nb n := by decide
def bpOk : Bool := (List.range 8).all fun n => (List.range n).all fun i => (List.range n).all fun j => !decide (i < j) || (bp n)[bIx n i j]? == some (i, j)
theorem bpOk_yes : bpOk = true := by decide +kernel
theorem bp_at (n : Nat) (hn : n < 8) (i : Nat) (hi : i < n) (j : Nat) (hj : j < n) (h : i < j) : (bp n)[bIx n i j]? = some (i, j) := by
  have h0 := List.all_eq_true.1 bpOk_yes n (by simpa using hn)
  have h1 := List.all_eq_true.1 h0 i (by simpa using hi)
  have h2 := List.all_eq_true.1 h1 j (by simpa using hj)
  simpa [h] using h2
theorem bp_inv0 : ∀ n, n < 8 → ∀ k, k < nb n → ((bp n)[k]?.getD (0, 0)).1 < ((bp n)[k]?.getD (0, 0)).2 ∧ ((bp n)[k]?.getD (0, 0)).2 < n ∧ bIx n ((bp n)[k]?.getD (0, 0)).1 ((bp n)[k]?.getD (0, 0)).2 = k := by decide +kernel
theorem bp_inv {n k : Nat} (hn : n < 8) (hk : k < nb n) : ∃ i j, (bp n)[k]? = some (i, j) ∧ i < j ∧ j < n ∧ bIx n i j = k := by
  have h := bp_inv0 n hn k hk
  have hl : k < (bp n).length := by rw [bp_length n hn]; exact hk
  refine ⟨_, _, ?_, h.1, h.2.1, h.2.2⟩
  simp [hl]
theorem bp_mem {n i j : Nat} (hn : n < 8) (h : (i, j) ∈ bp n) : i < j ∧ j < n := by
  obtain ⟨k, hk, e⟩ := List.getElem_of_mem h
  rw [bp_length n hn] at hk
  obtain ⟨i', j', h1, h2, h3, _⟩ := bp_inv hn hk
  rw [List.getElem?_eq_getElem (by rw [bp_length n hn]; exact hk), e] at h1
  cases h1
  exact ⟨h2, h3⟩
theorem mem_bp {n i j : Nat} (hn : n < 8) (hi : i < j) (hj : j < n) : (i, j) ∈ bp n := List.mem_of_getElem? (bp_at n hn i (by omega) j hj hi)
theorem bp_take {n i j : Nat} (hn : n < 8) (hi : i < j) (hj : j < n) : (bp n).take (bIx n i j + 1) = (bp n).take (bIx n i j) ++ [(i, j)] := take_snoc_of (bp_at n hn i (by omega) j hj hi)
theorem bIx_succ {n i j : Nat} (h : i < j) : bIx n i (j + 1) = bIx n i j + 1 := by unfold bIx; omega
theorem bIx_first (n i : Nat) : bIx n i (i + 1) = row n i := by unfold bIx; omega
theorem bIx_last {n i : Nat} (hn : n < 8) (h : i < n) : bIx n i n = row n (i + 1) := by rw [row_succ n hn i h]; unfold bIx; omega
theorem bAt_symm (n i j : Nat) : bAt n i j = bAt n j i := by
  unfold bAt
  rcases Nat.lt_trichotomy i j with h | h | h
  · rw [if_neg (by omega), if_pos h]
  · subst h; rfl
  · rw [if_pos h, if_neg (by omega)]
theorem bAt_lt {n i j : Nat} (hn : n < 8) (hi : i < n) (hj : j < n) (h : i ≠ j) : bAt n i j < nb n := by
  unfold bAt
  split
  · next h1 => exact bIx_lt n hn j hj i hi h1
  · next h1 => exact bIx_lt n hn i hi j hj (by omega)
/-! ### what is valid -/
def mnB (n : Int) : Bool := decide (2 ≤ n) && decide (n ≤ 7)
def nbI (n : Int) : Int := if mnB n then n * (n - 1) / 2 else 0
def rg1 (lim : Int) (v : Int × Int) : Bool := decide (1 ≤ v.1) && decide (v.1 ≤ lim) && decide (0 ≤ v.2) && decide (v.2 < 360)
def rgB (lim : Int) (l : VL) : Bool := l.all (rg1 lim)
def visB (n : Int) (l : VL) : Bool := mnB n && decide ((l.length : Int) = nbI n) && rgB 1000000 l
def gaB (n : Int) (g : VL) : Bool := mnB n && decide ((g.length : Int) = n) && rgB 99 g
theorem mnB_iff {n : Int} : mnB n = true ↔ 2 ≤ n ∧ n ≤ 7 := by simp [mnB]
theorem mnB_nat {n : Int} (h : mnB n = true) : ∃ N : Nat, n = N ∧ 2 ≤ N ∧ N ≤ 7 := by
  have := mnB_iff.1 h
  exact ⟨n.toNat, by omega, by omega, by omega⟩
theorem mn_nat {N : Nat} (h : 2 ≤ N) (h' : N ≤ 7) : mnB (N : Int) = true := mnB_iff.2 (by omega)
theorem nbI_nat {N : Nat} (h : 2 ≤ N) (h' : N ≤ 7) : nbI (N : Int) = nb N := by
  have hN : N = 2 ∨ N = 3 ∨ N = 4 ∨ N = 5 ∨ N = 6 ∨ N = 7 := by omega
  rcases hN with rfl | rfl | rfl | rfl | rfl | rfl <;> decide
theorem nbI_range (n : Int) : 0 ≤ nbI n ∧ nbI n ≤ 21 := by
  rcases h : mnB n with _ | _
  · simp [nbI, h]
  · obtain ⟨N, rfl, h1, h2⟩ := mnB_nat h
    rw [nbI_nat h1 h2]
    have := nb_le N (by omega)
    omega
theorem nbI_zero {n : Int} : nbI n = 0 ↔ mnB n = false := by
  rcases h : mnB n with _ | _
  · simp [nbI, h]
  · obtain ⟨N, rfl, h1, h2⟩ := mnB_nat h
    rw [nbI_nat h1 h2]
    have := nb_pos N (by omega) h1
    simp; omega
theorem rgB_at {lim : Int} {l : VL} (h : rgB lim l = true) {k : Nat} (hk : k < l.length) : 1 ≤ vAm l k ∧ vAm l k ≤ lim ∧ 0 ≤ vPh l k ∧ vPh l k < 360 := by
  have := List.all_eq_true.1 h _ (List.mem_of_getElem? (some_v hk))
  simp only [rg1, Bool.and_eq_true, decide_eq_true_eq] at this
  exact ⟨this.1.1.1, this.1.1.2, this.1.2, this.2⟩
theorem rgB_mk {lim : Int} {l : VL} (h : ∀ k, k < l.length → 1 ≤ vAm l k ∧ vAm l k ≤ lim ∧ 0 ≤ vPh l k ∧ vPh l k < 360) : rgB lim l = true := by
  refine List.all_eq_true.2 fun v hv => ?_
  obtain ⟨k, hk, rfl⟩ := List.getElem_of_mem hv
  have h1 := h k hk
  have e := some_v hk
  rw [List.getElem?_eq_getElem hk] at e
  cases e' : l[k]
  rw [e'] at e
  simp only [Option.some.injEq, Prod.mk.injEq] at e
  obtain ⟨rfl, rfl⟩ := e
  simp only [rg1, Bool.and_eq_true, decide_eq_true_eq]
  exact ⟨⟨⟨h1.1, h1.2.1⟩, h1.2.2.1⟩, h1.2.2.2⟩
theorem visB_parts {n : Int} {l : VL} (h : visB n l = true) : ∃ N : Nat, n = N ∧ 2 ≤ N ∧ N ≤ 7 ∧ l.length = nb N ∧ rgB 1000000 l = true := by
  simp only [visB, Bool.and_eq_true, decide_eq_true_eq] at h
  obtain ⟨⟨h1, h2⟩, h3⟩ := h
  obtain ⟨N, rfl, a, b⟩ := mnB_nat h1
  rw [nbI_nat a b] at h2
  exact ⟨N, rfl, a, b, by omega, h3⟩
theorem visB_mk {N : Nat} {l : VL} (h1 : 2 ≤ N) (h2 : N ≤ 7) (h3 : l.length = nb N) (h4 : rgB 1000000 l = true) : visB (N : Int) l = true := by
  simp only [visB, Bool.and_eq_true, decide_eq_true_eq]
  exact ⟨⟨mn_nat h1 h2, by rw [nbI_nat h1 h2, h3]⟩, h4⟩
theorem gaB_parts {n : Int} {l : VL} (h : gaB n l = true) : ∃ N : Nat, n = N ∧ 2 ≤ N ∧ N ≤ 7 ∧ l.length = N ∧ rgB 99 l = true := by
  simp only [gaB, Bool.and_eq_true, decide_eq_true_eq] at h
  obtain ⟨⟨h1, h2⟩, h3⟩ := h
  obtain ⟨N, rfl, a, b⟩ := mnB_nat h1
  exact ⟨N, rfl, a, b, by omega, h3⟩
theorem gaB_mk {N : Nat} {l : VL} (h1 : 2 ≤ N) (h2 : N ≤ 7) (h3 : l.length = N) (h4 : rgB 99 l = true) : gaB (N : Int) l = true := by
  simp only [gaB, Bool.and_eq_true, decide_eq_true_eq]
  exact ⟨⟨mn_nat h1 h2, by omega⟩, h4⟩
/-! ### visibilities in any order of the antennas -/
def vgP (n : Nat) (l : VL) (i j : Nat) : Int := if j < i then (-(vPh l (bIx n j i))) % 360 else vPh l (bIx n i j)
def vgA (n : Nat) (l : VL) (i j : Nat) : Int := vAm l (bAt n i j)
theorem vgP_range {n : Nat} {l : VL} (hn : n < 8) (hl : l.length = nb n) (hr : rgB 1000000 l = true) {i j : Nat} (hi : i < n) (hj : j < n) (h : i ≠ j) : 0 ≤ vgP n l i j ∧ vgP n l i j < 360 := by
  unfold vgP
  split
  · omega
  · next h1 => have := rgB_at hr (k := bIx n i j) (by rw [hl]; exact bIx_lt n hn i hi j hj (by omega)); omega
theorem vgP_anti {n : Nat} {l : VL} {i j : Nat} (h : i ≠ j) : (vgP n l i j + vgP n l j i) % 360 = 0 := by
  unfold vgP
  rcases Nat.lt_or_ge i j with h1 | h1
  · rw [if_neg (by omega), if_pos h1]; omega
  · rw [if_pos (by omega), if_neg (by omega)]; omega
/-! ### the net of the baselines that are not bad -/
def Eg (n : Nat) (fl : List Bool) (i j : Nat) : Prop := i < n ∧ j < n ∧ i ≠ j ∧ bAt0 fl (bAt n i j) = false
def tn (n : Nat) (l m : VL) (i j : Nat) : Int := vgP n l i j - vgP n m i j
theorem net_of (n : Nat) (fl : List Bool) (l m : VL) : Net n (Eg n fl) (tn n l m) where
  symm u v h := ⟨h.2.1, h.1, Ne.symm h.2.2.1, by rw [bAt_symm]; exact h.2.2.2⟩
  lt u v h := ⟨h.1, h.2.1⟩
  anti u v h := by
    have a := vgP_anti (n := n) (l := l) h.2.2.1
    have b := vgP_anti (n := n) (l := m) h.2.2.1
    unfold tn
    omega
/-- it is enough to look at each baseline once -/
theorem fit_iff {n : Nat} {fl : List Bool} {l m : VL} {q : Nat → Int} : Fit (Eg n fl) (tn n l m) q ↔ ∀ i j, i < j → j < n → bAt0 fl (bIx n i j) = false → (vPh l (bIx n i j) - (vPh m (bIx n i j) + q j - q i)) % 360 = 0 := by
  constructor
  · intro h i j hij hj hf
    have := h i j ⟨by omega, hj, by omega, by unfold bAt; rw [if_neg (by omega)]; exact hf⟩
    unfold tn vgP at this
    rw [if_neg (by omega), if_neg (by omega)] at this
    omega
  · intro h u v ⟨hu, hv, hne, hf⟩
    rcases Nat.lt_or_ge u v with h1 | h1
    · have := h u v h1 hv (by unfold bAt at hf; rw [if_neg (by omega)] at hf; exact hf)
      unfold tn vgP
      rw [if_neg (by omega), if_neg (by omega)]
      omega
    · have h2 : v < u := by omega
      have := h v u h2 hu (by unfold bAt at hf; rw [if_pos h2] at hf; exact hf)
      unfold tn vgP
      rw [if_pos h2, if_pos h2]
      omega
/-- what solving with bad baselines answers, at any arguments -/
def FSol (n : Int) (l m : VL) (fl : List Bool) (out : List Int) (ok : Bool) : Prop :=
  if visB n l && visB n m && decide ((fl.length : Int) = nbI n) then Sol n.toNat (Eg n.toNat fl) (tn n.toNat l m) out ok else ok = false ∧ out = []
theorem FSol.unique {n : Int} {l m : VL} {fl : List Bool} {a b : List Int} {x y : Bool} (h : FSol n l m fl a x) (k : FSol n l m fl b y) : a = b ∧ x = y := by
  unfold FSol at h k
  split at h
  · next hc => rw [if_pos hc] at k; exact Sol.unique (net_of _ _ _ _) h k
  · next hc => rw [if_neg hc] at k; exact ⟨h.2.trans k.2.symm, h.1.trans k.1.symm⟩
theorem FSol.len {n : Int} {l m : VL} {fl : List Bool} {a : List Int} {x : Bool} (h : FSol n l m fl a x) : a.length ≤ 7 := by
  unfold FSol at h
  split at h
  · next hc =>
    simp only [Bool.and_eq_true] at hc
    obtain ⟨N, rfl, h1, h2, _, _⟩ := visB_parts hc.1.1
    rcases h with ⟨_, h, _⟩ | ⟨_, h, _⟩
    · simp at h; omega
    · rw [h]; simp
  · rw [h.2]; simp
theorem FSol.yes {n : Int} {l m : VL} {fl : List Bool} {a : List Int} (h : FSol n l m fl a true) : ∃ N : Nat, n = N ∧ 2 ≤ N ∧ N ≤ 7 ∧ l.length = nb N ∧ m.length = nb N ∧ fl.length = nb N ∧ rgB 1000000 l = true ∧ rgB 1000000 m = true ∧
    a.length = N ∧ (∀ v, 0 ≤ pAt a v ∧ pAt a v < 360) ∧ Fit (Eg N fl) (tn N l m) (pAt a) ∧ ∀ r, r < N → Root (Eg N fl) r → pAt a r = 0 := by
  unfold FSol at h
  split at h
  · next hc =>
    simp only [Bool.and_eq_true, decide_eq_true_eq] at hc
    obtain ⟨N, rfl, h1, h2, h3, h4⟩ := visB_parts hc.1.1
    obtain ⟨N', e, _, _, h5, h6⟩ := visB_parts hc.1.2
    obtain rfl : N' = N := by omega
    have hf := hc.2
    rw [nbI_nat h1 h2] at hf
    rcases h with ⟨_, a1, a2, a3, a4⟩ | ⟨c, _, _⟩
    · exact ⟨N', rfl, h1, h2, h3, h5, by omega, h4, h6, a1, a2, a3, a4⟩
    · cases c
  · cases h.1
theorem FSol.no {N : Nat} {l m : VL} {fl : List Bool} {a : List Int} (h1 : 2 ≤ N) (h2 : N ≤ 7) (hl : visB (N : Int) l = true) (hm : visB (N : Int) m = true) (hf : fl.length = nb N) (h : FSol N l m fl a false) : ∀ q, ¬ Fit (Eg N fl) (tn N l m) q := by
  unfold FSol at h
  rw [if_pos (by simp [hl, hm, nbI_nat h1 h2, hf])] at h
  rcases h with ⟨c, _⟩ | ⟨_, _, k⟩
  · cases c
  · exact k
theorem FSol.of_sol {N : Nat} {l m : VL} {fl : List Bool} {a : List Int} {x : Bool} (h1 : 2 ≤ N) (h2 : N ≤ 7) (hl : visB (N : Int) l = true) (hm : visB (N : Int) m = true) (hf : fl.length = nb N) (h : Sol N (Eg N fl) (tn N l m) a x) : FSol N l m fl a x := by
  unfold FSol
  rw [if_pos (by simp [hl, hm, nbI_nat h1 h2, hf])]
  exact h
theorem FSol.bad {n : Int} {l m : VL} {fl : List Bool} (h : (visB n l && visB n m && decide ((fl.length : Int) = nbI n)) = false) : FSol n l m fl [] false := by
  unfold FSol
  rw [if_neg (by rw [h]; simp)]
  exact ⟨rfl, rfl⟩
/-! ### no bad baselines -/
def allF (k : Nat) : List Bool := List.replicate k false
theorem bAt0_allF (k j : Nat) : bAt0 (allF k) j = false := by unfold allF; rw [bAt0_rep]
theorem all_linked {n k : Nat} {i j : Nat} (hi : i < n) (hj : j < n) : Lk (Eg n (allF k)) i j := by
  by_cases h : i = j
  · subst h; exact .refl _
  · exact .step (.refl _) ⟨hi, hj, h, bAt0_allF _ _⟩
theorem root_all {n k r : Nat} (hr : r < n) (h : Root (Eg n (allF k)) r) : r = 0 := by
  have := h 0 (all_linked hr (by omega))
  omega
theorem root_zero {E : Nat → Nat → Prop} : Root E 0 := fun _ _ => Nat.zero_le _
end Go.Proofs.Ytebjdchfofhmhaa
