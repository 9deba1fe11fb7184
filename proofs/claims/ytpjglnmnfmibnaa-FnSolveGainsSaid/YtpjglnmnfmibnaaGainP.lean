/-
  Plain law on applied gains: they keep amplitudes in range where those of the gains are 1, and solutions move with them. No program in sight.
-/
import Derived.Test.YtpjglnmnfmibnaaGainI
import Derived.Test.YtpjglnmnfmibnaaSolPlainB
namespace Go.Proofs.Ytpjglnmnfmibnaa

theorem vph_gaM {N : Nat} (hN : N < 8) (l g : VL) {i j : Nat} (h : i < j) (hj : j < N) : vPh (gaM l g (bp N)) (bIx N i j) = (vPh l (bIx N i j) + vPh g j - vPh g i) % 360 := by
  have := byAt_at (f := gaF l g) (bp_at N hN i (by omega) j hj h)
  exact (v_some this).2
theorem vam_gaM {N : Nat} (hN : N < 8) (l g : VL) {i j : Nat} (h : i < j) (hj : j < N) : vAm (gaM l g (bp N)) (bIx N i j) = vAm l (bIx N i j) * vAm g i * vAm g j := by
  have := byAt_at (f := gaF l g) (bp_at N hN i (by omega) j hj h)
  exact (v_some this).1
/-- gains of amplitude 1 -/
def oneG (ph : Nat → Int) (N : Nat) : VL := (List.range N).map fun i => (1, ph i)
theorem oneG_at {ph : Nat → Int} {N i : Nat} (h : i < N) : (oneG ph N)[i]? = some (1, ph i) := by simp [oneG, h]
theorem oneG_length (ph : Nat → Int) (N : Nat) : (oneG ph N).length = N := by simp [oneG]
theorem oneG_ph {ph : Nat → Int} {N i : Nat} (h : i < N) : vPh (oneG ph N) i = ph i := (v_some (oneG_at h)).2
theorem oneG_am {ph : Nat → Int} {N i : Nat} (h : i < N) : vAm (oneG ph N) i = 1 := (v_some (oneG_at h)).1
theorem oneG_ok {ph : Nat → Int} {N : Nat} (h1 : 2 ≤ N) (h2 : N ≤ 7) (h : ∀ i, 0 ≤ ph i ∧ ph i < 360) : gaB (N : Int) (oneG ph N) = true := gaB_mk h1 h2 (oneG_length _ _) (rgB_mk fun k hk => by
  rw [oneG_length] at hk
  rw [oneG_am hk, oneG_ph hk]
  have := h k
  omega)
theorem one_valid {N : Nat} {l : VL} {ph : Nat → Int} (hv : visB (N : Int) l = true) : visB (N : Int) (gaM l (oneG ph N) (bp N)) = true := by
  obtain ⟨N', e, h1, h2, h3, h4⟩ := visB_parts hv
  obtain rfl : N' = N := by omega
  have hl : (gaM l (oneG ph N') (bp N')).length = nb N' := by rw [gaM_length, bp_length N' (by omega)]
  refine visB_mk h1 h2 hl (rgB_mk fun k hk => ?_)
  rw [hl] at hk
  obtain ⟨i, j, _, hij, hj, rfl⟩ := bp_inv (by omega) hk
  have hr := rgB_at h4 (k := bIx N' i j) (by rw [h3]; exact hk)
  rw [vam_gaM (by omega) _ _ hij hj, vph_gaM (by omega) _ _ hij hj, oneG_am (by omega), oneG_am hj]
  omega
/-- a solution moves with the gains -/
theorem fit_gain {N : Nat} (hN : N ≤ 7) {l m g : VL} {q : Nat → Int} (h : Fit (Eg N (allF (nb N))) (tn N l m) q) : Fit (Eg N (allF (nb N))) (tn N (gaM l g (bp N)) m) (fun v => q v + vPh g v) := by
  rw [fit_iff] at h ⊢
  intro i j hij hj hf
  have a := h i j hij hj hf
  rw [vph_gaM (by omega) _ _ hij hj]
  omega
theorem chain {N : Nat} {l m : VL} {ph : Nat → Int} (h : spB (N : Int) l m = true) (hp : ∀ i, 0 ≤ ph i ∧ ph i < 360) :
    gappB (N : Int) l (oneG ph N) = true ∧ gappL (N : Int) l (oneG ph N) = gaM l (oneG ph N) (bp N) ∧ spB (N : Int) (gaM l (oneG ph N) (bp N)) m = true ∧ (spL (N : Int) (gaM l (oneG ph N) (bp N)) m).length = N ∧
      (spL (N : Int) l m).length = N ∧ ∀ i, i < N → pAt (spL (N : Int) (gaM l (oneG ph N) (bp N)) m) i = (pAt (spL (N : Int) l m) i + ph i - ph 0) % 360 := by
  have h' := h
  obtain ⟨N', e, h1, h2, h3, h4, h5, h6, hso, hfit⟩ := spB_yes h
  obtain rfl : N' = N := by omega
  simp only [spB, Bool.and_eq_true] at h'
  have hv := one_valid (ph := ph) h'.1.1
  have hg : gappB (N' : Int) l (oneG ph N') = true := by simp [gappB, h'.1.1, oneG_ok h1 h2 hp, hv]
  have hs : spB (N' : Int) (gaM l (oneG ph N') (bp N')) m = true := by
    simp only [spB, Bool.and_eq_true, decide_eq_true_eq, Int.toNat_natCast]
    exact ⟨⟨hv, h'.1.2⟩, (rst_fit h2).2 (so_fit (fit_gain h2 hfit))⟩
  obtain ⟨N2, e2, _, _, _, _, _, _, hso2, _⟩ := spB_yes hs
  obtain rfl : N2 = N' := by omega
  refine ⟨hg, by simp [gappL, hg], hs, by rw [hso2, soL_length], by rw [hso, soL_length], fun i hi => ?_⟩
  rw [hso2, hso, soL_at hi, soL_at hi]
  unfold soT
  split
  · next h0 =>
    subst h0
    have := hp 0
    omega
  · next h0 =>
    rw [vph_gaM (by omega) _ _ (by omega) hi, oneG_ph hi, oneG_ph (by omega)]
    omega
end Go.Proofs.Ytpjglnmnfmibnaa
