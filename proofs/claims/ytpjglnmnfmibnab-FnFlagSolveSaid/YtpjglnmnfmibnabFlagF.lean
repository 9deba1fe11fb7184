/-
  Contracts of the reference: l16Ok, l16Fits, l16Spread.
-/
import Derived.Test.YtpjglnmnfmibnabFlagS
import Derived.Test.YtpjglnmnfmibnabSolSpec
import Derived.Test.YtpjglnmnfmibnabLinkP
namespace Go.Proofs.Ytpjglnmnfmibnab
open Go.RowKit
set_option linter.unusedSimpArgs false
set_option linter.unusedVariables false

/-- phases fit all baselines that are not bad -/
def fitG (N : Nat) (l m : VL) (fl : List Bool) (ps : List Int) (p : Nat × Nat) : Bool := bAt0 fl (bIx N p.1 p.2) || decide (vPh l (bIx N p.1 p.2) = (vPh m (bIx N p.1 p.2) + pAt ps p.2 - pAt ps p.1) % 360)
def fitB (N : Nat) (l m : VL) (fl : List Bool) (ps : List Int) : Bool := (bp N).all (fitG N l m fl ps)
theorem fitB_no {N : Nat} {l m : VL} {fl : List Bool} {ps : List Int} {i j : Nat} (hN : N < 8) (hi : i < j) (hj : j < N) (h : fitG N l m fl ps (i, j) = false) : fitB N l m fl ps = false := by
  rcases e : fitB N l m fl ps with _ | _
  · rfl
  · have := List.all_eq_true.1 e (i, j) (mem_bp hN hi hj)
    rw [h] at this; cases this
theorem fitB_iff {N : Nat} {l m : VL} {fl : List Bool} {ps : List Int} (hN : N < 8) (hl : l.length = nb N) (hr : rgB 1000000 l = true) : fitB N l m fl ps = true ↔ Fit (Eg N fl) (tn N l m) (pAt ps) := by
  rw [fit_iff]
  constructor
  · intro h i j hij hj hf
    have := List.all_eq_true.1 h (i, j) (mem_bp hN hij hj)
    simp only [fitG, hf, Bool.false_or, decide_eq_true_eq] at this
    omega
  · intro h
    refine List.all_eq_true.2 fun p hp => ?_
    obtain ⟨i, j⟩ := p
    obtain ⟨hij, hj⟩ := bp_mem hN hp
    rcases hf : bAt0 fl (bIx N i j) with _ | _
    · have a := h i j hij hj hf
      have b := rgB_at hr (k := bIx N i j) (by rw [hl]; exact bIx_lt N hN i (by omega) j hj hij)
      simp only [fitG, hf, Bool.false_or, decide_eq_true_eq]
      omega
    · simp [fitG, hf]
theorem fieldP (a b : Value) (W : World) : (Instr.field 30 (.agg #[a, b]) 1).run Try.prog W = .ok b W := by kernel_rfl
theorem l16Ok_any (N : Nat) (A3 : Option Addr) (n3 c3 : Nat) (w : World) (h1 : 2 ≤ N) (h2 : N ≤ 7) :
    Calls Try.prog 45 #[.int .i64 (N : Int), .slice A3 n3 c3] w fun e w' => e = .returned (.bool (decide (n3 = nb N))) ∧ w = w' := by
  have HBM := Lib.hid (fun (W : World) => specBaseMany_any (N : Int) W)
  rw [nbI_nat h1 h2] at HBM
  have hp := nb_pos N (by omega) h1
  have hp0 : (0 : Int) < (nb N : Int) := by omega
  by_cases hb : n3 = nb N
  · subst hb
    go_enter Try.func45, Try.ntmps45
    go_wp2_with (go_at_call 38; refine (HBM.out _).mono ?_; rintro e w' ⟨rfl, rfl⟩)
    go_ret
    exact ⟨ret_bool (by simp), rfl⟩
  · have hb' : ((n3 : Int) == (nb N : Int)) = false := by simp; omega
    go_enter Try.func45, Try.ntmps45
    go_wp2_with (go_at_call 38; refine (HBM.out _).mono ?_; rintro e w' ⟨rfl, rfl⟩)
    go_ret
    exact ⟨ret_bool (by simp [hb]), rfl⟩
set_option maxHeartbeats 4000000 in
theorem l16Fits_any (N : Nat) (A1 A2 A3 A4 : Option Addr) (n1 c1 n2 c2 n3 c3 c4 : Nat) (l m : VL) (fl : List Bool) (ps : List Int) (w : World) (g1 : 2 ≤ N) (g2 : N ≤ 7) (hl : l.length = nb N) (hm : m.length = nb N) (e1 : n1 = nb N) (e2 : n2 = nb N) (e3 : n3 = nb N) (hf : fl.length = n3)
    (q1 : rgB 1000000 l = true) (q2 : rgB 1000000 m = true) (hp : ps.length = N) (hpr : ∀ v, 0 ≤ pAt ps v ∧ pAt ps v < 360) (r1 : Rd w w.heap.size A1 n1 c1 (pairs l)) (r2 : Rd w w.heap.size A2 n2 c2 (pairs m)) (r3 : Rd w w.heap.size A3 n3 c3 (bools fl)) (r4 : Rd w w.heap.size A4 N c4 (ints ps)) :
    Calls Try.prog 47 #[.int .i64 (N : Int), .slice A1 n1 c1, .slice A2 n2 c2, .slice A3 n3 c3, .slice A4 N c4] w fun e w' => e = .returned (.bool (fitB N l m fl ps)) ∧ Ext w w' := by
  have HL := Lib.hid hl
  have HM := Lib.hid hm
  have HE1 := Lib.hid e1
  have HE2 := Lib.hid e2
  have HE3 := Lib.hid e3
  have HF := Lib.hid hf
  have HQ1 := Lib.hid q1
  have HQ2 := Lib.hid q2
  have HP := Lib.hid hp
  have HPR := Lib.hid hpr
  have HR1 := Lib.hid r1
  have HR2 := Lib.hid r2
  have HR3 := Lib.hid r3
  have HR4 := Lib.hid r4
  have HN8 : N < 8 := by omega
  obtain ⟨gf, of, rfl⟩ := r3.addr (by rw [bools_length, hf, e3]; have := nb_pos N (by omega) g1; omega)
  obtain ⟨gp, op, rfl⟩ := r4.addr (by rw [ints_length, hp]; omega)
  have hfl := fieldP
  clear hl hm e1 e2 e3 hf q1 q2 hp hpr r1 r2 r3 r4
  go_enter Try.func47, Try.ntmps47
  go_wp2_with fail
  go_loopw [11] (fun v wr => ∃ i : Nat, i ≤ N ∧ v = .int .i64 (i : Int) ∧ Hid (∀ p ∈ (bp N).take (row N i), fitG N l m fl ps p = true) ∧ Ext w wr) (fun v _ => N - (intOf v).toNat)
  case atStart => exact ⟨0, Nat.zero_le _, rfl, (by rw [row_zero]; intro p hp; simp at hp), Ext.refl w⟩
  case round =>
    obtain ⟨i, hi, rfl, hf, he⟩ := hrel
    by_cases hlt : i < N
    · have h2 : (i : Int) < (N : Int) := by omega
      go_wp2_with fail
      go_loopw [12] (fun v wr => ∃ j : Nat, i + 1 ≤ j ∧ j ≤ N ∧ v = .int .i64 (j : Int) ∧ Hid (∀ p ∈ (bp N).take (bIx N i j), fitG N l m fl ps p = true) ∧ Ext w wr) (fun v _ => N - (intOf v).toNat)
      case atStart => exact ⟨i + 1, Nat.le_refl _, by omega, by go_num, by rw [bIx_first]; exact hf.out, he⟩
      case round =>
        clear hf he
        obtain ⟨j, hj1, hj, rfl, hf, he⟩ := hrel
        by_cases hlt2 : j < N
        · have h3 : (j : Int) < (N : Int) := by omega
          have hi0 : (0 : Int) ≤ (i : Int) := by omega
          have hj0 : (0 : Int) ≤ (j : Int) := by omega
          have hq := bIx_lt N HN8 i hlt j hlt2 (by omega)
          have HC1 : Hid (∀ W, Ext w W → Calls Try.prog 67 #[.int .i64 (N : Int), .slice A1 n1 c1, .int .i64 (i : Int), .int .i64 (j : Int)] W fun e w' => e = .returned (.agg #[.int .i64 (vgA N l i j), .int .i64 (vPh l (bIx N i j))]) ∧ Ext W w') := fun W x => by
            have := l11Get_any N A1 n1 c1 l i j W HN8 hlt hlt2 (by omega) HL.out HE1.out HQ1.out (HR1.out.ext x)
            rw [show vgP N l i j = vPh l (bIx N i j) from if_neg (by omega)] at this
            exact this
          have HC2 : Hid (∀ W, Ext w W → Calls Try.prog 67 #[.int .i64 (N : Int), .slice A2 n2 c2, .int .i64 (i : Int), .int .i64 (j : Int)] W fun e w' => e = .returned (.agg #[.int .i64 (vgA N m i j), .int .i64 (vPh m (bIx N i j))]) ∧ Ext W w') := fun W x => by
            have := l11Get_any N A2 n2 c2 m i j W HN8 hlt hlt2 (by omega) HM.out HE2.out HQ2.out (HR2.out.ext x)
            rw [show vgP N m i j = vPh m (bIx N i j) from if_neg (by omega)] at this
            exact this
          have HBI : Hid (∀ W, Calls Try.prog 70 #[.int .i64 (N : Int), .int .i64 (i : Int), .int .i64 (j : Int)] W fun e w' => e = .returned (.int .i64 ((bIx N i j : Nat) : Int)) ∧ W = w') := fun W => by
            have := specBaseIndex_any N i j W HN8 hlt hlt2 (by omega)
            rw [show bAt N i j = bIx N i j from if_neg (by omega)] at this
            exact this
          have b2 := rgB_at HQ2.out (k := bIx N i j) (by rw [HM.out]; exact hq)
          have p1 := HPR.out i
          have p2 := HPR.out j
          have hq3 : bIx N i j < n3 := by rw [HE3.out]; exact hq
          have HCF : Hid (∀ W, Ext w W → W.cell? ⟨gf, of + bIx N i j, none⟩ = some (.bool (bAt0 fl (bIx N i j)))) := fun W x => (HR3.out.ext x).cell (bools_at (some_bAt0 (by rw [HF.out]; exact hq3)))
          have HCE : Hid (∀ W, Ext w W → W.cell? ⟨gp, op + i, none⟩ = some (.int .i64 (pAt ps i)) ∧ W.cell? ⟨gp, op + j, none⟩ = some (.int .i64 (pAt ps j))) := fun W x => ⟨(HR4.out.ext x).cell (ints_at' (some_pAt (by rw [HP.out]; exact hlt))), (HR4.out.ext x).cell (ints_at' (some_pAt (by rw [HP.out]; exact hlt2)))⟩
          have HYES : Hid (fitG N l m fl ps (i, j) = true → ∀ p ∈ (bp N).take (bIx N i (j + 1)), fitG N l m fl ps p = true) := fun h p hp => by
            rw [bIx_succ (by omega), bp_take HN8 (by omega) hlt2, List.mem_append, List.mem_singleton] at hp
            rcases hp with hp | hp
            · exact hf.out p hp
            · subst hp; exact h
          have HNO : Hid (fitG N l m fl ps (i, j) = false → fitB N l m fl ps = false) := fun h => fitB_no HN8 (by omega) hlt2 h
          have HG : Hid (fitG N l m fl ps (i, j) = (bAt0 fl (bIx N i j) || decide (vPh l (bIx N i j) = (vPh m (bIx N i j) + pAt ps j - pAt ps i) % 360))) := rfl
          have HE := Lib.hid he
          clear hq he
          generalize bIx N i j = q at *
          generalize pAt ps i = t1 at *
          generalize pAt ps j = t2 at *
          generalize vPh l q = a at *
          generalize vPh m q = mm at *
          have f1 : IntKind.i64.wrap (mm + t2) = mm + t2 := IntWalk.i64_in _ (by omega)
          have f2 : IntKind.i64.wrap (mm + t2 - t1) = mm + t2 - t1 := IntWalk.i64_in _ (by omega)
          have hq3i : (q : Int) < (n3 : Int) := by omega
          have hq0i : (0 : Int) ≤ (q : Int) := by omega
          go_wp2_with fail
          go_region_held3 (fun w' => w'.cell? ⟨gp, op + i, none⟩ = some (.int .i64 t1) ∧ w'.cell? ⟨gp, op + j, none⟩ = some (.int .i64 t2)) (exact HCE.out _ (HE.out.trans (by repeat (first | (with_reducible exact Ext.refl _) | (with_reducible assumption) | (with_reducible refine Ext.drew ?_) | (with_reducible refine Ext.alloc ?_ _)))))
            (first
              | (go_at_call 67; (with_reducible refine (HC2.out _ (HE.out.trans (by repeat (first | (with_reducible exact Ext.refl _) | (with_reducible assumption) | (with_reducible refine Ext.drew ?_) | (with_reducible refine Ext.alloc ?_ _))))).mono ?_); rintro e w3 ⟨rfl, x3⟩; have E3 : Ext wr w3 := Ext.trans (by repeat (first | (with_reducible exact Ext.refl _) | (with_reducible assumption) | (with_reducible refine Ext.drew ?_) | (with_reducible refine Ext.alloc ?_ _))) x3)
              | (go_at_call 66; refine (specPhaseOf_any _ _).mono ?_; rintro e w' ⟨rfl, rfl⟩))
          rename_i hheld
          have Ew := HE.out.trans E3
          have dF := HCF.out _ Ew
          clear hheld x3 E3 HE HC2 HCE f1 f2 HCF b2 p1 p2
          generalize (mm + t2 - t1) % 360 = due at *
          rcases hb : bAt0 fl q with _ | _
          · rw [hb] at dF
            have HC1' := Lib.hid (HC1.out _ Ew)
            clear HC1
            by_cases hcmp : a = due
            · have hcm : (due != a) = false := by simp [hcmp]
              have HY := Lib.hid (HYES.out (by rw [HG.out, hb, hcmp]; simp))
              have HEw := Lib.hid Ew
              clear hb Ew
              subst hcmp
              go_wp2_with (first | (go_at_call 70; refine (HBI.out _).mono ?_; rintro e w' ⟨rfl, rfl⟩) | (go_at_call 67; refine HC1'.out.mono ?_; rintro e w5 ⟨rfl, x5⟩))
              go_roundw
              case rel => exact ⟨j + 1, by omega, by omega, by go_num, HY.out, HEw.out.trans x5⟩
              case measure => simp [intOf]; omega
            · have hcm : (due != a) = true := by simp; omega
              have HN := Lib.hid (HNO.out (by rw [HG.out, hb, decide_eq_false hcmp]; rfl))
              have HEw := Lib.hid Ew
              have hcmp2 : ¬ due = a := fun h => hcmp h.symm
              clear hb Ew hcmp
              go_wp2_with (first | (go_at_call 70; refine (HBI.out _).mono ?_; rintro e w' ⟨rfl, rfl⟩) | (go_at_call 67; refine HC1'.out.mono ?_; rintro e w5 ⟨rfl, x5⟩))
              go_ret
              exact ⟨ret_bool HN.out.symm, HEw.out.trans x5⟩
          · rw [hb] at dF
            have HY := Lib.hid (HYES.out (by rw [HG.out, hb]; rfl))
            have HEw := Lib.hid Ew
            clear hb HC1 Ew
            go_wp2_with (go_at_call 70; refine (HBI.out _).mono ?_; rintro e w' ⟨rfl, rfl⟩)
            go_roundw
            case rel => exact ⟨j + 1, by omega, by omega, by go_num, HY.out, HEw.out⟩
            case measure => simp [intOf]; omega
        · have e : j = N := by omega
          rw [e, bIx_last HN8 hlt] at hf
          rw [e]
          have hd : decide (N < N) = false := by simp
          clear e hlt2 hj1 hj
          go_wp2
          go_roundw
          case rel => exact ⟨i + 1, by omega, by go_num, hf, he⟩
          case measure => simp [intOf]; omega
    · have e : i = N := by omega
      rw [e, row_end N HN8, List.take_of_length_le (by rw [bp_length N HN8]; exact Nat.le_refl _)] at hf
      have HY : Hid (fitB N l m fl ps = true) := List.all_eq_true.2 hf.out
      rw [e]
      have hd : decide (N < N) = false := by simp
      clear hf e
      go_wp2
      go_ret
      exact ⟨ret_bool HY.out.symm, he⟩
end Go.Proofs.Ytpjglnmnfmibnab
