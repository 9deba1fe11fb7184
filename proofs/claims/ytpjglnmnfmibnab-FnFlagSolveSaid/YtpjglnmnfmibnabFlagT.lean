/-
  Contract of l16Spread of the reference.
-/
import Derived.Test.YtpjglnmnfmibnabFlagF
namespace Go.Proofs.Ytpjglnmnfmibnab
open Go.RowKit
set_option linter.unusedSimpArgs false
set_option linter.unusedVariables false

/-- behind a part of a round -/
def FP (N P : Nat) (E : Nat → Nat → Prop) (t : Nat → Nat → Int) (k0 : Nat → Bool) (w2 wr : World) (i j : Nat) (ps : List Int) (ks : List Bool) : Prop :=
  FM P N w2 wr ps ks ∧ Der N E t (bAt0 ks) (pAt ps) ∧ Rnd E k0 (bAt0 ks) i j
set_option maxHeartbeats 4000000 in
theorem l16Spread_any (N P : Nat) (A1 A2 A3 : Option Addr) (n1 c1 n2 c2 n3 c3 : Nat) (l m : VL) (fl : List Bool) (ps : List Int) (ks : List Bool) (w2 w : World) (hP : w2.heap.size ≤ P) (g1 : 2 ≤ N) (g2 : N ≤ 7) (hl : l.length = nb N) (hm : m.length = nb N) (e1 : n1 = nb N) (e2 : n2 = nb N) (e3 : n3 = nb N) (hf : fl.length = n3)
    (q1 : rgB 1000000 l = true) (q2 : rgB 1000000 m = true) (r1 : Rd w2 w2.heap.size A1 n1 c1 (pairs l)) (r2 : Rd w2 w2.heap.size A2 n2 c2 (pairs m)) (r3 : Rd w2 w2.heap.size A3 n3 c3 (bools fl))
    (fm : FM P N w2 w ps ks) (hd : Der N (Eg N fl) (tn N l m) (bAt0 ks) (pAt ps)) :
    Calls Try.prog 46 #[.int .i64 (N : Int), .slice A1 n1 c1, .slice A2 n2 c2, .slice A3 n3 c3, .slice (some ⟨P, 0, none⟩) N N, .slice (some ⟨P + 1, 0, none⟩) N N] w fun e w' => (∃ v, e = .returned v) ∧
      ∃ (ps' : List Int) (ks' : List Bool), FM P N w2 w' ps' ks' ∧ Der N (Eg N fl) (tn N l m) (bAt0 ks') (pAt ps') ∧ Rnd (Eg N fl) (bAt0 ks) (bAt0 ks') N 0 := by
  have HL := Lib.hid hl
  have HM := Lib.hid hm
  have HE1 := Lib.hid e1
  have HE2 := Lib.hid e2
  have HE3 := Lib.hid e3
  have HF := Lib.hid hf
  have HQ1 := Lib.hid q1
  have HQ2 := Lib.hid q2
  have HR1 := Lib.hid r1
  have HR2 := Lib.hid r2
  have HR3 := Lib.hid r3
  have HN8 : N < 8 := by omega
  have HNT := Lib.hid (net_of N fl l m)
  obtain ⟨k0, hk0⟩ : ∃ k0, k0 = bAt0 ks := ⟨_, rfl⟩
  have H0 : Hid (FP N P (Eg N fl) (tn N l m) k0 w2 w 0 0 ps ks) := ⟨fm, hd, by rw [hk0]; exact Rnd.start _⟩
  rw [← hk0]
  obtain ⟨gf, of, rfl⟩ := r3.addr (by rw [bools_length, hf, e3]; have := nb_pos N (by omega) g1; omega)
  have hfl := fieldP
  clear hl hm e1 e2 e3 hf q1 q2 r1 r2 r3 fm hd hk0
  go_enter Try.func46, Try.ntmps46
  go_wp2_with fail
  go_loopw [12] (fun v wr => ∃ (i : Nat) (ps : List Int) (ks : List Bool), i ≤ N ∧ v = .int .i64 (i : Int) ∧ Hid (FP N P (Eg N fl) (tn N l m) k0 w2 wr i 0 ps ks)) (fun v _ => N - (intOf v).toNat)
  case atStart => exact ⟨0, ps, ks, Nat.zero_le _, rfl, H0.out⟩
  case round =>
    clear H0
    obtain ⟨i, ps, ks, hi, rfl, hp⟩ := hrel
    by_cases hlt : i < N
    · have h2 : (i : Int) < (N : Int) := by omega
      go_wp2_with fail
      go_loopw [13] (fun v wr => ∃ (j : Nat) (ps : List Int) (ks : List Bool), j ≤ N ∧ v = .int .i64 (j : Int) ∧ Hid (FP N P (Eg N fl) (tn N l m) k0 w2 wr i j ps ks)) (fun v _ => N - (intOf v).toNat)
      case atStart => exact ⟨0, ps, ks, Nat.zero_le _, rfl, hp.out⟩
      case round =>
        clear hp
        obtain ⟨j, ps, ks, hj, rfl, hp⟩ := hrel
        by_cases hlt2 : j < N
        · have h3 : (j : Int) < (N : Int) := by omega
          have hi0 : (0 : Int) ≤ (i : Int) := by omega
          have hj0 : (0 : Int) ≤ (j : Int) := by omega
          have HSK : Hid ((¬ Eg N fl i j ∨ bAt0 ks i = false ∨ bAt0 ks j = true) → FP N P (Eg N fl) (tn N l m) k0 w2 wr i (j + 1) ps ks) := fun h => ⟨hp.out.1, hp.out.2.1, hp.out.2.2.skip h⟩
          by_cases hij : i = j
          · have hij' : ((i : Int) == (j : Int)) = true := by simp; omega
            have HY := Lib.hid (HSK.out (.inl fun e => e.2.2.1 hij))
            subst hij
            clear HSK hp
            go_wp2
            go_roundw
            case rel => exact ⟨i + 1, ps, ks, by omega, by go_num, HY.out⟩
            case measure => simp [intOf]; omega
          have hij' : ((i : Int) == (j : Int)) = false := by simp; omega
          have hq := bAt_lt HN8 hlt hlt2 hij
          have HBI : Hid (∀ W, Calls Try.prog 70 #[.int .i64 (N : Int), .int .i64 (i : Int), .int .i64 (j : Int)] W fun e w' => e = .returned (.int .i64 ((bAt N i j : Nat) : Int)) ∧ W = w') := fun W => specBaseIndex_any N i j W HN8 hlt hlt2 hij
          have hq3 : bAt N i j < n3 := by rw [HE3.out]; exact hq
          have dF : wr.cell? ⟨gf, of + bAt N i j, none⟩ = some (.bool (bAt0 fl (bAt N i j))) := (HR3.out.ext hp.out.1.2.2.2.2).cell (bools_at (some_bAt0 (by rw [HF.out]; exact hq3)))
          have hq3i : (bAt N i j : Int) < (n3 : Int) := by omega
          have hq0i : (0 : Int) ≤ (bAt N i j : Int) := by omega
          have kI := hp.out.1.2.2.2.1.cellz (bools_at (some_bAt0 (l := ks) (k := i) (by rw [hp.out.1.2.1]; exact hlt)))
          have kJ := hp.out.1.2.2.2.1.cellz (bools_at (some_bAt0 (l := ks) (k := j) (by rw [hp.out.1.2.1]; exact hlt2)))
          have HEG : Hid (bAt0 fl (bAt N i j) = false → Eg N fl i j) := fun h => ⟨hlt, hlt2, hij, h⟩
          have HNE : Hid (bAt0 fl (bAt N i j) = true → ¬ Eg N fl i j) := fun h e => by rw [e.2.2.2] at h; cases h
          have HT : Hid (∀ q, q = bAt N i j → q = q) := fun _ _ => rfl
          generalize bAt N i j = q at *
          rcases hb : bAt0 fl q with _ | _
          case true =>
            have HY := Lib.hid (HSK.out (.inl (HNE.out hb)))
            rw [hb] at dF
            clear HSK hp hb HEG HNE HT
            go_wp2_with (go_at_call 70; refine (HBI.out _).mono ?_; rintro e w' ⟨rfl, rfl⟩)
            go_roundw
            case rel => exact ⟨j + 1, ps, ks, by omega, by go_num, HY.out⟩
            case measure => simp [intOf]; omega
          rw [hb] at dF
          have HEij := Lib.hid (HEG.out hb)
          clear hb HEG HNE HT
          rcases hki : bAt0 ks i with _ | _
          · have HY := Lib.hid (HSK.out (.inr (.inl hki)))
            rw [hki] at kI
            clear HSK hp hki
            go_wp2_with (go_at_call 70; refine (HBI.out _).mono ?_; rintro e w' ⟨rfl, rfl⟩)
            go_roundw
            case rel => exact ⟨j + 1, ps, ks, by omega, by go_num, HY.out⟩
            case measure => simp [intOf]; omega
          rw [hki] at kI
          rcases hkj : bAt0 ks j with _ | _
          case true =>
            have HY := Lib.hid (HSK.out (.inr (.inr hkj)))
            rw [hkj] at kJ
            clear HSK hp hki hkj
            go_wp2_with (go_at_call 70; refine (HBI.out _).mono ?_; rintro e w' ⟨rfl, rfl⟩)
            go_roundw
            case rel => exact ⟨j + 1, ps, ks, by omega, by go_num, HY.out⟩
            case measure => simp [intOf]; omega
          rw [hkj] at kJ
          have kf := hp.out.1.2.2.2.1.frozen (by rw [bools_length, hp.out.1.2.1]; omega) j
          have HC1 : Hid (∀ W, Ext w2 W → Calls Try.prog 67 #[.int .i64 (N : Int), .slice A1 n1 c1, .int .i64 (i : Int), .int .i64 (j : Int)] W fun e w' => e = .returned (.agg #[.int .i64 (vgA N l i j), .int .i64 (vgP N l i j)]) ∧ Ext W w') := fun W x => l11Get_any N A1 n1 c1 l i j W HN8 hlt hlt2 hij HL.out HE1.out HQ1.out (HR1.out.ext x)
          have HC2 : Hid (∀ W, Ext w2 W → Calls Try.prog 67 #[.int .i64 (N : Int), .slice A2 n2 c2, .int .i64 (i : Int), .int .i64 (j : Int)] W fun e w' => e = .returned (.agg #[.int .i64 (vgA N m i j), .int .i64 (vgP N m i j)]) ∧ Ext W w') := fun W x => l11Get_any N A2 n2 c2 m i j W HN8 hlt hlt2 hij HM.out HE2.out HQ2.out (HR2.out.ext x)
          have b1 := vgP_range HN8 HL.out HQ1.out hlt hlt2 hij
          have b2 := vgP_range HN8 HM.out HQ2.out hlt hlt2 hij
          have b3 := hp.out.2.1.rng i
          -- behind the first store
          have m2 := hp.out.1.2.2.2.1.set_ j (.bool true)
          rw [bools_set] at m2
          simp only [Nat.zero_add] at m2
          have m1 := hp.out.1.2.2.1.far (p := ⟨P + 1, j, none⟩) (.inr (Nat.le_refl _)) (.bool true)
          have m3 := hp.out.1.2.2.2.2.setCell (p := ⟨P + 1, j, none⟩) (by show _ ≤ P + 1; omega) (.bool true)
          have HF1 : Hid (FM P N w2 (wr.setCell ⟨P + 1, j, none⟩ (.bool true)) ps (ks.set j true)) := ⟨hp.out.1.1, by rw [List.length_set]; exact hp.out.1.2.1, m1, m2, m3⟩
          have HD : Hid (∀ W, FM P N w2 W (ps.set j ((pAt ps i + tn N l m i j) % 360)) (ks.set j true) → FP N P (Eg N fl) (tn N l m) k0 w2 W i (j + 1) (ps.set j ((pAt ps i + tn N l m i j) % 360)) (ks.set j true)) := fun W h => by
            refine ⟨h, ?_, ?_⟩
            · rw [bAt0_set (by rw [hp.out.1.2.1]; exact hlt2), pAt_set (by rw [hp.out.1.1]; exact hlt2)]
              exact hp.out.2.1.add HNT.out hki hkj HEij.out
            · rw [bAt0_set (by rw [hp.out.1.2.1]; exact hlt2)]
              exact hp.out.2.2.add HEij.out hki hkj
          have HTN : Hid (pAt ps i + tn N l m i j = pAt ps i + vgP N l i j - vgP N m i j) := by show _ = _; unfold tn; omega
          have HPI : Hid (ps[i]? = some (pAt ps i)) := some_pAt (by rw [hp.out.1.1]; exact hlt)
          have HPJ : Hid (ps[j]? = some (pAt ps j)) := some_pAt (by rw [hp.out.1.1]; exact hlt2)
          clear HSK hki hkj m1 m2 m3 hp
          generalize pAt ps i = t1 at *
          generalize pAt ps j = t2 at *
          generalize vgP N l i j = a at *
          generalize vgP N m i j = mm at *
          have f1 : IntKind.i64.wrap (t1 + a) = t1 + a := IntWalk.i64_in _ (by omega)
          have f2 : IntKind.i64.wrap (t1 + a - mm) = t1 + a - mm := IntWalk.i64_in _ (by omega)
          have HCE : Hid (∀ W, Ext (wr.setCell ⟨P + 1, j, none⟩ (.bool true)) W → W.cell? ⟨P, i, none⟩ = some (.int .i64 t1) ∧ W.cell? ⟨P, j, none⟩ = some (.int .i64 t2) ∧ W.frozen? ⟨P, j, none⟩ = false) := fun W x =>
            ⟨(HF1.out.ext x).2.2.1.cellz (ints_at' HPI.out), (HF1.out.ext x).2.2.1.cellz (ints_at' HPJ.out), (HF1.out.ext x).2.2.1.frozen (by rw [ints_length, HF1.out.1]; omega) j⟩
          go_wp2_with (go_at_call 70; refine (HBI.out _).mono ?_; rintro e w' ⟨rfl, rfl⟩)
          clear kI kJ kf dF HBI
          generalize wr.setCell ⟨P + 1, j, none⟩ (.bool true) = wn at *
          have HX2 : Hid (Ext w2 wn) := HF1.out.2.2.2.2
          go_region_held3 (fun w' => w'.cell? ⟨P, i, none⟩ = some (.int .i64 t1)) (first | exact (World.cell?_setCell_other _ _ _ _ (by intro e; cases e; exact hij rfl)).trans (HCE.out _ (by repeat (first | (with_reducible exact Ext.refl _) | (with_reducible assumption) | (with_reducible refine Ext.drew ?_) | (with_reducible refine Ext.alloc ?_ _)))).1 | exact (HCE.out _ (by repeat (first | (with_reducible exact Ext.refl _) | (with_reducible assumption) | (with_reducible refine Ext.drew ?_) | (with_reducible refine Ext.alloc ?_ _)))).1)
            (first
              | (go_at_call 67; (with_reducible refine (HC1.out _ (HX2.out.trans (by repeat (first | (with_reducible exact Ext.refl _) | (with_reducible assumption) | (with_reducible refine Ext.drew ?_) | (with_reducible refine Ext.alloc ?_ _))))).mono ?_); rintro e w3 ⟨rfl, x3⟩; have E3 : Ext wn w3 := Ext.trans (by repeat (first | (with_reducible exact Ext.refl _) | (with_reducible assumption) | (with_reducible refine Ext.drew ?_) | (with_reducible refine Ext.alloc ?_ _))) x3)
              | (go_at_call 67; (with_reducible refine (HC2.out _ (HX2.out.trans (by repeat (first | (with_reducible exact Ext.refl _) | (with_reducible assumption) | (with_reducible refine Ext.drew ?_) | (with_reducible refine Ext.alloc ?_ _))))).mono ?_); rintro e w4 ⟨rfl, x4⟩; have E4 : Ext wn w4 := Ext.trans (by repeat (first | (with_reducible exact Ext.refl _) | (with_reducible assumption) | (with_reducible refine Ext.drew ?_) | (with_reducible refine Ext.alloc ?_ _))) x4; have kJ4 := (HCE.out _ E4).2.1; have fJ4 := (HCE.out _ E4).2.2)
              | (go_at_call 66; refine (specPhaseOf_any _ _).mono ?_; rintro e w' ⟨rfl, rfl⟩))
          rename_i hheld
          have HFN := Lib.hid (HF1.out.ext E4)
          have n1 := HFN.out.2.2.1.set_ j (.int .i64 ((t1 + a - mm) % 360))
          rw [ints_set] at n1
          simp only [Nat.zero_add] at n1
          have n2 := HFN.out.2.2.2.1.far (p := ⟨P, j, none⟩) (.inl (Nat.lt_succ_self _)) (.int .i64 ((t1 + a - mm) % 360))
          have n3 := HFN.out.2.2.2.2.setCell (p := ⟨P, j, none⟩) (by show _ ≤ P; omega) (.int .i64 ((t1 + a - mm) % 360))
          have HY := Lib.hid (HD.out (w4.setCell ⟨P, j, none⟩ (.int .i64 ((t1 + a - mm) % 360))) (by rw [HTN.out]; exact ⟨by rw [List.length_set]; exact HFN.out.1, HFN.out.2.1, n1, n2, n3⟩))
          clear hheld x3 x4 E3 E4 kJ4 fJ4 n1 n2 n3 HD HFN HF1 HX2 f1 f2
          go_wp2
          go_roundw
          case rel => exact ⟨j + 1, _, _, by omega, by go_num, HY.out⟩
          case measure => simp [intOf]; omega
        · have e : j = N := by omega
          have HY : Hid (FP N P (Eg N fl) (tn N l m) k0 w2 wr (i + 1) 0 ps ks) := by
            have h := hp.out
            rw [e] at h
            exact ⟨h.1, h.2.1, h.2.2.row HNT.out⟩
          rw [e]
          have hd : decide (N < N) = false := by simp
          clear e hlt2 hp
          go_wp2
          go_roundw
          case rel => exact ⟨i + 1, ps, ks, by omega, by go_num, HY.out⟩
          case measure => simp [intOf]; omega
    · have e : i = N := by omega
      rw [e] at hp
      rw [e]
      have hd : decide (N < N) = false := by simp
      clear e
      go_wp2
      go_end0
      exact ⟨⟨_, rfl⟩, ps, ks, hp.out⟩
end Go.Proofs.Ytpjglnmnfmibnab
