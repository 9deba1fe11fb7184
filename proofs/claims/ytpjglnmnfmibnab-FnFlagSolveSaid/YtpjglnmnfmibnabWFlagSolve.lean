/-
  The walk of FnFlagSolve: it returns true and writes nothing that was there.
-/
import Derived.Test.YtpjglnmnfmibnabDrawFS
import Derived.Test.YtpjglnmnfmibnabFlagU
import Derived.Test.YtpjglnmnfmibnabLinkL
import Derived.Test.YtpjglnmnfmibnabInts
import Derived.Test.YtpjglnmnfmibnabVisV
import Derived.Test.YtpjglnmnfmibnabClose
import Derived.Deep.QuietTactic
import Derived.BigQuiet
namespace Go.Proofs.Ytpjglnmnfmibnab.fnFlagSolve
open Go.RowKit
set_option linter.unusedVariables false

theorem baseIndex_ok (N i j : Nat) (w : World) (h1 : 2 ≤ N) (h2 : N ≤ 7) (hij : i < j) (hj : j < N) :
    Calls Try.prog 21 #[.int .i64 (N : Int), .int .i64 (i : Int), .int .i64 (j : Int)] w fun e w' => e = .returned (.int .i64 ((bIx N i j : Nat) : Int)) ∧ w = w' := by
  have HMN := Lib.hid (fun (W : World) => isMany_any (N : Int) W)
  rw [mn_nat h1 h2] at HMN
  have HI : Hid (decide ((0 : Int) ≤ (i : Int) ∧ (i : Int) < (N : Int)) = true) := decide_eq_true (by omega)
  have HJ : Hid (decide ((0 : Int) ≤ (j : Int) ∧ (j : Int) < (N : Int)) = true) := decide_eq_true (by omega)
  have HBA := Lib.hid (fun (W : World) => baseAt_any N i j W (by omega) (by omega) hj (by omega))
  rw [show bAt N i j = bIx N i j from if_neg (by omega)] at HBA
  have hne : ((i : Int) == (j : Int)) = false := by simp; omega
  go_enter Try.func21, Try.ntmps21
  go_wp2_with (first | (go_at_call 48; refine (HMN.out _).mono ?_; rintro e w' ⟨rfl, rfl⟩) | (go_at_call 50; refine (isAnt_any _ _ _).mono ?_; rintro e w' ⟨rfl, rfl⟩; (first | rw [HI.out] | rw [HJ.out])) | (go_at_call 43; refine (HBA.out _).mono ?_; rintro e w' ⟨rfl, rfl⟩))
  go_ret
  exact ⟨rfl, rfl⟩
set_option maxRecDepth 100000 in
set_option maxHeartbeats 1500000 in
theorem walk (A0 : Option Addr) (n0 c0 : Nat) (b0 : List Int) (w : World) (hn0 : b0.length = n0) (hm0 : n0 ≤ 9223372036854775807) (h0 : Rd w w.heap.size A0 n0 c0 (b0.map (.int .u8))) (hw0 : ∀ z ∈ b0, 0 ≤ z ∧ z ≤ 255) :
    Calls Try.prog 6 #[.slice A0 n0 c0] w fun e w' => e = .returned (.bool true) ∧ Ext w w' := by
  have HN0 := Lib.hid hn0
  have HW0 := Lib.hid hw0
  clear hn0 hw0
  by_cases hz0 : n0 ≤ 1048576
  case neg =>
    go_enter Try.func6, Try.ntmps6
    go_wp2
    go_ret
    exact ⟨rfl, Ext.refl _⟩
  go_enter Try.func6, Try.ntmps6
  go_wp2_with fail
  refine (drawFlagSolve_any A0 n0 c0 b0 _ HN0.out hm0 h0 HW0.out).mono ?_
  rintro e w1 ⟨N, A_l, n_l, c_l, l, A_m, n_m, c_m, m, A_f, n_f, c_f, fl, rfl, g1, g2, hl, g4, hm, g6, hf, g8, s_l, s_m, s_f, x1⟩
  have HL := Lib.hid hl
  have HM := Lib.hid hm
  have HF := Lib.hid hf
  clear hl hm hf
  have E := x1
  go_wp2_with fail
  refine (flagSolve_any (N : Int) A_l A_m A_f n_l c_l n_m c_m n_f c_f l m fl _ HL.out HM.out HF.out (by omega) (by omega) (by omega) s_l.rd s_m.rd s_f.rd).mono ?_
  rintro e w2 ⟨A_o, c_o, out, ok, rfl, F1, s_o, x2⟩
  replace s_l := s_l.ext x2
  replace s_m := s_m.ext x2
  replace s_f := s_f.ext x2
  replace E := E.trans x2
  have hol := F1.len
  have HF1 := Lib.hid F1
  clear F1
  go_wp2_with fail
  refine (specFlagSolve_any (N : Int) A_l A_m A_f n_l c_l n_m c_m n_f c_f l m fl _ HL.out HM.out HF.out (by omega) (by omega) (by omega) s_l.rd s_m.rd s_f.rd).mono ?_
  rintro e w3 ⟨A_w, c_w, out2, ok2, rfl, F2, s_w, x3⟩
  obtain ⟨eo, ek⟩ := F2.unique HF1.out
  subst eo
  subst ek
  replace s_l := s_l.ext x3
  replace s_m := s_m.ext x3
  replace s_f := s_f.ext x3
  replace s_o := s_o.ext x3
  replace E := E.trans x3
  clear F2
  cases ok2
  case false =>
    go_wp2_with fail
    refine (sameInts_any A_o A_w out2.length out2.length c_o c_w out2 out2 _ rfl rfl (by omega) s_o.rd s_w.rd).mono ?_
    rintro e w4 ⟨rfl, y4⟩
    replace s_o := s_o.ext y4.ext
    replace s_w := s_w.ext y4.ext
    replace E := E.trans y4.ext
    rw [show decide (out2 = out2) = true from decide_eq_true rfl]
    go_wp2_with fail
    refine (sameInts_any A_o A_w out2.length out2.length c_o c_w out2 out2 _ rfl rfl (by omega) s_o.rd s_w.rd).mono ?_
    rintro e w5 ⟨rfl, y5⟩
    replace E := E.trans y5.ext
    rw [show decide (out2 = out2) = true from decide_eq_true rfl]
    go_wp2
    go_ret
    exact ⟨rfl, E⟩
  obtain ⟨N', e, _, _, hl1, hm1, hf1, hrl, hrm, hon, hrg, hfit, hroot⟩ := HF1.out.yes
  obtain rfl : N' = N := by omega
  have hN7 : N' ≤ 7 := by omega
  have HON := Lib.hid hon
  have HRG := Lib.hid hrg
  have HRL := Lib.hid hrl
  have HRM := Lib.hid hrm
  have HL1 := Lib.hid hl1
  have HM1 := Lib.hid hm1
  have HF1' := Lib.hid hf1
  have HFIT : Hid (∀ i j, i < j → j < N' → bAt0 fl (bIx N' i j) = false → vPh l (bIx N' i j) = (vPh m (bIx N' i j) + pAt out2 j - pAt out2 i) % 360) := fun i j hij hj hb => by
    have a := fit_iff.1 hfit i j hij hj hb
    have b := rgB_at hrl (k := bIx N' i j) (by rw [hl1]; exact bIx_lt N' (by omega) i (by omega) j hj hij)
    omega
  have HRT : Hid (∀ v, v < N' → pAt out2 (flF N' fl (bp N') v) = 0) := fun v hv => by
    have h := (flF_least N' fl (bp N') v).2
    rw [edP_all (by omega)] at h
    exact hroot _ (flF_lt hv) h
  rw [hon] at s_o s_w hol ⊢
  clear e hl1 hm1 hf1 hrl hrm hon hrg hfit hroot HF1
  go_wp2_with fail
  refine (sameInts_any A_o A_w N' N' c_o c_w out2 out2 _ HON.out HON.out (by omega) s_o.rd s_w.rd).mono ?_
  rintro e w4 ⟨rfl, y4⟩
  have x4 := y4.ext
  replace s_l := s_l.ext x4
  replace s_m := s_m.ext x4
  replace s_f := s_f.ext x4
  replace s_o := s_o.ext x4
  replace E := E.trans x4
  rw [show decide (out2 = out2) = true from decide_eq_true rfl]
  clear x1 x2 x3 y4 x4 s_w
  have HNF : Hid (n_f = nb N') := by show _ = _; rw [← HF.out]; exact HF1'.out
  have HC := Lib.hid (flagLinked_any N' A_f n_f c_f fl w4 g1 hN7 HF.out HNF.out s_f.rd)
  go_wp2_with fail
  refine HC.out.mono ?_
  rintro e w5 ⟨A_k, c_k, rfl, s_k, x5⟩
  replace s_l := s_l.ext x5
  replace s_m := s_m.ext x5
  replace s_f := s_f.ext x5
  replace s_o := s_o.ext x5
  replace E := E.trans x5
  have hnb1 := nb_pos N' (by omega) g1
  obtain ⟨gl, ol, ea, _, _, _⟩ := s_l.addr (by rw [pairs_length, HL1.out]; omega)
  obtain rfl := ea
  obtain ⟨gm, om, ea, _, _, _⟩ := s_m.addr (by rw [pairs_length, HM1.out]; omega)
  obtain rfl := ea
  obtain ⟨gf, of, ea, _, _, _⟩ := s_f.addr (by rw [bools_length, HF1'.out]; omega)
  obtain rfl := ea
  obtain ⟨go, oo, ea, _, _, _⟩ := s_o.addr (by rw [ints_length, HON.out]; omega)
  obtain rfl := ea
  obtain ⟨gk, ok, ea, _, _, _⟩ := s_k.addr (by rw [ints_length, flL_length]; omega)
  obtain rfl := ea
  have HS := Lib.hid (And.intro s_l.rd (And.intro s_m.rd (And.intro s_f.rd (And.intro s_o.rd s_k.rd))))
  have hnl : n_l = nb N' := by rw [← HL.out]; exact HL1.out
  have hnm : n_m = nb N' := by rw [← HM.out]; exact HM1.out
  have HNL := Lib.hid (And.intro hnl (And.intro hnm HNF.out))
  clear s_l s_m s_f s_o s_k x5 HC hnl hnm HNF
  go_wp2_with fail
  go_loopw [12] (fun v wr => ∃ i : Nat, i ≤ N' ∧ v = .int .i64 (i : Int) ∧ Ext w wr ∧ Hid (Quiet w5 wr)) (fun v _ => N' - (intOf v).toNat)
  case atStart => exact ⟨0, Nat.zero_le _, rfl, E, Quiet.refl _⟩
  case round =>
    clear E
    obtain ⟨i, hi, rfl, he, hq⟩ := hrel
    by_cases hlt : i < N'
    · have h2 : (i : Int) < (N' : Int) := by omega
      have hi0 : (0 : Int) ≤ (i : Int) := by omega
      have kK := (hq.out.cell _).trans (HS.out.2.2.2.2.cell (ints_at' (flL_at (fl := fl) (ps := bp N') hlt)))
      have hfl := flF_lt (fl := fl) (ps := bp N') hlt
      have kO := (hq.out.cell _).trans (HS.out.2.2.2.1.cell (ints_at' (some_pAt (l := out2) (k := flF N' fl (bp N') i) (by rw [HON.out]; exact hfl))))
      rw [HRT.out i hlt] at kO
      have hfi : ((flF N' fl (bp N') i : Nat) : Int) < (N' : Int) := by omega
      have hf0 : (0 : Int) ≤ ((flF N' fl (bp N') i : Nat) : Int) := by omega
      generalize flF N' fl (bp N') i = r at *
      go_wp2_with fail
      clear kK kO
      go_loopw [13] (fun v wr => ∃ j : Nat, i + 1 ≤ j ∧ j ≤ N' ∧ v = .int .i64 (j : Int) ∧ Ext w wr ∧ Hid (Quiet w5 wr)) (fun v _ => N' - (intOf v).toNat)
      case atStart => exact ⟨i + 1, Nat.le_refl _, by omega, by go_num, he, hq.out⟩
      case round =>
        clear he hq
        obtain ⟨j, hj1, hj, rfl, he, hq⟩ := hrel
        by_cases hlt2 : j < N'
        · have h3 : (j : Int) < (N' : Int) := by omega
          have hj0 : (0 : Int) ≤ (j : Int) := by omega
          have hix := bIx_lt N' (by omega) i hlt j hlt2 (by omega)
          have HBI := Lib.hid (fun (W : World) => baseIndex_ok N' i j W g1 hN7 (by omega) hlt2)
          have hq1 : bIx N' i j < n_l := by rw [HNL.out.1]; exact hix
          have hq2 : bIx N' i j < n_m := by rw [HNL.out.2.1]; exact hix
          have hq3 : bIx N' i j < n_f := by rw [HNL.out.2.2]; exact hix
          have kF := (hq.out.cell _).trans (HS.out.2.2.1.cell (bools_at (some_bAt0 (l := fl) (k := bIx N' i j) (by rw [HF1'.out]; exact hix))))
          have kL := (hq.out.cell _).trans (HS.out.1.snd (some_v (l := l) (k := bIx N' i j) (by rw [HL1.out]; exact hix)))
          have kM := (hq.out.cell _).trans (HS.out.2.1.snd (some_v (l := m) (k := bIx N' i j) (by rw [HM1.out]; exact hix)))
          have kI := (hq.out.cell _).trans (HS.out.2.2.2.1.cell (ints_at' (some_pAt (l := out2) (k := i) (by rw [HON.out]; exact hlt))))
          have kJ := (hq.out.cell _).trans (HS.out.2.2.2.1.cell (ints_at' (some_pAt (l := out2) (k := j) (by rw [HON.out]; exact hlt2))))
          have b2 := rgB_at HRM.out (k := bIx N' i j) (by rw [HM1.out]; exact hix)
          have p1 := HRG.out i
          have p2 := HRG.out j
          have HYES := Lib.hid (HFIT.out i j (by omega) hlt2)
          clear hix
          generalize bIx N' i j = q at *
          generalize pAt out2 i = t1 at *
          generalize pAt out2 j = t2 at *
          generalize vPh l q = a at *
          generalize vPh m q = mm at *
          have hq1i : (q : Int) < (n_l : Int) := by omega
          have hq2i : (q : Int) < (n_m : Int) := by omega
          have hq3i : (q : Int) < (n_f : Int) := by omega
          have hq0i : (0 : Int) ≤ (q : Int) := by omega
          have f1 : IntKind.i64.wrap (mm + t2) = mm + t2 := IntWalk.i64_in _ (by omega)
          have f2 : IntKind.i64.wrap (mm + t2 - t1) = mm + t2 - t1 := IntWalk.i64_in _ (by omega)
          rcases hb : bAt0 fl q with _ | _
          · rw [hb] at kF
            have ea := HYES.out hb
            subst ea
            clear hb HYES
            go_wp2_with (go_at_call 21; refine (HBI.out _).mono ?_; rintro e w' ⟨rfl, rfl⟩)
            go_quiet ((go_at_call 11; exact quiet_same (phaseOf_any _ _)))
            go_wp2
            go_roundw
            case rel => exact ⟨j + 1, by omega, by omega, by go_num, he.drewN _, hq.out.drewN _⟩
            case measure => simp [intOf]; omega
          · rw [hb] at kF
            clear hb HYES
            go_wp2_with (go_at_call 21; refine (HBI.out _).mono ?_; rintro e w' ⟨rfl, rfl⟩)
            go_quiet ((go_at_call 11; exact quiet_same (phaseOf_any _ _)))
            go_wp2
            go_roundw
            case rel => exact ⟨j + 1, by omega, by omega, by go_num, he.drewN _, hq.out.drewN _⟩
            case measure => simp [intOf]; omega
        · have e : j = N' := by omega
          rw [e]
          have hd : decide (N' < N') = false := by simp
          clear e hlt2 hj1 hj
          go_wp2
          go_roundw
          case rel => exact ⟨i + 1, by omega, by go_num, he, hq.out⟩
          case measure => simp [intOf]; omega
    · have e : i = N' := by omega
      rw [e]
      have hd : decide (N' < N') = false := by simp
      clear e
      go_wp2
      go_ret
      exact ⟨rfl, he⟩
end Go.Proofs.Ytpjglnmnfmibnab.fnFlagSolve
