/-
  The walk of FnFlagSolveTree: it returns true and writes nothing that was there.
-/
import Derived.Test.YtpjglnmnfmibnabDrawFS
import Derived.Test.YtpjglnmnfmibnabFlagU
import Derived.Test.YtpjglnmnfmibnabLinkL
import Derived.Test.YtpjglnmnfmibnabInts
import Derived.Test.YtpjglnmnfmibnabVisV
import Derived.Deep.QuietTactic
import Derived.BigQuiet
namespace Go.Proofs.Ytpjglnmnfmibnab.fnFlagSolveTree
open Go.RowKit
set_option linter.unusedVariables false

theorem tree_fit {N : Nat} {l m : VL} {fl : List Bool} (h1 : 2 ≤ N) (h2 : N ≤ 7) (hf : fl.length = nb N) (h : loopsI N fl = 0) : ∃ q, Fit (Eg N fl) (tn N l m) q := by
  have t := tree_inv (N := N) fl (t := tn N l m) (fun i j hij => by
    have a := vgP_anti (n := N) (l := l) hij
    have b := vgP_anti (n := N) (l := m) hij
    unfold tn
    omega) (bp N) (fun p hp => bp_mem (by omega) hp)
  rw [edC_all (by omega) hf, edP_all (by omega)] at t
  refine t.2 ?_
  unfold loopsI at h
  omega
set_option maxRecDepth 100000 in
set_option maxHeartbeats 1000000 in
theorem walk (A0 : Option Addr) (n0 c0 : Nat) (b0 : List Int) (w : World) (hn0 : b0.length = n0) (hm0 : n0 ≤ 9223372036854775807) (h0 : Rd w w.heap.size A0 n0 c0 (b0.map (.int .u8))) (hw0 : ∀ z ∈ b0, 0 ≤ z ∧ z ≤ 255) :
    Calls Try.prog 7 #[.slice A0 n0 c0] w fun e w' => e = .returned (.bool true) ∧ Ext w w' := by
  have HN0 := Lib.hid hn0
  have HW0 := Lib.hid hw0
  clear hn0 hw0
  by_cases hz0 : n0 ≤ 1048576
  case neg =>
    go_enter Try.func7, Try.ntmps7
    go_wp2
    go_ret
    exact ⟨rfl, Ext.refl _⟩
  go_enter Try.func7, Try.ntmps7
  go_wp2_with fail
  refine (drawFlagSolve_any A0 n0 c0 b0 _ HN0.out hm0 h0 HW0.out).mono ?_
  rintro e w1 ⟨N, A_l, n_l, c_l, l, A_m, n_m, c_m, m, A_f, n_f, c_f, fl, rfl, g1, g2, hl, g4, hm, g6, hf, g8, s_l, s_m, s_f, x1⟩
  have HL := Lib.hid hl
  have HM := Lib.hid hm
  have HF := Lib.hid hf
  clear hl hm hf
  have E := x1
  go_wp2_with fail
  refine (flagSolve_any (N : Int) A_l A_m A_f n_l c_l n_m c_m n_f c_f l m fl _ HL.out HM.out HF.out (by omega) (by omega) (by omega) s_l.rd s_m.rd s_f.rd).mono ?_
  rintro e w2 ⟨A_o, c_o, out, ok, rfl, F1, s_o, x2⟩
  replace s_l := s_l.ext x2
  replace s_m := s_m.ext x2
  replace s_f := s_f.ext x2
  replace E := E.trans x2
  have hol := F1.len
  have HF1 := Lib.hid F1
  clear F1
  go_wp2_with fail
  refine (specFlagSolve_any (N : Int) A_l A_m A_f n_l c_l n_m c_m n_f c_f l m fl _ HL.out HM.out HF.out (by omega) (by omega) (by omega) s_l.rd s_m.rd s_f.rd).mono ?_
  rintro e w3 ⟨A_w, c_w, out2, ok2, rfl, F2, s_w, x3⟩
  obtain ⟨eo, ek⟩ := F2.unique HF1.out
  subst eo
  subst ek
  replace s_l := s_l.ext x3
  replace s_m := s_m.ext x3
  replace s_f := s_f.ext x3
  replace s_o := s_o.ext x3
  replace E := E.trans x3
  clear F2
  go_wp2_with fail
  refine (sameInts_any A_o A_w out2.length out2.length c_o c_w out2 out2 _ rfl rfl (by omega) s_o.rd s_w.rd).mono ?_
  rintro e w4 ⟨rfl, y4⟩
  have x4 := y4.ext
  replace s_l := s_l.ext x4
  replace s_m := s_m.ext x4
  replace s_f := s_f.ext x4
  replace E := E.trans x4
  rw [show decide (out2 = out2) = true from decide_eq_true rfl]
  clear x1 x2 x3 y4 x4 s_o s_w
  cases ok2
  case true =>
    go_wp2
    go_ret
    exact ⟨rfl, E⟩
  by_cases hb : n_f = nb N
  case neg =>
    have HC := Lib.hid (flagLoops_bad N A_f n_f c_f w4 g1 (by omega) hb)
    clear hb
    go_wp2_with fail
    refine HC.out.mono ?_
    rintro e w5 ⟨rfl, x5⟩
    replace E := E.trans x5
    go_wp2
    go_ret
    exact ⟨rfl, E⟩
  have HC := Lib.hid (flagLoops_any N A_f n_f c_f fl w4 g1 (by omega) HF.out hb s_f.rd)
  have HFT : Hid (loopsI N fl = 0 → visB (N : Int) l = true → visB (N : Int) m = true → False) := fun h v1 v2 => by
    obtain ⟨q, hq⟩ := tree_fit (l := l) (m := m) g1 (by omega) (by rw [HF.out]; exact hb) h
    exact HF1.out.no g1 (by omega) v1 v2 (by rw [HF.out]; exact hb) q hq
  clear hb
  generalize loopsI N fl = R at *
  go_wp2_with fail
  refine HC.out.mono ?_
  rintro e w5 ⟨rfl, x5⟩
  replace s_l := s_l.ext x5
  replace s_m := s_m.ext x5
  replace E := E.trans x5
  by_cases hR : R = 0
  case neg =>
    have hR' : (R != 0) = true := by simpa using hR
    clear HFT HC
    go_wp2
    go_ret
    exact ⟨rfl, E⟩
  have HFT' := Lib.hid (HFT.out hR)
  clear HFT HC
  subst hR
  rcases hv1 : visB (N : Int) l with _ | _
  · have HV1 := Lib.hid (visValid_any (N : Int) A_l n_l c_l l w5 HL.out (by omega) s_l.rd)
    rw [hv1] at HV1
    clear hv1 HFT'
    go_wp2_with fail
    refine HV1.out.mono ?_
    rintro e w6 ⟨rfl, x6⟩
    replace E := E.trans x6
    go_wp2
    go_ret
    exact ⟨rfl, E⟩
  rcases hv2 : visB (N : Int) m with _ | _
  · have HV1 := Lib.hid (visValid_any (N : Int) A_l n_l c_l l w5 HL.out (by omega) s_l.rd)
    have HV2 := Lib.hid (fun (W : World) (x : Ext w5 W) => visValid_any (N : Int) A_m n_m c_m m W HM.out (by omega) (s_m.rd.ext x))
    rw [hv1] at HV1
    rw [hv2] at HV2
    clear hv1 hv2 HFT'
    go_wp2_with fail
    refine HV1.out.mono ?_
    rintro e w6 ⟨rfl, x6⟩
    replace E := E.trans x6
    go_wp2_with fail
    refine (HV2.out _ x6).mono ?_
    rintro e w7 ⟨rfl, x7⟩
    replace E := E.trans x7
    go_wp2
    go_ret
    exact ⟨rfl, E⟩
  exact (HFT'.out hv1 hv2).elim
end Go.Proofs.Ytpjglnmnfmibnab.fnFlagSolveTree
