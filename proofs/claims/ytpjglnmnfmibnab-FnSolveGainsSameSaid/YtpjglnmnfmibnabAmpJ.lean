/-
  Contracts of SolveAmps and SolveGains of the program.
-/
import Derived.Test.YtpjglnmnfmibnabAmpI
import Derived.Test.YtpjglnmnfmibnabClose
import Derived.Test.YtpjglnmnfmibnabAppA
import Derived.Test.YtpjglnmnfmibnabDrawV
namespace Go.Proofs.Ytpjglnmnfmibnab
open Go.RowKit
set_option linter.unusedSimpArgs false
set_option linter.unusedVariables false

theorem saL_no {n : Int} {l m : VL} (h : saB n l m = false) : saL n l m = [] := by simp [saL, h]
theorem saB_bad {n : Int} {l m : VL} (h : (visB n l && visB n m && decide (3 ≤ n)) = false) : saB n l m = false := by simp only [saB, h, Bool.false_and]
theorem sa_at {N k : Nat} {l m : VL} (h3 : 3 ≤ N) (hv1 : visB (N : Int) l = true) (hv2 : visB (N : Int) m = true) (h : saI N l m = some k) : saB (N : Int) l m = true ∧ saL (N : Int) l m = amF N l m ((k : Int) + 1) := by
  have hb : saB (N : Int) l m = true := by simp [saB, hv1, hv2, h]; omega
  exact ⟨hb, by simp [saL, hb, h]⟩
theorem sa_none {N : Nat} {l m : VL} (h : saI N l m = none) : saB (N : Int) l m = false := by simp [saB, h]
set_option maxHeartbeats 4000000 in
theorem solveAmps_any (n : Int) (A1 A2 : Option Addr) (n1 c1 n2 c2 : Nat) (l m : VL) (w : World) (hl : l.length = n1) (hm : m.length = n2) (z1 : n1 ≤ 1048576) (z2 : n2 ≤ 1048576) (r1 : Rd w w.heap.size A1 n1 c1 (pairs l)) (r2 : Rd w w.heap.size A2 n2 c2 (pairs m)) :
    Calls Try.prog 32 #[.int .i64 n, .slice A1 n1 c1, .slice A2 n2 c2] w (RetSB w 3 (saL n l m).length (ints (saL n l m)) (saB n l m)) := by
  have HV1 := Lib.hid (fun (W : World) (x : Ext w W) => visValid_any n A1 n1 c1 l W hl (by omega) (r1.ext x))
  have HV2 := Lib.hid (fun (W : World) (x : Ext w W) => visValid_any n A2 n2 c2 m W hm (by omega) (r2.ext x))
  rcases h1 : visB n l with _ | _
  · have H1 := Lib.hid h1
    have HB := Lib.hid (saB_bad (n := n) (l := l) (m := m) (by rw [h1]; rfl))
    have HC := Lib.hid (saL_no HB.out)
    clear h1 hl hm r1 r2
    go_enter Try.func32, Try.ntmps32
    go_wp2_with fail
    refine (HV1.out _ (Ext.refl _)).mono ?_
    rintro e w1 ⟨rfl, x1⟩
    rw [H1.out]
    go_wp2
    go_ret2
    rw [HB.out]
    exact RetSB.nil (by rw [HC.out]; rfl) (by rw [HC.out]; rfl) x1
  rcases h2 : visB n m with _ | _
  · have H1 := Lib.hid h1
    have H2 := Lib.hid h2
    have HB := Lib.hid (saB_bad (n := n) (l := l) (m := m) (by rw [h2, Bool.and_false]; rfl))
    have HC := Lib.hid (saL_no HB.out)
    clear h1 h2 hl hm r1 r2
    go_enter Try.func32, Try.ntmps32
    go_wp2_with fail
    refine (HV1.out _ (Ext.refl _)).mono ?_
    rintro e w1 ⟨rfl, x1⟩
    rw [H1.out]
    go_wp2_with fail
    refine (HV2.out _ x1).mono ?_
    rintro e w2 ⟨rfl, x2⟩
    rw [H2.out]
    go_wp2
    go_ret2
    rw [HB.out]
    exact RetSB.nil (by rw [HC.out]; rfl) (by rw [HC.out]; rfl) (x1.trans x2)
  obtain ⟨N, rfl, g1, g2, _, _⟩ := visB_parts h1
  have H1 := Lib.hid h1
  have H2 := Lib.hid h2
  by_cases h3 : 3 ≤ N
  case neg =>
    have HB := Lib.hid (saB_bad (n := (N : Int)) (l := l) (m := m) (by rw [decide_eq_false (by omega), Bool.and_false]))
    have HC := Lib.hid (saL_no HB.out)
    have hN3 : (N : Int) < 3 := by omega
    clear h1 h2 hl hm r1 r2 h3
    go_enter Try.func32, Try.ntmps32
    go_wp2_with fail
    refine (HV1.out _ (Ext.refl _)).mono ?_
    rintro e w1 ⟨rfl, x1⟩
    rw [H1.out]
    go_wp2_with fail
    refine (HV2.out _ x1).mono ?_
    rintro e w2 ⟨rfl, x2⟩
    rw [H2.out]
    go_wp2
    go_ret2
    rw [HB.out]
    exact RetSB.nil (by rw [HC.out]; rfl) (by rw [HC.out]; rfl) (x1.trans x2)
  have HA := Lib.hid (fun (W : World) (x : Ext w W) (f : Int) (hf1 : 1 ≤ f) (hf2 : f ≤ 99) => ampsFrom_any N A1 A2 n1 c1 n2 c2 l m f W h1 h2 hl hm hf1 hf2 (r1.ext x) (r2.ext x))
  have hN3 : ¬ (N : Int) < 3 := by omega
  clear h1 h2 hl hm r1 r2
  go_enter Try.func32, Try.ntmps32
  go_wp2_with fail
  refine (HV1.out _ (Ext.refl _)).mono ?_
  rintro e w1 ⟨rfl, x1⟩
  rw [H1.out]
  go_wp2_with fail
  refine (HV2.out _ x1).mono ?_
  rintro e w2 ⟨rfl, x2⟩
  rw [H2.out]
  have y2 := x1.trans x2
  clear x1 x2 HV1 HV2
  go_wp2_with fail
  go_loopw [8] (fun v wr => ∃ k : Nat, k ≤ 99 ∧ v = .int .i64 ((k : Int) + 1) ∧ Hid (∀ j : Nat, j < k → amOk N l m ((j : Int) + 1) = false) ∧ Ext w wr) (fun v _ => 100 - (intOf v).toNat)
  case atStart => exact ⟨0, by omega, rfl, fun j h => by omega, y2⟩
  case round =>
    obtain ⟨k, hk, rfl, hf, he⟩ := hrel
    by_cases hlt : k < 99
    · have hki : (k : Int) + 1 ≤ 99 := by omega
      have f0 : IntKind.i64.wrap ((k : Int) + 1 + 1) = (k : Int) + 1 + 1 := IntWalk.i64_in _ (by omega)
      go_wp2_with fail
      refine (HA.out _ he ((k : Int) + 1) (by omega) (by omega)).mono ?_
      rintro e w3 ⟨A3, c3, rfl, s3, x3⟩
      have e3 := he.trans x3
      rcases hok : amOk N l m ((k : Int) + 1) with _ | _
      · have HS : Hid (∀ j : Nat, j < k + 1 → amOk N l m ((j : Int) + 1) = false) := fun j h => by
          by_cases e : j = k
          · subst e; exact hok
          · exact hf.out j (by omega)
        clear hok s3
        go_wp2
        go_roundw
        case rel => exact ⟨k + 1, by omega, by first | rfl | go_num, HS.out, e3⟩
        case measure => simp [intOf]; omega
      · have HI := saI_some hlt hok hf.out
        have HR := Lib.hid (sa_at h3 H1.out H2.out HI)
        have HS3 := Lib.hid s3
        clear hok HI s3
        go_wp2
        go_ret2
        rw [HR.out.1, HR.out.2]
        exact ⟨A3, c3, rfl, HS3.out.mono he.size (Nat.le_refl _), e3⟩
    · have e : k = 99 := by omega
      have hki : ¬ (k : Int) + 1 ≤ 99 := by omega
      have HI := saI_none (N := N) (l := l) (m := m) (fun j h => hf.out j (by omega))
      have HB := Lib.hid (sa_none HI)
      have HC := Lib.hid (saL_no HB.out)
      clear HI
      go_wp2
      go_ret2
      rw [HB.out]
      exact RetSB.nil (by rw [HC.out]; rfl) (by rw [HC.out]; rfl) he
theorem sg_no {n : Int} {l m : VL} (h : (saB n l m && spB n l m) = false) : sgB n l m = false ∧ sgL n l m = [] := by
  have hb : sgB n l m = false := h
  exact ⟨hb, by simp [sgL, hb]⟩
theorem sg_yes {n : Int} {l m : VL} (h1 : saB n l m = true) (h2 : spB n l m = true) : ∃ N : Nat, n = N ∧ N ≤ 7 ∧ sgB n l m = true ∧ sgL n l m = sgOf N (saL n l m) (spL n l m) ∧ (saL n l m).length = N ∧ (spL n l m).length = N := by
  obtain ⟨N, t, rfl, h3, h4, _, _, _, _, e⟩ := saB_yes h1
  obtain ⟨N', e', _, _, _, _, _, _, hso, _⟩ := spB_yes h2
  obtain rfl : N' = N := by omega
  have hb : sgB (N' : Int) l m = true := by simp [sgB, h1, h2]
  exact ⟨N', rfl, h4, hb, by simp [sgL, hb], by rw [e, amL_length], by rw [hso, soL_length]⟩
set_option maxHeartbeats 4000000 in
theorem solveGains_any (n : Int) (A1 A2 : Option Addr) (n1 c1 n2 c2 : Nat) (l m : VL) (w : World) (hl : l.length = n1) (hm : m.length = n2) (z1 : n1 ≤ 1048576) (z2 : n2 ≤ 1048576) (r1 : Rd w w.heap.size A1 n1 c1 (pairs l)) (r2 : Rd w w.heap.size A2 n2 c2 (pairs m)) :
    Calls Try.prog 13 #[.int .i64 n, .slice A1 n1 c1, .slice A2 n2 c2] w (RetSB w 30 (sgL n l m).length (pairs (sgL n l m)) (sgB n l m)) := by
  have HA := Lib.hid (solveAmps_any n A1 A2 n1 c1 n2 c2 l m w hl hm z1 z2 r1 r2)
  have HP := Lib.hid (fun (W : World) (x : Ext w W) => solvePhases_any n A1 A2 n1 c1 n2 c2 l m W hl hm z1 z2 (r1.ext x) (r2.ext x))
  obtain ⟨us, has⟩ : ∃ x, saL n l m = x := ⟨_, rfl⟩
  obtain ⟨ps, hps⟩ : ∃ x, spL n l m = x := ⟨_, rfl⟩
  obtain ⟨oa, hoa⟩ : ∃ x, saB n l m = x := ⟨_, rfl⟩
  obtain ⟨op, hop⟩ : ∃ x, spB n l m = x := ⟨_, rfl⟩
  rw [has, hoa] at HA
  rw [hps, hop] at HP
  have HE := Lib.hid (And.intro has (And.intro hps (And.intro hoa hop)))
  clear hl hm r1 r2 has hps hoa hop
  go_enter Try.func13, Try.ntmps13
  go_wp2_with fail
  refine HA.out.mono ?_
  rintro e w1 ⟨A3, c3, rfl, s3, x1⟩
  go_wp2_with fail
  refine (HP.out _ x1).mono ?_
  rintro e w2 ⟨A4, c4, rfl, s4, x2⟩
  have s3' := s3.ext x2
  have y2 := x1.trans x2
  clear HA HP s3 x1 x2
  cases oa
  · have HNO := Lib.hid (sg_no (n := n) (l := l) (m := m) (by rw [HE.out.2.2.1]; rfl))
    go_wp2
    go_ret2
    rw [HNO.out.1]
    exact RetSB.nil (by rw [HNO.out.2]; rfl) (by rw [HNO.out.2]; rfl) y2
  cases op
  · have HNO := Lib.hid (sg_no (n := n) (l := l) (m := m) (by rw [HE.out.2.2.2, Bool.and_false]))
    go_wp2
    go_ret2
    rw [HNO.out.1]
    exact RetSB.nil (by rw [HNO.out.2]; rfl) (by rw [HNO.out.2]; rfl) y2
  obtain ⟨N, rfl, hN7, hb, hs, la, lp⟩ := sg_yes HE.out.2.2.1 HE.out.2.2.2
  rw [HE.out.1] at la hs
  rw [HE.out.2.1] at lp hs
  have HLA := Lib.hid la
  have HLP := Lib.hid lp
  have HSG := Lib.hid (And.intro hb hs)
  rw [la] at s3' ⊢
  rw [lp] at s4 ⊢
  clear la lp hb hs
  have HN1 : Hid (1 ≤ N) := by
    obtain ⟨N', _, e, h3, _⟩ := saB_yes HE.out.2.2.1
    show 1 ≤ N
    omega
  have hN1 := HN1.out
  obtain ⟨g3, o3, ea, _, _, _⟩ := s3'.addr (by rw [ints_length, HLA.out]; omega)
  obtain rfl := ea
  obtain ⟨g4, o4, ea, _, _, _⟩ := s4.addr (by rw [ints_length, HLP.out]; omega)
  obtain rfl := ea
  have HS3 := Lib.hid s3'
  have HS4 := Lib.hid s4
  have HY := Lib.hid y2
  clear s3' s4 y2 hN1
  go_wp2_with fail
  go_loopw [12, 37] (fun v i wr => ∃ k : Nat, k ≤ N ∧ i = .int .i64 (k : Int) ∧ wr.ownsRow w2.heap.size 30 2 v k (pairs ((sgOf N us ps).take k)) ∧ Ext w2 wr) (fun _ i _ => N - (intOf i).toNat)
  case atStart => exact ⟨0, Nat.zero_le _, rfl, World.ownsRow_nil _ _ _ _, Ext.refl _⟩
  case round =>
    obtain ⟨k, hk, rfl, ho, he⟩ := hrel
    by_cases hlt : k < N
    · have h2 : (k : Int) < (N : Int) := by omega
      have h3 : (0 : Int) ≤ (k : Int) := by omega
      have d1 := (HS3.out.ext he).cell (ints_at' (some_pAt (l := us) (k := k) (by rw [HLA.out]; exact hlt)))
      have d2 := (HS4.out.ext he).cell (ints_at' (some_pAt (l := ps) (k := k) (by rw [HLP.out]; exact hlt)))
      have HSN := Lib.hid (show (sgOf N us ps).take (k + 1) = _ from sgOf_succ hlt)
      have hz := he.size
      go_wp2_with (at_builtin; refine wpList_append2C (w := wr) rfl _ _ _ rfl w2.heap.size 30 16 Vis.info Try.underlying23 _ k _ (by rfl) ho (pAt us k) (pAt ps k) rfl (by omega) (by omega) hz ?_; intro v' w' ho' C')
      go_roundw
      case rel => exact ⟨k + 1, by omega, by go_num, by rw [HSN.out]; exact ho', he.more C' (Nat.le_refl _)⟩
      case measure => simp [intOf]; omega
    · have e : k = N := by omega
      have hd : decide (k < N) = false := by simpa using hlt
      have HLN : Hid ((sgOf N us ps).length = N) := sgOf_length _ _ _
      rw [e, List.take_of_length_le (by rw [HLN.out]; exact Nat.le_refl _)] at ho
      rw [e]
      clear e hlt hd
      have hd : decide (N < N) = false := by simp
      have hE := HY.out.trans he
      obtain ⟨A5, c5, hv5, s5⟩ := Sl.of_own ho
      subst hv5
      have hzz : w.heap.size ≤ w2.heap.size := HY.out.size
      have HS5 := Lib.hid s5
      clear ho s5
      go_wp2
      go_ret2
      rw [HSG.out.1, HSG.out.2, HLN.out]
      exact ⟨A5, c5, by first | rfl | simp, HS5.out.mono hzz (Nat.le_refl _), hE⟩
end Go.Proofs.Ytpjglnmnfmibnab
