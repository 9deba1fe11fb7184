/-
  Contracts of SolveAmps and SolveGains of the reference.
-/
import Derived.Test.YtpjglnmnfmibnabAmpJ
import Derived.Test.YtpjglnmnfmibnabSolSpec
import Derived.Test.YtpjglnmnfmibnabHeld3
namespace Go.Proofs.Ytpjglnmnfmibnab
open Go.RowKit
set_option linter.unusedSimpArgs false
set_option linter.unusedVariables false

theorem fieldA (a b : Value) (W : World) : (Instr.field 30 (.agg #[a, b]) 0).run Try.prog W = .ok a W := by kernel_rfl
theorem vgA_up {N i j : Nat} (l : VL) (h : i < j) : vgA N l i j = vAm l (bIx N i j) := by unfold vgA bAt; rw [if_neg (by omega)]
theorem Rd.grown {w w' : World} {g off n c : Nat} {xs : List Value} {r : Option Nat} (h : Rd w w.heap.size (some ⟨g, off, none⟩) n c xs) (hg : w.grownBy w' r) (hne : some g ≠ r) : Rd w' w'.heap.size (some ⟨g, off, none⟩) n c xs := by
  refine ⟨h.1, fun hx => ?_⟩
  obtain ⟨g', off', e, hb, hc⟩ := h.2 hx
  have e' := e
  simp only [Option.some.injEq, Addr.mk.injEq, and_true] at e'
  obtain ⟨rfl, rfl⟩ := e'
  exact ⟨g, off, e, Nat.lt_of_lt_of_le hb hg.size, fun j u hu => (World.cell?_of_block (w := w) (hg.block g hb hne)).trans (hc j u hu)⟩
theorem sgL_short (n : Int) (l m : VL) : (sgL n l m).length ≤ 7 := by
  rcases h : (saB n l m && spB n l m) with _ | _
  · rw [(sg_no h).2]; exact Nat.zero_le _
  · simp only [Bool.and_eq_true] at h
    obtain ⟨N, _, h7, _, e, _⟩ := sg_yes h.1 h.2
    rw [e, sgOf_length]; exact h7
set_option maxHeartbeats 4000000 in
theorem l15Others_any (N : Nat) (A1 A2 : Option Addr) (n1 c1 n2 c2 : Nat) (l m : VL) (f : Int) (w : World) (hv1 : visB (N : Int) l = true) (hv2 : visB (N : Int) m = true) (hl : l.length = n1) (hm : m.length = n2) (hf1 : 1 ≤ f) (hf2 : f ≤ 99)
    (r1 : Rd w w.heap.size A1 n1 c1 (pairs l)) (r2 : Rd w w.heap.size A2 n2 c2 (pairs m)) :
    Calls Try.prog 64 #[.int .i64 (N : Int), .slice A1 n1 c1, .slice A2 n2 c2, .int .i64 f] w (RetS w 3 N (ints (amL N l m f N))) := by
  obtain ⟨N', e, g1, g2, g3, g4⟩ := visB_parts hv1
  obtain rfl : N' = N := by omega
  obtain ⟨N2, e', _, _, g5, g6⟩ := visB_parts hv2
  obtain rfl : N2 = N' := by omega
  have HN1 : Hid (n1 = nb N2) := hl.symm.trans g3
  have HN2 : Hid (n2 = nb N2) := hm.symm.trans g5
  have HL := Lib.hid g3
  have HM := Lib.hid g5
  have HRL := Lib.hid g4
  have HRM := Lib.hid g6
  have HR1 := Lib.hid r1
  have HR2 := Lib.hid r2
  have HN8 : N2 < 8 := by omega
  have hfl := fieldA
  clear e e' hv1 hv2 hl hm g3 g4 g5 g6 r1 r2
  go_enter Try.func64, Try.ntmps64
  go_wp2_with fail
  go_loopw [9, 10] (fun v i wr => ∃ k : Nat, 1 ≤ k ∧ k ≤ N2 ∧ i = .int .i64 (k : Int) ∧ wr.ownsRow w.heap.size 3 1 v k (ints (amL N2 l m f k)) ∧ Ext w wr) (fun _ i _ => N2 - (intOf i).toNat)
  case atStart => exact ⟨1, Nat.le_refl _, by omega, rfl, by rw [amL_one]; exact World.ownsRow_lit w #[.int .i64 f] 1 (Nat.le_refl _) (by simp [maxLen]) rfl, (Ext.refl w).alloc _⟩
  case round =>
    obtain ⟨k, hk1, hk, rfl, ho, he⟩ := hrel
    by_cases hlt : k < N2
    · have h2 : (k : Int) < (N2 : Int) := by omega
      have hq := bIx_lt N2 HN8 0 (by omega) k hlt (by omega)
      have HC1 : Hid (∀ W, Ext w W → Calls Try.prog 67 #[.int .i64 (N2 : Int), .slice A1 n1 c1, .int .i64 0, .int .i64 (k : Int)] W fun e w' => e = .returned (.agg #[.int .i64 (vAm l (bIx N2 0 k)), .int .i64 (vgP N2 l 0 k)]) ∧ Ext W w') := fun W x => by
        have := l11Get_any N2 A1 n1 c1 l 0 k W HN8 (by omega) hlt (by omega) HL.out HN1.out HRL.out (HR1.out.ext x)
        rw [vgA_up l (by omega)] at this
        exact this
      have HC2 : Hid (∀ W, Ext w W → Calls Try.prog 67 #[.int .i64 (N2 : Int), .slice A2 n2 c2, .int .i64 0, .int .i64 (k : Int)] W fun e w' => e = .returned (.agg #[.int .i64 (vAm m (bIx N2 0 k)), .int .i64 (vgP N2 m 0 k)]) ∧ Ext W w') := fun W x => by
        have := l11Get_any N2 A2 n2 c2 m 0 k W HN8 (by omega) hlt (by omega) HM.out HN2.out HRM.out (HR2.out.ext x)
        rw [vgA_up m (by omega)] at this
        exact this
      have e1 := rgB_at HRL.out (k := bIx N2 0 k) (by rw [HL.out]; exact hq)
      have e2 := rgB_at HRM.out (k := bIx N2 0 k) (by rw [HM.out]; exact hq)
      obtain ⟨m1, m2⟩ := mul_in1' e2.1 e2.2.1 hf1 hf2
      have f1 : IntKind.i64.wrap (vAm m (bIx N2 0 k) * f) = vAm m (bIx N2 0 k) * f := IntWalk.i64_in _ (by omega)
      have HAT : Hid (amT N2 l m f k = if vAm l (bIx N2 0 k) % (vAm m (bIx N2 0 k) * f) = 0 ∧ vAm l (bIx N2 0 k) / (vAm m (bIx N2 0 k) * f) ≤ 99 then vAm l (bIx N2 0 k) / (vAm m (bIx N2 0 k) * f) else 0) := by show _ = _; unfold amT; rw [if_neg (by omega)]
      have HSN := Lib.hid (amL_succ N2 l m f k)
      clear hq
      generalize bIx N2 0 k = q at *
      generalize vgP N2 l 0 k = y1 at *
      generalize vgP N2 m 0 k = y2 at *
      generalize vAm l q = a at *
      obtain ⟨p, hp⟩ : ∃ p, vAm m q * f = p := ⟨_, rfl⟩
      have hpz : (p == 0) = false := by simp; omega
      have hpz2 : ¬ p = 0 := by omega
      rw [hp] at f1 m1 m2 HAT
      have hqr := Int.ediv_nonneg (show 0 ≤ a by omega) (show 0 ≤ p by omega)
      have hqs := Int.ediv_le_self p (show 0 ≤ a by omega)
      have t1 : a.tmod p = a % p := Int.tmod_eq_emod_of_nonneg (by omega)
      have t2 : a.tdiv p = a / p := Int.tdiv_eq_ediv_of_nonneg (by omega)
      have t3 : IntKind.i64.wrap (a / p) = a / p := IntWalk.i64_in _ (by omega)
      go_wp2_with fail
      refine (HC1.out _ he).mono ?_
      rintro e w3 ⟨rfl, x3⟩
      have e3 := he.trans x3
      go_wp2_with fail
      refine (HC2.out _ e3).mono ?_
      rintro e w4 ⟨rfl, x4⟩
      have e4 := e3.trans x4
      have o4 := own_ext (own_ext ho x3) x4
      have hz4 := e4.size
      clear HC1 HC2 e3 x3 x4 ho he
      by_cases g0 : a % p = 0 ∧ a / p ≤ 99
      · have g1 := g0.1
        have g9 : ¬ (99 : Int) < a / p := by omega
        have g0' : (a % p != 0) = false := by simpa using g1
        have HAV : Hid (amT N2 l m f k = a / p) := by show _ = _; rw [HAT.out, if_pos g0]
        clear g0 HAT
        go_wp2_with (at_builtin; refine wpList_append1A (w := w4) rfl _ _ _ rfl w.heap.size 3 (.int .i64 0) 8 I.infoInt Try.underlying38 rfl _ k _ (by rfl) o4 (.int .i64 (a / p)) _ (by rfl) rfl rfl (by omega) (by omega) hz4 ?_; intro v' w5 o5 hg5 hat5)
        have e5 := e4.grownV o4 hg5 (Nat.le_refl _)
        rw [ints_snoc, ← HAV.out, ← HSN.out] at o5
        go_roundw
        case rel => exact ⟨k + 1, by omega, by omega, by go_num, o5, e5⟩
        case measure => simp [intOf]; omega
      · have HAV : Hid (amT N2 l m f k = 0) := by show _ = _; rw [HAT.out, if_neg g0]
        by_cases g1 : a % p = 0
        · have g9 : (99 : Int) < a / p := by
            have : ¬ a / p ≤ 99 := fun h => g0 ⟨g1, h⟩
            omega
          have g0' : (a % p != 0) = false := by simpa using g1
          clear g0 HAT
          go_wp2_with (at_builtin; refine wpList_append1A (w := w4) rfl _ _ _ rfl w.heap.size 3 (.int .i64 0) 8 I.infoInt Try.underlying38 rfl _ k _ (by rfl) o4 (.int .i64 0) _ (by rfl) rfl rfl (by omega) (by omega) hz4 ?_; intro v' w5 o5 hg5 hat5)
          have e5 := e4.grownV o4 hg5 (Nat.le_refl _)
          rw [ints_snoc, ← HAV.out, ← HSN.out] at o5
          go_roundw
          case rel => exact ⟨k + 1, by omega, by omega, by go_num, o5, e5⟩
          case measure => simp [intOf]; omega
        · have g0' : (a % p != 0) = true := by simpa using g1
          clear g0 g1 HAT
          go_wp2_with (at_builtin; refine wpList_append1A (w := w4) rfl _ _ _ rfl w.heap.size 3 (.int .i64 0) 8 I.infoInt Try.underlying38 rfl _ k _ (by rfl) o4 (.int .i64 0) _ (by rfl) rfl rfl (by omega) (by omega) hz4 ?_; intro v' w5 o5 hg5 hat5)
          have e5 := e4.grownV o4 hg5 (Nat.le_refl _)
          rw [ints_snoc, ← HAV.out, ← HSN.out] at o5
          go_roundw
          case rel => exact ⟨k + 1, by omega, by omega, by go_num, o5, e5⟩
          case measure => simp [intOf]; omega
    · have e : k = N2 := by omega
      rw [e] at ho
      rw [e]
      have hd : decide (N2 < N2) = false := by simp
      go_wp2
      go_ret
      exact RetS.of_own ho he
set_option maxHeartbeats 4000000 in
theorem l15Amps_any (N : Nat) (A1 A2 A3 : Option Addr) (n1 c1 n2 c2 c3 : Nat) (l m : VL) (f : Int) (w : World) (hv1 : visB (N : Int) l = true) (hv2 : visB (N : Int) m = true) (hl : l.length = n1) (hm : m.length = n2) (hf1 : 1 ≤ f) (hf2 : f ≤ 99)
    (r1 : Rd w w.heap.size A1 n1 c1 (pairs l)) (r2 : Rd w w.heap.size A2 n2 c2 (pairs m)) (r3 : Rd w w.heap.size A3 N c3 (ints (amL N l m f N))) :
    Calls Try.prog 65 #[.int .i64 (N : Int), .slice A1 n1 c1, .slice A2 n2 c2, .slice A3 N c3] w fun e w' => e = .returned (.bool (amOk N l m f)) ∧ Ext w w' := by
  obtain ⟨N', e, g1, g2, g3, g4⟩ := visB_parts hv1
  obtain rfl : N' = N := by omega
  obtain ⟨N2, e', _, _, g5, g6⟩ := visB_parts hv2
  obtain rfl : N2 = N' := by omega
  have HN1 : Hid (n1 = nb N2) := hl.symm.trans g3
  have HN2 : Hid (n2 = nb N2) := hm.symm.trans g5
  have HL := Lib.hid g3
  have HM := Lib.hid g5
  have HRL := Lib.hid g4
  have HRM := Lib.hid g6
  have HR1 := Lib.hid r1
  have HR2 := Lib.hid r2
  have HR3 := Lib.hid r3
  have HN8 : N2 < 8 := by omega
  obtain ⟨gc, oc, rfl⟩ := r3.addr (by rw [ints_length, amL_length]; omega)
  have hfl := fieldA
  clear e e' hv1 hv2 hl hm g3 g4 g5 g6 r1 r2 r3
  go_enter Try.func65, Try.ntmps65
  go_wp2_with fail
  go_loopw [9] (fun v wr => ∃ i : Nat, i ≤ N2 ∧ v = .int .i64 (i : Int) ∧ Hid (∀ p ∈ (bp N2).take (row N2 i), amG N2 l m f p = true) ∧ Ext w wr) (fun v _ => N2 - (intOf v).toNat)
  case atStart => exact ⟨0, Nat.zero_le _, rfl, (by rw [row_zero]; intro p hp; simp at hp), Ext.refl w⟩
  case round =>
    obtain ⟨i, hi, rfl, hf, he⟩ := hrel
    by_cases hlt : i < N2
    · have h2 : (i : Int) < (N2 : Int) := by omega
      go_wp2_with fail
      go_loopw [10] (fun v wr => ∃ j : Nat, i + 1 ≤ j ∧ j ≤ N2 ∧ v = .int .i64 (j : Int) ∧ Hid (∀ p ∈ (bp N2).take (bIx N2 i j), amG N2 l m f p = true) ∧ Ext w wr) (fun v _ => N2 - (intOf v).toNat)
      case atStart => exact ⟨i + 1, Nat.le_refl _, by omega, by go_num, by rw [bIx_first]; exact hf.out, he⟩
      case round =>
        clear hf he
        obtain ⟨j, hj1, hj, rfl, hf, he⟩ := hrel
        by_cases hlt2 : j < N2
        · have h3 : (j : Int) < (N2 : Int) := by omega
          have hi0 : (0 : Int) ≤ (i : Int) := by omega
          have hj0 : (0 : Int) ≤ (j : Int) := by omega
          have hq := bIx_lt N2 HN8 i hlt j hlt2 (by omega)
          have HC1 : Hid (∀ W, Ext w W → Calls Try.prog 67 #[.int .i64 (N2 : Int), .slice A1 n1 c1, .int .i64 (i : Int), .int .i64 (j : Int)] W fun e w' => e = .returned (.agg #[.int .i64 (vAm l (bIx N2 i j)), .int .i64 (vgP N2 l i j)]) ∧ Ext W w') := fun W x => by
            have := l11Get_any N2 A1 n1 c1 l i j W HN8 hlt hlt2 (by omega) HL.out HN1.out HRL.out (HR1.out.ext x)
            rw [vgA_up l (by omega)] at this
            exact this
          have HC2 : Hid (∀ W, Ext w W → Calls Try.prog 67 #[.int .i64 (N2 : Int), .slice A2 n2 c2, .int .i64 (i : Int), .int .i64 (j : Int)] W fun e w' => e = .returned (.agg #[.int .i64 (vAm m (bIx N2 i j)), .int .i64 (vgP N2 m i j)]) ∧ Ext W w') := fun W x => by
            have := l11Get_any N2 A2 n2 c2 m i j W HN8 hlt hlt2 (by omega) HM.out HN2.out HRM.out (HR2.out.ext x)
            rw [vgA_up m (by omega)] at this
            exact this
          have q1 := rgB_at HRL.out (k := bIx N2 i j) (by rw [HL.out]; exact hq)
          have q2 := rgB_at HRM.out (k := bIx N2 i j) (by rw [HM.out]; exact hq)
          have a1 := amT_range (N := N2) (l := l) (m := m) i hf1 hf2 (rg_nonneg HRL.out) (rg_nonneg HRM.out)
          have a2 := amT_range (N := N2) (l := l) (m := m) j hf1 hf2 (rg_nonneg HRL.out) (rg_nonneg HRM.out)
          have HCE : Hid (∀ W, Ext w W → W.cell? ⟨gc, oc + i, none⟩ = some (.int .i64 (amT N2 l m f i)) ∧ W.cell? ⟨gc, oc + j, none⟩ = some (.int .i64 (amT N2 l m f j))) := fun W x => ⟨(HR3.out.ext x).cell (ints_at' (amL_at hlt)), (HR3.out.ext x).cell (ints_at' (amL_at hlt2))⟩
          have HYES : Hid (vAm l (bIx N2 i j) = vAm m (bIx N2 i j) * amT N2 l m f i * amT N2 l m f j → ∀ p ∈ (bp N2).take (bIx N2 i (j + 1)), amG N2 l m f p = true) := fun h p hp => by
            rw [bIx_succ (by omega), bp_take HN8 (by omega) hlt2, List.mem_append, List.mem_singleton] at hp
            rcases hp with hp | hp
            · exact hf.out p hp
            · subst hp
              simpa [amG] using h
          have HNO : Hid (vAm l (bIx N2 i j) ≠ vAm m (bIx N2 i j) * amT N2 l m f i * amT N2 l m f j → amOk N2 l m f = false) := fun h => amOk_no HN8 (by omega) hlt2 h
          have HE := Lib.hid he
          clear hq he
          generalize bIx N2 i j = q at *
          generalize vgP N2 l i j = y1 at *
          generalize vgP N2 m i j = y2 at *
          generalize amT N2 l m f i = t1 at *
          generalize amT N2 l m f j = t2 at *
          generalize vAm l q = a at *
          generalize vAm m q = mm at *
          obtain ⟨m1, m2⟩ := mul_in2 (show 0 ≤ mm by omega) q2.2.1 a1.1 a1.2
          obtain ⟨m3, m4⟩ := mul_in2 m1 m2 a2.1 a2.2
          have f1 : IntKind.i64.wrap (mm * t1) = mm * t1 := IntWalk.i64_in _ (by omega)
          have f2 : IntKind.i64.wrap (mm * t1 * t2) = mm * t1 * t2 := IntWalk.i64_in _ (by omega)
          go_wp2_with fail
          go_region_held3 (fun w' => w'.cell? ⟨gc, oc + i, none⟩ = some (.int .i64 t1) ∧ w'.cell? ⟨gc, oc + j, none⟩ = some (.int .i64 t2)) (exact HCE.out _ (HE.out.trans (by repeat (first | (with_reducible exact Ext.refl _) | (with_reducible assumption) | (with_reducible refine Ext.drew ?_) | (with_reducible refine Ext.alloc ?_ _)))))
            (first
              | (go_at_call 67; (with_reducible refine (HC1.out _ (HE.out.trans (by repeat (first | (with_reducible exact Ext.refl _) | (with_reducible assumption) | (with_reducible refine Ext.drew ?_) | (with_reducible refine Ext.alloc ?_ _))))).mono ?_); rintro e w3 ⟨rfl, x3⟩; have E3 : Ext wr w3 := Ext.trans (by repeat (first | (with_reducible exact Ext.refl _) | (with_reducible assumption) | (with_reducible refine Ext.drew ?_) | (with_reducible refine Ext.alloc ?_ _))) x3)
              | (go_at_call 67; (with_reducible refine (HC2.out _ (HE.out.trans (by repeat (first | (with_reducible exact Ext.refl _) | (with_reducible assumption) | (with_reducible refine Ext.drew ?_) | (with_reducible refine Ext.alloc ?_ _))))).mono ?_); rintro e w4 ⟨rfl, x4⟩; have E4 : Ext wr w4 := Ext.trans (by repeat (first | (with_reducible exact Ext.refl _) | (with_reducible assumption) | (with_reducible refine Ext.drew ?_) | (with_reducible refine Ext.alloc ?_ _))) x4))
          rename_i hheld
          have E5 := HE.out.trans E4
          clear hheld x3 x4 E3 E4 HE HC1 HC2 HCE f1 f2
          by_cases hcmp : a = mm * t1 * t2
          · have hb : (a != mm * t1 * t2) = false := by simpa using hcmp
            have HY := Lib.hid (HYES.out hcmp)
            clear hcmp
            go_wp2
            go_roundw
            case rel => exact ⟨j + 1, by omega, by omega, by go_num, HY.out, E5⟩
            case measure => simp [intOf]; omega
          · have hb : (a != mm * t1 * t2) = true := by simpa using hcmp
            have HN := Lib.hid (HNO.out hcmp)
            clear hcmp
            go_wp2
            go_ret
            exact ⟨ret_bool HN.out.symm, E5⟩
        · have e : j = N2 := by omega
          rw [e, bIx_last HN8 hlt] at hf
          rw [e]
          have hd : decide (N2 < N2) = false := by simp
          clear e hlt2 hj1 hj
          go_wp2
          go_roundw
          case rel => exact ⟨i + 1, by omega, by go_num, hf, he⟩
          case measure => simp [intOf]; omega
    · have e : i = N2 := by omega
      rw [e, row_end N2 HN8, List.take_of_length_le (by rw [bp_length N2 HN8]; exact Nat.le_refl _)] at hf
      have HY : Hid (amOk N2 l m f = true) := List.all_eq_true.2 hf.out
      rw [e]
      have hd : decide (N2 < N2) = false := by simp
      clear hf e
      go_wp2
      go_ret
      exact ⟨ret_bool HY.out.symm, he⟩
set_option maxHeartbeats 4000000 in
theorem specSolveAmps_any (n : Int) (A1 A2 : Option Addr) (n1 c1 n2 c2 : Nat) (l m : VL) (w : World) (hl : l.length = n1) (hm : m.length = n2) (z1 : n1 ≤ 1048576) (z2 : n2 ≤ 1048576) (r1 : Rd w w.heap.size A1 n1 c1 (pairs l)) (r2 : Rd w w.heap.size A2 n2 c2 (pairs m)) :
    Calls Try.prog 34 #[.int .i64 n, .slice A1 n1 c1, .slice A2 n2 c2] w (RetSB w 3 (saL n l m).length (ints (saL n l m)) (saB n l m)) := by
  have HT := Lib.hid (l15Two_any n A1 A2 n1 c1 n2 c2 l m w hl (by omega) r1 hm (by omega) r2)
  rcases h1 : (visB n l && visB n m) with _ | _
  · rw [h1] at HT
    have HB := Lib.hid (saB_bad (n := n) (l := l) (m := m) (by rw [h1]; rfl))
    have HC := Lib.hid (saL_no HB.out)
    clear h1 hl hm r1 r2
    go_enter Try.func34, Try.ntmps34
    go_wp2_with fail
    refine HT.out.mono ?_
    rintro e w1 ⟨rfl, q, rfl⟩
    go_wp2
    go_ret2
    rw [HB.out]
    exact RetSB.nil (by rw [HC.out]; rfl) (by rw [HC.out]; rfl) (((Ext.refl w).drewN q).alloc _)
  rw [h1] at HT
  have h1' := h1
  simp only [Bool.and_eq_true] at h1'
  obtain ⟨N, rfl, g1, g2, _, _⟩ := visB_parts h1'.1
  have H1 := Lib.hid h1'.1
  have H2 := Lib.hid h1'.2
  by_cases h3 : 3 ≤ N
  case neg =>
    have HB := Lib.hid (saB_bad (n := (N : Int)) (l := l) (m := m) (by rw [decide_eq_false (by omega), Bool.and_false]))
    have HC := Lib.hid (saL_no HB.out)
    have hN3 : (N : Int) < 3 := by omega
    clear h1 h1' hl hm r1 r2 h3
    go_enter Try.func34, Try.ntmps34
    go_wp2_with fail
    refine HT.out.mono ?_
    rintro e w1 ⟨rfl, q, rfl⟩
    go_wp2
    go_ret2
    rw [HB.out]
    exact RetSB.nil (by rw [HC.out]; rfl) (by rw [HC.out]; rfl) (((Ext.refl w).drewN q).alloc _)
  have HO := Lib.hid (fun (W : World) (x : Ext w W) (f : Int) (hf1 : 1 ≤ f) (hf2 : f ≤ 99) => l15Others_any N A1 A2 n1 c1 n2 c2 l m f W h1'.1 h1'.2 hl hm hf1 hf2 (r1.ext x) (r2.ext x))
  have HA := Lib.hid (fun (W : World) (x : Ext w W) (A3 : Option Addr) (c3 : Nat) (f : Int) (hf1 : 1 ≤ f) (hf2 : f ≤ 99) (r3 : Rd W W.heap.size A3 N c3 (ints (amL N l m f N))) => l15Amps_any N A1 A2 A3 n1 c1 n2 c2 c3 l m f W h1'.1 h1'.2 hl hm hf1 hf2 (r1.ext x) (r2.ext x) r3)
  have hN3 : ¬ (N : Int) < 3 := by omega
  clear h1 h1' hl hm r1 r2
  go_enter Try.func34, Try.ntmps34
  go_wp2_with fail
  refine HT.out.mono ?_
  rintro e w1 ⟨rfl, q, rfl⟩
  have y2 : Ext w (w.drewN q) := (Ext.refl w).drewN q
  go_wp2_with fail
  go_loopw [8] (fun v wr => ∃ k : Nat, k ≤ 99 ∧ v = .int .i64 ((k : Int) + 1) ∧ Hid (∀ j : Nat, j < k → amOk N l m ((j : Int) + 1) = false) ∧ Ext w wr) (fun v _ => 100 - (intOf v).toNat)
  case atStart => exact ⟨0, by omega, rfl, fun j h => by omega, y2⟩
  case round =>
    obtain ⟨k, hk, rfl, hf, he⟩ := hrel
    by_cases hlt : k < 99
    · have hki : (k : Int) + 1 ≤ 99 := by omega
      have f0 : IntKind.i64.wrap ((k : Int) + 1 + 1) = (k : Int) + 1 + 1 := IntWalk.i64_in _ (by omega)
      go_wp2_with fail
      refine (HO.out _ he ((k : Int) + 1) (by omega) (by omega)).mono ?_
      rintro e w3 ⟨A3, c3, rfl, s3, x3⟩
      have e3 := he.trans x3
      go_wp2_with fail
      refine (HA.out _ e3 A3 c3 ((k : Int) + 1) (by omega) (by omega) s3.rd).mono ?_
      rintro e w4 ⟨rfl, x4⟩
      have e4 := e3.trans x4
      have s4 := s3.ext x4
      rcases hok : amOk N l m ((k : Int) + 1) with _ | _
      · have HS : Hid (∀ j : Nat, j < k + 1 → amOk N l m ((j : Int) + 1) = false) := fun j h => by
          by_cases e : j = k
          · subst e; exact hok
          · exact hf.out j (by omega)
        clear hok s3 s4
        go_wp2
        go_roundw
        case rel => exact ⟨k + 1, by omega, by first | rfl | go_num, HS.out, e4⟩
        case measure => simp [intOf]; omega
      · have HI := saI_some hlt hok hf.out
        have HR := Lib.hid (sa_at h3 H1.out H2.out HI)
        have HF : Hid (amF N l m ((k : Int) + 1) = amL N l m ((k : Int) + 1) N) := by show _ = _; simp [amF, hok]
        have HS3 := Lib.hid s4
        have zs := x4.size
        clear hok HI s3 s4
        go_wp2
        go_ret2
        rw [HR.out.1, HR.out.2, HF.out, amL_length]
        exact ⟨A3, c3, rfl, HS3.out.mono he.size zs, e4⟩
    · have e : k = 99 := by omega
      have hki : ¬ (k : Int) + 1 ≤ 99 := by omega
      have HI := saI_none (N := N) (l := l) (m := m) (fun j h => hf.out j (by omega))
      have HB := Lib.hid (sa_none HI)
      have HC := Lib.hid (saL_no HB.out)
      clear HI
      go_wp2
      go_ret2
      rw [HB.out]
      exact RetSB.nil (by rw [HC.out]; rfl) (by rw [HC.out]; rfl) (he.alloc _)
set_option maxRecDepth 100000 in
set_option maxHeartbeats 4000000 in
theorem specSolveGains_any (n : Int) (A1 A2 : Option Addr) (n1 c1 n2 c2 : Nat) (l m : VL) (w : World) (hl : l.length = n1) (hm : m.length = n2) (z1 : n1 ≤ 1048576) (z2 : n2 ≤ 1048576) (r1 : Rd w w.heap.size A1 n1 c1 (pairs l)) (r2 : Rd w w.heap.size A2 n2 c2 (pairs m)) :
    Calls Try.prog 14 #[.int .i64 n, .slice A1 n1 c1, .slice A2 n2 c2] w (RetSB w 30 (sgL n l m).length (pairs (sgL n l m)) (sgB n l m)) := by
  have x0 : Ext w (w.alloc (.cells #[] 30)) := (Ext.refl w).alloc _
  have o0 : (w.alloc (.cells #[] 30)).ownsRow w.heap.size 30 2 (.slice (some ⟨w.heap.size, 0, none⟩) 0 0) 0 (pairs []) := World.ownsRow_lit w #[] 0 (Nat.le_refl _) (by simp [maxLen]) rfl
  have HA := Lib.hid (specSolveAmps_any n A1 A2 n1 c1 n2 c2 l m _ hl hm z1 z2 (r1.ext x0) (r2.ext x0))
  have HP := Lib.hid (fun (W : World) (x : Ext w W) => specSolvePhases_any n A1 A2 n1 c1 n2 c2 l m W hl hm z1 z2 (r1.ext x) (r2.ext x))
  obtain ⟨us, hus⟩ : ∃ x, saL n l m = x := ⟨_, rfl⟩
  obtain ⟨ps, hps⟩ : ∃ x, spL n l m = x := ⟨_, rfl⟩
  obtain ⟨oa, hoa⟩ : ∃ x, saB n l m = x := ⟨_, rfl⟩
  obtain ⟨op, hop⟩ : ∃ x, spB n l m = x := ⟨_, rfl⟩
  rw [hus, hoa] at HA
  rw [hps, hop] at HP
  have HE := Lib.hid (And.intro hus (And.intro hps (And.intro hoa hop)))
  clear hl hm r1 r2 hus hps hoa hop
  go_enter Try.func14, Try.ntmps14
  go_wp2_with fail
  refine HA.out.mono ?_
  rintro e w1 ⟨A3, c3, rfl, s3, x1⟩
  have zs1 := x1.size
  rw [World.size_alloc] at s3 zs1
  have o1 := own_ext o0 x1
  have y1 := x0.trans x1
  go_wp2_with fail
  refine (HP.out _ y1).mono ?_
  rintro e w2 ⟨A4, c4, rfl, s4, x2⟩
  have s3' := s3.ext x2
  have y2 := y1.trans x2
  have o2 := own_ext o1 x2
  clear HA HP s3 x1 x2 o0 o1 x0 y1
  cases oa
  · have HNO := Lib.hid (sg_no (n := n) (l := l) (m := m) (by rw [HE.out.2.2.1]; rfl))
    go_wp2
    go_ret2
    rw [HNO.out.1]
    exact RetSB.nil (by rw [HNO.out.2]; rfl) (by rw [HNO.out.2]; rfl) y2
  cases op
  · have HNO := Lib.hid (sg_no (n := n) (l := l) (m := m) (by rw [HE.out.2.2.2, Bool.and_false]))
    go_wp2
    go_ret2
    rw [HNO.out.1]
    exact RetSB.nil (by rw [HNO.out.2]; rfl) (by rw [HNO.out.2]; rfl) y2
  obtain ⟨N, rfl, hN7, hb, hs, la, lp⟩ := sg_yes HE.out.2.2.1 HE.out.2.2.2
  rw [HE.out.1] at la hs
  rw [HE.out.2.1] at lp hs
  have HLA := Lib.hid la
  have HLP := Lib.hid lp
  have HSG := Lib.hid (And.intro hb hs)
  rw [la] at s3' ⊢
  rw [lp] at s4 ⊢
  clear la lp hb hs
  have HN1 : Hid (1 ≤ N) := by
    obtain ⟨N', _, e, h3, _⟩ := saB_yes HE.out.2.2.1
    show 1 ≤ N
    omega
  have hN1 := HN1.out
  obtain ⟨g3, o3, ea, hg3a, _, _⟩ := s3'.addr (by rw [ints_length, HLA.out]; omega)
  obtain rfl := ea
  obtain ⟨g4, o4, ea, hg4a, _, _⟩ := s4.addr (by rw [ints_length, HLP.out]; omega)
  obtain rfl := ea
  have HS3 := Lib.hid s3'
  have HS4 := Lib.hid s4
  have HY := Lib.hid y2
  clear s3' s4 hN1
  go_wp2_with fail
  go_loopw [8, 13] (fun v i wr => ∃ k : Nat, k ≤ N ∧ i = .int .i64 (k : Int) ∧ wr.ownsRow w.heap.size 30 2 v k (pairs ((sgOf N us ps).take k)) ∧ Rd wr wr.heap.size (some ⟨g3, o3, none⟩) N c3 (ints us) ∧ Rd wr wr.heap.size (some ⟨g4, o4, none⟩) N c4 (ints ps) ∧ v.ownBlock ≠ some g3 ∧ v.ownBlock ≠ some g4 ∧ Ext w wr) (fun _ i _ => N - (intOf i).toNat)
  case atStart => exact ⟨0, Nat.zero_le _, rfl, o2, HS3.out.rd, HS4.out.rd, (by intro h; have := Option.some.inj h; simp only at this; omega), (by intro h; have := Option.some.inj h; simp only at this; omega), y2⟩
  case round =>
    clear o2 y2
    obtain ⟨k, hk, rfl, ho, r3, r4, n3, n4, he⟩ := hrel
    by_cases hlt : k < N
    · have h2 : (k : Int) < (N : Int) := by omega
      have h3 : (0 : Int) ≤ (k : Int) := by omega
      have d1 := r3.cell (ints_at' (some_pAt (l := us) (k := k) (by rw [HLA.out]; exact hlt)))
      have d2 := r4.cell (ints_at' (some_pAt (l := ps) (k := k) (by rw [HLP.out]; exact hlt)))
      have HSN := Lib.hid (show (sgOf N us ps).take (k + 1) = _ from sgOf_succ hlt)
      have hz := he.size
      have HR3 := Lib.hid r3
      have HR4 := Lib.hid r4
      have HSS : Hid (∀ W', Ext wr.drew W' → W'.cell? ⟨g3, o3 + k, none⟩ = some (.int .i64 (pAt us k)) ∧ W'.cell? ⟨g4, o4 + k, none⟩ = some (.int .i64 (pAt ps k))) := fun W' x => by
        have y : Ext wr W' := (Ext.refl wr).drew.trans x
        exact ⟨(r3.ext y).cell (ints_at' (some_pAt (l := us) (k := k) (by rw [HLA.out]; exact hlt))), (r4.ext y).cell (ints_at' (some_pAt (l := ps) (k := k) (by rw [HLP.out]; exact hlt)))⟩
      clear r3 r4 d1 d2
      go_wp2_with fail
      refine wp_region_noPanic ?_
      refine region_held 10 (fun W' => W'.cell? ⟨g3, o3 + k, none⟩ = some (.int .i64 (pAt us k)) ∧ W'.cell? ⟨g4, o4 + k, none⟩ = some (.int .i64 (pAt ps k))) (by kernel_rfl) (by kernel_rfl) (by kernel_rfl) (by kernel_rfl) (by kernel_rfl) (by kernel_rfl) (fun _ _ _ _ _ h => (h : False).elim) (HSS.out _ (Ext.refl _)) ?_
      simp only [List.take_succ_cons, List.take_zero, List.drop_succ_cons, List.drop_zero]
      iterate 10
        apply headG_step
        · rfl
        · intro w' hSw
          (try dsimp only at hSw)
          go_simp
          all_goals exact rfl
        simp only [Act.put, List.setIfInBounds_toArray, List.set_cons_zero, List.set_cons_succ]
      change TailG _ _ _ _ _ _
      have hod : wr.drew.ownsRow w.heap.size 30 2 _ k (pairs ((sgOf N us ps).take k)) := ho
      have HR34 : Hid (Ext w wr.drew ∧ Rd wr.drew wr.drew.heap.size (some ⟨g3, o3, none⟩) N c3 (ints us) ∧ Rd wr.drew wr.drew.heap.size (some ⟨g4, o4, none⟩) N c4 (ints ps)) := ⟨he.drew, HR3.out, HR4.out⟩
      have hzd : w.heap.size ≤ wr.drew.heap.size := hz
      clear ho he HR3 HR4 hz
      generalize wr.drew = we at *
      refine tail_cons fun K hK => ?_
      go_simp
      refine hK _ _ (HSS.out _ ((Ext.refl _).alloc _)) ?_
      clear hK K
      refine tail_cons fun K hK => ?_
      refine wp_append2W (w := we) _ _ _ rfl w.heap.size 30 16 Vis.info Try.underlying23 _ k _ (by rfl) hod (pAt us k) (pAt ps k) _ (by rfl) rfl (by omega) (by omega) (by omega) ?_
      intro v' w3 ho3 hg3 hat3
      rw [← HSN.out] at ho3
      have e5 := HR34.out.1.grownV hod hg3 (Nat.le_refl _)
      have l3 := HR34.out.2.1.grown hg3 (Ne.symm n3)
      have l4 := HR34.out.2.2.grown hg3 (Ne.symm n4)
      have m3 : v'.ownBlock ≠ some g3 := fun h => by
        rcases hat3 g3 h with e | e
        · exact n3 e
        · have := HR34.out.2.1.blk (by rw [ints_length, HLA.out]; omega); omega
      have m4 : v'.ownBlock ≠ some g4 := fun h => by
        rcases hat3 g4 h with e | e
        · exact n4 e
        · have := HR34.out.2.2.blk (by rw [ints_length, HLP.out]; omega); omega
      refine hK _ _ ⟨l3.cell (ints_at' (some_pAt (l := us) (k := k) (by rw [HLA.out]; exact hlt))), l4.cell (ints_at' (some_pAt (l := ps) (k := k) (by rw [HLP.out]; exact hlt)))⟩ ?_
      clear hK K
      have HFIN := Lib.hid (And.intro ho3 (And.intro l3 (And.intro l4 (And.intro m3 (And.intro m4 e5)))))
      clear ho3 l3 l4 m3 m4 e5 hg3 hat3 hod HR34
      refine tail_last fun K hK => ?_
      go_simp
      refine hK _ _ ?_
      clear hK K
      refine NoPanic.normal ?_
      go_wp2
      go_roundw
      case rel => exact ⟨k + 1, by omega, by go_num, HFIN.out.1, HFIN.out.2.1, HFIN.out.2.2.1, HFIN.out.2.2.2.1, HFIN.out.2.2.2.2.1, HFIN.out.2.2.2.2.2⟩
      case measure => simp [intOf]; omega
    · have e : k = N := by omega
      have HLN : Hid ((sgOf N us ps).length = N) := sgOf_length _ _ _
      rw [e, List.take_of_length_le (by rw [HLN.out]; exact Nat.le_refl _)] at ho
      rw [e]
      clear e hlt
      have hd : decide (N < N) = false := by simp
      obtain ⟨A5, c5, hv5, s5⟩ := Sl.of_own ho
      subst hv5
      have HS5 := Lib.hid s5
      clear ho s5
      go_wp2
      go_ret2
      rw [HSG.out.1, HSG.out.2, HLN.out]
      exact ⟨A5, c5, by first | rfl | simp, HS5.out, he⟩
end Go.Proofs.Ytpjglnmnfmibnab
