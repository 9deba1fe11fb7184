/-
  Contracts of SolveRest and SolvePhases of the reference.
-/
import Derived.Test.YtpjglnmnfmibnabVisS
import Derived.Test.YtpjglnmnfmibnabInts
import Derived.Deep.RegionHeld3
namespace Go.Proofs.Ytpjglnmnfmibnab
open Go.RowKit
set_option linter.unusedSimpArgs false
set_option linter.unusedVariables false

def goodTo (ph : List Int) (ps : List (Nat × Nat)) : Prop := ∀ p, p ∈ ps → phB (pAt ph p.1) = true ∧ phB (pAt ph p.2) = true
theorem goodTo_snoc {ph : List Int} {ps : List (Nat × Nat)} {p : Nat × Nat} (h : goodTo ph ps) (h1 : phB (pAt ph p.1) = true) (h2 : phB (pAt ph p.2) = true) : goodTo ph (ps ++ [p]) := by
  intro q hq
  rcases List.mem_append.1 hq with hq | hq
  · exact h q hq
  · obtain rfl : q = p := by simpa using hq
    exact ⟨h1, h2⟩
theorem goodTo_all {N : Nat} {ph : List Int} (h1 : 2 ≤ N) (h2 : N < 8) (hl : ph.length = N) (h : goodTo ph (bp N)) : phsB ph = true := phsB_mk fun k hk => by
  have : phB (pAt ph k) = true := by
    by_cases h0 : k = 0
    · subst h0; exact (h (0, 1) (mem_bp h2 (by omega) (by omega))).1
    · exact (h (0, k) (mem_bp h2 (by omega) (by omega))).2
  simpa [phB] using this
theorem phB_no {ph : List Int} {k : Nat} (h : phB (pAt ph k) = false) : phsB ph = false := by
  rcases e : phsB ph with _ | _
  · rfl
  · have := phsB_at e k
    simp [phB, this] at h
theorem phB_yes {a : Int} (h : phB a = true) : 0 ≤ a ∧ a < 360 := by simpa [phB] using h
theorem fieldV (a b : Value) (W : World) : (Instr.field 30 (.agg #[a, b]) 1).run Try.prog W = .ok b W := by kernel_rfl
theorem srB_no {n : Int} {l m : VL} {ph : List Int} (h : srB n l m ph = false) : srF n l m ph = -1 := by simp [srF, h]
set_option maxRecDepth 100000 in
set_option maxHeartbeats 4000000 in
theorem specSolveRest_any (n : Int) (A1 A2 A3 : Option Addr) (n1 c1 n2 c2 n3 c3 : Nat) (l m : VL) (ph : List Int) (w : World) (hl : l.length = n1) (hm : m.length = n2) (hp : ph.length = n3)
    (z1 : n1 ≤ 1048576) (z2 : n2 ≤ 1048576) (z3 : n3 ≤ 1048576) (r1 : Rd w w.heap.size A1 n1 c1 (pairs l)) (r2 : Rd w w.heap.size A2 n2 c2 (pairs m)) (r3 : Rd w w.heap.size A3 n3 c3 (ints ph)) :
    Calls Try.prog 68 #[.int .i64 n, .slice A1 n1 c1, .slice A2 n2 c2, .slice A3 n3 c3] w fun e w' => e = .returned (.int .i64 (srF n l m ph)) ∧ Ext w w' := by
  have HS : Hid (srB n l m ph = (visB n l && visB n m && decide ((ph.length : Int) = n) && phsB ph)) := rfl
  have HT := Lib.hid (l15Two_any n A1 A2 n1 c1 n2 c2 l m w hl (by omega) r1 hm (by omega) r2)
  rcases h1 : (visB n l && visB n m) with _ | _
  · rw [h1] at HT
    have HF := Lib.hid (srB_no (show srB n l m ph = false by rw [HS.out, h1]; rfl))
    clear hl hm hp h1
    go_enter Try.func68, Try.ntmps68
    go_wp2_with fail
    refine HT.out.mono ?_
    rintro e w1 ⟨rfl, q, rfl⟩
    go_wp2
    go_ret
    exact ⟨ret_int HF.out.symm, (Ext.refl w).drewN _⟩
  rw [h1] at HT
  have h1' := h1
  simp only [Bool.and_eq_true] at h1'
  by_cases h3 : (n3 : Int) = n
  case neg =>
    have h3' : ((n3 : Int) != n) = true := by simpa using h3
    have HF := Lib.hid (srB_no (show srB n l m ph = false by rw [HS.out, h1, hp, decide_eq_false h3]; rfl))
    clear hl hm hp h1 h1' h3
    go_enter Try.func68, Try.ntmps68
    go_wp2_with fail
    refine HT.out.mono ?_
    rintro e w1 ⟨rfl, q, rfl⟩
    go_wp2
    go_ret
    exact ⟨ret_int HF.out.symm, (Ext.refl w).drewN _⟩
  have h3' : ((n3 : Int) != n) = false := by simpa using h3
  have HSR : Hid (srB n l m ph = phsB ph) := by show _ = _; rw [HS.out, h1, hp, decide_eq_true h3]; rfl
  obtain ⟨N, rfl, g1, g2, g3, g4⟩ := visB_parts h1'.1
  obtain ⟨N', e, _, _, g5, g6⟩ := visB_parts h1'.2
  obtain rfl : N' = N := by omega
  have HRL := Lib.hid g4
  have HRM := Lib.hid g6
  have HG3 := Lib.hid g3
  have HG5 := Lib.hid g5
  have HP := Lib.hid hp
  have h3a : N' ≤ n3 := by omega
  have h3b : n3 ≤ N' := by omega
  have hn1 : nb N' ≤ n1 := by omega
  have hn2 : nb N' ≤ n2 := by omega
  have hn1' : n1 ≤ nb N' := by omega
  have hn2' : n2 ≤ nb N' := by omega
  have HW := Lib.hid r1
  have HW2 := Lib.hid r2
  have HN8 : N' < 8 := by omega
  obtain ⟨gc, oc, rfl⟩ := r3.addr (by rw [ints_length, hp]; omega)
  have HW3 := Lib.hid r3
  clear e h1 h1' h3 g3 g4 g5 g6 hl hm hp r1 r2 r3
  go_enter Try.func68, Try.ntmps68
  go_wp2_with fail
  refine HT.out.mono ?_
  rintro e w1 ⟨rfl, q, rfl⟩
  go_wp2_with fail
  go_loopw [9, 10] (fun o i wr => ∃ k : Nat, k ≤ N' ∧ i = .int .i64 k ∧ o = .int .i64 (rstL N' l m ph ((bp N').take (row N' k))) ∧ goodTo ph ((bp N').take (row N' k)) ∧ Ext w wr) (fun _ i _ => N' - (intOf i).toNat)
  case atStart => exact ⟨0, Nat.zero_le _, rfl, by rw [row_zero]; rfl, by rw [row_zero]; intro p hp; simp at hp, (Ext.refl w).drewN _⟩
  case round =>
    obtain ⟨k, hk, rfl, rfl, hgo, he⟩ := hrel
    by_cases hlt : k < N'
    · have h2 : (k : Int) < (N' : Int) := by omega
      have HGO := Lib.hid hgo
      clear hgo
      go_wp2_with fail
      go_loopw [9, 11] (fun o j wr => ∃ j0 : Nat, k + 1 ≤ j0 ∧ j0 ≤ N' ∧ j = .int .i64 j0 ∧ o = .int .i64 (rstL N' l m ph ((bp N').take (bIx N' k j0))) ∧ goodTo ph ((bp N').take (bIx N' k j0)) ∧ Ext w wr) (fun _ j _ => N' - (intOf j).toNat)
      case atStart => exact ⟨k + 1, Nat.le_refl _, by omega, by go_num, by rw [bIx_first], by rw [bIx_first]; exact HGO.out, he⟩
      case round =>
        clear he HGO
        obtain ⟨j, hj1, hj2, rfl, rfl, hgo, he⟩ := hrel
        by_cases hlt2 : j < N'
        · have h4 : (j : Int) < (N' : Int) := by omega
          have hkn : (k : Int) < (n3 : Int) := by omega
          have hjn : (j : Int) < (n3 : Int) := by omega
          have k1 := (HW3.out.ext he).cell (ints_at' (some_pAt (l := ph) (k := k) (by rw [HP.out]; omega)))
          have k2 := (HW3.out.ext he).cell (ints_at' (some_pAt (l := ph) (k := j) (by rw [HP.out]; omega)))
          have HGO := Lib.hid hgo
          have HE := Lib.hid he
          clear hgo
          rcases e1 : phB (pAt ph k) with _ | _
          · have E1 := Lib.hid e1
            have HF := Lib.hid (srB_no (HSR.out.trans (phB_no e1)))
            clear e1
            go_wp2_with (go_at_call 60; refine (l2Phase_any _ _).mono ?_; rintro e w' ⟨rfl, rfl⟩; rw [E1.out])
            go_ret
            exact ⟨ret_int HF.out.symm, HE.out⟩
          rcases e2 : phB (pAt ph j) with _ | _
          · have E1 := Lib.hid e1
            have E2 := Lib.hid e2
            have HF := Lib.hid (srB_no (HSR.out.trans (phB_no e2)))
            clear e1 e2
            go_wp2_with (go_at_call 60; refine (l2Phase_any _ _).mono ?_; rintro e w' ⟨rfl, rfl⟩; first | rw [E1.out] | rw [E2.out])
            go_ret
            exact ⟨ret_int HF.out.symm, HE.out⟩
          have E1 := Lib.hid e1
          have E2 := Lib.hid e2
          have p1 := phB_yes e1
          have p2 := phB_yes e2
          have hq := bIx_lt N' HN8 k hlt j hlt2 (by omega)
          have b1 := rgB_at HRL.out (k := bIx N' k j) (by rw [HG3.out]; exact hq)
          have b2 := rgB_at HRM.out (k := bIx N' k j) (by rw [HG5.out]; exact hq)
          have HV1 : Hid (vgP N' l k j = vPh l (bIx N' k j)) := if_neg (by omega)
          have HV2 : Hid (vgP N' m k j = vPh m (bIx N' k j)) := if_neg (by omega)
          have HSN : Hid (rstL N' l m ph ((bp N').take (bIx N' k (j + 1))) = mxI (rstL N' l m ph ((bp N').take (bIx N' k j))) (near (vPh l (bIx N' k j)) ((vPh m (bIx N' k j) + pAt ph j - pAt ph k) % 360))) := by
            show _ = _
            rw [bIx_succ (by omega), bp_take HN8 (by omega) hlt2, rstL_snoc]; rfl
          have HGN : Hid (goodTo ph ((bp N').take (bIx N' k (j + 1)))) := by
            show goodTo _ _
            rw [bIx_succ (by omega), bp_take HN8 (by omega) hlt2]
            exact goodTo_snoc HGO.out e1 e2
          clear e1 e2 he
          go_wp2_with (go_at_call 60; refine (l2Phase_any _ _).mono ?_; rintro e w' ⟨rfl, rfl⟩; first | rw [E1.out] | rw [E2.out])
          have f1 : IntKind.i64.wrap (vPh m (bIx N' k j) + pAt ph j) = vPh m (bIx N' k j) + pAt ph j := IntWalk.i64_in _ (by omega)
          have f2 : IntKind.i64.wrap (vPh m (bIx N' k j) + pAt ph j - pAt ph k) = vPh m (bIx N' k j) + pAt ph j - pAt ph k := IntWalk.i64_in _ (by omega)
          have F1 := Lib.hid f1
          have F2 := Lib.hid f2
          have hfl := fieldV
          clear f1 f2
          go_region_held3 (fun w' => w'.cell? ⟨gc, oc + k, none⟩ = some (.int .i64 (pAt ph k)) ∧ w'.cell? ⟨gc, oc + j, none⟩ = some (.int .i64 (pAt ph j))) (exact ⟨(HW3.out.ext (HE.out.trans (by repeat (first | (with_reducible exact Ext.refl _) | (with_reducible assumption) | (with_reducible refine Ext.drew ?_) | (with_reducible refine Ext.alloc ?_ _))))).cell (ints_at' (some_pAt (l := ph) (k := k) (by rw [HP.out]; omega))), (HW3.out.ext (HE.out.trans (by repeat (first | (with_reducible exact Ext.refl _) | (with_reducible assumption) | (with_reducible refine Ext.drew ?_) | (with_reducible refine Ext.alloc ?_ _))))).cell (ints_at' (some_pAt (l := ph) (k := j) (by rw [HP.out]; omega)))⟩)
            (first
              | (go_at_call 67; refine (l11Get_any N' A2 n2 c2 m k j _ HN8 hlt hlt2 (by omega) HG5.out (by omega) HRM.out (HW2.out.ext (HE.out.trans (by repeat (first | (with_reducible exact Ext.refl _) | (with_reducible assumption) | (with_reducible refine Ext.drew ?_) | (with_reducible refine Ext.alloc ?_ _)))))).mono ?_; rintro e w3 ⟨rfl, x3⟩; rw [HV2.out]; have E3 : Ext wr w3 := Ext.trans (by repeat (first | (with_reducible exact Ext.refl _) | (with_reducible assumption) | (with_reducible refine Ext.drew ?_) | (with_reducible refine Ext.alloc ?_ _))) x3; have f1 := F1.out; have f2 := F2.out)
              | (go_at_call 66; refine (specPhaseOf_any _ _).mono ?_; rintro e w' ⟨rfl, rfl⟩))
          all_goals go_wp2_with fail
          all_goals (refine (l11Get_any N' A1 n1 c1 l k j _ HN8 hlt hlt2 (by omega) HG3.out (by omega) HRL.out (HW.out.ext (HE.out.trans (by repeat (first | (with_reducible exact Ext.refl _) | (with_reducible assumption) | (with_reducible refine Ext.drew ?_) | (with_reducible refine Ext.alloc ?_ _)))))).mono ?_; rintro e w4 ⟨rfl, x4⟩; rw [HV1.out]; have E4 : Ext wr w4 := Ext.trans (by repeat (first | (with_reducible exact Ext.refl _) | (with_reducible assumption) | (with_reducible refine Ext.drew ?_) | (with_reducible refine Ext.alloc ?_ _))) x4)
          all_goals go_wp2_with (go_at_call 82; refine (specPhaseNear_any _ _ _ (by omega) (by omega) (by omega) (by omega)).mono ?_; rintro e w' ⟨rfl, rfl⟩)
          all_goals go_roundw
          all_goals first
            | exact ⟨j + 1, by omega, by omega, by go_num, by rw [HSN.out]; rfl, HGN.out, HE.out.trans (by repeat (first | (with_reducible exact Ext.refl _) | (with_reducible assumption) | (with_reducible refine Ext.drew ?_) | (with_reducible refine Ext.alloc ?_ _)))⟩
            | (simp [intOf]; omega)
        · have e : j = N' := by omega
          rw [e, bIx_last HN8 hlt]
          rw [e, bIx_last HN8 hlt] at hgo
          have hd : decide (j < N') = false := by simpa using hlt2
          have HGO := Lib.hid hgo
          clear hgo e
          go_wp2
          go_roundw
          case rel => exact ⟨k + 1, by omega, by go_num, rfl, HGO.out, he⟩
          case measure => simp [intOf]; omega
    · have e : k = N' := by omega
      rw [e, row_end N' HN8] at hgo
      rw [e, row_end N' HN8, List.take_of_length_le (by rw [bp_length N' HN8]; exact Nat.le_refl _)]
      rw [List.take_of_length_le (by rw [bp_length N' HN8]; exact Nat.le_refl _)] at hgo
      have HF : Hid (srF (N' : Int) l m ph = rstL N' l m ph (bp N')) := by
        show _ = _
        unfold srF
        rw [if_pos (HSR.out.trans (goodTo_all g1 HN8 (by rw [HP.out]; omega) hgo))]; rfl
      clear hgo e
      go_wp2
      go_ret
      exact ⟨ret_int HF.out.symm, he⟩
set_option maxRecDepth 100000 in
set_option maxHeartbeats 2000000 in
theorem specSolvePhases_any (n : Int) (A1 A2 : Option Addr) (n1 c1 n2 c2 : Nat) (l m : VL) (w : World) (hl : l.length = n1) (hm : m.length = n2)
    (z1 : n1 ≤ 1048576) (z2 : n2 ≤ 1048576) (r1 : Rd w w.heap.size A1 n1 c1 (pairs l)) (r2 : Rd w w.heap.size A2 n2 c2 (pairs m)) :
    Calls Try.prog 35 #[.int .i64 n, .slice A1 n1 c1, .slice A2 n2 c2] w (RetSB w 3 (spL n l m).length (ints (spL n l m)) (spB n l m)) := by
  have HT := Lib.hid (l15Two_any n A1 A2 n1 c1 n2 c2 l m w hl (by omega) r1 hm (by omega) r2)
  rcases h1 : (visB n l && visB n m) with _ | _
  · rw [h1] at HT
    have HB : Hid (spB n l m = false) := by show _ = _; simp [spB, h1]
    have HL : Hid (spL n l m = []) := by show _ = _; simp [spL, HB.out]
    clear hl hm h1
    go_enter Try.func35, Try.ntmps35
    go_wp2_with fail
    refine HT.out.mono ?_
    rintro e w1 ⟨rfl, q, rfl⟩
    go_wp2
    go_ret2
    rw [HB.out]
    exact RetSB.nil (by rw [HL.out]; rfl) (by rw [HL.out]; rfl) (((Ext.refl w).drewN q).alloc _)
  rw [h1] at HT
  have h1' := h1
  simp only [Bool.and_eq_true] at h1'
  obtain ⟨N, rfl, g1, g2, g3, g4⟩ := visB_parts h1'.1
  obtain ⟨N', e, _, _, g5, g6⟩ := visB_parts h1'.2
  obtain rfl : N' = N := by omega
  have HRL := Lib.hid g4
  have HRM := Lib.hid g6
  have HG3 := Lib.hid g3
  have HG5 := Lib.hid g5
  have hn1 : nb N' ≤ n1 := by omega
  have hn2 : nb N' ≤ n2 := by omega
  have hn1' : n1 ≤ nb N' := by omega
  have hn2' : n2 ≤ nb N' := by omega
  have HL := Lib.hid hl
  have HM := Lib.hid hm
  have HW := Lib.hid r1
  have HW2 := Lib.hid r2
  have HN8 : N' < 8 := by omega
  have HSR : Hid (srF (N' : Int) l m (soL N' l m N') = rstL N' l m (soL N' l m N') (bp N')) := by
    show _ = _
    unfold srF
    rw [if_pos (by simp [srB, h1'.1, h1'.2, soL_length, soL_phs])]; rfl
  have HSB : Hid (spB (N' : Int) l m = decide (rstL N' l m (soL N' l m N') (bp N') = 0)) := by
    show _ = _
    simp [spB, h1'.1, h1'.2]
  clear e h1 h1' g3 g4 g5 g6 hl hm r1 r2
  go_enter Try.func35, Try.ntmps35
  go_wp2_with fail
  refine HT.out.mono ?_
  rintro e w1 ⟨rfl, q, rfl⟩
  go_wp2_with fail
  go_loopw [8, 9] (fun v i wr => ∃ k : Nat, 1 ≤ k ∧ k ≤ N' ∧ i = .int .i64 k ∧ wr.ownsRow w.heap.size 3 1 v k (ints (soL N' l m k)) ∧ Ext w wr) (fun _ i _ => N' - (intOf i).toNat)
  case atStart => exact ⟨1, Nat.le_refl _, by omega, rfl, World.ownsRow_lit (w.drewN q) #[.int .i64 0] 1 (Nat.le_refl _) (by simp [maxLen]) rfl, ((Ext.refl w).drewN q).alloc _⟩
  case round =>
    obtain ⟨k, hk1, hk2, rfl, hs, he⟩ := hrel
    by_cases hlt : k < N'
    · have h2 : (k : Int) < (N' : Int) := by omega
      have hq := bIx_lt N' HN8 0 (by omega) k hlt (by omega)
      have b1 := rgB_at HRL.out (k := bIx N' 0 k) (by rw [HG3.out]; exact hq)
      have b2 := rgB_at HRM.out (k := bIx N' 0 k) (by rw [HG5.out]; exact hq)
      have HV1 : Hid (vgP N' l 0 k = vPh l (bIx N' 0 k)) := if_neg (by omega)
      have HV2 : Hid (vgP N' m 0 k = vPh m (bIx N' 0 k)) := if_neg (by omega)
      have hsz := he.size
      have HSN : Hid (soL N' l m (k + 1) = soL N' l m k ++ [(vPh l (bIx N' 0 k) - vPh m (bIx N' 0 k)) % 360]) := by
        show _ = _
        rw [soL_succ]; congr 2; unfold soT; rw [if_neg (by omega)]
      have hfl := fieldV
      have HO := Lib.hid hs
      have HE := Lib.hid he
      clear hs he
      go_wp2_with fail
      refine (l11Get_any N' A1 n1 c1 l 0 k _ HN8 (by omega) hlt (by omega) HG3.out (by omega) HRL.out (HW.out.ext HE.out)).mono ?_
      rintro e w3 ⟨rfl, x3⟩
      rw [HV1.out]
      have e3 := HE.out.trans x3
      go_wp2_with fail
      refine (l11Get_any N' A2 n2 c2 m 0 k _ HN8 (by omega) hlt (by omega) HG5.out (by omega) HRM.out (HW2.out.ext e3)).mono ?_
      rintro e w4 ⟨rfl, x4⟩
      rw [HV2.out]
      have e4 := e3.trans x4
      have hs4 := own_ext HO.out (x3.trans x4)
      have hz4 := e4.size
      go_wp2_with (first | (go_at_call 66; refine (specPhaseOf_any _ _).mono ?_; rintro e w' ⟨rfl, rfl⟩) | (at_builtin; refine wpList_append1 (w := w4) rfl _ _ _ rfl w.heap.size 3 (.int .i64 0) 8 I.infoInt Try.underlying38 rfl _ k _ (by rfl) hs4 (.int .i64 ((vPh l (bIx N' 0 k) - vPh m (bIx N' 0 k)) % 360)) rfl rfl (by omega) (by omega) hz4 ?_; intro v' w' hs' he'))
      go_roundw
      case rel => exact ⟨k + 1, by omega, by omega, by go_num, by rw [HSN.out, ← ints_append]; exact hs', he' w e4 (Nat.le_refl _)⟩
      case measure => simp [intOf]; omega
    · have e : k = N' := by omega
      rw [e] at hs
      obtain ⟨A', c', hv, hs'⟩ := Sl.of_own hs
      subst hv
      rw [e]
      have hd : decide (N' < N') = false := by simp
      clear e hs
      go_wp2_with fail
      refine (specSolveRest_any (N' : Int) A1 A2 A' n1 c1 n2 c2 N' c' l m (soL N' l m N') _ HL.out HM.out (soL_length _ _ _ _) z1 z2 (by omega) (HW.out.ext he) (HW2.out.ext he) hs'.rd).mono ?_
      rintro e w3 ⟨rfl, x3⟩
      rw [HSR.out]
      have HX := Lib.hid (he.trans x3)
      have HS3 := Lib.hid (hs'.ext x3)
      by_cases h0 : rstL N' l m (soL N' l m N') (bp N') = 0
      · have HB : Hid (spB (N' : Int) l m = true) := by show _ = _; rw [HSB.out]; simpa using h0
        have HL2 : Hid (spL (N' : Int) l m = soL N' l m N') := by show _ = _; unfold spL; rw [if_pos HB.out]; rfl
        have h0' : (rstL N' l m (soL N' l m N') (bp N') != 0) = false := by simpa using h0
        clear h0 hs' he x3
        go_wp2
        go_ret2
        rw [HB.out]
        exact RetSB.mk' (by rw [HL2.out, soL_length]) (by rw [HL2.out]) HS3.out (Nat.le_refl _) HX.out
      · have HB : Hid (spB (N' : Int) l m = false) := by show _ = _; rw [HSB.out]; simpa using h0
        have HL2 : Hid (spL (N' : Int) l m = []) := by show _ = _; unfold spL; rw [HB.out]; rfl
        have h0' : (rstL N' l m (soL N' l m N') (bp N') != 0) = true := by simpa using h0
        clear h0 hs' he x3
        go_wp2
        go_ret2
        rw [HB.out]
        exact RetSB.nil (by rw [HL2.out]; rfl) (by rw [HL2.out]; rfl) (HX.out.alloc _)
end Go.Proofs.Ytpjglnmnfmibnab
