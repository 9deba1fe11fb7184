/-
  The walk of FnRedundantSpread: it returns true and writes nothing that was there.
-/
import Derived.Test.YtebjdchfofhmhaaRedL
import Derived.Test.YtebjdchfofhmhaaDrawRS
namespace Go.Proofs.Ytebjdchfofhmhaa.fnRedundantSpread
open Go.RowKit
set_option linter.unusedVariables false
attribute [local go_sem] eqVis_run

set_option maxRecDepth 100000 in
set_option maxHeartbeats 1000000 in
theorem walk (A0 : Option Addr) (n0 c0 : Nat) (b0 : List Int) (w : World) (hn0 : b0.length = n0) (hm0 : n0 ≤ 9223372036854775807) (h0 : Rd w w.heap.size A0 n0 c0 (b0.map (.int .u8))) (hw0 : ∀ z ∈ b0, 0 ≤ z ∧ z ≤ 255) :
    Calls Try.prog 5 #[.slice A0 n0 c0] w fun e w' => e = .returned (.bool true) ∧ Ext w w' := by
  have HN0 := Lib.hid hn0
  have HW0 := Lib.hid hw0
  clear hn0 hw0
  by_cases hz0 : n0 ≤ 1048576
  case neg =>
    go_enter Try.func5, Try.ntmps5
    go_wp2
    go_ret
    exact ⟨rfl, Ext.refl _⟩
  go_enter Try.func5, Try.ntmps5
  go_wp2_with fail
  refine (drawRedundantSpread_any A0 n0 c0 b0 _ HN0.out hm0 h0 HW0.out).mono ?_
  rintro e w1 ⟨A1, n1, c1, l, A2, n2, c2, v, rfl, hl, a1, hv, a2, r1, r2, x1⟩
  have HIM := Lib.hid (fun W (x : Ext w1 W) => redundantSpread_any A1 A2 n1 c1 n2 c2 l v W hl hv (by omega) (by omega) (r1.ext x) (r2.ext x))
  have HSP := Lib.hid (fun W (x : Ext w1 W) => specSpread_any A1 A2 n1 c1 n2 c2 l v W hl hv (by omega) (by omega) (r1.ext x) (r2.ext x))
  have E := Lib.hid x1
  have hs := rsO_short l v
  clear x1
  rcases hB : rsB l v with _ | _
  · rw [hB] at HIM HSP
    clear hB hl hv r1 r2
    generalize rsO l v = L at *
    go_wp2_with fail
    refine (HIM.out _ (Ext.refl _)).mono ?_
    rintro e w2 ⟨A_o, c_o, rfl, s_o, x2⟩
    go_wp2_with fail
    refine (HSP.out _ x2).mono ?_
    rintro e w3 ⟨A_w, c_w, rfl, s_w, x3⟩
    replace s_o := s_o.ext x3
    go_wp2_with fail
    refine (sameVis_any A_o A_w L.length L.length c_o c_w L L _ rfl rfl (by omega) s_o.rd s_w.rd).mono ?_
    rintro e w4 ⟨rfl, y4⟩
    replace s_o := s_o.ext y4.ext
    replace s_w := s_w.ext y4.ext
    rw [show decide (L = L) = true from decide_eq_true rfl]
    go_wp2_with fail
    refine (sameVis_any A_o A_w L.length L.length c_o c_w L L _ rfl rfl (by omega) s_o.rd s_w.rd).mono ?_
    rintro e w5 ⟨rfl, y5⟩
    rw [show decide (L = L) = true from decide_eq_true rfl]
    go_wp2
    go_ret
    exact ⟨rfl, (((E.out.trans x2).trans x3).trans y4.ext).trans y5.ext⟩
  have hRO := rsO_yes hB
  obtain ⟨hA, hvl, hrg⟩ := rsB_parts hB
  have HFT := Lib.hid (rs_fits hB)
  have hVS := rs_vis hB
  rw [hB, hRO] at HIM HSP
  rw [hl] at hVS hvl
  have hML : (rsL l v).length = nb n1 := by rw [rsL_length, hl]
  rw [hML] at HIM HSP
  have HML := Lib.hid hML
  have HV2 : Hid (n2 = nb n1) := by show _ = _; omega
  have hnb := nb_le n1 (by omega)
  have HGR := Lib.hid (fun W (x : Ext w1 W) => redundantGroups_any A1 n1 c1 l W hl hA (r1.ext x))
  have HFI : Hid (∀ (W : World) (A : Option Addr) (c : Nat), Ext w1 W → Rd W W.heap.size A (nb n1) c (pairs (rsL l v)) → Calls Try.prog 14 #[.slice A1 n1 c1, .slice A (nb n1) c] W fun e w' => e = .returned (.bool true) ∧ Ext W w') := fun W A c x h => by
    have := redundantFits_any A1 A n1 c1 (nb n1) c l (rsL l v) W hl HML.out (by omega) (by omega) (r1.ext x) h
    rwa [HFT.out] at this
  have HVV : Hid (∀ (W : World) (A : Option Addr) (c : Nat), Rd W W.heap.size A (nb n1) c (pairs (rsL l v)) → Calls Try.prog 25 #[.int .i64 (n1 : Int), .slice A (nb n1) c] W fun e w' => e = .returned (.bool true) ∧ Ext W w') := fun W A c h => by
    have := visValid_any (n1 : Int) A (nb n1) c (rsL l v) W HML.out (by omega) h
    rwa [hVS] at this
  have HGL : Hid (∀ k, k < nb n1 → (grL l)[k]? = some ((grp (bvec l) k : Nat) : Int)) := fun k h => grL_at (by rw [hl]; exact h)
  have HFS : Hid (∀ k, k < nb n1 → grp (bvec l) k = k → ∃ a b, (rsL l v)[k]? = some (a, b) ∧ v[k]? = some (a, b)) := fun k h e =>
    ⟨(vAt v k).1, (vAt v k).2, by rw [at_vAt (l := rsL l v) (k := k) (by omega), rs_first (by rw [hl]; exact h) e], by rw [at_vAt (l := v) (k := k) (by omega)]⟩
  have HR2 := Lib.hid r2
  clear hB hRO hl hv r1 r2 hA hvl hrg hVS hML hs
  generalize rsL l v = L at *
  generalize grL l = gl at *
  generalize nb n1 = M at *
  generalize bvec l = f at *
  go_wp2_with fail
  refine (HIM.out _ (Ext.refl _)).mono ?_
  rintro e w2 ⟨A_o, c_o, rfl, s_o, x2⟩
  go_wp2_with fail
  refine (HSP.out _ x2).mono ?_
  rintro e w3 ⟨A_w, c_w, rfl, s_w, x3⟩
  replace s_o := s_o.ext x3
  go_wp2_with fail
  refine (sameVis_any A_o A_w M M c_o c_w L L _ HML.out HML.out (by omega) s_o.rd s_w.rd).mono ?_
  rintro e w4 ⟨rfl, y4⟩
  replace s_o := s_o.ext y4.ext
  have E4 := (x2.trans x3).trans y4.ext
  rw [show decide (L = L) = true from decide_eq_true rfl]
  clear x2 x3 y4 s_w
  go_wp2_with fail
  refine (HGR.out _ E4).mono ?_
  rintro e w5 ⟨A_g, c_g, rfl, s_g, x5⟩
  replace s_o := s_o.ext x5
  have E5 := E4.trans x5
  have r2 := HR2.out.ext E5
  clear E4 x5
  go_wp2_with fail
  go_loopw [10] (fun i wr => ∃ k : Nat, k ≤ M ∧ i = .int .i64 k ∧ Quiet w5 wr) (fun i _ => M - (intOf i).toNat)
  case atStart => exact ⟨0, Nat.zero_le _, rfl, Quiet.refl _⟩
  case round =>
    obtain ⟨k, hk, rfl, hq⟩ := hrel
    by_cases hlt : k < M
    · have h2 : (k : Int) < (M : Int) := by omega
      have h20 : (0 : Int) ≤ (k : Int) := by omega
      have h22 : (k : Int) < (n2 : Int) := by rw [HV2.out]; omega
      have hgk := HGL.out k hlt
      obtain ⟨gg, og, rfl⟩ := s_g.rd.addr (by rw [ints_length]; have := lt_of_at hgk; omega)
      have hcg := (hq.cell _).trans (s_g.cell (ints_at' hgk))
      by_cases hgr : grp f k = k
      · obtain ⟨a, b, e1, e2⟩ := HFS.out k hlt hgr
        obtain ⟨go, oo, rfl⟩ := s_o.rd.addr (by rw [pairs_length, HML.out]; omega)
        obtain ⟨gv, ov, rfl⟩ := r2.addr (by rw [pairs_length]; have := lt_of_at e2; omega)
        have hc0 := (hq.cell _).trans (s_o.fst e1)
        have hc1 := (hq.cell _).trans (s_o.snd e1)
        have hd0 := (hq.cell _).trans (r2.fst e2)
        have hd1 := (hq.cell _).trans (r2.snd e2)
        rw [hgr] at hcg
        clear e1 e2 hgk
        go_wp2_with fail
        refine wp_region_quiet_lit (by kernel_rfl) (by kernel_rfl) ?_
        iterate 17 (go_big_quiet_step (fail))
        refine wpQuiet_nil ?_
        rintro _ ⟨nq, rfl⟩
        go_wp2
        go_roundw
        case rel => exact ⟨k + 1, by omega, by go_num, hq.drewN _⟩
        case measure => simp [intOf]; omega
      · have hgb : (((grp f k : Nat) : Int) == (k : Int)) = false := by simp; omega
        have hgb2 : ¬ (((grp f k : Nat) : Int) = (k : Int)) := by omega
        clear hgk
        generalize grp f k = m at *
        go_wp2_with fail
        refine wp_region_quiet_lit (by kernel_rfl) (by kernel_rfl) ?_
        iterate 17 (go_big_quiet_step (fail))
        refine wpQuiet_nil ?_
        rintro _ ⟨nq, rfl⟩
        go_wp2
        go_roundw
        case rel => exact ⟨k + 1, by omega, by go_num, hq.drewN _⟩
        case measure => simp [intOf]; omega
    · have e : k = M := by omega
      have hd : decide (k < M) = false := by simpa using hlt
      have hdi : ¬ (k : Int) < (M : Int) := by omega
      have E6 := E5.trans hq.ext
      have s6 := s_o.ext hq.ext
      clear e
      go_wp2_with fail
      refine (HFI.out _ _ _ E6 s6.rd).mono ?_
      rintro e w7 ⟨rfl, x7⟩
      go_wp2_with fail
      refine (HVV.out _ _ _ (s6.ext x7).rd).mono ?_
      rintro e w8 ⟨rfl, x8⟩
      go_wp2
      go_ret
      exact ⟨rfl, ((E.out.trans E6).trans x7).trans x8⟩
end Go.Proofs.Ytebjdchfofhmhaa.fnRedundantSpread
