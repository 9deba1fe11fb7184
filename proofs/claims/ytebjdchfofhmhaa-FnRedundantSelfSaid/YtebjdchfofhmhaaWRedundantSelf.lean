/-
  The walk of FnRedundantSelf: it returns true and writes nothing that was there.
-/
import Derived.Test.YtebjdchfofhmhaaRedL
import Derived.Test.YtebjdchfofhmhaaDrawRS
import Derived.Test.YtebjdchfofhmhaaVisPt
namespace Go.Proofs.Ytebjdchfofhmhaa.fnRedundantSelf
open Go.RowKit
set_option linter.unusedVariables false
attribute [local go_sem] eqVis_run

set_option maxRecDepth 100000 in
set_option maxHeartbeats 1000000 in
theorem walk (A0 : Option Addr) (n0 c0 : Nat) (b0 : List Int) (w : World) (hn0 : b0.length = n0) (hm0 : n0 ≤ 9223372036854775807) (h0 : Rd w w.heap.size A0 n0 c0 (b0.map (.int .u8))) (hw0 : ∀ z ∈ b0, 0 ≤ z ∧ z ≤ 255) :
    Calls Try.prog 6 #[.slice A0 n0 c0] w fun e w' => e = .returned (.bool true) ∧ Ext w w' := by
  have HN0 := Lib.hid hn0
  have HW0 := Lib.hid hw0
  clear hn0 hw0
  by_cases hz0 : n0 ≤ 1048576
  case neg =>
    go_enter Try.func6, Try.ntmps6
    go_wp2
    go_ret
    exact ⟨rfl, Ext.refl _⟩
  go_enter Try.func6, Try.ntmps6
  go_wp2_with fail
  refine (drawRedundantSpread_any A0 n0 c0 b0 _ HN0.out hm0 h0 HW0.out).mono ?_
  rintro e w1 ⟨A1, n1, c1, l, A2, n2, c2, v, rfl, hl, a1, hv, a2, r1, r2, x1⟩
  have HIM := Lib.hid (fun W (x : Ext w1 W) => redundantSpread_any A1 A2 n1 c1 n2 c2 l v W hl hv (by omega) (by omega) (r1.ext x) (r2.ext x))
  have HSP := Lib.hid (fun W (x : Ext w1 W) => specSpread_any A1 A2 n1 c1 n2 c2 l v W hl hv (by omega) (by omega) (r1.ext x) (r2.ext x))
  have E := Lib.hid x1
  have hs := rsO_short l v
  clear x1
  rcases hB : rsB l v with _ | _
  · rw [hB] at HIM HSP
    clear hB hl hv r1 r2
    generalize rsO l v = L at *
    go_wp2_with fail
    refine (HIM.out _ (Ext.refl _)).mono ?_
    rintro e w2 ⟨A_o, c_o, rfl, s_o, x2⟩
    go_wp2_with fail
    refine (HSP.out _ x2).mono ?_
    rintro e w3 ⟨A_w, c_w, rfl, s_w, x3⟩
    replace s_o := s_o.ext x3
    go_wp2_with fail
    refine (sameVis_any A_o A_w L.length L.length c_o c_w L L _ rfl rfl (by omega) s_o.rd s_w.rd).mono ?_
    rintro e w4 ⟨rfl, y4⟩
    replace s_o := s_o.ext y4.ext
    replace s_w := s_w.ext y4.ext
    rw [show decide (L = L) = true from decide_eq_true rfl]
    go_wp2_with fail
    refine (sameVis_any A_o A_w L.length L.length c_o c_w L L _ rfl rfl (by omega) s_o.rd s_w.rd).mono ?_
    rintro e w5 ⟨rfl, y5⟩
    rw [show decide (L = L) = true from decide_eq_true rfl]
    go_wp2
    go_ret
    exact ⟨rfl, (((E.out.trans x2).trans x3).trans y4.ext).trans y5.ext⟩
  have hRO := rsO_yes hB
  obtain ⟨hA, hvl, hrg⟩ := rsB_parts hB
  have hVS := rs_vis hB
  rw [hB, hRO] at HIM HSP
  rw [hl] at hvl
  have hML : (rsL l v).length = nb n1 := by rw [rsL_length, hl]
  rw [hML] at HIM HSP
  have HML := Lib.hid hML
  have h7 := hA.seven
  have hnb := nb_le n1 (by omega)
  have hB2 : rsB l (rsL l v) = true := by simp only [rsB, Bool.and_eq_true]; exact ⟨hA.yes, hVS⟩
  have HR2 : Hid (∀ (W : World) (A : Option Addr) (c : Nat), Ext w1 W → Rd W W.heap.size A (nb n1) c (pairs (rsL l v)) → Calls Try.prog 18 #[.slice A1 n1 c1, .slice A (nb n1) c] W (RetSB W 44 (nb n1) (pairs (rsL l v)) true)) := fun W A c x h => by
    have := redundantSpread_any A1 A n1 c1 (nb n1) c l (rsL l v) W hl HML.out (by omega) (by omega) (r1.ext x) h
    rwa [hB2, rsO_yes hB2, rs_rs, HML.out] at this
  have HVP := Lib.hid (fun W (x : Ext w1 W) => visPoint_any A1 n1 c1 l W hl hA (r1.ext x))
  have hB3 : rsB l (vpL l (5, -7) 3) = true := by simp only [rsB, Bool.and_eq_true]; exact ⟨hA.yes, vp_vis hA _ (by omega) (by omega)⟩
  have HPL : Hid ((vpL l (5, -7) 3).length = nb n1) := by show _ = _; rw [vpL_length, hl]
  have HR3 : Hid (∀ (W : World) (A : Option Addr) (c : Nat), Ext w1 W → Rd W W.heap.size A (nb n1) c (pairs (vpL l (5, -7) 3)) → Calls Try.prog 18 #[.slice A1 n1 c1, .slice A (nb n1) c] W (RetSB W 44 (nb n1) (pairs (vpL l (5, -7) 3)) true)) := fun W A c x h => by
    have := redundantSpread_any A1 A n1 c1 (nb n1) c l (vpL l (5, -7) 3) W hl HPL.out (by omega) (by omega) (r1.ext x) h
    rwa [hB3, rsO_yes hB3, rs_vp, HPL.out] at this
  clear hB hRO hl hv r1 r2 hA hvl hrg hVS hML hs hB2 hB3 h7
  generalize rsL l v = L at *
  generalize vpL l (5, -7) 3 = Y at *
  generalize nb n1 = M at *
  go_wp2_with fail
  refine (HIM.out _ (Ext.refl _)).mono ?_
  rintro e w2 ⟨A_o, c_o, rfl, s_o, x2⟩
  go_wp2_with fail
  refine (HSP.out _ x2).mono ?_
  rintro e w3 ⟨A_w, c_w, rfl, s_w, x3⟩
  replace s_o := s_o.ext x3
  go_wp2_with fail
  refine (sameVis_any A_o A_w M M c_o c_w L L _ HML.out HML.out (by omega) s_o.rd s_w.rd).mono ?_
  rintro e w4 ⟨rfl, y4⟩
  replace s_o := s_o.ext y4.ext
  have E4 := (x2.trans x3).trans y4.ext
  rw [show decide (L = L) = true from decide_eq_true rfl]
  clear x2 x3 y4 s_w
  go_wp2_with fail
  refine (HR2.out _ _ _ E4 s_o.rd).mono ?_
  rintro e w5 ⟨A_x, c_x, rfl, s_x, x5⟩
  replace s_o := s_o.ext x5
  have E5 := E4.trans x5
  clear E4 x5
  go_wp2_with fail
  refine (HVP.out _ E5).mono ?_
  rintro e w6 ⟨A_y, c_y, rfl, s_y, x6⟩
  replace s_o := s_o.ext x6
  replace s_x := s_x.ext x6
  have E6 := E5.trans x6
  clear E5 x6
  go_wp2_with fail
  refine (HR3.out _ _ _ E6 s_y.rd).mono ?_
  rintro e w7 ⟨A_z, c_z, rfl, s_z, x7⟩
  replace s_o := s_o.ext x7
  replace s_x := s_x.ext x7
  replace s_y := s_y.ext x7
  have E7 := E6.trans x7
  clear E6 x7
  go_wp2_with fail
  refine (sameVis_any A_x A_o M M c_x c_o L L _ HML.out HML.out (by omega) s_x.rd s_o.rd).mono ?_
  rintro e w8 ⟨rfl, y8⟩
  replace s_y := s_y.ext y8.ext
  replace s_z := s_z.ext y8.ext
  have E8 := E7.trans y8.ext
  rw [show decide (L = L) = true from decide_eq_true rfl]
  clear E7 y8 s_x s_o
  go_wp2_with fail
  refine (sameVis_any A_y A_z M M c_y c_z Y Y _ HPL.out HPL.out (by omega) s_y.rd s_z.rd).mono ?_
  rintro e w9 ⟨rfl, y9⟩
  rw [show decide (Y = Y) = true from decide_eq_true rfl]
  go_wp2
  go_ret
  exact ⟨rfl, (E.out.trans E8).trans y9.ext⟩
end Go.Proofs.Ytebjdchfofhmhaa.fnRedundantSelf
