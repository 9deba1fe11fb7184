/-
  The walk of FnDirtyTransform: it returns true and writes nothing that was there.
-/
import Derived.Test.YtohbflekinafjabDirty
import Derived.Test.YtohbflekinafjabDrawDi
import Derived.Test.YtohbflekinafjabDirtyLaws
import Derived.Test.YtohbflekinafjabFlags
import Derived.Test.YtohbflekinafjabDrawC
import Derived.Test.YtohbflekinafjabDirtyTr
import Derived.Test.YtohbflekinafjabGridC
namespace Go.Proofs.Ytohbflekinafjab.fnDirtyTransform
open Go.RowKit
set_option linter.unusedVariables false

set_option maxRecDepth 100000 in
set_option maxHeartbeats 8000000 in
theorem walk (A0 : Option Addr) (n0 c0 : Nat) (b0 : List Int) (w : World) (hn0 : b0.length = n0) (hm0 : n0 ≤ 9223372036854775807) (h0 : Rd w w.heap.size A0 n0 c0 (b0.map (.int .u8))) (hw0 : ∀ z ∈ b0, 0 ≤ z ∧ z ≤ 255) :
    Calls Try.prog 6 #[.slice A0 n0 c0] w fun e w' => e = .returned (.bool true) ∧ Ext w w' := by
  have HN0 := Lib.hid hn0
  have HW0 := Lib.hid hw0
  clear hn0 hw0
  by_cases hz0 : n0 ≤ 1048576
  case neg =>
    go_enter Try.func6, Try.ntmps6
    go_wp2
    go_ret
    exact ⟨rfl, Ext.refl _⟩
  go_enter Try.func6, Try.ntmps6
  go_wp2_with fail
  refine (drawDirtyOf_any A0 n0 c0 b0 _ HN0.out hm0 h0 HW0.out).mono ?_
  rintro e w1 ⟨A_s, n_s, c_s, s, A_c, n_c, c_c, c, rfl, hl_s, hb_s, hl_c, hb_c, s_s, s_c, x1⟩
  have HL_s := Lib.hid hl_s
  clear hl_s
  have HL_c := Lib.hid hl_c
  clear hl_c
  have E := x1
  have hdl := doL_length s c
  rcases hv : dokB s c with _ | _
  case false =>
    go_wp2_with fail
    refine (dirtyOf_any A_s A_c n_s n_c c_s c_c s c _ HL_s.out HL_c.out s_s.rd s_c.rd).mono ?_
    rintro e w2 ⟨A_out, c_out, rfl, s_out, x2⟩
    replace s_s := s_s.ext x2
    replace s_c := s_c.ext x2
    replace E := E.trans x2
    go_wp2_with fail
    refine (specDirtyOf_any A_s A_c n_s n_c c_s c_c s c _ HL_s.out HL_c.out (by omega) s_s.rd s_c.rd).mono ?_
    rintro e w3 ⟨A_want, c_want, rfl, s_want, x3⟩
    replace s_s := s_s.ext x3
    replace s_c := s_c.ext x3
    replace s_out := s_out.ext x3
    replace E := E.trans x3
    go_wp2_with fail
    refine (sameInts_any A_out A_want (doL s c).length (doL s c).length c_out c_want (doL s c) (doL s c) _ rfl rfl (by omega) s_out.rd s_want.rd).mono ?_
    rintro e w4 ⟨rfl, y4⟩
    have x4 := y4.ext
    replace s_s := s_s.ext x4
    replace s_c := s_c.ext x4
    replace s_out := s_out.ext x4
    replace s_want := s_want.ext x4
    replace E := E.trans x4
    go_wp2_with fail
    refine (sameInts_any A_out A_want (doL s c).length (doL s c).length c_out c_want (doL s c) (doL s c) _ rfl rfl (by omega) s_out.rd s_want.rd).mono ?_
    rintro e w5 ⟨rfl, y5⟩
    have x5 := y5.ext
    replace s_s := s_s.ext x5
    replace s_c := s_c.ext x5
    replace s_out := s_out.ext x5
    replace s_want := s_want.ext x5
    replace E := E.trans x5
    go_wp2
    go_ret
    exact ⟨rfl, E⟩
  obtain ⟨vs, vc, vd⟩ := dokB_parts hv
  go_wp2_with fail
  refine (dirtyOf_any A_s A_c n_s n_c c_s c_c s c _ HL_s.out HL_c.out s_s.rd s_c.rd).mono ?_
  rintro e w6 ⟨A_out, c_out, rfl, s_out, x6⟩
  replace s_s := s_s.ext x6
  replace s_c := s_c.ext x6
  replace E := E.trans x6
  go_wp2_with fail
  refine (specDirtyOf_any A_s A_c n_s n_c c_s c_c s c _ HL_s.out HL_c.out (by omega) s_s.rd s_c.rd).mono ?_
  rintro e w7 ⟨A_want, c_want, rfl, s_want, x7⟩
  replace s_s := s_s.ext x7
  replace s_c := s_c.ext x7
  replace s_out := s_out.ext x7
  replace E := E.trans x7
  go_wp2_with fail
  refine (sameInts_any A_out A_want (doL s c).length (doL s c).length c_out c_want (doL s c) (doL s c) _ rfl rfl (by omega) s_out.rd s_want.rd).mono ?_
  rintro e w8 ⟨rfl, y8⟩
  have x8 := y8.ext
  replace s_s := s_s.ext x8
  replace s_c := s_c.ext x8
  replace s_out := s_out.ext x8
  replace s_want := s_want.ext x8
  replace E := E.trans x8
  clear s_want
  have HD := Lib.hid (doL_yes hv)
  have HV := Lib.hid hv
  clear hv
  obtain rfl : n_s = 16 := by rw [← HL_s.out, svB_16 vs]
  have HN1 : Hid ((doL s c).length = 16) := by show _ = _; rw [HD.out, dirtL_length']
  rw [HN1.out] at s_out
  rw [HN1.out]
  have HT := Lib.hid (trans_at vs vc HD.out)
  have HM := Lib.hid (seenG vs vc)
  have HL := Lib.hid (maskL_length (skyG_length s) (cvB_16 vc))
  have HG := Lib.hid (tsL_yes vs)
  have VD : Hid (svB (doL s c) = true) := by show _ = _; rw [HD.out]; exact vd
  have HZ := Lib.hid (tsL_yes VD.out)
  have VS := Lib.hid vs
  clear vs vc vd hdl
  go_wp2_with fail
  refine (skyTransform_any A_s 16 c_s s _ HL_s.out s_s.rd).mono ?_
  rintro e w9 ⟨A_g, c_g, rfl, s_g, x9⟩
  replace s_s := s_s.ext x9
  replace s_c := s_c.ext x9
  replace s_out := s_out.ext x9
  replace E := E.trans x9
  have HGL : Hid ((tsL s).length = 16) := by show _ = _; rw [HG.out, skyG_length]
  rw [HGL.out] at s_g
  rw [HGL.out, VS.out]
  go_wp2_with fail
  refine (gridMask_any A_g A_c 16 n_c c_g c_c (tsL s) c _ (by rw [HG.out, skyG_length]) HL_c.out s_g.rd s_c.rd).mono ?_
  rintro e w10 ⟨A_m, c_m, rfl, s_m, x10⟩
  replace s_s := s_s.ext x10
  replace s_c := s_c.ext x10
  replace s_out := s_out.ext x10
  replace s_g := s_g.ext x10
  replace E := E.trans x10
  rw [HM.out.2]
  rw [HM.out.1, HL.out] at s_m ⊢
  clear s_g
  clear s_c
  clear s_s
  go_wp2_with fail
  refine (skyTransform_any A_out 16 c_out (doL s c) _ HN1.out s_out.rd).mono ?_
  rintro e w11 ⟨A_z, c_z, rfl, s_z, x11⟩
  replace s_out := s_out.ext x11
  replace s_m := s_m.ext x11
  replace E := E.trans x11
  rw [VD.out]
  rw [HZ.out, skyG_length] at s_z ⊢
  clear s_out
  obtain ⟨g_m, o_m, ea_m, _, _, _⟩ := s_m.addr (by rw [pairs_length, HL.out]; omega)
  obtain rfl := ea_m
  obtain ⟨g_z, o_z, ea_z, _, _, _⟩ := s_z.addr (by rw [pairs_length, skyG_length]; omega)
  obtain rfl := ea_z
  go_wp2_with fail
  go_loopw [16] (fun i wr => ∃ k : Nat, k ≤ 16 ∧ i = .int .i64 k ∧ Ext w11 wr) (fun i _ => 16 - (intOf i).toNat)
  case atStart => exact ⟨0, Nat.zero_le _, rfl, Ext.refl _⟩
  case round =>
    obtain ⟨k, hk, rfl, hq⟩ := hrel
    by_cases hlt : k < 16
    · skip
      obtain ⟨p, q, ⟨b1, b2⟩, ⟨b3, b4⟩, hm, hz⟩ := HT.out k hlt
      have SM := Lib.hid (s_m.ext hq)
      have SZ := Lib.hid (s_z.ext hq)
      have KM := Lib.hid hm
      have KZ := Lib.hid hz
      have m0 := SM.out.fst KM.out
      have m1 := SM.out.snd KM.out
      have z0 := SZ.out.fst KZ.out
      have z1 := SZ.out.snd KZ.out
      have h2 : (k : Int) < 16 := by omega
      have h3 : (0 : Int) ≤ (k : Int) := by omega
      have f1 : IntKind.i64.wrap (16 * p) = 16 * p := IntWalk.i64_in _ (by omega)
      have f2 : IntKind.i64.wrap (16 * q) = 16 * q := IntWalk.i64_in _ (by omega)
      have hne := neqGauss (16 * p) (16 * q)
      clear hm hz
      go_wp2_with fail
      go_region_held3 (fun w' => w'.cell? ⟨g_m, o_m + k * 2, none⟩ = some (.int .i64 p) ∧ w'.cell? ⟨g_m, o_m + k * 2 + 1, none⟩ = some (.int .i64 q) ∧ w'.cell? ⟨g_z, o_z + k * 2, none⟩ = some (.int .i64 (16 * p)) ∧ w'.cell? ⟨g_z, o_z + k * 2 + 1, none⟩ = some (.int .i64 (16 * q))) (exact ⟨(SM.out.ext (by repeat (first | (with_reducible exact Ext.refl _) | (with_reducible assumption) | (with_reducible refine Ext.drew ?_) | (with_reducible refine Ext.alloc ?_ _)))).fst KM.out, (SM.out.ext (by repeat (first | (with_reducible exact Ext.refl _) | (with_reducible assumption) | (with_reducible refine Ext.drew ?_) | (with_reducible refine Ext.alloc ?_ _)))).snd KM.out, (SZ.out.ext (by repeat (first | (with_reducible exact Ext.refl _) | (with_reducible assumption) | (with_reducible refine Ext.drew ?_) | (with_reducible refine Ext.alloc ?_ _)))).fst KZ.out, (SZ.out.ext (by repeat (first | (with_reducible exact Ext.refl _) | (with_reducible assumption) | (with_reducible refine Ext.drew ?_) | (with_reducible refine Ext.alloc ?_ _)))).snd KZ.out⟩)
        (first | (go_at_call 17; refine (lawGauss_ext _ _ _).mono ?_; rintro e w' ⟨rfl, y'⟩; have E' : Ext wr w' := Ext.trans (by repeat (first | (with_reducible exact Ext.refl _) | (with_reducible assumption) | (with_reducible refine Ext.drew ?_) | (with_reducible refine Ext.alloc ?_ _))) y'))
      all_goals go_wp2
      all_goals go_roundw
      all_goals first | exact ⟨k + 1, by omega, by go_num, hq.trans (by repeat (first | (with_reducible exact Ext.refl _) | (with_reducible assumption) | (with_reducible refine Ext.drew ?_) | (with_reducible refine Ext.alloc ?_ _)))⟩ | (simp [intOf]; omega)
    · skip
      replace E := E.trans hq
      go_wp2
      all_goals (go_ret; exact ⟨rfl, E⟩)
end Go.Proofs.Ytohbflekinafjab.fnDirtyTransform
