/-
  The walk of FnDirtySameHoles: it returns true and writes nothing that was there.
-/
import Derived.Test.YtohbflekinafjabDirtyS
import Derived.Test.YtohbflekinafjabDrawDS
import Derived.Test.YtohbflekinafjabDirtyLaws
import Derived.Test.YtohbflekinafjabFlags
import Derived.Test.YtohbflekinafjabDrawC
import Derived.Test.YtohbflekinafjabDirtyTr
import Derived.Test.YtohbflekinafjabSkyFns
namespace Go.Proofs.Ytohbflekinafjab.fnDirtySameHoles
open Go.RowKit
set_option linter.unusedVariables false

set_option maxRecDepth 100000 in
set_option maxHeartbeats 8000000 in
theorem walk (A0 : Option Addr) (n0 c0 : Nat) (b0 : List Int) (w : World) (hn0 : b0.length = n0) (hm0 : n0 ≤ 9223372036854775807) (h0 : Rd w w.heap.size A0 n0 c0 (b0.map (.int .u8))) (hw0 : ∀ z ∈ b0, 0 ≤ z ∧ z ≤ 255) :
    Calls Try.prog 7 #[.slice A0 n0 c0] w fun e w' => e = .returned (.bool true) ∧ Ext w w' := by
  have HN0 := Lib.hid hn0
  have HW0 := Lib.hid hw0
  clear hn0 hw0
  by_cases hz0 : n0 ≤ 1048576
  case neg =>
    go_enter Try.func7, Try.ntmps7
    go_wp2
    go_ret
    exact ⟨rfl, Ext.refl _⟩
  go_enter Try.func7, Try.ntmps7
  go_wp2_with fail
  refine (drawDirtySame_any A0 n0 c0 b0 _ HN0.out hm0 h0 HW0.out).mono ?_
  rintro e w1 ⟨A_a, n_a, c_a, a, A_b, n_b, c_b, b, A_c, n_c, c_c, c, rfl, hl_a, hb_a, hl_b, hb_b, hl_c, hb_c, s_a, s_b, s_c, x1⟩
  have HL_a := Lib.hid hl_a
  clear hl_a
  have HL_b := Lib.hid hl_b
  clear hl_b
  have HL_c := Lib.hid hl_c
  clear hl_c
  have E := x1
  rcases hv : dsB a b c with _ | _
  case false =>
    have HV := Lib.hid hv
    clear hv
    go_wp2_with fail
    refine (dirtySame_any A_a A_b A_c n_a n_b n_c c_a c_b c_c a b c _ HL_a.out HL_b.out HL_c.out s_a.rd s_b.rd s_c.rd).mono ?_
    rintro e w2 ⟨rfl, x2⟩
    replace s_a := s_a.ext x2
    replace s_b := s_b.ext x2
    replace s_c := s_c.ext x2
    replace E := E.trans x2
    rw [HV.out]
    go_wp2_with fail
    refine (specDirtySame_any A_a A_b A_c n_a n_b n_c c_a c_b c_c a b c _ HL_a.out HL_b.out HL_c.out (by omega) (by omega) s_a.rd s_b.rd s_c.rd).mono ?_
    rintro e w3 ⟨rfl, x3⟩
    replace s_a := s_a.ext x3
    replace s_b := s_b.ext x3
    replace s_c := s_c.ext x3
    replace E := E.trans x3
    rw [HV.out]
    go_wp2
    go_ret
    exact ⟨rfl, E⟩
  have HV := Lib.hid hv
  clear hv
  go_wp2_with fail
  refine (dirtySame_any A_a A_b A_c n_a n_b n_c c_a c_b c_c a b c _ HL_a.out HL_b.out HL_c.out s_a.rd s_b.rd s_c.rd).mono ?_
  rintro e w4 ⟨rfl, x4⟩
  replace s_a := s_a.ext x4
  replace s_b := s_b.ext x4
  replace s_c := s_c.ext x4
  replace E := E.trans x4
  rw [HV.out]
  go_wp2_with fail
  refine (specDirtySame_any A_a A_b A_c n_a n_b n_c c_a c_b c_c a b c _ HL_a.out HL_b.out HL_c.out (by omega) (by omega) s_a.rd s_b.rd s_c.rd).mono ?_
  rintro e w5 ⟨rfl, x5⟩
  replace s_a := s_a.ext x5
  replace s_b := s_b.ext x5
  replace s_c := s_c.ext x5
  replace E := E.trans x5
  rw [HV.out]
  have HZ := Lib.hid (ds_zeros HV.out)
  have HH := Lib.hid (ds_all HV.out)
  have hsl := saL_length b a (-1)
  have hmb := make16D
  rcases hk : saOk b a (-1) with _ | _
  case false =>
    have HK := Lib.hid hk
    clear hk
    go_wp2_with fail
    refine (skyAdd_any A_b A_a n_b n_a c_b c_a b a (-1) _ HL_b.out HL_a.out s_b.rd s_a.rd).mono ?_
    rintro e w6 ⟨A_x, c_x, rfl, s_x, x6⟩
    replace s_a := s_a.ext x6
    replace s_b := s_b.ext x6
    replace s_c := s_c.ext x6
    replace E := E.trans x6
    rw [HK.out]
    have HE := Lib.hid (saL_no HK.out)
    rw [HE.out] at s_x ⊢
    go_wp2_with fail
    refine (skyTransform_any A_x 0 c_x [] _ rfl s_x.rd).mono ?_
    rintro e w7 ⟨A_g, c_g, rfl, s_g, x7⟩
    replace s_a := s_a.ext x7
    replace s_b := s_b.ext x7
    replace s_c := s_c.ext x7
    replace s_x := s_x.ext x7
    replace E := E.trans x7
    rw [svB_nil]
    rw [tsL_nil] at s_g ⊢
    clear s_x
    clear s_g
    go_wp2_with fail
    go_loopw [12] (fun i wr => i = .int .i64 0 ∧ Ext w7 wr) (fun i _ => 0)
    case atStart => exact ⟨rfl, Ext.refl _⟩
    case round =>
      obtain ⟨rfl, hq⟩ := hrel
      replace s_a := s_a.ext hq
      replace s_b := s_b.ext hq
      replace s_c := s_c.ext hq
      replace E := E.trans hq
      go_wp2_with fail
      obtain ⟨s_z, b8⟩ := Ext.madeB E
      replace s_a := s_a.ext b8
      replace s_b := s_b.ext b8
      replace s_c := s_c.ext b8
      replace E := E.trans b8
      refine (dirtySame_any A_a A_b _ n_a n_b 16 c_a c_b 16 a b zeros16 _ HL_a.out HL_b.out zeros16_length s_a.rd s_b.rd s_z.rd).mono ?_
      rintro e w9 ⟨rfl, x9⟩
      replace E := E.trans x9
      rw [HZ.out]
      go_wp2
      go_ret
      exact ⟨rfl, E⟩
  have HK := Lib.hid hk
  clear hk
  go_wp2_with fail
  refine (skyAdd_any A_b A_a n_b n_a c_b c_a b a (-1) _ HL_b.out HL_a.out s_b.rd s_a.rd).mono ?_
  rintro e w10 ⟨A_x, c_x, rfl, s_x, x10⟩
  replace s_a := s_a.ext x10
  replace s_b := s_b.ext x10
  replace s_c := s_c.ext x10
  replace E := E.trans x10
  rw [HK.out]
  have HE := Lib.hid (saL_yes HK.out)
  rw [HE.out.1] at s_x ⊢
  rw [addL_length] at s_x ⊢
  go_wp2_with fail
  refine (skyTransform_any A_x 16 c_x (addL b a (-1)) _ (addL_length _ _ _) s_x.rd).mono ?_
  rintro e w11 ⟨A_g, c_g, rfl, s_g, x11⟩
  replace s_a := s_a.ext x11
  replace s_b := s_b.ext x11
  replace s_c := s_c.ext x11
  replace s_x := s_x.ext x11
  replace E := E.trans x11
  rw [HE.out.2]
  rw [tsL_yes HE.out.2, skyG_length] at s_g ⊢
  clear s_x
  obtain ⟨g_g, o_g, ea_g, _, _, _⟩ := s_g.addr (by rw [pairs_length, skyG_length]; omega)
  obtain rfl := ea_g
  obtain rfl : n_c = 16 := by rw [← HL_c.out]; exact HH.out.1
  obtain ⟨g_c, o_c, ea_c, _, _, _⟩ := s_c.addr (by rw [bools_length, HL_c.out]; omega)
  obtain rfl := ea_c
  go_wp2_with fail
  go_loopw [12] (fun i wr => ∃ k : Nat, k ≤ 16 ∧ i = .int .i64 k ∧ Ext w11 wr) (fun i _ => 16 - (intOf i).toNat)
  case atStart => exact ⟨0, Nat.zero_le _, rfl, Ext.refl _⟩
  case round =>
    obtain ⟨k, hk, rfl, hq⟩ := hrel
    by_cases hlt : k < 16
    · skip
      obtain ⟨bb, hbb⟩ := at_of_lt (l := c) (k := k) (by rw [HL_c.out]; exact hlt)
      obtain ⟨⟨p, q⟩, hz⟩ := at_of_lt (l := skyG (addL b a (-1))) (k := k) (by rw [skyG_length]; exact hlt)
      have hbz := HH.out.2 k hlt
      have SC := Lib.hid (s_c.ext hq)
      have SZ := Lib.hid (s_g.ext hq)
      have KZ := Lib.hid hz
      have KC := Lib.hid hbb
      have c0 := SC.out.cell (bools_at KC.out)
      have z0 := SZ.out.fst KZ.out
      have z1 := SZ.out.snd KZ.out
      have h2 : (k : Int) < 16 := by omega
      have h3 : (0 : Int) ≤ (k : Int) := by omega
      cases bb
      · skip
        clear hz hbb hbz
        go_wp2_with fail
        go_quiet (fail)
        go_wp2
        go_roundw
        case rel => exact ⟨k + 1, by omega, by go_num, hq.drewN _⟩
        case measure => simp [intOf]; omega
      · skip
        have hpq := hbz hbb
        rw [hz] at hpq
        simp only [Option.some.injEq, Prod.mk.injEq] at hpq
        obtain ⟨rfl, rfl⟩ := hpq
        have hne := neqGauss 0 0
        clear hz hbb hbz
        go_wp2_with fail
        go_region_held3 (fun w' => w'.cell? ⟨g_c, o_c + k, none⟩ = some (.bool true) ∧ w'.cell? ⟨g_g, o_g + k * 2, none⟩ = some (.int .i64 0) ∧ w'.cell? ⟨g_g, o_g + k * 2 + 1, none⟩ = some (.int .i64 0)) (exact ⟨(SC.out.ext (by repeat (first | (with_reducible exact Ext.refl _) | (with_reducible assumption) | (with_reducible refine Ext.drew ?_) | (with_reducible refine Ext.alloc ?_ _)))).cell (bools_at KC.out), (SZ.out.ext (by repeat (first | (with_reducible exact Ext.refl _) | (with_reducible assumption) | (with_reducible refine Ext.drew ?_) | (with_reducible refine Ext.alloc ?_ _)))).fst KZ.out, (SZ.out.ext (by repeat (first | (with_reducible exact Ext.refl _) | (with_reducible assumption) | (with_reducible refine Ext.drew ?_) | (with_reducible refine Ext.alloc ?_ _)))).snd KZ.out⟩)
          (first | (go_at_call 17; refine (lawGauss_ext _ _ _).mono ?_; rintro e w' ⟨rfl, y'⟩; have E' : Ext wr w' := Ext.trans (by repeat (first | (with_reducible exact Ext.refl _) | (with_reducible assumption) | (with_reducible refine Ext.drew ?_) | (with_reducible refine Ext.alloc ?_ _))) y'))
        all_goals go_wp2
        all_goals go_roundw
        all_goals first | exact ⟨k + 1, by omega, by go_num, hq.trans (by repeat (first | (with_reducible exact Ext.refl _) | (with_reducible assumption) | (with_reducible refine Ext.drew ?_) | (with_reducible refine Ext.alloc ?_ _)))⟩ | (simp [intOf]; omega)
    · skip
      clear s_g
      replace s_a := s_a.ext hq
      replace s_b := s_b.ext hq
      replace s_c := s_c.ext hq
      replace E := E.trans hq
      go_wp2_with fail
      obtain ⟨s_z, b12⟩ := Ext.madeB E
      replace s_a := s_a.ext b12
      replace s_b := s_b.ext b12
      replace s_c := s_c.ext b12
      replace E := E.trans b12
      refine (dirtySame_any A_a A_b _ n_a n_b 16 c_a c_b 16 a b zeros16 _ HL_a.out HL_b.out zeros16_length s_a.rd s_b.rd s_z.rd).mono ?_
      rintro e w13 ⟨rfl, x13⟩
      replace E := E.trans x13
      rw [HZ.out]
      go_wp2
      go_ret
      exact ⟨rfl, E⟩
end Go.Proofs.Ytohbflekinafjab.fnDirtySameHoles
