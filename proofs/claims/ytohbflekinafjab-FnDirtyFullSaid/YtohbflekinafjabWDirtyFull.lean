/-
  The walk of FnDirtyFull: it returns true and writes nothing that was there.
-/
import Derived.Test.YtohbflekinafjabDirty
import Derived.Test.YtohbflekinafjabDrawDi
import Derived.Test.YtohbflekinafjabDirtyLaws
import Derived.Test.YtohbflekinafjabFlags
import Derived.Test.YtohbflekinafjabDrawC
namespace Go.Proofs.Ytohbflekinafjab.fnDirtyFull
open Go.RowKit
set_option linter.unusedVariables false

set_option maxRecDepth 100000 in
set_option maxHeartbeats 8000000 in
theorem walk (A0 : Option Addr) (n0 c0 : Nat) (b0 : List Int) (w : World) (hn0 : b0.length = n0) (hm0 : n0 ≤ 9223372036854775807) (h0 : Rd w w.heap.size A0 n0 c0 (b0.map (.int .u8))) (hw0 : ∀ z ∈ b0, 0 ≤ z ∧ z ≤ 255) :
    Calls Try.prog 4 #[.slice A0 n0 c0] w fun e w' => e = .returned (.bool true) ∧ Ext w w' := by
  have HN0 := Lib.hid hn0
  have HW0 := Lib.hid hw0
  clear hn0 hw0
  by_cases hz0 : n0 ≤ 1048576
  case neg =>
    go_enter Try.func4, Try.ntmps4
    go_wp2
    go_ret
    exact ⟨rfl, Ext.refl _⟩
  go_enter Try.func4, Try.ntmps4
  go_wp2_with fail
  refine (drawDirtyOf_any A0 n0 c0 b0 _ HN0.out hm0 h0 HW0.out).mono ?_
  rintro e w1 ⟨A_s, n_s, c_s, s, A_c, n_c, c_c, c, rfl, hl_s, hb_s, hl_c, hb_c, s_s, s_c, x1⟩
  have HL_s := Lib.hid hl_s
  clear hl_s
  have HL_c := Lib.hid hl_c
  clear hl_c
  have E := x1
  have hdl := doL_length s c
  rcases hv : dokB s c with _ | _
  case false =>
    go_wp2_with fail
    refine (dirtyOf_any A_s A_c n_s n_c c_s c_c s c _ HL_s.out HL_c.out s_s.rd s_c.rd).mono ?_
    rintro e w2 ⟨A_out, c_out, rfl, s_out, x2⟩
    replace s_s := s_s.ext x2
    replace s_c := s_c.ext x2
    replace E := E.trans x2
    go_wp2_with fail
    refine (specDirtyOf_any A_s A_c n_s n_c c_s c_c s c _ HL_s.out HL_c.out (by omega) s_s.rd s_c.rd).mono ?_
    rintro e w3 ⟨A_want, c_want, rfl, s_want, x3⟩
    replace s_s := s_s.ext x3
    replace s_c := s_c.ext x3
    replace s_out := s_out.ext x3
    replace E := E.trans x3
    go_wp2_with fail
    refine (sameInts_any A_out A_want (doL s c).length (doL s c).length c_out c_want (doL s c) (doL s c) _ rfl rfl (by omega) s_out.rd s_want.rd).mono ?_
    rintro e w4 ⟨rfl, y4⟩
    have x4 := y4.ext
    replace s_s := s_s.ext x4
    replace s_c := s_c.ext x4
    replace s_out := s_out.ext x4
    replace s_want := s_want.ext x4
    replace E := E.trans x4
    go_wp2_with fail
    refine (sameInts_any A_out A_want (doL s c).length (doL s c).length c_out c_want (doL s c) (doL s c) _ rfl rfl (by omega) s_out.rd s_want.rd).mono ?_
    rintro e w5 ⟨rfl, y5⟩
    have x5 := y5.ext
    replace s_s := s_s.ext x5
    replace s_c := s_c.ext x5
    replace s_out := s_out.ext x5
    replace s_want := s_want.ext x5
    replace E := E.trans x5
    go_wp2
    go_ret
    exact ⟨rfl, E⟩
  obtain ⟨vs, vc, vd⟩ := dokB_parts hv
  go_wp2_with fail
  refine (dirtyOf_any A_s A_c n_s n_c c_s c_c s c _ HL_s.out HL_c.out s_s.rd s_c.rd).mono ?_
  rintro e w6 ⟨A_out, c_out, rfl, s_out, x6⟩
  replace s_s := s_s.ext x6
  replace s_c := s_c.ext x6
  replace E := E.trans x6
  go_wp2_with fail
  refine (specDirtyOf_any A_s A_c n_s n_c c_s c_c s c _ HL_s.out HL_c.out (by omega) s_s.rd s_c.rd).mono ?_
  rintro e w7 ⟨A_want, c_want, rfl, s_want, x7⟩
  replace s_s := s_s.ext x7
  replace s_c := s_c.ext x7
  replace s_out := s_out.ext x7
  replace E := E.trans x7
  go_wp2_with fail
  refine (sameInts_any A_out A_want (doL s c).length (doL s c).length c_out c_want (doL s c) (doL s c) _ rfl rfl (by omega) s_out.rd s_want.rd).mono ?_
  rintro e w8 ⟨rfl, y8⟩
  have x8 := y8.ext
  replace s_s := s_s.ext x8
  replace s_c := s_c.ext x8
  replace s_out := s_out.ext x8
  replace s_want := s_want.ext x8
  replace E := E.trans x8
  clear s_want
  have HD := Lib.hid (doL_yes hv)
  have HV := Lib.hid hv
  clear hv
  clear s_out
  clear s_c
  obtain rfl : n_s = 16 := by rw [← HL_s.out, svB_16 vs]
  have HZ := Lib.hid (dok_zeros vs)
  have vo := svB_IB vs
  have VO := Lib.hid vo
  have VS := Lib.hid vs
  clear vo vs vc vd hdl
  have hmk := makeInts16
  have hmb := make16D
  go_wp2_with fail
  refine (fullCover_any _).mono ?_
  rintro e w9 ⟨A_f, c_f, rfl, s_f, x9⟩
  replace s_s := s_s.ext x9
  replace E := E.trans x9
  have hl2 := doL_length s full16
  rcases hx : dokB s full16 with _ | _
  case false =>
    have HE := Lib.hid (doL_no hx)
    have HXF := Lib.hid hx
    go_wp2_with fail
    refine (dirtyOf_any A_s A_f 16 16 c_s c_f s full16 _ HL_s.out (by decide) s_s.rd s_f.rd).mono ?_
    rintro e w10 ⟨A_x, c_x, rfl, s_x, x10⟩
    replace s_s := s_s.ext x10
    replace s_f := s_f.ext x10
    replace E := E.trans x10
    rw [HXF.out, HE.out]
    clear s_f
    obtain ⟨s_z, b11⟩ := Ext.madeB E
    replace s_s := s_s.ext b11
    replace s_x := s_x.ext b11
    replace E := E.trans b11
    go_wp2_with fail
    refine (dirtyOf_any A_s _ 16 16 c_s 16 s zeros16 _ HL_s.out zeros16_length s_s.rd s_z.rd).mono ?_
    rintro e w12 ⟨A_d, c_d, rfl, s_d, x12⟩
    replace s_s := s_s.ext x12
    replace s_x := s_x.ext x12
    replace s_z := s_z.ext x12
    replace E := E.trans x12
    rw [HZ.out.1]
    rw [HZ.out.2] at s_d ⊢
    go_wp2_with fail
    go_loopw [13] (fun i wr => i = .int .i64 0 ∧ Ext w12 wr) (fun i _ => 0)
    case atStart => exact ⟨rfl, Ext.refl _⟩
    case round =>
      obtain ⟨rfl, hq⟩ := hrel
      clear s_x
      replace s_s := s_s.ext hq
      replace s_z := s_z.ext hq
      replace s_d := s_d.ext hq
      replace E := E.trans hq
      go_wp2_with fail
      obtain ⟨s_e, b13⟩ := Ext.madeI E
      replace s_s := s_s.ext b13
      replace s_z := s_z.ext b13
      replace s_d := s_d.ext b13
      replace E := E.trans b13
      refine (sameInts_any A_d _ 16 16 c_d 16 zero16 zero16 _ rfl rfl (by omega) s_d.rd s_e.rd).mono ?_
      rintro e w14 ⟨rfl, y14⟩
      replace E := E.trans y14.ext
      go_wp2
      go_ret
      exact ⟨rfl, E⟩
  have HT := Lib.hid (full_at VS.out hx)
  have HXF := Lib.hid hx
  have hn2 : (doL s full16).length = 16 := by rw [doL_yes hx, dirtL_length']
  have HN2 := Lib.hid hn2
  clear hx hn2
  go_wp2_with fail
  refine (dirtyOf_any A_s A_f 16 16 c_s c_f s full16 _ HL_s.out (by decide) s_s.rd s_f.rd).mono ?_
  rintro e w15 ⟨A_x, c_x, rfl, s_x, x15⟩
  replace s_s := s_s.ext x15
  replace s_f := s_f.ext x15
  replace E := E.trans x15
  clear s_f
  rw [HXF.out]
  rw [HN2.out] at s_x ⊢
  obtain ⟨s_z, b16⟩ := Ext.madeB E
  replace s_s := s_s.ext b16
  replace s_x := s_x.ext b16
  replace E := E.trans b16
  go_wp2_with fail
  refine (dirtyOf_any A_s _ 16 16 c_s 16 s zeros16 _ HL_s.out zeros16_length s_s.rd s_z.rd).mono ?_
  rintro e w17 ⟨A_d, c_d, rfl, s_d, x17⟩
  replace s_s := s_s.ext x17
  replace s_x := s_x.ext x17
  replace s_z := s_z.ext x17
  replace E := E.trans x17
  rw [HZ.out.1]
  rw [HZ.out.2] at s_d ⊢
  obtain ⟨g_x, o_x, ea_x, _, _, _⟩ := s_x.addr (by rw [ints_length]; rw [HN2.out]; omega)
  obtain rfl := ea_x
  obtain ⟨g_s, o_s, ea_s, _, _, _⟩ := s_s.addr (by rw [ints_length]; rw [HL_s.out]; omega)
  obtain rfl := ea_s
  go_wp2_with fail
  go_loopw [13] (fun i wr => ∃ k : Nat, k ≤ 16 ∧ i = .int .i64 k ∧ Ext w17 wr) (fun i _ => 16 - (intOf i).toNat)
  case atStart => exact ⟨0, Nat.zero_le _, rfl, Ext.refl _⟩
  case round =>
    obtain ⟨k, hk, rfl, hq⟩ := hrel
    by_cases hlt : k < 16
    · skip
      have ca_x := (s_x.ext hq).cell (ints_a0 (s := (doL s full16)) (k := k) (by rw [HN2.out]; omega))
      have ca_s := (s_s.ext hq).cell (ints_a0 (s := s) (k := k) (by rw [HL_s.out]; omega))
      have h2 : (k : Int) < (16 : Nat) := by omega
      have h3 : (0 : Int) ≤ (k : Int) := by omega
      obtain ⟨q1, q2⟩ := VO.out k
      have ht := HT.out k hlt
      have f1 : IntKind.i64.wrap (at0 s k * 4) = at0 s k * 4 := IntWalk.i64_in _ (by omega)
      have f2 : IntKind.i64.wrap (at0 s k * 4 * 4) = at0 (doL s full16) k := by rw [IntWalk.i64_in _ (by omega), ht]
      clear ht
      go_wp2_with fail
      go_quiet (fail)
      clear f1 f2
      go_wp2
      go_roundw
      case rel => exact ⟨k + 1, by omega, by go_num, hq.drewN _⟩
      case measure => simp [intOf]; omega
    · skip
      replace E := E.trans hq
      replace s_s := s_s.ext hq
      replace s_x := s_x.ext hq
      replace s_z := s_z.ext hq
      replace s_d := s_d.ext hq
      go_wp2_with fail
      obtain ⟨s_e, b18⟩ := Ext.madeI E
      replace s_s := s_s.ext b18
      replace s_x := s_x.ext b18
      replace s_z := s_z.ext b18
      replace s_d := s_d.ext b18
      replace E := E.trans b18
      refine (sameInts_any A_d _ 16 16 c_d 16 zero16 zero16 _ rfl rfl (by omega) s_d.rd s_e.rd).mono ?_
      rintro e w19 ⟨rfl, y19⟩
      replace E := E.trans y19.ext
      go_wp2
      go_ret
      exact ⟨rfl, E⟩
end Go.Proofs.Ytohbflekinafjab.fnDirtyFull
