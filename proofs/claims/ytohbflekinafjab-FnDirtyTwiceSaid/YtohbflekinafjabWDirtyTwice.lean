/-
  The walk of FnDirtyTwice: it returns true and writes nothing that was there.
-/
import Derived.Test.YtohbflekinafjabDirty
import Derived.Test.YtohbflekinafjabDrawDi
import Derived.Test.YtohbflekinafjabDirtyLaws
import Derived.Test.YtohbflekinafjabFlags
import Derived.Test.YtohbflekinafjabDrawC
namespace Go.Proofs.Ytohbflekinafjab.fnDirtyTwice
open Go.RowKit
set_option linter.unusedVariables false

set_option maxRecDepth 100000 in
set_option maxHeartbeats 8000000 in
theorem walk (A0 : Option Addr) (n0 c0 : Nat) (b0 : List Int) (w : World) (hn0 : b0.length = n0) (hm0 : n0 ≤ 9223372036854775807) (h0 : Rd w w.heap.size A0 n0 c0 (b0.map (.int .u8))) (hw0 : ∀ z ∈ b0, 0 ≤ z ∧ z ≤ 255) :
    Calls Try.prog 3 #[.slice A0 n0 c0] w fun e w' => e = .returned (.bool true) ∧ Ext w w' := by
  have HN0 := Lib.hid hn0
  have HW0 := Lib.hid hw0
  clear hn0 hw0
  by_cases hz0 : n0 ≤ 1048576
  case neg =>
    go_enter Try.func3, Try.ntmps3
    go_wp2
    go_ret
    exact ⟨rfl, Ext.refl _⟩
  go_enter Try.func3, Try.ntmps3
  go_wp2_with fail
  refine (drawDirtyOf_any A0 n0 c0 b0 _ HN0.out hm0 h0 HW0.out).mono ?_
  rintro e w1 ⟨A_s, n_s, c_s, s, A_c, n_c, c_c, c, rfl, hl_s, hb_s, hl_c, hb_c, s_s, s_c, x1⟩
  have HL_s := Lib.hid hl_s
  clear hl_s
  have HL_c := Lib.hid hl_c
  clear hl_c
  have E := x1
  have hdl := doL_length s c
  rcases hv : dokB s c with _ | _
  case false =>
    go_wp2_with fail
    refine (dirtyOf_any A_s A_c n_s n_c c_s c_c s c _ HL_s.out HL_c.out s_s.rd s_c.rd).mono ?_
    rintro e w2 ⟨A_out, c_out, rfl, s_out, x2⟩
    replace s_s := s_s.ext x2
    replace s_c := s_c.ext x2
    replace E := E.trans x2
    go_wp2_with fail
    refine (specDirtyOf_any A_s A_c n_s n_c c_s c_c s c _ HL_s.out HL_c.out (by omega) s_s.rd s_c.rd).mono ?_
    rintro e w3 ⟨A_want, c_want, rfl, s_want, x3⟩
    replace s_s := s_s.ext x3
    replace s_c := s_c.ext x3
    replace s_out := s_out.ext x3
    replace E := E.trans x3
    go_wp2_with fail
    refine (sameInts_any A_out A_want (doL s c).length (doL s c).length c_out c_want (doL s c) (doL s c) _ rfl rfl (by omega) s_out.rd s_want.rd).mono ?_
    rintro e w4 ⟨rfl, y4⟩
    have x4 := y4.ext
    replace s_s := s_s.ext x4
    replace s_c := s_c.ext x4
    replace s_out := s_out.ext x4
    replace s_want := s_want.ext x4
    replace E := E.trans x4
    go_wp2_with fail
    refine (sameInts_any A_out A_want (doL s c).length (doL s c).length c_out c_want (doL s c) (doL s c) _ rfl rfl (by omega) s_out.rd s_want.rd).mono ?_
    rintro e w5 ⟨rfl, y5⟩
    have x5 := y5.ext
    replace s_s := s_s.ext x5
    replace s_c := s_c.ext x5
    replace s_out := s_out.ext x5
    replace s_want := s_want.ext x5
    replace E := E.trans x5
    go_wp2
    go_ret
    exact ⟨rfl, E⟩
  obtain ⟨vs, vc, vd⟩ := dokB_parts hv
  go_wp2_with fail
  refine (dirtyOf_any A_s A_c n_s n_c c_s c_c s c _ HL_s.out HL_c.out s_s.rd s_c.rd).mono ?_
  rintro e w6 ⟨A_out, c_out, rfl, s_out, x6⟩
  replace s_s := s_s.ext x6
  replace s_c := s_c.ext x6
  replace E := E.trans x6
  go_wp2_with fail
  refine (specDirtyOf_any A_s A_c n_s n_c c_s c_c s c _ HL_s.out HL_c.out (by omega) s_s.rd s_c.rd).mono ?_
  rintro e w7 ⟨A_want, c_want, rfl, s_want, x7⟩
  replace s_s := s_s.ext x7
  replace s_c := s_c.ext x7
  replace s_out := s_out.ext x7
  replace E := E.trans x7
  go_wp2_with fail
  refine (sameInts_any A_out A_want (doL s c).length (doL s c).length c_out c_want (doL s c) (doL s c) _ rfl rfl (by omega) s_out.rd s_want.rd).mono ?_
  rintro e w8 ⟨rfl, y8⟩
  have x8 := y8.ext
  replace s_s := s_s.ext x8
  replace s_c := s_c.ext x8
  replace s_out := s_out.ext x8
  replace s_want := s_want.ext x8
  replace E := E.trans x8
  clear s_want
  have HD := Lib.hid (doL_yes hv)
  have HV := Lib.hid hv
  clear hv
  clear hdl
  by_cases hx : dokB (doL s c) c = true
  case neg =>
    replace hx := Bool.eq_false_iff.mpr hx
    have HE := Lib.hid (doL_no hx)
    go_wp2_with fail
    refine (dirtyOf_any A_out A_c (doL s c).length n_c c_out c_c (doL s c) c _ rfl HL_c.out s_out.rd s_c.rd).mono ?_
    rintro e w9 ⟨A_x, c_x, rfl, s_x, x9⟩
    replace s_s := s_s.ext x9
    replace s_c := s_c.ext x9
    replace s_out := s_out.ext x9
    replace E := E.trans x9
    rw [HE.out]
    go_wp2_with fail
    go_loopw [11] (fun i wr => i = .int .i64 0 ∧ Ext w9 wr) (fun i _ => 0)
    case atStart => exact ⟨rfl, Ext.refl _⟩
    case round =>
      obtain ⟨rfl, hq⟩ := hrel
      go_wp2
      go_ret
      exact ⟨rfl, E.trans hq⟩
  have HX := Lib.hid (doL_yes hx)
  have HT := Lib.hid (twice_at vs vc HD.out hx)
  have HN1 : Hid ((doL s c).length = 16) := by show _ = _; rw [HD.out, dirtL_length']
  have HN2 : Hid ((doL (doL s c) c).length = 16) := by show _ = _; rw [HX.out, dirtL_length']
  have vo := svB_IB vd
  rw [← HD.out] at vo
  have VO := Lib.hid vo
  have HXB := Lib.hid hx
  clear hx vo
  go_wp2_with fail
  refine (dirtyOf_any A_out A_c (doL s c).length n_c c_out c_c (doL s c) c _ rfl HL_c.out s_out.rd s_c.rd).mono ?_
  rintro e w10 ⟨A_x, c_x, rfl, s_x, x10⟩
  replace s_s := s_s.ext x10
  replace s_c := s_c.ext x10
  replace s_out := s_out.ext x10
  replace E := E.trans x10
  rw [HN1.out] at s_out
  rw [HN2.out] at s_x
  rw [HXB.out, HN1.out, HN2.out]
  obtain ⟨g_x, o_x, ea_x, _, _, _⟩ := s_x.addr (by rw [ints_length]; rw [HN2.out]; omega)
  obtain rfl := ea_x
  obtain ⟨g_out, o_out, ea_out, _, _, _⟩ := s_out.addr (by rw [ints_length]; rw [HN1.out]; omega)
  obtain rfl := ea_out
  go_wp2_with fail
  go_loopw [11] (fun i wr => ∃ k : Nat, k ≤ 16 ∧ i = .int .i64 k ∧ Ext w10 wr) (fun i _ => 16 - (intOf i).toNat)
  case atStart => exact ⟨0, Nat.zero_le _, rfl, Ext.refl _⟩
  case round =>
    obtain ⟨k, hk, rfl, hq⟩ := hrel
    by_cases hlt : k < 16
    · skip
      have ca_x := (s_x.ext hq).cell (ints_a0 (s := (doL (doL s c) c)) (k := k) (by rw [HN2.out]; omega))
      have ca_out := (s_out.ext hq).cell (ints_a0 (s := (doL s c)) (k := k) (by rw [HN1.out]; omega))
      have h2 : (k : Int) < (16 : Nat) := by omega
      have h3 : (0 : Int) ≤ (k : Int) := by omega
      obtain ⟨q1, q2⟩ := VO.out k
      have ht := HT.out k hlt
      have f1 : IntKind.i64.wrap (at0 (doL s c) k * 4) = at0 (doL s c) k * 4 := IntWalk.i64_in _ (by omega)
      have f2 : IntKind.i64.wrap (at0 (doL s c) k * 4 * 4) = at0 (doL (doL s c) c) k := by rw [IntWalk.i64_in _ (by omega), ht]
      clear ht
      go_wp2_with fail
      go_quiet (fail)
      clear f1 f2
      go_wp2
      go_roundw
      case rel => exact ⟨k + 1, by omega, by go_num, hq.drewN _⟩
      case measure => simp [intOf]; omega
    · skip
      replace E := E.trans hq
      replace s_s := s_s.ext hq
      replace s_c := s_c.ext hq
      replace s_out := s_out.ext hq
      replace s_x := s_x.ext hq
      go_wp2
      all_goals (go_ret; exact ⟨rfl, E⟩)
end Go.Proofs.Ytohbflekinafjab.fnDirtyTwice
