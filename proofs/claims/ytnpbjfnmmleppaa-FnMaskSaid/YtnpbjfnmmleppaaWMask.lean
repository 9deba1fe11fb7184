/-
  The walk of FnMask: it returns true and writes nothing that was there.
-/
import Derived.Test.YtnpbjfnmmleppaaGridM
import Derived.Test.YtnpbjfnmmleppaaDrawG
import Derived.Test.YtnpbjfnmmleppaaFlags
import Derived.Test.YtnpbjfnmmleppaaDrawC
import Derived.Test.YtnpbjfnmmleppaaCovB
import Derived.Test.YtnpbjfnmmleppaaQuietC
import Derived.Lib.QuietBelow
import Derived.BigQuiet
namespace Go.Proofs.Ytnpbjfnmmleppaa.fnMask
open Go.RowKit
set_option linter.unusedVariables false
theorem below_ext {w w' : World} (h : Below w.heap.size w w') : Ext w w' := ⟨h.os, h.tape, h.output, h.size, fun i hi _ => h.block i hi⟩
theorem ext_below {w w' : World} (h : Ext w w') : Below w.heap.size w w' := ⟨h.os, h.tape, h.output, h.size, fun i hi => Ext.block h hi⟩
set_option maxRecDepth 100000 in
set_option maxHeartbeats 2000000 in
theorem walk (A0 : Option Addr) (n0 c0 : Nat) (b0 : List Int) (w : World) (hn0 : b0.length = n0) (hm0 : n0 ≤ 9223372036854775807) (h0 : Rd w w.heap.size A0 n0 c0 (b0.map (.int .u8))) (hw0 : ∀ z ∈ b0, 0 ≤ z ∧ z ≤ 255) :
    Calls Try.prog 3 #[.slice A0 n0 c0] w fun e w' => e = .returned (.bool true) ∧ Ext w w' := by
  have HN0 := Lib.hid hn0
  have HW0 := Lib.hid hw0
  clear hn0 hw0
  by_cases hz0 : n0 ≤ 1048576
  case neg =>
    go_enter Try.func3, Try.ntmps3
    go_wp2
    go_ret
    exact ⟨rfl, Ext.refl _⟩
  go_enter Try.func3, Try.ntmps3
  go_wp2_with fail
  refine (drawGridMask_any A0 n0 c0 b0 _ HN0.out hm0 h0 HW0.out).mono ?_
  rintro e w1 ⟨A_g, n_g, c_g, g, A_c, n_c, c_c, c, rfl, hl_g, hb_g, hl_c, hb_c, s_g, s_c, x1⟩
  have HL_g := Lib.hid hl_g
  clear hl_g
  have HL_c := Lib.hid hl_c
  clear hl_c
  have E := x1
  have hml := gridMask_length g c
  rcases hv : (gridB g && cvB c) with _ | _
  case false =>
    have HV := Lib.hid hv
    clear hv
    go_wp2_with fail
    refine (gridMask_any A_g A_c n_g n_c c_g c_c g c _ HL_g.out HL_c.out s_g.rd s_c.rd).mono ?_
    rintro e w2 ⟨A_out, c_out, rfl, s_out, x2⟩
    replace s_g := s_g.ext x2
    replace s_c := s_c.ext x2
    replace E := E.trans x2
    rw [HV.out]
    go_wp2_with fail
    refine (specGridMask_any A_g A_c n_g n_c c_g c_c g c _ HL_g.out HL_c.out (by omega) s_g.rd s_c.rd).mono ?_
    rintro e w3 ⟨A_want, c_want, rfl, s_want, x3⟩
    replace s_g := s_g.ext x3
    replace s_c := s_c.ext x3
    replace s_out := s_out.ext x3
    replace E := E.trans x3
    rw [HV.out]
    go_wp2_with fail
    refine (sameGrid_any A_out A_want (gridMask g c).length (gridMask g c).length c_out c_want (gridMask g c) (gridMask g c) _ rfl rfl (by omega) s_out.rd s_want.rd).mono ?_
    rintro e w4 ⟨rfl, y4⟩
    have x4 := y4.ext
    replace s_g := s_g.ext x4
    replace s_c := s_c.ext x4
    replace s_out := s_out.ext x4
    replace s_want := s_want.ext x4
    replace E := E.trans x4
    go_wp2_with fail
    refine (sameGrid_any A_out A_want (gridMask g c).length (gridMask g c).length c_out c_want (gridMask g c) (gridMask g c) _ rfl rfl (by omega) s_out.rd s_want.rd).mono ?_
    rintro e w5 ⟨rfl, y5⟩
    have x5 := y5.ext
    replace s_g := s_g.ext x5
    replace s_c := s_c.ext x5
    replace s_out := s_out.ext x5
    replace s_want := s_want.ext x5
    replace E := E.trans x5
    go_wp2
    go_ret
    exact ⟨rfl, E⟩
  have HV := Lib.hid hv
  clear hv
  go_wp2_with fail
  refine (gridMask_any A_g A_c n_g n_c c_g c_c g c _ HL_g.out HL_c.out s_g.rd s_c.rd).mono ?_
  rintro e w6 ⟨A_out, c_out, rfl, s_out, x6⟩
  replace s_g := s_g.ext x6
  replace s_c := s_c.ext x6
  replace E := E.trans x6
  rw [HV.out]
  go_wp2_with fail
  refine (specGridMask_any A_g A_c n_g n_c c_g c_c g c _ HL_g.out HL_c.out (by omega) s_g.rd s_c.rd).mono ?_
  rintro e w7 ⟨A_want, c_want, rfl, s_want, x7⟩
  replace s_g := s_g.ext x7
  replace s_c := s_c.ext x7
  replace s_out := s_out.ext x7
  replace E := E.trans x7
  rw [HV.out]
  go_wp2_with fail
  refine (sameGrid_any A_out A_want (gridMask g c).length (gridMask g c).length c_out c_want (gridMask g c) (gridMask g c) _ rfl rfl (by omega) s_out.rd s_want.rd).mono ?_
  rintro e w8 ⟨rfl, y8⟩
  have x8 := y8.ext
  replace s_g := s_g.ext x8
  replace s_c := s_c.ext x8
  replace s_out := s_out.ext x8
  replace s_want := s_want.ext x8
  replace E := E.trans x8
  clear s_want
  have HP := Lib.hid (mask_parts HV.out)
  obtain rfl : n_g = 16 := by rw [← HL_g.out]; exact gridB_16 HP.out.1
  obtain rfl : n_c = 16 := by rw [← HL_c.out]; exact cvB_16 HP.out.2.1
  have HML : Hid ((maskL g c).length = 16) := maskL_length HL_g.out HL_c.out
  rw [HP.out.2.2, HML.out] at s_out
  rw [HP.out.2.2, HML.out]
  clear hml
  obtain ⟨g_g, o_g, ea_g, _, _, _⟩ := s_g.addr (by rw [pairs_length, HL_g.out]; omega)
  obtain rfl := ea_g
  obtain ⟨g_c, o_c, ea_c, _, _, _⟩ := s_c.addr (by rw [bools_length, HL_c.out]; omega)
  obtain rfl := ea_c
  obtain ⟨g_out, o_out, ea_out, _, _, _⟩ := s_out.addr (by rw [pairs_length, HML.out]; omega)
  obtain rfl := ea_out
  go_wp2_with fail
  go_loopw [9] (fun i wr => ∃ k : Nat, k ≤ 16 ∧ i = .int .i64 k ∧ Ext w8 wr) (fun i _ => 16 - (intOf i).toNat)
  case atStart => exact ⟨0, Nat.zero_le _, rfl, Ext.refl _⟩
  case round =>
    obtain ⟨k, hk, rfl, hq⟩ := hrel
    by_cases hlt : k < 16
    · skip
      obtain ⟨bb, hbb⟩ := at_of_lt (l := c) (k := k) (by rw [HL_c.out]; exact hlt)
      obtain ⟨⟨p, q⟩, hpq⟩ := at_of_lt (l := g) (k := k) (by rw [HL_g.out]; exact hlt)
      have hmk := maskL_at hpq hbb
      have SC := Lib.hid (s_c.ext hq)
      have SG := Lib.hid (s_g.ext hq)
      have SO := Lib.hid (s_out.ext hq)
      have KC := Lib.hid hbb
      have KG := Lib.hid hpq
      have c0 := SC.out.cell (bools_at KC.out)
      have y0 := SG.out.fst KG.out
      have y1 := SG.out.snd KG.out
      have h2 : (k : Int) < 16 := by omega
      have h3 : (0 : Int) ≤ (k : Int) := by omega
      clear hbb hpq
      cases bb
      · skip
        rw [if_neg (by decide)] at hmk
        have KO := Lib.hid hmk
        clear hmk
        have z0 := SO.out.fst KO.out
        have z1 := SO.out.snd KO.out
        have hne := neqG 0 0
        have q0 := cell_regrown c0
        have q1 := cell_regrown z0
        have q2 := cell_regrown z1
        have cQ : Hid (∀ d os, Calls Try.prog 8 #[.int .i64 0, .int .i64 0] (Go.Sort.grow (redrawn wr d) os) fun e w'' => e = .returned (.agg #[.int .i64 0, .int .i64 0]) ∧ ∃ p : Regrown, w'' = Go.Sort.grow (redrawn wr p.d) p.os) := fun d os => Calls.regrown_of ((lawGauss_x 0 0 _).mono fun _ _ h => ⟨h.1, ext_below h.2⟩)
        clear c0 y0 y1 z0 z1
        go_wp2_with fail
        refine wp_region_quiet_below (by kernel_rfl) (by kernel_rfl) ?_
        repeat (go_big_quiet_step (first | (go_at_call 8; exact cQ.out _ _)))
        refine wpQuiet_nil ?_
        intro _ hw'
        obtain ⟨⟨dq, osq⟩, hw''⟩ := hw'
        subst hw''
        have EX : Ext wr (Go.Sort.grow (redrawn wr dq) osq) := below_ext (below_regrown wr dq osq)
        clear q0 q1 q2 cQ
        generalize Go.Sort.grow (redrawn wr dq) osq = wq at *
        go_wp2
        go_roundw
        case rel => exact ⟨k + 1, by omega, by go_num, hq.trans EX⟩
        case measure => simp [intOf]; omega
      · skip
        rw [if_pos rfl] at hmk
        have KO := Lib.hid hmk
        clear hmk
        have z0 := SO.out.fst KO.out
        have z1 := SO.out.snd KO.out
        have hne := neqG p q
        go_wp2_with fail
        go_quiet (fail)
        go_wp2
        go_roundw
        case rel => exact ⟨k + 1, by omega, by go_num, hq.drewN _⟩
        case measure => simp [intOf]; omega
    · skip
      replace s_g := s_g.ext hq
      replace s_c := s_c.ext hq
      replace s_out := s_out.ext hq
      replace E := E.trans hq
      have HQ := Lib.hid (mask_laws HP.out.1 HP.out.2.1)
      go_wp2_with fail
      refine (gridMask_any (some ⟨g_out, o_out, none⟩) (some ⟨g_c, o_c, none⟩) 16 16 c_out c_c (maskL g c) c _ HML.out HL_c.out s_out.rd s_c.rd).mono ?_
      rintro e w9 ⟨A_x, c_x, rfl, s_x, x9⟩
      replace s_g := s_g.ext x9
      replace s_c := s_c.ext x9
      replace s_out := s_out.ext x9
      replace E := E.trans x9
      rw [HQ.out.1]
      rw [HQ.out.2.1, HML.out] at s_x ⊢
      go_wp2_with fail
      refine (fullCover_any _).mono ?_
      rintro e w10 ⟨A_f, c_f, rfl, s_f, x10⟩
      replace s_g := s_g.ext x10
      replace s_c := s_c.ext x10
      replace s_out := s_out.ext x10
      replace s_x := s_x.ext x10
      replace E := E.trans x10
      go_wp2_with fail
      refine (gridMask_any (some ⟨g_g, o_g, none⟩) A_f 16 16 c_g c_f g full16 _ HL_g.out full16_length s_g.rd s_f.rd).mono ?_
      rintro e w11 ⟨A_y, c_y, rfl, s_y, x11⟩
      replace s_g := s_g.ext x11
      replace s_c := s_c.ext x11
      replace s_out := s_out.ext x11
      replace s_x := s_x.ext x11
      replace s_f := s_f.ext x11
      replace E := E.trans x11
      rw [HQ.out.2.2.1]
      rw [HQ.out.2.2.2, HL_g.out] at s_y ⊢
      go_wp2_with fail
      refine (sameGrid_any A_x (some ⟨g_out, o_out, none⟩) 16 16 c_x c_out (maskL g c) (maskL g c) _ HML.out HML.out (by omega) s_x.rd s_out.rd).mono ?_
      rintro e w12 ⟨rfl, y12⟩
      have x12 := y12.ext
      replace s_g := s_g.ext x12
      replace s_c := s_c.ext x12
      replace s_out := s_out.ext x12
      replace s_x := s_x.ext x12
      replace s_f := s_f.ext x12
      replace s_y := s_y.ext x12
      replace E := E.trans x12
      go_wp2_with fail
      refine (sameGrid_any A_y (some ⟨g_g, o_g, none⟩) 16 16 c_y c_g g g _ HL_g.out HL_g.out (by omega) s_y.rd s_g.rd).mono ?_
      rintro e w13 ⟨rfl, y13⟩
      have x13 := y13.ext
      replace s_g := s_g.ext x13
      replace s_c := s_c.ext x13
      replace s_out := s_out.ext x13
      replace s_x := s_x.ext x13
      replace s_f := s_f.ext x13
      replace s_y := s_y.ext x13
      replace E := E.trans x13
      go_wp2
      go_ret
      exact ⟨rfl, E⟩
end Go.Proofs.Ytnpbjfnmmleppaa.fnMask
