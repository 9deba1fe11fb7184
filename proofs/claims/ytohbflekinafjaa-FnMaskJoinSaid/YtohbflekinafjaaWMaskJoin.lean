/-
  The walk of FnMaskJoin: it returns true and writes nothing that was there.
-/
import Derived.Test.YtohbflekinafjaaGridM
import Derived.Test.YtohbflekinafjaaDrawG
import Derived.Test.YtohbflekinafjaaFlags
import Derived.Test.YtohbflekinafjaaDrawC
import Derived.Test.YtohbflekinafjaaCovB
namespace Go.Proofs.Ytohbflekinafjaa.fnMaskJoin
open Go.RowKit
set_option linter.unusedVariables false

set_option maxRecDepth 100000 in
set_option maxHeartbeats 8000000 in
theorem walk (A0 : Option Addr) (n0 c0 : Nat) (b0 : List Int) (w : World) (hn0 : b0.length = n0) (hm0 : n0 ≤ 9223372036854775807) (h0 : Rd w w.heap.size A0 n0 c0 (b0.map (.int .u8))) (hw0 : ∀ z ∈ b0, 0 ≤ z ∧ z ≤ 255) :
    Calls Try.prog 7 #[.slice A0 n0 c0] w fun e w' => e = .returned (.bool true) ∧ Ext w w' := by
  have HN0 := Lib.hid hn0
  have HW0 := Lib.hid hw0
  clear hn0 hw0
  by_cases hz0 : n0 ≤ 1048576
  case neg =>
    go_enter Try.func7, Try.ntmps7
    go_wp2
    go_ret
    exact ⟨rfl, Ext.refl _⟩
  go_enter Try.func7, Try.ntmps7
  go_wp2_with fail
  refine (drawGridMask_any A0 n0 c0 b0 _ HN0.out hm0 h0 HW0.out).mono ?_
  rintro e w1 ⟨A_g, n_g, c_g, g, A_c, n_c, c_c, c, rfl, hl_g, hb_g, hl_c, hb_c, s_g, s_c, x1⟩
  have HL_g := Lib.hid hl_g
  clear hl_g
  have HL_c := Lib.hid hl_c
  clear hl_c
  have E := x1
  have hml := gridMask_length g c
  rcases hv : (gridB g && cvB c) with _ | _
  case false =>
    have HV := Lib.hid hv
    clear hv
    go_wp2_with fail
    refine (gridMask_any A_g A_c n_g n_c c_g c_c g c _ HL_g.out HL_c.out s_g.rd s_c.rd).mono ?_
    rintro e w2 ⟨A_out, c_out, rfl, s_out, x2⟩
    replace s_g := s_g.ext x2
    replace s_c := s_c.ext x2
    replace E := E.trans x2
    rw [HV.out]
    go_wp2_with fail
    refine (specGridMask_any A_g A_c n_g n_c c_g c_c g c _ HL_g.out HL_c.out (by omega) s_g.rd s_c.rd).mono ?_
    rintro e w3 ⟨A_want, c_want, rfl, s_want, x3⟩
    replace s_g := s_g.ext x3
    replace s_c := s_c.ext x3
    replace s_out := s_out.ext x3
    replace E := E.trans x3
    rw [HV.out]
    go_wp2_with fail
    refine (sameGrid_any A_out A_want (gridMask g c).length (gridMask g c).length c_out c_want (gridMask g c) (gridMask g c) _ rfl rfl (by omega) s_out.rd s_want.rd).mono ?_
    rintro e w4 ⟨rfl, y4⟩
    have x4 := y4.ext
    replace s_g := s_g.ext x4
    replace s_c := s_c.ext x4
    replace s_out := s_out.ext x4
    replace s_want := s_want.ext x4
    replace E := E.trans x4
    go_wp2_with fail
    refine (sameGrid_any A_out A_want (gridMask g c).length (gridMask g c).length c_out c_want (gridMask g c) (gridMask g c) _ rfl rfl (by omega) s_out.rd s_want.rd).mono ?_
    rintro e w5 ⟨rfl, y5⟩
    have x5 := y5.ext
    replace s_g := s_g.ext x5
    replace s_c := s_c.ext x5
    replace s_out := s_out.ext x5
    replace s_want := s_want.ext x5
    replace E := E.trans x5
    go_wp2
    go_ret
    exact ⟨rfl, E⟩
  have HV := Lib.hid hv
  clear hv
  go_wp2_with fail
  refine (gridMask_any A_g A_c n_g n_c c_g c_c g c _ HL_g.out HL_c.out s_g.rd s_c.rd).mono ?_
  rintro e w6 ⟨A_out, c_out, rfl, s_out, x6⟩
  replace s_g := s_g.ext x6
  replace s_c := s_c.ext x6
  replace E := E.trans x6
  rw [HV.out]
  go_wp2_with fail
  refine (specGridMask_any A_g A_c n_g n_c c_g c_c g c _ HL_g.out HL_c.out (by omega) s_g.rd s_c.rd).mono ?_
  rintro e w7 ⟨A_want, c_want, rfl, s_want, x7⟩
  replace s_g := s_g.ext x7
  replace s_c := s_c.ext x7
  replace s_out := s_out.ext x7
  replace E := E.trans x7
  rw [HV.out]
  go_wp2_with fail
  refine (sameGrid_any A_out A_want (gridMask g c).length (gridMask g c).length c_out c_want (gridMask g c) (gridMask g c) _ rfl rfl (by omega) s_out.rd s_want.rd).mono ?_
  rintro e w8 ⟨rfl, y8⟩
  have x8 := y8.ext
  replace s_g := s_g.ext x8
  replace s_c := s_c.ext x8
  replace s_out := s_out.ext x8
  replace s_want := s_want.ext x8
  replace E := E.trans x8
  clear s_want
  have HP := Lib.hid (mask_parts HV.out)
  obtain rfl : n_g = 16 := by rw [← HL_g.out]; exact gridB_16 HP.out.1
  obtain rfl : n_c = 16 := by rw [← HL_c.out]; exact cvB_16 HP.out.2.1
  have HML : Hid ((maskL g c).length = 16) := maskL_length HL_g.out HL_c.out
  rw [HP.out.2.2, HML.out] at s_out
  rw [HP.out.2.2, HML.out]
  clear hml
  have HQ := Lib.hid (mask_join HP.out.1 HP.out.2.1)
  have hhl := covHoles_length c
  go_wp2_with fail
  refine (coverHoles_any A_c 16 c_c c _ HL_c.out s_c.rd).mono ?_
  rintro e w9 ⟨A_h, c_h, rfl, s_h, x9⟩
  replace s_g := s_g.ext x9
  replace s_c := s_c.ext x9
  replace s_out := s_out.ext x9
  replace E := E.trans x9
  rw [HP.out.2.1]
  go_wp2_with fail
  refine (gridMask_any A_g A_h 16 (covHoles c).length c_g c_h g (covHoles c) _ HL_g.out rfl s_g.rd s_h.rd).mono ?_
  rintro e w10 ⟨A_y, c_y, rfl, s_y, x10⟩
  replace s_g := s_g.ext x10
  replace s_c := s_c.ext x10
  replace s_out := s_out.ext x10
  replace s_h := s_h.ext x10
  replace E := E.trans x10
  rw [HQ.out.1]
  rw [HQ.out.2.1, HQ.out.2.2.1] at s_y ⊢
  clear s_h
  clear s_c
  obtain ⟨g_g, o_g, ea_g, _, _, _⟩ := s_g.addr (by rw [pairs_length, HL_g.out]; omega)
  obtain rfl := ea_g
  obtain ⟨g_out, o_out, ea_out, _, _, _⟩ := s_out.addr (by rw [pairs_length, HML.out]; omega)
  obtain rfl := ea_out
  obtain ⟨g_y, o_y, ea_y, _, _, _⟩ := s_y.addr (by rw [pairs_length, HQ.out.2.2.1]; omega)
  obtain rfl := ea_y
  go_wp2_with fail
  go_loopw [13] (fun i wr => ∃ k : Nat, k ≤ 16 ∧ i = .int .i64 k ∧ Ext w10 wr) (fun i _ => 16 - (intOf i).toNat)
  case atStart => exact ⟨0, Nat.zero_le _, rfl, Ext.refl _⟩
  case round =>
    obtain ⟨k, hk, rfl, hq⟩ := hrel
    by_cases hlt : k < 16
    · skip
      obtain ⟨p, q, p1, q1, p2, q2, hg, ho, hy, e1, e2, b1, b2, b3, b4, b5, b6, b7, b8⟩ := HQ.out.2.2.2 k hlt
      have SG := Lib.hid (s_g.ext hq)
      have SO := Lib.hid (s_out.ext hq)
      have SY := Lib.hid (s_y.ext hq)
      have KG := Lib.hid hg
      have KO := Lib.hid ho
      have KY := Lib.hid hy
      have y0 := SG.out.fst KG.out
      have y1 := SG.out.snd KG.out
      have z0 := SO.out.fst KO.out
      have z1 := SO.out.snd KO.out
      have u0 := SY.out.fst KY.out
      have u1 := SY.out.snd KY.out
      have h2 : (k : Int) < 16 := by omega
      have h3 : (0 : Int) ≤ (k : Int) := by omega
      have f1 : IntKind.i64.wrap (p1 + p2) = p := by rw [IntWalk.i64_in _ (by omega), e1]
      have f2 : IntKind.i64.wrap (q1 + q2) = q := by rw [IntWalk.i64_in _ (by omega), e2]
      have hne := neqG p q
      clear hg ho hy e1 e2
      go_wp2_with fail
      go_region_held3 (fun w' => w'.cell? ⟨g_g, o_g + k * 2, none⟩ = some (.int .i64 p) ∧ w'.cell? ⟨g_g, o_g + k * 2 + 1, none⟩ = some (.int .i64 q) ∧ w'.cell? ⟨g_out, o_out + k * 2, none⟩ = some (.int .i64 p1) ∧ w'.cell? ⟨g_out, o_out + k * 2 + 1, none⟩ = some (.int .i64 q1) ∧ w'.cell? ⟨g_y, o_y + k * 2, none⟩ = some (.int .i64 p2) ∧ w'.cell? ⟨g_y, o_y + k * 2 + 1, none⟩ = some (.int .i64 q2)) (exact ⟨(SG.out.ext (by repeat (first | (with_reducible exact Ext.refl _) | (with_reducible assumption) | (with_reducible refine Ext.drew ?_) | (with_reducible refine Ext.alloc ?_ _)))).fst KG.out, (SG.out.ext (by repeat (first | (with_reducible exact Ext.refl _) | (with_reducible assumption) | (with_reducible refine Ext.drew ?_) | (with_reducible refine Ext.alloc ?_ _)))).snd KG.out, (SO.out.ext (by repeat (first | (with_reducible exact Ext.refl _) | (with_reducible assumption) | (with_reducible refine Ext.drew ?_) | (with_reducible refine Ext.alloc ?_ _)))).fst KO.out, (SO.out.ext (by repeat (first | (with_reducible exact Ext.refl _) | (with_reducible assumption) | (with_reducible refine Ext.drew ?_) | (with_reducible refine Ext.alloc ?_ _)))).snd KO.out, (SY.out.ext (by repeat (first | (with_reducible exact Ext.refl _) | (with_reducible assumption) | (with_reducible refine Ext.drew ?_) | (with_reducible refine Ext.alloc ?_ _)))).fst KY.out, (SY.out.ext (by repeat (first | (with_reducible exact Ext.refl _) | (with_reducible assumption) | (with_reducible refine Ext.drew ?_) | (with_reducible refine Ext.alloc ?_ _)))).snd KY.out⟩)
        (first | (go_at_call 29; refine (lawGauss_x _ _ _).mono ?_; rintro e w' ⟨rfl, y'⟩; have E' : Ext wr w' := Ext.trans (by repeat (first | (with_reducible exact Ext.refl _) | (with_reducible assumption) | (with_reducible refine Ext.drew ?_) | (with_reducible refine Ext.alloc ?_ _))) y'))
      all_goals go_wp2
      all_goals go_roundw
      all_goals first | exact ⟨k + 1, by omega, by go_num, hq.trans (by repeat (first | (with_reducible exact Ext.refl _) | (with_reducible assumption) | (with_reducible refine Ext.drew ?_) | (with_reducible refine Ext.alloc ?_ _)))⟩ | (simp [intOf]; omega)
    · skip
      replace E := E.trans hq
      go_wp2
      all_goals (go_ret; exact ⟨rfl, E⟩)
end Go.Proofs.Ytohbflekinafjaa.fnMaskJoin
