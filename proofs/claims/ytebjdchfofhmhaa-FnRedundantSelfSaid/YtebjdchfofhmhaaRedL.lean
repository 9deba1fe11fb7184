/-
  Contracts of RedundantSpread and RedundantFits of the program.
-/
import Derived.Test.YtebjdchfofhmhaaRedK
import Derived.Test.YtebjdchfofhmhaaRedI
namespace Go.Proofs.Ytebjdchfofhmhaa
open Go.RowKit
set_option linter.unusedSimpArgs false
set_option linter.unusedVariables false

attribute [local go_sem] eqAnt_run
set_option maxRecDepth 100000 in
set_option maxHeartbeats 400000 in
theorem redundantSpread_any (A1 A2 : Option Addr) (n1 c1 n2 c2 : Nat) (l v : VL) (w : World) (hl : l.length = n1) (hv : v.length = n2) (z1 : n1 ≤ 1048576) (z2 : n2 ≤ 1048576) (r1 : Rd w w.heap.size A1 n1 c1 (pairs l)) (r2 : Rd w w.heap.size A2 n2 c2 (pairs v)) :
    Calls Try.prog 18 #[.slice A1 n1 c1, .slice A2 n2 c2] w (RetSB w 44 (rsO l v).length (pairs (rsO l v)) (rsB l v)) := by
  have HAV := Lib.hid (fun W (x : Ext w W) => arrayValid_any A1 n1 c1 l W hl z1 (r1.ext x))
  have HVV := Lib.hid (fun W (x : Ext w W) => visValid_any (n1 : Int) A2 n2 c2 v W hv (by omega) (r2.ext x))
  rcases e1 : arB l with _ | _
  · have HB : Hid (rsB l v = false) := by show _ = _; simp [rsB, e1]
    rw [e1] at HAV
    clear hl hv r1 r2 e1
    go_enter Try.func18, Try.ntmps18
    go_wp2_with fail
    refine (HAV.out _ (Ext.refl _)).mono ?_
    rintro e w1 ⟨rfl, x1⟩
    go_wp2
    go_ret2
    rw [HB.out, rsO_no HB.out]
    exact RetSB.nil rfl rfl x1
  rw [e1] at HAV
  rcases e2 : visB (n1 : Int) v with _ | _
  · have HB : Hid (rsB l v = false) := by show _ = _; simp [rsB, hl, e2]
    rw [e2] at HVV
    clear hl hv r1 r2 e1 e2
    go_enter Try.func18, Try.ntmps18
    go_wp2_with fail
    refine (HAV.out _ (Ext.refl _)).mono ?_
    rintro e w1 ⟨rfl, x1⟩
    go_wp2_with fail
    refine (HVV.out _ x1).mono ?_
    rintro e w2 ⟨rfl, x2⟩
    go_wp2
    go_ret2
    rw [HB.out, rsO_no HB.out]
    exact RetSB.nil rfl rfl (x1.trans x2)
  rw [e2] at HVV
  have hB : rsB l v = true := by simp [rsB, e1, hl, e2]
  obtain ⟨hA, hvl, hrg⟩ := rsB_parts hB
  have HB := Lib.hid hB
  have hn7 := hA.seven
  have hn2 := hA.two
  rw [hl] at hn7 hn2 hvl
  have hnb := nb_le n1 (by omega)
  have hnp := nb_pos n1 (by omega) hn2
  have HGR := Lib.hid (fun W (x : Ext w W) => redundantGroups_any A1 n1 c1 l W hl hA (r1.ext x))
  have HVC := Lib.hid (fun W (x : Ext w W) (k : Nat) (hk : k < nb n1) => baseVector_any A1 n1 c1 l W k hl hA (r1.ext x) hk)
  have HGS := Lib.hid (grp_spec (bvec l))
  have HGL : Hid (∀ k, k < nb n1 → (grL l)[k]? = some ((grp (bvec l) k : Nat) : Int)) := fun k h => grL_at (by rw [hl]; exact h)
  have HSU : Hid (∀ k, k < nb n1 → (rsL l v).take (k + 1) = (rsL l v).take k ++ [spv (bvec l) v k]) := fun k h => rsL_succ l v (by rw [hl]; exact h)
  have HRL : Hid ((rsL l v).length = nb n1) := by show _ = _; rw [rsL_length, hl]
  have HRG : Hid (∀ k, k < nb n1 → 1 ≤ vAm v k ∧ vAm v k ≤ 1000000 ∧ 0 ≤ vPh v k ∧ vPh v k < 360) := fun k h => rgB_at hrg (by omega)
  have HRO : Hid (rsO l v = rsL l v) := rsO_yes hB
  have HR2 := Lib.hid r2
  have HN2 : Hid (n2 = nb n1) := by show _ = _; omega
  have HVL := Lib.hid hv
  obtain ⟨gv, ov, rfl⟩ := r2.addr (by rw [pairs_length, hv, HN2.out]; omega)
  clear hl hv r1 r2 e1 e2 hB hA hvl hrg
  rw [HB.out, HRO.out, HRL.out]
  generalize rsL l v = rl at *
  generalize grL l = gl at *
  generalize nb n1 = M at *
  generalize bvec l = f at *
  go_enter Try.func18, Try.ntmps18
  go_wp2_with fail
  refine (HAV.out _ (Ext.refl _)).mono ?_
  rintro e w1 ⟨rfl, x1⟩
  go_wp2_with fail
  refine (HVV.out _ x1).mono ?_
  rintro e w2 ⟨rfl, x2⟩
  have HX2 : Hid (Ext w w2) := x1.trans x2
  clear x1 x2
  go_wp2_with fail
  refine (HGR.out _ HX2.out).mono ?_
  rintro e w3 ⟨A3, c3, rfl, s3, x3⟩
  obtain ⟨gg, og, rfl⟩ := s3.rd.addr (by rw [ints_length]; have := lt_of_at (HGL.out 0 (by omega)); omega)
  have ho3 := World.ownsRow_nil w3 w3.heap.size 44 2
  have hx3 := HX2.out.trans x3
  have hz3 := x3.size
  clear x3
  go_wp2_with fail
  go_loopw [6, 23] (fun o i wr => ∃ k : Nat, k ≤ M ∧ i = .int .i64 k ∧ wr.ownsRow w3.heap.size 44 2 o k (pairs (rl.take k)) ∧ Sl wr w2.heap.size w3.heap.size 3 (some ⟨gg, og, none⟩) M c3 (ints gl) ∧ Ext w wr ∧ w3.heap.size ≤ wr.heap.size) (fun _ i _ => M - (intOf i).toNat)
  case atStart => exact ⟨0, Nat.zero_le _, rfl, ho3, s3, hx3, Nat.le_refl _⟩
  case round =>
    clear ho3 s3
    obtain ⟨k, hk, rfl, ho, hs, he, hz⟩ := hrel
    by_cases hlt : k < M
    · have h2 : (k : Int) < (M : Int) := by omega
      have h20 : (0 : Int) ≤ (k : Int) := by omega
      have hgk := (HGS.out k).1
      have hgl := (HGS.out k).2.1
      have HSN := Lib.hid (HSU.out k hlt)
      have HGK := Lib.hid (HGL.out k hlt)
      have hcg := hs.cell (ints_at' HGK.out)
      have hrm := HRG.out (grp f k) (by omega)
      have hv0 := (HR2.out.ext he).fst (some_v (l := v) (k := grp f k) (by rw [HVL.out, HN2.out]; omega))
      have hv1 := (HR2.out.ext he).snd (some_v (l := v) (k := grp f k) (by rw [HVL.out, HN2.out]; omega))
      have HSP : Hid (spv f v k = if f (grp f k) = f k then (vAm v (grp f k), vPh v (grp f k)) else (vAm v (grp f k), (-(vPh v (grp f k))) % 360)) := rfl
      have HV1 := Lib.hid (fun W (x : Ext w W) => HVC.out W x (grp f k) (by omega))
      have HV2 := Lib.hid (fun W (x : Ext w W) => HVC.out W x k hlt)
      have h3 : ((grp f k : Nat) : Int) < (n2 : Int) := by rw [HN2.out]; omega
      have h30 : (0 : Int) ≤ ((grp f k : Nat) : Int) := by omega
      clear hgl
      generalize grp f k = m at *
      generalize vAm v m = am at *
      generalize vPh v m = ph at *
      have S3 := St.new wr #[.int .i64 am, .int .i64 ph] 44
      have xb : Ext wr (wr.alloc (.cells #[.int .i64 am, .int .i64 ph] 44)) := (Ext.refl wr).alloc _
      have e4 := he.trans xb
      have o4 := own_ext ho xb
      have s4 := hs.ext xb
      have hlo := own_neH ho
      have hz4 := xb.size
      have hzr := he.size
      clear ho hs he xb
      obtain ⟨⟨p, q⟩, hfk⟩ : ∃ u, f k = u := ⟨_, rfl⟩
      obtain ⟨⟨r, s⟩, hfm⟩ : ∃ u, f m = u := ⟨_, rfl⟩
      rw [hfk] at HV2 HSP
      rw [hfm] at HV1 HSP
      unfold pv at HV1 HV2
      clear hfk hfm
      by_cases hfe : ((r, s) : Int × Int) = (p, q)
      · obtain ⟨rfl, rfl⟩ := Prod.mk.inj hfe
        have HSQ : Hid (spv f v k = (am, ph)) := by show _ = _; rw [HSP.out, if_pos rfl]
        clear hfe
        go_wp2_with fail
        generalize wr.alloc (.cells #[.int .i64 am, .int .i64 ph] 44) = w4 at *
        refine (HV2.out _ e4).mono ?_
        rintro e w5 ⟨rfl, x5⟩
        go_wp2_with fail
        refine (HV1.out _ (e4.trans x5)).mono ?_
        rintro e w6 ⟨rfl, x6⟩
        have X := x5.trans x6
        have S7 := S3.ext X
        have k0 := S7.cell0
        have k1 := S7.cell1
        have o7 := own_ext o4 X
        have s7 := s4.ext X
        have e7 := e4.trans X
        have hz7 := X.size
        clear x5 x6 X S3 o4 s4 e4 S7
        go_wp2_with (at_builtin; refine wpList_append2A (w := w6) rfl _ _ _ rfl w3.heap.size 44 16 Vis.info Try.underlying29 _ k _ (by rfl) o7 am ph _ (by rfl) rfl (by omega) (by omega) (by omega) ?_; intro v' w8 o8 hg8 hat8)
        have e8 := e7.grownV o7 hg8 (by have := hx3.size; omega)
        have s8 := s7.grownO hg8 (fun g e => .inr (own_base o7 g e))
        have hz8 := hg8.size
        rw [← HSQ.out, ← HSN.out] at o8
        go_roundw
        case rel => exact ⟨k + 1, by omega, by go_num, o8, s8, e8, by omega⟩
        case measure => simp [intOf]; omega
      · have hne : (p == r) = false ∨ ((p == r) = true ∧ (q == s) = false) := by
          by_cases h1 : p = r
          · right
            simp only [h1, beq_self_eq_true, true_and, beq_eq_false_iff_ne]
            rintro rfl
            exact hfe (by rw [h1])
          · left; simpa using h1
        have HSQ : Hid (spv f v k = (am, (-ph) % 360)) := by show _ = _; rw [HSP.out, if_neg hfe]
        clear hfe
        rcases hne with hd1 | ⟨hd1, hd2⟩
        all_goals
          go_wp2_with fail
          generalize wr.alloc (.cells #[.int .i64 am, .int .i64 ph] 44) = w4 at *
          refine (HV2.out _ e4).mono ?_
          rintro e w5 ⟨rfl, x5⟩
          go_wp2_with fail
          refine (HV1.out _ (e4.trans x5)).mono ?_
          rintro e w6 ⟨rfl, x6⟩
          have X := x5.trans x6
          have S7 := S3.ext X
          have k0 := S7.cell0
          have k1 := S7.cell1
          go_wp2_with fail
          refine (opposite_v am ph _ hrm.2.2.1 hrm.2.2.2).mono ?_
          rintro e w7 ⟨rfl, x7⟩
          replace X := X.trans x7
          replace S7 := S7.ext x7
          clear k0 k1 x5 x6 x7
          have k0 := S7.cell0
          have k1 := S7.cell1
          have f0 := S7.frozen 0
          have f1 := S7.frozen 1
          have o7 := own_ext o4 X
          have s7 := s4.ext X
          have e7 := e4.trans X
          have hz7 := X.size
          obtain ⟨U, HU⟩ : ∃ U, Hid (U = (-ph) % 360) := ⟨_, rfl⟩
          rw [← HU.out]
          have S8 := S7.put2 (.int .i64 am) (.int .i64 U)
          have o8 := own_put2 o7 hlo (.int .i64 am) (.int .i64 U)
          have s8 := (s7.far (p := ⟨wr.heap.size, 0, none⟩) (.inr hz) (.int .i64 am)).far (p := ⟨wr.heap.size, 1, none⟩) (.inr hz) (.int .i64 U)
          have e8 := e7.put2 hzr (.int .i64 am) (.int .i64 U)
          have j0 := S8.cell0
          have j1 := S8.cell1
          have hz8 : w7.heap.size = ((w7.setCell ⟨wr.heap.size, 0, none⟩ (.int .i64 am)).setCell ⟨wr.heap.size, 1, none⟩ (.int .i64 U)).heap.size := by rw [World.size_setCell, World.size_setCell]
          have HJ := Lib.hid (And.intro j0 (And.intro j1 hz8))
          clear X S3 o4 s4 e4 S7 S8 o7 s7 e7 j0 j1 hz8
          have j0 := HJ.out.1
          have j1 := HJ.out.2.1
          go_wp2_with (at_builtin; refine wpList_append2A (w := (w7.setCell ⟨wr.heap.size, 0, none⟩ (.int .i64 am)).setCell ⟨wr.heap.size, 1, none⟩ (.int .i64 U)) rfl _ _ _ rfl w3.heap.size 44 16 Vis.info Try.underlying29 _ k _ (by rfl) o8 am U _ (by rfl) (by first | rfl | (simp only [World.size_setCell]; done)) (by omega) (by omega) (by rw [World.size_setCell, World.size_setCell]; omega) ?_; intro v' w8 o9 hg9 hat9)
          have e9 := e8.grownV o8 hg9 (by have := hx3.size; omega)
          have s9 := s8.grownO hg9 (fun g e => .inr (own_base o8 g e))
          have hz9 := hg9.size
          rw [World.size_setCell, World.size_setCell] at hz9
          rw [HU.out, ← HSQ.out, ← HSN.out] at o9
          go_roundw
          case rel => exact ⟨k + 1, by omega, by go_num, o9, s9, e9, by omega⟩
          case measure => simp [intOf]; omega
    · have e : k = M := by omega
      rw [e, List.take_of_length_le (by rw [HRL.out]; exact Nat.le_refl _)] at ho
      obtain ⟨A', c', hv', hs'⟩ := Sl.of_own ho
      subst hv'
      rw [e]
      have hd : decide (M < M) = false := by simp
      clear e ho hlt hk
      go_wp2
      go_ret2
      exact ⟨A', c', rfl, hs'.mono hx3.size (Nat.le_refl _), he⟩
set_option maxHeartbeats 400000 in
theorem redundantFits_any (A1 A2 : Option Addr) (n1 c1 n2 c2 : Nat) (l v : VL) (w : World) (hl : l.length = n1) (hv : v.length = n2) (z1 : n1 ≤ 1048576) (z2 : n2 ≤ 1048576) (r1 : Rd w w.heap.size A1 n1 c1 (pairs l)) (r2 : Rd w w.heap.size A2 n2 c2 (pairs v)) :
    Calls Try.prog 14 #[.slice A1 n1 c1, .slice A2 n2 c2] w fun e w' => e = .returned (.bool (rfB l v)) ∧ Ext w w' := by
  have HS := Lib.hid (redundantSpread_any A1 A2 n1 c1 n2 c2 l v w hl hv z1 z2 r1 r2)
  rcases hB : rsB l v with _ | _
  · have HF : Hid (rfB l v = false) := rf_no hB
    rw [rsO_no hB, hB] at HS
    clear hl hv r1 r2 hB
    go_enter Try.func14, Try.ntmps14
    go_wp2_with fail
    refine HS.out.mono ?_
    rintro e w1 ⟨A', c', rfl, s', x1⟩
    go_wp2
    go_ret
    exact ⟨ret_bool HF.out.symm, x1⟩
  obtain ⟨hA, hvl, hrg⟩ := rsB_parts hB
  have HF : Hid (rfB l v = decide (rsL l v = v)) := rf_dec hB
  have HXL : Hid ((rsL l v).length = n2) := by show _ = _; rw [rsL_length, ← hvl, hv]
  have HEQ : Hid (∀ (W : World) (A : Option Addr) (c : Nat), Ext w W → Rd W W.heap.size A n2 c (pairs (rsL l v)) → Calls Try.prog 32 #[.slice A n2 c, .slice A2 n2 c2] W fun e w' => e = .returned (.bool (decide (rsL l v = v))) ∧ Quiet W w') := fun W A c x h =>
    equalV_any A A2 n2 n2 c c2 (rsL l v) v W HXL.out hv z2 h (r2.ext x)
  rw [rsO_yes hB, hB, HXL.out] at HS
  clear hl hv r1 r2 hB hA hvl hrg
  generalize rsL l v = rl at *
  go_enter Try.func14, Try.ntmps14
  go_wp2_with fail
  refine HS.out.mono ?_
  rintro e w1 ⟨A', c', rfl, s', x1⟩
  go_wp2_with fail
  refine (HEQ.out _ _ _ x1 s'.rd).mono ?_
  rintro e w2 ⟨rfl, q2⟩
  go_wp2
  go_ret
  exact ⟨ret_bool HF.out.symm, x1.trans q2.ext⟩
end Go.Proofs.Ytebjdchfofhmhaa
