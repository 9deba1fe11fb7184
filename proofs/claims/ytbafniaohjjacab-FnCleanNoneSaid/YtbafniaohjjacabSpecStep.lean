/-
  The contract of CleanStep of the reference.
-/
import Derived.Test.YtbafniaohjjacabCleanStep
namespace Go.Proofs.Ytbafniaohjjacab
open Go.RowKit

theorem RetCBO.no {w w' : World} {E : TypeId} {m l b : List Int} (h : stB m l b = false) (x : Ext w w') : RetCBO w E (csM m l b) (csL m l b) (stB m l b) (.returned (.tuple #[.agg #[.slice none 0 0, .slice none 0 0], .bool false])) w' := by
  rw [h]
  exact RetCBO.nil (by simp [csM, h]) (by simp [csL, h]) x
set_option maxHeartbeats 1000000 in
/-- the ways on which nothing is done -/
theorem specCleanStep_no (A B D : Option Addr) (n c m d p q : Nat) (xs ys bs : List Int) (w : World) (h1 : xs.length = n) (h2 : ys.length = m) (h3 : bs.length = p) (z1 : n ≤ 1048576) (z2 : m ≤ 1048576) (z3 : p ≤ 1048576)
    (r1 : Rd w w.heap.size A n c (ints xs)) (r2 : Rd w w.heap.size B m d (ints ys)) (r3 : Rd w w.heap.size D p q (ints bs)) (hg : goB xs ys bs = false) :
    Calls Try.prog 20 #[.agg #[.slice A n c, .slice B m d], .slice D p q] w (RetCBO w 3 (csM xs ys bs) (csL xs ys bs) (stB xs ys bs)) := by
  have hst : stB xs ys bs = false := by simp [stB, hg]
  have x0 : Ext w ((w.alloc (.cells #[.slice A n c, .slice B m d] 25)).alloc (.cells #[.slice none 0 0, .slice none 0 0] 25)) := ((Ext.refl w).alloc _).alloc _
  have HC := Lib.hid (l24Valid_any A B n c m d xs ys _ h1 h2 z1 z2 (r1.ext x0) (r2.ext x0))
  have HD := Lib.hid (fun (W : World) (x : Ext w W) => specSkyValid_any D p q bs W h3 (by omega) (r3.ext x))
  have S1 := Lib.hid ((St.new w #[.slice A n c, .slice B m d] 25).ext ((Ext.refl _).alloc (.cells #[.slice none 0 0, .slice none 0 0] 25)))
  have S2 := Lib.hid (St.new (w.alloc (.cells #[.slice A n c, .slice B m d] 25)) #[.slice none 0 0, .slice none 0 0] 25)
  rw [World.size_alloc] at S2
  have HST := Lib.hid hst
  clear hst
  rcases hv : (svB xs && svB ys) with _ | _
  · rw [hv] at HC
    clear h1 h2 h3 r1 r2 r3 hg hv
    go_enter Try.func20, Try.ntmps20
    go_wp2_with fail
    refine HC.out.mono ?_
    rintro e w1 ⟨rfl, x1⟩
    have T := S2.out.ext x1
    have k0 := T.cell0
    have k1 := T.cell1
    have k2 := T.frozen 0
    have k3 := T.frozen 1
    have R := T.put2 (.slice none 0 0) (.slice none 0 0)
    have r0 := R.cell0
    have r1 := R.cell1
    have xx := (x0.trans x1).put2 (g := w.heap.size + 1) (by omega) (.slice none 0 0) (.slice none 0 0)
    clear T R
    go_wp2
    exact bodyPost_ret (v := .tuple #[.agg #[.slice none 0 0, .slice none 0 0], .bool false]) (by simp [results, Try.results20, go_sem, r0, r1]) rfl (RetCBO.no HST.out xx)
  rw [hv] at HC
  rcases hb : svB bs with _ | _
  · rw [hb] at HD
    clear h1 h2 h3 r1 r2 r3 hg hv hb
    go_enter Try.func20, Try.ntmps20
    go_wp2_with fail
    refine HC.out.mono ?_
    rintro e w1 ⟨rfl, x1⟩
    go_wp2_with fail
    refine (HD.out _ (x0.trans x1)).mono ?_
    rintro e w_ ⟨rfl, rfl⟩
    have T := S2.out.ext x1
    have k0 := T.cell0
    have k1 := T.cell1
    have k2 := T.frozen 0
    have k3 := T.frozen 1
    have R := T.put2 (.slice none 0 0) (.slice none 0 0)
    have r0 := R.cell0
    have r1 := R.cell1
    have xx := (x0.trans x1).put2 (g := w.heap.size + 1) (by omega) (.slice none 0 0) (.slice none 0 0)
    clear T R
    go_wp2
    exact bodyPost_ret (v := .tuple #[.agg #[.slice none 0 0, .slice none 0 0], .bool false]) (by simp [results, Try.results20, go_sem, r0, r1]) rfl (RetCBO.no HST.out xx)
  rw [hb] at HD
  obtain rfl : p = 16 := by rw [← h3]; exact svB_16 hb
  obtain ⟨g, off, rfl⟩ := r3.addr (by rw [ints_length, h3]; omega)
  have HA := Lib.hid (fun (W : World) (x : Ext w W) => (r3.ext x).a0 (by rw [h3]; omega))
  have hp := hv
  simp only [Bool.and_eq_true] at hp
  have hbb := svB_IB hb 0
  have htt := top_le hp.2
  by_cases hb0 : at0 bs 0 < 1
  · clear h1 h2 h3 r1 r2 r3 hg hv hb hp
    go_enter Try.func20, Try.ntmps20
    go_wp2_with fail
    refine HC.out.mono ?_
    rintro e w1 ⟨rfl, x1⟩
    go_wp2_with fail
    refine (HD.out _ (x0.trans x1)).mono ?_
    rintro e w_ ⟨rfl, rfl⟩
    have T := S2.out.ext x1
    have k0 := T.cell0
    have k1 := T.cell1
    have k2 := T.frozen 0
    have k3 := T.frozen 1
    have k4 := HA.out _ (x0.trans x1)
    have R := T.put2 (.slice none 0 0) (.slice none 0 0)
    have r0 := R.cell0
    have r1 := R.cell1
    have xx := (x0.trans x1).put2 (g := w.heap.size + 1) (by omega) (.slice none 0 0) (.slice none 0 0)
    clear T R
    go_wp2
    exact bodyPost_ret (v := .tuple #[.agg #[.slice none 0 0, .slice none 0 0], .bool false]) (by simp [results, Try.results20, go_sem, r0, r1]) rfl (RetCBO.no HST.out xx)
  · have hlt : top ys < at0 bs 0 := by
      simp [goB, hp.1, hp.2, hb] at hg
      have := hg (by omega)
      omega
    have hb0' : (at0 bs 0 == 0) = false := by simp; omega
    obtain rfl : m = 16 := by rw [← h2]; exact svB_16 hp.2
    obtain ⟨g', off', rfl⟩ := r2.addr (by rw [ints_length, h2]; omega)
    obtain ⟨v, hv0⟩ : ∃ v, v = (top ys).tdiv (at0 bs 0) := ⟨_, rfl⟩
    have hv1 : v < 1 := by
      rw [hv0]
      rcases Int.le_total 0 (top ys) with h | h
      · rw [Int.tdiv_eq_ediv_of_nonneg h, Int.ediv_eq_zero_of_lt h hlt]; omega
      · have h3 : (top ys).tdiv (at0 bs 0) = -((-top ys) / at0 bs 0) := by
          rw [← Int.tdiv_eq_ediv_of_nonneg (a := -top ys) (by omega), Int.neg_tdiv]; omega
        have := Int.ediv_nonneg (a := -top ys) (b := at0 bs 0) (by omega) (by omega)
        omega
    have hv2 : -100000 ≤ v := by
      rw [hv0]
      rcases Int.le_total 0 (top ys) with h | h
      · rw [Int.tdiv_eq_ediv_of_nonneg h, Int.ediv_eq_zero_of_lt h hlt]; omega
      · have h3 : (top ys).tdiv (at0 bs 0) = -((-top ys) / at0 bs 0) := by
          rw [← Int.tdiv_eq_ediv_of_nonneg (a := -top ys) (by omega), Int.neg_tdiv]; omega
        have := Int.ediv_le_self (a := -top ys) (at0 bs 0) (by omega)
        omega
    have HL := Lib.hid (fun (W : World) (x : Ext w W) => l24Peak_any (some ⟨g', off', none⟩) d ys W h2 (r2.ext x))
    have HR := Lib.hid (fun (W : World) (x : Ext w W) => (r2.ext x).cell (ints_a0 (s := ys) (k := pk ys) (by rw [h2]; exact pk_lt ys)))
    have hpl := pk_lt ys
    have q1 : (0 : Int) ≤ ((pk ys : Nat) : Int) := by omega
    have q2 : ((pk ys : Nat) : Int) < 16 := by omega
    have HV := Lib.hid hv0
    clear h1 h2 h3 r1 r2 r3 hg hv hb hp hv0
    go_enter Try.func20, Try.ntmps20
    go_wp2_with fail
    refine HC.out.mono ?_
    rintro e w1 ⟨rfl, x1⟩
    go_wp2_with fail
    refine (HD.out _ (x0.trans x1)).mono ?_
    rintro e w_ ⟨rfl, rfl⟩
    have k4 := HA.out _ (x0.trans x1)
    have k6 := (S1.out.ext x1).cell1
    go_wp2_with fail
    refine (HL.out _ (x0.trans x1)).mono ?_
    rintro e w2 ⟨rfl, y2⟩
    have x2 := y2.ext
    clear k4 k6
    have k6 := (S1.out.ext (x1.trans x2)).cell1
    have k7 := HA.out _ ((x0.trans x1).trans x2)
    have k8 : w2.cell? ⟨g', off' + pk ys, none⟩ = some (.int .i64 (top ys)) := HR.out _ ((x0.trans x1).trans x2)
    have f1 : (top ys).tdiv (at0 bs 0) = v := HV.out.symm
    have f2 : IntKind.i64.wrap v = v := IntWalk.i64_in _ (by omega)
    go_wp2_with fail
    go_quiet (fail)
    clear f1 f2 k6 k7 k8
    have xq : Ext w2 (w2.drewN nq) := (Ext.refl w2).drewN nq
    generalize w2.drewN nq = w3 at xq ⊢
    replace x2 := x2.trans xq
    have T := S2.out.ext (x1.trans x2)
    have k0 := T.cell0
    have k1 := T.cell1
    have k2 := T.frozen 0
    have k3 := T.frozen 1
    have R := T.put2 (.slice none 0 0) (.slice none 0 0)
    have r0 := R.cell0
    have r1 := R.cell1
    have xx := ((x0.trans x1).trans x2).put2 (g := w.heap.size + 1) (by omega) (.slice none 0 0) (.slice none 0 0)
    clear T R
    go_wp2
    exact bodyPost_ret (v := .tuple #[.agg #[.slice none 0 0, .slice none 0 0], .bool false]) (by simp [results, Try.results20, go_sem, r0, r1]) rfl (RetCBO.no HST.out xx)
set_option maxHeartbeats 2000000 in
theorem specCleanStep_go (A B D : Option Addr) (c d q : Nat) (xs ys bs : List Int) (w : World) (h1 : xs.length = 16) (h2 : ys.length = 16) (h3 : bs.length = 16)
    (r1 : Rd w w.heap.size A 16 c (ints xs)) (r2 : Rd w w.heap.size B 16 d (ints ys)) (r3 : Rd w w.heap.size D 16 q (ints bs)) (hg : goB xs ys bs = true) :
    Calls Try.prog 20 #[.agg #[.slice A 16 c, .slice B 16 d], .slice D 16 q] w (RetCBO w 3 (csM xs ys bs) (csL xs ys bs) (stB xs ys bs)) := by
  obtain ⟨v1, v2, v3, hb1, hbt⟩ := goB_parts hg
  have x0 : Ext w ((w.alloc (.cells #[.slice A 16 c, .slice B 16 d] 25)).alloc (.cells #[.slice none 0 0, .slice none 0 0] 25)) := ((Ext.refl w).alloc _).alloc _
  have HC := Lib.hid (l24Valid_any A B 16 c 16 d xs ys _ h1 h2 (by omega) (by omega) (r1.ext x0) (r2.ext x0))
  have HD := Lib.hid (fun (W : World) (x : Ext w W) => specSkyValid_any D 16 q bs W h3 (by omega) (r3.ext x))
  rw [v1, v2] at HC
  rw [v3] at HD
  have S1 := Lib.hid ((St.new w #[.slice A 16 c, .slice B 16 d] 25).ext ((Ext.refl _).alloc (.cells #[.slice none 0 0, .slice none 0 0] 25)))
  have S2 := Lib.hid (St.new (w.alloc (.cells #[.slice A 16 c, .slice B 16 d] 25)) #[.slice none 0 0, .slice none 0 0] 25)
  rw [World.size_alloc] at S2
  obtain ⟨g, off, rfl⟩ := r3.addr (by rw [ints_length, h3]; omega)
  obtain ⟨g', off', rfl⟩ := r2.addr (by rw [ints_length, h2]; omega)
  obtain ⟨ga, offa, rfl⟩ := r1.addr (by rw [ints_length, h1]; omega)
  have HA := Lib.hid (fun (W : World) (x : Ext w W) => (r3.ext x).a0 (by rw [h3]; omega))
  have HL := Lib.hid (fun (W : World) (x : Ext w W) => l24Peak_any (some ⟨g', off', none⟩) d ys W h2 (r2.ext x))
  have HR := Lib.hid (fun (W : World) (x : Ext w W) => (r2.ext x).cell (ints_a0 (s := ys) (k := pk ys) (by rw [h2]; exact pk_lt ys)))
  have hbb := svB_IB v3 0
  have htt := top_le v2
  have hsn := stN_le hg
  unfold stN at hsn
  obtain ⟨hs1, hs2⟩ := hsn
  have hpl := pk_lt ys
  have q1 : (0 : Int) ≤ ((pk ys : Nat) : Int) := by omega
  have q2 : ((pk ys : Nat) : Int) < 16 := by omega
  have hb0' : (at0 bs 0 == 0) = false := by simp; omega
  have HS := Lib.hid (fun (W : World) (x : Ext w W) => specSkyShift_any (some ⟨g, off, none⟩) q bs (pk ys % 4) (pk ys / 4) (pk ys) W v3 (by omega) (by omega) (by omega) (r3.ext x))
  have vsh : svB (shL bs (pk ys)) = true := svB_mk (shL_length _ _) fun j _ => shL_IB (by omega) (svB_IB v3) (pk ys) j
  have hsa : saB ys (shL bs (pk ys)) (-(top ys / at0 bs 0)) = true := by
    simp only [saB, v2, vsh, Bool.and_self, Bool.true_and, decide_eq_true_eq]
    omega
  have HT := Lib.hid (fun (W : World) (x : Ext w W) (A4 : Option Addr) (c4 : Nat) (r : Rd W W.heap.size A4 16 c4 (ints (shL bs (pk ys)))) => specSkyAdd_own (some ⟨g', off', none⟩) A4 d c4 ys (shL bs (pk ys)) (-(top ys / at0 bs 0)) W hsa (r2.ext x) r)
  have HR1 := Lib.hid (fun (W : World) (x : Ext w W) => r1.ext x)
  have HLn : Hid ((ints xs).length = 16 * 1) := by show _ = _; rw [ints_length, h1]
  have HX1 := Lib.hid h1
  have HV1 := Lib.hid v1
  have HG := Lib.hid hg
  have f0 : (top ys).tdiv (at0 bs 0) = top ys / at0 bs 0 := Int.tdiv_eq_ediv_of_nonneg (by omega)
  have HF := Lib.hid f0
  have HE1 : Hid (((pk ys : Nat) : Int) % 4 = ((pk ys % 4 : Nat) : Int)) := by show _ = _; omega
  have HE2 : Hid (((pk ys : Nat) : Int) / 4 = ((pk ys / 4 : Nat) : Int)) := by show _ = _; omega
  clear h1 h2 h3 r1 r2 r3 hg v1 v2 v3 vsh hsa f0
  go_enter Try.func20, Try.ntmps20
  go_wp2_with fail
  refine HC.out.mono ?_
  rintro e w1 ⟨rfl, x1⟩
  go_wp2_with fail
  refine (HD.out _ (x0.trans x1)).mono ?_
  rintro e w_ ⟨rfl, rfl⟩
  have k4 := HA.out _ (x0.trans x1)
  have k6 := (S1.out.ext x1).cell1
  go_wp2_with fail
  refine (HL.out _ (x0.trans x1)).mono ?_
  rintro e w2 ⟨rfl, y2⟩
  have x2 := y2.ext
  clear k4 k6
  have k6 := (S1.out.ext (x1.trans x2)).cell1
  have k7 := HA.out _ ((x0.trans x1).trans x2)
  have k8 : w2.cell? ⟨g', off' + pk ys, none⟩ = some (.int .i64 (top ys)) := HR.out _ ((x0.trans x1).trans x2)
  have f1 := HF.out
  have f2 : IntKind.i64.wrap (top ys / at0 bs 0) = top ys / at0 bs 0 := IntWalk.i64_in _ (by omega)
  go_wp2_with fail
  go_quiet (fail)
  clear f1 f2 k6 k7 k8
  have xq : Ext w2 (w2.drewN nq) := (Ext.refl w2).drewN nq
  generalize w2.drewN nq = w3 at xq ⊢
  replace x2 := x2.trans xq
  have E2 := ((x0.trans x1).trans x2)
  have SB := Lib.hid (S1.out.ext (x1.trans x2))
  have SR := Lib.hid (S2.out.ext (x1.trans x2))
  have zr := SR.out.lt
  clear HC HD HA HL HR S1 S2 x0 x1 x2 xq y2
  go_wp2_with fail
  rw [HE1.out, HE2.out]
  refine (HS.out _ E2).mono ?_
  rintro e w4 ⟨A4, c4, rfl, s4, x4⟩
  have k6 := (SB.out.ext x4).cell1
  go_wp2_with fail
  refine (HT.out _ (E2.trans x4) A4 c4 s4.rd).mono ?_
  rintro e w5 ⟨A5, c5, rfl, s5, x5, ow5⟩
  clear k6 s4
  have E5 := (E2.trans x4).trans x5
  have k5 := (SB.out.ext (x4.trans x5)).cell0
  have x45 := x4.trans x5
  have z5 := x45.size
  have kl := (SB.out.ext x45).lt
  have kn := Nat.ne_of_lt kl
  obtain ⟨m1, m2⟩ := svB_IB HV1.out (pk ys)
  have E5z := E5.size
  rcases hw : svB (stL ys bs) with _ | _
  · clear ow5
    have HST : Hid (stB xs ys bs = false) := by show _ = _; simp [stB, hw]
    have hw2 : svB (addL ys (shL bs (pk ys)) (-(top ys / at0 bs 0))) = false := hw
    rw [hw2]
    clear hw hw2
    go_wp2_with (at_builtin; refine wpList_appendV (w := w5.alloc (.cells #[] 3)) rfl _ _ _ rfl w5.heap.size 3 (.int .i64 0) 1 8 I.infoInt Try.underlying23 rfl (by omega) _ 0 [] rfl (World.ownsRow_lit w5 #[] 0 (Nat.le_refl _) (by simp [maxLen]) rfl) ga offa 16 c (ints xs) rfl HLn.out (HR1.out _ (E5.alloc _)) (ints_one xs) (by omega) (by omega) (by omega) (by simp) ?_; intro g6 c6 w6 s6 hg6 he6; simp only [Nat.zero_add, List.nil_append] at s6; have x6 := he6 w5 ((Ext.refl _).alloc _) (Nat.le_refl _); have hc6 := s6.cell (ints_a0 (s := xs) (k := pk ys) (by rw [HX1.out]; omega)); have hf6 := s6.frozen (by rw [ints_length, HX1.out]; omega) (0 + pk ys); simp only [Nat.zero_add] at hc6 hf6; have T := (SR.out.ext (x45.trans x6)).far (p := ⟨g6, pk ys, none⟩) (by show _ ≠ g6; omega) (.int .i64 (at0 xs (pk ys) + top ys / at0 bs 0)); have T0 := (SR.out.ext (x45.trans x6)); have j0 := T0.cell0; have j1 := T0.cell1; have j2 := T0.frozen 0; have j3 := T0.frozen 1; have nb := Nat.ne_of_lt (show w.heap.size + 1 < g6 by omega); have HT := Lib.hid T; clear T T0)
    have R := HT.out.put2 (.slice none 0 0) (.slice none 0 0)
    have r0 := R.cell0
    have r1 := R.cell1
    have xx := ((E5.trans x6).setCell (p := ⟨g6, pk ys, none⟩) (by show _ ≤ g6; omega) (.int .i64 (at0 xs (pk ys) + top ys / at0 bs 0))).put2 (g := w.heap.size + 1) (by omega) (.slice none 0 0) (.slice none 0 0)
    exact bodyPost_ret (v := .tuple #[.agg #[.slice none 0 0, .slice none 0 0], .bool false]) (by simp [results, Try.results20, go_sem, r0, r1]) rfl (RetCBO.no HST.out xx)
  · have hw2 : svB (addL ys (shL bs (pk ys)) (-(top ys / at0 bs 0))) = true := hw
    have hso : skyOr (addL ys (shL bs (pk ys)) (-(top ys / at0 bs 0))) = stL ys bs := skyOr_yes hw
    rw [hso] at s5 ow5
    rw [hso, hw2, stL_length]
    rw [stL_length] at s5 ow5
    have OW5 := Lib.hid (ow5 hw2)
    clear ow5
    have HW := Lib.hid hw
    clear hw hw2 hso
    go_wp2_with (at_builtin; refine wpList_appendV (w := w5.alloc (.cells #[] 3)) rfl _ _ _ rfl w5.heap.size 3 (.int .i64 0) 1 8 I.infoInt Try.underlying23 rfl (by omega) _ 0 [] rfl (World.ownsRow_lit w5 #[] 0 (Nat.le_refl _) (by simp [maxLen]) rfl) ga offa 16 c (ints xs) rfl HLn.out (HR1.out _ (E5.alloc _)) (ints_one xs) (by omega) (by omega) (by omega) (by simp) ?_; intro g6 c6 w6 s6 hg6 he6; simp only [Nat.zero_add, List.nil_append] at s6; have x6 := he6 w5 ((Ext.refl _).alloc _) (Nat.le_refl _); have hc6 := s6.cell (ints_a0 (s := xs) (k := pk ys) (by rw [HX1.out]; omega)); have hf6 := s6.frozen (by rw [ints_length, HX1.out]; omega) (0 + pk ys); simp only [Nat.zero_add] at hc6 hf6; have T := (SR.out.ext (x45.trans x6)).far (p := ⟨g6, pk ys, none⟩) (by show _ ≠ g6; omega) (.int .i64 (at0 xs (pk ys) + top ys / at0 bs 0)); have T0 := (SR.out.ext (x45.trans x6)); have j0 := T0.cell0; have j1 := T0.cell1; have j2 := T0.frozen 0; have j3 := T0.frozen 1; have nb := Nat.ne_of_lt (show w.heap.size + 1 < g6 by omega); have HT := Lib.hid T; clear T T0)
    have t6 := s6.set_ (pk ys) (.int .i64 (at0 xs (pk ys) + top ys / at0 bs 0))
    rw [ints_set] at t6
    simp only [Nat.zero_add] at t6
    have t6' : Sl (w6.setCell ⟨g6, pk ys, none⟩ (.int .i64 (at0 xs (pk ys) + top ys / at0 bs 0))) w5.heap.size w6.heap.size 3 (some ⟨g6, 0, none⟩) 16 c6 (ints (stM xs ys bs)) := t6
    have t5 := (s5.ext x6).far (p := ⟨g6, pk ys, none⟩) (.inr (by show _ ≤ g6; omega)) (.int .i64 (at0 xs (pk ys) + top ys / at0 bs 0))
    have E7 := (E5.trans x6).setCell (p := ⟨g6, pk ys, none⟩) (by show _ ≤ g6; omega) (.int .i64 (at0 xs (pk ys) + top ys / at0 bs 0))
    have HV := Lib.hid (specSkyValid_any (some ⟨g6, 0, none⟩) 16 c6 (stM xs ys bs) _ (by rw [stM_length, HX1.out]) (by omega) t6'.rd)
    have z6 := x6.size
    have k0 := HT.out.cell0
    have k1 := HT.out.cell1
    rcases hm : svB (stM xs ys bs) with _ | _
    · rw [hm] at HV
      have HST : Hid (stB xs ys bs = false) := by show _ = _; simp [stB, hm]
      have R := HT.out.put2 (.slice none 0 0) (.slice none 0 0)
      have r0 := R.cell0
      have r1 := R.cell1
      have xx := E7.put2 (g := w.heap.size + 1) (by omega) (.slice none 0 0) (.slice none 0 0)
      clear hm R
      refine HV.out.mono ?_
      rintro e w_ ⟨rfl, rfl⟩
      go_wp2
      exact bodyPost_ret (v := .tuple #[.agg #[.slice none 0 0, .slice none 0 0], .bool false]) (by simp [results, Try.results20, go_sem, r0, r1]) rfl (RetCBO.no HST.out xx)
    · rw [hm] at HV
      have HST : Hid (stB xs ys bs = true) := by show _ = _; simp only [stB, hm, HW.out, HG.out, Bool.and_self]
      have R := HT.out.put2 (.slice (some ⟨g6, 0, none⟩) 16 c6) (.slice A5 16 c5)
      have r0 := R.cell0
      have r1 := R.cell1
      have xx := E7.put2 (g := w.heap.size + 1) (by omega) (.slice (some ⟨g6, 0, none⟩) 16 c6) (.slice A5 16 c5)
      have z4 := x4.size
      have z5' := x5.size
      have TT := (Two.of (lo := w.heap.size + 1 + 1) (hi := w6.heap.size) t6' t5 (.inr (Nat.le_refl _)) (by omega) (by omega) (by omega) (by omega)).put2 (g := w.heap.size + 1) (by omega) (.slice (some ⟨g6, 0, none⟩) 16 c6) (.slice A5 16 c5)
      clear hm R
      refine HV.out.mono ?_
      rintro e w_ ⟨rfl, rfl⟩
      go_wp2
      refine bodyPost_ret (v := .tuple #[.agg #[.slice (some ⟨g6, 0, none⟩) 16 c6, .slice A5 16 c5], .bool true]) (by simp [results, Try.results20, go_sem, r0, r1]) rfl ?_
      rw [HST.out]
      exact RetCBO.mk' (by simp [csM, HST.out]) (by simp [csL, HST.out]) (by rw [stM_length, HX1.out]) stL_length.symm TT (by omega) (by simp) xx (own_put2 (own_far (p := ⟨g6, pk ys, none⟩) (own_ext OW5.out x6) (fun g' hg' => by have := own_lt OW5.out g' hg'; show g' ≠ g6; omega) _) (own_low OW5.out (by omega)) _ _) (by omega)
theorem specCleanStep_own (A B D : Option Addr) (n c m d p q : Nat) (xs ys bs : List Int) (w : World) (h1 : xs.length = n) (h2 : ys.length = m) (h3 : bs.length = p) (z1 : n ≤ 1048576) (z2 : m ≤ 1048576) (z3 : p ≤ 1048576)
    (r1 : Rd w w.heap.size A n c (ints xs)) (r2 : Rd w w.heap.size B m d (ints ys)) (r3 : Rd w w.heap.size D p q (ints bs)) :
    Calls Try.prog 20 #[.agg #[.slice A n c, .slice B m d], .slice D p q] w (RetCBO w 3 (csM xs ys bs) (csL xs ys bs) (stB xs ys bs)) := by
  rcases hg : goB xs ys bs with _ | _
  · exact specCleanStep_no A B D n c m d p q xs ys bs w h1 h2 h3 z1 z2 z3 r1 r2 r3 hg
  · obtain ⟨v1, v2, v3, _, _⟩ := goB_parts hg
    obtain rfl : n = 16 := by rw [← h1]; exact svB_16 v1
    obtain rfl : m = 16 := by rw [← h2]; exact svB_16 v2
    obtain rfl : p = 16 := by rw [← h3]; exact svB_16 v3
    exact specCleanStep_go A B D c d q xs ys bs w h1 h2 h3 r1 r2 r3 hg
theorem specCleanStep_any (A B D : Option Addr) (n c m d p q : Nat) (xs ys bs : List Int) (w : World) (h1 : xs.length = n) (h2 : ys.length = m) (h3 : bs.length = p) (z1 : n ≤ 1048576) (z2 : m ≤ 1048576) (z3 : p ≤ 1048576)
    (r1 : Rd w w.heap.size A n c (ints xs)) (r2 : Rd w w.heap.size B m d (ints ys)) (r3 : Rd w w.heap.size D p q (ints bs)) :
    Calls Try.prog 20 #[.agg #[.slice A n c, .slice B m d], .slice D p q] w (RetCB w 3 (csM xs ys bs) (csL xs ys bs) (stB xs ys bs)) := (specCleanStep_own A B D n c m d p q xs ys bs w h1 h2 h3 z1 z2 z3 r1 r2 r3).mono fun _ _ h => h.cb
end Go.Proofs.Ytbafniaohjjacab
