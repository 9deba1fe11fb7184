/-
  The contract of CleanStep of the program.
-/
import Derived.Test.YtbafniaohjjacabCleanB
import Derived.Deep.DeepCutAuto
namespace Go.Proofs.Ytbafniaohjjacab
open Go.RowKit

theorem RetCB.no {w w' : World} {E : TypeId} {m l b : List Int} (h : stB m l b = false) (x : Ext w w') : RetCB w E (csM m l b) (csL m l b) (stB m l b) (.returned (.tuple #[.agg #[.slice none 0 0, .slice none 0 0], .bool false])) w' := by
  rw [h]
  exact RetCB.nil (by simp [csM, h]) (by simp [csL, h]) x
theorem Rd.a0 {w : World} {B : Nat} {g off n c : Nat} {s : List Int} (h : Rd w B (some ⟨g, off, none⟩) n c (ints s)) (hs : 0 < s.length) : w.cell? ⟨g, off, none⟩ = some (.int .i64 (at0 s 0)) := h.cell (ints_a0 hs)
set_option maxHeartbeats 1000000 in
/-- the ways on which nothing is done -/
theorem cleanStep_no (A B D : Option Addr) (n c m d p q : Nat) (xs ys bs : List Int) (w : World) (h1 : xs.length = n) (h2 : ys.length = m) (h3 : bs.length = p)
    (r1 : Rd w w.heap.size A n c (ints xs)) (r2 : Rd w w.heap.size B m d (ints ys)) (r3 : Rd w w.heap.size D p q (ints bs)) (hg : goB xs ys bs = false) :
    Calls Try.prog 19 #[.agg #[.slice A n c, .slice B m d], .slice D p q] w (RetCB w 3 (csM xs ys bs) (csL xs ys bs) (stB xs ys bs)) := by
  have hst : stB xs ys bs = false := by simp [stB, hg]
  have x0 : Ext w ((w.alloc (.cells #[.slice A n c, .slice B m d] 25)).alloc (.cells #[.slice none 0 0, .slice none 0 0] 25)) := ((Ext.refl w).alloc _).alloc _
  have HC := Lib.hid (cleanValid_any A B n c m d xs ys _ h1 h2 (r1.ext x0) (r2.ext x0))
  have HD := Lib.hid (fun (W : World) (x : Ext w W) => skyValid_any D p q bs W h3 (r3.ext x))
  have S1 := Lib.hid ((St.new w #[.slice A n c, .slice B m d] 25).ext ((Ext.refl _).alloc (.cells #[.slice none 0 0, .slice none 0 0] 25)))
  have S2 := Lib.hid (St.new (w.alloc (.cells #[.slice A n c, .slice B m d] 25)) #[.slice none 0 0, .slice none 0 0] 25)
  rw [World.size_alloc] at S2
  have HST := Lib.hid hst
  clear hst
  rcases hv : (svB xs && svB ys) with _ | _
  · rw [hv] at HC
    clear h1 h2 h3 r1 r2 r3 hg hv
    go_enter Try.func19, Try.ntmps19
    go_wp2_with fail
    refine HC.out.mono ?_
    rintro e w1 ⟨rfl, x1⟩
    have T := S2.out.ext x1
    have k0 := T.cell0
    have k1 := T.cell1
    have k2 := T.frozen 0
    have k3 := T.frozen 1
    have R := T.put2 (.slice none 0 0) (.slice none 0 0)
    have r0 := R.cell0
    have r1 := R.cell1
    have xx := (x0.trans x1).put2 (g := w.heap.size + 1) (by omega) (.slice none 0 0) (.slice none 0 0)
    clear T R
    go_wp2
    exact bodyPost_ret (v := .tuple #[.agg #[.slice none 0 0, .slice none 0 0], .bool false]) (by simp [results, Try.results19, go_sem, r0, r1]) rfl (RetCB.no HST.out xx)
  rw [hv] at HC
  rcases hb : svB bs with _ | _
  · rw [hb] at HD
    clear h1 h2 h3 r1 r2 r3 hg hv hb
    go_enter Try.func19, Try.ntmps19
    go_wp2_with fail
    refine HC.out.mono ?_
    rintro e w1 ⟨rfl, x1⟩
    go_wp2_with fail
    refine (HD.out _ (x0.trans x1)).mono ?_
    rintro e w_ ⟨rfl, rfl⟩
    have T := S2.out.ext x1
    have k0 := T.cell0
    have k1 := T.cell1
    have k2 := T.frozen 0
    have k3 := T.frozen 1
    have R := T.put2 (.slice none 0 0) (.slice none 0 0)
    have r0 := R.cell0
    have r1 := R.cell1
    have xx := (x0.trans x1).put2 (g := w.heap.size + 1) (by omega) (.slice none 0 0) (.slice none 0 0)
    clear T R
    go_wp2
    exact bodyPost_ret (v := .tuple #[.agg #[.slice none 0 0, .slice none 0 0], .bool false]) (by simp [results, Try.results19, go_sem, r0, r1]) rfl (RetCB.no HST.out xx)
  rw [hb] at HD
  obtain rfl : p = 16 := by rw [← h3]; exact svB_16 hb
  obtain ⟨g, off, rfl⟩ := r3.addr (by rw [ints_length, h3]; omega)
  have HA := Lib.hid (fun (W : World) (x : Ext w W) => (r3.ext x).a0 (by rw [h3]; omega))
  have HP := Lib.hid (fun (W : World) (x : Ext w W) => cleanPeak_any A B n c m d xs ys W h1 h2 (r1.ext x) (r2.ext x))
  have eK : cpK xs ys = (pk ys : Int) := by simp [cpK, hv]
  have eT : cpT xs ys = top ys := by simp [cpT, hv]
  rw [eK, eT, hv] at HP
  have hp := hv
  simp only [Bool.and_eq_true] at hp
  have hbb := svB_IB hb 0
  have htt := top_le hp.2
  by_cases hb0 : at0 bs 0 < 1
  · clear h1 h2 h3 r1 r2 r3 hg hv hb eK eT hp HP
    go_enter Try.func19, Try.ntmps19
    go_wp2_with fail
    refine HC.out.mono ?_
    rintro e w1 ⟨rfl, x1⟩
    go_wp2_with fail
    refine (HD.out _ (x0.trans x1)).mono ?_
    rintro e w_ ⟨rfl, rfl⟩
    have T := S2.out.ext x1
    have k0 := T.cell0
    have k1 := T.cell1
    have k2 := T.frozen 0
    have k3 := T.frozen 1
    have k4 := HA.out _ (x0.trans x1)
    have R := T.put2 (.slice none 0 0) (.slice none 0 0)
    have r0 := R.cell0
    have r1 := R.cell1
    have xx := (x0.trans x1).put2 (g := w.heap.size + 1) (by omega) (.slice none 0 0) (.slice none 0 0)
    clear T R
    go_wp2
    exact bodyPost_ret (v := .tuple #[.agg #[.slice none 0 0, .slice none 0 0], .bool false]) (by simp [results, Try.results19, go_sem, r0, r1]) rfl (RetCB.no HST.out xx)
  · have hlt : top ys < at0 bs 0 := by
      simp [goB, hp.1, hp.2, hb] at hg
      have := hg (by omega)
      omega
    have hb0' : (at0 bs 0 == 0) = false := by simp; omega
    have HQ : Hid (¬ top ys < 0 → top ys / at0 bs 0 < 1) := fun h => by
      have := Int.ediv_eq_zero_of_lt (a := top ys) (b := at0 bs 0) (by omega) hlt
      omega
    by_cases ht0 : top ys < 0
    · clear h1 h2 h3 r1 r2 r3 hg hv hb eK eT hp HQ
      go_enter Try.func19, Try.ntmps19
      go_wp2_with fail
      refine HC.out.mono ?_
      rintro e w1 ⟨rfl, x1⟩
      go_wp2_with fail
      refine (HD.out _ (x0.trans x1)).mono ?_
      rintro e w_ ⟨rfl, rfl⟩
      have k4 := HA.out _ (x0.trans x1)
      have k5 := (S1.out.ext x1).cell0
      have k6 := (S1.out.ext x1).cell1
      go_wp2_with fail
      refine (HP.out _ (x0.trans x1)).mono ?_
      rintro e w2 ⟨rfl, x2⟩
      have T := S2.out.ext (x1.trans x2)
      have k0 := T.cell0
      have k1 := T.cell1
      have k2 := T.frozen 0
      have k3 := T.frozen 1
      have k7 := HA.out _ ((x0.trans x1).trans x2)
      have R := T.put2 (.slice none 0 0) (.slice none 0 0)
      have r0 := R.cell0
      have r1 := R.cell1
      have xx := ((x0.trans x1).trans x2).put2 (g := w.heap.size + 1) (by omega) (.slice none 0 0) (.slice none 0 0)
      clear T R k4 k5 k6
      go_wp2
      exact bodyPost_ret (v := .tuple #[.agg #[.slice none 0 0, .slice none 0 0], .bool false]) (by simp [results, Try.results19, go_sem, r0, r1]) rfl (RetCB.no HST.out xx)
    · have hq := HQ.out ht0
      have hq0 : 0 ≤ top ys / at0 bs 0 := Int.ediv_nonneg (by omega) (by omega)
      clear h1 h2 h3 r1 r2 r3 hg hv hb eK eT hp HQ
      go_enter Try.func19, Try.ntmps19
      go_wp2_with fail
      refine HC.out.mono ?_
      rintro e w1 ⟨rfl, x1⟩
      go_wp2_with fail
      refine (HD.out _ (x0.trans x1)).mono ?_
      rintro e w_ ⟨rfl, rfl⟩
      have k4 := HA.out _ (x0.trans x1)
      have k5 := (S1.out.ext x1).cell0
      have k6 := (S1.out.ext x1).cell1
      go_wp2_with fail
      refine (HP.out _ (x0.trans x1)).mono ?_
      rintro e w2 ⟨rfl, x2⟩
      have T := S2.out.ext (x1.trans x2)
      have k0 := T.cell0
      have k1 := T.cell1
      have k2 := T.frozen 0
      have k3 := T.frozen 1
      have k7 := HA.out _ ((x0.trans x1).trans x2)
      have R := T.put2 (.slice none 0 0) (.slice none 0 0)
      have r0 := R.cell0
      have r1 := R.cell1
      have xx := ((x0.trans x1).trans x2).put2 (g := w.heap.size + 1) (by omega) (.slice none 0 0) (.slice none 0 0)
      clear T R k4 k5 k6
      go_wp2
      exact bodyPost_ret (v := .tuple #[.agg #[.slice none 0 0, .slice none 0 0], .bool false]) (by simp [results, Try.results19, go_sem, r0, r1]) rfl (RetCB.no HST.out xx)
/-- what the middle of a step leaves: the copies of the model and what is left, in a variable at block g -/
def Mid (w : World) (T : TypeId) (xs ls : List Int) (v : Value) (wx : World) : Prop :=
  ∃ (g : Nat) (A3 : Option Addr) (c3 : Nat) (A5 : Option Addr) (c5 l1 i1 l2 i2 : Nat), v = .pointer (some ⟨g, 0, none⟩) ∧ St wx g #[.slice A3 16 c3, .slice A5 16 c5] T ∧ St wx (w.heap.size + 1) #[.slice none 0 0, .slice none 0 0] T ∧
    Sl wx l1 i1 3 A3 16 c3 (ints xs) ∧ Sl wx l2 i2 3 A5 16 c5 (ints ls) ∧ i1 ≤ l2 ∧ i2 ≤ wx.heap.size ∧ (g < l1 ∨ i1 ≤ g) ∧ (g < l2 ∨ i2 ≤ g) ∧ w.heap.size + 1 < l1 ∧ w.heap.size + 1 < g ∧ l1 ≤ i1 ∧ l2 ≤ i2 ∧ Ext w wx
theorem mid_put {w w5 : World} {T : TypeId} {xs ls : List Int} {g c3 c5 l1 i1 l2 i2 : Nat} {u v : Value} {A3 A5 : Option Addr} (Q : St w5 g #[u, v] T) (SR : St w5 (w.heap.size + 1) #[.slice none 0 0, .slice none 0 0] T)
    (s3 : Sl w5 l1 i1 3 A3 16 c3 (ints xs)) (s5 : Sl w5 l2 i2 3 A5 16 c5 (ints ls)) (x : Ext w w5) (h1 : i1 ≤ l2) (h2 : i2 ≤ w5.heap.size) (h3 : g < l1 ∨ i1 ≤ g) (h4 : g < l2 ∨ i2 ≤ g) (h5 : w.heap.size + 1 < l1) (h6 : w.heap.size + 1 < g) (h7 : l1 ≤ i1) (h8 : l2 ≤ i2) :
    Mid w T xs ls (.pointer (some ⟨g, 0, none⟩)) ((w5.setCell ⟨g, 0, none⟩ (.slice A3 16 c3)).setCell ⟨g, 1, none⟩ (.slice A5 16 c5)) :=
  ⟨g, A3, c3, A5, c5, l1, i1, l2, i2, rfl, Q.put2 _ _, (SR.far (p := ⟨g, 0, none⟩) (by show _ ≠ g; omega) _).far (p := ⟨g, 1, none⟩) (by show _ ≠ g; omega) _, (s3.far (p := ⟨g, 0, none⟩) h3 _).far (p := ⟨g, 1, none⟩) h3 _, (s5.far (p := ⟨g, 0, none⟩) h4 _).far (p := ⟨g, 1, none⟩) h4 _, h1, by simpa using h2, h3, h4, h5, h6, h7, h8, x.put2 (by omega) _ _⟩
theorem mid_new {w w5 : World} {T : TypeId} {xs ls : List Int} {c3 c5 l1 i1 l2 i2 : Nat} {A3 A5 : Option Addr} (SR : St w5 (w.heap.size + 1) #[.slice none 0 0, .slice none 0 0] T)
    (s3 : Sl w5 l1 i1 3 A3 16 c3 (ints xs)) (s5 : Sl w5 l2 i2 3 A5 16 c5 (ints ls)) (x : Ext w w5) (h1 : i1 ≤ l2) (h2 : i2 ≤ w5.heap.size) (h5 : w.heap.size + 1 < l1) (h7 : l1 ≤ i1) (h8 : l2 ≤ i2) :
    Mid w T xs ls (.pointer (some ⟨w5.heap.size, 0, none⟩)) (w5.alloc (.cells #[.slice A3 16 c3, .slice A5 16 c5] T)) :=
  have y := (Ext.refl w5).alloc (.cells #[.slice A3 16 c3, .slice A5 16 c5] T)
  ⟨w5.heap.size, A3, c3, A5, c5, l1, i1, l2, i2, rfl, St.new w5 _ T, SR.ext y, s3.ext y, s5.ext y, h1, by simp; omega, .inr (by omega), .inr h2, h5, by omega, h7, h8, x.trans y⟩
set_option maxHeartbeats 2000000 in
theorem cleanStep_go (A B D : Option Addr) (c d q : Nat) (xs ys bs : List Int) (w : World) (h1 : xs.length = 16) (h2 : ys.length = 16) (h3 : bs.length = 16)
    (r1 : Rd w w.heap.size A 16 c (ints xs)) (r2 : Rd w w.heap.size B 16 d (ints ys)) (r3 : Rd w w.heap.size D 16 q (ints bs)) (hg : goB xs ys bs = true) :
    Calls Try.prog 19 #[.agg #[.slice A 16 c, .slice B 16 d], .slice D 16 q] w (RetCB w 3 (csM xs ys bs) (csL xs ys bs) (stB xs ys bs)) := by
  obtain ⟨v1, v2, v3, hb1, hbt⟩ := goB_parts hg
  have x0 : Ext w ((w.alloc (.cells #[.slice A 16 c, .slice B 16 d] 25)).alloc (.cells #[.slice none 0 0, .slice none 0 0] 25)) := ((Ext.refl w).alloc _).alloc _
  have HC := Lib.hid (cleanValid_any A B 16 c 16 d xs ys _ h1 h2 (r1.ext x0) (r2.ext x0))
  have HD := Lib.hid (fun (W : World) (x : Ext w W) => skyValid_any D 16 q bs W h3 (r3.ext x))
  rw [v1, v2] at HC
  rw [v3] at HD
  have S1 := Lib.hid ((St.new w #[.slice A 16 c, .slice B 16 d] 25).ext ((Ext.refl _).alloc (.cells #[.slice none 0 0, .slice none 0 0] 25)))
  have S2 := Lib.hid (St.new (w.alloc (.cells #[.slice A 16 c, .slice B 16 d] 25)) #[.slice none 0 0, .slice none 0 0] 25)
  rw [World.size_alloc] at S2
  obtain ⟨g, off, rfl⟩ := r3.addr (by rw [ints_length, h3]; omega)
  have HA := Lib.hid (fun (W : World) (x : Ext w W) => (r3.ext x).a0 (by rw [h3]; omega))
  have HP := Lib.hid (fun (W : World) (x : Ext w W) => cleanPeak_any A B 16 c 16 d xs ys W h1 h2 (r1.ext x) (r2.ext x))
  have eK : cpK xs ys = (pk ys : Int) := by simp [cpK, v1, v2]
  have eT : cpT xs ys = top ys := by simp [cpT, v1, v2]
  rw [eK, eT, v1, v2] at HP
  have hbb := svB_IB v3 0
  have htt := top_le v2
  have hsn := stN_le hg
  unfold stN at hsn
  obtain ⟨hs1, hs2⟩ := hsn
  have hpl := pk_lt ys
  have hb0' : (at0 bs 0 == 0) = false := by simp; omega
  have HK := Lib.hid (fun (W : World) (x : Ext w W) => slicesClone_any A 16 c xs W h1 (by omega) (by omega) (r1.ext x))
  have HS := Lib.hid (fun (W : World) (x : Ext w W) => shifted_any (some ⟨g, off, none⟩) q bs (pk ys % 4) (pk ys / 4) (pk ys) W h3 (by omega) (by omega) (by omega) (r3.ext x))
  have HT := Lib.hid (fun (W : World) (x : Ext w W) (A4 : Option Addr) (c4 : Nat) (r : Rd W W.heap.size A4 16 c4 (ints (shL bs (pk ys)))) => addTimes_any B A4 d c4 ys (shL bs (pk ys)) (-(top ys / at0 bs 0)) W h2 (shL_length _ _) (fun k => by have := svB_IB v2 k; omega) (fun k => by have a := shL_IB (by omega) (svB_IB v3) (pk ys) k; have := mul_le_of (a := -(top ys / at0 bs 0)) (M := 100000) (by omega) (by omega) a.1 a.2; omega) (r2.ext x) r)
  have HX1 := Lib.hid h1
  have HV1 := Lib.hid v1
  have HG := Lib.hid hg
  clear h1 h2 h3 r1 r2 r3 hg v1 v2 v3 eK eT
  go_enter Try.func19, Try.ntmps19
  go_wp2_with fail
  refine HC.out.mono ?_
  rintro e w1 ⟨rfl, x1⟩
  go_wp2_with fail
  refine (HD.out _ (x0.trans x1)).mono ?_
  rintro e w_ ⟨rfl, rfl⟩
  have k4 := HA.out _ (x0.trans x1)
  have k5 := (S1.out.ext x1).cell0
  have k6 := (S1.out.ext x1).cell1
  go_wp2_with fail
  refine (HP.out _ (x0.trans x1)).mono ?_
  rintro e w2 ⟨rfl, x2⟩
  clear k4 k5 k6
  have E2 := (x0.trans x1).trans x2
  have SB := Lib.hid (S1.out.ext (x1.trans x2))
  have SR := Lib.hid (S2.out.ext (x1.trans x2))
  have k0 := SB.out.cell0
  have k1 := SB.out.cell1
  have k7 := HA.out _ E2
  have z2 := E2.size
  have zr := SR.out.lt
  clear HC HD HA HP S1 S2 x0 x1 x2
  go_wp2_with fail
  have f1 : IntKind.i64.wrap (-(top ys / at0 bs 0)) = -(top ys / at0 bs 0) := IntWalk.i64_in _ (by omega)
  have f2 : ((pk ys : Nat) : Int).tmod 4 = ((pk ys % 4 : Nat) : Int) := by rw [tmod_nn (by omega)]; omega
  have f3 : IntKind.i64.wrap (((pk ys : Nat) : Int) / 4) = ((pk ys / 4 : Nat) : Int) := by rw [IntWalk.i64_in _ (by omega)]; omega
  go_cut [10] (fun v wx => Mid w 25 xs (stL ys bs) v wx)
  case first =>
    go_region_held3 (fun w' => w'.cell? ⟨w.heap.size, 0, none⟩ = some (.slice A 16 c) ∧ w'.cell? ⟨w.heap.size, 1, none⟩ = some (.slice B 16 d)) (exact ⟨(SB.out.ext (by repeat (first | (with_reducible exact Ext.refl _) | (with_reducible assumption) | (with_reducible refine Ext.drew ?_) | (with_reducible refine Ext.alloc ?_ _) | (with_reducible refine Ext.setCell ?_ (by first | omega | (simp; done) | (simp; omega)) _)))).cell0, (SB.out.ext (by repeat (first | (with_reducible exact Ext.refl _) | (with_reducible assumption) | (with_reducible refine Ext.drew ?_) | (with_reducible refine Ext.alloc ?_ _) | (with_reducible refine Ext.setCell ?_ (by first | omega | (simp; done) | (simp; omega)) _)))).cell1⟩)
      (first
        | (go_at_call 29; refine (HK.out _ (E2.trans (by repeat (first | (with_reducible exact Ext.refl _) | (with_reducible assumption) | (with_reducible refine Ext.drew ?_) | (with_reducible refine Ext.alloc ?_ _))))).mono ?_; rintro e w3 ⟨A3, c3, rfl, s3, x3⟩; have E3 : Ext w2 w3 := Ext.trans (by repeat (first | (with_reducible exact Ext.refl _) | (with_reducible assumption) | (with_reducible refine Ext.drew ?_) | (with_reducible refine Ext.alloc ?_ _))) x3; have z3 := E3.size)
        | (go_at_call 39; refine (HS.out _ (E2.trans (by repeat (first | (with_reducible exact Ext.refl _) | (with_reducible assumption) | (with_reducible refine Ext.drew ?_) | (with_reducible refine Ext.alloc ?_ _))))).mono ?_; rintro e w4 ⟨A4, c4, rfl, s4, x4⟩; have E4 : Ext w3 w4 := Ext.trans (by repeat (first | (with_reducible exact Ext.refl _) | (with_reducible assumption) | (with_reducible refine Ext.drew ?_) | (with_reducible refine Ext.alloc ?_ _))) x4; have E4' := E3.trans E4; have z4 := E4.size)
        | (go_at_call 37; refine (HT.out _ (E2.trans (by repeat (first | (with_reducible exact Ext.refl _) | (with_reducible assumption) | (with_reducible refine Ext.drew ?_) | (with_reducible refine Ext.alloc ?_ _)))) A4 c4 (s4.ext (by repeat (first | (with_reducible exact Ext.refl _) | (with_reducible assumption) | (with_reducible refine Ext.drew ?_) | (with_reducible refine Ext.alloc ?_ _)))).rd).mono ?_; rintro e w5 ⟨A5, c5, rfl, s5, x5⟩; have E5 : Ext w4 w5 := Ext.trans (by repeat (first | (with_reducible exact Ext.refl _) | (with_reducible assumption) | (with_reducible refine Ext.drew ?_) | (with_reducible refine Ext.alloc ?_ _))) x5; have E5' := E4'.trans E5; have z5 := E5.size; (try (refine cutP (P := Ext (w2.alloc (.cells #[.slice none 0 0, .slice none 0 0] 25)) w5) ?_ ?_; (focus ((repeat (first | (with_reducible exact Ext.refl _) | (with_reducible refine Ext.drew ?_) | (with_reducible refine Ext.alloc ?_ _) | (with_reducible refine Ext.trans ?_ x5) | (with_reducible refine Ext.trans ?_ x4) | (with_reducible refine Ext.trans ?_ x3))); done)); intro hq; have q := (St.new w2 #[.slice none 0 0, .slice none 0 0] 25).ext hq; have q0 := q.cell0; have q1 := q.cell1; have q2 := q.frozen 0; have q3 := q.frozen 1; have q4 := q.lt; have q5 := Nat.ne_of_lt q4; have Q := Lib.hid q; clear q)); (try (refine cutP (P := Ext (w3.alloc (.cells #[.slice none 0 0, .slice none 0 0] 25)) w5) ?_ ?_; (focus ((repeat (first | (with_reducible exact Ext.refl _) | (with_reducible refine Ext.drew ?_) | (with_reducible refine Ext.alloc ?_ _) | (with_reducible refine Ext.trans ?_ x5) | (with_reducible refine Ext.trans ?_ x4) | (with_reducible refine Ext.trans ?_ x3))); done)); intro hq; have q := (St.new w3 #[.slice none 0 0, .slice none 0 0] 25).ext hq; have q0 := q.cell0; have q1 := q.cell1; have q2 := q.frozen 0; have q3 := q.frozen 1; have q4 := q.lt; have q5 := Nat.ne_of_lt q4; have Q := Lib.hid q; clear q)); (try (refine cutP (P := Ext (w4.alloc (.cells #[.slice none 0 0, .slice none 0 0] 25)) w5) ?_ ?_; (focus ((repeat (first | (with_reducible exact Ext.refl _) | (with_reducible refine Ext.drew ?_) | (with_reducible refine Ext.alloc ?_ _) | (with_reducible refine Ext.trans ?_ x5) | (with_reducible refine Ext.trans ?_ x4) | (with_reducible refine Ext.trans ?_ x3))); done)); intro hq; have q := (St.new w4 #[.slice none 0 0, .slice none 0 0] 25).ext hq; have q0 := q.cell0; have q1 := q.cell1; have q2 := q.frozen 0; have q3 := q.frozen 1; have q4 := q.lt; have q5 := Nat.ne_of_lt q4; have Q := Lib.hid q; clear q))))
    all_goals have y3 := x3.size
    all_goals have y4 := x4.size
    all_goals have y5 := x5.size
    all_goals simp only [World.size_alloc, World.size_drew] at y3 y4 y5 s3 s5
    all_goals go_wp2_with fail
    all_goals go_meet
    · exact (mid_new (SR.out.ext E5') (s3.ext (E4.trans E5)) s5 (E2.trans E5') (by omega) (by omega) (by omega) (by omega) (by omega))
    · exact (mid_put Q.out (SR.out.ext E5') (s3.ext (E4.trans E5)) s5 (E2.trans E5') (by omega) (by omega) (by omega) (by omega) (by omega) (by omega) (by omega) (by omega))
    · exact (mid_put Q.out (SR.out.ext E5') (s3.ext (E4.trans E5)) s5 (E2.trans E5') (by omega) (by omega) (by omega) (by omega) (by omega) (by omega) (by omega) (by omega))
    · exact (mid_put Q.out (SR.out.ext E5') (s3.ext (E4.trans E5)) s5 (E2.trans E5') (by omega) (by omega) (by omega) (by omega) (by omega) (by omega) (by omega) (by omega))
  case rest =>
    obtain ⟨g6, A3, c3, A5, c5, l1, i1, l2, i2, rfl, Sg, SR2, s3, s5, o1, o2, o3, o4, o5, o6, o7, o8, E6⟩ := hcut
    clear f1 f2 f3 k0 k1 k7 HK HS HT
    obtain ⟨g3, off3, rfl, p1, p2, p3⟩ := s3.addr (by rw [ints_length, HX1.out]; omega)
    have hc3 := s3.cell (ints_a0 (s := xs) (k := pk ys) (by rw [HX1.out]; omega))
    have hf3 := s3.frozen (by rw [ints_length, HX1.out]; omega) (off3 + pk ys)
    obtain ⟨m1, m2⟩ := svB_IB HV1.out (pk ys)
    have t3 := s3.set_ (pk ys) (.int .i64 (at0 xs (pk ys) + top ys / at0 bs 0))
    rw [ints_set] at t3
    have t3' : Sl (wc.setCell ⟨g3, off3 + pk ys, none⟩ (.int .i64 (at0 xs (pk ys) + top ys / at0 bs 0))) l1 i1 3 (some ⟨g3, off3, none⟩) 16 c3 (ints (stM xs ys bs)) := t3
    have t5 := s5.far (p := ⟨g3, off3 + pk ys, none⟩) (.inl (by show g3 < _; omega)) (.int .i64 (at0 xs (pk ys) + top ys / at0 bs 0))
    have Sg' := Sg.far (p := ⟨g3, off3 + pk ys, none⟩) (by show _ ≠ g3; omega) (.int .i64 (at0 xs (pk ys) + top ys / at0 bs 0))
    have SR' := SR2.far (p := ⟨g3, off3 + pk ys, none⟩) (by show _ ≠ g3; omega) (.int .i64 (at0 xs (pk ys) + top ys / at0 bs 0))
    have E7 := E6.setCell (p := ⟨g3, off3 + pk ys, none⟩) (by show _ ≤ g3; omega) (.int .i64 (at0 xs (pk ys) + top ys / at0 bs 0))
    have k0 := Sg.cell0
    have k1 := Sg'.cell0
    have k2 := Sg'.cell1
    have HV := Lib.hid (cleanValid_any (some ⟨g3, off3, none⟩) A5 16 c3 16 c5 (stM xs ys bs) (stL ys bs) _ (by rw [stM_length, HX1.out]) stL_length t3'.rd t5.rd)
    clear t3 s3 s5 Sg
    go_wp2_with fail
    rcases hw : (svB (stM xs ys bs) && svB (stL ys bs)) with _ | _
    · rw [hw] at HV
      have HST : Hid (stB xs ys bs = false) := by show _ = _; simp only [stB, Bool.and_assoc, hw, Bool.and_false]
      clear hw
      refine HV.out.mono ?_
      rintro e w8 ⟨rfl, x8⟩
      have T := SR'.ext x8
      clear k0 k1 k2 hc3 hf3
      have k0 := T.cell0
      have k1 := T.cell1
      have k2 := T.frozen 0
      have k3 := T.frozen 1
      have R := T.put2 (.slice none 0 0) (.slice none 0 0)
      have r0 := R.cell0
      have r1 := R.cell1
      have xx := (E7.trans x8).put2 (g := w.heap.size + 1) (by omega) (.slice none 0 0) (.slice none 0 0)
      clear T R
      go_wp2
      exact bodyPost_ret (v := .tuple #[.agg #[.slice none 0 0, .slice none 0 0], .bool false]) (by simp [results, Try.results19, go_sem, r0, r1]) rfl (RetCB.no HST.out xx)
    · rw [hw] at HV
      have HST : Hid (stB xs ys bs = true) := by show _ = _; simp only [stB, Bool.and_assoc, hw, HG.out, Bool.and_true]
      clear hw
      refine HV.out.mono ?_
      rintro e w8 ⟨rfl, x8⟩
      have T := SR'.ext x8
      have G := Sg'.ext x8
      clear k0 k1 k2 hc3 hf3
      have k0 := T.cell0
      have k1 := T.cell1
      have k2 := T.frozen 0
      have k3 := T.frozen 1
      have k4 := G.cell0
      have k5 := G.cell1
      have R := T.put2 (.slice (some ⟨g3, off3, none⟩) 16 c3) (.slice A5 16 c5)
      have r0 := R.cell0
      have r1 := R.cell1
      have xx := (E7.trans x8).put2 (g := w.heap.size + 1) (by omega) (.slice (some ⟨g3, off3, none⟩) 16 c3) (.slice A5 16 c5)
      have z8 := x8.size
      simp only [World.size_setCell] at z8
      have TT := (Two.of (lo := w.heap.size + 1 + 1) (hi := w8.heap.size) (t3'.ext x8) (t5.ext x8) (.inl o1) (by omega) (by omega) (by omega) (by omega)).put2 (g := w.heap.size + 1) (by omega) (.slice (some ⟨g3, off3, none⟩) 16 c3) (.slice A5 16 c5)
      clear T R G
      go_wp2
      refine bodyPost_ret (v := .tuple #[.agg #[.slice (some ⟨g3, off3, none⟩) 16 c3, .slice A5 16 c5], .bool true]) (by simp [results, Try.results19, go_sem, r0, r1]) rfl ?_
      rw [HST.out]
      exact RetCB.mk' (by simp [csM, HST.out]) (by simp [csL, HST.out]) (by rw [stM_length, HX1.out]) stL_length.symm TT (by omega) (by simp) xx
theorem cleanStep_any (A B D : Option Addr) (n c m d p q : Nat) (xs ys bs : List Int) (w : World) (h1 : xs.length = n) (h2 : ys.length = m) (h3 : bs.length = p)
    (r1 : Rd w w.heap.size A n c (ints xs)) (r2 : Rd w w.heap.size B m d (ints ys)) (r3 : Rd w w.heap.size D p q (ints bs)) :
    Calls Try.prog 19 #[.agg #[.slice A n c, .slice B m d], .slice D p q] w (RetCB w 3 (csM xs ys bs) (csL xs ys bs) (stB xs ys bs)) := by
  rcases hg : goB xs ys bs with _ | _
  · exact cleanStep_no A B D n c m d p q xs ys bs w h1 h2 h3 r1 r2 r3 hg
  · obtain ⟨v1, v2, v3, _, _⟩ := goB_parts hg
    obtain rfl : n = 16 := by rw [← h1]; exact svB_16 v1
    obtain rfl : m = 16 := by rw [← h2]; exact svB_16 v2
    obtain rfl : p = 16 := by rw [← h3]; exact svB_16 v3
    exact cleanStep_go A B D c d q xs ys bs w h1 h2 h3 r1 r2 r3 hg
end Go.Proofs.Ytbafniaohjjacab
