/-
  Contracts of the closing amplitude and of CloseSame of the program.
-/
import Derived.Test.YtpjglnmnfmibnabCloseB
import Derived.Test.YtpjglnmnfmibnabCloseP
import Derived.Test.YtpjglnmnfmibnabAppA
import Derived.Deep.QuietTactic
import Derived.BigQuiet
namespace Go.Proofs.Ytpjglnmnfmibnab
open Go.RowKit
set_option linter.unusedSimpArgs false
set_option linter.unusedVariables false

theorem tmod_nn2 (a b : Nat) : (a : Int).tmod (b : Int) = ((a % b : Nat) : Int) := by
  rw [Int.tmod_eq_emod_of_nonneg (Int.natCast_nonneg a)]; rfl
set_option maxHeartbeats 1000000 in
theorem gcd_any (a b : Nat) (w : World) (ha : a ≤ 4611686018427387904) (hb : b ≤ 4611686018427387904) :
    Calls Try.prog 77 #[.int .i64 (a : Int), .int .i64 (b : Int)] w fun e w' => e = .returned (.int .i64 ((Nat.gcd a b : Nat) : Int)) ∧ Ext w w' := by
  go_enter Try.func77, Try.ntmps77
  go_wp2
  go_loopw [0, 1] (fun x y wr => ∃ (c d : Nat), x = .int .i64 (c : Int) ∧ y = .int .i64 (d : Int) ∧ Hid (Nat.gcd c d = Nat.gcd a b) ∧ c ≤ 4611686018427387904 ∧ d ≤ 4611686018427387904 ∧ Quiet w wr) (fun _ y _ => (intOf y).toNat)
  case atStart => exact ⟨a, b, rfl, rfl, rfl, ha, hb, Quiet.refl _⟩
  case round =>
    obtain ⟨c, d, rfl, rfl, hg, hc, hd, hq⟩ := hrel
    by_cases h0 : d = 0
    · subst h0
      have hG : Hid ((c : Int) = ((Nat.gcd a b : Nat) : Int)) := by show _ = _; rw [← hg.out, Nat.gcd_zero_right]
      go_wp2
      go_ret
      exact ⟨ret_int hG.out, hq.ext⟩
    · have hd0 : ((d : Int) != 0) = true := by simpa using h0
      have hdz : ((d : Int) == 0) = false := by simpa using h0
      have hm := tmod_nn2 c d
      have hlt := Nat.mod_lt c (show 0 < d by omega)
      have hG : Hid (Nat.gcd d (c % d) = Nat.gcd a b) := by show _ = _; rw [← hg.out, Nat.gcd_comm c d, Nat.gcd_rec d c, Nat.gcd_comm]
      have hdi : ¬ (d : Int) = 0 := by omega
      go_wp2
      go_quiet (fail)
      go_wp2
      go_roundw
      case rel => exact ⟨d, c % d, rfl, by first | rfl | simp, hG.out, hd, by omega, hq.drewN _⟩
      case measure => show ((c : Int) % (d : Int)).toNat < ((d : Int)).toNat; omega
/-- what CloseAmp returns for antennas of a valid list -/
theorem vgA_range {N : Nat} {l : VL} (hN : N < 8) (hl : l.length = nb N) (hr : rgB 1000000 l = true) {i j : Nat} (hi : i < N) (hj : j < N) (h : i ≠ j) : 1 ≤ vgA N l i j ∧ vgA N l i j ≤ 1000000 := by
  have := rgB_at hr (k := bAt N i j) (by rw [hl]; exact bAt_lt hN hi hj h)
  exact ⟨this.1, this.2.1⟩
theorem mul_in1 {a b A B : Int} (h1 : 1 ≤ a) (h2 : a ≤ A) (h3 : 1 ≤ b) (h4 : b ≤ B) : 1 ≤ a * b ∧ a * b ≤ A * B :=
  ⟨by have := Int.mul_le_mul h1 h3 (by omega) (by omega); simpa using this, Int.mul_le_mul h2 h4 (by omega) (by omega)⟩
theorem good4 {N i j k m : Nat} : antsTo (N : Int) (qs [i, j, k, m]) 4 ↔ (i < N ∧ j < N ∧ k < N ∧ m < N) ∧ dis4 i j k m := by
  constructor
  · intro h
    have h0 := h 0 (by omega) _ (show (qs [i, j, k, m])[0]? = some (i : Int) from rfl)
    have h1 := h 1 (by omega) _ (show (qs [i, j, k, m])[1]? = some (j : Int) from rfl)
    have h2 := h 2 (by omega) _ (show (qs [i, j, k, m])[2]? = some (k : Int) from rfl)
    have h3 := h 3 (by omega) _ (show (qs [i, j, k, m])[3]? = some (m : Int) from rfl)
    simp [qs] at h0 h1 h2 h3
    unfold dis4
    omega
  · rintro ⟨⟨a1, a2, a3, a4⟩, d⟩
    unfold dis4 at d
    intro t ht x hx
    match t, ht with
    | 0, _ => simp [qs] at hx ⊢; omega
    | 1, _ => simp [qs] at hx ⊢; omega
    | 2, _ => simp [qs] at hx ⊢; omega
    | 3, _ => simp [qs] at hx ⊢; omega
set_option maxHeartbeats 1000000 in
theorem amp_any (N i j b b1 : Nat) (A : Option Addr) (n1 c1 : Nat) (l : VL) (w : World) (hN : N < 8) (hi : i < N) (hj : j < N) (hne : i ≠ j) (hl : l.length = nb N) (z1 : n1 = nb N) (r1 : Rd w w.heap.size A n1 c1 (pairs l)) (s0 : St w b #[.int .i64 (N : Int)] 3) (s1 : St w b1 #[.slice A n1 c1] 23) :
    Calls Try.prog 76 #[.int .i64 (i : Int), .int .i64 (j : Int), .pointer (some ⟨b1, 0, none⟩), .pointer (some ⟨b, 0, none⟩)] w fun e w' => e = .returned (.int .i64 (vgA N l i j)) ∧ Ext w w' := by
  have hlt := bAt_lt hN hi hj hne
  obtain ⟨g, off, rfl⟩ := r1.addr (by rw [pairs_length, hl]; omega)
  have HA : Hid (vgA N l i j = vAm l (bAt N i j)) := rfl
  have c0 := r1.fst (some_v (l := l) (k := bAt N i j) (by rw [hl]; exact hlt))
  have c1' := s0.one'
  have c2 := s1.one'
  have h2 : (bAt N i j : Int) < (n1 : Int) := by omega
  have h3 : (0 : Int) ≤ (bAt N i j : Int) := by omega
  have h4 : bAt N i j < n1 := by omega
  have HB := Lib.hid (baseAt_any N i j)
  clear s0 s1 r1 hlt hl z1
  generalize hq : bAt N i j = q at *
  have HQ := Lib.hid hq
  clear hq
  go_enter Try.func76, Try.ntmps76
  go_wp2
  go_quiet ((go_at_call 43; exact quiet_same ((baseAt_any N i j _ hN hi hj hne).mono (fun _ _ h => ⟨h.1.trans (by rw [HQ.out]), h.2⟩))))
  go_wp2
  go_ret
  exact ⟨ret_int HA.out.symm, (Ext.refl w).drewN _⟩
set_option maxRecDepth 100000 in
set_option maxHeartbeats 4000000 in
theorem closeAmp_any (N : Nat) (A : Option Addr) (n1 c1 : Nat) (l : VL) (i j k m : Nat) (w : World) (hv : visB (N : Int) l = true) (hl : l.length = n1) (hi : i < N) (hj : j < N) (hk : k < N) (hm : m < N) (r : Rd w w.heap.size A n1 c1 (pairs l)) :
    Calls Try.prog 58 #[.int .i64 (N : Int), .slice A n1 c1, .int .i64 (i : Int), .int .i64 (j : Int), .int .i64 (k : Int), .int .i64 (m : Int)] w fun e w' => e = .returned (.tuple #[.int .i64 (camT N l i j k m), .int .i64 (camB N l i j k m), .bool (decide (dis4 i j k m))]) ∧ Ext w w' := by
  obtain ⟨N', e, g1, g2, g3, g4⟩ := visB_parts hv
  obtain rfl : N' = N := by omega
  clear e
  have hn1 : n1 = nb N' := by omega
  have hnb := nb_le N' (by omega)
  have hz1 : n1 ≤ 21 := by omega
  have HN1 := Lib.hid hn1
  have G3 := Lib.hid g3
  have G4 := Lib.hid g4
  obtain ⟨w0, hw0⟩ : ∃ w0, w0 = (w.alloc (.cells #[.int .i64 (N' : Int)] 3)).alloc (.cells #[.slice A n1 c1] 23) := ⟨_, rfl⟩
  have x0 : Ext w w0 := by rw [hw0]; exact ((Ext.refl w).alloc _).alloc _
  have s0 : St w0 w.heap.size #[.int .i64 (N' : Int)] 3 := by rw [hw0]; exact (St.new w _ _).ext ((Ext.refl _).alloc _)
  have s1 : St w0 (w.heap.size + 1) #[.slice A n1 c1] 23 := by
    rw [hw0]; have := St.new (w.alloc (.cells #[.int .i64 (N' : Int)] 3)) #[.slice A n1 c1] 23
    rw [World.size_alloc] at this
    exact this
  have HV := Lib.hid (fun (W : World) (x : Ext w W) => visValid_any (N' : Int) A n1 c1 l W hl (by omega) (r.ext x))
  have HVB := Lib.hid hv
  have HW0 := Lib.hid hw0
  have hd4 : antsTo (N' : Int) (qs [i, j, k, m]) 4 ↔ dis4 i j k m := by rw [good4]; exact ⟨fun h => h.2, fun h => ⟨⟨hi, hj, hk, hm⟩, h⟩⟩
  have HD := Lib.hid hd4
  clear hd4 hv hw0 hn1 hnb hl g3 g4
  have k0 := s0.one'
  have k1 := s1.one'
  go_enter Try.func58, Try.ntmps58
  go_wp2_with fail
  rw [← HW0.out]
  refine (HV.out _ x0).mono ?_
  rintro e w1 ⟨rfl, x1⟩
  rw [HVB.out]
  replace s0 := s0.ext x1
  replace s1 := s1.ext x1
  have y1 := x0.trans x1
  clear k0 k1 x0 x1
  have k0 := s0.one'
  have k1 := s1.one'
  have sq : Sl (w1.alloc (.cells #[.int .i64 (i : Int), .int .i64 (j : Int), .int .i64 (k : Int), .int .i64 (m : Int)] 3)) w1.heap.size (w1.heap.size + 1) 3 (some ⟨w1.heap.size, 0, none⟩) 4 4 (ints (qs [i, j, k, m])) := Sl.new w1 3 _ 4 4 (Nat.le_refl _)
  have x2 : Ext w1 (w1.alloc (.cells #[.int .i64 (i : Int), .int .i64 (j : Int), .int .i64 (k : Int), .int .i64 (m : Int)] 3)) := (Ext.refl _).alloc _
  have HSQ := Lib.hid sq
  clear sq
  go_wp2_with fail
  refine (differentAnts_any (N' : Int) _ 4 4 (qs [i, j, k, m]) _ (by simp [qs]) (by omega) HSQ.out.rd).mono ?_
  rintro e w2 ⟨rfl, ok, rfl, hok⟩
  rw [HD.out] at hok
  replace s0 := s0.ext x2
  replace s1 := s1.ext x2
  have y2 := y1.trans x2
  clear k0 k1 x2 y1
  generalize (w1.alloc (.cells #[.int .i64 (i : Int), .int .i64 (j : Int), .int .i64 (k : Int), .int .i64 (m : Int)] 3)) = w2 at *
  have k0 := s0.one'
  have k1 := s1.one'
  cases ok
  · have hnd : ¬ dis4 i j k m := fun h => by have := hok.2 h; cases this
    have HT : Hid (camT N' l i j k m = 0 ∧ camB N' l i j k m = 0 ∧ decide (dis4 i j k m) = false) := ⟨by unfold camT; rw [if_neg hnd], by unfold camB; rw [if_neg hnd], decide_eq_false hnd⟩
    clear hok hnd
    go_wp2
    go_ret3
    exact ⟨by rw [HT.out.1, HT.out.2.1, HT.out.2.2]; rfl, y2⟩
  have hd := hok.1 rfl
  have HDD := Lib.hid hd
  have HT : Hid (camT N' l i j k m = caT N' l i j k m / gcdI (caT N' l i j k m) (caB N' l i j k m) ∧ camB N' l i j k m = caB N' l i j k m / gcdI (caT N' l i j k m) (caB N' l i j k m) ∧ decide (dis4 i j k m) = true) := ⟨by unfold camT; rw [if_pos hd], by unfold camB; rw [if_pos hd], decide_eq_true hd⟩
  obtain ⟨d1, d2, d3, d4, d5, d6⟩ := hd
  have q1 := vgA_range (show N' < 8 by omega) G3.out G4.out hi hj d1
  have q2 := vgA_range (show N' < 8 by omega) G3.out G4.out hk hm d6
  have q3 := vgA_range (show N' < 8 by omega) G3.out G4.out hi hk d2
  have q4 := vgA_range (show N' < 8 by omega) G3.out G4.out hj hm d5
  obtain ⟨t1, t2⟩ := mul_in1 q1.1 q1.2 q2.1 q2.2
  obtain ⟨t3, t4⟩ := mul_in1 q3.1 q3.2 q4.1 q4.2
  have HC1 := Lib.hid (fun (W : World) (x : Ext w2 W) => amp_any N' i j w.heap.size (w.heap.size + 1) A n1 c1 l W (by omega) hi hj d1 G3.out HN1.out (r.ext (y2.trans x)) (s0.ext x) (s1.ext x))
  have HC2 := Lib.hid (fun (W : World) (x : Ext w2 W) => amp_any N' k m w.heap.size (w.heap.size + 1) A n1 c1 l W (by omega) hk hm d6 G3.out HN1.out (r.ext (y2.trans x)) (s0.ext x) (s1.ext x))
  have HC3 := Lib.hid (fun (W : World) (x : Ext w2 W) => amp_any N' i k w.heap.size (w.heap.size + 1) A n1 c1 l W (by omega) hi hk d2 G3.out HN1.out (r.ext (y2.trans x)) (s0.ext x) (s1.ext x))
  have HC4 := Lib.hid (fun (W : World) (x : Ext w2 W) => amp_any N' j m w.heap.size (w.heap.size + 1) A n1 c1 l W (by omega) hj hm d5 G3.out HN1.out (r.ext (y2.trans x)) (s0.ext x) (s1.ext x))
  have HTT : Hid (caT N' l i j k m = vgA N' l i j * vgA N' l k m ∧ caB N' l i j k m = vgA N' l i k * vgA N' l j m) := ⟨rfl, rfl⟩
  have f1 : IntKind.i64.wrap (vgA N' l i j * vgA N' l k m) = vgA N' l i j * vgA N' l k m := IntWalk.i64_in _ (by omega)
  have f2 : IntKind.i64.wrap (vgA N' l i k * vgA N' l j m) = vgA N' l i k * vgA N' l j m := IntWalk.i64_in _ (by omega)
  obtain ⟨T, hT⟩ : ∃ T : Nat, caT N' l i j k m = (T : Int) := Int.eq_ofNat_of_zero_le (by rw [HTT.out.1]; omega)
  obtain ⟨B, hB⟩ : ∃ B : Nat, caB N' l i j k m = (B : Int) := Int.eq_ofNat_of_zero_le (by rw [HTT.out.2]; omega)
  have hG : gcdI (caT N' l i j k m) (caB N' l i j k m) = ((Nat.gcd T B : Nat) : Int) := by rw [hT, hB]; rfl
  have hT1 : vgA N' l i j * vgA N' l k m = (T : Int) := hT
  have hB1 : vgA N' l i k * vgA N' l j m = (B : Int) := hB
  rw [hT1] at f1 t1 t2
  rw [hB1] at f2 t3 t4
  have hgp : 0 < Nat.gcd T B := Nat.gcd_pos_of_pos_left _ (by omega)
  have hgz : ((Nat.gcd T B : Nat) : Int) ≠ 0 := by omega
  have hgz' : (((Nat.gcd T B : Nat) : Int) == 0) = false := by simpa using hgz
  have HGG := Lib.hid hG
  have HTB := Lib.hid (And.intro hT hB)
  clear hG hT hB d1 d2 d3 d4 d5 d6 hok q1 q2 q3 q4
  go_wp2_with (first
    | (go_at_call 76; (with_reducible refine (HC1.out _ (by repeat (first | (with_reducible exact Ext.refl _) | (with_reducible assumption) | (with_reducible refine Ext.drew ?_) | (with_reducible refine Ext.alloc ?_ _)))).mono ?_); rintro e w3 ⟨rfl, x3⟩)
    | (go_at_call 76; (with_reducible refine (HC2.out _ (by repeat (first | (with_reducible exact Ext.refl _) | (with_reducible assumption) | (with_reducible refine Ext.drew ?_) | (with_reducible refine Ext.alloc ?_ _)))).mono ?_); rintro e w4 ⟨rfl, x4'⟩; have x4 := Ext.trans x3 x4')
    | (go_at_call 76; (with_reducible refine (HC3.out _ (by repeat (first | (with_reducible exact Ext.refl _) | (with_reducible assumption) | (with_reducible refine Ext.drew ?_) | (with_reducible refine Ext.alloc ?_ _)))).mono ?_); rintro e w5 ⟨rfl, x5'⟩; have x5 := Ext.trans x4 x5')
    | (go_at_call 76; (with_reducible refine (HC4.out _ (by repeat (first | (with_reducible exact Ext.refl _) | (with_reducible assumption) | (with_reducible refine Ext.drew ?_) | (with_reducible refine Ext.alloc ?_ _)))).mono ?_); rintro e w6 ⟨rfl, x6'⟩; have x6 := Ext.trans x5 x6'))
  refine (gcd_any T B _ (by omega) (by omega)).mono ?_
  rintro e w7 ⟨rfl, x7⟩
  obtain ⟨G, hGn⟩ : ∃ G, Nat.gcd T B = G := ⟨_, rfl⟩
  rw [hGn] at hgp hgz hgz' HGG ⊢
  have hx : Ext w w7 := (y2.trans x6).trans x7
  clear hGn HC1 HC2 HC3 HC4 x3 x4' x4 x5' x5 x6' x6 x7 hT1 hB1 f1 f2 s0 s1 k0 k1 y2
  have e1 : IntKind.i64.wrap ((T : Int) / (G : Int)) = (T : Int) / (G : Int) := IntWalk.i64_in _ (by
    have := Int.ediv_nonneg (show (0 : Int) ≤ T by omega) (show (0 : Int) ≤ G by omega)
    have := Int.ediv_le_self (G : Int) (show (0 : Int) ≤ T by omega)
    omega)
  have e2 : IntKind.i64.wrap ((B : Int) / (G : Int)) = (B : Int) / (G : Int) := IntWalk.i64_in _ (by
    have := Int.ediv_nonneg (show (0 : Int) ≤ B by omega) (show (0 : Int) ≤ G by omega)
    have := Int.ediv_le_self (G : Int) (show (0 : Int) ≤ B by omega)
    omega)
  have e3 : (T : Int).tdiv (G : Int) = (T : Int) / (G : Int) := Int.tdiv_eq_ediv_of_nonneg (by omega)
  have e4 : (B : Int).tdiv (G : Int) = (B : Int) / (G : Int) := Int.tdiv_eq_ediv_of_nonneg (by omega)
  have hgz2 : ¬ G = 0 := by omega
  go_wp2
  go_quiet (fail)
  go_wp2
  go_ret3
  exact ⟨by rw [HT.out.1, HT.out.2.1, HT.out.2.2, HGG.out, HTB.out.1, HTB.out.2]; rfl, hx.drewN _⟩
end Go.Proofs.Ytpjglnmnfmibnab
