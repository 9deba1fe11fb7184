/-
  Contract of CloseSame of the reference.
-/
import Derived.Test.YtpjglnmnfmibnabCloseS
namespace Go.Proofs.Ytpjglnmnfmibnab
open Go.RowKit
set_option linter.unusedSimpArgs false
set_option linter.unusedVariables false

theorem fieldA (a b : Value) (W : World) : (Instr.field 30 (.agg #[a, b]) 0).run Try.prog W = .ok a W := by kernel_rfl
theorem specClosePhase_any (N : Nat) (A : Option Addr) (m cc : Nat) (l : VL) (a b c : Nat) (w : World) (hv : visB (N : Int) l = true) (hm : l.length = m) (ha : a < N) (hb : b < N) (hc : c < N) (r : Rd w w.heap.size A m cc (pairs l)) :
    Calls Try.prog 61 #[.int .i64 (N : Int), .slice A m cc, .int .i64 (a : Int), .int .i64 (b : Int), .int .i64 (c : Int)] w fun e w' => e = .returned (.tuple #[.int .i64 (cph N l a b c), .bool (decide (dis3 a b c))]) ∧ Ext w w' := by
  have s1 : Sl (w.alloc (.cells #[.int .i64 (a : Int), .int .i64 (b : Int), .int .i64 (c : Int)] 3)) w.heap.size (w.heap.size + 1) 3 (some ⟨w.heap.size, 0, none⟩) 3 3 (ints (qs [a, b, c])) := Sl.new w 3 _ 3 3 (Nat.le_refl _)
  have x1 : Ext w (w.alloc (.cells #[.int .i64 (a : Int), .int .i64 (b : Int), .int .i64 (c : Int)] 3)) := (Ext.refl w).alloc _
  have HC := Lib.hid (closeLoop_any N A _ m cc 3 l a b c _ hv hm ha hb hc (r.ext x1) s1.rd)
  clear s1 hv hm r
  go_enter Try.func61, Try.ntmps61
  go_wp2_with fail
  refine HC.out.mono ?_
  rintro e w2 ⟨rfl, x2⟩
  go_wp2
  go_ret2
  exact ⟨rfl, x1.trans x2⟩
set_option maxRecDepth 100000 in
set_option maxHeartbeats 4000000 in
theorem specCloseAmp_any (N : Nat) (A : Option Addr) (n1 c1 : Nat) (l : VL) (i j k m : Nat) (w : World) (hv : visB (N : Int) l = true) (hl : l.length = n1) (hi : i < N) (hj : j < N) (hk : k < N) (hm : m < N) (r : Rd w w.heap.size A n1 c1 (pairs l)) :
    Calls Try.prog 62 #[.int .i64 (N : Int), .slice A n1 c1, .int .i64 (i : Int), .int .i64 (j : Int), .int .i64 (k : Int), .int .i64 (m : Int)] w fun e w' => e = .returned (.tuple #[.int .i64 (camT N l i j k m), .int .i64 (camB N l i j k m), .bool (decide (dis4 i j k m))]) ∧ Ext w w' := by
  obtain ⟨N', e, g1, g2, g3, g4⟩ := visB_parts hv
  obtain rfl : N' = N := by omega
  clear e
  have hn1 : n1 = nb N' := by omega
  have hnb := nb_le N' (by omega)
  have hz1 : n1 ≤ 21 := by omega
  have HN1 := Lib.hid hn1
  have G3 := Lib.hid g3
  have G4 := Lib.hid g4
  have HV := Lib.hid (specVisValid_any (N' : Int) A n1 c1 l w hl (by omega) r)
  have HVB := Lib.hid hv
  have HR := Lib.hid r
  have hd4 : antsTo (N' : Int) (qs [i, j, k, m]) 4 ↔ dis4 i j k m := by rw [good4]; exact ⟨fun h => h.2, fun h => ⟨⟨hi, hj, hk, hm⟩, h⟩⟩
  have HD := Lib.hid hd4
  clear hd4 hv hn1 hnb hl g3 g4 r
  have hfl := fieldA
  go_enter Try.func62, Try.ntmps62
  go_wp2_with fail
  refine HV.out.mono ?_
  rintro e w1 ⟨rfl, q, rfl⟩
  rw [HVB.out]
  obtain ⟨w1, hw1⟩ : ∃ x, x = w.drewN q := ⟨_, rfl⟩
  have y1 : Ext w w1 := by rw [hw1]; exact (Ext.refl w).drewN q
  rw [← hw1]
  clear hw1
  have sq : Sl (w1.alloc (.cells #[.int .i64 (i : Int), .int .i64 (j : Int), .int .i64 (k : Int), .int .i64 (m : Int)] 3)) w1.heap.size (w1.heap.size + 1) 3 (some ⟨w1.heap.size, 0, none⟩) 4 4 (ints (qs [i, j, k, m])) := Sl.new w1 3 _ 4 4 (Nat.le_refl _)
  have x2 : Ext w1 (w1.alloc (.cells #[.int .i64 (i : Int), .int .i64 (j : Int), .int .i64 (k : Int), .int .i64 (m : Int)] 3)) := (Ext.refl _).alloc _
  have HSQ := Lib.hid sq
  clear sq
  go_wp2_with fail
  refine (l13Apart_any (N' : Int) _ 4 4 (qs [i, j, k, m]) _ (by omega) (by omega) (by simp [qs]) (by omega) HSQ.out.rd).mono ?_
  rintro e w2 ⟨hq, ok, rfl, hok⟩
  rw [HD.out] at hok
  have y2 : Ext w w2 := (y1.trans x2).trans hq.ext
  clear x2 y1 hq HSQ
  cases ok
  · have hnd : ¬ dis4 i j k m := fun h => by have := hok.2 h; cases this
    have HT : Hid (camT N' l i j k m = 0 ∧ camB N' l i j k m = 0 ∧ decide (dis4 i j k m) = false) := ⟨by unfold camT; rw [if_neg hnd], by unfold camB; rw [if_neg hnd], decide_eq_false hnd⟩
    clear hok hnd
    go_wp2
    go_ret3
    exact ⟨by rw [HT.out.1, HT.out.2.1, HT.out.2.2]; rfl, y2⟩
  have hd := hok.1 rfl
  have HT : Hid (camT N' l i j k m = caT N' l i j k m / gcdI (caT N' l i j k m) (caB N' l i j k m) ∧ camB N' l i j k m = caB N' l i j k m / gcdI (caT N' l i j k m) (caB N' l i j k m) ∧ decide (dis4 i j k m) = true) := ⟨by unfold camT; rw [if_pos hd], by unfold camB; rw [if_pos hd], decide_eq_true hd⟩
  obtain ⟨d1, d2, d3, d4, d5, d6⟩ := hd
  have q1 := vgA_range (show N' < 8 by omega) G3.out G4.out hi hj d1
  have q2 := vgA_range (show N' < 8 by omega) G3.out G4.out hk hm d6
  have q3 := vgA_range (show N' < 8 by omega) G3.out G4.out hi hk d2
  have q4 := vgA_range (show N' < 8 by omega) G3.out G4.out hj hm d5
  obtain ⟨t1, t2⟩ := mul_in1 q1.1 q1.2 q2.1 q2.2
  obtain ⟨t3, t4⟩ := mul_in1 q3.1 q3.2 q4.1 q4.2
  have hN8 : N' < 8 := by omega
  have HC1 := Lib.hid (fun (W : World) (x : Ext w W) => l11Get_any N' A n1 c1 l i j W hN8 hi hj d1 G3.out HN1.out G4.out (HR.out.ext x))
  have HC2 := Lib.hid (fun (W : World) (x : Ext w W) => l11Get_any N' A n1 c1 l k m W hN8 hk hm d6 G3.out HN1.out G4.out (HR.out.ext x))
  have HC3 := Lib.hid (fun (W : World) (x : Ext w W) => l11Get_any N' A n1 c1 l i k W hN8 hi hk d2 G3.out HN1.out G4.out (HR.out.ext x))
  have HC4 := Lib.hid (fun (W : World) (x : Ext w W) => l11Get_any N' A n1 c1 l j m W hN8 hj hm d5 G3.out HN1.out G4.out (HR.out.ext x))
  have HTT : Hid (caT N' l i j k m = vgA N' l i j * vgA N' l k m ∧ caB N' l i j k m = vgA N' l i k * vgA N' l j m) := ⟨rfl, rfl⟩
  have f1 : IntKind.i64.wrap (vgA N' l i j * vgA N' l k m) = vgA N' l i j * vgA N' l k m := IntWalk.i64_in _ (by omega)
  have f2 : IntKind.i64.wrap (vgA N' l i k * vgA N' l j m) = vgA N' l i k * vgA N' l j m := IntWalk.i64_in _ (by omega)
  obtain ⟨T, hT⟩ : ∃ T : Nat, caT N' l i j k m = (T : Int) := Int.eq_ofNat_of_zero_le (by rw [HTT.out.1]; omega)
  obtain ⟨B, hB⟩ : ∃ B : Nat, caB N' l i j k m = (B : Int) := Int.eq_ofNat_of_zero_le (by rw [HTT.out.2]; omega)
  have hG : gcdI (caT N' l i j k m) (caB N' l i j k m) = ((Nat.gcd T B : Nat) : Int) := by rw [hT, hB]; rfl
  have hT1 : vgA N' l i j * vgA N' l k m = (T : Int) := hT
  have hB1 : vgA N' l i k * vgA N' l j m = (B : Int) := hB
  rw [hT1] at f1 t1 t2
  rw [hB1] at f2 t3 t4
  have hgp : 0 < Nat.gcd T B := Nat.gcd_pos_of_pos_left _ (by omega)
  have hgz : ((Nat.gcd T B : Nat) : Int) ≠ 0 := by omega
  have hgz' : (((Nat.gcd T B : Nat) : Int) == 0) = false := by simpa using hgz
  have HGG := Lib.hid hG
  have HTB := Lib.hid (And.intro hT hB)
  clear hG hT hB d1 d2 d3 d4 d5 d6 hok q1 q2 q3 q4
  go_wp2_with (first
    | (go_at_call 67; (with_reducible refine (HC1.out _ (by repeat (first | (with_reducible exact Ext.refl _) | (with_reducible assumption) | (with_reducible refine Ext.drew ?_) | (with_reducible refine Ext.alloc ?_ _)))).mono ?_); rintro e w3 ⟨rfl, x3'⟩; have x3 := Ext.trans y2 x3')
    | (go_at_call 67; (with_reducible refine (HC2.out _ (by repeat (first | (with_reducible exact Ext.refl _) | (with_reducible assumption) | (with_reducible refine Ext.drew ?_) | (with_reducible refine Ext.alloc ?_ _)))).mono ?_); rintro e w4 ⟨rfl, x4'⟩; have x4 := Ext.trans x3 x4')
    | (go_at_call 67; (with_reducible refine (HC3.out _ (by repeat (first | (with_reducible exact Ext.refl _) | (with_reducible assumption) | (with_reducible refine Ext.drew ?_) | (with_reducible refine Ext.alloc ?_ _)))).mono ?_); rintro e w5 ⟨rfl, x5'⟩; have x5 := Ext.trans x4 x5')
    | (go_at_call 67; (with_reducible refine (HC4.out _ (by repeat (first | (with_reducible exact Ext.refl _) | (with_reducible assumption) | (with_reducible refine Ext.drew ?_) | (with_reducible refine Ext.alloc ?_ _)))).mono ?_); rintro e w6 ⟨rfl, x6'⟩; have x6 := Ext.trans x5 x6'))
  refine (l13Gcd_any T B _ (by omega) (by omega)).mono ?_
  rintro e w7 ⟨rfl, rfl⟩
  obtain ⟨G, hGn⟩ : ∃ G, Nat.gcd T B = G := ⟨_, rfl⟩
  rw [hGn] at hgp hgz hgz' HGG ⊢
  have hx : Ext w w6 := x6
  clear hGn HC1 HC2 HC3 HC4 x3' x3 x4' x4 x5' x5 x6' x6 hT1 hB1 f1 f2 y2
  have e3 : (T : Int).tdiv (G : Int) = (T : Int) / (G : Int) := Int.tdiv_eq_ediv_of_nonneg (by omega)
  have e4 : (B : Int).tdiv (G : Int) = (B : Int) / (G : Int) := Int.tdiv_eq_ediv_of_nonneg (by omega)
  have hgz2 : ¬ G = 0 := by omega
  have e1 : IntKind.i64.wrap ((T : Int) / (G : Int)) = (T : Int) / (G : Int) := IntWalk.i64_in _ (by
    have := Int.ediv_nonneg (show (0 : Int) ≤ T by omega) (show (0 : Int) ≤ G by omega)
    have := Int.ediv_le_self (G : Int) (show (0 : Int) ≤ T by omega)
    omega)
  have e2 : IntKind.i64.wrap ((B : Int) / (G : Int)) = (B : Int) / (G : Int) := IntWalk.i64_in _ (by
    have := Int.ediv_nonneg (show (0 : Int) ≤ B by omega) (show (0 : Int) ≤ G by omega)
    have := Int.ediv_le_self (G : Int) (show (0 : Int) ≤ B by omega)
    omega)
  go_wp2
  go_quiet (fail)
  go_wp2
  go_ret3
  exact ⟨by rw [HT.out.1, HT.out.2.1, HT.out.2.2, HGG.out, HTB.out.1, HTB.out.2]; rfl, hx.drewN _⟩
set_option maxHeartbeats 4000000 in
theorem l13Four_any (N : Nat) (A B D : Option Addr) (n1 c1 n2 c2 d : Nat) (a b : VL) (i j k m : Nat) (w : World) (hva : visB (N : Int) a = true) (hvb : visB (N : Int) b = true) (ha : a.length = n1) (hb : b.length = n2) (hi : i < N) (hj : j < N) (hk : k < N) (hm : m < N)
    (r1 : Rd w w.heap.size A n1 c1 (pairs a)) (r2 : Rd w w.heap.size B n2 c2 (pairs b)) (r3 : Rd w w.heap.size D 4 d (ints (qs [i, j, k, m]))) :
    Calls Try.prog 30 #[.int .i64 (N : Int), .slice A n1 c1, .slice B n2 c2, .slice D 4 d] w fun e w' => (∃ ok : Bool, e = .returned (.bool ok) ∧ (ok = true ↔ same4 N a b i j k m)) ∧ Ext w w' := by
  have HA := Lib.hid (fun (W : World) (x : Ext w W) => specCloseAmp_any N A n1 c1 a i j k m W hva ha hi hj hk hm (r1.ext x))
  have HB := Lib.hid (fun (W : World) (x : Ext w W) => specCloseAmp_any N B n2 c2 b i j k m W hvb hb hi hj hk hm (r2.ext x))
  have HR := Lib.hid r3
  obtain ⟨g, off, rfl⟩ := r3.addr (by rw [ints_length, qs_length]; simp)
  have HC : Hid (∀ W, Ext w W → W.cell? ⟨g, off, none⟩ = some (.int .i64 (i : Int)) ∧ W.cell? ⟨g, off + 1, none⟩ = some (.int .i64 (j : Int)) ∧ W.cell? ⟨g, off + 2, none⟩ = some (.int .i64 (k : Int)) ∧ W.cell? ⟨g, off + 3, none⟩ = some (.int .i64 (m : Int))) := fun W x =>
    ⟨by have := (HR.out.ext x).cell (k := 0) (u := .int .i64 (i : Int)) rfl; rwa [Nat.add_zero] at this, (HR.out.ext x).cell (k := 1) (u := .int .i64 (j : Int)) rfl, (HR.out.ext x).cell (k := 2) (u := .int .i64 (k : Int)) rfl, (HR.out.ext x).cell (k := 3) (u := .int .i64 (m : Int)) rfl⟩
  have HNO : Hid (¬ dis4 i j k m → same4 N a b i j k m) := fun h => ⟨by unfold camT; rw [if_neg h, if_neg h], by unfold camB; rw [if_neg h, if_neg h]⟩
  clear hva hvb ha hb r1 r2 r3
  go_enter Try.func30, Try.ntmps30
  go_wp2_with fail
  go_region_held3 (fun w' => w'.cell? ⟨g, off, none⟩ = some (.int .i64 (i : Int)) ∧ w'.cell? ⟨g, off + 1, none⟩ = some (.int .i64 (j : Int)) ∧ w'.cell? ⟨g, off + 2, none⟩ = some (.int .i64 (k : Int)) ∧ w'.cell? ⟨g, off + 3, none⟩ = some (.int .i64 (m : Int))) (exact HC.out _ (by repeat (first | (with_reducible exact Ext.refl _) | (with_reducible assumption) | (with_reducible refine Ext.drew ?_) | (with_reducible refine Ext.alloc ?_ _))))
    (first | (go_at_call 62; refine (HA.out _ (by repeat (first | (with_reducible exact Ext.refl _) | (with_reducible assumption) | (with_reducible refine Ext.drew ?_) | (with_reducible refine Ext.alloc ?_ _)))).mono ?_; rintro e w3 ⟨rfl, x3⟩; have E3 : Ext w w3 := Ext.trans (by repeat (first | (with_reducible exact Ext.refl _) | (with_reducible assumption) | (with_reducible refine Ext.drew ?_) | (with_reducible refine Ext.alloc ?_ _))) x3))
  rename_i hheld
  clear hheld x3
  have HE3 := Lib.hid E3
  clear E3
  obtain ⟨u1, hu1⟩ : ∃ u, camT N a i j k m = u := ⟨_, rfl⟩
  obtain ⟨u3, hu3⟩ : ∃ u, camB N a i j k m = u := ⟨_, rfl⟩
  obtain ⟨u2, hu2⟩ : ∃ u, camT N b i j k m = u := ⟨_, rfl⟩
  obtain ⟨u4, hu4⟩ : ∃ u, camB N b i j k m = u := ⟨_, rfl⟩
  obtain ⟨dd, hdd⟩ : ∃ u, decide (dis4 i j k m) = u := ⟨_, rfl⟩
  rw [hu2, hu4, hdd] at HB
  rw [hu1, hu3, hdd]
  have HSM : Hid (same4 N a b i j k m ↔ u1 = u2 ∧ u3 = u4) := by show _ ↔ _; unfold same4; rw [hu1, hu2, hu3, hu4]
  have HDD := Lib.hid hdd
  clear hu1 hu2 hu3 hu4 hdd HA
  go_wp2_with fail
  go_region_held3 (fun w' => w'.cell? ⟨g, off, none⟩ = some (.int .i64 (i : Int)) ∧ w'.cell? ⟨g, off + 1, none⟩ = some (.int .i64 (j : Int)) ∧ w'.cell? ⟨g, off + 2, none⟩ = some (.int .i64 (k : Int)) ∧ w'.cell? ⟨g, off + 3, none⟩ = some (.int .i64 (m : Int))) (exact HC.out _ (HE3.out.trans (by repeat (first | (with_reducible exact Ext.refl _) | (with_reducible assumption) | (with_reducible refine Ext.drew ?_) | (with_reducible refine Ext.alloc ?_ _)))))
    (first | (go_at_call 62; refine (HB.out _ (HE3.out.trans (by repeat (first | (with_reducible exact Ext.refl _) | (with_reducible assumption) | (with_reducible refine Ext.drew ?_) | (with_reducible refine Ext.alloc ?_ _))))).mono ?_; rintro e w4 ⟨rfl, x4⟩; have E4 : Ext w3 w4 := Ext.trans (by repeat (first | (with_reducible exact Ext.refl _) | (with_reducible assumption) | (with_reducible refine Ext.drew ?_) | (with_reducible refine Ext.alloc ?_ _))) x4))
  rename_i hheld
  clear hheld x4 HB HC HR
  have E5 := HE3.out.trans E4
  cases dd
  · have hnd : ¬ dis4 i j k m := of_decide_eq_false HDD.out
    have HY := Lib.hid (HNO.out hnd)
    clear hnd
    go_wp2
    go_ret
    exact ⟨⟨_, rfl, by simp [HY.out]⟩, E5⟩
  by_cases q1 : u1 = u2
  · by_cases q2 : u3 = u4
    · have b1 : (u1 == u2) = true := by simpa using q1
      have b2 : (u3 == u4) = true := by simpa using q2
      have HY := Lib.hid (HSM.out.2 ⟨q1, q2⟩)
      clear q1 q2
      go_wp2
      go_ret
      exact ⟨⟨_, rfl, by simp [HY.out]⟩, E5⟩
    · have b1 : (u1 == u2) = true := by simpa using q1
      have b2 : (u3 == u4) = false := by simpa using q2
      have HN : Hid (¬ same4 N a b i j k m) := fun h => q2 (HSM.out.1 h).2
      clear q1 q2
      go_wp2
      go_ret
      exact ⟨⟨_, rfl, by simp [HN.out]⟩, E5⟩
  · have b1 : (u1 == u2) = false := by simpa using q1
    have HN : Hid (¬ same4 N a b i j k m) := fun h => q1 (HSM.out.1 h).1
    clear q1
    go_wp2
    go_ret
    exact ⟨⟨_, rfl, by simp [HN.out]⟩, E5⟩
set_option maxHeartbeats 4000000 in
theorem l13Phases_any (N : Nat) (A B : Option Addr) (n1 c1 n2 c2 : Nat) (a b : VL) (w : World) (hva : visB (N : Int) a = true) (hvb : visB (N : Int) b = true) (ha : a.length = n1) (hb : b.length = n2)
    (r1 : Rd w w.heap.size A n1 c1 (pairs a)) (r2 : Rd w w.heap.size B n2 c2 (pairs b)) :
    Calls Try.prog 29 #[.int .i64 (N : Int), .slice A n1 c1, .slice B n2 c2] w fun e w' => (∃ ok : Bool, e = .returned (.bool ok) ∧ (ok = true ↔ ∀ i j k, i < N → j < N → k < N → cph N a i j k = cph N b i j k)) ∧ Ext w w' := by
  have HP1 := Lib.hid (fun (W : World) (x : Ext w W) (i j k : Nat) (hi : i < N) (hj : j < N) (hk : k < N) => specClosePhase_any N A n1 c1 a i j k W hva ha hi hj hk (r1.ext x))
  have HP2 := Lib.hid (fun (W : World) (x : Ext w W) (i j k : Nat) (hi : i < N) (hj : j < N) (hk : k < N) => specClosePhase_any N B n2 c2 b i j k W hvb hb hi hj hk (r2.ext x))
  have hN7 : N ≤ 7 := by
    obtain ⟨N', e, _, g2, _, _⟩ := visB_parts hva
    omega
  clear hva hvb ha hb r1 r2
  go_enter Try.func29, Try.ntmps29
  go_wp2_with fail
  go_loopw [7] (fun v wr => ∃ i : Nat, i ≤ N ∧ v = .int .i64 i ∧ Hid (∀ i' j' k', i' < i → i' < j' → j' < k' → k' < N → cph N a i' j' k' = cph N b i' j' k') ∧ Ext w wr) (fun v _ => N - (intOf v).toNat)
  case atStart => exact ⟨0, Nat.zero_le _, rfl, fun _ _ _ h => by omega, Ext.refl _⟩
  case round =>
    obtain ⟨i, hi, rfl, hf, he⟩ := hrel
    by_cases hlt : i < N
    · have h2 : (i : Int) < (N : Int) := by omega
      go_wp2_with fail
      go_loopw [8] (fun v wr => ∃ j : Nat, i + 1 ≤ j ∧ j ≤ N ∧ v = .int .i64 j ∧ Hid (∀ j' k', j' < j → i < j' → j' < k' → k' < N → cph N a i j' k' = cph N b i j' k') ∧ Ext w wr) (fun v _ => N - (intOf v).toNat)
      case atStart => exact ⟨i + 1, Nat.le_refl _, by omega, by go_num, fun _ _ h => by omega, he⟩
      case round =>
        clear he
        obtain ⟨j, hj1, hj, rfl, hf2, he⟩ := hrel
        by_cases hlt2 : j < N
        · have h3 : (j : Int) < (N : Int) := by omega
          go_wp2_with fail
          go_loopw [9] (fun v wr => ∃ k : Nat, j + 1 ≤ k ∧ k ≤ N ∧ v = .int .i64 k ∧ Hid (∀ k', k' < k → j < k' → cph N a i j k' = cph N b i j k') ∧ Ext w wr) (fun v _ => N - (intOf v).toNat)
          case atStart => exact ⟨j + 1, Nat.le_refl _, by omega, by go_num, fun _ h => by omega, he⟩
          case round =>
            clear he
            obtain ⟨k, hk1, hk, rfl, hf3, he⟩ := hrel
            by_cases hlt3 : k < N
            · have h4 : (k : Int) < (N : Int) := by omega
              go_wp2_with fail
              refine (HP1.out _ he i j k hlt hlt2 hlt3).mono ?_
              rintro e w3 ⟨rfl, x3⟩
              have e3 := he.trans x3
              go_wp2_with fail
              refine (HP2.out _ e3 i j k hlt hlt2 hlt3).mono ?_
              rintro e w4 ⟨rfl, x4⟩
              have e4 := e3.trans x4
              by_cases q1 : cph N a i j k = cph N b i j k
              · have HS : Hid (∀ k', k' < k + 1 → j < k' → cph N a i j k' = cph N b i j k') := fun k' h h' => by
                  by_cases e : k' = k
                  · subst e; exact q1
                  · exact hf3.out k' (by omega) h'
                have b1 : (cph N a i j k != cph N b i j k) = false := by simpa using q1
                clear q1
                generalize cph N a i j k = u1 at *
                generalize cph N b i j k = u2 at *
                go_wp2
                go_roundw
                case rel => exact ⟨k + 1, by omega, by omega, by go_num, HS.out, e4⟩
                case measure => simp [intOf]; omega
              · have HNO : Hid (¬ ∀ i j k, i < N → j < N → k < N → cph N a i j k = cph N b i j k) := fun h => q1 (h i j k hlt hlt2 hlt3)
                have b1 : (cph N a i j k != cph N b i j k) = true := by simpa using q1
                clear q1
                generalize cph N a i j k = u1 at *
                generalize cph N b i j k = u2 at *
                go_wp2
                go_ret
                exact ⟨⟨_, rfl, by simp only [Bool.false_eq_true, false_iff]; exact HNO.out⟩, e4⟩
            · have e : k = N := by omega
              have hd : decide (k < N) = false := by simpa using hlt3
              have HS : Hid (∀ j' k', j' < j + 1 → i < j' → j' < k' → k' < N → cph N a i j' k' = cph N b i j' k') := fun j' k' p0 p1 p2 p3 => by
                by_cases e' : j' = j
                · subst e'; exact hf3.out k' (by omega) p2
                · exact hf2.out j' k' (by omega) p1 p2 p3
              go_wp2
              go_roundw
              case rel => exact ⟨j + 1, by omega, by omega, by go_num, HS.out, he⟩
              case measure => simp [intOf]; omega
        · have e : j = N := by omega
          have hd : decide (j < N) = false := by simpa using hlt2
          have HS : Hid (∀ i' j' k', i' < i + 1 → i' < j' → j' < k' → k' < N → cph N a i' j' k' = cph N b i' j' k') := fun i' j' k' p0 p1 p2 p3 => by
            by_cases e' : i' = i
            · subst e'; exact hf2.out j' k' (by omega) p1 p2 p3
            · exact hf.out i' j' k' (by omega) p1 p2 p3
          go_wp2
          go_roundw
          case rel => exact ⟨i + 1, by omega, by go_num, HS.out, he⟩
          case measure => simp [intOf]; omega
    · have e : i = N := by omega
      have hd : decide (i < N) = false := by simpa using hlt
      have HY : Hid (∀ i j k, i < N → j < N → k < N → cph N a i j k = cph N b i j k) := cph_all fun i' j' k' h1 h2 h3 => hf.out i' j' k' (by omega) h1 h2 h3
      go_wp2
      go_ret
      exact ⟨⟨_, rfl, by simp only [true_iff]; exact HY.out⟩, he⟩
set_option maxHeartbeats 8000000 in
theorem specCloseSame_any (n : Int) (A B : Option Addr) (n1 c1 n2 c2 : Nat) (a b : VL) (w : World) (ha : a.length = n1) (hb : b.length = n2) (z1 : n1 ≤ 1048576) (z2 : n2 ≤ 1048576)
    (r1 : Rd w w.heap.size A n1 c1 (pairs a)) (r2 : Rd w w.heap.size B n2 c2 (pairs b)) :
    Calls Try.prog 10 #[.int .i64 n, .slice A n1 c1, .slice B n2 c2] w fun e w' => e = .returned (.bool (csB n a b)) ∧ Ext w w' := by
  have HV1 := Lib.hid (fun (W : World) (x : Ext w W) => specVisValid_any n A n1 c1 a W ha (by omega) (r1.ext x))
  have HV2 := Lib.hid (fun (W : World) (x : Ext w W) => specVisValid_any n B n2 c2 b W hb (by omega) (r2.ext x))
  rcases h1 : visB n a with _ | _
  · have H1 := Lib.hid h1
    have HF := Lib.hid (csB_no (n := n) (a := a) (b := b) (by rw [h1]; rfl))
    clear h1 ha hb r1 r2
    go_enter Try.func10, Try.ntmps10
    go_wp2_with fail
    refine (HV1.out _ (Ext.refl _)).mono ?_
    rintro e w1 ⟨rfl, q, rfl⟩
    rw [H1.out]
    go_wp2
    go_ret
    exact ⟨ret_bool HF.out.symm, (Ext.refl _).drewN q⟩
  rcases h2 : visB n b with _ | _
  · have H1 := Lib.hid h1
    have H2 := Lib.hid h2
    have HF := Lib.hid (csB_no (n := n) (a := a) (b := b) (by rw [h2, Bool.and_false]))
    clear h1 h2 ha hb r1 r2
    go_enter Try.func10, Try.ntmps10
    go_wp2_with fail
    refine (HV1.out _ (Ext.refl _)).mono ?_
    rintro e w1 ⟨rfl, q, rfl⟩
    rw [H1.out]
    go_wp2_with fail
    refine (HV2.out _ ((Ext.refl _).drewN q)).mono ?_
    rintro e w2 ⟨rfl, q2, rfl⟩
    rw [H2.out]
    go_wp2
    go_ret
    exact ⟨ret_bool HF.out.symm, ((Ext.refl _).drewN _)⟩
  obtain ⟨N, rfl, g1, g2, _, _⟩ := visB_parts h1
  have HPH := Lib.hid (fun (W : World) (x : Ext w W) => l13Phases_any N A B n1 c1 n2 c2 a b W h1 h2 ha hb (r1.ext x) (r2.ext x))
  have HSA := Lib.hid (fun (W : World) (x : Ext w W) (D : Option Addr) (d i j k m : Nat) (hi : i < N) (hj : j < N) (hk : k < N) (hm : m < N) (r3 : Rd W W.heap.size D 4 d (ints (qs [i, j, k, m]))) => l13Four_any N A B D n1 c1 n2 c2 d a b i j k m W h1 h2 ha hb hi hj hk hm (r1.ext x) (r2.ext x) r3)
  have HB : Hid (csB (N : Int) a b = true ↔ (∀ i j k, i < N → j < N → k < N → cph N a i j k = cph N b i j k) ∧ ∀ i j k m, i < N → j < N → k < N → m < N → same4 N a b i j k m) := by
    show _ ↔ _
    rw [csB_iff]
    exact ⟨fun h => ⟨fun i j k p1 p2 p3 => (h.2.2 i j k p1 p2 p3).1, fun i j k m p1 p2 p3 p4 => (h.2.2 i j k p1 p2 p3).2 m p4⟩, fun h => ⟨h1, h2, fun i j k p1 p2 p3 => ⟨h.1 i j k p1 p2 p3, fun m p4 => h.2 i j k m p1 p2 p3 p4⟩⟩⟩
  have H1 := Lib.hid h1
  have H2 := Lib.hid h2
  clear h1 h2 ha hb r1 r2
  go_enter Try.func10, Try.ntmps10
  go_wp2_with fail
  refine (HV1.out _ (Ext.refl _)).mono ?_
  rintro e w1 ⟨rfl, q, rfl⟩
  rw [H1.out]
  go_wp2_with fail
  refine (HV2.out _ ((Ext.refl _).drewN q)).mono ?_
  rintro e w2 ⟨rfl, q2, rfl⟩
  rw [H2.out]
  go_wp2_with fail
  refine (HPH.out _ ((Ext.refl _).drewN _)).mono ?_
  rintro e w3 ⟨⟨ok, rfl, hok⟩, x3⟩
  have y3 : Ext w w3 := Ext.trans ((Ext.refl w).drewN _) x3
  have HOK := Lib.hid hok
  clear hok x3
  cases ok
  · have HNO : Hid (csB (N : Int) a b = false) := by
      show _ = _
      rcases e : csB (N : Int) a b with _ | _
      · rfl
      · have := HOK.out.2 (HB.out.1 e).1
        cases this
    go_wp2
    go_ret
    exact ⟨ret_bool HNO.out.symm, y3⟩
  have HPO := Lib.hid (HOK.out.1 rfl)
  clear HOK
  have HB2 : Hid (csB (N : Int) a b = true ↔ ∀ i j k m, i < N → j < N → k < N → m < N → same4 N a b i j k m) := by
    show _ ↔ _
    rw [HB.out]
    exact ⟨fun h => h.2, fun h => ⟨HPO.out, h⟩⟩
  clear HB HPO HPH HV1 HV2
  go_wp2_with fail
  go_loopw [7] (fun v wr => ∃ i : Nat, i ≤ N ∧ v = .int .i64 i ∧ Hid (∀ i' j' k' m', i' < i → j' < N → k' < N → m' < N → same4 N a b i' j' k' m') ∧ Ext w wr) (fun v _ => N - (intOf v).toNat)
  case atStart => exact ⟨0, Nat.zero_le _, rfl, fun _ _ _ _ h => by omega, y3⟩
  case round =>
    obtain ⟨i, hi, rfl, hf, he⟩ := hrel
    by_cases hlt : i < N
    · have h2 : (i : Int) < (N : Int) := by omega
      go_wp2_with fail
      go_loopw [8] (fun v wr => ∃ j : Nat, j ≤ N ∧ v = .int .i64 j ∧ Hid (∀ j' k' m', j' < j → k' < N → m' < N → same4 N a b i j' k' m') ∧ Ext w wr) (fun v _ => N - (intOf v).toNat)
      case atStart => exact ⟨0, Nat.zero_le _, rfl, fun _ _ _ h => by omega, he⟩
      case round =>
        clear he
        obtain ⟨j, hj, rfl, hf2, he⟩ := hrel
        by_cases hlt2 : j < N
        · have h3 : (j : Int) < (N : Int) := by omega
          go_wp2_with fail
          go_loopw [9] (fun v wr => ∃ k : Nat, k ≤ N ∧ v = .int .i64 k ∧ Hid (∀ k' m', k' < k → m' < N → same4 N a b i j k' m') ∧ Ext w wr) (fun v _ => N - (intOf v).toNat)
          case atStart => exact ⟨0, Nat.zero_le _, rfl, fun _ _ h => by omega, he⟩
          case round =>
            clear he
            obtain ⟨k, hk, rfl, hf3, he⟩ := hrel
            by_cases hlt3 : k < N
            · have h4 : (k : Int) < (N : Int) := by omega
              go_wp2_with fail
              go_loopw [10] (fun v wr => ∃ m : Nat, m ≤ N ∧ v = .int .i64 m ∧ Hid (∀ m', m' < m → same4 N a b i j k m') ∧ Ext w wr) (fun v _ => N - (intOf v).toNat)
              case atStart => exact ⟨0, Nat.zero_le _, rfl, fun _ h => by omega, he⟩
              case round =>
                clear he
                obtain ⟨m, hm, rfl, hf4, he⟩ := hrel
                by_cases hlt4 : m < N
                · have h5 : (m : Int) < (N : Int) := by omega
                  have sq : Sl (wr.alloc (.cells #[.int .i64 (i : Int), .int .i64 (j : Int), .int .i64 (k : Int), .int .i64 (m : Int)] 3)) wr.heap.size (wr.heap.size + 1) 3 (some ⟨wr.heap.size, 0, none⟩) 4 4 (ints (qs [i, j, k, m])) := Sl.new wr 3 _ 4 4 (Nat.le_refl _)
                  have x2 : Ext w (wr.alloc (.cells #[.int .i64 (i : Int), .int .i64 (j : Int), .int .i64 (k : Int), .int .i64 (m : Int)] 3)) := he.alloc _
                  have HC := Lib.hid (HSA.out _ x2 _ 4 i j k m hlt hlt2 hlt3 hlt4 sq.rd)
                  clear sq
                  go_wp2_with fail
                  refine HC.out.mono ?_
                  rintro e w5 ⟨⟨ok, rfl, hok⟩, x5⟩
                  have e5 := x2.trans x5
                  have HOK := Lib.hid hok
                  clear hok HC
                  cases ok
                  · have HNO : Hid (csB (N : Int) a b = false) := by
                      show _ = _
                      rcases e : csB (N : Int) a b with _ | _
                      · rfl
                      · have := HOK.out.2 ((HB2.out.1 e) i j k m hlt hlt2 hlt3 hlt4)
                        cases this
                    go_wp2
                    go_ret
                    exact ⟨ret_bool HNO.out.symm, e5⟩
                  · have HS : Hid (∀ m', m' < m + 1 → same4 N a b i j k m') := fun m' p0 => by
                      by_cases e : m' = m
                      · subst e; exact HOK.out.1 rfl
                      · exact hf4.out m' (by omega)
                    go_wp2
                    go_roundw
                    case rel => exact ⟨m + 1, by omega, by go_num, HS.out, e5⟩
                    case measure => simp [intOf]; omega
                · have e : m = N := by omega
                  have hd : decide (m < N) = false := by simpa using hlt4
                  have HS : Hid (∀ k' m', k' < k + 1 → m' < N → same4 N a b i j k' m') := fun k' m' p0 p1 => by
                    by_cases e' : k' = k
                    · subst e'; exact hf4.out m' (by omega)
                    · exact hf3.out k' m' (by omega) p1
                  go_wp2
                  go_roundw
                  case rel => exact ⟨k + 1, by omega, by go_num, HS.out, he⟩
                  case measure => simp [intOf]; omega
            · have e : k = N := by omega
              have hd : decide (k < N) = false := by simpa using hlt3
              have HS : Hid (∀ j' k' m', j' < j + 1 → k' < N → m' < N → same4 N a b i j' k' m') := fun j' k' m' p0 p1 p2 => by
                by_cases e' : j' = j
                · subst e'; exact hf3.out k' m' (by omega) p2
                · exact hf2.out j' k' m' (by omega) p1 p2
              go_wp2
              go_roundw
              case rel => exact ⟨j + 1, by omega, by go_num, HS.out, he⟩
              case measure => simp [intOf]; omega
        · have e : j = N := by omega
          have hd : decide (j < N) = false := by simpa using hlt2
          have HS : Hid (∀ i' j' k' m', i' < i + 1 → j' < N → k' < N → m' < N → same4 N a b i' j' k' m') := fun i' j' k' m' p0 p1 p2 p3 => by
            by_cases e' : i' = i
            · subst e'; exact hf2.out j' k' m' (by omega) p2 p3
            · exact hf.out i' j' k' m' (by omega) p1 p2 p3
          go_wp2
          go_roundw
          case rel => exact ⟨i + 1, by omega, by go_num, HS.out, he⟩
          case measure => simp [intOf]; omega
    · have e : i = N := by omega
      have hd : decide (i < N) = false := by simpa using hlt
      have HY : Hid (csB (N : Int) a b = true) := HB2.out.2 fun i' j' k' m' p0 p1 p2 p3 => hf.out i' j' k' m' (by omega) p1 p2 p3
      go_wp2
      go_ret
      exact ⟨ret_bool HY.out.symm, he⟩
end Go.Proofs.Ytpjglnmnfmibnab
