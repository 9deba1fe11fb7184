/-
  Contracts of the laws' own helpers over cleanings: toClean, szClean, eqClean, sameClean, markClean, heldClean, spot.
-/
import Derived.Test.YtbafniaohjjacaaCleanB
namespace Go.Proofs.Ytbafniaohjjacaa
open Go.RowKit

theorem szIntS_any (A : Option Addr) (n c : Nat) (l : Int) (w : World) (hn : n ≤ 9223372036854775807) (hl : 0 ≤ l) (hl' : l ≤ 1048576) :
    Calls Try.prog 42 #[.slice A n c, .int .i64 l] w fun e w' => e = .returned (.int .i64 (if l - (n : Int) < 0 then -1 else l - (n : Int))) ∧ w = w' := by
  by_cases h : l - (n : Int) < 0
  · go_enter Try.func42, Try.ntmps42
    go_wp2
    go_ret
    exact ⟨rfl, rfl⟩
  · go_enter Try.func42, Try.ntmps42
    go_wp2
    go_ret
    exact ⟨rfl, rfl⟩
set_option maxHeartbeats 400000 in
theorem szClean_yes (A B : Option Addr) (n c m d : Nat) (w : World) (h : (n : Int) + m ≤ 1048576) :
    Calls Try.prog 19 #[.agg #[.slice A n c, .slice B m d], .int .i64 1048576] w fun e w' => e = .returned (.int .i64 (1048576 - (n : Int) - m)) ∧ Ext w w' := by
  have H1 := Lib.hid (fun (W : World) => szIntS_any A n c 1048576 W (by omega) (by omega) (by omega))
  have H2 := Lib.hid (fun (W : World) => szIntS_any B m d (1048576 - (n : Int)) W (by omega) (by omega) (by omega))
  rw [if_neg (by omega)] at H1
  rw [if_neg (by omega)] at H2
  go_enter Try.func19, Try.ntmps19
  go_wp2_with fail
  refine (H1.out _).mono ?_
  rintro e w' ⟨rfl, rfl⟩
  go_wp2_with fail
  refine (H2.out _).mono ?_
  rintro e w' ⟨rfl, rfl⟩
  go_wp2
  go_ret
  exact ⟨rfl, (Ext.refl w).alloc _⟩
set_option maxHeartbeats 400000 in
theorem szClean_no (A B : Option Addr) (n c m d : Nat) (w : World) (hn : n ≤ 9223372036854775807) (hm : m ≤ 9223372036854775807) (h : ¬ (n : Int) + m ≤ 1048576) :
    Calls Try.prog 19 #[.agg #[.slice A n c, .slice B m d], .int .i64 1048576] w fun e w' => e = .returned (.int .i64 (-1)) ∧ Ext w w' := by
  have H1 := Lib.hid (fun (W : World) => szIntS_any A n c 1048576 W (by omega) (by omega) (by omega))
  by_cases h1 : (1048576 : Int) - (n : Int) < 0
  · rw [if_pos h1] at H1
    clear h
    go_enter Try.func19, Try.ntmps19
    go_wp2_with fail
    refine (H1.out _).mono ?_
    rintro e w' ⟨rfl, rfl⟩
    go_wp2
    go_ret
    exact ⟨rfl, (Ext.refl w).alloc _⟩
  · have H2 := Lib.hid (fun (W : World) => szIntS_any B m d (1048576 - (n : Int)) W (by omega) (by omega) (by omega))
    rw [if_neg h1] at H1
    rw [if_pos (by omega)] at H2
    go_enter Try.func19, Try.ntmps19
    go_wp2_with fail
    refine (H1.out _).mono ?_
    rintro e w' ⟨rfl, rfl⟩
    go_wp2_with fail
    refine (H2.out _).mono ?_
    rintro e w' ⟨rfl, rfl⟩
    go_wp2
    go_ret
    exact ⟨rfl, (Ext.refl w).alloc _⟩
set_option maxHeartbeats 400000 in
theorem eqClean_any (A B C D : Option Addr) (n c m d p q r s : Nat) (xs ys us vs : List Int) (w : World) (h1 : xs.length = n) (h2 : ys.length = m) (h3 : us.length = p) (h4 : vs.length = r) (z1 : n ≤ 1048576) (z2 : m ≤ 1048576)
    (r1 : Rd w w.heap.size A n c (ints xs)) (r2 : Rd w w.heap.size B m d (ints ys)) (r3 : Rd w w.heap.size C p q (ints us)) (r4 : Rd w w.heap.size D r s (ints vs)) :
    Calls Try.prog 14 #[.agg #[.slice A n c, .slice B m d], .agg #[.slice C p q, .slice D r s]] w fun e w' => e = .returned (.bool (decide (xs = us) && decide (ys = vs))) ∧ Ext w w' := by
  have x0 : Ext w ((w.alloc (.cells #[.slice A n c, .slice B m d] 24)).alloc (.cells #[.slice C p q, .slice D r s] 24)) := ((Ext.refl w).alloc _).alloc _
  have H1 := Lib.hid (eqIntS_any A C n p c q xs us _ h1 h3 z1 (r1.ext x0) (r3.ext x0))
  have H2 := Lib.hid (fun (W : World) (x : Ext w W) => eqIntS_any B D m r d s ys vs W h2 h4 z2 (r2.ext x) (r4.ext x))
  have S1 := Lib.hid ((St.new w #[.slice A n c, .slice B m d] 24).ext ((Ext.refl _).alloc (.cells #[.slice C p q, .slice D r s] 24)))
  have S2 := Lib.hid (St.new (w.alloc (.cells #[.slice A n c, .slice B m d] 24)) #[.slice C p q, .slice D r s] 24)
  rw [World.size_alloc] at S2
  clear h1 h2 h3 h4 r1 r2 r3 r4
  rcases e1 : decide (xs = us) with _ | _
  · rw [e1] at H1
    clear e1
    go_enter Try.func14, Try.ntmps14
    go_wp2_with fail
    refine H1.out.mono ?_
    rintro e w1 ⟨rfl, y1⟩
    go_wp2
    go_ret
    exact ⟨ret_bool (by simp), x0.trans y1.ext⟩
  · rw [e1] at H1
    clear e1
    go_enter Try.func14, Try.ntmps14
    go_wp2_with fail
    refine H1.out.mono ?_
    rintro e w1 ⟨rfl, y1⟩
    have k1 := (S1.out.ext y1.ext).cell1
    have k2 := (S2.out.ext y1.ext).cell1
    go_wp2_with fail
    refine (H2.out _ (x0.trans y1.ext)).mono ?_
    rintro e w2 ⟨rfl, y2⟩
    rcases e2 : decide (ys = vs) with _ | _
    · go_wp2
      go_ret
      exact ⟨ret_bool (by rw [e2]; rfl), (x0.trans y1.ext).trans y2.ext⟩
    · go_wp2
      go_ret
      exact ⟨ret_bool (by rw [e2]; rfl), (x0.trans y1.ext).trans y2.ext⟩
set_option maxHeartbeats 400000 in
theorem sameClean_any (A B C D : Option Addr) (n c m d p q r s : Nat) (xs ys us vs : List Int) (w : World) (h1 : xs.length = n) (h2 : ys.length = m) (h3 : us.length = p) (h4 : vs.length = r) (z1 : n ≤ 1048576) (z2 : m ≤ 1048576)
    (r1 : Rd w w.heap.size A n c (ints xs)) (r2 : Rd w w.heap.size B m d (ints ys)) (r3 : Rd w w.heap.size C p q (ints us)) (r4 : Rd w w.heap.size D r s (ints vs)) :
    Calls Try.prog 30 #[.agg #[.slice A n c, .slice B m d], .agg #[.slice C p q, .slice D r s]] w fun e w' => e = .returned (.bool (decide (xs = us) && decide (ys = vs))) ∧ Ext w w' := by
  have x0 : Ext w ((w.alloc (.cells #[.slice A n c, .slice B m d] 24)).alloc (.cells #[.slice C p q, .slice D r s] 24)) := ((Ext.refl w).alloc _).alloc _
  have H1 := Lib.hid (sameInts_any A C n p c q xs us _ h1 h3 z1 (r1.ext x0) (r3.ext x0))
  have H2 := Lib.hid (fun (W : World) (x : Ext w W) => sameInts_any B D m r d s ys vs W h2 h4 z2 (r2.ext x) (r4.ext x))
  have S1 := Lib.hid ((St.new w #[.slice A n c, .slice B m d] 24).ext ((Ext.refl _).alloc (.cells #[.slice C p q, .slice D r s] 24)))
  have S2 := Lib.hid (St.new (w.alloc (.cells #[.slice A n c, .slice B m d] 24)) #[.slice C p q, .slice D r s] 24)
  rw [World.size_alloc] at S2
  clear h1 h2 h3 h4 r1 r2 r3 r4
  rcases e1 : decide (xs = us) with _ | _
  · rw [e1] at H1
    clear e1
    go_enter Try.func30, Try.ntmps30
    go_wp2_with fail
    refine H1.out.mono ?_
    rintro e w1 ⟨rfl, y1⟩
    go_wp2
    go_ret
    exact ⟨ret_bool (by simp), x0.trans y1.ext⟩
  · rw [e1] at H1
    clear e1
    go_enter Try.func30, Try.ntmps30
    go_wp2_with fail
    refine H1.out.mono ?_
    rintro e w1 ⟨rfl, y1⟩
    have k1 := (S1.out.ext y1.ext).cell1
    have k2 := (S2.out.ext y1.ext).cell1
    go_wp2_with fail
    refine (H2.out _ (x0.trans y1.ext)).mono ?_
    rintro e w2 ⟨rfl, y2⟩
    go_wp2
    go_ret
    exact ⟨ret_bool (by simp), (x0.trans y1.ext).trans y2.ext⟩
set_option maxHeartbeats 400000 in
theorem markClean_any (A B : Option Addr) (n c m d lo hi : Nat) (xs ys : List Int) (k0 : Int) (w : World) (h1 : xs.length = n) (h2 : ys.length = m) (z1 : n ≤ 1048576) (z2 : m ≤ 1048576) (hk : 0 ≤ k0) (hk0 : k0 ≤ 5000000) (hhi : hi ≤ w.heap.size)
    (t : Two w lo hi 3 A n c (ints xs) B m d (ints ys)) :
    Calls Try.prog 17 #[.agg #[.slice A n c, .slice B m d], .int .i64 k0] w fun e w' => e = .returned (.int .i64 (k0 + n + m)) ∧ Two w' lo hi 3 A n c (ints (marksI k0 n)) B m d (ints (marksI (k0 + n) m)) ∧ Chg lo hi w w' := by
  obtain ⟨l1, i1, l2, i2, a1, a2, a3, a4, ap, s1, s2⟩ := t
  have x0 : Ext w (w.alloc (.cells #[.slice A n c, .slice B m d] 24)) := (Ext.refl w).alloc _
  have H1 := Lib.hid (markIntS_any A n c l1 i1 xs k0 _ h1 z1 hk (by omega) (s1.ext x0))
  have H2 := Lib.hid (fun (W : World) (g : Chg l1 i1 (w.alloc (.cells #[.slice A n c, .slice B m d] 24)) W) => markIntS_any B m d l2 i2 ys (k0 + n) W h2 z2 (by omega) (by omega) ((s2.ext x0).chg g (by omega)))
  have S1 := Lib.hid (St.new w #[.slice A n c, .slice B m d] 24)
  clear h1 h2 s1 s2
  go_enter Try.func17, Try.ntmps17
  go_wp2_with fail
  refine H1.out.mono ?_
  rintro e w1 ⟨rfl, s1, g1⟩
  have k1 := (S1.out.chg g1 (by omega)).cell1
  go_wp2_with fail
  refine (H2.out _ g1).mono ?_
  rintro e w2 ⟨rfl, s2, g2⟩
  go_wp2
  go_ret
  exact ⟨rfl, ⟨l1, i1, l2, i2, a1, a2, a3, a4, ap, s1.chg g2 (by omega), s2⟩, (x0.chg.trans (g1.mono a1 a2)).trans (g2.mono a3 a4)⟩
set_option maxHeartbeats 400000 in
theorem heldClean_any (A B : Option Addr) (n c m d : Nat) (k0 : Int) (w : World) (z1 : n ≤ 1048576) (z2 : m ≤ 1048576) (hk : 0 ≤ k0) (hk0 : k0 ≤ 5000000)
    (r1 : Rd w w.heap.size A n c (ints (marksI k0 n))) (r2 : Rd w w.heap.size B m d (ints (marksI (k0 + n) m))) :
    Calls Try.prog 18 #[.agg #[.slice A n c, .slice B m d], .int .i64 k0] w fun e w' => e = .returned (.int .i64 (k0 + n + m)) ∧ Ext w w' := by
  have x0 : Ext w (w.alloc (.cells #[.slice A n c, .slice B m d] 24)) := (Ext.refl w).alloc _
  have H1 := Lib.hid (heldIntS_any A n c k0 _ z1 hk (by omega) (r1.ext x0))
  have H2 := Lib.hid (heldIntS_any B m d (k0 + n) _ z2 (by omega) (by omega) (r2.ext x0))
  clear r1 r2
  go_enter Try.func18, Try.ntmps18
  go_wp2_with fail
  refine H1.out.mono ?_
  rintro e w' ⟨rfl, rfl⟩
  go_wp2_with fail
  refine H2.out.mono ?_
  rintro e w' ⟨rfl, rfl⟩
  go_wp2
  go_ret
  exact ⟨rfl, x0⟩
set_option maxHeartbeats 400000 in
theorem toClean_any (A B : Option Addr) (n c m d : Nat) (xs ys : List Int) (w : World) (h1 : xs.length = n) (h2 : ys.length = m) (z1 : n ≤ 1048576) (z2 : m ≤ 1048576) (r1 : Rd w w.heap.size A n c (ints xs)) (r2 : Rd w w.heap.size B m d (ints ys)) :
    Calls Try.prog 21 #[.agg #[.slice A n c, .slice B m d]] w (RetC w 3 xs ys) := by
  have H1 := Lib.hid (fun (W : World) (x : Ext w W) => toIntS_any A n c xs W h1 z1 (r1.ext x))
  have H2 := Lib.hid (fun (W : World) (x : Ext w W) => toIntS_any B m d ys W h2 z2 (r2.ext x))
  have S1 := Lib.hid (((St.new w #[.slice A n c, .slice B m d] 33).ext ((Ext.refl _).alloc (.cells #[.slice none 0 0, .slice none 0 0] 24))).ext ((Ext.refl _).alloc (.cells #[.slice none 0 0, .slice none 0 0] 24)))
  have S2 := Lib.hid ((St.new (w.alloc (.cells #[.slice A n c, .slice B m d] 33)) #[.slice none 0 0, .slice none 0 0] 24).ext ((Ext.refl _).alloc (.cells #[.slice none 0 0, .slice none 0 0] 24)))
  have S3 := Lib.hid (St.new ((w.alloc (.cells #[.slice A n c, .slice B m d] 33)).alloc (.cells #[.slice none 0 0, .slice none 0 0] 24)) #[.slice none 0 0, .slice none 0 0] 24)
  have x0 : Ext w (((w.alloc (.cells #[.slice A n c, .slice B m d] 33)).alloc (.cells #[.slice none 0 0, .slice none 0 0] 24)).alloc (.cells #[.slice none 0 0, .slice none 0 0] 24)) := (((Ext.refl w).alloc _).alloc _).alloc _
  simp only [World.size_alloc] at S2 S3
  have HN := Lib.hid h1
  have HM := Lib.hid h2
  clear r1 r2 h1 h2
  go_enter Try.func21, Try.ntmps21
  go_wp2_with fail
  refine (H1.out _ x0).mono ?_
  rintro e w1 ⟨A1, c1, rfl, s1, x1⟩
  have k0 := (S1.out.ext x1).cell0
  have k1 := (S1.out.ext x1).cell1
  have k2 := (S3.out.ext x1).cell0
  have k3 := (S3.out.ext x1).frozen 0
  have k4 := (S3.out.ext x1).cell1
  have hz := x1.size
  simp only [World.size_alloc] at hz s1
  have y1 : Ext w (w1.setCell ⟨w.heap.size + 1 + 1, 0, none⟩ (.slice A1 n c1)) := (x0.trans x1).setCell (p := ⟨w.heap.size + 1 + 1, 0, none⟩) (by show _ ≤ w.heap.size + 1 + 1; omega) _
  have T3 := Lib.hid ((S3.out.ext x1).set 0 (.slice A1 n c1))
  have T2 := Lib.hid ((S2.out.ext x1).far (p := ⟨w.heap.size + 1 + 1, 0, none⟩) (by show _ ≠ w.heap.size + 1 + 1; omega) (.slice A1 n c1))
  have t1 := s1.far (p := ⟨w.heap.size + 1 + 1, 0, none⟩) (.inl (by show w.heap.size + 1 + 1 < _; omega)) (.slice A1 n c1)
  go_wp2_with fail
  refine (H2.out _ y1).mono ?_
  rintro e w2 ⟨A2, c2, rfl, s2, x2⟩
  clear k0 k1 k2 k3 k4
  have U3 : St w2 (w.heap.size + 1 + 1) #[.slice A1 n c1, .slice none 0 0] 24 := T3.out.ext x2
  have U2 := T2.out.ext x2
  have k0 := U3.cell0
  have k1 := U3.cell1
  have k2 := U3.frozen 1
  have V3 := Lib.hid (U3.set 1 (.slice A2 m c2))
  have k3 := U2.cell0
  have k4 := U2.cell1
  have k5 := U2.frozen 0
  have k6 := U2.frozen 1
  have V2 := ((U2.far (p := ⟨w.heap.size + 1 + 1, 1, none⟩) (by show _ ≠ w.heap.size + 1 + 1; omega) (.slice A2 m c2)).put2 (.slice A1 n c1) (.slice A2 m c2))
  have r0 := V2.cell0
  have r1 := V2.cell1
  have hz2 := x2.size
  simp only [World.size_setCell] at hz2 s2
  have T := ((Two.of (lo := w.heap.size + 1 + 1 + 1) (hi := w2.heap.size) (t1.ext x2) s2 (.inl (Nat.le_refl _)) (Nat.le_refl _) hz2 (by omega) (Nat.le_refl _)).far (p := ⟨w.heap.size + 1 + 1, 1, none⟩) (.inl (by show w.heap.size + 1 + 1 < _; omega)) (.slice A2 m c2)).put2 (g := w.heap.size + 1) (by omega) (.slice A1 n c1) (.slice A2 m c2)
  have xx := ((y1.trans x2).setCell (p := ⟨w.heap.size + 1 + 1, 1, none⟩) (by show _ ≤ w.heap.size + 1 + 1; omega) (.slice A2 m c2)).put2 (g := w.heap.size + 1) (by omega) (.slice A1 n c1) (.slice A2 m c2)
  clear V2 U2 U3
  go_wp2
  refine bodyPost_ret (v := .agg #[.slice A1 n c1, .slice A2 m c2]) (by simp [results, Try.results21, go_sem, r0, r1]) rfl ?_
  have e1 := HN.out
  have e2 := HM.out
  subst e1
  subst e2
  exact ⟨A1, c1, A2, c2, rfl, T.mono (by omega) (by simp), xx⟩
end Go.Proofs.Ytbafniaohjjacaa
