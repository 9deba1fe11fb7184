/-
  Draws of the solving and closing laws: visibilities with gains applied, and a model.
-/
import Derived.Test.YtpjglnmnfmibnabDrawW
namespace Go.Proofs.Ytpjglnmnfmibnab
open Go.RowKit
set_option linter.unusedVariables false

theorem Sl.take {w : World} {lo hi n c : Nat} {E : TypeId} {A : Option Addr} {xs : List Value} (h : Sl w lo hi E A n c xs) (k : Nat) {n' : Nat} (hn : n' ≤ c) : Sl w lo hi E A n' c (xs.take k) :=
  ⟨hn, fun hx => by
    obtain ⟨g, off, cur, e, h3, h4, h5, h6⟩ := h.2 (by simp at hx; omega)
    exact ⟨g, off, cur, e, h3, h4, h5, fun j u hu => h6 j u (by
      rw [List.getElem?_take] at hu
      split at hu
      · exact hu
      · cases hu)⟩⟩
theorem pairs_take1 (l : VL) : (pairs l).take 2 = pairs (l.take 1) := by
  cases l with
  | nil => rfl
  | cons x l => simp [pairs]
/-- two drawn lists and how many antennas -/
def DrewA (w : World) (B r p q : Nat) (e : Ending) (w' : World) : Prop :=
  ∃ (N : Nat) (A : Option Addr) (n c : Nat) (l : VL) (A2 : Option Addr) (n2 c2 : Nat) (l2 : VL) (p' : Nat), e = .returned (.tuple #[.int .i64 (N : Int), .slice A n c, .slice A2 n2 c2]) ∧ 2 ≤ N ∧ N ≤ 6 ∧
    l.length = n ∧ 1 ≤ n ∧ n ≤ 22 ∧ l2.length = n2 ∧ 1 ≤ n2 ∧ n2 ≤ 22 ∧ Sl w' w.heap.size w'.heap.size 30 A n c (pairs l) ∧ Sl w' w.heap.size w'.heap.size 30 A2 n2 c2 (pairs l2) ∧ Rdr w' B r p' ∧ p' ≤ p + q ∧ Chg r (r + 1) w w'
set_option maxHeartbeats 4000000 in
theorem l92Applied_any (B r p : Nat) (least : Nat) (w : World) (h1 : 2 ≤ least) (h2 : least ≤ 3) (hp : p ≤ 6000) (h : Rdr w B r p) :
    Calls Try.prog 25 #[.pointer (some ⟨r, 0, none⟩), .int .i64 (least : Int)] w (DrewA w B r p 500) := by
  have hrl := h.lt
  go_enter Try.func25, Try.ntmps25
  go_wp2_with fail
  refine (l92Many_any B r p least _ h1 h2 (by omega) h).mono ?_
  rintro e w1 ⟨N, A, n, c, l, p1, rfl, hN1, hN2, hl, hn1, hn2, s, R1, hp1, C1⟩
  have HL := Lib.hid hl
  clear hl
  have z1 := C1.size
  go_wp2_with fail
  refine (l91Gains_any N B r p1 _ (by omega) (by omega) (by omega) R1).mono ?_
  rintro e w2 ⟨A2, n2, c2, g, p2, rfl, hg, hg1, hg2, s2, R2, hp2, C2⟩
  have HG := Lib.hid hg
  clear hg
  have z2 := C2.size
  have sA := s.chg C2 (.inr (by omega))
  go_wp2_with fail
  refine (specGainApply_w N A A2 n c n2 c2 l g _ (by omega) (by omega) HL.out HG.out (by omega) (by omega) sA.rd s2.rd).mono ?_
  rintro e w3 ⟨A3, m, c3, o, ok, rfl, ho, hm, hok, s3, x3⟩
  have HO := Lib.hid ho
  clear ho
  have z3 := x3.size
  have R3 := R2.ext x3
  have sB := sA.ext x3
  have D3 : Chg r (r + 1) w w3 := (C1.trans C2).trans x3.chg
  clear C1 C2 x3 R1 R2 s s2 sA
  cases ok
  · go_wp2_with fail
    refine (l91Vis_any N B r p2 _ (by omega) (by omega) (by omega) R3).mono ?_
    rintro e w4 ⟨A5, n5, c5, l5, p5, rfl, hl5, hn51, hn52, s5, R5, hp5, C5⟩
    have HL5 := Lib.hid hl5
    clear hl5
    have z5 := C5.size
    have sC := sB.chg C5 (.inr (by omega))
    go_wp2
    go_ret3
    exact ⟨N, A5, n5, c5, l5, A, n, c, l, p5, rfl, hN1, hN2, HL5.out, hn51, hn52, HL.out, hn1, hn2, s5.mono (by omega) (Nat.le_refl _), sC.full.mono (Nat.le_refl _) (Nat.le_refl _), R5, by omega, D3.trans C5⟩
  have hm1 := hok rfl
  clear hok
  go_wp2_with fail
  refine (pick_any B r p2 8 _ (by omega) (by omega) (by omega) R3).mono ?_
  rintro e w4 ⟨v4, rfl, hv4, R4, C4⟩
  have z4 := C4.size
  have s4 := s3.chg C4 (.inr (by omega))
  have sC := sB.chg C4 (.inr (by omega))
  have D4 := D3.trans C4
  clear s3 sB D3 R3 C4
  by_cases k0 : v4 = 0
  · subst k0
    go_wp2_with fail
    refine (pick_any B r (p2 + 1) (m : Int) _ (by omega) (by omega) (by omega) R4).mono ?_
    rintro e w5 ⟨v5, rfl, hv5, R5, C5⟩
    have z5 := C5.size
    have hv50 : (0 : Int) ≤ (v5 : Int) := by omega
    have hv5' : v5 < m := by omega
    go_wp2_with fail
    refine (l91Phase_any B r (p2 + 1 + 1) _ (by omega) R5).mono ?_
    rintro e w6 ⟨y, p6, rfl, hy1, hy2, R6, hp6, C6⟩
    have z6 := C6.size
    have s6 := (s4.chg C5 (.inr (by omega))).chg C6 (.inr (by omega))
    have sD := (sC.chg C5 (.inr (by omega))).chg C6 (.inr (by omega))
    have D6 := (D4.trans C5).trans C6
    obtain ⟨gg, off, ea, hg3, hg4, hg5⟩ := s6.addr (by rw [pairs_length, HO.out]; omega)
    obtain rfl := ea
    obtain ⟨⟨a, b⟩, hab⟩ := at_of_lt (l := o) (k := v5) (by rw [HO.out]; omega)
    have HAB := Lib.hid hab
    have f1 := s6.frozen (by rw [pairs_length, HO.out]; omega) (off + v5 * 2 + 1)
    have c1 := s6.snd hab
    have HS8 := Lib.hid (s6.setS hab y)
    have sE := Lib.hid (sD.far (p := ⟨gg, off + v5 * 2 + 1, none⟩) (.inr (by show _ ≤ gg; omega)) (.int .i64 y))
    clear hab s4 sC s6 sD D4 R4 R5 C5 C6
    go_wp2
    go_ret3
    exact ⟨N, _, m, c3, _, A, n, c, l, _, rfl, hN1, hN2, by simp [HO.out], hm1, by omega, HL.out, hn1, hn2, HS8.out.full.mono (by omega) (Nat.le_refl _), sE.out.full.mono (Nat.le_refl _) (Nat.le_refl _), R6.far (q := ⟨gg, off + v5 * 2 + 1, none⟩) (by show r < gg; omega) _, by omega, D6.setCell (p := ⟨gg, off + v5 * 2 + 1, none⟩) (.inr (by show _ ≤ gg; omega)) _⟩
  have k0' : ((v4 : Int) == 0) = false := by simp; omega
  by_cases k1 : v4 = 1
  · subst k1
    go_wp2_with fail
    refine (pick_any B r (p2 + 1) (m : Int) _ (by omega) (by omega) (by omega) R4).mono ?_
    rintro e w5 ⟨v5, rfl, hv5, R5, C5⟩
    have z5 := C5.size
    have hv50 : (0 : Int) ≤ (v5 : Int) := by omega
    have hv5' : v5 < m := by omega
    have s6 := s4.chg C5 (.inr (by omega))
    have sD := sC.chg C5 (.inr (by omega))
    have D6 := D4.trans C5
    obtain ⟨gg, off, ea, hg3, hg4, hg5⟩ := s6.addr (by rw [pairs_length, HO.out]; omega)
    obtain rfl := ea
    obtain ⟨⟨a, b⟩, hab⟩ := at_of_lt (l := o) (k := v5) (by rw [HO.out]; omega)
    have HAB := Lib.hid hab
    have f1 := s6.frozen (by rw [pairs_length, HO.out]; omega) (off + v5 * 2)
    have c1 := s6.fst hab
    have HS8 := Lib.hid (s6.setF hab (wrap64 (a + 1)))
    have sE := Lib.hid (sD.far (p := ⟨gg, off + v5 * 2, none⟩) (.inr (by show _ ≤ gg; omega)) (.int .i64 (wrap64 (a + 1))))
    clear hab s4 sC s6 sD D4 R4 C5
    go_wp2
    go_ret3
    exact ⟨N, _, m, c3, _, A, n, c, l, _, rfl, hN1, hN2, by simp [HO.out], hm1, by omega, HL.out, hn1, hn2, HS8.out.full.mono (by omega) (Nat.le_refl _), sE.out.full.mono (Nat.le_refl _) (Nat.le_refl _), R5.far (q := ⟨gg, off + v5 * 2, none⟩) (by show r < gg; omega) _, by omega, D6.setCell (p := ⟨gg, off + v5 * 2, none⟩) (.inr (by show _ ≤ gg; omega)) _⟩
  have k1' : ((v4 : Int) == 1) = false := by simp; omega
  go_wp2
  go_ret3
  exact ⟨N, A3, m, c3, o, A, n, c, l, _, rfl, hN1, hN2, HO.out, hm1, by omega, HL.out, hn1, hn2, s4.full.mono (by omega) (Nat.le_refl _), sC.full.mono (Nat.le_refl _) (Nat.le_refl _), R4, by omega, D4⟩
/-- what a draw of two lists hands back -/
def Some2 (w : World) (lim lo : Nat) (e : Ending) (w' : World) : Prop :=
  ∃ (N : Nat) (A : Option Addr) (n c : Nat) (l : VL) (A2 : Option Addr) (n2 c2 : Nat) (l2 : VL), e = .returned (.tuple #[.int .i64 (N : Int), .slice A n c, .slice A2 n2 c2]) ∧ 2 ≤ N ∧ N ≤ lim ∧
    l.length = n ∧ lo ≤ n ∧ n ≤ 22 ∧ l2.length = n2 ∧ lo ≤ n2 ∧ n2 ≤ 22 ∧ Sl w' w.heap.size w'.heap.size 30 A n c (pairs l) ∧ Sl w' w.heap.size w'.heap.size 30 A2 n2 c2 (pairs l2) ∧ Ext w w'
theorem drawSolveAmps_any (A : Option Addr) (n c : Nat) (zs : List Int) (w : World) (hn : zs.length = n) (hm : n ≤ 9223372036854775807) (h : Rd w w.heap.size A n c (zs.map (.int .u8))) (hz : ∀ z ∈ zs, 0 ≤ z ∧ z ≤ 255) :
    Calls Try.prog 31 #[.slice A n c] w (Some2 w 6 1) := by
  have HO := Lib.hid (l6Open_any A n c zs w hn hm h hz)
  clear hn hz h
  go_enter Try.func31, Try.ntmps31
  go_wp2_with fail
  refine HO.out.mono ?_
  rintro e w1 ⟨rfl, R1, x1⟩
  have hr := R1.lt
  have z1 := x1.size
  go_wp2_with fail
  refine (pick_any w.heap.size w.heap.size 0 16 _ (by omega) (by omega) (by omega) R1).mono ?_
  rintro e w2 ⟨v2, rfl, hv2, R2, C2⟩
  have z2 := C2.size
  have x2 := x1.more C2 (Nat.le_refl _)
  by_cases k0 : v2 = 0
  · subst k0
    go_wp2_with fail
    refine (l92Applied_any w.heap.size w.heap.size 1 2 _ (by omega) (by omega) (by omega) R2).mono ?_
    rintro e w3 ⟨N, A1, n1, c1, l1, A2, n2, c2, l2, p', rfl, a1, a2, a3, a4, a5, a6, a7, a8, s1, s2, _, _, C⟩
    have H3 := Lib.hid a3
    have H6 := Lib.hid a6
    clear a3 a6
    go_wp2
    go_ret3
    exact ⟨N, A1, n1, c1, l1, A2, n2, c2, l2, rfl, a1, a2, H3.out, a4, a5, H6.out, a7, a8, s1.mono (by omega) (Nat.le_refl _), s2.mono (by omega) (Nat.le_refl _), x2.more C (Nat.le_refl _)⟩
  have k0' : ((v2 : Int) == 0) = false := by simp; omega
  go_wp2_with fail
  refine (l92Applied_any w.heap.size w.heap.size 1 3 _ (by omega) (by omega) (by omega) R2).mono ?_
  rintro e w3 ⟨N, A1, n1, c1, l1, A2, n2, c2, l2, p', rfl, a1, a2, a3, a4, a5, a6, a7, a8, s1, s2, _, _, C⟩
  have H3 := Lib.hid a3
  have H6 := Lib.hid a6
  clear a3 a6
  go_wp2
  go_ret3
  exact ⟨N, A1, n1, c1, l1, A2, n2, c2, l2, rfl, a1, a2, H3.out, a4, a5, H6.out, a7, a8, s1.mono (by omega) (Nat.le_refl _), s2.mono (by omega) (Nat.le_refl _), x2.more C (Nat.le_refl _)⟩
theorem drawSolveGains_any (A : Option Addr) (n c : Nat) (zs : List Int) (w : World) (hn : zs.length = n) (hm : n ≤ 9223372036854775807) (h : Rd w w.heap.size A n c (zs.map (.int .u8))) (hz : ∀ z ∈ zs, 0 ≤ z ∧ z ≤ 255) :
    Calls Try.prog 12 #[.slice A n c] w (Some2 w 6 1) := by
  have HO := Lib.hid (drawSolveAmps_any A n c zs w hn hm h hz)
  clear hn hz h
  go_enter Try.func12, Try.ntmps12
  go_wp2_with fail
  refine HO.out.mono ?_
  rintro e w1 ⟨N, A1, n1, c1, l1, A2, n2, c2, l2, rfl, h1⟩
  have H1 := Lib.hid h1
  clear h1
  go_wp2
  go_ret3
  exact ⟨N, A1, n1, c1, l1, A2, n2, c2, l2, rfl, H1.out⟩
theorem drawCloseSame_any (A : Option Addr) (n c : Nat) (zs : List Int) (w : World) (hn : zs.length = n) (hm : n ≤ 9223372036854775807) (h : Rd w w.heap.size A n c (zs.map (.int .u8))) (hz : ∀ z ∈ zs, 0 ≤ z ∧ z ≤ 255) :
    Calls Try.prog 8 #[.slice A n c] w (Some2 w 5 1) := by
  have HO := Lib.hid (l6Open_any A n c zs w hn hm h hz)
  clear hn hz h
  go_enter Try.func8, Try.ntmps8
  go_wp2_with fail
  refine HO.out.mono ?_
  rintro e w1 ⟨rfl, R1, x1⟩
  have hr := R1.lt
  have z1 := x1.size
  go_wp2_with fail
  refine (l92Applied_any w.heap.size w.heap.size 0 2 _ (by omega) (by omega) (by omega) R1).mono ?_
  rintro e w2 ⟨N, A1, n1, c1, l1, A2, n2, c2, l2, p', rfl, a1, a2, a3, a4, a5, a6, a7, a8, s1, s2, _, _, C⟩
  have H3 := Lib.hid a3
  have H6 := Lib.hid a6
  obtain ⟨g1, o1, ea, _, _, _⟩ := s1.addr (by rw [pairs_length, a3]; omega)
  obtain rfl := ea
  obtain ⟨g2, o2, ea, _, _, _⟩ := s2.addr (by rw [pairs_length, a6]; omega)
  obtain rfl := ea
  have hc1 := s1.1
  have hc2 := s2.1
  clear a3 a6
  by_cases h5 : 5 < N
  · have h5' : (5 : Int) < (N : Int) := by omega
    have q1 : 1 ≤ c1 := by omega
    have q2 : 1 ≤ c2 := by omega
    have t1 := Lib.hid (s1.take 2 q1)
    have t2 := Lib.hid (s2.take 2 q2)
    rw [pairs_take1] at t1 t2
    go_wp2
    go_ret3
    exact ⟨2, _, 1, c1, l1.take 1, _, 1, c2, l2.take 1, rfl, by omega, by omega, by simp [H3.out]; omega, by omega, by omega, by simp [H6.out]; omega, by omega, by omega, t1.out.mono (by omega) (Nat.le_refl _), t2.out.mono (by omega) (Nat.le_refl _), x1.more C (Nat.le_refl _)⟩
  · have h5' : ¬ (5 : Int) < (N : Int) := by omega
    go_wp2
    go_ret3
    exact ⟨N, _, n1, c1, l1, _, n2, c2, l2, rfl, a1, by omega, H3.out, a4, a5, H6.out, a7, a8, s1.mono (by omega) (Nat.le_refl _), s2.mono (by omega) (Nat.le_refl _), x1.more C (Nat.le_refl _)⟩
end Go.Proofs.Ytpjglnmnfmibnab
