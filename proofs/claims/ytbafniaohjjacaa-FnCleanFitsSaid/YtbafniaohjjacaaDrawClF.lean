/-
  Drawn dirty images and cleanings that often fit: DrawCleanNew, DrawCleanFits.
-/
import Derived.Test.YtbafniaohjjacaaDrawClB
import Derived.StillTailTactics
namespace Go.Proofs.Ytbafniaohjjacaa
open Go.RowKit
set_option linter.unusedSimpArgs false

/-- a list of ints in new memory is returned -/
def SomeL (w : World) (e : Ending) (w' : World) : Prop :=
  ∃ (A : Option Addr) (n c : Nat) (xs : List Int), e = .returned (.slice A n c) ∧ xs.length = n ∧ n ≤ 16 ∧ Sl w' w.heap.size w'.heap.size 3 A n c (ints xs) ∧ Ext w w'
theorem drawCleanNew_any (A : Option Addr) (n c : Nat) (zs : List Int) (w : World) (hn : zs.length = n) (hm : n ≤ 9223372036854775807) (h : Rd w w.heap.size A n c (zs.map (.int .u8))) (hz : ∀ z ∈ zs, 0 ≤ z ∧ z ≤ 255) :
    Calls Try.prog 29 #[.slice A n c] w (SomeL w) := by
  have HO := Lib.hid (l6Open_any A n c zs w hn hm h hz)
  clear hn hz h
  go_enter Try.func29, Try.ntmps29
  go_wp2_with fail
  refine HO.out.mono ?_
  rintro e w1 ⟨rfl, R, x⟩
  have hr := R.lt
  have z1 := x.size
  go_wp2_with fail
  refine (pick_any w.heap.size w.heap.size 0 12 _ (by omega) (by omega) (by omega) R).mono ?_
  rintro e w2 ⟨v2, rfl, hv2, R2, C2⟩
  have z2 := C2.size
  have X2 := x.more C2 (Nat.le_refl _)
  clear R C2 x
  by_cases k0 : v2 = 0
  · subst k0
    go_wp2_with fail
    refine (l92Sky_any w.heap.size w.heap.size 1 _ (by omega) R2).mono ?_
    rintro e w3 ⟨A', n', c', xs, p', rfl, hl, h15, hb, s, R', hp', C⟩
    obtain ⟨gb, ob, eb, _, _, _⟩ := s.addr (by rw [ints_length, hl]; omega)
    obtain rfl := eb
    have hc := s.1
    have s1 := s.drop 1 (n' := n' - 1) (c' := c' - 1) (by omega)
    rw [ints_drop] at s1
    have HL := Lib.hid hl
    have HS := Lib.hid s1
    have h1 : (1 : Int) ≤ (n' : Int) := by omega
    have h1' : 1 ≤ n' := by omega
    have h2 : 1 < c' := by omega
    have e1 : ((n' : Int) - 1).toNat = n' - 1 := by omega
    have e2 : ((c' : Int) - 1).toNat = c' - 1 := by omega
    clear hl s s1
    go_wp2
    go_ret
    have z3 := C.size
    exact ⟨some ⟨gb, ob + 1, none⟩, n' - 1, c' - 1, xs.drop 1, by first | rfl | simp, by simp [HL.out], by omega, HS.out.mono (by omega) (Nat.le_refl _), X2.more C (Nat.le_refl _)⟩
  · have k0' : ((v2 : Int) == 0) = false := by simp; omega
    go_wp2_with fail
    refine (l93Dirty_any w.heap.size w.heap.size 1 _ (by omega) R2).mono ?_
    rintro e w3 ⟨A1, n1, c1, bs, A2, c2, ss, A3, n3, c3, ys, p1, rfl, hl1, hb1, hl2, hl3, hvy, s1, s2, s3, R3, hp1, C1⟩
    have HL3 := Lib.hid hl3
    have h3 : n3 ≤ 16 := by rw [← hl3, svB_16 hvy]; omega
    clear hl1 hl2 hl3 hvy
    go_wp2
    go_ret
    have z3 := C1.size
    exact ⟨A3, n3, c3, ys, rfl, HL3.out, h3, s3.mono (by omega) (Nat.le_refl _), X2.more C1 (Nat.le_refl _)⟩
/-- a cleaning, a beam and a dirty image are returned -/
def SomeCII (w : World) (e : Ending) (w' : World) : Prop :=
  ∃ (A : Option Addr) (c : Nat) (B : Option Addr) (d : Nat) (D : Option Addr) (f : Nat) (F : Option Addr) (g : Nat) (xs ys zs ds : List Int), e = .returned (.tuple #[.agg #[.slice A 16 c, .slice B 16 d], .slice D 16 f, .slice F 16 g]) ∧ xs.length = 16 ∧ ys.length = 16 ∧ zs.length = 16 ∧ ds.length = 16 ∧
    Sl w' w.heap.size w'.heap.size 3 A 16 c (ints xs) ∧ Sl w' w.heap.size w'.heap.size 3 B 16 d (ints ys) ∧ Sl w' w.heap.size w'.heap.size 3 D 16 f (ints zs) ∧ Sl w' w.heap.size w'.heap.size 3 F 16 g (ints ds) ∧ Ext w w'
set_option maxRecDepth 100000 in
set_option maxHeartbeats 4000000 in
theorem drawCleanFits_any (A : Option Addr) (n c : Nat) (zs : List Int) (w : World) (hn : zs.length = n) (hm : n ≤ 9223372036854775807) (h : Rd w w.heap.size A n c (zs.map (.int .u8))) (hz : ∀ z ∈ zs, 0 ≤ z ∧ z ≤ 255) :
    Calls Try.prog 35 #[.slice A n c] w (SomeCII w) := by
  have x0 : Ext w (w.alloc (.cells #[.slice none 0 0, .slice none 0 0] 24)) := (Ext.refl w).alloc _
  have S0 := St.new w #[.slice none 0 0, .slice none 0 0] 24
  have HO := Lib.hid (l6Open_at w.heap.size A n c zs _ (by simp) hn hm (h.below x0.below) hz)
  rw [World.size_alloc] at HO
  clear hn hz h
  go_enter Try.func35, Try.ntmps35
  go_wp2_with fail
  refine HO.out.mono ?_
  rintro e w1 ⟨rfl, R1, x1⟩
  have zz1 := x1.size
  rw [World.size_alloc] at zz1
  have zr := R1.lt
  obtain ⟨r, hr⟩ : ∃ r, r = w.heap.size + 1 := ⟨_, rfl⟩
  rw [← hr] at R1 zr ⊢
  have hr1 : r ≤ w.heap.size + 1 := by omega
  have hr2 : w.heap.size + 1 ≤ r := by omega
  clear hr
  go_wp2_with fail
  refine (l93Dirty_any w.heap.size r 0 _ (by omega) R1).mono ?_
  rintro e w2 ⟨A1, n1, c1, bs, A2, c2, ss, A3, n3, c3, ys, p1, rfl, hl1, hb1, hl2, hl3, hvy, s1, s2, s3, R2, hp1, C1⟩
  obtain rfl : n3 = 16 := by rw [← hl3]; exact svB_16 hvy
  have HL1 := Lib.hid hl1
  have HVY := Lib.hid hvy
  have HL3 := Lib.hid hl3
  have S2 := (S0.ext x1).chg C1 (by omega)
  have X2 := (x0.trans x1).more C1 (by omega)
  have z2 := C1.size
  clear hl1 hl2 hl3 hvy s2 x0 S0 R1 C1 x1
  go_wp2_with fail
  refine (specBeamOf_any A1 n1 c1 bs _ HL1.out s1.rd).mono ?_
  rintro e w3 ⟨Ab, nb, cb, bm, rfl, hlb, hnb, sb, x3, hvb⟩
  have z3 := x3.size
  have s3' := s3.ext x3
  have S3 := S2.ext x3
  have R3 := R2.ext x3
  have X3 := X2.trans x3
  clear s1 s3 S2 R2 X2 x3
  rcases hcv : cvB bs with _ | _
  · clear hlb hvb hcv hnb sb
    have HX3 := Lib.hid X3
    have HS3 := Lib.hid s3'
    have kr0 := S3.cell0
    have kr1 := S3.cell1
    have kr2 := S3.frozen 0
    have kr3 := S3.frozen 1
    have RR := S3.put2 (.slice A3 16 c3) (.slice A3 16 c3)
    have r0 := RR.cell0
    have r1 := RR.cell1
    clear S3 R3 X3 s3'
    go_wp2
    refine bodyPost_ret (v := .tuple #[.agg #[.slice A3 16 c3, .slice A3 16 c3], .slice A3 16 c3, .slice A3 16 c3]) (by simp [results, Try.results35, go_sem, r0, r1]) rfl ?_
    have t := (HS3.out.put2 (g := w.heap.size) (by omega) (.slice A3 16 c3) (.slice A3 16 c3)).full.mono (lo' := w.heap.size) (by omega) (Nat.le_refl _)
    exact ⟨A3, c3, A3, c3, A3, c3, A3, c3, ys, ys, ys, ys, rfl, HL3.out, HL3.out, HL3.out, HL3.out, t, t, t, t, HX3.out.put2 (Nat.le_refl _) _ _⟩
  rw [hcv] at hnb
  rw [if_pos rfl] at hnb
  subst hnb
  have HVB := Lib.hid (hvb hcv)
  clear hlb hvb hcv
  go_wp2_with fail
  refine (specCleanNew_yes A3 16 c3 ys _ HL3.out HVY.out s3'.rd).mono ?_
  rintro e w5 ⟨A5, c5, B5, d5, rfl, t5, x5, ow5⟩
  have x6 : Ext w5 (w5.alloc (.cells #[.slice A5 16 c5, .slice B5 16 d5] 24)) := (Ext.refl _).alloc _
  have z5 := x5.size
  have T6 := t5.ext x6
  have S6 := St.new w5 #[.slice A5 16 c5, .slice B5 16 d5] 24
  have B6 := (sb.ext x5).ext x6
  have SR6 := (S3.ext x5).ext x6
  have R6 := (R3.ext x5).ext x6
  have F6 := (s3'.ext x5).ext x6
  have D6 := X3.trans (x5.trans x6)
  have zz6 : (w5.alloc (.cells #[.slice A5 16 c5, .slice B5 16 d5] 24)).heap.size = w5.heap.size + 1 := by simp
  have hz6 : w.heap.size + 1 ≤ w5.heap.size := by omega
  have HS6 := Lib.hid S6
  have HT6 := Lib.hid T6
  have HB6 := Lib.hid B6
  have HF6 := Lib.hid F6
  have HR6 := Lib.hid R6
  have HD6 := Lib.hid D6
  have HSR6 := Lib.hid SR6
  have k0 := S6.cell0
  have k1 := S6.cell1
  have HZ6 := Lib.hid zz6
  have hrl : r < w5.heap.size := by omega
  clear s3' S3 R3 X3 t5 x5 ow5 sb T6 S6 B6 SR6 R6 D6 F6 x6 zz6
  go_wp2_with fail
  go_cut [13, 15] (fun v b wx => CleanIn (w5.alloc (.cells #[.slice A5 16 c5, .slice B5 16 d5] 24)) w.heap.size r (p1 + 1) v b wx)
  case first =>
    go_region_held3 (fun w' => w'.cell? ⟨w5.heap.size, 0, none⟩ = some (.slice A5 16 c5) ∧ w'.cell? ⟨w5.heap.size, 1, none⟩ = some (.slice B5 16 d5))
      (exact ⟨(St.chg (lo := r) (hi := r + 1) HS6.out (by repeat (first | (with_reducible exact D8) | (with_reducible exact D7) | (with_reducible exact Chg.refl _ _ _) | (with_reducible refine Chg.drew ?_) | (with_reducible refine Chg.alloc ?_ _) | (with_reducible refine Chg.setCell ?_ (.inr (by (try simp only [World.size_alloc, World.size_drew] at *); (try simp only [World.size_alloc, World.size_drew]); omega)) _))) (.inr (by omega))).cell0, (St.chg (lo := r) (hi := r + 1) HS6.out (by repeat (first | (with_reducible exact D8) | (with_reducible exact D7) | (with_reducible exact Chg.refl _ _ _) | (with_reducible refine Chg.drew ?_) | (with_reducible refine Chg.alloc ?_ _) | (with_reducible refine Chg.setCell ?_ (.inr (by (try simp only [World.size_alloc, World.size_drew] at *); (try simp only [World.size_alloc, World.size_drew]); omega)) _))) (.inr (by omega))).cell1⟩)
      (first
        | (go_at_call 57; refine (pick_any w.heap.size r p1 9 _ (by omega) (by omega) (by omega) (HR6.out.ext (by repeat (first | (with_reducible exact Ext.refl _) | (with_reducible assumption) | (with_reducible refine Ext.drew ?_) | (with_reducible refine Ext.alloc ?_ _))))).mono ?_; rintro e w7 ⟨v7, rfl, hv7, R7, C7⟩; have D7 : Chg r (r + 1) (w5.alloc (.cells #[.slice A5 16 c5, .slice B5 16 d5] 24)) w7 := Chg.trans (Ext.chg (by repeat (first | (with_reducible exact Ext.refl _) | (with_reducible assumption) | (with_reducible refine Ext.drew ?_) | (with_reducible refine Ext.alloc ?_ _)))) C7; have z7 := C7.size; (try simp only [World.size_alloc, World.size_drew] at z7))
        | (go_at_call 27; refine (specCleanRun_yes A5 B5 Ab c5 d5 cb zero16 ys bm (v7 : Int) _ svB_zero16 HVY.out HVB.out (by omega) (by omega) (Sl.chg (lo' := r) (hi' := r + 1) HT6.out.fst (by repeat (first | (with_reducible exact D8) | (with_reducible exact D7) | (with_reducible exact Chg.refl _ _ _) | (with_reducible refine Chg.drew ?_) | (with_reducible refine Chg.alloc ?_ _) | (with_reducible refine Chg.setCell ?_ (.inr (by (try simp only [World.size_alloc, World.size_drew] at *); (try simp only [World.size_alloc, World.size_drew]); omega)) _))) (.inr (by omega))).rd (Sl.chg (lo' := r) (hi' := r + 1) HT6.out.snd (by repeat (first | (with_reducible exact D8) | (with_reducible exact D7) | (with_reducible exact Chg.refl _ _ _) | (with_reducible refine Chg.drew ?_) | (with_reducible refine Chg.alloc ?_ _) | (with_reducible refine Chg.setCell ?_ (.inr (by (try simp only [World.size_alloc, World.size_drew] at *); (try simp only [World.size_alloc, World.size_drew]); omega)) _))) (.inr (by omega))).rd (Sl.chg (lo' := r) (hi' := r + 1) HB6.out (by repeat (first | (with_reducible exact D8) | (with_reducible exact D7) | (with_reducible exact Chg.refl _ _ _) | (with_reducible refine Chg.drew ?_) | (with_reducible refine Chg.alloc ?_ _) | (with_reducible refine Chg.setCell ?_ (.inr (by (try simp only [World.size_alloc, World.size_drew] at *); (try simp only [World.size_alloc, World.size_drew]); omega)) _))) (.inr (by omega))).rd).mono ?_; rintro e w8 ⟨A8, c8, B8, d8, xs8, ys8, k8, rfl, hx8, hy8, t8, x8, ow8⟩; have y8 : Chg 0 0 _ w8 := x8; have D8 : Chg r (r + 1) (w5.alloc (.cells #[.slice A5 16 c5, .slice B5 16 d5] 24)) w8 := Chg.trans (by repeat (first | (with_reducible exact D8) | (with_reducible exact D7) | (with_reducible exact Chg.refl _ _ _) | (with_reducible refine Chg.drew ?_) | (with_reducible refine Chg.alloc ?_ _) | (with_reducible refine Chg.setCell ?_ (.inr (by (try simp only [World.size_alloc, World.size_drew] at *); (try simp only [World.size_alloc, World.size_drew]); omega)) _))) (Ext.chg x8); have z8 := y8.size; (try simp only [World.size_alloc, World.size_drew] at z8); have HX8 := Lib.hid hx8; have HY8 := Lib.hid hy8; clear hx8 hy8; have R8 := Rdr.ext (w1 := w8) (w := _) (Rdr.ext R7 (by repeat (first | (with_reducible exact Ext.refl _) | (with_reducible assumption) | (with_reducible refine Ext.drew ?_) | (with_reducible refine Ext.alloc ?_ _)))) x8; (try (refine cutP (P := St w8 (w5.heap.size + 1) #[.slice none 0 0, .slice none 0 0] 24) ?_ ?_; (focus ((show w8.heap[(w5.heap.size + 1)]? = some (.cells #[.slice none 0 0, .slice none 0 0] 24 (0, 0))); (repeat (first | ((refine heap_new ?_); (first | rfl | (simp; done))) | (with_reducible refine heap_old ?_) | (with_reducible refine heap_drew ?_) | ((with_reducible refine heap_kept C7 ?_ ?_); (focus ((try simp only [World.size_alloc, World.size_drew]); omega))) | ((with_reducible refine heap_kept y8 ?_ ?_); (focus ((try simp only [World.size_alloc, World.size_drew]); omega))))); done)); intro q; have q0 := q.cell0; have q1 := q.cell1; have q2 := q.frozen 0; have q3 := q.frozen 1; have q4 := q.lt; have q5 := Nat.ne_of_lt q4; have Q := Lib.hid q; clear q)); (try (refine cutP (P := St w8 (w7.heap.size) #[.slice none 0 0, .slice none 0 0] 24) ?_ ?_; (focus ((show w8.heap[(w7.heap.size)]? = some (.cells #[.slice none 0 0, .slice none 0 0] 24 (0, 0))); (repeat (first | ((refine heap_new ?_); (first | rfl | (simp; done))) | (with_reducible refine heap_old ?_) | (with_reducible refine heap_drew ?_) | ((with_reducible refine heap_kept C7 ?_ ?_); (focus ((try simp only [World.size_alloc, World.size_drew]); omega))) | ((with_reducible refine heap_kept y8 ?_ ?_); (focus ((try simp only [World.size_alloc, World.size_drew]); omega))))); done)); intro q; have q0 := q.cell0; have q1 := q.cell1; have q2 := q.frozen 0; have q3 := q.frozen 1; have q4 := q.lt; have q5 := Nat.ne_of_lt q4; have Q := Lib.hid q; clear q)); (try (refine cutP (P := St w8 (w5.heap.size + 1 + 1) #[.slice none 0 0, .slice none 0 0] 24) ?_ ?_; (focus ((show w8.heap[(w5.heap.size + 1 + 1)]? = some (.cells #[.slice none 0 0, .slice none 0 0] 24 (0, 0))); (repeat (first | ((refine heap_new ?_); (first | rfl | (simp; done))) | (with_reducible refine heap_old ?_) | (with_reducible refine heap_drew ?_) | ((with_reducible refine heap_kept C7 ?_ ?_); (focus ((try simp only [World.size_alloc, World.size_drew]); omega))) | ((with_reducible refine heap_kept y8 ?_ ?_); (focus ((try simp only [World.size_alloc, World.size_drew]); omega))))); done)); intro q; have q0 := q.cell0; have q1 := q.cell1; have q2 := q.frozen 0; have q3 := q.frozen 1; have q4 := q.lt; have q5 := Nat.ne_of_lt q4; have Q := Lib.hid q; clear q))))
    all_goals go_wp2_with fail
    all_goals go_meet
    all_goals first
      | exact clean_put Q.out HX8.out HY8.out t8 ow8 (by (try simp only [World.size_alloc, World.size_drew]); omega) (by (try simp only [World.size_alloc, World.size_drew]); omega) (by (try simp only [World.size_alloc, World.size_drew]); omega) R8 (by (try simp only [World.size_alloc, World.size_drew]); omega) D8
      | exact clean_new HX8.out HY8.out t8 ow8 (by (try simp only [World.size_alloc, World.size_drew]); omega) R8 D8
  case rest =>
    obtain ⟨g, A8, c8, B8, d8, xs8, ys8, lo, hi, rfl, rfl, hx8, hy8, Sg, t8, ow8, q1, q2, q3, R8, D8, q4⟩ := hcut
    have hz8 := HZ6.out
    rw [hz8] at q1 q3
    have z8 := D8.size
    rw [hz8] at z8
    have HX8 := Lib.hid (svB_16 hx8)
    have HY8 := Lib.hid (svB_16 hy8)
    have HB8 := Lib.hid (svB_at0 hy8 0)
    have B8' := Sl.chg (lo' := r) (hi' := r + 1) HB6.out D8 (.inr (by omega))
    have F8' := Sl.chg (lo' := r) (hi' := r + 1) HF6.out D8 (.inr (by omega))
    have SR8 := HSR6.out.chg D8 (by omega)
    have DD8 := HD6.out.more D8 (by omega)
    clear hx8 hy8 k0 k1 HS6 HT6 HB6 HR6 HD6 HSR6 HF6 D8 ow8
    go_wp2_with fail
    refine (pick_any w.heap.size r (p1 + 1) 5 _ (by omega) (by omega) (by omega) R8).mono ?_
    rintro e w9 ⟨v9, rfl, hv9, R9, C9⟩
    have z9 := C9.size
    have Sg9 := Sg.chg C9 (by omega)
    have t9 := t8.chg C9 (.inr (by omega))
    have B9 := Sl.chg (lo' := r) (hi' := r + 1) B8' C9 (.inr (by omega))
    have F9 := Sl.chg (lo' := r) (hi' := r + 1) F8' C9 (.inr (by omega))
    have SR9 := SR8.chg C9 (by omega)
    have D9 := DD8.more C9 (by omega)
    clear Sg t8 B8' F8' SR8 DD8 C9 R8 hz8 R9
    obtain ⟨l1, i1, l2, i2, a1, a2, a3, a4, ap, m9, f9⟩ := t9
    obtain ⟨gb, ob, eb, b1, b2, b3⟩ := f9.addr (by rw [ints_length, HY8.out]; omega)
    obtain rfl := eb
    have kg0 := Sg9.cell0
    have kg1 := Sg9.cell1
    have kn1 : w.heap.size ≠ g := by omega
    have kn2 : g ≠ w.heap.size := by omega
    have kn3 : gb ≠ g := by omega
    have kn4 : g ≠ gb := by omega
    have kn5 : gb ≠ w.heap.size := by omega
    have kn6 : w.heap.size ≠ gb := by omega
    have kr0 := SR9.cell0
    have kr1 := SR9.cell1
    have kr2 := SR9.frozen 0
    have kr3 := SR9.frozen 1
    by_cases k0 : v9 = 0
    · subst k0
      have kc := f9.cell (ints_a0 (s := ys8) (k := 0) (by rw [HY8.out]; omega))
      have kf := f9.frozen (by rw [ints_length, HY8.out]; omega) ob
      simp only [Nat.add_zero] at kc
      have hw := IntWalk.i64_in (at0 ys8 0 + 1) (by have := HB8.out; omega)
      go_wp2_with fail
      go_still_tail 8, (by kernel_rfl)
      change wpList _ _ _ _ _ w9.drew
      have yy : Ext w9 w9.drew := (Ext.refl _).drew
      replace f9 := f9.ext yy
      replace m9 := m9.ext yy
      replace B9 := B9.ext yy
      replace F9 := F9.ext yy
      replace Sg9 := Sg9.ext yy
      replace SR9 := SR9.ext yy
      replace D9 := D9.trans yy
      clear kc kf hw kg0 kg1 kr0 kr1 kr2 kr3 yy
      generalize w9.drew = w10 at *
      have kc := f9.cell (ints_a0 (s := ys8) (k := 0) (by rw [HY8.out]; omega))
      have kf := f9.frozen (by rw [ints_length, HY8.out]; omega) ob
      simp only [Nat.add_zero] at kc
      have f10 := f9.set_ 0 (.int .i64 (at0 ys8 0 + 1))
      rw [ints_set] at f10
      have Sg10 := Sg9.far (p := ⟨gb, ob, none⟩) (by show g ≠ gb; omega) (.int .i64 (at0 ys8 0 + 1))
      have SR10 := SR9.far (p := ⟨gb, ob, none⟩) (by show w.heap.size ≠ gb; omega) (.int .i64 (at0 ys8 0 + 1))
      have m10 := m9.far (p := ⟨gb, ob, none⟩) (by show gb < l1 ∨ i1 ≤ gb; omega) (.int .i64 (at0 ys8 0 + 1))
      have B10 := B9.far (p := ⟨gb, ob, none⟩) (.inr (by show _ ≤ gb; omega)) (.int .i64 (at0 ys8 0 + 1))
      have F10 := F9.far (p := ⟨gb, ob, none⟩) (.inr (by show _ ≤ gb; omega)) (.int .i64 (at0 ys8 0 + 1))
      have D10 := D9.setCell (p := ⟨gb, ob, none⟩) (by show _ ≤ gb; omega) (.int .i64 (at0 ys8 0 + 1))
      simp only [Nat.add_zero] at f10
      have jg0 := Sg10.cell0
      have jg1 := Sg10.cell1
      have jr0 := SR10.cell0
      have jr1 := SR10.cell1
      have jr2 := SR10.frozen 0
      have jr3 := SR10.frozen 1
      have RR := SR10.put2 (.slice A8 16 c8) (.slice (some ⟨gb, ob, none⟩) 16 d8)
      have r0 := RR.cell0
      have r1 := RR.cell1
      have H1 := Lib.hid f10
      have H2 := Lib.hid m10
      have H3 := Lib.hid B10
      have H4 := Lib.hid F10
      have H5 := Lib.hid D10
      clear f10 m10 B10 F10 D10 f9 m9 B9 F9 D9 Sg9 SR9 Sg10 SR10 RR HB8
      go_wp2
      refine bodyPost_ret (v := .tuple #[.agg #[.slice A8 16 c8, .slice (some ⟨gb, ob, none⟩) 16 d8], .slice Ab 16 cb, .slice A3 16 c3]) (by simp [results, Try.results35, go_sem, r0, r1]) rfl ?_
      exact ⟨A8, c8, _, d8, Ab, cb, A3, c3, xs8, ys8.set 0 (at0 ys8 0 + 1), bm, ys, rfl, HX8.out, by simp [HY8.out], svB_16 HVB.out, HL3.out, (H2.out.put2 (g := w.heap.size) (by omega) _ _).full.mono (by omega) (Nat.le_refl _), (H1.out.put2 (g := w.heap.size) (by omega) _ _).full.mono (by omega) (Nat.le_refl _), (H3.out.put2 (g := w.heap.size) (by omega) _ _).full.mono (by omega) (Nat.le_refl _), (H4.out.put2 (g := w.heap.size) (by omega) _ _).full.mono (by omega) (Nat.le_refl _), H5.out.put2 (Nat.le_refl _) _ _⟩
    have k0' : ((v9 : Int) == 0) = false := by simp; omega
    have RR := SR9.put2 (.slice A8 16 c8) (.slice (some ⟨gb, ob, none⟩) 16 d8)
    have r0 := RR.cell0
    have r1 := RR.cell1
    have H1 := Lib.hid f9
    have H2 := Lib.hid m9
    have H3 := Lib.hid B9
    have H4 := Lib.hid F9
    have H5 := Lib.hid D9
    clear f9 m9 B9 F9 D9 Sg9 SR9 RR HB8
    go_wp2
    refine bodyPost_ret (v := .tuple #[.agg #[.slice A8 16 c8, .slice (some ⟨gb, ob, none⟩) 16 d8], .slice Ab 16 cb, .slice A3 16 c3]) (by simp [results, Try.results35, go_sem, r0, r1]) rfl ?_
    exact ⟨A8, c8, _, d8, Ab, cb, A3, c3, xs8, ys8, bm, ys, rfl, HX8.out, HY8.out, svB_16 HVB.out, HL3.out, (H2.out.put2 (g := w.heap.size) (by omega) _ _).full.mono (by omega) (Nat.le_refl _), (H1.out.put2 (g := w.heap.size) (by omega) _ _).full.mono (by omega) (Nat.le_refl _), (H3.out.put2 (g := w.heap.size) (by omega) _ _).full.mono (by omega) (Nat.le_refl _), (H4.out.put2 (g := w.heap.size) (by omega) _ _).full.mono (by omega) (Nat.le_refl _), H5.out.put2 (Nat.le_refl _) _ _⟩
end Go.Proofs.Ytbafniaohjjacaa
