/-
  Drawn pairs of skies with coverages: the reference's SkyAdd at any arguments, DrawDirtySame.
-/
import Derived.Test.YtohbflekinafjabDrawS
import Derived.Test.YtohbflekinafjabDirtyS
import Derived.Test.YtohbflekinafjabSkySpec
namespace Go.Proofs.Ytohbflekinafjab
open Go.RowKit

set_option maxHeartbeats 400000 in
theorem specSkyAdd_no (A B : Option Addr) (n m c d : Nat) (xs ys : List Int) (t : Int) (w : World) (hn : xs.length = n) (hm : ys.length = m) (z1 : n ≤ 1048576) (z2 : m ≤ 1048576) (hs : saB xs ys t = false) (h : Rd w w.heap.size A n c (ints xs)) (h' : Rd w w.heap.size B m d (ints ys)) :
    Calls Try.prog 44 #[.slice A n c, .slice B m d, .int .i64 t] w (RetSB w 3 0 [] false) := by
  have HC := Lib.hid (specSkyValid_any A n c xs (w.alloc (.cells #[] 3)) hn (by omega) ((h.alloc (Nat.le_refl _) _).mono (by simp)))
  have HD := Lib.hid (specSkyValid_any B m d ys (w.alloc (.cells #[] 3)) hm (by omega) ((h'.alloc (Nat.le_refl _) _).mono (by simp)))
  have HI := Lib.hid (l6In_any t (-100000) 100000 (w.alloc (.cells #[] 3)))
  rcases hv : svB xs with _ | _
  · rw [hv] at HC
    clear hn hm h h' hv hs
    go_enter Try.func44, Try.ntmps44
    go_wp2_with fail
    refine HC.out.mono ?_
    rintro e w' ⟨rfl, rfl⟩
    go_wp2
    go_ret2
    exact RetSB.nil rfl rfl ((Ext.refl w).alloc _)
  rw [hv] at HC
  rcases hv' : svB ys with _ | _
  · rw [hv'] at HD
    clear hn hm h h' hv hv' hs
    go_enter Try.func44, Try.ntmps44
    go_wp2_with fail
    refine HC.out.mono ?_
    rintro e w' ⟨rfl, rfl⟩
    go_wp2_with fail
    refine HD.out.mono ?_
    rintro e w' ⟨rfl, rfl⟩
    go_wp2
    go_ret2
    exact RetSB.nil rfl rfl ((Ext.refl w).alloc _)
  rw [hv'] at HD
  have hd : decide (-100000 ≤ t ∧ t ≤ 100000) = false := by simpa [saB, hv, hv'] using hs
  rw [hd] at HI
  clear hn hm h h' hv hv' hs hd
  go_enter Try.func44, Try.ntmps44
  go_wp2_with fail
  refine HC.out.mono ?_
  rintro e w' ⟨rfl, rfl⟩
  go_wp2_with fail
  refine HD.out.mono ?_
  rintro e w' ⟨rfl, rfl⟩
  go_wp2_with fail
  refine HI.out.mono ?_
  rintro e w' ⟨rfl, rfl⟩
  go_wp2
  go_ret2
  exact RetSB.nil rfl rfl ((Ext.refl w).alloc _)
/-- two lists of ints and one of bools in new memory are returned -/
def SomeIIB (w : World) (e : Ending) (w' : World) : Prop :=
  ∃ (A : Option Addr) (n c : Nat) (xs : List Int) (A1 : Option Addr) (n1 c1 : Nat) (ys : List Int) (A2 : Option Addr) (n2 c2 : Nat) (bs : List Bool), e = .returned (.tuple #[.slice A n c, .slice A1 n1 c1, .slice A2 n2 c2]) ∧ xs.length = n ∧ n ≤ 16 ∧ ys.length = n1 ∧ n1 ≤ 16 ∧ bs.length = n2 ∧ n2 ≤ 16 ∧
    Sl w' w.heap.size w'.heap.size 3 A n c (ints xs) ∧ Sl w' w.heap.size w'.heap.size 3 A1 n1 c1 (ints ys) ∧ Sl w' w.heap.size w'.heap.size 4 A2 n2 c2 (bools bs) ∧ Ext w w'
set_option maxRecDepth 100000 in
set_option maxHeartbeats 2000000 in
theorem drawDirtySame_any (A : Option Addr) (n c : Nat) (zs : List Int) (w : World) (hn : zs.length = n) (hm : n ≤ 9223372036854775807) (h : Rd w w.heap.size A n c (zs.map (.int .u8))) (hz : ∀ z ∈ zs, 0 ≤ z ∧ z ≤ 255) :
    Calls Try.prog 18 #[.slice A n c] w (SomeIIB w) := by
  have HO := Lib.hid (l6Open_any A n c zs w hn hm h hz)
  clear hn hz h
  go_enter Try.func18, Try.ntmps18
  go_wp2_with fail
  refine HO.out.mono ?_
  rintro e w1 ⟨rfl, R1, x1⟩
  have hr := R1.lt
  have z1 := x1.size
  go_wp2_with fail
  refine (l92Sky_any w.heap.size w.heap.size 0 _ (by omega) R1).mono ?_
  rintro e w2 ⟨As, ns, cs, s, ps, rfl, hls, h15, hbs, S, R2, hp2, C2⟩
  have HS := Lib.hid hls
  clear hls
  have X2 := x1.more C2 (Nat.le_refl _)
  have z2 := C2.size
  go_wp2_with fail
  refine (l92Cover_any w.heap.size w.heap.size ps _ (by omega) R2).mono ?_
  rintro e w3 ⟨Ac, nc, cc, b, pc, rfl, hlc, hbc, B, R3, hp3, C3⟩
  have HB := Lib.hid hlc
  clear hlc
  replace S := S.chg C3 (.inr (by omega))
  have X3 := X2.more C3 (Nat.le_refl _)
  have z3 := C3.size
  have hhl := covHoles_length b
  rcases hv : cvB b with _ | _
  · have HV := Lib.hid hv
    clear hv
    go_wp2_with fail
    refine (specCoverHoles_any Ac nc cc b _ HB.out B.rd).mono ?_
    rintro e w4 ⟨A4, c4, rfl, S4, x4⟩
    rw [HV.out]
    replace S := S.ext x4
    replace B := B.ext x4
    replace X3 := X3.trans x4
    have R4 := R3.ext x4
    have z4 := x4.size
    go_wp2_with fail
    refine (l92Sky_any w.heap.size w.heap.size pc _ (by omega) R4).mono ?_
    rintro e w9 ⟨A9, n9, c9, y, p9, rfl, hl9, h159, hb9, S9, R9, hp9, C9⟩
    replace S := S.chg C9 (.inr (by omega))
    replace B := B.chg C9 (.inr (by omega))
    replace X3 := X3.more C9 (Nat.le_refl _)
    have z9 := C9.size
    have HL9 := Lib.hid hl9
    clear hl9
    go_wp2
    go_ret3
    exact ⟨As, ns, cs, s, A9, n9, c9, y, Ac, nc, cc, b, rfl, HS.out, hbs, HL9.out, hb9, HB.out, hbc, S.full.mono (by omega) (Nat.le_refl _), S9.full.mono (by omega) (Nat.le_refl _), B.full.mono (by omega) (Nat.le_refl _), X3⟩
  have HV := Lib.hid hv
  have HVH := Lib.hid (cvB_holes hv)
  clear hv
  go_wp2_with fail
  refine (specCoverHoles_any Ac nc cc b _ HB.out B.rd).mono ?_
  rintro e w4 ⟨A4, c4, rfl, S4, x4⟩
  rw [HV.out]
  replace S := S.ext x4
  replace B := B.ext x4
  replace X3 := X3.trans x4
  have R4 := R3.ext x4
  have z4 := x4.size
  go_wp2_with fail
  refine (pick_any w.heap.size w.heap.size pc 3 _ (by omega) (by omega) (by omega) R4).mono ?_
  rintro e w5 ⟨v5, rfl, hv5, R5, C5⟩
  replace S := S.chg C5 (.inr (by omega))
  replace B := B.chg C5 (.inr (by omega))
  replace S4 := S4.chg C5 (.inr (by omega))
  replace X3 := X3.more C5 (Nat.le_refl _)
  have z5 := C5.size
  by_cases k5 : v5 = 0
  · subst k5
    go_wp2_with fail
    refine (l92Sky_any w.heap.size w.heap.size (pc + 1) _ (by omega) R5).mono ?_
    rintro e w9 ⟨A9, n9, c9, y, p9, rfl, hl9, h159, hb9, S9, R9, hp9, C9⟩
    replace S := S.chg C9 (.inr (by omega))
    replace B := B.chg C9 (.inr (by omega))
    replace X3 := X3.more C9 (Nat.le_refl _)
    have z9 := C9.size
    have HL9 := Lib.hid hl9
    clear hl9
    go_wp2
    go_ret3
    exact ⟨As, ns, cs, s, A9, n9, c9, y, Ac, nc, cc, b, rfl, HS.out, hbs, HL9.out, hb9, HB.out, hbc, S.full.mono (by omega) (Nat.le_refl _), S9.full.mono (by omega) (Nat.le_refl _), B.full.mono (by omega) (Nat.le_refl _), X3⟩
  have k5' : (0 : Int) < (v5 : Int) := by omega
  have k5'' : decide ((0 : Int) < (v5 : Int)) = true := by simpa using k5'
  go_wp2_with fail
  refine (specBeamOf_any A4 _ c4 (covHoles b) _ rfl S4.rd).mono ?_
  rintro e w6 ⟨A6, n6, c6, x, rfl, hl6, hn6, S6, x6, _⟩
  rw [HVH.out] at hn6 ⊢
  rw [if_pos rfl] at hn6
  subst hn6
  have HX := Lib.hid hl6
  clear hl6
  replace S := S.ext x6
  replace B := B.ext x6
  replace X3 := X3.trans x6
  have R6 := R5.ext x6
  have z6 := x6.size
  go_wp2_with fail
  refine (pick_any w.heap.size w.heap.size (pc + 1) 3 _ (by omega) (by omega) (by omega) R6).mono ?_
  rintro e w7 ⟨v7, rfl, hv7, R7, C7⟩
  replace S := S.chg C7 (.inr (by omega))
  replace B := B.chg C7 (.inr (by omega))
  replace S6 := S6.chg C7 (.inr (by omega))
  replace X3 := X3.more C7 (Nat.le_refl _)
  have z7 := C7.size
  rcases hsa : saB s x (1 + (v7 : Int)) with _ | _
  · have HSA := Lib.hid hsa
    clear hsa
    go_wp2_with fail
    refine (specSkyAdd_no As A6 ns 16 cs c6 s x (1 + (v7 : Int)) _ HS.out HX.out (by omega) (by omega) HSA.out S.rd S6.rd).mono ?_
    rintro e w8 ⟨A8, c8, rfl, S8, x8⟩
    replace S := S.ext x8
    replace B := B.ext x8
    replace X3 := X3.trans x8
    have R8 := R7.ext x8
    have z8 := x8.size
    go_wp2_with fail
    refine (l92Sky_any w.heap.size w.heap.size (pc + 1 + 1) _ (by omega) R8).mono ?_
    rintro e w9 ⟨A9, n9, c9, y, p9, rfl, hl9, h159, hb9, S9, R9, hp9, C9⟩
    replace S := S.chg C9 (.inr (by omega))
    replace B := B.chg C9 (.inr (by omega))
    replace X3 := X3.more C9 (Nat.le_refl _)
    have z9 := C9.size
    have HL9 := Lib.hid hl9
    clear hl9
    go_wp2
    go_ret3
    exact ⟨As, ns, cs, s, A9, n9, c9, y, Ac, nc, cc, b, rfl, HS.out, hbs, HL9.out, hb9, HB.out, hbc, S.full.mono (by omega) (Nat.le_refl _), S9.full.mono (by omega) (Nat.le_refl _), B.full.mono (by omega) (Nat.le_refl _), X3⟩
  obtain rfl : ns = 16 := by rw [← HS.out]; simp only [saB, Bool.and_eq_true] at hsa; exact svB_16 hsa.1.1
  have HSA := Lib.hid hsa
  clear hsa
  have hol := skyOr_length (addL s x (1 + (v7 : Int)))
  rcases hok : svB (addL s x (1 + (v7 : Int))) with _ | _
  · have HOK := Lib.hid hok
    clear hok
    go_wp2_with fail
    refine (specSkyAdd_yes As A6 cs c6 s x (1 + (v7 : Int)) _ HSA.out S.rd S6.rd).mono ?_
    rintro e w8 ⟨A8, c8, rfl, S8, x8⟩
    rw [HOK.out]
    replace S := S.ext x8
    replace B := B.ext x8
    replace X3 := X3.trans x8
    have R8 := R7.ext x8
    have z8 := x8.size
    go_wp2_with fail
    refine (l92Sky_any w.heap.size w.heap.size (pc + 1 + 1) _ (by omega) R8).mono ?_
    rintro e w9 ⟨A9, n9, c9, y, p9, rfl, hl9, h159, hb9, S9, R9, hp9, C9⟩
    replace S := S.chg C9 (.inr (by omega))
    replace B := B.chg C9 (.inr (by omega))
    replace X3 := X3.more C9 (Nat.le_refl _)
    have z9 := C9.size
    have HL9 := Lib.hid hl9
    clear hl9
    go_wp2
    go_ret3
    exact ⟨As, 16, cs, s, A9, n9, c9, y, Ac, nc, cc, b, rfl, HS.out, hbs, HL9.out, hb9, HB.out, hbc, S.full.mono (by omega) (Nat.le_refl _), S9.full.mono (by omega) (Nat.le_refl _), B.full.mono (by omega) (Nat.le_refl _), X3⟩
  have HOK := Lib.hid hok
  clear hok
  go_wp2_with fail
  refine (specSkyAdd_yes As A6 cs c6 s x (1 + (v7 : Int)) _ HSA.out S.rd S6.rd).mono ?_
  rintro e w8 ⟨A8, c8, rfl, S8, x8⟩
  rw [HOK.out]
  replace S := S.ext x8
  replace B := B.ext x8
  replace X3 := X3.trans x8
  have z8 := x8.size
  go_wp2
  go_ret3
  exact ⟨As, 16, cs, s, A8, _, c8, _, Ac, nc, cc, b, rfl, HS.out, hbs, rfl, hol, HB.out, hbc, S.full.mono (by omega) (Nat.le_refl _), S8.full.mono (by omega) (Nat.le_refl _), B.full.mono (by omega) (Nat.le_refl _), X3⟩
end Go.Proofs.Ytohbflekinafjab
