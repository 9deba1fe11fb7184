/-
  Drawn arrays and visibilities of them: DrawRedundantSpread, DrawRedundantFits.
-/
import Derived.Test.YtebjdchfofhmhaaDrawB
import Derived.Test.YtebjdchfofhmhaaRedH
namespace Go.Proofs.Ytebjdchfofhmhaa
open Go.RowKit
set_option linter.unusedSimpArgs false
set_option linter.unusedVariables false

theorem nbI_one : nbI 1 = 0 := by decide
set_option maxHeartbeats 400000 in
theorem l91Vis_one (B r p : Nat) (w : World) (h : Rdr w B r p) :
    Calls Try.prog 46 #[.pointer (some ⟨r, 0, none⟩), .int .i64 1] w (DrewL w B r p 100 0 22) := by
  have hrl := h.lt
  go_enter Try.func46, Try.ntmps46
  go_wp2_with fail
  go_loopw [5, 6] (fun v i wr => v = .slice (some ⟨w.heap.size, 0, none⟩) 0 0 ∧ i = .int .i64 0 ∧ Ext w wr) (fun _ i _ => 0)
  case atStart => exact ⟨rfl, rfl, (Ext.refl w).alloc _⟩
  case round =>
    obtain ⟨rfl, rfl, hx⟩ := hrel
    go_wp2_with (go_at_call 61; refine (specBaseMany_any _ _).mono ?_; rintro e w' ⟨rfl, rfl⟩; rw [nbI_one])
    go_ret
    exact ⟨_, 0, 0, [], p, rfl, rfl, by omega, by omega, Sl.nil (Nat.le_refl _), h.ext hx, by omega, hx.chg⟩
theorem l91Vis_few (N B r p : Nat) (w : World) (h1 : 1 ≤ N) (h2 : N < 8) (hp : p ≤ 8000) (h : Rdr w B r p) :
    Calls Try.prog 46 #[.pointer (some ⟨r, 0, none⟩), .int .i64 (N : Int)] w (DrewL w B r p 100 0 22) := by
  by_cases hN : N = 1
  · subst hN
    exact l91Vis_one B r p w h
  · refine (l91Vis_any N B r p w (by omega) h2 hp h).mono ?_
    rintro e w' ⟨A, n, c, l, p', a1, a2, a3, a4, a5, a6, a7, a8⟩
    exact ⟨A, n, c, l, p', a1, a2, by omega, a4, a5, a6, a7, a8⟩
/-- an array and visibilities are drawn -/
def Some2R (w : World) (e : Ending) (w' : World) : Prop :=
  ∃ (A1 : Option Addr) (n1 c1 : Nat) (l : VL) (A2 : Option Addr) (n2 c2 : Nat) (v : VL), e = .returned (.tuple #[.slice A1 n1 c1, .slice A2 n2 c2]) ∧ l.length = n1 ∧ n1 ≤ 5 ∧ v.length = n2 ∧ n2 ≤ 22 ∧ Rd w' w'.heap.size A1 n1 c1 (pairs l) ∧ Rd w' w'.heap.size A2 n2 c2 (pairs v) ∧ Ext w w'
theorem drawRedundantSpread_any (A : Option Addr) (n c : Nat) (zs : List Int) (w : World) (hn : zs.length = n) (hm : n ≤ 9223372036854775807) (h : Rd w w.heap.size A n c (zs.map (.int .u8))) (hz : ∀ z ∈ zs, 0 ≤ z ∧ z ≤ 255) :
    Calls Try.prog 22 #[.slice A n c] w (Some2R w) := by
  have HO := Lib.hid (l6Open_any A n c zs w hn hm h hz)
  clear hn hz h
  go_enter Try.func22, Try.ntmps22
  go_wp2_with fail
  refine HO.out.mono ?_
  rintro e w1 ⟨rfl, R1, x1⟩
  have hr := R1.lt
  go_wp2_with fail
  refine (l92Regular_any w.heap.size w.heap.size 0 _ (by omega) R1).mono ?_
  rintro e w2 ⟨A1, n1, c1, l, p', rfl, hl, a1, a2, s1, R2, hp', C2⟩
  have HL := Lib.hid hl
  have z1 := x1.size
  have z2 := C2.size
  clear hl
  go_wp2_with fail
  refine (l91Vis_few n1 w.heap.size w.heap.size p' _ a1 (by omega) (by omega) R2).mono ?_
  rintro e w3 ⟨A2, n2, c2, v, p3, rfl, hv, b1, b2, s2, R3, hp3, C3⟩
  have HV := Lib.hid hv
  clear hv
  go_wp2
  go_ret2
  exact ⟨A1, n1, c1, l, A2, n2, c2, v, rfl, HL.out, a2, HV.out, b2, (s1.chg C3 (.inr (by omega))).rd, s2.rd, (x1.more C2 (Nat.le_refl _)).more C3 (Nat.le_refl _)⟩
theorem drawRedundantFits_any (A : Option Addr) (n c : Nat) (zs : List Int) (w : World) (hn : zs.length = n) (hm : n ≤ 9223372036854775807) (h : Rd w w.heap.size A n c (zs.map (.int .u8))) (hz : ∀ z ∈ zs, 0 ≤ z ∧ z ≤ 255) :
    Calls Try.prog 27 #[.slice A n c] w (Some2R w) := by
  have HO := Lib.hid (l6Open_any A n c zs w hn hm h hz)
  clear hn hz h
  go_enter Try.func27, Try.ntmps27
  go_wp2_with fail
  refine HO.out.mono ?_
  rintro e w1 ⟨rfl, R1, x1⟩
  have hr := R1.lt
  go_wp2_with fail
  refine (l92Regular_any w.heap.size w.heap.size 0 _ (by omega) R1).mono ?_
  rintro e w2 ⟨A1, n1, c1, l, p', rfl, hl, a1, a2, s1, R2, hp', C2⟩
  have HL := Lib.hid hl
  have z1 := x1.size
  have z2 := C2.size
  clear hl
  go_wp2_with fail
  refine (l91Vis_few n1 w.heap.size w.heap.size p' _ a1 (by omega) (by omega) R2).mono ?_
  rintro e w3 ⟨A2, n2, c2, v, p3, rfl, hv, b1, b2, s2, R3, hp3, C3⟩
  have HV := Lib.hid hv
  have s3 := s1.chg C3 (.inr (by omega))
  have X3 := (x1.more C2 (Nat.le_refl _)).more C3 (Nat.le_refl _)
  have z5 := C3.size
  clear hv s1 R1 R2 C2 C3 x1
  go_wp2_with fail
  refine (specSpread_any A1 A2 n1 c1 n2 c2 l v _ HL.out HV.out (by omega) (by omega) s3.rd s2.rd).mono ?_
  rintro e w4 ⟨A4, c4, rfl, s4, x4⟩
  have z4 := x4.size
  have z3 := X3.size
  rcases hB : rsB l v with _ | _
  · have HB := Lib.hid hB
    clear hB
    go_wp2
    go_ret2
    exact ⟨A1, n1, c1, l, A2, n2, c2, v, rfl, HL.out, a2, HV.out, b2, (s3.ext x4).rd, (s2.ext x4).rd, X3.trans x4⟩
  · have HB := Lib.hid hB
    have hs := rsO_short l v
    clear hB
    go_wp2_with fail
    refine (pick_any w.heap.size w.heap.size p3 3 _ (by omega) (by omega) (by omega) (R3.ext x4)).mono ?_
    rintro e w5 ⟨v5, rfl, hv5, R5, C5⟩
    have X5 := (X3.trans x4).more C5 (Nat.le_refl _)
    have t1 := (s3.ext x4).chg C5 (.inr (by omega))
    have t2 := (s2.ext x4).chg C5 (.inr (by omega))
    have t4 := s4.chg C5 (.inr (by omega))
    have HZ := Lib.hid (And.intro X5 (And.intro t1.rd (And.intro t2.rd t4.rd)))
    clear X5 t1 t2 t4 s2 s3 s4 X3 x4 C5 R3 R5
    by_cases h5 : v5 = 0
    · subst h5
      go_wp2
      go_ret2
      exact ⟨A1, n1, c1, l, A2, n2, c2, v, rfl, HL.out, a2, HV.out, b2, HZ.out.2.1, HZ.out.2.2.1, HZ.out.1⟩
    · have h5' : (0 : Int) < (v5 : Int) := by omega
      go_wp2
      go_ret2
      exact ⟨A1, n1, c1, l, A4, _, c4, rsO l v, rfl, HL.out, a2, rfl, by omega, HZ.out.2.1, HZ.out.2.2.2, HZ.out.1⟩
end Go.Proofs.Ytebjdchfofhmhaa
