/-
  Drawn skies with coverages: DrawDirtyOf.
-/
import Derived.Test.YtohbflekinafjabDrawS
namespace Go.Proofs.Ytohbflekinafjab
open Go.RowKit

/-- a list of ints and one of bools in new memory are returned -/
def SomeIB (w : World) (e : Ending) (w' : World) : Prop :=
  ∃ (A : Option Addr) (n c : Nat) (xs : List Int) (A2 : Option Addr) (n2 c2 : Nat) (bs : List Bool), e = .returned (.tuple #[.slice A n c, .slice A2 n2 c2]) ∧ xs.length = n ∧ n ≤ 16 ∧ bs.length = n2 ∧ n2 ≤ 16 ∧
    Sl w' w.heap.size w'.heap.size 3 A n c (ints xs) ∧ Sl w' w.heap.size w'.heap.size 4 A2 n2 c2 (bools bs) ∧ Ext w w'
theorem drawDirtyOf_any (A : Option Addr) (n c : Nat) (zs : List Int) (w : World) (hn : zs.length = n) (hm : n ≤ 9223372036854775807) (h : Rd w w.heap.size A n c (zs.map (.int .u8))) (hz : ∀ z ∈ zs, 0 ≤ z ∧ z ≤ 255) :
    Calls Try.prog 9 #[.slice A n c] w (SomeIB w) := by
  have HO := Lib.hid (l6Open_any A n c zs w hn hm h hz)
  clear hn hz h
  go_enter Try.func9, Try.ntmps9
  go_wp2_with fail
  refine HO.out.mono ?_
  rintro e w1 ⟨rfl, R, x⟩
  have hr := R.lt
  go_wp2_with fail
  refine (l92Sky_any w.heap.size w.heap.size 0 _ (by omega) R).mono ?_
  rintro e w2 ⟨A', n', c', xs, p', rfl, hl, h15, hb, s, R', hp', C⟩
  have HL := Lib.hid hl
  clear hl
  go_wp2_with fail
  refine (l92Cover_any w.heap.size w.heap.size p' _ (by omega) R').mono ?_
  rintro e w3 ⟨A2, n2, c2, bs2, p2, rfl, hl2, hb2, s2, R2, _, C2⟩
  have HL2 := Lib.hid hl2
  clear hl2
  go_wp2
  go_ret2
  have z1 := x.size
  have z2 := C.size
  have z3 := C2.size
  exact ⟨A', n', c', xs, A2, n2, c2, bs2, rfl, HL.out, hb, HL2.out, hb2, (s.chg C2 (.inr (by omega))).mono z1 z3, s2.mono (by omega) (Nat.le_refl _), (x.more C (Nat.le_refl _)).more C2 (Nat.le_refl _)⟩
end Go.Proofs.Ytohbflekinafjab
