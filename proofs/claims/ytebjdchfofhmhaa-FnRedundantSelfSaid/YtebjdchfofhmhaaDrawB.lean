/-
  Drawn arrays with redundant baselines, and drawn visibilities of them.
-/
import Derived.Test.YtebjdchfofhmhaaDrawA
namespace Go.Proofs.Ytebjdchfofhmhaa
open Go.RowKit
set_option linter.unusedSimpArgs false
set_option linter.unusedVariables false

set_option maxHeartbeats 400000 in
theorem l92Regular_any (B r p : Nat) (w : World) (hp : p ≤ 5000) (h : Rdr w B r p) :
    Calls Try.prog 45 #[.pointer (some ⟨r, 0, none⟩)] w (DrewA w B r p 50 1 5) := by
  have hrl := h.lt
  have hrb := h.ge
  go_enter Try.func45, Try.ntmps45
  go_wp2_with fail
  refine (pick_any B r p 3 _ (by omega) (by omega) (by omega) h).mono ?_
  rintro e w0 ⟨v0, rfl, hv0, R0, C0⟩
  have z0 := C0.size
  by_cases e0 : v0 = 0
  · subst e0
    go_wp2_with fail
    refine (l91Array_any B r (p + 1) _ (by omega) R0).mono ?_
    rintro e w1 ⟨A, n, c, l, p', rfl, hl, h1, h2, s, R, hp', C⟩
    have HL := Lib.hid hl
    clear hl
    go_wp2
    go_ret
    exact ⟨A, n, c, l, p', rfl, HL.out, h1, h2, s.mono (by omega) (Nat.le_refl _), R, by omega, C0.trans C⟩
  have e0' : ((v0 : Int) == 0) = false := by simp; omega
  have xA : Ext w0 (w0.alloc (.cells #[] 49)) := (Ext.refl w0).alloc _
  have R1 := R0.ext xA
  have o1 : (w0.alloc (.cells #[] 49)).ownsRow w0.heap.size 49 2 (.slice (some ⟨w0.heap.size, 0, none⟩) 0 0) 0 (pairs []) := World.ownsRow_lit w0 #[] 0 (Nat.le_refl _) (by simp [maxLen]) rfl
  have hz1 : (w0.alloc (.cells #[] 49)).heap.size = w0.heap.size + 1 := World.size_alloc _ _
  have D1 : Chg r (r + 1) w (w0.alloc (.cells #[] 49)) := C0.trans xA.chg
  clear R0 C0 xA
  go_wp2_with fail
  generalize w0.alloc (.cells #[] 49) = w1 at *
  generalize w0.heap.size = G at *
  refine (pick_any B r (p + 1) 3 _ (by omega) (by omega) (by omega) R1).mono ?_
  rintro e w2 ⟨N, rfl, hN, R2, C2⟩
  have z2 := C2.size
  go_wp2_with fail
  refine (pick_any B r (p + 1 + 1) 3 _ (by omega) (by omega) (by omega) R2).mono ?_
  rintro e w3 ⟨X, rfl, hX, R3, C3⟩
  have z3 := C3.size
  go_wp2_with fail
  refine (pick_any B r (p + 1 + 1 + 1) 3 _ (by omega) (by omega) (by omega) R3).mono ?_
  rintro e w4 ⟨Y, rfl, hY, R4, C4⟩
  have z4 := C4.size
  have o4 := own_chg (own_chg (own_chg o1 C2 (fun g hg => by have := own_base o1 g hg; omega)) C3 (fun g hg => by have := own_base o1 g hg; omega)) C4 (fun g hg => by have := own_base o1 g hg; omega)
  have D4 := ((D1.trans C2).trans C3).trans C4
  clear o1 D1 C2 C3 C4 R1 R2 R3
  go_wp2_with fail
  go_loopw [3, 7] (fun o i wr => ∃ (k : Nat) (l : VL), k ≤ N + 2 ∧ i = .int .i64 k ∧ Hid (l.length = k) ∧ wr.ownsRow G 49 2 o k (pairs l) ∧ Rdr wr B r (p + 1 + 1 + 1 + 1) ∧ Chg r (r + 1) w wr ∧ w4.heap.size ≤ wr.heap.size) (fun _ i _ => N + 2 - (intOf i).toNat)
  case atStart => exact ⟨0, [], by omega, rfl, (rfl : _ = _), o4, R4, D4, Nat.le_refl _⟩
  case round =>
    clear o4 R4 D4
    obtain ⟨k, l, hk, rfl, hl, o5, R5, D5, z5⟩ := hrel
    obtain ⟨A5, c5, hv5, s5⟩ := Sl.of_own o5
    subst hv5
    by_cases hlt : k < N + 2
    · have hkl : (k : Int) < 2 + (N : Int) := by omega
      have f1 : IntKind.i64.wrap ((1 + (X : Int)) * (k : Int)) = (1 + (X : Int)) * (k : Int) := IntWalk.i64_in _ (mul_b (by omega) (by omega) (by omega) (by omega))
      have f2 : IntKind.i64.wrap ((Y : Int) * (k : Int)) = (Y : Int) * (k : Int) := by
        rcases (show Y = 0 ∨ 1 ≤ Y by omega) with rfl | h1
        · simp only [Int.ofNat_zero, Int.zero_mul]; rfl
        · exact IntWalk.i64_in _ (mul_b (by omega) (by omega) (by omega) (by omega))
      have hzr : G ≤ wr.heap.size := by omega
      go_wp2_with (at_builtin; refine wpList_append2C (w := wr) rfl _ _ _ rfl G 49 16 Ant.info Try.underlying27 _ k _ (by rfl) o5 ((1 + (X : Int)) * (k : Int)) ((Y : Int) * (k : Int)) rfl (by omega) (by omega) hzr ?_; intro v' w' hs' C')
      go_roundw
      case rel => exact ⟨k + 1, l ++ [((1 + (X : Int)) * (k : Int), (Y : Int) * (k : Int))], by omega, by go_num, (by show _ = _; simp [hl.out]), hs', R5.chg C' (by omega) (by omega), D5.moreG C' (by omega), by have := C'.size; omega⟩
      case measure => simp [intOf]; omega
    · have hkl : ¬ (k : Int) < 2 + (N : Int) := by omega
      go_wp2_with fail
      refine (pick_any B r (p + 1 + 1 + 1 + 1) 2 _ (by omega) (by omega) (by omega) R5).mono ?_
      rintro e w6 ⟨v6, rfl, hv6, R6, C6⟩
      have z6 := C6.size
      have o6 := own_chg o5 C6 (fun g hg => by have := own_base o5 g hg; omega)
      have D6 := D5.trans C6
      have s6 := s5.chg C6 (.inr (by omega))
      clear o5 D5 C6 s5 R5
      by_cases e6 : v6 = 0
      · subst e6
        have hz6 : G ≤ w6.heap.size := by omega
        go_wp2_with (at_builtin; refine wpList_append2C (w := w6) rfl _ _ _ rfl G 49 16 Ant.info Try.underlying27 _ k _ (by rfl) o6 (-3) 7 rfl (by omega) (by omega) hz6 ?_; intro v' w7 o7 C7; obtain ⟨A7, c7, hv7, s7⟩ := Sl.of_own o7; subst hv7)
        have z7 := C7.size
        have RT := R6.chg C7 (by omega) (by omega)
        have DT := D6.moreG C7 (by omega)
        have sT := s7
        have hLT : Hid ((l ++ [(-3, 7)]).length = k + 1) := by show _ = _; simp [hl.out]
        clear R6 D6 C7 o6 o7 s6 s7
        generalize l ++ [(-3, 7)] = l7 at *
        refine (pick_any B r (p + 1 + 1 + 1 + 1 + 1) 3 _ (by omega) (by omega) (by omega) RT).mono ?_
        rintro e wa ⟨va, rfl, hva, Ra, Ca⟩
        have za := Ca.size
        have Da := DT.trans Ca
        have sa := sT.chg Ca (.inr (by omega))
        clear sT RT DT Ca
        by_cases ka : va = 0
        · subst ka
          obtain ⟨⟨a0, b0⟩, hab⟩ := at_of_lt (l := l7) (k := 0) (by rw [hLT.out]; omega)
          obtain ⟨⟨a1, b1⟩, hab1⟩ := at_of_lt (l := l7) (k := 1) (by rw [hLT.out]; omega)
          obtain ⟨g, off, ea, hg1, hg2, hg3⟩ := sa.addr (by rw [pairs_length, hLT.out]; omega)
          obtain rfl := ea
          have c0 := sa.fst hab
          have c1 := sa.snd hab
          have s8 := sa.ext ((Ext.refl wa).alloc (.cells #[.int .i64 a0, .int .i64 b0] 49))
          have d0 := s8.fst hab1
          have d1 := s8.snd hab1
          have f0 := s8.frozen (by rw [pairs_length, hLT.out]; omega) off
          simp only [Nat.zero_mul, Nat.add_zero, Nat.one_mul] at c0 c1 d0 d1
          have s9 := sa.setF hab a1
          have e9 := s9.ext ((Ext.refl _).alloc (.cells #[.int .i64 a0, .int .i64 b0] 49))
          have f1 := e9.frozen (by rw [pairs_length, List.length_set, hLT.out]; omega) (off + 1)
          have s9' := s9.setS (l := l7.set 0 (a1, b0)) (k := 0) (a := a1) (b := b0) (by rw [List.getElem?_set_self (by rw [hLT.out]; omega)]) b1
          rw [List.set_set] at s9'
          have hab2 : (l7.set 0 (a1, b1))[1]? = some (a1, b1) := by rw [List.getElem?_set_ne (by omega), hab1]
          have e9' := s9'.ext ((Ext.refl _).alloc (.cells #[.int .i64 a0, .int .i64 b0] 49))
          have f2 := e9'.frozen (by rw [pairs_length, List.length_set, hLT.out]; omega) (off + 2)
          have g2 := e9'.fst hab2
          have t9 := s9'.setF hab2 a0
          have g9 := t9.ext ((Ext.refl _).alloc (.cells #[.int .i64 a0, .int .i64 b0] 49))
          have f3 := g9.frozen (by rw [pairs_length, List.length_set, List.length_set, hLT.out]; omega) (off + 2 + 1)
          have hab3 : ((l7.set 0 (a1, b1)).set 1 (a0, b1))[1]? = some (a0, b1) := by rw [List.getElem?_set_self (by rw [List.length_set, hLT.out]; omega)]
          have g3 := g9.snd hab3
          have t9' := t9.setS (l := (l7.set 0 (a1, b1)).set 1 (a0, b1)) (k := 1) (a := a0) (b := b1) (by rw [List.getElem?_set_self (by rw [List.length_set, hLT.out]; omega)]) b0
          have u9 := t9'.ext ((Ext.refl _).alloc (.cells #[.int .i64 a0, .int .i64 b0] 49))
          simp only [Nat.zero_mul, Nat.add_zero, Nat.one_mul] at f1 f2 f3 g2 g3 u9
          have R9 := ((((Ra.far (q := ⟨g, off, none⟩) (by show r < g; omega) (.int .i64 a1)).far (q := ⟨g, off + 1, none⟩) (by show r < g; omega) (.int .i64 b1)).far (q := ⟨g, off + 2, none⟩) (by show r < g; omega) (.int .i64 a0)).far (q := ⟨g, off + 2 + 1, none⟩) (by show r < g; omega) (.int .i64 b0)).ext ((Ext.refl _).alloc (.cells #[.int .i64 a0, .int .i64 b0] 49))
          have D9 := ((((Da.setCell (p := ⟨g, off, none⟩) (.inr (by show _ ≤ g; omega)) (.int .i64 a1)).setCell (p := ⟨g, off + 1, none⟩) (.inr (by show _ ≤ g; omega)) (.int .i64 b1)).setCell (p := ⟨g, off + 2, none⟩) (.inr (by show _ ≤ g; omega)) (.int .i64 a0)).setCell (p := ⟨g, off + 2 + 1, none⟩) (.inr (by show _ ≤ g; omega)) (.int .i64 b0)).alloc (.cells #[.int .i64 a0, .int .i64 b0] 49)
          have HZ := Lib.hid (And.intro u9 (And.intro R9 D9))
          have q0 : (0 : Int) < ((k + 1) : Int) := by omega
          have q1 : (1 : Int) < ((k + 1) : Int) := by omega
          clear s9 e9 s9' e9' t9 g9 t9' u9 R9 D9 sa Ra Da s8 hab hab1 hab2 hab3
          go_wp2
          go_ret
          exact ⟨_, (k + 1), c7, _, _, rfl, by simp [hLT.out], by omega, by omega, HZ.out.1.full.mono (by omega) (Nat.le_refl _), HZ.out.2.1, by omega, HZ.out.2.2⟩
        have ka' : ((va : Int) == 0) = false := by simp; omega
        have HZ := Lib.hid (And.intro sa (And.intro Ra Da))
        clear sa Ra Da
        go_wp2
        go_ret
        exact ⟨_, (k + 1), c7, l7, _, rfl, hLT.out, by omega, by omega, HZ.out.1.full.mono (by omega) (Nat.le_refl _), HZ.out.2.1, by omega, HZ.out.2.2⟩
      · have e6' : ((v6 : Int) == 0) = false := by simp; omega
        have RT := R6
        have DT := D6
        have sT := s6
        have hLT := hl
        clear R6 D6 o6 s6
        go_wp2_with fail
        refine (pick_any B r (p + 1 + 1 + 1 + 1 + 1) 3 _ (by omega) (by omega) (by omega) RT).mono ?_
        rintro e wa ⟨va, rfl, hva, Ra, Ca⟩
        have za := Ca.size
        have Da := DT.trans Ca
        have sa := sT.chg Ca (.inr (by omega))
        clear sT RT DT Ca
        by_cases ka : va = 0
        · subst ka
          obtain ⟨⟨a0, b0⟩, hab⟩ := at_of_lt (l := l) (k := 0) (by rw [hLT.out]; omega)
          obtain ⟨⟨a1, b1⟩, hab1⟩ := at_of_lt (l := l) (k := 1) (by rw [hLT.out]; omega)
          obtain ⟨g, off, ea, hg1, hg2, hg3⟩ := sa.addr (by rw [pairs_length, hLT.out]; omega)
          obtain rfl := ea
          have c0 := sa.fst hab
          have c1 := sa.snd hab
          have s8 := sa.ext ((Ext.refl wa).alloc (.cells #[.int .i64 a0, .int .i64 b0] 49))
          have d0 := s8.fst hab1
          have d1 := s8.snd hab1
          have f0 := s8.frozen (by rw [pairs_length, hLT.out]; omega) off
          simp only [Nat.zero_mul, Nat.add_zero, Nat.one_mul] at c0 c1 d0 d1
          have s9 := sa.setF hab a1
          have e9 := s9.ext ((Ext.refl _).alloc (.cells #[.int .i64 a0, .int .i64 b0] 49))
          have f1 := e9.frozen (by rw [pairs_length, List.length_set, hLT.out]; omega) (off + 1)
          have s9' := s9.setS (l := l.set 0 (a1, b0)) (k := 0) (a := a1) (b := b0) (by rw [List.getElem?_set_self (by rw [hLT.out]; omega)]) b1
          rw [List.set_set] at s9'
          have hab2 : (l.set 0 (a1, b1))[1]? = some (a1, b1) := by rw [List.getElem?_set_ne (by omega), hab1]
          have e9' := s9'.ext ((Ext.refl _).alloc (.cells #[.int .i64 a0, .int .i64 b0] 49))
          have f2 := e9'.frozen (by rw [pairs_length, List.length_set, hLT.out]; omega) (off + 2)
          have g2 := e9'.fst hab2
          have t9 := s9'.setF hab2 a0
          have g9 := t9.ext ((Ext.refl _).alloc (.cells #[.int .i64 a0, .int .i64 b0] 49))
          have f3 := g9.frozen (by rw [pairs_length, List.length_set, List.length_set, hLT.out]; omega) (off + 2 + 1)
          have hab3 : ((l.set 0 (a1, b1)).set 1 (a0, b1))[1]? = some (a0, b1) := by rw [List.getElem?_set_self (by rw [List.length_set, hLT.out]; omega)]
          have g3 := g9.snd hab3
          have t9' := t9.setS (l := (l.set 0 (a1, b1)).set 1 (a0, b1)) (k := 1) (a := a0) (b := b1) (by rw [List.getElem?_set_self (by rw [List.length_set, hLT.out]; omega)]) b0
          have u9 := t9'.ext ((Ext.refl _).alloc (.cells #[.int .i64 a0, .int .i64 b0] 49))
          simp only [Nat.zero_mul, Nat.add_zero, Nat.one_mul] at f1 f2 f3 g2 g3 u9
          have R9 := ((((Ra.far (q := ⟨g, off, none⟩) (by show r < g; omega) (.int .i64 a1)).far (q := ⟨g, off + 1, none⟩) (by show r < g; omega) (.int .i64 b1)).far (q := ⟨g, off + 2, none⟩) (by show r < g; omega) (.int .i64 a0)).far (q := ⟨g, off + 2 + 1, none⟩) (by show r < g; omega) (.int .i64 b0)).ext ((Ext.refl _).alloc (.cells #[.int .i64 a0, .int .i64 b0] 49))
          have D9 := ((((Da.setCell (p := ⟨g, off, none⟩) (.inr (by show _ ≤ g; omega)) (.int .i64 a1)).setCell (p := ⟨g, off + 1, none⟩) (.inr (by show _ ≤ g; omega)) (.int .i64 b1)).setCell (p := ⟨g, off + 2, none⟩) (.inr (by show _ ≤ g; omega)) (.int .i64 a0)).setCell (p := ⟨g, off + 2 + 1, none⟩) (.inr (by show _ ≤ g; omega)) (.int .i64 b0)).alloc (.cells #[.int .i64 a0, .int .i64 b0] 49)
          have HZ := Lib.hid (And.intro u9 (And.intro R9 D9))
          have q0 : (0 : Int) < (k : Int) := by omega
          have q1 : (1 : Int) < (k : Int) := by omega
          clear s9 e9 s9' e9' t9 g9 t9' u9 R9 D9 sa Ra Da s8 hab hab1 hab2 hab3
          go_wp2
          go_ret
          exact ⟨_, k, c5, _, _, rfl, by simp [hLT.out], by omega, by omega, HZ.out.1.full.mono (by omega) (Nat.le_refl _), HZ.out.2.1, by omega, HZ.out.2.2⟩
        have ka' : ((va : Int) == 0) = false := by simp; omega
        have HZ := Lib.hid (And.intro sa (And.intro Ra Da))
        clear sa Ra Da
        go_wp2
        go_ret
        exact ⟨_, k, c5, l, _, rfl, hLT.out, by omega, by omega, HZ.out.1.full.mono (by omega) (Nat.le_refl _), HZ.out.2.1, by omega, HZ.out.2.2⟩
end Go.Proofs.Ytebjdchfofhmhaa
