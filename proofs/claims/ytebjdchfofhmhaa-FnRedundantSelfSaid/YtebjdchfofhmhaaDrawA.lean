/-
  Drawn arrays: lists of antennas in new memory; of their places nothing is said, only how many there are.
-/
import Derived.Test.YtebjdchfofhmhaaDrawV
import Derived.Test.YtebjdchfofhmhaaRedA
namespace Go.Proofs.Ytebjdchfofhmhaa
open Go.RowKit
set_option linter.unusedSimpArgs false
set_option linter.unusedVariables false
attribute [local go_sem] eqAnt_run

theorem Sl.takeN {w : World} {lo hi n c : Nat} {E : TypeId} {A : Option Addr} {xs : List Value} (h : Sl w lo hi E A n c xs) (k : Nat) {n' : Nat} (hn : n' ≤ c) : Sl w lo hi E A n' c (xs.take k) :=
  ⟨hn, fun hx => by
    obtain ⟨g, off, cur, e, h1, h2, h3, h4⟩ := h.2 (by simp at hx; omega)
    refine ⟨g, off, cur, e, h1, h2, h3, fun j u hu => h4 j u ?_⟩
    rw [List.getElem?_take] at hu
    split at hu
    · exact hu
    · cases hu⟩
theorem pairs_takeN (l : VL) (k : Nat) : (pairs l).take (k * 2) = pairs (l.take k) := by
  induction k generalizing l with
  | zero => simp [pairs]
  | succ k ih =>
    cases l with
    | nil => simp [pairs]
    | cons x l =>
      have e : (k + 1) * 2 = k * 2 + 1 + 1 := by omega
      rw [pairs_cons, e, List.take_succ_cons, List.take_succ_cons, ih, List.take_succ_cons, pairs_cons]
/-- a list of antennas in new memory is drawn -/
def DrewA (w : World) (B r p q lo hi : Nat) (e : Ending) (w' : World) : Prop :=
  ∃ (A : Option Addr) (n c : Nat) (l : VL) (p' : Nat), e = .returned (.slice A n c) ∧ l.length = n ∧ lo ≤ n ∧ n ≤ hi ∧ Sl w' w.heap.size w'.heap.size 49 A n c (pairs l) ∧ Rdr w' B r p' ∧ p' ≤ p + q ∧ Chg r (r + 1) w w'
theorem l91Has_any (A : Option Addr) (n c : Nat) (l : VL) (p q : Int) (w : World) (hn : l.length = n) (hz : n ≤ 1048576) (r : Rd w w.heap.size A n c (pairs l)) :
    Calls Try.prog 77 #[.slice A n c, .agg #[.int .i64 p, .int .i64 q]] w fun e w' => (∃ b, e = .returned (.bool b)) ∧ Ext w w' := by
  have HN := Lib.hid hn
  have X0 : Ext w (w.alloc (.cells #[.int .i64 p, .int .i64 q] 49)) := (Ext.refl w).alloc _
  have HR := Lib.hid (r.ext X0)
  have S0 := St.new w #[.int .i64 p, .int .i64 q] 49
  have b0 := S0.cell0
  have b1 := S0.cell1
  have HX := Lib.hid X0
  clear hn r X0 S0
  go_enter Try.func77, Try.ntmps77
  go_wp2_with fail
  generalize hw1 : w.alloc (.cells #[.int .i64 p, .int .i64 q] 49) = w1 at *
  go_loopw [5] (fun i wr => ∃ k : Nat, k ≤ n ∧ i = .int .i64 k ∧ Quiet w1 wr) (fun i _ => n - (intOf i).toNat)
  case atStart => exact ⟨0, Nat.zero_le _, rfl, Quiet.refl _⟩
  case round =>
    obtain ⟨k, hk, rfl, hq⟩ := hrel
    by_cases hlt : k < n
    · obtain ⟨g, off, rfl⟩ := HR.out.addr (by rw [pairs_length, HN.out]; omega)
      obtain ⟨⟨x, y⟩, hy⟩ := at_of_lt (l := l) (k := k) (by rw [HN.out]; exact hlt)
      have hc0 := (hq.cell _).trans (HR.out.fst hy)
      have hc1 := (hq.cell _).trans (HR.out.snd hy)
      have d0 := (hq.cell _).trans b0
      have d1 := (hq.cell _).trans b1
      have h2 : (k : Int) < (n : Int) := by omega
      have h3 : (0 : Int) ≤ (k : Int) := by omega
      clear hy
      rcases hxp : x == p with _ | _
      · go_wp2
        go_quiet (fail)
        go_wp2
        go_roundw
        case rel => exact ⟨k + 1, by omega, by go_num, hq.drewN _⟩
        case measure => simp [intOf]; omega
      · rcases hyq : y == q with _ | _
        · go_wp2
          go_quiet (fail)
          go_wp2
          go_roundw
          case rel => exact ⟨k + 1, by omega, by go_num, hq.drewN _⟩
          case measure => simp [intOf]; omega
        · go_wp2
          go_quiet (fail)
          go_wp2
          go_ret
          exact ⟨⟨_, rfl⟩, (HX.out.trans hq.ext).drewN _⟩
    · have e : k = n := by omega
      have hd : decide (k < n) = false := by simpa using hlt
      go_wp2
      go_ret
      exact ⟨⟨_, rfl⟩, HX.out.trans hq.ext⟩
def scs : List Int := [1, 1, 7]
theorem scs_range : ∀ v, v < 3 → 1 ≤ pAt scs v ∧ pAt scs v ≤ 7 := by decide
theorem mul_b {y v : Int} (h1 : 1 ≤ y) (h2 : y ≤ 7) (h3 : -10 ≤ v) (h4 : v ≤ 10) : -9223372036854775808 ≤ y * v ∧ y * v ≤ 9223372036854775807 := by
  rcases (show y = 1 ∨ y = 2 ∨ y = 3 ∨ y = 4 ∨ y = 5 ∨ y = 6 ∨ y = 7 by omega) with rfl | rfl | rfl | rfl | rfl | rfl | rfl <;> omega
set_option maxHeartbeats 400000 in
theorem l91Array_any (B r p : Nat) (w : World) (hp : p ≤ 6000) (h : Rdr w B r p) :
    Calls Try.prog 68 #[.pointer (some ⟨r, 0, none⟩)] w (DrewA w B r p 40 1 5) := by
  have hrl := h.lt
  have hrb := h.ge
  have xA : Ext w (w.alloc (.cells #[] 49)) := (Ext.refl w).alloc _
  have R0 := h.ext xA
  have o0 : (w.alloc (.cells #[] 49)).ownsRow w.heap.size 49 2 (.slice (some ⟨w.heap.size, 0, none⟩) 0 0) 0 (pairs []) := World.ownsRow_lit w #[] 0 (Nat.le_refl _) (by simp [maxLen]) rfl
  have hz1 : (w.alloc (.cells #[] 49)).heap.size = w.heap.size + 1 := World.size_alloc _ _
  have D0 : Chg r (r + 1) w (w.alloc (.cells #[] 49)) := xA.chg
  go_enter Try.func68, Try.ntmps68
  go_wp2_with fail
  generalize w.alloc (.cells #[] 49) = w1 at *
  refine (pick_any B r p 4 _ (by omega) (by omega) (by omega) R0).mono ?_
  rintro e w2 ⟨N, rfl, hN, R2, C2⟩
  have z2 := C2.size
  have o2 := own_chg o0 C2 (fun g hg => by simp [Value.ownBlock] at hg; omega)
  have D2 := D0.trans C2
  have x3 : Ext w2 (w2.alloc (.cells #[.int .i64 1, .int .i64 1, .int .i64 7] 3)) := (Ext.refl w2).alloc _
  have s3 : Sl (w2.alloc (.cells #[.int .i64 1, .int .i64 1, .int .i64 7] 3)) w2.heap.size (w2.heap.size + 1) 3 (some ⟨w2.heap.size, 0, none⟩) 3 3 (ints scs) := Sl.new w2 3 _ 3 3 (Nat.le_refl _)
  have R3 := R2.ext x3
  have o3 := own_ext o2 x3
  have D3 := D2.trans x3.chg
  have z3 := x3.size
  clear x3 D2 D0 o2 o0 R0 R2 xA C2
  go_wp2_with fail
  generalize w2.alloc (.cells #[.int .i64 1, .int .i64 1, .int .i64 7] 3) = w3 at *
  refine (pick_any B r (p + 1) 3 _ (by omega) (by omega) (by omega) R3).mono ?_
  rintro e w4 ⟨v4, rfl, hv4, R4, C4⟩
  have z4 := C4.size
  have hc := (s3.chg C4 (.inr (by omega))).cell (ints_at' (some_pAt (l := scs) (k := v4) (by simp [scs]; omega)))
  simp only [Nat.zero_add] at hc
  have hv0 : (0 : Int) ≤ (v4 : Int) := by omega
  have o4 := own_chg o3 C4 (fun g hg => by simp [Value.ownBlock] at hg; omega)
  have D4 := D3.trans C4
  obtain ⟨y1, y2⟩ := scs_range v4 (by omega)
  generalize pAt scs v4 = y at *
  clear s3 R3 o3 D3 C4
  go_wp2_with fail
  go_loopw [3, 6] (fun o i wr => ∃ (k m : Nat) (l : VL) (p' : Nat), k ≤ N + 2 ∧ m ≤ k ∧ i = .int .i64 k ∧ Hid (l.length = m) ∧ wr.ownsRow w.heap.size 49 2 o m (pairs l) ∧ p' ≤ p + 2 + 2 * k ∧ Rdr wr B r p' ∧ Chg r (r + 1) w wr) (fun _ i _ => N + 2 - (intOf i).toNat)
  case atStart => exact ⟨0, 0, [], p + 1 + 1, by omega, Nat.le_refl _, rfl, (rfl : _ = _), o4, by omega, R4, D4⟩
  case round =>
    clear o4 R4 D4 hc
    obtain ⟨k, m, l, p', hk, hm, rfl, hl, o5, hp', R5, D5⟩ := hrel
    have z5 := D5.size
    obtain ⟨A5, c5, hv5, s5⟩ := Sl.of_own o5
    subst hv5
    by_cases hlt : k < N + 2
    · have hkl : (k : Int) < 2 + (N : Int) := by omega
      go_wp2_with fail
      refine (pick_any B r p' 6 _ (by omega) (by omega) (by omega) R5).mono ?_
      rintro e w6 ⟨v6, rfl, hv6, R6, C6⟩
      have z6 := C6.size
      have f1 : IntKind.i64.wrap ((v6 : Int) - 2) = (v6 : Int) - 2 := IntWalk.i64_in _ (by omega)
      have f3 : IntKind.i64.wrap (y * ((v6 : Int) - 2)) = y * ((v6 : Int) - 2) := IntWalk.i64_in _ (mul_b y1 y2 (by omega) (by omega))
      go_wp2_with fail
      refine (pick_any B r (p' + 1) 4 _ (by omega) (by omega) (by omega) R6).mono ?_
      rintro e w7 ⟨v7, rfl, hv7, R7, C7⟩
      have z7 := C7.size
      have o7 := own_chg (own_chg o5 C6 (fun g hg => by have := own_base o5 g hg; omega)) C7 (fun g hg => by have := own_base o5 g hg; omega)
      have D7 := (D5.trans C6).trans C7
      clear o5 D5 C6 C7 R5 R6
      have f2 : IntKind.i64.wrap ((v7 : Int) - 1) = (v7 : Int) - 1 := IntWalk.i64_in _ (by omega)
      have f4 : IntKind.i64.wrap (y * ((v7 : Int) - 1)) = y * ((v7 : Int) - 1) := IntWalk.i64_in _ (mul_b y1 y2 (by omega) (by omega))
      go_wp2_with fail
      generalize y * ((v6 : Int) - 2) = X at *
      generalize y * ((v7 : Int) - 1) = Y at *
      have S8 := St.new w7 #[.int .i64 X, .int .i64 Y] 49
      have x8 : Ext w7 (w7.alloc (.cells #[.int .i64 X, .int .i64 Y] 49)) := (Ext.refl w7).alloc _
      have o8 := own_ext o7 x8
      have R8 := R7.ext x8
      have D8 := D7.trans x8.chg
      have z8 := x8.size
      have hsl : Rd (w7.alloc (.cells #[.int .i64 X, .int .i64 Y] 49)) (w7.alloc (.cells #[.int .i64 X, .int .i64 Y] 49)).heap.size A5 m c5 (pairs l) := by
        obtain ⟨A', c', e, s'⟩ := Sl.of_own o8
        obtain ⟨rfl, _, rfl⟩ := Value.slice.inj e
        exact s'.rd
      clear o7 R7 D7 x8 f1 f2 f3 f4 s5
      generalize w7.alloc (.cells #[.int .i64 X, .int .i64 Y] 49) = w8 at *
      refine (l91Has_any A5 m c5 l X Y _ hl.out (by omega) hsl).mono ?_
      rintro e w9 ⟨⟨b, rfl⟩, x9⟩
      have S9 := S8.ext x9
      have k0 := S9.cell0
      have k1 := S9.cell1
      have o9 := own_ext o8 x9
      have R9 := R8.ext x9
      have D9 := D8.trans x9.chg
      have z9 := x9.size
      clear S8 o8 R8 D8 hsl x9 S9
      rcases b with _ | _
      · go_wp2_with (at_builtin; refine wpList_append2C (w := w9) rfl _ _ _ rfl w.heap.size 49 16 Ant.info Try.underlying27 _ m _ (by rfl) o9 X Y rfl (by omega) (by omega) (by omega) ?_; intro v' w' hs' C')
        go_roundw
        case rel => exact ⟨k + 1, m + 1, l ++ [(X, Y)], p' + 1 + 1, by omega, by omega, by go_num, (by show _ = _; simp [hl.out]), hs', by omega, R9.chg C' (by omega) (by omega), D9.moreG C' (Nat.le_refl _)⟩
        case measure => simp [intOf]; omega
      · go_wp2
        go_roundw
        case rel => exact ⟨k + 1, m, l, p' + 1 + 1, by omega, by omega, by go_num, hl, o9, by omega, R9, D9⟩
        case measure => simp [intOf]; omega
    · have hkl : ¬ (k : Int) < 2 + (N : Int) := by omega
      have hTAIL : (∃ h2 : 2 ≤ m, m ≤ 5) ∨ m < 2 := by
        by_cases h2 : 2 ≤ m
        · exact .inl ⟨h2, by omega⟩
        · exact .inr (by omega)
      rcases hTAIL with ⟨h2, h5⟩ | h2
      · have hm2 : ¬ (m : Int) < 2 := by omega
        go_wp2_with fail
        obtain ⟨g, off, ea, hg1, hg2, hg3⟩ := s5.addr (by rw [pairs_length, hl.out]; omega)
        obtain rfl := ea
        have sT := s5
        have RT := R5
        have DT := D5
        have hLT := hl
        clear s5 R5 D5 o5
        refine (pick_any B r p' 40 _ (by omega) (by omega) (by omega) RT).mono ?_
        rintro e wa ⟨va, rfl, hva, Ra, Ca⟩
        have za := Ca.size
        have Da := DT.trans Ca
        have sa := sT.chg Ca (.inr (by omega))
        obtain ⟨⟨a0, b0⟩, hab⟩ := at_of_lt (l := l) (k := 0) (by rw [hLT.out]; omega)
        obtain ⟨⟨a1, b1⟩, hab1⟩ := at_of_lt (l := l) (k := 1) (by rw [hLT.out]; omega)
        have HAB := Lib.hid hab
        have c0 := sa.fst hab
        have c1 := sa.snd hab
        have d0 := sa.fst hab1
        have d1 := sa.snd hab1
        have f0 := sa.frozen (by rw [pairs_length, hLT.out]; omega) off
        have f1 := sa.frozen (by rw [pairs_length, hLT.out]; omega) (off + 1)
        simp only [Nat.zero_mul, Nat.add_zero] at c0 c1
        have hgw := (sa.blk (by rw [pairs_length, hLT.out]; omega)).1
        have q0 : (0 : Int) < (m : Int) := by omega
        have q1 : (1 : Int) < (m : Int) := by omega
        have hcc := sa.1
        clear hab hab1 sT RT DT Ca
        by_cases k0 : va = 0
        · subst k0
          have s9 := sa.setF HAB.out a1
          have s9' := s9.setS (l := l.set 0 (a1, b0)) (k := 0) (a := a1) (b := b0) (by rw [List.getElem?_set_self (by rw [hLT.out]; omega)]) b1
          simp only [Nat.zero_mul, Nat.add_zero] at s9 s9'
          have R9 := (Ra.far (q := ⟨g, off, none⟩) (by show r < g; omega) (.int .i64 a1)).far (q := ⟨g, off + 1, none⟩) (by show r < g; omega) (.int .i64 b1)
          have D9 := (Da.setCell (p := ⟨g, off, none⟩) (.inr (by show _ ≤ g; omega)) (.int .i64 a1)).setCell (p := ⟨g, off + 1, none⟩) (.inr (by show _ ≤ g; omega)) (.int .i64 b1)
          have HZ := Lib.hid (And.intro s9' (And.intro R9 D9))
          clear s9 s9' R9 D9 sa Ra Da
          go_wp2
          go_ret
          exact ⟨_, m, c5, _, _, rfl, by simp [hLT.out], by omega, by omega, HZ.out.1.full.mono (by omega) (Nat.le_refl _), HZ.out.2.1, by omega, HZ.out.2.2⟩
        have k0' : ((va : Int) == 0) = false := by simp; omega
        by_cases k1 : va = 1
        · subst k1
          have s9 := sa.setF HAB.out 1001
          simp only [Nat.zero_mul, Nat.add_zero] at s9
          have R9 := Ra.far (q := ⟨g, off, none⟩) (by show r < g; omega) (.int .i64 1001)
          have D9 := Da.setCell (p := ⟨g, off, none⟩) (.inr (by show _ ≤ g; omega)) (.int .i64 1001)
          have HZ := Lib.hid (And.intro s9 (And.intro R9 D9))
          clear s9 R9 D9 sa Ra Da
          go_wp2
          go_ret
          exact ⟨_, m, c5, _, _, rfl, by simp [hLT.out], by omega, by omega, HZ.out.1.full.mono (by omega) (Nat.le_refl _), HZ.out.2.1, by omega, HZ.out.2.2⟩
        have k1' : ((va : Int) == 1) = false := by simp; omega
        by_cases k2 : va = 2
        · subst k2
          have s9 := sa.takeN (1 * 2) (n' := 1) (by omega)
          rw [pairs_takeN] at s9
          have HZ := Lib.hid (And.intro s9 (And.intro Ra Da))
          have q2 : 1 ≤ c5 := by omega
          clear s9 sa Ra Da
          go_wp2
          go_ret
          exact ⟨_, 1, c5, l.take 1, _, by first | rfl | simp, by rw [List.length_take, hLT.out]; omega, by omega, by omega, HZ.out.1.full.mono (by omega) (Nat.le_refl _), HZ.out.2.1, by omega, HZ.out.2.2⟩
        have k2' : ((va : Int) == 2) = false := by simp; omega
        have HZ := Lib.hid (And.intro sa (And.intro Ra Da))
        clear sa Ra Da
        go_wp2
        go_ret
        exact ⟨_, m, c5, l, _, rfl, hLT.out, by omega, by omega, HZ.out.1.full.mono (by omega) (Nat.le_refl _), HZ.out.2.1, by omega, HZ.out.2.2⟩
      · have hm2 : (m : Int) < 2 := by omega
        go_wp2_with fail
        refine (pick_any B r p' 3 _ (by omega) (by omega) (by omega) R5).mono ?_
        rintro e w6 ⟨v6, rfl, hv6, R6, C6⟩
        have z6 := C6.size
        go_wp2_with fail
        refine (pick_any B r (p' + 1) 3 _ (by omega) (by omega) (by omega) R6).mono ?_
        rintro e w7 ⟨v7, rfl, hv7, R7, C7⟩
        have z7 := C7.size
        have DT := ((D5.trans C6).trans C7).alloc (.cells #[.int .i64 0, .int .i64 0, .int .i64 (1 + (v6 : Int)), .int .i64 (v7 : Int), .int .i64 5, .int .i64 1] 49)
        have RT := R7.ext ((Ext.refl w7).alloc (.cells #[.int .i64 0, .int .i64 0, .int .i64 (1 + (v6 : Int)), .int .i64 (v7 : Int), .int .i64 5, .int .i64 1] 49))
        have sT : Sl (w7.alloc (.cells #[.int .i64 0, .int .i64 0, .int .i64 (1 + (v6 : Int)), .int .i64 (v7 : Int), .int .i64 5, .int .i64 1] 49)) w7.heap.size (w7.heap.size + 1) 49 (some ⟨w7.heap.size, 0, none⟩) 3 3 (pairs [(0, 0), (1 + (v6 : Int), (v7 : Int)), (5, 1)]) := Sl.new w7 49 _ 3 3 (Nat.le_refl _)
        have hLT : Hid (([(0, 0), (1 + (v6 : Int), (v7 : Int)), (5, 1)] : VL).length = 3) := (rfl : _ = _)
        obtain ⟨l3, hl3⟩ : ∃ l3 : VL, l3 = [(0, 0), (1 + (v6 : Int), (v7 : Int)), (5, 1)] := ⟨_, rfl⟩
        rw [← hl3] at sT hLT
        clear hl3 s5 o5 R5 R6 R7 D5 C6 C7
        go_wp2_with fail
        generalize w7.alloc (.cells #[.int .i64 0, .int .i64 0, .int .i64 (1 + (v6 : Int)), .int .i64 (v7 : Int), .int .i64 5, .int .i64 1] 49) = w8 at *
        refine (pick_any B r (p' + 1 + 1) 40 _ (by omega) (by omega) (by omega) RT).mono ?_
        rintro e wa ⟨va, rfl, hva, Ra, Ca⟩
        have za := Ca.size
        have Da := DT.trans Ca
        have sa := sT.chg Ca (.inr (by omega))
        obtain ⟨⟨a0, b0⟩, hab⟩ := at_of_lt (l := l3) (k := 0) (by rw [hLT.out]; omega)
        obtain ⟨⟨a1, b1⟩, hab1⟩ := at_of_lt (l := l3) (k := 1) (by rw [hLT.out]; omega)
        have HAB := Lib.hid hab
        have c0 := sa.fst hab
        have c1 := sa.snd hab
        have d0 := sa.fst hab1
        have d1 := sa.snd hab1
        have f0 := sa.frozen (by rw [pairs_length, hLT.out]; omega) 0
        have f1 := sa.frozen (by rw [pairs_length, hLT.out]; omega) (0 + 1)
        simp only [Nat.zero_mul, Nat.add_zero] at c0 c1
        have hgw := (sa.blk (by rw [pairs_length, hLT.out]; omega)).1
        have q0 : (0 : Int) < 3 := by omega
        have q1 : (1 : Int) < 3 := by omega
        have hcc := sa.1
        clear hab hab1 sT RT DT Ca
        by_cases k0 : va = 0
        · subst k0
          have s9 := sa.setF HAB.out a1
          have s9' := s9.setS (l := l3.set 0 (a1, b0)) (k := 0) (a := a1) (b := b0) (by rw [List.getElem?_set_self (by rw [hLT.out]; omega)]) b1
          simp only [Nat.zero_mul, Nat.add_zero] at s9 s9'
          have R9 := (Ra.far (q := ⟨w7.heap.size, 0, none⟩) (by show r < w7.heap.size; omega) (.int .i64 a1)).far (q := ⟨w7.heap.size, 0 + 1, none⟩) (by show r < w7.heap.size; omega) (.int .i64 b1)
          have D9 := (Da.setCell (p := ⟨w7.heap.size, 0, none⟩) (.inr (by show _ ≤ w7.heap.size; omega)) (.int .i64 a1)).setCell (p := ⟨w7.heap.size, 0 + 1, none⟩) (.inr (by show _ ≤ w7.heap.size; omega)) (.int .i64 b1)
          have HZ := Lib.hid (And.intro s9' (And.intro R9 D9))
          clear s9 s9' R9 D9 sa Ra Da
          go_wp2
          go_ret
          exact ⟨_, 3, 3, _, _, rfl, by simp [hLT.out], by omega, by omega, HZ.out.1.full.mono (by omega) (Nat.le_refl _), HZ.out.2.1, by omega, HZ.out.2.2⟩
        have k0' : ((va : Int) == 0) = false := by simp; omega
        by_cases k1 : va = 1
        · subst k1
          have s9 := sa.setF HAB.out 1001
          simp only [Nat.zero_mul, Nat.add_zero] at s9
          have R9 := Ra.far (q := ⟨w7.heap.size, 0, none⟩) (by show r < w7.heap.size; omega) (.int .i64 1001)
          have D9 := Da.setCell (p := ⟨w7.heap.size, 0, none⟩) (.inr (by show _ ≤ w7.heap.size; omega)) (.int .i64 1001)
          have HZ := Lib.hid (And.intro s9 (And.intro R9 D9))
          clear s9 R9 D9 sa Ra Da
          go_wp2
          go_ret
          exact ⟨_, 3, 3, _, _, rfl, by simp [hLT.out], by omega, by omega, HZ.out.1.full.mono (by omega) (Nat.le_refl _), HZ.out.2.1, by omega, HZ.out.2.2⟩
        have k1' : ((va : Int) == 1) = false := by simp; omega
        by_cases k2 : va = 2
        · subst k2
          have s9 := sa.takeN (1 * 2) (n' := 1) (by omega)
          rw [pairs_takeN] at s9
          have HZ := Lib.hid (And.intro s9 (And.intro Ra Da))
          have q2 : 1 ≤ 3 := by omega
          clear s9 sa Ra Da
          go_wp2
          go_ret
          exact ⟨_, 1, 3, l3.take 1, _, by first | rfl | simp, by rw [List.length_take, hLT.out]; omega, by omega, by omega, HZ.out.1.full.mono (by omega) (Nat.le_refl _), HZ.out.2.1, by omega, HZ.out.2.2⟩
        have k2' : ((va : Int) == 2) = false := by simp; omega
        have HZ := Lib.hid (And.intro sa (And.intro Ra Da))
        clear sa Ra Da
        go_wp2
        go_ret
        exact ⟨_, 3, 3, l3, _, rfl, hLT.out, by omega, by omega, HZ.out.1.full.mono (by omega) (Nat.le_refl _), HZ.out.2.1, by omega, HZ.out.2.2⟩
end Go.Proofs.Ytebjdchfofhmhaa
