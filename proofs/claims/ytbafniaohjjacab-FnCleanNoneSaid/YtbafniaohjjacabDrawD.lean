/-
  Drawn dirty images and cleanings: l93Dirty, l93Clean and the Draw functions over them.
-/
import Derived.Test.YtbafniaohjjacabDrawS
import Derived.Test.YtbafniaohjjacabSpecRun
namespace Go.Proofs.Ytbafniaohjjacab
open Go.RowKit

/-- a coverage, a sky and a dirty image are drawn -/
def Drew3 (w : World) (B r p q : Nat) (e : Ending) (w' : World) : Prop :=
  ∃ (A : Option Addr) (n c : Nat) (bs : List Bool) (A2 : Option Addr) (c2 : Nat) (xs : List Int) (A3 : Option Addr) (n3 c3 : Nat) (ys : List Int) (p' : Nat), e = .returned (.tuple #[.slice A n c, .slice A2 16 c2, .slice A3 n3 c3]) ∧ bs.length = n ∧ n ≤ 16 ∧ xs.length = 16 ∧ ys.length = n3 ∧ svB ys = true ∧
    Sl w' w.heap.size w'.heap.size 4 A n c (bools bs) ∧ Sl w' w.heap.size w'.heap.size 3 A2 16 c2 (ints xs) ∧ Sl w' w.heap.size w'.heap.size 3 A3 n3 c3 (ints ys) ∧ Rdr w' B r p' ∧ p' ≤ p + q ∧ Chg r (r + 1) w w'
/-- a coverage is in a slot -/
def CovIn (w : World) (B r p q : Nat) (v : Value) (w' : World) : Prop :=
  ∃ (A : Option Addr) (n c : Nat) (bs : List Bool) (p' : Nat), v = .slice A n c ∧ bs.length = n ∧ n ≤ 16 ∧ Sl w' w.heap.size w'.heap.size 4 A n c (bools bs) ∧ Rdr w' B r p' ∧ p' ≤ p + q ∧ Chg r (r + 1) w w'
theorem CovIn.mk' {w w' : World} {B r p q p' lo hi : Nat} {A : Option Addr} {n c : Nat} {bs : List Bool} (h1 : bs.length = n) (h2 : n ≤ 16) (h3 : Sl w' lo hi 4 A n c (bools bs)) (h4 : w.heap.size ≤ lo)
    (h5 : Rdr w' B r p') (h6 : p' ≤ p + q) (h7 : Chg r (r + 1) w w') : CovIn w B r p q (.slice A n c) w' :=
  ⟨A, n, c, bs, p', rfl, h1, h2, h3.full.mono h4 (Nat.le_refl _), h5, h6, h7⟩

set_option maxHeartbeats 2000000 in
theorem l93Dirty_any (B r p : Nat) (w : World) (hp : p ≤ 9000) (h : Rdr w B r p) :
    Calls Try.prog 45 #[.pointer (some ⟨r, 0, none⟩)] w (Drew3 w B r p 20) := by
  have hrl := h.lt
  have hmk := makeInts16
  have hmb := make16D
  go_enter Try.func45, Try.ntmps45
  go_wp2_with fail
  refine (l92Cover_any B r p _ (by omega) h).mono ?_
  rintro e w1 ⟨A1, n1, c1, bs, p1, rfl, hl1, hb1, s1, R1, hp1, C1⟩
  have HL1 := Lib.hid hl1
  clear hl1
  go_wp2_with fail
  refine (pick_any B r p1 4 _ (by omega) (by omega) (by omega) R1).mono ?_
  rintro e w2 ⟨v2, rfl, hv2, R2, C2⟩
  have s2 := s1.chg C2 (.inr (by omega))
  have D2 := C1.trans C2
  have z2 := C2.size
  have z1 := C1.size
  clear s1 R1 C1 C2 h
  go_upto_if 16 with (fail)
  go_cut [5] (fun v wx => CovIn w B r p 11 v wx)
  case first =>
    by_cases k0 : v2 = 0
    · subst k0
      go_wp2_with (go_at_call 47; refine (l21Cells_any _).mono ?_; rintro e w' ⟨rfl, rfl⟩)
      have t2 : Sl (w2.alloc (.cells (madeCells #[.bool false] 16) 4)) w2.heap.size (w2.heap.size + 1) 4 (some ⟨w2.heap.size, 0, none⟩) 16 16 (bools (List.replicate 16 false)) := by
        rw [← bools_rep]; exact Sl.made w2 4 _ 16
      go_loopw [6] (fun i wr => ∃ k : Nat, k ≤ 16 ∧ i = .int .i64 k ∧ ∃ bs2 : List Bool, Hid (bs2.length = 16) ∧ Sl wr w2.heap.size (w2.heap.size + 1) 4 (some ⟨w2.heap.size, 0, none⟩) 16 16 (bools bs2) ∧ Rdr wr B r (p1 + 1) ∧ Chg r (r + 1) w wr) (fun i _ => 16 - (intOf i).toNat)
      case atStart => exact ⟨0, Nat.zero_le _, rfl, _, (by show _ = _; simp), t2, R2.ext ((Ext.refl _).alloc _), D2.alloc _⟩
      case round =>
        clear t2
        obtain ⟨k2, hk2, rfl, bs2, hbs2, s3, R3, D3⟩ := hrel
        by_cases hlt2 : k2 < 16
        · obtain ⟨b1, hb1'⟩ := at_of_lt (l := bs2) (k := k2) (by rw [hbs2.out]; omega)
          have hc1 := s3.cell (bools_at hb1')
          have hf1 := s3.frozen (by rw [bools_length, hbs2.out]; omega) (0 + k2)
          have s4 := s3.set_ k2 (.bool true)
          rw [bools_set] at s4
          simp only [Nat.zero_add] at hc1 hf1 s4
          have D4 := D3.setCell (p := ⟨w2.heap.size, k2, none⟩) (.inr (by show _ ≤ w2.heap.size; omega)) (.bool true)
          have R4 := R3.far (q := ⟨w2.heap.size, k2, none⟩) (by show r < w2.heap.size; omega) (.bool true)
          clear hb1' s3 D3 R3
          go_wp2
          go_roundw
          case rel => exact ⟨k2 + 1, by omega, by go_num, _, (by show _ = _; simp [hbs2.out]), s4, R4, D4⟩
          case measure => simp [intOf]; omega
        · go_wp2_with fail
          go_meet
          exact CovIn.mk' hbs2.out (by omega) s3 (by omega) R3 (by omega) D3
    · have k0' : ((v2 : Int) == 0) = false := by simp; omega
      go_wp2_with fail
      go_meet
      exact CovIn.mk' HL1.out hb1 s2 (Nat.le_refl _) R2 (by omega) D2
  case rest =>
    clear s2 R2 D2 z2 z1 HL1 hb1
    obtain ⟨A3, n3, c3, bs3, p3, rfl, hl3, hb3, s3, R3, hp3, D3⟩ := hcut
    have HL3 := Lib.hid hl3
    clear hl3
    have z3 := D3.size
    have t3 : Sl (wc.alloc (.cells (madeCells #[.int .i64 0] 16) 3)) wc.heap.size (wc.heap.size + 1) 3 (some ⟨wc.heap.size, 0, none⟩) 16 16 (ints (List.replicate 16 0)) := by
      rw [← ints_rep]; exact Sl.made wc 3 _ 16
    have y3 : Ext wc (wc.alloc (.cells (madeCells #[.int .i64 0] 16) 3)) := (Ext.refl wc).alloc _
    go_wp2_with (go_at_call 47; refine (l21Cells_any _).mono ?_; rintro e w' ⟨rfl, rfl⟩)
    refine (pick_any B r p3 5 _ (by omega) (by omega) (by omega) (R3.ext y3)).mono ?_
    rintro e w4 ⟨v, rfl, hv, R4, C4⟩
    have s4 := (s3.ext y3).chg C4 (.inr (by omega))
    have t4 := t3.chg C4 (.inr (by omega))
    have D4 := (D3.trans (lo := r) (hi := r + 1) y3.chg).trans C4
    clear s3 t3 R3 D3 C4 y3
    go_wp2_with fail
    go_loopw [9] (fun i wr => ∃ k : Nat, k ≤ v ∧ i = .int .i64 k ∧ ∃ xs : List Int, Hid (xs.length = 16 ∧ smallL 100 xs) ∧ Sl wr wc.heap.size (wc.heap.size + 1) 3 (some ⟨wc.heap.size, 0, none⟩) 16 16 (ints xs) ∧ Sl wr w.heap.size wc.heap.size 4 A3 n3 c3 (bools bs3) ∧ Rdr wr B r (p3 + 1 + 2 * k) ∧ Chg r (r + 1) w wr) (fun i _ => v - (intOf i).toNat)
    case atStart => exact ⟨0, Nat.zero_le _, rfl, _, ⟨by simp, smallL_rep 100 (by omega) 16⟩, t4, s4, R4, D4⟩
    case round =>
      clear s4 t4 R4 D4
      obtain ⟨k, hk, rfl, xs, hxs, t5, s5, R5, D5⟩ := hrel
      by_cases hlt : k < v
      · go_wp2_with (go_at_call 47; refine (l21Cells_any _).mono ?_; rintro e w' ⟨rfl, rfl⟩)
        refine (pick_any B r _ 16 _ (by omega) (by omega) (by omega) R5).mono ?_
        rintro e w6 ⟨j, rfl, hj, R6, C6⟩
        have t6 := t5.chg C6 (.inr (by omega))
        have s6 := s5.chg C6 (.inr (by omega))
        have D6 := D5.trans C6
        clear R5 s5 t5 D5 C6
        go_wp2_with fail
        refine (pick_any B r _ 30 _ (by omega) (by omega) (by omega) R6).mono ?_
        rintro e w7 ⟨j2, rfl, hj2, R7, C7⟩
        have t7 := t6.chg C7 (.inr (by omega))
        have s7 := s6.chg C7 (.inr (by omega))
        have D7 := D6.trans C7
        clear R6 s6 t6 D6 C7
        obtain ⟨b1, hb1⟩ := at_of_lt (l := xs) (k := j) (by rw [hxs.out.1]; omega)
        have hc1 := t7.cell (ints_at' hb1)
        have hf1 := t7.frozen (by rw [ints_length, hxs.out.1]; omega) (0 + j)
        have t8 := t7.set_ j (.int .i64 (1 + (j2 : Int)))
        rw [ints_set] at t8
        simp only [Nat.zero_add] at hc1 hf1 t8
        have s8 := s7.far (p := ⟨wc.heap.size, j, none⟩) (.inr (by show _ ≤ wc.heap.size; omega)) (.int .i64 (1 + (j2 : Int)))
        have D8 := D7.setCell (p := ⟨wc.heap.size, j, none⟩) (.inr (by show _ ≤ wc.heap.size; omega)) (.int .i64 (1 + (j2 : Int)))
        have R8 := R7.far (q := ⟨wc.heap.size, j, none⟩) (by show r < wc.heap.size; omega) (.int .i64 (1 + (j2 : Int)))
        clear hb1 t7 s7 D7 R7
        go_wp2
        go_roundw
        case rel => exact ⟨k + 1, by omega, by go_num, _, ⟨by simp [hxs.out.1], smallL_set hxs.out.2 (by omega) (by omega)⟩, t8, s8, R8, D8⟩
        case measure => simp [intOf]; omega
      · obtain rfl : k = v := by omega
        have HDO := Lib.hid (specDirtyOf_any (some ⟨wc.heap.size, 0, none⟩) A3 16 n3 16 c3 xs bs3 wr hxs.out.1 HL3.out (by omega) t5.rd s5.rd)
        go_wp2_with fail
        refine HDO.out.mono ?_
        rintro e w6 ⟨A6, c6, rfl, s6, x6⟩
        have hdl := doL_length xs bs3
        have t7 := t5.ext x6
        have s7 := s5.ext x6
        have R7 := R5.ext x6
        have D7 := D5.trans (lo := r) (hi := r + 1) x6.chg
        have z7 := D5.size
        have e7 := x6.size
        rcases hdo : dokB xs bs3 with _ | _
        · go_wp2
          go_ret3
          exact ⟨A3, n3, c3, bs3, _, 16, xs, _, 16, 16, xs, _, rfl, HL3.out, hb3, hxs.out.1, hxs.out.1, smallL_sv hxs.out.2 (by omega) hxs.out.1, s7.full.mono (Nat.le_refl _) (Nat.le_refl _), t7.full.mono (by omega) (Nat.le_refl _), t7.full.mono (by omega) (Nat.le_refl _), R7, by omega, D7⟩
        · have HDV : Hid (svB (doL xs bs3) = true) := by
            show _ = _
            have hq := hdo
            simp only [dokB, Bool.and_eq_true] at hq
            simp [doL, hdo, hq.2]
          go_wp2
          go_ret3
          exact ⟨A3, n3, c3, bs3, _, 16, xs, A6, _, c6, doL xs bs3, _, rfl, HL3.out, hb3, hxs.out.1, rfl, HDV.out, s7.full.mono (Nat.le_refl _) (Nat.le_refl _), t7.full.mono (by omega) (Nat.le_refl _), s6.mono (by omega) (Nat.le_refl _), R7, by omega, D7⟩
end Go.Proofs.Ytbafniaohjjacab
