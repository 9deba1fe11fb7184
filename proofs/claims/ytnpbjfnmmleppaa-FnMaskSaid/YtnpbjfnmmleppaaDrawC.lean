/-
  Drawn coverages: l92Cover and the Draw functions over it: a list of at most 16 bools in new memory; nothing is said of its cells.
-/
import Derived.Test.YtnpbjfnmmleppaaDraw
namespace Go.Proofs.Ytnpbjfnmmleppaa
open Go.RowKit

theorem D.infoBool : (Try.prog.info? 4).map (fun i => (i.zero, i.size, i.bytes)) = some (some (.bool false), 1, 1) := by kernel_rfl
theorem make16D (w : World) : (Instr.makeSlice 24 (.int .i64 16) (.int .i64 16)).run Try.prog w = .ok (.slice (some ⟨w.heap.size, 0, none⟩) 16 16) (w.alloc (.cells (madeCells #[.bool false] 16) 4)) :=
  run_make1 (P := Try.prog) 24 4 (.bool false) 1 D.infoBool Try.underlying24 rfl 16 (by omega) (by omega) w

/-- a drawn list of bools is returned; the reader has gone on by at most q places -/
def DrewB (w : World) (B r p q : Nat) (e : Ending) (w' : World) : Prop :=
  ∃ (A : Option Addr) (n c : Nat) (bs : List Bool) (p' : Nat), e = .returned (.slice A n c) ∧ bs.length = n ∧ n ≤ 16 ∧ Sl w' w.heap.size w'.heap.size 4 A n c (bools bs) ∧ Rdr w' B r p' ∧ p' ≤ p + q ∧ Chg r (r + 1) w w'
theorem DrewB.mk' {w w' : World} {B r p q p' lo hi : Nat} {A : Option Addr} {n c : Nat} {bs : List Bool} (h1 : bs.length = n) (h2 : n ≤ 16) (h3 : Sl w' lo hi 4 A n c (bools bs)) (h4 : w.heap.size ≤ lo)
    (h5 : Rdr w' B r p') (h6 : p' ≤ p + q) (h7 : Chg r (r + 1) w w') : DrewB w B r p q (.returned (.slice A n c)) w' :=
  ⟨A, n, c, bs, p', rfl, h1, h2, h3.full.mono h4 (Nat.le_refl _), h5, h6, h7⟩

set_option maxHeartbeats 2000000 in
theorem l92Cover_any (B r p : Nat) (w : World) (hp : p ≤ 10000) (h : Rdr w B r p) :
    Calls Try.prog 12 #[.pointer (some ⟨r, 0, none⟩)] w (DrewB w B r p 10) := by
  have hrl := h.lt
  have hmk := make16D
  have s0 : Sl (w.alloc (.cells (madeCells #[.bool false] 16) 4)) w.heap.size (w.heap.size + 1) 4 (some ⟨w.heap.size, 0, none⟩) 16 16 (bools (List.replicate 16 false)) := by
    rw [← bools_rep]; exact Sl.made w 4 _ 16
  have R0 : Rdr (w.alloc (.cells (madeCells #[.bool false] 16) 4)) B r p := h.ext ((Ext.refl w).alloc _)
  have D0 : Chg r (r + 1) w (w.alloc (.cells (madeCells #[.bool false] 16) 4)) := (Chg.refl _ _ _).alloc _
  clear h
  go_enter Try.func12, Try.ntmps12
  go_wp2_with (go_at_call 23; refine (l21Cells_any _).mono ?_; rintro e w' ⟨rfl, rfl⟩)
  clear hmk
  refine (pick_any B r p 7 _ (by omega) (by omega) (by omega) R0).mono ?_
  rintro e w1 ⟨v, rfl, hv, R1, C1⟩
  have s1 := s0.chg C1 (.inr (by omega))
  have D1 := D0.trans C1
  clear R0 s0 D0 C1
  go_wp2_with fail
  go_loopw [5] (fun i wr => ∃ k : Nat, k ≤ v ∧ i = .int .i64 k ∧ ∃ bs : List Bool, Hid (bs.length = 16) ∧ Sl wr w.heap.size (w.heap.size + 1) 4 (some ⟨w.heap.size, 0, none⟩) 16 16 (bools bs) ∧ Rdr wr B r (p + 1 + k) ∧ Chg r (r + 1) w wr) (fun i _ => v - (intOf i).toNat)
  case atStart => exact ⟨0, Nat.zero_le _, rfl, _, (by show _ = _; simp), s1, R1, D1⟩
  case round =>
    clear s1 R1 D1
    obtain ⟨k, hk, rfl, bs, hbs, s2, R2, D2⟩ := hrel
    by_cases hlt : k < v
    · go_wp2_with (go_at_call 23; refine (l21Cells_any _).mono ?_; rintro e w' ⟨rfl, rfl⟩)
      refine (pick_any B r _ 16 _ (by omega) (by omega) (by omega) R2).mono ?_
      rintro e w3 ⟨j, rfl, hj, R3, C3⟩
      have s3 := s2.chg C3 (.inr (by omega))
      have D3 := D2.trans C3
      clear R2 s2 D2 C3
      have hjl : j < 16 := by omega
      have hol := opp_lt j
      obtain ⟨b1, hb1⟩ := at_of_lt (l := bs) (k := j) (by rw [hbs.out]; omega)
      have hc1 := s3.cell (bools_at hb1)
      have hf1 := s3.frozen (by rw [bools_length, hbs.out]; omega) (0 + j)
      have s4 := s3.set_ j (.bool true)
      rw [bools_set] at s4
      obtain ⟨b2, hb2⟩ := at_of_lt (l := bs.set j true) (k := opp j) (by simp [hbs.out]; omega)
      have hc2 := s4.cell (bools_at hb2)
      have hf2 := s4.frozen (by rw [bools_length]; simp [hbs.out]) (0 + opp j)
      have s5 := s4.set_ (opp j) (.bool true)
      rw [bools_set] at s5
      simp only [Nat.zero_add] at hc1 hf1 hc2 hf2 s5
      have HO : Hid (4 * (-((j : Int) / 4) % 4) + -((j : Int) % 4) % 4 = (opp j : Int)) := by unfold opp; show _ = _; omega
      have D5 := (D3.setCell (p := ⟨w.heap.size, j, none⟩) (.inr (Nat.le_refl _)) (.bool true)).setCell (p := ⟨w.heap.size, opp j, none⟩) (.inr (Nat.le_refl _)) (.bool true)
      have R5 := (R3.far (q := ⟨w.heap.size, j, none⟩) hrl (.bool true)).far (q := ⟨w.heap.size, opp j, none⟩) hrl (.bool true)
      clear hb1 hb2 s3 s4 D3 R3
      go_wp2_with (go_at_call 24; refine (l21At_eq _ _ _ _ HO.out).mono ?_; rintro e w' ⟨rfl, rfl⟩)
      go_roundw
      case rel => exact ⟨k + 1, by omega, by go_num, _, (by show _ = _; simp [hbs.out]), s5, R5, D5⟩
      case measure => simp [intOf]; omega
    · obtain rfl : k = v := by omega
      go_wp2_with fail
      refine (pick_any B r _ 12 _ (by omega) (by omega) (by omega) R2).mono ?_
      rintro e w3 ⟨v3, rfl, hv3, R3, C3⟩
      have s3 := s2.chg C3 (.inr (by omega))
      have D3 := D2.trans C3
      clear R2 s2 D2 C3
      have hbs' := hbs.out
      by_cases hz : v3 = 0
      · subst hz
        have HB := Lib.hid hbs'
        clear hbs'
        go_wp2
        go_loopw [7] (fun i wr => ∃ k2 : Nat, k2 ≤ 16 ∧ i = .int .i64 k2 ∧ ∃ bs2 : List Bool, Hid (bs2.length = 16) ∧ Sl wr w.heap.size (w.heap.size + 1) 4 (some ⟨w.heap.size, 0, none⟩) 16 16 (bools bs2) ∧ Rdr wr B r (p + 1 + k + 1) ∧ Chg r (r + 1) w wr) (fun i _ => 16 - (intOf i).toNat)
        case atStart => exact ⟨0, Nat.zero_le _, rfl, _, hbs, s3, R3, D3⟩
        case round =>
          clear s3 R3 D3
          obtain ⟨k2, hk2, rfl, bs2, hbs2, s3, R3, D3⟩ := hrel
          by_cases hlt2 : k2 < 16
          · obtain ⟨b1, hb1⟩ := at_of_lt (l := bs2) (k := k2) (by rw [hbs2.out]; omega)
            have hc1 := s3.cell (bools_at hb1)
            have hf1 := s3.frozen (by rw [bools_length, hbs2.out]; omega) (0 + k2)
            have s4 := s3.set_ k2 (.bool true)
            rw [bools_set] at s4
            simp only [Nat.zero_add] at hc1 hf1 s4
            have D4 := D3.setCell (p := ⟨w.heap.size, k2, none⟩) (.inr (Nat.le_refl _)) (.bool true)
            have R4 := R3.far (q := ⟨w.heap.size, k2, none⟩) hrl (.bool true)
            clear hb1 s3 D3 R3
            go_wp2
            go_roundw
            case rel => exact ⟨k2 + 1, by omega, by go_num, _, (by show _ = _; simp [hbs2.out]), s4, R4, D4⟩
            case measure => simp [intOf]; omega
          · have hbs3 := hbs2.out
            go_wp2_with fail
            refine (pick_any B r _ 30 _ (by omega) (by omega) (by omega) R3).mono ?_
            rintro e w4 ⟨v4, rfl, hv4, R4, C4⟩
            have s4 := s3.chg C4 (.inr (by omega))
            have D4 := D3.trans C4
            clear R3 s3 D3 C4
            by_cases k0 : v4 = 0
            · subst k0
              obtain ⟨b1, hb1⟩ := at_of_lt (l := bs2) (k := 1) (by omega)
              have hc1 := s4.cell (bools_at hb1)
              have hf1 := s4.frozen (by rw [bools_length]; omega) (0 + 1)
              have t4 := s4.set_ 1 (.bool !b1)
              rw [bools_set] at t4
              simp only [Nat.zero_add] at hc1 hf1 t4
              clear hb1
              go_wp2
              go_ret
              exact DrewB.mk' (by simp; omega) (by omega) t4 (Nat.le_refl _) (R4.far (q := ⟨w.heap.size, 1, none⟩) hrl _) (by omega) (D4.setCell (.inr (Nat.le_refl _)) _)
            by_cases k1 : v4 = 1
            · subst k1
              have t4 := s4.drop 2 (n' := 14) (c' := 14) (Nat.le_refl _)
              simp only [Nat.zero_add] at t4
              go_wp2
              go_ret
              exact DrewB.mk' (bs := bs2.drop 2) (by simp; omega) (by omega) (by simpa [bools] using t4) (Nat.le_refl _) R4 (by omega) D4
            · have k0' : ((v4 : Int) == 0) = false := by simp; omega
              have k1' : ((v4 : Int) == 1) = false := by simp; omega
              go_wp2
              go_ret
              exact DrewB.mk' (by omega) (by omega) s4 (Nat.le_refl _) R4 (by omega) D4
      · have hz' : ((v3 : Int) == 0) = false := by simp; omega
        go_wp2_with fail
        refine (pick_any B r _ 30 _ (by omega) (by omega) (by omega) R3).mono ?_
        rintro e w4 ⟨v4, rfl, hv4, R4, C4⟩
        have s4 := s3.chg C4 (.inr (by omega))
        have D4 := D3.trans C4
        clear R3 s3 D3 C4
        by_cases k0 : v4 = 0
        · subst k0
          obtain ⟨b1, hb1⟩ := at_of_lt (l := bs) (k := 1) (by omega)
          have hc1 := s4.cell (bools_at hb1)
          have hf1 := s4.frozen (by rw [bools_length]; omega) (0 + 1)
          have t4 := s4.set_ 1 (.bool !b1)
          rw [bools_set] at t4
          simp only [Nat.zero_add] at hc1 hf1 t4
          clear hb1
          go_wp2
          go_ret
          exact DrewB.mk' (by simp; omega) (by omega) t4 (Nat.le_refl _) (R4.far (q := ⟨w.heap.size, 1, none⟩) hrl _) (by omega) (D4.setCell (.inr (Nat.le_refl _)) _)
        by_cases k1 : v4 = 1
        · subst k1
          have t4 := s4.drop 2 (n' := 14) (c' := 14) (Nat.le_refl _)
          simp only [Nat.zero_add] at t4
          go_wp2
          go_ret
          exact DrewB.mk' (bs := bs.drop 2) (by simp; omega) (by omega) (by simpa [bools] using t4) (Nat.le_refl _) R4 (by omega) D4
        · have k0' : ((v4 : Int) == 0) = false := by simp; omega
          have k1' : ((v4 : Int) == 1) = false := by simp; omega
          go_wp2
          go_ret
          exact DrewB.mk' (by omega) (by omega) s4 (Nat.le_refl _) R4 (by omega) D4

/-- a list of at most 16 bools in new memory is returned; two of them -/
def SomeB (w : World) (e : Ending) (w' : World) : Prop :=
  ∃ (A : Option Addr) (n c : Nat) (bs : List Bool), e = .returned (.slice A n c) ∧ bs.length = n ∧ n ≤ 16 ∧ Sl w' w.heap.size w'.heap.size 4 A n c (bools bs) ∧ Ext w w'
def SomeBB (w : World) (e : Ending) (w' : World) : Prop :=
  ∃ (A : Option Addr) (n c : Nat) (bs : List Bool) (A2 : Option Addr) (n2 c2 : Nat) (bs2 : List Bool), e = .returned (.tuple #[.slice A n c, .slice A2 n2 c2]) ∧ bs.length = n ∧ n ≤ 16 ∧ bs2.length = n2 ∧ n2 ≤ 16 ∧
    Sl w' w.heap.size w'.heap.size 4 A n c (bools bs) ∧ Sl w' w.heap.size w'.heap.size 4 A2 n2 c2 (bools bs2) ∧ Ext w w'
end Go.Proofs.Ytnpbjfnmmleppaa
