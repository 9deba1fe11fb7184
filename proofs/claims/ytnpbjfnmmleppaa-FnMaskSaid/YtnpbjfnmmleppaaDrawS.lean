/-
  Drawn skies, beams and dirty images: l92Sky, BeamOf, l93Dirty: lists of at most 16 numbers in new memory; nothing is said of their numbers.
-/
import Derived.Test.YtnpbjfnmmleppaaDrawC
import Derived.Test.YtnpbjfnmmleppaaBackB
import Derived.Deep.DeepCutAuto
namespace Go.Proofs.Ytnpbjfnmmleppaa
open Go.RowKit

/-- a drawn list of ints is returned; the reader has gone on by at most q places -/
def DrewI (w : World) (B r p q : Nat) (e : Ending) (w' : World) : Prop :=
  ∃ (A : Option Addr) (n c : Nat) (xs : List Int) (p' : Nat), e = .returned (.slice A n c) ∧ xs.length = n ∧ 15 ≤ n ∧ n ≤ 16 ∧ Sl w' w.heap.size w'.heap.size 3 A n c (ints xs) ∧ Rdr w' B r p' ∧ p' ≤ p + q ∧ Chg r (r + 1) w w'
theorem DrewI.mk' {w w' : World} {B r p q p' lo hi : Nat} {A : Option Addr} {n c : Nat} {xs : List Int} (h1 : xs.length = n) (h15 : 15 ≤ n) (h2 : n ≤ 16) (h3 : Sl w' lo hi 3 A n c (ints xs)) (h4 : w.heap.size ≤ lo)
    (h5 : Rdr w' B r p') (h6 : p' ≤ p + q) (h7 : Chg r (r + 1) w w') : DrewI w B r p q (.returned (.slice A n c)) w' :=
  ⟨A, n, c, xs, p', rfl, h1, h15, h2, h3.full.mono h4 (Nat.le_refl _), h5, h6, h7⟩
theorem ints_drop (l : List Int) (k : Nat) : (ints l).drop k = ints (l.drop k) := by simp [ints]

set_option maxHeartbeats 2000000 in
theorem l92Sky_any (B r p : Nat) (w : World) (hp : p ≤ 10000) (h : Rdr w B r p) :
    Calls Try.prog 20 #[.pointer (some ⟨r, 0, none⟩)] w (DrewI w B r p 15) := by
  have hrl := h.lt
  have hmk := makeInts16
  have s0 : Sl (w.alloc (.cells (madeCells #[.int .i64 0] 16) 3)) w.heap.size (w.heap.size + 1) 3 (some ⟨w.heap.size, 0, none⟩) 16 16 (ints (List.replicate 16 0)) := by
    rw [← ints_rep]; exact Sl.made w 3 _ 16
  have R0 : Rdr (w.alloc (.cells (madeCells #[.int .i64 0] 16) 3)) B r p := h.ext ((Ext.refl w).alloc _)
  have D0 : Chg r (r + 1) w (w.alloc (.cells (madeCells #[.int .i64 0] 16) 3)) := (Chg.refl _ _ _).alloc _
  clear h
  go_enter Try.func20, Try.ntmps20
  go_wp2_with (go_at_call 23; refine (l21Cells_any _).mono ?_; rintro e w' ⟨rfl, rfl⟩)
  clear hmk
  refine (pick_any B r p 6 _ (by omega) (by omega) (by omega) R0).mono ?_
  rintro e w1 ⟨v, rfl, hv, R1, C1⟩
  have s1 := s0.chg C1 (.inr (by omega))
  have D1 := D0.trans C1
  clear R0 s0 D0 C1
  go_wp2_with fail
  go_loopw [5] (fun i wr => ∃ k : Nat, k ≤ v ∧ i = .int .i64 k ∧ ∃ xs : List Int, Hid (xs.length = 16) ∧ Sl wr w.heap.size (w.heap.size + 1) 3 (some ⟨w.heap.size, 0, none⟩) 16 16 (ints xs) ∧ Rdr wr B r (p + 1 + 2 * k) ∧ Chg r (r + 1) w wr) (fun i _ => v - (intOf i).toNat)
  case atStart => exact ⟨0, Nat.zero_le _, rfl, _, (by show _ = _; simp), s1, R1, D1⟩
  case round =>
    clear s1 R1 D1
    obtain ⟨k, hk, rfl, xs, hxs, s2, R2, D2⟩ := hrel
    by_cases hlt : k < v
    · go_wp2_with (go_at_call 23; refine (l21Cells_any _).mono ?_; rintro e w' ⟨rfl, rfl⟩)
      refine (pick_any B r _ 16 _ (by omega) (by omega) (by omega) R2).mono ?_
      rintro e w3 ⟨j, rfl, hj, R3, C3⟩
      have s3 := s2.chg C3 (.inr (by omega))
      have D3 := D2.trans C3
      clear R2 s2 D2 C3
      go_wp2_with fail
      refine (pick_any B r _ 30 _ (by omega) (by omega) (by omega) R3).mono ?_
      rintro e w4 ⟨j2, rfl, hj2, R4, C4⟩
      have s4 := s3.chg C4 (.inr (by omega))
      have D4 := D3.trans C4
      clear R3 s3 D3 C4
      obtain ⟨b1, hb1⟩ := at_of_lt (l := xs) (k := j) (by rw [hxs.out]; omega)
      have hc1 := s4.cell (ints_at' hb1)
      have hf1 := s4.frozen (by rw [ints_length, hxs.out]; omega) (0 + j)
      have s5 := s4.set_ j (.int .i64 ((j2 : Int) - 3))
      rw [ints_set] at s5
      simp only [Nat.zero_add] at hc1 hf1 s5
      have D5 := D4.setCell (p := ⟨w.heap.size, j, none⟩) (.inr (Nat.le_refl _)) (.int .i64 ((j2 : Int) - 3))
      have R5 := R4.far (q := ⟨w.heap.size, j, none⟩) hrl (.int .i64 ((j2 : Int) - 3))
      clear hb1 s4 D4 R4
      go_wp2
      go_roundw
      case rel => exact ⟨k + 1, by omega, by go_num, _, (by show _ = _; simp [hxs.out]), s5, R5, D5⟩
      case measure => simp [intOf]; omega
    · obtain rfl : k = v := by omega
      go_wp2_with fail
      refine (pick_any B r _ 40 _ (by omega) (by omega) (by omega) R2).mono ?_
      rintro e w3 ⟨v3, rfl, hv3, R3, C3⟩
      have s3 := s2.chg C3 (.inr (by omega))
      have D3 := D2.trans C3
      clear R2 s2 D2 C3
      have hxs' := hxs.out
      by_cases k0 : v3 = 0
      · subst k0
        have y0 : Ext w3 (w3.alloc (.cells #[.int .i64 100001, .int .i64 100000] 3)) := (Ext.refl w3).alloc _
        have R4 := R3.ext y0
        have s4 := s3.ext y0
        have D4 := D3.trans (lo := r) (hi := r + 1) y0.chg
        have q4 := St.new w3 #[.int .i64 100001, .int .i64 100000] 3
        have z3 := s3.full
        go_wp2_with fail
        refine (pick_any B r _ 2 _ (by omega) (by omega) (by omega) R4).mono ?_
        rintro e w5 ⟨v5, rfl, hv5, R5, C5⟩
        have hw3 : w.heap.size < w3.heap.size := by have := s3.addr (by rw [ints_length]; omega); obtain ⟨g, off, e, h1, h2, h3⟩ := this; simp at e; omega
        have s5 := s4.chg C5 (.inr (by omega))
        have q5 := q4.chg C5 (by omega)
        have D5 := D4.trans C5
        obtain ⟨b1, hb1⟩ := at_of_lt (l := xs) (k := 0) (by omega)
        have hc1 := s5.cell (ints_at' hb1)
        have hf1 := s5.frozen (by rw [ints_length]; omega) (0 + 0)
        simp only [Nat.add_zero] at hc1 hf1
        have R6 := fun (u : Value) => R5.far (q := ⟨w.heap.size, 0, none⟩) hrl u
        have s6 := fun (u : Int) => s5.set_ 0 (.int .i64 u)
        have D6 := fun (u : Value) => D5.setCell (p := ⟨w.heap.size, 0, none⟩) (.inr (Nat.le_refl _)) u
        have HR6 := Lib.hid R6
        have HS6 := Lib.hid s6
        have HD6 := Lib.hid D6
        clear R6 s6 D6 hb1
        by_cases k5 : v5 = 0
        · subst k5
          have q0 := q5.cell0
          go_wp2
          go_ret
          have t := HS6.out 100001
          rw [ints_set] at t
          exact DrewI.mk' (by simp; omega) (by omega) (by omega) t (Nat.le_refl _) (HR6.out _) (by omega) (HD6.out _)
        · obtain rfl : v5 = 1 := by omega
          have q0 := q5.cell1
          go_wp2
          go_ret
          have t := HS6.out 100000
          rw [ints_set] at t
          exact DrewI.mk' (by simp; omega) (by omega) (by omega) t (Nat.le_refl _) (HR6.out _) (by omega) (HD6.out _)
      by_cases k1 : v3 = 1
      · subst k1
        have t4 := s3.drop 1 (n' := 15) (c' := 15) (Nat.le_refl _)
        simp only [Nat.zero_add] at t4
        rw [ints_drop] at t4
        go_wp2
        go_ret
        exact DrewI.mk' (xs := xs.drop 1) (by simp; omega) (by omega) (by omega) t4 (Nat.le_refl _) R3 (by omega) D3
      · have k0' : ((v3 : Int) == 0) = false := by simp; omega
        have k1' : ((v3 : Int) == 1) = false := by simp; omega
        go_wp2
        go_ret
        exact DrewI.mk' (by omega) (by omega) (by omega) s3 (Nat.le_refl _) R3 (by omega) D3
/-- a list of 16 ints in new memory if the bool is true, an empty one if not -/
def BeamR (w : World) (b : Bool) (e : Ending) (w' : World) : Prop :=
  ∃ (A : Option Addr) (n c : Nat) (xs : List Int), e = .returned (.tuple #[.slice A n c, .bool b]) ∧ xs.length = n ∧ (n = if b then 16 else 0) ∧ Sl w' w.heap.size w'.heap.size 3 A n c (ints xs) ∧ Ext w w' ∧ (b = true → svB xs = true)
/-- all numbers are small -/
def smallL (M : Int) (xs : List Int) : Prop := ∀ x ∈ xs, -M ≤ x ∧ x ≤ M
theorem smallL_snoc {M : Int} {xs : List Int} {x : Int} (h : smallL M xs) (h1 : -M ≤ x) (h2 : x ≤ M) : smallL M (xs ++ [x]) := by
  intro y hy
  rcases List.mem_append.1 hy with hy | hy
  · exact h y hy
  · simp at hy; subst hy; exact ⟨h1, h2⟩
theorem smallL_set {M : Int} {xs : List Int} {x : Int} {k : Nat} (h : smallL M xs) (h1 : -M ≤ x) (h2 : x ≤ M) : smallL M (xs.set k x) := by
  intro y hy
  rcases List.mem_or_eq_of_mem_set hy with hy | rfl
  · exact h y hy
  · exact ⟨h1, h2⟩
theorem smallL_rep (M : Int) (hM : 0 ≤ M) (n : Nat) : smallL M (List.replicate n 0) := by
  intro y hy
  rw [List.eq_of_mem_replicate hy]
  omega
theorem smallL_sv {M : Int} {xs : List Int} (h : smallL M xs) (hM : M ≤ 100000) (hl : xs.length = 16) : svB xs = true := by
  rw [svB_all hl, List.all_eq_true]
  intro x hx
  have := h x hx
  simp [inB]
  omega
theorem ur_le (k : Int) : -1 ≤ ur k ∧ ur k ≤ 1 := by rcases unit_cases k with ⟨h, _⟩ | ⟨h, _⟩ | ⟨h, _⟩ | ⟨h, _⟩ <;> omega
end Go.Proofs.Ytnpbjfnmmleppaa
