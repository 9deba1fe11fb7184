/-
  Drawn skies, beams and dirty images: l92Sky, BeamOf, l93Dirty: lists of at most 16 numbers in new memory; nothing is said of their numbers.
-/
import Derived.Test.YtbafniaohjjacabDrawC
import Derived.Test.YtbafniaohjjacabBackB
import Derived.Deep.DeepCutAuto
namespace Go.Proofs.Ytbafniaohjjacab
open Go.RowKit

/-- a drawn list of ints is returned; the reader has gone on by at most q places -/
def DrewI (w : World) (B r p q : Nat) (e : Ending) (w' : World) : Prop :=
  ∃ (A : Option Addr) (n c : Nat) (xs : List Int) (p' : Nat), e = .returned (.slice A n c) ∧ xs.length = n ∧ 15 ≤ n ∧ n ≤ 16 ∧ Sl w' w.heap.size w'.heap.size 3 A n c (ints xs) ∧ Rdr w' B r p' ∧ p' ≤ p + q ∧ Chg r (r + 1) w w'
theorem DrewI.mk' {w w' : World} {B r p q p' lo hi : Nat} {A : Option Addr} {n c : Nat} {xs : List Int} (h1 : xs.length = n) (h15 : 15 ≤ n) (h2 : n ≤ 16) (h3 : Sl w' lo hi 3 A n c (ints xs)) (h4 : w.heap.size ≤ lo)
    (h5 : Rdr w' B r p') (h6 : p' ≤ p + q) (h7 : Chg r (r + 1) w w') : DrewI w B r p q (.returned (.slice A n c)) w' :=
  ⟨A, n, c, xs, p', rfl, h1, h15, h2, h3.full.mono h4 (Nat.le_refl _), h5, h6, h7⟩
theorem ints_drop (l : List Int) (k : Nat) : (ints l).drop k = ints (l.drop k) := by simp [ints]

/-- a list of 16 ints in new memory if the bool is true, an empty one if not -/
def BeamR (w : World) (b : Bool) (e : Ending) (w' : World) : Prop :=
  ∃ (A : Option Addr) (n c : Nat) (xs : List Int), e = .returned (.tuple #[.slice A n c, .bool b]) ∧ xs.length = n ∧ (n = if b then 16 else 0) ∧ Sl w' w.heap.size w'.heap.size 3 A n c (ints xs) ∧ Ext w w' ∧ (b = true → svB xs = true)
/-- all numbers are small -/
def smallL (M : Int) (xs : List Int) : Prop := ∀ x ∈ xs, -M ≤ x ∧ x ≤ M
theorem smallL_snoc {M : Int} {xs : List Int} {x : Int} (h : smallL M xs) (h1 : -M ≤ x) (h2 : x ≤ M) : smallL M (xs ++ [x]) := by
  intro y hy
  rcases List.mem_append.1 hy with hy | hy
  · exact h y hy
  · simp at hy; subst hy; exact ⟨h1, h2⟩
theorem smallL_set {M : Int} {xs : List Int} {x : Int} {k : Nat} (h : smallL M xs) (h1 : -M ≤ x) (h2 : x ≤ M) : smallL M (xs.set k x) := by
  intro y hy
  rcases List.mem_or_eq_of_mem_set hy with hy | rfl
  · exact h y hy
  · exact ⟨h1, h2⟩
theorem smallL_rep (M : Int) (hM : 0 ≤ M) (n : Nat) : smallL M (List.replicate n 0) := by
  intro y hy
  rw [List.eq_of_mem_replicate hy]
  omega
theorem smallL_sv {M : Int} {xs : List Int} (h : smallL M xs) (hM : M ≤ 100000) (hl : xs.length = 16) : svB xs = true := by
  rw [svB_all hl, List.all_eq_true]
  intro x hx
  have := h x hx
  simp [inB]
  omega
theorem ur_le (k : Int) : -1 ≤ ur k ∧ ur k ≤ 1 := by rcases unit_cases k with ⟨h, _⟩ | ⟨h, _⟩ | ⟨h, _⟩ | ⟨h, _⟩ <;> omega
set_option maxHeartbeats 2000000 in
theorem specBeamOf_any (A : Option Addr) (n c : Nat) (bs : List Bool) (w : World) (hn : bs.length = n) (h : Rd w w.heap.size A n c (bools bs)) :
    Calls Try.prog 46 #[.slice A n c] w (BeamR w (cvB bs)) := by
  have hc := specCoverValid_any A n c bs (w.alloc (.cells #[] 3)) hn ((h.alloc (Nat.le_refl _) _).mono (by simp))
  rcases hv : cvB bs with _ | _
  · rw [hv] at hc
    have HC := Lib.hid hc
    clear hc hv hn h
    go_enter Try.func46, Try.ntmps46
    go_wp2_with (go_at_call 54; refine HC.out.mono ?_; rintro e w1 ⟨rfl, hq⟩)
    go_ret2
    exact ⟨_, 0, _, [], rfl, rfl, rfl, Sl.nil (Nat.zero_le _), ((Ext.refl w).alloc _).trans hq.ext, fun h => by cases h⟩
  rw [hv] at hc
  obtain rfl : n = 16 := by rw [← hn]; exact cvB_16 hv
  obtain ⟨g, off, rfl⟩ := h.addr (by rw [bools_length, hn]; omega)
  have HC := Lib.hid hc
  have HN := Lib.hid hn
  have hfl : ∀ (a b : Value) (W : World), (Instr.field 77 (.agg #[a, b]) 0).run Try.prog W = .ok a W := fun _ _ _ => by kernel_rfl
  clear hc hv hn
  go_enter Try.func46, Try.ntmps46
  go_wp2_with (go_at_call 54; refine HC.out.mono ?_; rintro e w1 ⟨rfl, hq⟩)
  go_loopw [4, 5] (fun v i wr => ∃ k : Nat, k ≤ 16 ∧ i = .int .i64 k ∧ (∃ zs : List Int, Hid (zs.length = k ∧ smallL 100 zs) ∧ wr.ownsRow w.heap.size 3 1 v k (ints zs)) ∧ Ext w wr) (fun _ i _ => 16 - (intOf i).toNat)
  case atStart => exact ⟨0, Nat.zero_le _, rfl, ⟨[], ⟨rfl, fun x hx => by simp at hx⟩, own_quiet (World.ownsRow_lit w #[] 0 (Nat.le_refl _) (by simp [maxLen]) rfl) hq⟩, ((Ext.refl _).alloc _).trans hq.ext⟩
  case round =>
    obtain ⟨k, hk, rfl, ⟨zs, hzs, hs⟩, he⟩ := hrel
    by_cases hlt : k < 16
    · have hdk : decide ((k : Int) < 16) = true := by simp; omega
      obtain ⟨wo, rfl⟩ : ∃ wo : World, wo = wr := ⟨_, rfl⟩
      go_wp2_with (go_at_call 47; refine (l21Cells_any _).mono ?_; rintro e w' ⟨rfl, rfl⟩)
      go_loopw [6, 7] (fun t i wr => ∃ l : Nat, l ≤ 16 ∧ i = .int .i64 l ∧ (∃ x : Int, t = .int .i64 x ∧ -(l : Int) ≤ x ∧ x ≤ l) ∧ Ext wo wr) (fun _ i _ => 16 - (intOf i).toNat)
      case atStart => exact ⟨0, Nat.zero_le _, rfl, ⟨0, rfl, by simp, by simp⟩, Ext.refl _⟩
      case round =>
        obtain ⟨l, hl, rfl, ⟨x, rfl, hx1, hx2⟩, hx⟩ := hrel
        by_cases hlt2 : l < 16
        · obtain ⟨b, hb⟩ := at_of_lt (l := bs) (k := l) (by rw [HN.out]; exact hlt2)
          have hcb := (h.below (he.trans hx).below).cell (bools_at hb)
          clear hb
          cases b
          · go_wp2_with (go_at_call 47; refine (l21Cells_any _).mono ?_; rintro e w' ⟨rfl, rfl⟩)
            go_roundw
            case rel => exact ⟨l + 1, by omega, by go_num, ⟨_, rfl, by omega, by omega⟩, hx⟩
            case measure => simp [intOf]; omega
          · obtain ⟨m1, m2⟩ := mul3 (u := (k : Int) % 4) (a := (l : Int) % 4) (by omega) (by omega) (by omega) (by omega)
            obtain ⟨m3, m4⟩ := mul3 (u := (k : Int) / 4) (a := (l : Int) / 4) (by omega) (by omega) (by omega) (by omega)
            go_wp2_with (first
              | (go_at_call 47; refine (l21Cells_any _).mono ?_; rintro e w' ⟨rfl, rfl⟩)
              | (go_at_call 55; refine (specGaussUnit_any _ _).mono ?_; rintro e w3 ⟨rfl, x3⟩; (obtain ⟨u1, u2⟩ := ur_le ((k : Int) % 4 * ((l : Int) % 4) + (k : Int) / 4 * ((l : Int) / 4)))))
            go_roundw
            case rel => exact ⟨l + 1, by omega, by go_num, ⟨_, rfl, by omega, by omega⟩, hx.trans x3⟩
            case measure => simp [intOf]; omega
        · obtain rfl : l = 16 := by omega
          have ho2 := own_ext hs hx
          have he2 := he.trans hx
          have hz2 := he2.size
          go_wp2_with (first
            | (go_at_call 47; refine (l21Cells_any _).mono ?_; rintro e w' ⟨rfl, rfl⟩)
            | (at_builtin; refine wpList_append1 rfl _ _ _ rfl w.heap.size 3 (.int .i64 0) 8 I.infoInt Try.underlying23 rfl _ k _ rfl ho2 (.int .i64 x) rfl rfl (by omega) (by omega) hz2 ?_; intro v' w' hs' he'))
          go_roundw
          case rel => exact ⟨k + 1, by omega, by go_num, ⟨zs ++ [x], ⟨by simp [hzs.out.1], smallL_snoc hzs.out.2 (by omega) (by omega)⟩, by rw [← ints_append]; exact hs'⟩, he' w he2 (Nat.le_refl _)⟩
          case measure => simp [intOf]; omega
    · obtain rfl : k = 16 := by omega
      obtain ⟨A5, c5, rfl, s5⟩ := Sl.of_own hs
      go_wp2_with (go_at_call 47; refine (l21Cells_any _).mono ?_; rintro e w' ⟨rfl, rfl⟩)
      go_ret2
      exact ⟨A5, 16, c5, zs, rfl, hzs.out.1, rfl, s5, he, fun _ => smallL_sv hzs.out.2 (by omega) hzs.out.1⟩
end Go.Proofs.Ytbafniaohjjacab
