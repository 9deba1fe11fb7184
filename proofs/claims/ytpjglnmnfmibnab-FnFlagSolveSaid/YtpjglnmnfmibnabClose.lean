/-
  Contracts of SolvePhases (of FlagSolve's) and of the closing phase of the program.
-/
import Derived.Test.YtpjglnmnfmibnabFlagS
namespace Go.Proofs.Ytpjglnmnfmibnab
open Go.RowKit
set_option linter.unusedSimpArgs false
set_option linter.unusedVariables false

theorem nbI_small (n : Int) : ∃ k : Nat, nbI n = (k : Int) ∧ k ≤ 21 := by
  rcases h : mnB n with _ | _
  · exact ⟨0, by simp [nbI, h], by omega⟩
  · obtain ⟨N, rfl, h1, h2⟩ := mnB_nat h
    exact ⟨nb N, nbI_nat h1 h2, nb_le N (by omega)⟩
set_option maxHeartbeats 4000000 in
theorem solvePhases_any (n : Int) (A1 A2 : Option Addr) (n1 c1 n2 c2 : Nat) (l m : VL) (w : World) (hl : l.length = n1) (hm : m.length = n2)
    (z1 : n1 ≤ 1048576) (z2 : n2 ≤ 1048576) (r1 : Rd w w.heap.size A1 n1 c1 (pairs l)) (r2 : Rd w w.heap.size A2 n2 c2 (pairs m)) :
    Calls Try.prog 33 #[.int .i64 n, .slice A1 n1 c1, .slice A2 n2 c2] w (RetSB w 3 (spL n l m).length (ints (spL n l m)) (spB n l m)) := by
  obtain ⟨k, hk, hk2⟩ := nbI_small n
  have HK := Lib.hid hk
  have HF := Lib.hid (fun (W : World) (x : Ext w W) (A3 : Option Addr) (r3 : Rd W W.heap.size A3 k k (bools (allF k))) => flagSolve_any n A1 A2 A3 n1 c1 n2 c2 k k l m (allF k) W hl hm (by simp [allF]) z1 z2 (by omega) (r1.ext x) (r2.ext x) r3)
  have hmb := makeBoolsN k (by omega)
  have x0 : Ext w (w.alloc (.cells (madeCells #[.bool false] k) 4)) := (Ext.refl w).alloc _
  have m0 : Sl (w.alloc (.cells (madeCells #[.bool false] k) 4)) w.heap.size (w.heap.size + 1) 4 (some ⟨w.heap.size, 0, none⟩) k k (bools (allF k)) := by
    unfold allF; rw [← bools_rep]; exact Sl.made w 4 _ k
  clear hk hl hm r1 r2 z1 z2
  go_enter Try.func33, Try.ntmps33
  go_wp2_with (go_at_call 40; refine (baseMany_any _ _).mono ?_; rintro e w' ⟨rfl, rfl⟩; rw [HK.out])
  refine (HF.out _ x0 _ m0.rd).mono ?_
  rintro e w2 ⟨A, c, out, ok, rfl, hs, s, x⟩
  have e0 : (nbI n).toNat = k := by rw [HK.out]; rfl
  have hu := FSol.unique hs (by rw [← e0]; exact sp_sol)
  have HU := Lib.hid hu
  have HS := Lib.hid s
  clear hs hu s e0 hmb m0
  go_wp2
  go_ret2
  obtain ⟨e1, e2⟩ := HU.out
  subst e1
  subst e2
  exact ⟨A, c, rfl, HS.out.mono (by simp) (Nat.le_refl _), x0.trans x⟩
/-! ### different antennas -/
theorem isAnt_any (n a : Int) (w : World) : Calls Try.prog 50 #[.int .i64 n, .int .i64 a] w fun e w' => e = .returned (.bool (decide (0 ≤ a ∧ a < n))) ∧ w = w' := by
  by_cases h : 0 ≤ a
  · by_cases h2 : a < n
    · go_enter Try.func50, Try.ntmps50
      go_wp2
      go_ret
      exact ⟨ret_bool (by simp [h, h2]), rfl⟩
    · go_enter Try.func50, Try.ntmps50
      go_wp2
      go_ret
      exact ⟨ret_bool (by simp [h, h2]), rfl⟩
  · go_enter Try.func50, Try.ntmps50
    go_wp2
    go_ret
    exact ⟨ret_bool (by simp [h]; intro _; omega), rfl⟩
theorem index_any (A : Option Addr) (n c : Nat) (xs : List Int) (x : Int) (w : World) (hn : xs.length = n) (hz : n ≤ 1048576) (r : Rd w w.heap.size A n c (ints xs)) :
    Calls Try.prog 83 #[.slice A n c, .int .i64 x] w fun e w' => w = w' ∧ ∃ k : Int, e = .returned (.int .i64 k) ∧ (0 ≤ k ↔ x ∈ xs) := by
  have HN := Lib.hid hn
  have HR := Lib.hid r
  clear hn r
  go_enter Try.func83, Try.ntmps83
  go_wp2
  go_loopw [8] (fun i wr => ∃ k : Nat, k ≤ n ∧ i = .int .i64 k ∧ Hid (∀ j, j < k → xs[j]? ≠ some x) ∧ wr = w) (fun i _ => n - (intOf i).toNat)
  case atStart => exact ⟨0, Nat.zero_le _, rfl, fun j hj => by omega, rfl⟩
  case round =>
    obtain ⟨k, hk, rfl, hf, rfl⟩ := hrel
    by_cases hlt : k < n
    · obtain ⟨g, off, rfl⟩ := HR.out.addr (by rw [ints_length, HN.out]; omega)
      obtain ⟨y, hy⟩ := at_of_lt (l := xs) (k := k) (by rw [HN.out]; exact hlt)
      have HY := Lib.hid hy
      have hc := HR.out.cell (ints_at' hy)
      have h2 : (k : Int) < (n : Int) := by omega
      have h3 : (0 : Int) ≤ (k : Int) := by omega
      clear hy
      by_cases he : x = y
      · go_wp2
        go_ret
        exact ⟨rfl, _, rfl, fun _ => he ▸ List.mem_of_getElem? HY.out, fun _ => h3⟩
      · go_wp2
        go_roundw
        case rel => exact ⟨k + 1, by omega, by go_num, fun j hj => by
          by_cases e : j = k
          · subst e; rw [HY.out]; intro h; exact he (Option.some.inj h).symm
          · exact hf.out j (by omega), trivial⟩
        case measure => simp [intOf]; omega
    · have e : k = n := by omega
      have hd : decide (k < n) = false := by simpa using hlt
      go_wp2
      go_ret
      exact ⟨rfl, _, rfl, fun h => absurd h (by omega), fun h => by
        obtain ⟨j, hj⟩ := List.getElem?_of_mem h
        have := (List.getElem?_eq_some_iff.1 hj).1
        exact absurd hj (hf.out j (by rw [e, ← HN.out]; exact this))⟩
theorem contains_any (A : Option Addr) (n c : Nat) (xs : List Int) (x : Int) (w : World) (hn : xs.length = n) (hz : n ≤ 1048576) (r : Rd w w.heap.size A n c (ints xs)) :
    Calls Try.prog 75 #[.slice A n c, .int .i64 x] w fun e w' => e = .returned (.bool (decide (x ∈ xs))) ∧ w = w' := by
  have HI := Lib.hid (index_any A n c xs x w hn hz r)
  clear hn r
  go_enter Try.func75, Try.ntmps75
  go_wp2_with fail
  refine HI.out.mono ?_
  rintro e w' ⟨rfl, k, rfl, hk⟩
  have HK := Lib.hid hk
  clear hk
  go_wp2
  go_ret
  exact ⟨ret_bool (by rw [Bool.eq_iff_iff]; simp only [decide_eq_true_eq]; exact HK.out), rfl⟩
/-- the first k antennas are antennas, and different -/
def antsTo (n : Int) (xs : List Int) (k : Nat) : Prop := ∀ j, j < k → ∀ x, xs[j]? = some x → (0 ≤ x ∧ x < n) ∧ x ∉ xs.take j
theorem antsTo_succ {n : Int} {xs : List Int} {k : Nat} {x : Int} (h : antsTo n xs k) (hx : xs[k]? = some x) (h1 : 0 ≤ x ∧ x < n) (h2 : x ∉ xs.take k) : antsTo n xs (k + 1) := by
  intro j hj y hy
  by_cases e : j = k
  · subst e
    rw [hx] at hy
    obtain rfl := Option.some.inj hy
    exact ⟨h1, h2⟩
  · exact h j (by omega) y hy
theorem ints_take (xs : List Int) (k : Nat) : (ints xs).take k = ints (xs.take k) := by simp [ints, List.map_take]
theorem Rd.take {w : World} {B n c n' : Nat} {A : Option Addr} {xs : List Value} (h : Rd w B A n c xs) (k : Nat) (hn : n' ≤ c) : Rd w B A n' c (xs.take k) :=
  ⟨hn, fun hx => by
    obtain ⟨g, off, e, h6⟩ := h.2 (by simp at hx; omega)
    refine ⟨g, off, e, ?_⟩
    first
      | exact ⟨h6.1, fun j u hu => h6.2 j u (by
          rw [List.getElem?_take] at hu
          split at hu
          · exact hu
          · cases hu)⟩
      | exact fun j u hu => h6 j u (by
          rw [List.getElem?_take] at hu
          split at hu
          · exact hu
          · cases hu)⟩
theorem differentAnts_any (N : Int) (A : Option Addr) (n c : Nat) (xs : List Int) (w : World) (hn : xs.length = n) (hz : n ≤ 1048576) (r : Rd w w.heap.size A n c (ints xs)) :
    Calls Try.prog 56 #[.int .i64 N, .slice A n c] w fun e w' => w = w' ∧ ∃ b : Bool, e = .returned (.bool b) ∧ (b = true ↔ antsTo N xs n) := by
  have HN := Lib.hid hn
  have HR := Lib.hid r
  have hnc : n ≤ c := r.1
  clear hn r
  go_enter Try.func56, Try.ntmps56
  go_wp2
  go_loopw [9] (fun i wr => ∃ k : Nat, k ≤ n ∧ i = .int .i64 k ∧ Hid (antsTo N xs k) ∧ wr = w) (fun i _ => n - (intOf i).toNat)
  case atStart => exact ⟨0, Nat.zero_le _, rfl, (fun j hj => by omega : antsTo N xs 0), rfl⟩
  case round =>
    obtain ⟨k, hk, rfl, hf, rfl⟩ := hrel
    by_cases hlt : k < n
    · obtain ⟨g, off, rfl⟩ := HR.out.addr (by rw [ints_length, HN.out]; omega)
      obtain ⟨y, hy⟩ := at_of_lt (l := xs) (k := k) (by rw [HN.out]; exact hlt)
      have HY := Lib.hid hy
      have hc := HR.out.cell (ints_at' hy)
      have h2 : (k : Int) < (n : Int) := by omega
      have h3 : (0 : Int) ≤ (k : Int) := by omega
      have h4 : k ≤ c := by omega
      have HT : Hid (Rd wr wr.heap.size (some ⟨g, off, none⟩) k c (ints (xs.take k))) := by
        show Rd _ _ _ _ _ _
        rw [← ints_take]; exact HR.out.take k h4
      have hlk : (xs.take k).length = k := by rw [List.length_take, HN.out]; omega
      have HLK := Lib.hid hlk
      clear hy hlk
      by_cases h1 : 0 ≤ y ∧ y < N
      · by_cases h5 : y ∈ xs.take k
        · have H5 := Lib.hid h5
          have d5 : decide (y ∈ xs.take k) = true := decide_eq_true h5
          have d1 : decide (0 ≤ y ∧ y < N) = true := decide_eq_true h1
          have D1 := Lib.hid d1
          have D5 := Lib.hid d5
          clear h5 d5 d1
          go_wp2_with (first
            | (go_at_call 50; refine (isAnt_any _ _ _).mono ?_; rintro e w' ⟨rfl, rfl⟩; rw [D1.out])
            | (go_at_call 75; refine (contains_any _ k c (xs.take k) _ _ HLK.out (by omega) HT.out).mono ?_; rintro e w' ⟨rfl, rfl⟩; rw [D5.out]))
          go_ret
          exact ⟨rfl, _, rfl, by simp, fun h => absurd H5.out (h k hlt y HY.out).2⟩
        · have H5 := Lib.hid h5
          have H1 := Lib.hid h1
          have d5 : decide (y ∈ xs.take k) = false := decide_eq_false h5
          have d1 : decide (0 ≤ y ∧ y < N) = true := decide_eq_true h1
          have D1 := Lib.hid d1
          have D5 := Lib.hid d5
          clear h5 d5 d1
          go_wp2_with (first
            | (go_at_call 50; refine (isAnt_any _ _ _).mono ?_; rintro e w' ⟨rfl, rfl⟩; rw [D1.out])
            | (go_at_call 75; refine (contains_any _ k c (xs.take k) _ _ HLK.out (by omega) HT.out).mono ?_; rintro e w' ⟨rfl, rfl⟩; rw [D5.out]))
          go_roundw
          case rel => exact ⟨k + 1, by omega, by go_num, (antsTo_succ hf.out HY.out H1.out H5.out : antsTo N xs (k + 1)), trivial⟩
          case measure => simp [intOf]; omega
      · have H1 := Lib.hid h1
        have d1 : decide (0 ≤ y ∧ y < N) = false := decide_eq_false h1
        have D1 := Lib.hid d1
        clear d1 h1
        go_wp2_with (go_at_call 50; refine (isAnt_any _ _ _).mono ?_; rintro e w' ⟨rfl, rfl⟩; rw [D1.out])
        go_ret
        exact ⟨rfl, _, rfl, by simp, fun h => absurd (h k hlt y HY.out).1 H1.out⟩
    · have e : k = n := by omega
      have hd : decide (k < n) = false := by simpa using hlt
      go_wp2
      go_ret
      exact ⟨rfl, _, rfl, fun _ => by rw [← e]; exact hf.out, fun _ => rfl⟩
end Go.Proofs.Ytpjglnmnfmibnab
