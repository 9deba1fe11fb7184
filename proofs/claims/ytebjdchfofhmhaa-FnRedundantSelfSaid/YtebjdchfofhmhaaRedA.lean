/-
  Contracts of the small functions on arrays of both sides: isPlace, ArrayValid, vector, opposite; l3Place, ArrayValid, l17Sign of the reference.
-/
import Derived.Test.YtebjdchfofhmhaaRedPlain
import Derived.Test.YtebjdchfofhmhaaQuietC
import Derived.Test.YtebjdchfofhmhaaGauss
import Derived.Test.YtebjdchfofhmhaaPhs
import Derived.Test.YtebjdchfofhmhaaPAnt
import Derived.Test.YtebjdchfofhmhaaStruct
import Derived.Test.YtebjdchfofhmhaaVisV
import Derived.Laws.StructEq
import Derived.Deep.QuietTactic
import Derived.BigQuiet
namespace Go.Proofs.Ytebjdchfofhmhaa
open Go.RowKit
set_option linter.unusedSimpArgs false
set_option linter.unusedVariables false

theorem eqAnt_run (d : Nat) (a b c e : Int) (w : World) : (Op.equalIn (d + 2) 49 (.agg #[.int .i64 a, .int .i64 b]) (.agg #[.int .i64 c, .int .i64 e])).run Try.prog w = .ok (a == c && b == e) w := by
  rw [run_equalIn_struct _ _ _ _ _ (by kernel_rfl) (by kernel_rfl)]
  rw [show (Try.prog.fieldsOf 49).toList = _ from rfl]
  by_cases h : a = c
  · subst h
    by_cases h2 : b = e
    · subst h2; simp [Op.eqFields, go_sem, Try.underlying3]
    · have h' : (b == e) = false := by simpa using h2
      simp [Op.eqFields, go_sem, Try.underlying3, h', h2]
  · have h' : (a == c) = false := by simpa using h
    simp [Op.eqFields, go_sem, Try.underlying3, h']
attribute [local go_sem] eqAnt_run
theorem inRange_p (a : Int) (w : World) : Calls Try.prog 72 #[.int .i64 a, .int .i64 1000] w fun e w' => e = .returned (.bool (decide (-1000 ≤ a) && decide (a ≤ 1000))) ∧ w = w' := by
  have h := inRange_any a 1000 w (by omega) (by omega)
  rwa [show decide (-1000 ≤ a ∧ a ≤ 1000) = (decide (-1000 ≤ a) && decide (a ≤ 1000)) from Bool.decide_and ..] at h
theorem isPlace_any (a b : Int) (w : World) : Calls Try.prog 53 #[.agg #[.int .i64 a, .int .i64 b]] w fun e w' => e = .returned (.bool (plB (a, b))) ∧ Ext w w' := by
  rcases h1 : (decide (-1000 ≤ a) && decide (a ≤ 1000)) with _ | _
  · have HD := Lib.hid h1
    clear h1
    go_enter Try.func53, Try.ntmps53
    go_wp2_with fail
    refine (inRange_p a _).mono ?_
    rintro e w1 ⟨rfl, rfl⟩
    rw [HD.out]
    go_wp2
    go_ret
    exact ⟨ret_bool (by unfold plB; rw [HD.out]; rfl), (Ext.refl w).alloc _⟩
  · have HD := Lib.hid h1
    clear h1
    go_enter Try.func53, Try.ntmps53
    go_wp2_with fail
    refine (inRange_p a _).mono ?_
    rintro e w1 ⟨rfl, rfl⟩
    rw [HD.out]
    go_wp2_with fail
    refine (inRange_p b _).mono ?_
    rintro e w1 ⟨rfl, rfl⟩
    go_wp2
    go_ret
    exact ⟨ret_bool (by unfold plB; rw [HD.out]; rfl), (Ext.refl w).alloc _⟩
theorem l3Place_any (a b : Int) (w : World) : Calls Try.prog 59 #[.agg #[.int .i64 a, .int .i64 b]] w fun e w' => e = .returned (.bool (plB (a, b))) ∧ Ext w w' := by
  rcases h1 : (decide (-1000 ≤ a) && decide (a ≤ 1000)) with _ | _
  · have HD := Lib.hid h1
    clear h1
    go_enter Try.func59, Try.ntmps59
    go_wp2_with fail
    refine (in_any a (-1000) 1000 _).mono ?_
    rintro e w1 ⟨rfl, rfl⟩
    rw [HD.out]
    go_wp2
    go_ret
    exact ⟨ret_bool (by unfold plB; rw [HD.out]; rfl), (Ext.refl w).alloc _⟩
  · have HD := Lib.hid h1
    clear h1
    go_enter Try.func59, Try.ntmps59
    go_wp2_with fail
    refine (in_any a (-1000) 1000 _).mono ?_
    rintro e w1 ⟨rfl, rfl⟩
    rw [HD.out]
    go_wp2_with fail
    refine (in_any b (-1000) 1000 _).mono ?_
    rintro e w1 ⟨rfl, rfl⟩
    go_wp2
    go_ret
    exact ⟨ret_bool (by unfold plB; rw [HD.out]; rfl), (Ext.refl w).alloc _⟩
/-- slices.Index on antennas -/
theorem indexA_any (A : Option Addr) (n c : Nat) (xs : VL) (p q : Int) (w : World) (hn : xs.length = n) (hz : n ≤ 1048576) (r : Rd w w.heap.size A n c (pairs xs)) :
    Calls Try.prog 75 #[.slice A n c, .agg #[.int .i64 p, .int .i64 q]] w fun e w' => Ext w w' ∧ ∃ k : Int, e = .returned (.int .i64 k) ∧ (0 ≤ k ↔ (p, q) ∈ xs) := by
  have HN := Lib.hid hn
  have X0 : Ext w (w.alloc (.cells #[.int .i64 p, .int .i64 q] 49)) := (Ext.refl w).alloc _
  have HR := Lib.hid (r.ext X0)
  have S0 := St.new w #[.int .i64 p, .int .i64 q] 49
  have b0 := S0.cell0
  have b1 := S0.cell1
  have HX := Lib.hid X0
  clear hn r X0 S0
  go_enter Try.func75, Try.ntmps75
  go_wp2_with fail
  generalize hw1 : w.alloc (.cells #[.int .i64 p, .int .i64 q] 49) = w1 at *
  go_loopw [8] (fun i wr => ∃ k : Nat, k ≤ n ∧ i = .int .i64 k ∧ Hid (∀ j, j < k → xs[j]? ≠ some (p, q)) ∧ Quiet w1 wr) (fun i _ => n - (intOf i).toNat)
  case atStart => exact ⟨0, Nat.zero_le _, rfl, fun j hj => by omega, Quiet.refl _⟩
  case round =>
    obtain ⟨k, hk, rfl, hf, hq⟩ := hrel
    by_cases hlt : k < n
    · obtain ⟨g, off, rfl⟩ := HR.out.addr (by rw [pairs_length, HN.out]; omega)
      obtain ⟨⟨x, y⟩, hy⟩ := at_of_lt (l := xs) (k := k) (by rw [HN.out]; exact hlt)
      have HY := Lib.hid hy
      have hc0 := (hq.cell _).trans (HR.out.fst hy)
      have hc1 := (hq.cell _).trans (HR.out.snd hy)
      have d0 := (hq.cell _).trans b0
      have d1 := (hq.cell _).trans b1
      have h2 : (k : Int) < (n : Int) := by omega
      have h3 : (0 : Int) ≤ (k : Int) := by omega
      clear hy
      by_cases he : p = x
      · by_cases he2 : q = y
        · have e1 : (p == x) = true := by simpa using he
          have e2 : (q == y) = true := by simpa using he2
          go_wp2
          go_quiet (fail)
          go_wp2
          go_ret
          exact ⟨(HX.out.trans hq.ext).drewN _, _, rfl, fun _ => by rw [he, he2]; exact List.mem_of_getElem? HY.out, fun _ => h3⟩
        · have e1 : (p == x) = true := by simpa using he
          have e2 : (q == y) = false := by simpa using he2
          go_wp2
          go_quiet (fail)
          go_wp2
          go_roundw
          case rel => exact ⟨k + 1, by omega, by go_num, fun j hj => by
            by_cases e : j = k
            · subst e; rw [HY.out]; intro h; simp at h; exact he2 h.2.symm
            · exact hf.out j (by omega), hq.drewN _⟩
          case measure => simp [intOf]; omega
      · have e1 : (p == x) = false := by simpa using he
        go_wp2
        go_quiet (fail)
        go_wp2
        go_roundw
        case rel => exact ⟨k + 1, by omega, by go_num, fun j hj => by
          by_cases e : j = k
          · subst e; rw [HY.out]; intro h; simp at h; exact he h.1.symm
          · exact hf.out j (by omega), hq.drewN _⟩
        case measure => simp [intOf]; omega
    · have e : k = n := by omega
      have hd : decide (k < n) = false := by simpa using hlt
      go_wp2
      go_ret
      exact ⟨HX.out.trans hq.ext, _, rfl, fun h => absurd h (by omega), fun h => by
        obtain ⟨j, hj⟩ := List.getElem?_of_mem h
        have := (List.getElem?_eq_some_iff.1 hj).1
        exact absurd hj (hf.out j (by rw [e, ← HN.out]; exact this))⟩
theorem containsA_any (A : Option Addr) (n c : Nat) (xs : VL) (p q : Int) (w : World) (hn : xs.length = n) (hz : n ≤ 1048576) (r : Rd w w.heap.size A n c (pairs xs)) :
    Calls Try.prog 66 #[.slice A n c, .agg #[.int .i64 p, .int .i64 q]] w fun e w' => e = .returned (.bool (decide ((p, q) ∈ xs))) ∧ Ext w w' := by
  have X0 : Ext w (w.alloc (.cells #[.int .i64 p, .int .i64 q] 49)) := (Ext.refl w).alloc _
  have HI := Lib.hid (indexA_any A n c xs p q (w.alloc (.cells #[.int .i64 p, .int .i64 q] 49)) hn hz (r.ext X0))
  clear hn r
  go_enter Try.func66, Try.ntmps66
  go_wp2_with fail
  refine HI.out.mono ?_
  rintro e w' ⟨x1, k, rfl, hk⟩
  have HK := Lib.hid hk
  clear hk
  go_wp2
  go_ret
  exact ⟨ret_bool (by rw [Bool.eq_iff_iff]; simp only [decide_eq_true_eq]; exact HK.out), X0.trans x1⟩
end Go.Proofs.Ytebjdchfofhmhaa
