/-
  Contract of sameVis of the laws.
-/
import Derived.Test.YtebjdchfofhmhaaPairs
import Derived.Test.YtebjdchfofhmhaaSolPlain
import Derived.Test.YtebjdchfofhmhaaInts
import Derived.Deep.QuietTactic
import Derived.BigQuiet
import Derived.Laws.StructEq
namespace Go.Proofs.Ytebjdchfofhmhaa
open Go.RowKit
set_option linter.unusedVariables false
set_option linter.unusedSimpArgs false
def eqToV (xs ys : VL) (k : Nat) : Prop := ∀ j : Nat, j < k → xs[j]? = ys[j]?
theorem eqToV_succ {xs ys : VL} {k : Nat} (h : eqToV xs ys k) (e : xs[k]? = ys[k]?) : eqToV xs ys (k + 1) := fun j hj => by
  by_cases hjk : j = k
  · subst hjk; exact e
  · exact h j (by omega)
theorem eqToV_all {xs ys : VL} {n : Nat} (hx : xs.length = n) (hy : ys.length = n) (h : eqToV xs ys n) : xs = ys := by
  apply List.ext_getElem?
  intro j
  by_cases hj : j < n
  · exact h j hj
  · rw [List.getElem?_eq_none (by omega), List.getElem?_eq_none (by omega)]
theorem eqVis_run (d : Nat) (a b c e : Int) (w : World) : (Op.equalIn (d + 2) 44 (.agg #[.int .i64 a, .int .i64 b]) (.agg #[.int .i64 c, .int .i64 e])).run Try.prog w = .ok (a == c && b == e) w := by
  rw [run_equalIn_struct _ _ _ _ _ (by kernel_rfl) (by kernel_rfl)]
  rw [show (Try.prog.fieldsOf 44).toList = _ from rfl]
  by_cases h : a = c
  · subst h
    by_cases h2 : b = e
    · subst h2; simp [Op.eqFields, go_sem, Try.underlying3]
    · have h' : (b == e) = false := by simpa using h2
      simp [Op.eqFields, go_sem, Try.underlying3, h', h2]
  · have h' : (a == c) = false := by simpa using h
    simp [Op.eqFields, go_sem, Try.underlying3, h']
attribute [local go_sem] eqVis_run
set_option maxHeartbeats 1000000 in
theorem sameVis_any (A B : Option Addr) (n m c d : Nat) (xs ys : List (Int × Int)) (w : World) (hn : xs.length = n) (hm : ys.length = m) (hz : n ≤ 1048576) (h : Rd w w.heap.size A n c (pairs xs)) (h' : Rd w w.heap.size B m d (pairs ys)) :
    Calls Try.prog 23 #[.slice A n c, .slice B m d] w fun e w' => e = .returned (.bool (decide (xs = ys))) ∧ Quiet w w' := by
  have HN := Lib.hid hn
  have HM := Lib.hid hm
  clear hn hm
  by_cases hnm : n = m
  · subst hnm
    go_enter Try.func23, Try.ntmps23
    go_wp2
    go_loopw [5] (fun i wr => ∃ k : Nat, k ≤ n ∧ i = .int .i64 k ∧ Hid (eqToV xs ys k) ∧ Quiet w wr) (fun i _ => n - (intOf i).toNat)
    case atStart => exact ⟨0, Nat.zero_le _, rfl, fun _ h => by omega, Quiet.refl _⟩
    case round =>
      obtain ⟨k, hk, rfl, hto, hq⟩ := hrel
      by_cases hlt : k < n
      · obtain ⟨⟨p, q⟩, hb⟩ := at_of_lt (l := xs) (k := k) (by have := HN.out; omega)
        obtain ⟨⟨r, s⟩, hb'⟩ := at_of_lt (l := ys) (k := k) (by have := HM.out; omega)
        obtain ⟨g, off, rfl⟩ := h.addr (by rw [pairs_length, HN.out]; omega)
        obtain ⟨g', off', rfl⟩ := h'.addr (by rw [pairs_length, HM.out]; omega)
        have hc0 := (hq.cell _).trans (h.fst hb)
        have hc1 := (hq.cell _).trans (h.snd hb)
        have hd0 := (hq.cell _).trans (h'.fst hb')
        have hd1 := (hq.cell _).trans (h'.snd hb')
        have HB := Lib.hid hb
        have HB' := Lib.hid hb'
        have h2 : (k : Int) < (n : Int) := by omega
        have h3 : (0 : Int) ≤ (k : Int) := by omega
        clear hb hb'
        by_cases e1 : p = r
        · subst e1
          by_cases e2 : q = s
          · subst e2
            go_wp2
            go_quiet (fail)
            go_wp2
            go_roundw
            case rel => exact ⟨k + 1, by omega, by go_num, eqToV_succ hto (by rw [HB.out, HB'.out]), hq.drewN _⟩
            case measure => simp [intOf]; omega
          · go_wp2
            go_quiet (fail)
            go_wp2
            go_ret
            exact ⟨ret_bool (by symm; simp; rintro rfl; have := HB.out; rw [HB'.out] at this; simp at this; exact e2 this.symm), hq.drewN _⟩
        · go_wp2
          go_quiet (fail)
          go_wp2
          go_ret
          exact ⟨ret_bool (by symm; simp; rintro rfl; have := HB.out; rw [HB'.out] at this; simp at this; exact e1 this.1.symm), hq.drewN _⟩
      · go_wp2
        go_ret
        obtain rfl : k = n := by omega
        exact ⟨ret_bool (by symm; simp; exact eqToV_all HN.out HM.out hto), hq⟩
  · have hnm' : ((n : Int) == (m : Int)) = false := by simp; omega
    go_enter Try.func23, Try.ntmps23
    go_wp2
    go_ret
    exact ⟨ret_bool (by symm; simp; rintro rfl; exact hnm (by rw [← HN.out, ← HM.out])), Quiet.refl _⟩
end Go.Proofs.Ytebjdchfofhmhaa
