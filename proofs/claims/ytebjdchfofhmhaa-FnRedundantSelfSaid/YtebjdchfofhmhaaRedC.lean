/-
  Contract of ArrayValid of the reference.
-/
import Derived.Test.YtebjdchfofhmhaaRedB
namespace Go.Proofs.Ytebjdchfofhmhaa
open Go.RowKit
set_option linter.unusedSimpArgs false
set_option linter.unusedVariables false
attribute [local go_sem] eqAnt_run

def noTo (l : VL) (i k : Nat) : Prop := ∀ j, j < k → vAt l j ≠ vAt l i
theorem noTo_succ {l : VL} {i k : Nat} (h : noTo l i k) (e : vAt l k ≠ vAt l i) : noTo l i (k + 1) := fun j hj => by
  by_cases hjk : j = k
  · subst hjk; exact e
  · exact h j (by omega)
theorem ar_yes {l : VL} {i : Nat} (hi : i < l.length) (h : plB (vAt l i) = true) (k : noTo l i i) : arAt l i = true := by
  unfold arAt
  rw [h]
  simp only [Bool.true_and, Bool.not_eq_true', decide_eq_false_iff_not]
  intro hm
  obtain ⟨j, hj⟩ := List.getElem?_of_mem hm
  rw [List.getElem?_take] at hj
  split at hj
  · next hlt => exact k j hlt (vAt_of hj)
  · cases hj
theorem ar_no {l : VL} {i k : Nat} (hi : i < l.length) (hk : k < i) (e : vAt l k = vAt l i) : arAt l i = false := by
  unfold arAt
  have : vAt l i ∈ l.take i := by
    rw [← e]
    refine List.mem_of_getElem? (i := k) ?_
    rw [List.getElem?_take, if_pos hk]
    exact at_vAt (by omega)
  simp [this]
theorem ar_off {l : VL} {i : Nat} (h : plB (vAt l i) = false) : arAt l i = false := by unfold arAt; rw [h]; rfl
set_option maxRecDepth 100000 in
set_option maxHeartbeats 1000000 in
theorem specArrayValid_any (A : Option Addr) (n c : Nat) (l : VL) (w : World) (hn : l.length = n) (hz : n ≤ 1048576) (r : Rd w w.heap.size A n c (pairs l)) :
    Calls Try.prog 35 #[.slice A n c] w fun e w' => e = .returned (.bool (arB l)) ∧ Ext w w' := by
  have HN := Lib.hid hn
  have HR := Lib.hid r
  clear hn r
  go_enter Try.func35, Try.ntmps35
  go_wp2_with fail
  go_loopw [3] (fun i wr => ∃ k : Nat, k ≤ n ∧ i = .int .i64 k ∧ Hid (arTo l k) ∧ Ext w wr) (fun i _ => n - (intOf i).toNat)
  case atStart => exact ⟨0, Nat.zero_le _, rfl, (fun j hj => by omega : arTo l 0), Ext.refl _⟩
  case round =>
    obtain ⟨k, hk, rfl, hf, hq⟩ := hrel
    by_cases hlt : k < n
    · obtain ⟨g, off, rfl⟩ := HR.out.addr (by rw [pairs_length, HN.out]; omega)
      obtain ⟨⟨x, y⟩, hy⟩ := at_of_lt (l := l) (k := k) (by rw [HN.out]; exact hlt)
      have HV : Hid (vAt l k = (x, y)) := vAt_of hy
      have HY := Lib.hid hy
      have hc0 := (HR.out.ext hq).fst hy
      have hc1 := (HR.out.ext hq).snd hy
      have h3 : (k : Int) < (n : Int) := by omega
      have h4 : (0 : Int) ≤ (k : Int) := by omega
      clear hy
      rcases hp : plB (x, y) with _ | _
      · have HP := Lib.hid hp
        have HA : Hid (arAt l k = false) := by show _ = _; exact ar_off (by rw [HV.out, hp])
        clear hp
        go_wp2_with fail
        refine (l3Place_any x y _).mono ?_
        rintro e w1 ⟨rfl, x1⟩
        rw [HP.out]
        go_wp2
        go_ret
        exact ⟨ret_bool (arB_no (by rw [HN.out]; exact hlt) HA.out).symm, hq.trans x1⟩
      · have HP := Lib.hid hp
        have HPV : Hid (plB (vAt l k) = true) := by show _ = _; rw [HV.out, hp]
        clear hp
        go_wp2_with fail
        refine (l3Place_any x y _).mono ?_
        rintro e w1 ⟨rfl, x1⟩
        rw [HP.out]
        have hq1 := hq.trans x1
        clear hc0 hc1
        go_wp2_with fail
        go_loopw [4] (fun i wr => ∃ m : Nat, m ≤ k ∧ i = .int .i64 m ∧ Hid (noTo l k m) ∧ Ext w wr) (fun i _ => k - (intOf i).toNat)
        case atStart => exact ⟨0, Nat.zero_le _, rfl, (fun j hj => by omega : noTo l k 0), hq1⟩
        case round =>
          obtain ⟨m, hm, rfl, hno, hq2⟩ := hrel
          by_cases hlt2 : m < k
          · obtain ⟨⟨u, v⟩, hu⟩ := at_of_lt (l := l) (k := m) (by rw [HN.out]; omega)
            have HU : Hid (vAt l m = (u, v)) := vAt_of hu
            have hc0 := (HR.out.ext hq2).fst HY.out
            have hc1 := (HR.out.ext hq2).snd HY.out
            have hd0 := (HR.out.ext hq2).fst hu
            have hd1 := (HR.out.ext hq2).snd hu
            have h5 : (m : Int) < (k : Int) := by omega
            have h6 : (0 : Int) ≤ (m : Int) := by omega
            have h7 : (m : Int) < (n : Int) := by omega
            clear hu
            by_cases he : u = x ∧ v = y
            · obtain ⟨rfl, rfl⟩ := he
              have HA : Hid (arAt l k = false) := by show _ = _; exact ar_no (by rw [HN.out]; exact hlt) hlt2 (by rw [HU.out, HV.out])
              go_wp2
              go_quiet (fail)
              go_wp2
              go_ret
              exact ⟨ret_bool (arB_no (by rw [HN.out]; exact hlt) HA.out).symm, hq2.drewN _⟩
            · have HT : Hid (noTo l k (m + 1)) := by
                show noTo _ _ _
                exact noTo_succ hno.out (by rw [HU.out, HV.out]; intro e; simp at e; exact he e)
              by_cases e1 : u = x
              · have e2 : (v == y) = false := by simpa using fun e => he ⟨e1, e⟩
                subst e1
                clear he
                go_wp2
                go_quiet (fail)
                go_wp2
                go_roundw
                case rel => exact ⟨m + 1, by omega, by go_num, HT.out, hq2.drewN _⟩
                case measure => simp [intOf]; omega
              · have e2 : (u == x) = false := by simpa using e1
                clear he e1
                go_wp2
                go_quiet (fail)
                go_wp2
                go_roundw
                case rel => exact ⟨m + 1, by omega, by go_num, HT.out, hq2.drewN _⟩
                case measure => simp [intOf]; omega
          · have e : m = k := by omega
            have HT : Hid (arTo l (k + 1)) := by
              show arTo _ _
              rw [e] at hno
              exact arTo_succ hf.out (ar_yes (by rw [HN.out]; exact hlt) HPV.out hno.out)
            clear hno
            have hd : decide (m < k) = false := by simpa using hlt2
            go_wp2
            go_roundw
            case rel => exact ⟨k + 1, by omega, by go_num, HT.out, hq2⟩
            case measure => simp [intOf]; omega
    · have e : k = n := by omega
      have HB : Hid (arB l = (decide ((2 : Int) ≤ (n : Int)) && decide ((n : Int) ≤ 7))) := by
        show _ = _
        rw [e] at hf
        rw [arB_all (by rw [HN.out]; exact hf.out), HN.out]
        congr 1
        · apply decide_eq_decide.2; omega
        · apply decide_eq_decide.2; omega
      have hd : decide (k < n) = false := by simpa using hlt
      clear hf
      go_wp2_with fail
      refine (in_any _ _ _ _).mono ?_
      rintro e w1 ⟨rfl, rfl⟩
      go_wp2
      go_ret
      exact ⟨ret_bool HB.out.symm, hq⟩
end Go.Proofs.Ytebjdchfofhmhaa
