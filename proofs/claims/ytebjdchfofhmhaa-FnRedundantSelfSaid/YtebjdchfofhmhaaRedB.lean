/-
  Contract of ArrayValid of the program.
-/
import Derived.Test.YtebjdchfofhmhaaRedA
namespace Go.Proofs.Ytebjdchfofhmhaa
open Go.RowKit
set_option linter.unusedSimpArgs false
set_option linter.unusedVariables false
attribute [local go_sem] eqAnt_run

theorem pairs_take (l : VL) (k : Nat) : (pairs l).take (k * 2) = pairs (l.take k) := by
  induction l generalizing k with
  | nil => simp [pairs]
  | cons x l ih =>
    cases k with
    | zero => simp [pairs]
    | succ k =>
      rw [show (k + 1) * 2 = k * 2 + 1 + 1 by omega, pairs_cons, List.take_succ_cons, List.take_succ_cons, ih, List.take_succ_cons, pairs_cons]
theorem Rd.takeP {w : World} {B n c k : Nat} {A : Option Addr} {l : VL} (h : Rd w B A n c (pairs l)) (hn : k ≤ c) : Rd w B A k c (pairs (l.take k)) :=
  ⟨hn, fun hx => by
    rw [← pairs_take] at hx
    obtain ⟨g, off, e, h5, h6⟩ := h.2 (by simp at hx; omega)
    refine ⟨g, off, e, h5, fun j u hu => h6 j u ?_⟩
    rw [← pairs_take, List.getElem?_take] at hu
    split at hu
    · exact hu
    · cases hu⟩
set_option maxRecDepth 100000 in
set_option maxHeartbeats 1000000 in
theorem arrayValid_any (A : Option Addr) (n c : Nat) (l : VL) (w : World) (hn : l.length = n) (hz : n ≤ 1048576) (r : Rd w w.heap.size A n c (pairs l)) :
    Calls Try.prog 41 #[.slice A n c] w fun e w' => e = .returned (.bool (arB l)) ∧ Ext w w' := by
  have HN := Lib.hid hn
  have HR := Lib.hid r
  clear hn r
  by_cases h1 : n < 2
  · have HB : Hid (arB l = false) := by show _ = _; exact arB_len (by rw [HN.out]; omega)
    have d1 : decide ((n : Int) < 2) = true := by simp; omega
    go_enter Try.func41, Try.ntmps41
    go_wp2
    go_ret
    exact ⟨ret_bool HB.out.symm, Ext.refl _⟩
  have d1 : decide ((n : Int) < 2) = false := by simp; omega
  by_cases h2 : 7 < n
  · have HB : Hid (arB l = false) := by show _ = _; exact arB_len (by rw [HN.out]; omega)
    have d2 : decide ((7 : Int) < (n : Int)) = true := by simp; omega
    go_enter Try.func41, Try.ntmps41
    go_wp2
    go_ret
    exact ⟨ret_bool HB.out.symm, Ext.refl _⟩
  have d2 : decide ((7 : Int) < (n : Int)) = false := by simp; omega
  obtain ⟨g, off, rfl⟩ := HR.out.addr (by rw [pairs_length, HN.out]; omega)
  go_enter Try.func41, Try.ntmps41
  go_wp2_with fail
  go_loopw [15] (fun i wr => ∃ k : Nat, k ≤ n ∧ i = .int .i64 k ∧ Hid (arTo l k) ∧ Ext w wr) (fun i _ => n - (intOf i).toNat)
  case atStart => exact ⟨0, Nat.zero_le _, rfl, (fun j hj => by omega : arTo l 0), Ext.refl _⟩
  case round =>
    obtain ⟨k, hk, rfl, hf, hq⟩ := hrel
    by_cases hlt : k < n
    · obtain ⟨⟨x, y⟩, hy⟩ := at_of_lt (l := l) (k := k) (by rw [HN.out]; exact hlt)
      have HV : Hid (vAt l k = (x, y)) := vAt_of hy
      have hc0 := (HR.out.ext hq).fst hy
      have hc1 := (HR.out.ext hq).snd hy
      have h3 : (k : Int) < (n : Int) := by omega
      have h4 : (0 : Int) ≤ (k : Int) := by omega
      have hkc : k ≤ c := by have := HR.out.1; omega
      have S0 := St.new wr #[.int .i64 x, .int .i64 y] 49
      have X1 : Ext wr (wr.alloc (.cells #[.int .i64 x, .int .i64 y] 49)) := (Ext.refl wr).alloc _
      have HX := Lib.hid (hq.trans X1)
      have HS := Lib.hid S0
      have hlk : (l.take k).length = k := by rw [List.length_take, HN.out]; omega
      have HLK := Lib.hid hlk
      clear hy S0 X1 hlk
      go_wp2_with fail
      have HEX : Hid (∀ W', Ext (wr.alloc (.cells #[.int .i64 x, .int .i64 y] 49)) W' → W'.cell? ⟨wr.heap.size, 0, none⟩ = some (.int .i64 x) ∧ W'.cell? ⟨wr.heap.size, 1, none⟩ = some (.int .i64 y)) := fun W' x => ⟨(HS.out.ext x).cell0, (HS.out.ext x).cell1⟩
      have HRW : Hid (∀ W', Ext (wr.alloc (.cells #[.int .i64 x, .int .i64 y] 49)) W' → Rd W' W'.heap.size (some ⟨g, off, none⟩) k c (pairs (l.take k))) := fun W' x => (HR.out.ext (HX.out.trans x)).takeP hkc
      clear hc0 hc1
      generalize wr.alloc (.cells #[.int .i64 x, .int .i64 y] 49) = w1 at *
      rcases hp : plB (x, y) with _ | _
      · have HP := Lib.hid hp
        have HA : Hid (arAt l k = false) := by show _ = _; unfold arAt; rw [HV.out, hp]; rfl
        clear hp
        refine region_c (fun W' => (W'.cell? ⟨wr.heap.size, 0, none⟩ = some (.int .i64 x) ∧ W'.cell? ⟨wr.heap.size, 1, none⟩ = some (.int .i64 y)) ∧ Hid (Ext w1 W')) (by kernel_rfl) (by kernel_rfl) ⟨HEX.out _ (Ext.refl _).drew, (Ext.refl _).drew⟩ ?_
        apply quiet_read
        · rfl
        · intro w' hSw
          (try dsimp only at hSw)
          go_simp
          all_goals exact rfl
        simp only [Act.put, List.setIfInBounds_toArray, List.set_cons_zero, List.set_cons_succ]
        refine quiet_call 53 #[.agg #[.int .i64 x, .int .i64 y]] (.bool false) rfl (fun w' hSw => by go_simp) (fun w' hSw => (isPlace_any x y _).mono fun e w'' h => ⟨by rw [h.1, HP.out], HEX.out _ (Ext.trans hSw.2 h.2), Ext.trans hSw.2 h.2⟩) ?_
        simp only [Act.put, List.setIfInBounds_toArray, List.set_cons_zero, List.set_cons_succ]
        iterate 2
          apply quiet_read
          · rfl
          · intro w' hSw
            (try dsimp only at hSw)
            go_simp
            all_goals exact rfl
          simp only [Act.put, List.setIfInBounds_toArray, List.set_cons_zero, List.set_cons_succ]
        iterate 5
          apply quiet_off
          · rfl
          simp only [Act.put, List.setIfInBounds_toArray, List.set_cons_zero, List.set_cons_succ]
        apply quiet_read
        · rfl
        · intro w' hSw
          (try dsimp only at hSw)
          go_simp
          all_goals exact rfl
        simp only [Act.put, List.setIfInBounds_toArray, List.set_cons_zero, List.set_cons_succ]
        refine quiet_done ?_
        rintro wq ⟨_, EX⟩
        clear HEX HRW HS
        go_wp2
        go_ret
        exact ⟨ret_bool (arB_no (by rw [HN.out]; exact hlt) HA.out).symm, HX.out.trans EX.out⟩
      · have HP := Lib.hid hp
        clear hp
        rcases hc : decide ((x, y) ∈ l.take k) with _ | _
        · have HC := Lib.hid hc
          have HA : Hid (arAt l k = true) := by show _ = _; unfold arAt; rw [HV.out, HP.out, hc]; rfl
          clear hc
          refine region_c (fun W' => (W'.cell? ⟨wr.heap.size, 0, none⟩ = some (.int .i64 x) ∧ W'.cell? ⟨wr.heap.size, 1, none⟩ = some (.int .i64 y)) ∧ Hid (Ext w1 W')) (by kernel_rfl) (by kernel_rfl) ⟨HEX.out _ (Ext.refl _).drew, (Ext.refl _).drew⟩ ?_
          apply quiet_read
          · rfl
          · intro w' hSw
            (try dsimp only at hSw)
            go_simp
            all_goals exact rfl
          simp only [Act.put, List.setIfInBounds_toArray, List.set_cons_zero, List.set_cons_succ]
          refine quiet_call 53 #[.agg #[.int .i64 x, .int .i64 y]] (.bool true) rfl (fun w' hSw => by go_simp) (fun w' hSw => (isPlace_any x y _).mono fun e w'' h => ⟨by rw [h.1, HP.out], HEX.out _ (Ext.trans hSw.2 h.2), Ext.trans hSw.2 h.2⟩) ?_
          simp only [Act.put, List.setIfInBounds_toArray, List.set_cons_zero, List.set_cons_succ]
          iterate 6
            apply quiet_read
            · rfl
            · intro w' hSw
              (try dsimp only at hSw)
              go_simp
              all_goals exact rfl
            simp only [Act.put, List.setIfInBounds_toArray, List.set_cons_zero, List.set_cons_succ]
          refine quiet_call 66 #[.slice (some ⟨g, off, none⟩) k c, .agg #[.int .i64 x, .int .i64 y]] (.bool (decide ((x, y) ∈ l.take k))) rfl (fun w' hSw => by go_simp) (fun w' hSw => (containsA_any _ k c (l.take k) x y _ HLK.out (by omega) (HRW.out _ hSw.2)).mono fun e w'' h => ⟨h.1, HEX.out _ (Ext.trans hSw.2 h.2), Ext.trans hSw.2 h.2⟩) ?_
          rw [HC.out]
          simp only [Act.put, List.setIfInBounds_toArray, List.set_cons_zero, List.set_cons_succ]
          apply quiet_read
          · rfl
          · intro w' hSw
            (try dsimp only at hSw)
            go_simp
            all_goals exact rfl
          simp only [Act.put, List.setIfInBounds_toArray, List.set_cons_zero, List.set_cons_succ]
          refine quiet_done ?_
          rintro wq ⟨_, EX⟩
          clear HEX HRW HS
          go_wp2
          go_roundw
          case rel => exact ⟨k + 1, by omega, by go_num, arTo_succ hf.out HA.out, HX.out.trans EX.out⟩
          case measure => simp [intOf]; omega
        · have HC := Lib.hid hc
          have HA : Hid (arAt l k = false) := by show _ = _; unfold arAt; rw [HV.out, HP.out, hc]; rfl
          clear hc
          refine region_c (fun W' => (W'.cell? ⟨wr.heap.size, 0, none⟩ = some (.int .i64 x) ∧ W'.cell? ⟨wr.heap.size, 1, none⟩ = some (.int .i64 y)) ∧ Hid (Ext w1 W')) (by kernel_rfl) (by kernel_rfl) ⟨HEX.out _ (Ext.refl _).drew, (Ext.refl _).drew⟩ ?_
          apply quiet_read
          · rfl
          · intro w' hSw
            (try dsimp only at hSw)
            go_simp
            all_goals exact rfl
          simp only [Act.put, List.setIfInBounds_toArray, List.set_cons_zero, List.set_cons_succ]
          refine quiet_call 53 #[.agg #[.int .i64 x, .int .i64 y]] (.bool true) rfl (fun w' hSw => by go_simp) (fun w' hSw => (isPlace_any x y _).mono fun e w'' h => ⟨by rw [h.1, HP.out], HEX.out _ (Ext.trans hSw.2 h.2), Ext.trans hSw.2 h.2⟩) ?_
          simp only [Act.put, List.setIfInBounds_toArray, List.set_cons_zero, List.set_cons_succ]
          iterate 6
            apply quiet_read
            · rfl
            · intro w' hSw
              (try dsimp only at hSw)
              go_simp
              all_goals exact rfl
            simp only [Act.put, List.setIfInBounds_toArray, List.set_cons_zero, List.set_cons_succ]
          refine quiet_call 66 #[.slice (some ⟨g, off, none⟩) k c, .agg #[.int .i64 x, .int .i64 y]] (.bool (decide ((x, y) ∈ l.take k))) rfl (fun w' hSw => by go_simp) (fun w' hSw => (containsA_any _ k c (l.take k) x y _ HLK.out (by omega) (HRW.out _ hSw.2)).mono fun e w'' h => ⟨h.1, HEX.out _ (Ext.trans hSw.2 h.2), Ext.trans hSw.2 h.2⟩) ?_
          rw [HC.out]
          simp only [Act.put, List.setIfInBounds_toArray, List.set_cons_zero, List.set_cons_succ]
          apply quiet_read
          · rfl
          · intro w' hSw
            (try dsimp only at hSw)
            go_simp
            all_goals exact rfl
          simp only [Act.put, List.setIfInBounds_toArray, List.set_cons_zero, List.set_cons_succ]
          refine quiet_done ?_
          rintro wq ⟨_, EX⟩
          clear HEX HRW HS
          go_wp2
          go_ret
          exact ⟨ret_bool (arB_no (by rw [HN.out]; exact hlt) HA.out).symm, HX.out.trans EX.out⟩
    · have e : k = n := by omega
      have hd : decide (k < n) = false := by simpa using hlt
      have HB : Hid (arB l = true) := by
        show _ = _
        rw [e] at hf
        exact arB_yes (by rw [HN.out]; omega) (by rw [HN.out]; omega) (by rw [HN.out]; exact hf.out)
      go_wp2
      go_ret
      exact ⟨ret_bool HB.out.symm, hq⟩
end Go.Proofs.Ytebjdchfofhmhaa
