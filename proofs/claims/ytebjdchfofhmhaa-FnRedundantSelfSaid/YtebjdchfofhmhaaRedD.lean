/-
  Contracts of vector and of an antenna's opposite (program), of l17Sign (reference).
-/
import Derived.Test.YtebjdchfofhmhaaRedC
import Derived.Test.YtebjdchfofhmhaaQtail
namespace Go.Proofs.Ytebjdchfofhmhaa
open Go.RowKit
set_option linter.unusedSimpArgs false
set_option linter.unusedVariables false
attribute [local go_sem] eqAnt_run

def pv (a : Int × Int) : Value := .agg #[.int .i64 a.1, .int .i64 a.2]
theorem antOpp_any (a b : Int) (w : World) (h1 : -100000 ≤ a) (h2 : a ≤ 100000) (h3 : -100000 ≤ b) (h4 : b ≤ 100000) :
    Calls Try.prog 49 #[.agg #[.int .i64 a, .int .i64 b]] w fun e w' => e = .returned (.agg #[.int .i64 (-a), .int .i64 (-b)]) ∧ Ext w w' := by
  have f1 : IntKind.i64.wrap (-a) = -a := IntWalk.i64_in _ (by omega)
  have f2 : IntKind.i64.wrap (-b) = -b := IntWalk.i64_in _ (by omega)
  go_enter Try.func49, Try.ntmps49
  go_wp2
  exact bodyPost_ret (v := .agg #[.int .i64 (-a), .int .i64 (-b)]) (by simp [results, Try.results49, go_sem]) rfl ⟨rfl, ((Ext.refl w).alloc _).alloc _⟩
theorem l17Sign_any (a b : Int × Int) (w : World) (h1 : -100000 ≤ a.1 ∧ a.1 ≤ 100000 ∧ -100000 ≤ a.2 ∧ a.2 ≤ 100000) (h2 : -100000 ≤ b.1 ∧ b.1 ≤ 100000 ∧ -100000 ≤ b.2 ∧ b.2 ≤ 100000) :
    Calls Try.prog 38 #[pv a, pv b] w fun e w' => e = .returned (.int .i64 (sg a b)) ∧ Ext w w' := by
  obtain ⟨p, q⟩ := a
  obtain ⟨x, y⟩ := b
  simp only at h1 h2
  have f1 : IntKind.i64.wrap (0 - x) = -x := by rw [IntWalk.i64_in _ (by omega)]; omega
  have f2 : IntKind.i64.wrap (0 - y) = -y := by rw [IntWalk.i64_in _ (by omega)]; omega
  have HX : Hid (Ext w ((w.alloc (.cells #[.int .i64 p, .int .i64 q] 49)).alloc (.cells #[.int .i64 x, .int .i64 y] 49))) := ((Ext.refl w).alloc _).alloc _
  unfold pv
  by_cases e : p = x
  · by_cases e2 : q = y
    · have HS : Hid (sg (p, q) (x, y) = 1) := by show _ = _; rw [e, e2]; exact sg_self _
      have d1 : (p == x) = true := by simpa using e
      have d2 : (q == y) = true := by simpa using e2
      clear e e2 f1 f2
      go_enter Try.func38, Try.ntmps38
      go_wp2
      go_ret
      exact ⟨ret_int HS.out.symm, HX.out⟩
    · have d1 : (p == x) = true := by simpa using e
      have d2 : (q == y) = false := by simpa using e2
      have hne : (p, q) ≠ (x, y) := fun h => e2 (Prod.mk.inj h).2
      by_cases g1 : p = -x
      · by_cases g2 : q = -y
        · have HS : Hid (sg (p, q) (x, y) = -1) := by show _ = _; unfold sg; rw [if_neg hne, if_pos (by unfold ngv; rw [g1, g2])]
          have c1 : (p == -x) = true := by simpa using g1
          have c2 : (q == -y) = true := by simpa using g2
          clear e e2 g1 g2 hne
          go_enter Try.func38, Try.ntmps38
          go_wp2
          go_ret
          exact ⟨ret_int HS.out.symm, HX.out⟩
        · have HS : Hid (sg (p, q) (x, y) = 0) := by show _ = _; unfold sg; rw [if_neg hne, if_neg (by unfold ngv; intro h; exact g2 (Prod.mk.inj h).2)]
          have c1 : (p == -x) = true := by simpa using g1
          have c2 : (q == -y) = false := by simpa using g2
          clear e e2 g1 g2 hne
          go_enter Try.func38, Try.ntmps38
          go_wp2
          go_ret
          exact ⟨ret_int HS.out.symm, HX.out⟩
      · have HS : Hid (sg (p, q) (x, y) = 0) := by show _ = _; unfold sg; rw [if_neg hne, if_neg (by unfold ngv; intro h; exact g1 (Prod.mk.inj h).1)]
        have c1 : (p == -x) = false := by simpa using g1
        clear e e2 g1 hne
        go_enter Try.func38, Try.ntmps38
        go_wp2
        go_ret
        exact ⟨ret_int HS.out.symm, HX.out⟩
  · have d1 : (p == x) = false := by simpa using e
    have hne : (p, q) ≠ (x, y) := fun h => e (Prod.mk.inj h).1
    by_cases g1 : p = -x
    · by_cases g2 : q = -y
      · have HS : Hid (sg (p, q) (x, y) = -1) := by show _ = _; unfold sg; rw [if_neg hne, if_pos (by unfold ngv; rw [g1, g2])]
        have c1 : (p == -x) = true := by simpa using g1
        have c2 : (q == -y) = true := by simpa using g2
        clear e g1 g2 hne
        go_enter Try.func38, Try.ntmps38
        go_wp2
        go_ret
        exact ⟨ret_int HS.out.symm, HX.out⟩
      · have HS : Hid (sg (p, q) (x, y) = 0) := by show _ = _; unfold sg; rw [if_neg hne, if_neg (by unfold ngv; intro h; exact g2 (Prod.mk.inj h).2)]
        have c1 : (p == -x) = true := by simpa using g1
        have c2 : (q == -y) = false := by simpa using g2
        clear e g1 g2 hne
        go_enter Try.func38, Try.ntmps38
        go_wp2
        go_ret
        exact ⟨ret_int HS.out.symm, HX.out⟩
    · have HS : Hid (sg (p, q) (x, y) = 0) := by show _ = _; unfold sg; rw [if_neg hne, if_neg (by unfold ngv; intro h; exact g1 (Prod.mk.inj h).1)]
      have c1 : (p == -x) = false := by simpa using g1
      clear e g1 hne
      go_enter Try.func38, Try.ntmps38
      go_wp2
      go_ret
      exact ⟨ret_int HS.out.symm, HX.out⟩
set_option maxRecDepth 100000 in
set_option maxHeartbeats 1000000 in
theorem vector_any (A : Option Addr) (n c : Nat) (l : VL) (w : World) (i j : Nat) (hn : l.length = n) (hz : n ≤ 1048576) (r : Rd w w.heap.size A n c (pairs l)) (hi : i < n) (hj : j < n)
    (b1 : -1000 ≤ vAm l i ∧ vAm l i ≤ 1000 ∧ -1000 ≤ vPh l i ∧ vPh l i ≤ 1000) (b2 : -1000 ≤ vAm l j ∧ vAm l j ≤ 1000 ∧ -1000 ≤ vPh l j ∧ vPh l j ≤ 1000) :
    Calls Try.prog 48 #[.slice A n c, .int .i64 (i : Int), .int .i64 (j : Int)] w fun e w' => e = .returned (pv (vec l i j)) ∧ Ext w w' := by
  have f1 : IntKind.i64.wrap (vAm l j - vAm l i) = vAm l j - vAm l i := IntWalk.i64_in _ (by omega)
  have f2 : IntKind.i64.wrap (vPh l j - vPh l i) = vPh l j - vPh l i := IntWalk.i64_in _ (by omega)
  obtain ⟨g, off, rfl⟩ := r.addr (by rw [pairs_length, hn]; omega)
  have q1 : (i : Int) < (n : Int) := by omega
  have q2 : (j : Int) < (n : Int) := by omega
  have q3 : (0 : Int) ≤ (i : Int) := by omega
  have q4 : (0 : Int) ≤ (j : Int) := by omega
  have x0 : Ext w (w.alloc (.cells #[.int .i64 0, .int .i64 0] 49)) := (Ext.refl w).alloc _
  have S0 := St.new w #[.int .i64 0, .int .i64 0] 49
  have HEX : Hid (∀ W', Ext (w.alloc (.cells #[.int .i64 0, .int .i64 0] 49)) W' → W'.cell? ⟨g, off + i * 2, none⟩ = some (.int .i64 (vAm l i)) ∧ W'.cell? ⟨g, off + i * 2 + 1, none⟩ = some (.int .i64 (vPh l i)) ∧ W'.cell? ⟨g, off + j * 2, none⟩ = some (.int .i64 (vAm l j)) ∧ W'.cell? ⟨g, off + j * 2 + 1, none⟩ = some (.int .i64 (vPh l j))) := fun W' x =>
    ⟨(r.ext (x0.trans x)).fst (some_v (l := l) (by omega)), (r.ext (x0.trans x)).snd (some_v (l := l) (by omega)), (r.ext (x0.trans x)).fst (some_v (l := l) (by omega)), (r.ext (x0.trans x)).snd (some_v (l := l) (by omega))⟩
  have HX := Lib.hid x0
  have HS := Lib.hid S0
  clear x0 S0 r b1 b2
  go_enter Try.func48, Try.ntmps48
  go_wp2_with fail
  generalize hw1 : w.alloc (.cells #[.int .i64 0, .int .i64 0] 49) = w1 at *
  refine region_ct 23 (fun W' => (W'.cell? ⟨g, off + i * 2, none⟩ = some (.int .i64 (vAm l i)) ∧ W'.cell? ⟨g, off + i * 2 + 1, none⟩ = some (.int .i64 (vPh l i)) ∧ W'.cell? ⟨g, off + j * 2, none⟩ = some (.int .i64 (vAm l j)) ∧ W'.cell? ⟨g, off + j * 2 + 1, none⟩ = some (.int .i64 (vPh l j))) ∧ Hid (Ext w1 W')) (by kernel_rfl) (by kernel_rfl) ⟨HEX.out _ (Ext.refl _).drew, (Ext.refl _).drew⟩ ?_
  simp only [List.take_succ_cons, List.take_zero, List.drop_succ_cons, List.drop_zero]
  iterate 23
    apply quiet_read
    · rfl
    · intro w' hSw
      (try dsimp only at hSw)
      go_simp
      all_goals exact rfl
    simp only [Act.put, List.setIfInBounds_toArray, List.set_cons_zero, List.set_cons_succ]
  refine quiet_done ?_
  rintro wq ⟨_, EX⟩
  have S1 := HS.out.ext EX.out
  have X1 := HX.out.trans EX.out
  have k2 := S1.cell0
  have k3 := S1.cell1
  have k4 := S1.frozen 0
  have k5 := S1.frozen 1
  have R := S1.put2 (.int .i64 (vAm l j - vAm l i)) (.int .i64 (vPh l j - vPh l i))
  have r0 := R.cell0
  have r1 := R.cell1
  have HX2 := Lib.hid X1
  clear S1 X1 R HEX HX HS f1 f2 hw1
  go_wp2
  exact bodyPost_ret (v := .agg #[.int .i64 (vAm l j - vAm l i), .int .i64 (vPh l j - vPh l i)]) (by simp [results, Try.results48, go_sem, r0, r1]) rfl ⟨rfl, HX2.out.put2 (Nat.le_refl _) _ _⟩
end Go.Proofs.Ytebjdchfofhmhaa
