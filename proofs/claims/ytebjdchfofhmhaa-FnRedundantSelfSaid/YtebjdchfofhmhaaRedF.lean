/-
  Contracts of baseVector (program), of BasePair, BaseVector, l17Vector (reference).
-/
import Derived.Test.YtebjdchfofhmhaaRedE
namespace Go.Proofs.Ytebjdchfofhmhaa
open Go.RowKit
set_option linter.unusedSimpArgs false
set_option linter.unusedVariables false

set_option maxRecDepth 100000 in
set_option maxHeartbeats 400000 in
theorem baseVector_any (A : Option Addr) (n c : Nat) (l : VL) (w : World) (k : Nat) (hn : l.length = n) (hA : Arr l) (r : Rd w w.heap.size A n c (pairs l)) (hk : k < nb n) :
    Calls Try.prog 42 #[.slice A n c, .int .i64 (k : Int)] w fun e w' => e = .returned (pv (bvec l k)) ∧ Ext w w' := by
  have hn2 := hA.two
  have hn7 := hA.seven
  rw [hn] at hn2 hn7
  obtain ⟨p1, p2, _⟩ := pr_in (n := n) (by omega) hk
  have HP := Lib.hid (fun W => basePair_any n k W hn2 (by omega) hk)
  have HV : Hid (∀ W, Ext w W → Calls Try.prog 48 #[.slice A n c, .int .i64 ((pr n k).1 : Int), .int .i64 ((pr n k).2 : Int)] W fun e w' => e = .returned (pv (bvec l k)) ∧ Ext W w') := fun W x => by
    have := vector_any A n c l W (pr n k).1 (pr n k).2 hn (by omega) (r.ext x) (by omega) (by omega) (hA.in_ (by omega)) (hA.in_ (by omega))
    unfold bvec
    rw [hn]
    exact this
  have S0 := St.new w #[.int .i64 0, .int .i64 0] 49
  have X0 : Ext w (w.alloc (.cells #[.int .i64 0, .int .i64 0] 49)) := (Ext.refl w).alloc _
  clear r hk p1 p2 hn hn2 hn7
  obtain ⟨⟨a, b⟩, hab⟩ : ∃ v, bvec l k = v := ⟨_, rfl⟩
  rw [hab] at HV ⊢
  unfold pv at HV ⊢
  generalize (pr n k).1 = i at *
  generalize (pr n k).2 = j at *
  clear hab
  go_enter Try.func42, Try.ntmps42
  go_wp2_with fail
  refine (HP.out _).mono ?_
  rintro e w1 ⟨rfl, x1⟩
  go_wp2_with fail
  refine (HV.out _ (X0.trans x1)).mono ?_
  rintro e w2 ⟨rfl, x2⟩
  have S2 := (S0.ext x1).ext x2
  have X2 := (X0.trans x1).trans x2
  have k2 := S2.cell0
  have k3 := S2.cell1
  have k4 := S2.frozen 0
  have k5 := S2.frozen 1
  have R := S2.put2 (.int .i64 a) (.int .i64 b)
  have r0 := R.cell0
  have r1 := R.cell1
  have HX2 := Lib.hid X2
  clear S2 X2 R S0 X0 x1 x2 HP HV
  go_wp2
  exact bodyPost_ret (v := .agg #[.int .i64 a, .int .i64 b]) (by simp [results, Try.results42, go_sem, r0, r1]) rfl ⟨rfl, HX2.out.put2 (Nat.le_refl _) _ _⟩
set_option maxRecDepth 100000 in
set_option maxHeartbeats 400000 in
theorem specBasePair_any (N k : Nat) (w : World) (h1 : 2 ≤ N) (h2 : N < 8) (hk : k < nb N) :
    Calls Try.prog 63 #[.int .i64 (N : Int), .int .i64 (k : Int)] w fun e w' => e = .returned (.tuple #[.int .i64 ((pr N k).1 : Int), .int .i64 ((pr N k).2 : Int), .bool true]) ∧ Ext w w' := by
  have HK := Lib.hid hk
  have hnb := nb_pos N h2 h1
  have HBM : Hid (∀ W, Calls Try.prog 61 #[.int .i64 (N : Int)] W fun e w' => e = .returned (.int .i64 ((nb N : Nat) : Int)) ∧ W = w') := fun W => by
    have := specBaseMany_any (N : Int) W
    rwa [nbI_nat h1 (by omega)] at this
  have HBI : Hid (∀ W (i j : Nat), i < j → j < N → Calls Try.prog 74 #[.int .i64 (N : Int), .int .i64 (i : Int), .int .i64 (j : Int)] W fun e w' => e = .returned (.int .i64 ((bIx N i j : Nat) : Int)) ∧ W = w') := fun W i j hij hj => by
    have := specBaseIndex_any N i j W h2 (by omega) hj (by omega)
    rwa [show bAt N i j = bIx N i j from if_neg (by omega)] at this
  have hnb0 : 0 < nb N := by omega
  have hnbd : decide (0 < nb N) = true := by simpa using hnb0
  obtain ⟨M, hM⟩ : ∃ M, nb N = M := ⟨_, rfl⟩
  have HM := Lib.hid hM
  rw [hM] at HBM hnb0 hnbd
  clear hk hnb hM
  go_enter Try.func63, Try.ntmps63
  go_wp2_with fail
  go_loopw [7] (fun i wr => ∃ m : Nat, m ≤ N ∧ i = .int .i64 m ∧ Hid (row N m ≤ k) ∧ Ext w wr) (fun i _ => N - (intOf i).toNat)
  case atStart => exact ⟨0, Nat.zero_le _, rfl, (by show _ ≤ _; rw [row_zero]; exact Nat.zero_le _), Ext.refl _⟩
  case round =>
    obtain ⟨i, hi, rfl, hrow, hx⟩ := hrel
    by_cases hlt : i < N
    · have h3 : (i : Int) < (N : Int) := by omega
      go_wp2_with (go_at_call 61; refine (HBM.out _).mono ?_; rintro e w' ⟨rfl, rfl⟩)
      go_loopw [8] (fun j wr2 => ∃ m : Nat, i + 1 ≤ m ∧ m ≤ N ∧ j = .int .i64 m ∧ Hid (bIx N i m ≤ k) ∧ Ext w wr2) (fun j _ => N - (intOf j).toNat)
      case atStart => exact ⟨i + 1, Nat.le_refl _, by omega, by go_num, (by show _ ≤ _; rw [bIx_first]; exact hrow.out), hx⟩
      case round =>
        obtain ⟨j, hj1, hj2, rfl, hb, hx2⟩ := hrel
        by_cases hlt2 : j < N
        · have h4 : (j : Int) < (N : Int) := by omega
          have HC := Lib.hid (fun W => HBI.out W i j (by omega) hlt2)
          have HPR : Hid (pr N (bIx N i j) = (i, j)) := pr_at h2 (by omega) hlt2
          have HSU : Hid (bIx N i (j + 1) = bIx N i j + 1) := bIx_succ (by omega)
          have hbo := hb.out
          generalize bIx N i j = q at *
          by_cases hq : q = k
          · have hqk : ((q : Int) == (k : Int)) = true := by simp; omega
            have HPK : Hid (pr N k = (i, j)) := by show _ = _; rw [← hq]; exact HPR.out
            clear hq
            go_wp2_with (go_at_call 74; refine (HC.out _).mono ?_; rintro e w' ⟨rfl, rfl⟩)
            exact bodyPost_ret (v := .tuple #[.int .i64 (i : Int), .int .i64 (j : Int), .bool true]) (by simp [results, Try.results63, go_sem]) rfl ⟨by rw [HPK.out], hx2⟩
          · have hqk : ((q : Int) == (k : Int)) = false := by simp; omega
            have HN : Hid (bIx N i (j + 1) ≤ k) := by show _ ≤ _; rw [HSU.out]; omega
            have hq2 : ¬ ((q : Int) = (k : Int)) := by omega
            clear hq
            go_wp2_with fail
            refine (HC.out _).mono ?_
            rintro e w' ⟨rfl, rfl⟩
            go_wp2
            go_roundw
            case rel => exact ⟨j + 1, by omega, by omega, by go_num, HN.out, hx2⟩
            case measure => simp [intOf]; omega
        · have e : j = N := by omega
          have HN : Hid (row N (i + 1) ≤ k) := by
            show _ ≤ _
            have h := hb.out
            rw [e, bIx_last h2 hlt] at h
            exact h
          have hd : decide (j < N) = false := by simpa using hlt2
          clear hb
          go_wp2
          go_roundw
          case rel => exact ⟨i + 1, by omega, by go_num, HN.out, hx2⟩
          case measure => simp [intOf]; omega
    · exfalso
      have e : i = N := by omega
      have := hrow.out
      rw [e, row_end N h2] at this
      have := HK.out
      omega
set_option maxRecDepth 100000 in
set_option maxHeartbeats 1000000 in
theorem specBaseVector_any (A : Option Addr) (n c : Nat) (l : VL) (w : World) (i j : Nat) (hn : l.length = n) (hA : Arr l) (r : Rd w w.heap.size A n c (pairs l)) (hi : i < n) (hj : j < n) :
    Calls Try.prog 64 #[.slice A n c, .int .i64 (i : Int), .int .i64 (j : Int)] w fun e w' => e = .returned (.tuple #[pv (vec l i j), .bool true]) ∧ Ext w w' := by
  have hn2 := hA.two
  have hn7 := hA.seven
  rw [hn] at hn2 hn7
  have b1 := hA.in_ (j := i) (by omega)
  have b2 := hA.in_ (j := j) (by omega)
  have f1 : IntKind.i64.wrap (vAm l j - vAm l i) = vAm l j - vAm l i := IntWalk.i64_in _ (by omega)
  have f2 : IntKind.i64.wrap (vPh l j - vPh l i) = vPh l j - vPh l i := IntWalk.i64_in _ (by omega)
  have HAV := Lib.hid (fun W (x : Ext w W) => specArrayValid_any A n c l W hn (by omega) (r.ext x))
  rw [hA.yes] at HAV
  have HIN : Hid (∀ W (m : Nat), m < n → Calls Try.prog 60 #[.int .i64 (m : Int), .int .i64 0, .int .i64 ((n : Int) - 1)] W fun e w' => e = .returned (.bool true) ∧ W = w') := fun W m hm => by
    have := in_any (m : Int) 0 ((n : Int) - 1) W
    rwa [show (decide ((0 : Int) ≤ (m : Int)) && decide ((m : Int) ≤ (n : Int) - 1)) = true by simp; omega] at this
  obtain ⟨g, off, rfl⟩ := r.addr (by rw [pairs_length, hn]; omega)
  have q1 : (i : Int) < (n : Int) := by omega
  have q2 : (j : Int) < (n : Int) := by omega
  have q3 : (0 : Int) ≤ (i : Int) := by omega
  have q4 : (0 : Int) ≤ (j : Int) := by omega
  have x0 : Ext w (w.alloc (.cells #[.int .i64 0, .int .i64 0] 49)) := (Ext.refl w).alloc _
  have S0 := St.new w #[.int .i64 0, .int .i64 0] 49
  have HEX : Hid (∀ W', Ext w W' → W'.cell? ⟨g, off + i * 2, none⟩ = some (.int .i64 (vAm l i)) ∧ W'.cell? ⟨g, off + i * 2 + 1, none⟩ = some (.int .i64 (vPh l i)) ∧ W'.cell? ⟨g, off + j * 2, none⟩ = some (.int .i64 (vAm l j)) ∧ W'.cell? ⟨g, off + j * 2 + 1, none⟩ = some (.int .i64 (vPh l j))) := fun W' x =>
    ⟨(r.ext x).fst (some_v (l := l) (by omega)), (r.ext x).snd (some_v (l := l) (by omega)), (r.ext x).fst (some_v (l := l) (by omega)), (r.ext x).snd (some_v (l := l) (by omega))⟩
  have HX := Lib.hid x0
  have HS := Lib.hid S0
  have hi' := Lib.hid hi
  have hj' := Lib.hid hj
  clear x0 S0 r b1 b2
  go_enter Try.func64, Try.ntmps64
  go_wp2_with fail
  refine (HAV.out _ HX.out).mono ?_
  rintro e w1 ⟨rfl, x1⟩
  have HX1 := Lib.hid (HX.out.trans x1)
  have HS1 := Lib.hid (HS.out.ext x1)
  clear HX HS x1
  go_wp2_with fail
  refine (HIN.out _ i hi'.out).mono ?_
  rintro e w' ⟨rfl, rfl⟩
  go_wp2_with fail
  refine (HIN.out _ j hj'.out).mono ?_
  rintro e w' ⟨rfl, rfl⟩
  go_wp2_with fail
  refine region_ct 23 (fun W' => (W'.cell? ⟨g, off + i * 2, none⟩ = some (.int .i64 (vAm l i)) ∧ W'.cell? ⟨g, off + i * 2 + 1, none⟩ = some (.int .i64 (vPh l i)) ∧ W'.cell? ⟨g, off + j * 2, none⟩ = some (.int .i64 (vAm l j)) ∧ W'.cell? ⟨g, off + j * 2 + 1, none⟩ = some (.int .i64 (vPh l j))) ∧ Hid (Ext w1 W')) (by kernel_rfl) (by kernel_rfl) ⟨HEX.out _ HX1.out.drew, (Ext.refl _).drew⟩ ?_
  simp only [List.take_succ_cons, List.take_zero, List.drop_succ_cons, List.drop_zero]
  iterate 23
    apply quiet_read
    · rfl
    · intro w' hSw
      (try dsimp only at hSw)
      go_simp
      all_goals exact rfl
    simp only [Act.put, List.setIfInBounds_toArray, List.set_cons_zero, List.set_cons_succ]
  refine quiet_done ?_
  rintro wq ⟨_, EX⟩
  have S1 := HS1.out.ext EX.out
  have X1 := HX1.out.trans EX.out
  have k2 := S1.cell0
  have k3 := S1.cell1
  have k4 := S1.frozen 0
  have k5 := S1.frozen 1
  have R := S1.put2 (.int .i64 (vAm l j - vAm l i)) (.int .i64 (vPh l j - vPh l i))
  have r0 := R.cell0
  have r1 := R.cell1
  have HX2 := Lib.hid X1
  clear S1 X1 R HEX HX1 HS1 f1 f2 HAV HIN
  go_wp2
  exact bodyPost_ret (v := .tuple #[.agg #[.int .i64 (vAm l j - vAm l i), .int .i64 (vPh l j - vPh l i)], .bool true]) (by simp [results, Try.results64, go_sem, r0, r1]) rfl ⟨rfl, HX2.out.put2 (Nat.le_refl _) _ _⟩
end Go.Proofs.Ytebjdchfofhmhaa
