/-
  Contracts of l17Vector and RedundantGroups of the reference.
-/
import Derived.Test.YtebjdchfofhmhaaRedF
import Derived.Test.YtebjdchfofhmhaaInts
import Derived.Test.YtebjdchfofhmhaaAppA
namespace Go.Proofs.Ytebjdchfofhmhaa
open Go.RowKit
set_option linter.unusedSimpArgs false
set_option linter.unusedVariables false

theorem grL_succ (l : VL) {k : Nat} (h : k < nb l.length) : (grL l).take (k + 1) = (grL l).take k ++ [((grp (bvec l) k : Nat) : Int)] := take_snoc_of (grL_at h)
theorem bvec_in {l : VL} (hA : Arr l) {k : Nat} (hk : k < nb l.length) : -100000 ≤ (bvec l k).1 ∧ (bvec l k).1 ≤ 100000 ∧ -100000 ≤ (bvec l k).2 ∧ (bvec l k).2 ≤ 100000 := by
  have h7 := hA.seven
  obtain ⟨p1, p2, _⟩ := pr_in (n := l.length) (by omega) hk
  have b1 := hA.in_ (j := (pr l.length k).1) (by omega)
  have b2 := hA.in_ (j := (pr l.length k).2) p2
  unfold bvec vec
  simp only
  omega
set_option maxRecDepth 100000 in
set_option maxHeartbeats 400000 in
theorem l17Vector_any (A : Option Addr) (n c : Nat) (l : VL) (w : World) (k : Nat) (hn : l.length = n) (hA : Arr l) (r : Rd w w.heap.size A n c (pairs l)) (hk : k < nb n) :
    Calls Try.prog 39 #[.slice A n c, .int .i64 (k : Int)] w fun e w' => e = .returned (pv (bvec l k)) ∧ Ext w w' := by
  have hn2 := hA.two
  have hn7 := hA.seven
  rw [hn] at hn2 hn7
  obtain ⟨p1, p2, _⟩ := pr_in (n := n) (by omega) hk
  have HP := Lib.hid (fun W => specBasePair_any n k W hn2 (by omega) hk)
  have HV : Hid (∀ W, Ext w W → Calls Try.prog 64 #[.slice A n c, .int .i64 ((pr n k).1 : Int), .int .i64 ((pr n k).2 : Int)] W fun e w' => e = .returned (.tuple #[pv (bvec l k), .bool true]) ∧ Ext W w') := fun W x => by
    have := specBaseVector_any A n c l W (pr n k).1 (pr n k).2 hn hA (r.ext x) (by omega) (by omega)
    unfold bvec
    rw [hn]
    exact this
  have S0 := St.new w #[.int .i64 0, .int .i64 0] 49
  have X0 : Ext w (w.alloc (.cells #[.int .i64 0, .int .i64 0] 49)) := (Ext.refl w).alloc _
  clear r hk p1 p2 hn hn2 hn7
  obtain ⟨⟨a, b⟩, hab⟩ : ∃ v, bvec l k = v := ⟨_, rfl⟩
  rw [hab] at HV ⊢
  unfold pv at HV ⊢
  generalize (pr n k).1 = i at *
  generalize (pr n k).2 = j at *
  clear hab
  go_enter Try.func39, Try.ntmps39
  go_wp2_with fail
  refine (HP.out _).mono ?_
  rintro e w1 ⟨rfl, x1⟩
  go_wp2_with fail
  refine (HV.out _ (X0.trans x1)).mono ?_
  rintro e w2 ⟨rfl, x2⟩
  have S2 := ((S0.ext x1).ext x2).ext ((Ext.refl w2).alloc (.cells #[.int .i64 a, .int .i64 b] 49))
  have T2 := St.new w2 #[.int .i64 a, .int .i64 b] 49
  have X2 := ((X0.trans x1).trans x2).trans ((Ext.refl w2).alloc (.cells #[.int .i64 a, .int .i64 b] 49))
  have k2 := S2.cell0
  have k3 := S2.cell1
  have k4 := S2.frozen 0
  have k5 := S2.frozen 1
  have R := S2.put2 (.int .i64 a) (.int .i64 b)
  have r0 := R.cell0
  have r1 := R.cell1
  have HX2 := Lib.hid X2
  clear S2 X2 R S0 X0 x1 x2 HP HV
  go_wp2
  exact bodyPost_ret (v := .agg #[.int .i64 a, .int .i64 b]) (by simp [results, Try.results39, go_sem, r0, r1]) rfl ⟨rfl, HX2.out.put2 (Nat.le_refl _) _ _⟩
set_option maxRecDepth 100000 in
set_option maxHeartbeats 400000 in
theorem specGroups_any (A : Option Addr) (n c : Nat) (l : VL) (w : World) (hn : l.length = n) (hA : Arr l) (r : Rd w w.heap.size A n c (pairs l)) :
    Calls Try.prog 37 #[.slice A n c] w (RetS w 3 (nb n) (ints (grL l))) := by
  have hn2 := hA.two
  have hn7 := hA.seven
  have HN := Lib.hid hn
  have HAV := Lib.hid (fun W (x : Ext w W) => specArrayValid_any A n c l W hn (by omega) (r.ext x))
  rw [hA.yes] at HAV
  have HVC := Lib.hid (fun W (x : Ext w W) (k : Nat) (hk : k < nb n) => l17Vector_any A n c l W k hn hA (r.ext x) hk)
  have HSG := Lib.hid (fun W (i j : Nat) (hi : i < nb n) (hj : j < nb n) => l17Sign_any (bvec l i) (bvec l j) W (bvec_in hA (by rw [hn]; exact hi)) (bvec_in hA (by rw [hn]; exact hj)))
  have HGS := Lib.hid (grp_spec (bvec l))
  have HSU : Hid (∀ k, k < nb n → (grL l).take (k + 1) = (grL l).take k ++ [((grp (bvec l) k : Nat) : Int)]) := fun k h => grL_succ l (by rw [hn]; exact h)
  have HGL : Hid ((grL l).length = nb n) := by show _ = _; rw [grL_length, hn]
  rw [hn] at hn2 hn7
  have hnb := nb_le n (by omega)
  have HBM : Hid (∀ W, Calls Try.prog 61 #[.int .i64 (n : Int)] W fun e w' => e = .returned (.int .i64 ((nb n : Nat) : Int)) ∧ W = w') := fun W => by
    have := specBaseMany_any (n : Int) W
    rwa [nbI_nat hn2 (by omega)] at this
  clear hn r hn2 hn7 hA
  generalize nb n = M at *
  generalize grL l = gl at *
  generalize bvec l = f at *
  go_enter Try.func37, Try.ntmps37
  go_wp2_with fail
  refine (HAV.out _ (by first | exact Ext.refl _ | exact (Ext.refl _).alloc _)).mono ?_
  rintro e w1 ⟨rfl, x1⟩
  go_wp2_with fail
  have ho0 : w1.ownsRow w.heap.size 3 1 (.slice (some ⟨w.heap.size, 0, none⟩) 0 0) 0 (ints (gl.take 0)) := own_ext (World.ownsRow_lit w #[] 0 (Nat.le_refl _) (by simp [maxLen]) rfl) x1
  have hx0 : Ext w w1 := ((Ext.refl w).alloc _).trans x1
  clear x1
  go_loopw [3, 4] (fun v i wr => ∃ k : Nat, k ≤ M ∧ i = .int .i64 k ∧ wr.ownsRow w.heap.size 3 1 v k (ints (gl.take k)) ∧ Ext w wr) (fun _ i _ => M - (intOf i).toNat)
  case atStart => exact ⟨0, Nat.zero_le _, rfl, ho0, hx0⟩
  case round =>
    clear ho0 hx0
    obtain ⟨t, ht, rfl, ho, he⟩ := hrel
    by_cases hlt : t < M
    · have h2 : (t : Int) < (M : Int) := by omega
      have HO := Lib.hid ho
      have HE := Lib.hid he
      have HG := Lib.hid (HGS.out t)
      clear ho he
      go_wp2_with fail
      refine (HBM.out _).mono ?_
      rintro e w' ⟨rfl, rfl⟩
      go_wp2_with fail
      go_loopw [5] (fun i wq => ∃ k : Nat, k ≤ grp f t ∧ i = .int .i64 k ∧ Ext wr wq) (fun i _ => grp f t - (intOf i).toNat)
      case atStart => exact ⟨0, Nat.zero_le _, rfl, Ext.refl _⟩
      case round =>
        obtain ⟨k, hk, rfl, hx⟩ := hrel
        have hkM : k < M := by have := HG.out.1; omega
        have HS := Lib.hid (fun W => HSG.out W k t hkM hlt)
        by_cases hs : lk (f k) (f t)
        · have hkg : k = grp f t := by
            rcases Nat.lt_or_ge k (grp f t) with h | h
            · exact absurd hs (HG.out.2.2 k h)
            · omega
          have HKG := Lib.hid hkg
          have hs0 : sg (f k) (f t) ≠ 0 := sg_lk.2 hs
          have hsb : (sg (f k) (f t) == 0) = false := by simpa using hs0
          clear hs hkg
          go_wp2_with fail
          refine (HVC.out _ (HE.out.trans hx) k hkM).mono ?_
          rintro e w2 ⟨rfl, x2⟩
          go_wp2_with fail
          refine (HVC.out _ ((HE.out.trans hx).trans x2) t hlt).mono ?_
          rintro e w3 ⟨rfl, x3⟩
          go_wp2_with fail
          refine (HS.out _).mono ?_
          rintro e w4 ⟨rfl, x4⟩
          have X4 := ((HE.out.trans hx).trans x2).trans (x3.trans x4)
          have o4 := own_ext HO.out ((hx.trans x2).trans (x3.trans x4))
          have hz4 := X4.size
          have HSN := Lib.hid (HSU.out t hlt)
          clear hx x2 x3 x4
          go_wp2_with (at_builtin; refine wpList_append1A (w := w4) rfl _ _ _ rfl w.heap.size 3 (.int .i64 0) 8 I.infoInt Try.underlying41 rfl _ t _ (by rfl) o4 (.int .i64 (k : Int)) _ (by rfl) rfl rfl (by omega) (by omega) hz4 ?_; intro v' w5 o5 hg5 hat5)
          have e5 := X4.grownV o4 hg5 (Nat.le_refl _)
          rw [ints_snoc, HKG.out, ← HSN.out] at o5
          go_roundw
          case rel => exact ⟨t + 1, by omega, by go_num, o5, e5⟩
          case measure => simp [intOf]; omega
        · have hs0 : sg (f k) (f t) = 0 := sg_zero.2 hs
          have hsb : (sg (f k) (f t) == 0) = true := by simpa using hs0
          have hkg : k < grp f t := by
            rcases Nat.lt_or_ge k (grp f t) with h | h
            · exact h
            · exfalso
              have : k = grp f t := by omega
              rw [this] at hs
              exact hs HG.out.2.1
          clear hs
          go_wp2_with fail
          refine (HVC.out _ (HE.out.trans hx) k hkM).mono ?_
          rintro e w2 ⟨rfl, x2⟩
          go_wp2_with fail
          refine (HVC.out _ ((HE.out.trans hx).trans x2) t hlt).mono ?_
          rintro e w3 ⟨rfl, x3⟩
          go_wp2_with fail
          refine (HS.out _).mono ?_
          rintro e w4 ⟨rfl, x4⟩
          have X4 := ((hx.trans x2).trans x3).trans x4
          clear hx x2 x3 x4
          go_wp2
          go_roundw
          case rel => exact ⟨k + 1, by omega, by go_num, X4⟩
          case measure => simp [intOf]; omega
    · have e : t = M := by omega
      rw [e, List.take_of_length_le (by rw [HGL.out]; exact Nat.le_refl _)] at ho
      obtain ⟨A', c', hv, hs'⟩ := Sl.of_own ho
      subst hv
      rw [e]
      have hd : decide (M < M) = false := by simp
      clear e ho hlt ht
      go_wp2_with fail
      refine (HBM.out _).mono ?_
      rintro e w' ⟨rfl, rfl⟩
      go_wp2
      go_ret
      exact ⟨A', c', rfl, hs', he⟩
end Go.Proofs.Ytebjdchfofhmhaa
