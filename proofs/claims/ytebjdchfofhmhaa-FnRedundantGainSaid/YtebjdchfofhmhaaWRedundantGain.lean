/-
  The walk of FnRedundantGain: it returns true and writes nothing that was there.
-/
import Derived.Test.YtebjdchfofhmhaaRedL
import Derived.Test.YtebjdchfofhmhaaDrawRS
import Derived.Test.YtebjdchfofhmhaaGainI
namespace Go.Proofs.Ytebjdchfofhmhaa.fnRedundantGain
open Go.RowKit
set_option linter.unusedVariables false

theorem rep_at {n k : Nat} (x : Int × Int) (h : k < n) : vAm (List.replicate n x) k = x.1 ∧ vPh (List.replicate n x) k = x.2 := by
  simp [vAm, vPh, h]
theorem gained {l v : VL} {x : Int × Int} (h : rfB l v = true) (hb : gappB (l.length : Int) v (List.replicate l.length x) = true) : rfB l (gappL (l.length : Int) v (List.replicate l.length x)) = true := by
  obtain ⟨h1, h2⟩ := rf_parts h
  obtain ⟨A, h3, h4⟩ := rsB_parts h1
  have hL : gappL (l.length : Int) v (List.replicate l.length x) = gaM v (List.replicate l.length x) (bp l.length) := by simp [gappL, hb]
  have h8 : l.length < 8 := by have := A.seven; omega
  have hv : visB (l.length : Int) (gaM v (List.replicate l.length x) (bp l.length)) = true := by
    simp only [gappB, Bool.and_eq_true, Int.toNat_natCast] at hb
    exact hb.2
  rw [hL]
  refine rs_gain (a := x.1 * x.1) h (by rw [gaM_length, bp_length _ h8]) hv fun k hk => ?_
  have hp := pr_in h8 hk
  obtain ⟨g1, g2⟩ := rep_at (n := l.length) (k := (pr l.length k).1) x (by omega)
  obtain ⟨g3, g4⟩ := rep_at (n := l.length) (k := (pr l.length k).2) x (by omega)
  have hr := rg_v h4 (k := k) (by omega)
  have : (gaM v (List.replicate l.length x) (bp l.length))[k]? = some (gaF v (List.replicate l.length x) k (pr l.length k)) := byAt_at (bp_pr h8 hk)
  rw [vAt_of this]
  unfold gaF
  rw [g1, g2, g3, g4]
  simp only [vAt] at hr ⊢
  rw [Int.mul_assoc]
  congr 1
  omega
set_option maxRecDepth 100000 in
set_option maxHeartbeats 1000000 in
theorem walk (A0 : Option Addr) (n0 c0 : Nat) (b0 : List Int) (A1 : Option Addr) (n1 c1 : Nat) (b1 : List Int) (w : World) (hn0 : b0.length = n0) (hm0 : n0 ≤ 9223372036854775807) (h0 : Rd w w.heap.size A0 n0 c0 (b0.map (.int .u8))) (hw0 : ∀ z ∈ b0, 0 ≤ z ∧ z ≤ 255) (hn1 : b1.length = n1) (hm1 : n1 ≤ 9223372036854775807) (h1 : Rd w w.heap.size A1 n1 c1 (b1.map (.int .u8))) (hw1 : ∀ z ∈ b1, 0 ≤ z ∧ z ≤ 255) :
    Calls Try.prog 7 #[.slice A0 n0 c0, .slice A1 n1 c1] w fun e w' => e = .returned (.bool true) ∧ Ext w w' := by
  have HN0 := Lib.hid hn0
  have HW0 := Lib.hid hw0
  clear hn0 hw0 hn1 hw1 h1
  by_cases hz0 : n0 ≤ 1048576
  case neg =>
    go_enter Try.func7, Try.ntmps7
    go_wp2
    go_ret
    exact ⟨rfl, Ext.refl _⟩
  by_cases hz1 : n1 ≤ 1048576
  case neg =>
    go_enter Try.func7, Try.ntmps7
    go_wp2
    go_ret
    exact ⟨rfl, Ext.refl _⟩
  go_enter Try.func7, Try.ntmps7
  go_wp2_with fail
  refine (drawRedundantFits_any A0 n0 c0 b0 _ HN0.out hm0 h0 HW0.out).mono ?_
  rintro e w1 ⟨A_l, n_l, c_l, l, A_v, n_v, c_v, v, rfl, hl, a1, hv, a2, r1, r2, x1⟩
  have HIM := Lib.hid (fun W (x : Ext w1 W) => redundantFits_any A_l A_v n_l c_l n_v c_v l v W hl hv (by omega) (by omega) (r1.ext x) (r2.ext x))
  have HSP := Lib.hid (fun W (x : Ext w1 W) => specFits_any A_l A_v n_l c_l n_v c_v l v W hl hv (by omega) (by omega) (r1.ext x) (r2.ext x))
  have E := Lib.hid x1
  clear x1
  rcases hB : rfB l v with _ | _
  · rw [hB] at HIM HSP
    clear hB hl hv r1 r2
    go_wp2_with fail
    refine (HIM.out _ (Ext.refl _)).mono ?_
    rintro e w2 ⟨rfl, x2⟩
    go_wp2_with fail
    refine (HSP.out _ x2).mono ?_
    rintro e w3 ⟨rfl, x3⟩
    go_wp2
    go_ret
    exact ⟨rfl, (E.out.trans x2).trans x3⟩
  rw [hB] at HIM HSP
  have HGA : Hid (∀ (W : World) (g : VL) (A : Option Addr) (c : Nat), Ext w1 W → g.length = n_l → Rd W W.heap.size A n_l c (pairs g) → Calls Try.prog 28 #[.int .i64 (n_l : Int), .slice A_v n_v c_v, .slice A n_l c] W (RetSB W 44 (gappL (n_l : Int) v g).length (pairs (gappL (n_l : Int) v g)) (gappB (n_l : Int) v g))) := fun W g A c x hg h =>
    gainApply_any (n_l : Int) A_v A n_v c_v n_l c v g W hv hg (by omega) (by omega) (r2.ext x) h
  have HFI : Hid (∀ (W : World) (x : Int × Int) (A : Option Addr) (c : Nat), Ext w1 W → gappB (n_l : Int) v (List.replicate n_l x) = true → Rd W W.heap.size A (gappL (n_l : Int) v (List.replicate n_l x)).length c (pairs (gappL (n_l : Int) v (List.replicate n_l x))) → Calls Try.prog 14 #[.slice A_l n_l c_l, .slice A (gappL (n_l : Int) v (List.replicate n_l x)).length c] W fun e w' => e = .returned (.bool true) ∧ Ext W w') := fun W x A c y hb h => by
    have hg : gappB (l.length : Int) v (List.replicate l.length x) = true := by rw [hl]; exact hb
    have hf := gained hB hg
    rw [hl] at hf
    have hlen := (rsB_parts (rf_parts hf).1).2.1
    have h7 := (rsB_parts (rf_parts hf).1).1.seven
    have hnb := nb_le l.length (by omega)
    have := redundantFits_any A_l A n_l c_l _ c l (gappL (n_l : Int) v (List.replicate n_l x)) W hl rfl (by omega) (by omega) (r1.ext y) h
    rwa [hf] at this
  clear hB hl hv r1 r2
  go_wp2_with fail
  refine (HIM.out _ (Ext.refl _)).mono ?_
  rintro e w2 ⟨rfl, x2⟩
  go_wp2_with fail
  refine (HSP.out _ x2).mono ?_
  rintro e w3 ⟨rfl, x3⟩
  have E3 := x2.trans x3
  clear x2 x3
  go_wp2_with fail
  have ho3 : (w3.alloc (.cells #[] 44)).ownsRow w3.heap.size 44 2 (.slice (some ⟨w3.heap.size, 0, none⟩) 0 0) 0 (pairs []) := World.ownsRow_lit w3 #[] 0 (Nat.le_refl _) (by simp [maxLen]) rfl
  obtain ⟨a, ha⟩ : ∃ a, n1 % 3 = a := ⟨_, rfl⟩
  obtain ⟨q, hq⟩ : ∃ q, n1 % 360 = q := ⟨_, rfl⟩
  have ha3 : a < 3 := by omega
  have hq3 : q < 360 := by omega
  have f0 : (n1 : Int).tmod 3 = (a : Int) := by rw [Int.tmod_eq_emod_of_nonneg (Int.natCast_nonneg n1)]; omega
  have f0' : (n1 : Int) % 3 = (a : Int) := by omega
  have f1 : (n1 : Int).tmod 360 = (q : Int) := by rw [Int.tmod_eq_emod_of_nonneg (Int.natCast_nonneg n1)]; omega
  have f1' : (n1 : Int) % 360 = (q : Int) := by omega
  clear ha hq
  go_loopw [10, 11] (fun o i wr => ∃ k : Nat, k ≤ n_l ∧ i = .int .i64 k ∧ wr.ownsRow w3.heap.size 44 2 o k (pairs (List.replicate k (1 + (a : Int), (q : Int)))) ∧ Ext w3 wr) (fun _ i _ => n_l - (intOf i).toNat)
  case atStart => exact ⟨0, Nat.zero_le _, rfl, ho3, (Ext.refl w3).alloc _⟩
  case round =>
    clear ho3
    obtain ⟨k, hk, rfl, o5, e5⟩ := hrel
    have z5 := e5.size
    by_cases hlt : k < n_l
    · have h2 : (k : Int) < (n_l : Int) := by omega
      have HS : Hid (List.replicate k (1 + (a : Int), (q : Int)) ++ [(1 + (a : Int), (q : Int))] = List.replicate (k + 1) (1 + (a : Int), (q : Int))) := List.replicate_succ'.symm
      go_wp2_with (at_builtin; refine wpList_append2A (w := wr) rfl _ _ _ rfl w3.heap.size 44 16 Vis.info Try.underlying29 _ k _ (by rfl) o5 (1 + (a : Int)) (q : Int) _ (by rfl) rfl (by omega) (by omega) z5 ?_; intro v' w8 o8 hg8 hat8)
      have e8 := e5.grownV o5 hg8 (Nat.le_refl _)
      rw [HS.out] at o8
      go_roundw
      case rel => exact ⟨k + 1, by omega, by go_num, o8, e8⟩
      case measure => simp [intOf]; omega
    · have e : k = n_l := by omega
      rw [e] at o5 ⊢
      obtain ⟨A5, c5, hv5, s5⟩ := Sl.of_own o5
      subst hv5
      have hd : decide (n_l < n_l) = false := by simp
      have HG : Hid ((List.replicate n_l (1 + (a : Int), (q : Int))).length = n_l) := by show _ = _; simp
      clear e hlt hk o5
      go_wp2_with fail
      refine (HGA.out _ _ A5 c5 (E3.trans e5) HG.out s5.rd).mono ?_
      rintro e w6 ⟨A6, c6, rfl, s6, x6⟩
      rcases hb : gappB (n_l : Int) v (List.replicate n_l (1 + (a : Int), (q : Int))) with _ | _
      · clear hb HFI HGA
        go_wp2
        go_ret
        exact ⟨rfl, (E.out.trans (E3.trans e5)).trans x6⟩
      · have HF := Lib.hid (HFI.out w6 _ A6 c6 ((E3.trans e5).trans x6) hb s6.rd)
        clear hb HFI HGA
        go_wp2_with fail
        refine HF.out.mono ?_
        rintro e w7 ⟨rfl, x7⟩
        go_wp2
        go_ret
        exact ⟨rfl, ((E.out.trans (E3.trans e5)).trans x6).trans x7⟩
end Go.Proofs.Ytebjdchfofhmhaa.fnRedundantGain
