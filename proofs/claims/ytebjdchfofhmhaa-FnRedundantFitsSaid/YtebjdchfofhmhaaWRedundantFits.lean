/-
  The walk of FnRedundantFits: it returns true and writes nothing that was there.
-/
import Derived.Test.YtebjdchfofhmhaaRedL
import Derived.Test.YtebjdchfofhmhaaDrawRS
import Derived.Test.YtebjdchfofhmhaaTurn
namespace Go.Proofs.Ytebjdchfofhmhaa.fnRedundantFits
open Go.RowKit
set_option linter.unusedVariables false

set_option maxRecDepth 100000 in
set_option maxHeartbeats 1000000 in
theorem walk (A0 : Option Addr) (n0 c0 : Nat) (b0 : List Int) (A1 : Option Addr) (n1 c1 : Nat) (b1 : List Int) (w : World) (hn0 : b0.length = n0) (hm0 : n0 ≤ 9223372036854775807) (h0 : Rd w w.heap.size A0 n0 c0 (b0.map (.int .u8))) (hw0 : ∀ z ∈ b0, 0 ≤ z ∧ z ≤ 255) (hn1 : b1.length = n1) (hm1 : n1 ≤ 9223372036854775807) (h1 : Rd w w.heap.size A1 n1 c1 (b1.map (.int .u8))) (hw1 : ∀ z ∈ b1, 0 ≤ z ∧ z ≤ 255) :
    Calls Try.prog 8 #[.slice A0 n0 c0, .slice A1 n1 c1] w fun e w' => e = .returned (.bool true) ∧ Ext w w' := by
  have HN0 := Lib.hid hn0
  have HW0 := Lib.hid hw0
  clear hn0 hw0 hn1 hw1 h1
  by_cases hz0 : n0 ≤ 1048576
  case neg =>
    go_enter Try.func8, Try.ntmps8
    go_wp2
    go_ret
    exact ⟨rfl, Ext.refl _⟩
  by_cases hz1 : n1 ≤ 1048576
  case neg =>
    go_enter Try.func8, Try.ntmps8
    go_wp2
    go_ret
    exact ⟨rfl, Ext.refl _⟩
  go_enter Try.func8, Try.ntmps8
  go_wp2_with fail
  refine (drawRedundantFits_any A0 n0 c0 b0 _ HN0.out hm0 h0 HW0.out).mono ?_
  rintro e w1 ⟨A_l, n_l, c_l, l, A_v, n_v, c_v, v, rfl, hl, a1, hv, a2, r1, r2, x1⟩
  have HIM := Lib.hid (fun W (x : Ext w1 W) => redundantFits_any A_l A_v n_l c_l n_v c_v l v W hl hv (by omega) (by omega) (r1.ext x) (r2.ext x))
  have HSP := Lib.hid (fun W (x : Ext w1 W) => specFits_any A_l A_v n_l c_l n_v c_v l v W hl hv (by omega) (by omega) (r1.ext x) (r2.ext x))
  have E := Lib.hid x1
  clear x1
  rcases hB : rfB l v with _ | _
  · rw [hB] at HIM HSP
    clear hB hl hv r1 r2
    go_wp2_with fail
    refine (HIM.out _ (Ext.refl _)).mono ?_
    rintro e w2 ⟨rfl, x2⟩
    go_wp2_with fail
    refine (HSP.out _ x2).mono ?_
    rintro e w3 ⟨rfl, x3⟩
    go_wp2
    go_ret
    exact ⟨rfl, (E.out.trans x2).trans x3⟩
  rw [hB] at HIM HSP
  obtain ⟨hS, hLv⟩ := rf_parts hB
  have hO : rsO l v = v := (rsO_yes hS).trans hLv
  have hA := (rsB_parts hS).1
  have HSD := Lib.hid (fun W (x : Ext w1 W) => redundantSpread_any A_l A_v n_l c_l n_v c_v l v W hl hv (by omega) (by omega) (r1.ext x) (r2.ext x))
  rw [hO, hS, hv] at HSD
  have HAT := Lib.hid (fun W (x : Ext w1 W) (K : Nat) (hK : K ≤ 3) => arrayTurn_any A_l n_l c_l K l W hl hA hK (r1.ext x))
  have HSV : Hid (∀ (W : World) (A : Option Addr) (c : Nat), Ext w1 W → Rd W W.heap.size A n_v c (pairs v) → Calls Try.prog 23 #[.slice A n_v c, .slice A_v n_v c_v] W fun e w' => e = .returned (.bool true) ∧ Quiet W w') := fun W A c x h =>
    (sameVis_any A A_v n_v n_v c c_v v v W hv hv (by omega) h (r2.ext x)).mono fun e w' k => ⟨k.1.trans (by rw [decide_eq_true rfl]), k.2⟩
  have HFT : Hid (∀ (W : World) (K : Nat) (A : Option Addr) (c : Nat), Ext w1 W → Rd W W.heap.size A n_l c (pairs (trn K l)) → Calls Try.prog 14 #[.slice A n_l c, .slice A_v n_v c_v] W fun e w' => e = .returned (.bool true) ∧ Ext W w') := fun W K A c x h => by
    have := redundantFits_any A A_v n_l c n_v c_v (trn K l) v W (by rw [trn_length, hl]) hv (by omega) (by omega) h (r2.ext x)
    rwa [trn_fits K hB] at this
  clear hB hl hv r1 r2 hS hLv hO hA
  go_wp2_with fail
  refine (HIM.out _ (Ext.refl _)).mono ?_
  rintro e w2 ⟨rfl, x2⟩
  go_wp2_with fail
  refine (HSP.out _ x2).mono ?_
  rintro e w3 ⟨rfl, x3⟩
  have E3 := x2.trans x3
  clear x2 x3
  go_wp2_with fail
  refine (HSD.out _ E3).mono ?_
  rintro e w4 ⟨A4, c4, rfl, s4, x4⟩
  have E4 := E3.trans x4
  clear E3 x4
  obtain ⟨K, hK⟩ : ∃ K, n1 % 4 = K := ⟨_, rfl⟩
  have hK3 : K ≤ 3 := by omega
  have f0 : (n1 : Int).tmod 4 = (K : Int) := by rw [Int.tmod_eq_emod_of_nonneg (Int.natCast_nonneg n1)]; omega
  have f0' : (n1 : Int) % 4 = (K : Int) := by omega
  clear hK
  go_wp2_with fail
  refine (HAT.out _ E4 K hK3).mono ?_
  rintro e w5 ⟨A5, c5, rfl, s5, x5⟩
  have E5 := E4.trans x5
  have s4' := s4.ext x5
  clear s4 x5 E4
  go_wp2_with fail
  refine (HSV.out _ _ _ E5 s4'.rd).mono ?_
  rintro e w6 ⟨rfl, y6⟩
  have E6 := E5.trans y6.ext
  have s6 := s5.ext y6.ext
  clear s5 y6 E5 s4'
  go_wp2_with fail
  refine (HFT.out _ K _ _ E6 s6.rd).mono ?_
  rintro e w7 ⟨rfl, x7⟩
  go_wp2
  go_ret
  exact ⟨rfl, (E.out.trans E6).trans x7⟩
end Go.Proofs.Ytebjdchfofhmhaa.fnRedundantFits
