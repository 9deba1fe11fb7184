/-
  Contracts of RedundantFits of the reference and of slices.Equal on visibilities.
-/
import Derived.Test.YtebjdchfofhmhaaRedH
import Derived.Test.YtebjdchfofhmhaaSameV
namespace Go.Proofs.Ytebjdchfofhmhaa
open Go.RowKit
set_option linter.unusedSimpArgs false
set_option linter.unusedVariables false
attribute [local go_sem] eqVis_run

theorem rf_no {l v : VL} (h : rsB l v = false) : rfB l v = false := by simp [rfB, h]
theorem rf_dec {l v : VL} (h : rsB l v = true) : rfB l v = decide (rsL l v = v) := by simp [rfB, h]
set_option maxHeartbeats 400000 in
theorem equalV_any (A B : Option Addr) (n m c d : Nat) (xs ys : List (Int × Int)) (w : World) (hn : xs.length = n) (hm : ys.length = m) (hz : n ≤ 1048576) (h : Rd w w.heap.size A n c (pairs xs)) (h' : Rd w w.heap.size B m d (pairs ys)) :
    Calls Try.prog 32 #[.slice A n c, .slice B m d] w fun e w' => e = .returned (.bool (decide (xs = ys))) ∧ Quiet w w' := by
  have HN := Lib.hid hn
  have HM := Lib.hid hm
  clear hn hm
  by_cases hnm : n = m
  · subst hnm
    go_enter Try.func32, Try.ntmps32
    go_wp2
    go_loopw [13] (fun i wr => ∃ k : Nat, k ≤ n ∧ i = .int .i64 k ∧ Hid (eqToV xs ys k) ∧ Quiet w wr) (fun i _ => n - (intOf i).toNat)
    case atStart => exact ⟨0, Nat.zero_le _, rfl, fun _ h => by omega, Quiet.refl _⟩
    case round =>
      obtain ⟨k, hk, rfl, hto, hq⟩ := hrel
      by_cases hlt : k < n
      · obtain ⟨⟨p, q⟩, hb⟩ := at_of_lt (l := xs) (k := k) (by have := HN.out; omega)
        obtain ⟨⟨r, s⟩, hb'⟩ := at_of_lt (l := ys) (k := k) (by have := HM.out; omega)
        obtain ⟨g, off, rfl⟩ := h.addr (by rw [pairs_length, HN.out]; omega)
        obtain ⟨g', off', rfl⟩ := h'.addr (by rw [pairs_length, HM.out]; omega)
        have hc0 := (hq.cell _).trans (h.fst hb)
        have hc1 := (hq.cell _).trans (h.snd hb)
        have hd0 := (hq.cell _).trans (h'.fst hb')
        have hd1 := (hq.cell _).trans (h'.snd hb')
        have HB := Lib.hid hb
        have HB' := Lib.hid hb'
        have h2 : (k : Int) < (n : Int) := by omega
        have h3 : (0 : Int) ≤ (k : Int) := by omega
        clear hb hb'
        by_cases e1 : p = r
        · subst e1
          by_cases e2 : q = s
          · subst e2
            go_wp2
            go_quiet (fail)
            go_wp2
            go_roundw
            case rel => exact ⟨k + 1, by omega, by go_num, eqToV_succ hto (by rw [HB.out, HB'.out]), hq.drewN _⟩
            case measure => simp [intOf]; omega
          · go_wp2
            go_quiet (fail)
            go_wp2
            go_ret
            exact ⟨ret_bool (by symm; simp; rintro rfl; have := HB.out; rw [HB'.out] at this; simp at this; exact e2 this.symm), hq.drewN _⟩
        · go_wp2
          go_quiet (fail)
          go_wp2
          go_ret
          exact ⟨ret_bool (by symm; simp; rintro rfl; have := HB.out; rw [HB'.out] at this; simp at this; exact e1 this.1.symm), hq.drewN _⟩
      · go_wp2
        go_ret
        obtain rfl : k = n := by omega
        exact ⟨ret_bool (by symm; simp; exact eqToV_all HN.out HM.out hto), hq⟩
  · have hnm' : ((n : Int) != (m : Int)) = true := by simp; omega
    go_enter Try.func32, Try.ntmps32
    go_wp2
    go_ret
    exact ⟨ret_bool (by symm; simp; rintro rfl; exact hnm (by rw [← HN.out, ← HM.out])), Quiet.refl _⟩
set_option maxRecDepth 100000 in
set_option maxHeartbeats 400000 in
theorem specFits_any (A1 A2 : Option Addr) (n1 c1 n2 c2 : Nat) (l v : VL) (w : World) (hl : l.length = n1) (hv : v.length = n2) (z1 : n1 ≤ 1048576) (z2 : n2 ≤ 1048576) (r1 : Rd w w.heap.size A1 n1 c1 (pairs l)) (r2 : Rd w w.heap.size A2 n2 c2 (pairs v)) :
    Calls Try.prog 11 #[.slice A1 n1 c1, .slice A2 n2 c2] w fun e w' => e = .returned (.bool (rfB l v)) ∧ Ext w w' := by
  have HS := Lib.hid (specSpread_any A1 A2 n1 c1 n2 c2 l v w hl hv z1 z2 r1 r2)
  rcases hB : rsB l v with _ | _
  · have HF : Hid (rfB l v = false) := rf_no hB
    rw [rsO_no hB, hB] at HS
    clear hl hv r1 r2 hB
    go_enter Try.func11, Try.ntmps11
    go_wp2_with fail
    refine HS.out.mono ?_
    rintro e w1 ⟨A', c', rfl, s', x1⟩
    go_wp2
    go_ret
    exact ⟨ret_bool HF.out.symm, x1⟩
  obtain ⟨hA, hvl, hrg⟩ := rsB_parts hB
  have HF : Hid (rfB l v = decide (rsL l v = v)) := rf_dec hB
  have HXL : Hid ((rsL l v).length = n2) := by show _ = _; rw [rsL_length, ← hvl, hv]
  have HVL := Lib.hid hv
  have HR2 := Lib.hid r2
  rw [rsO_yes hB, hB, HXL.out] at HS
  clear hl hv r1 r2 hB hA hvl hrg
  generalize rsL l v = rl at *
  go_enter Try.func11, Try.ntmps11
  go_wp2_with fail
  refine HS.out.mono ?_
  rintro e w1 ⟨A', c', rfl, s', x1⟩
  have h := s'.rd
  have h' := HR2.out.ext x1
  go_wp2_with fail
  go_loopw [7] (fun i wr => ∃ k : Nat, k ≤ n2 ∧ i = .int .i64 k ∧ Hid (eqToV rl v k) ∧ Quiet w1 wr) (fun i _ => n2 - (intOf i).toNat)
  case atStart => exact ⟨0, Nat.zero_le _, rfl, fun _ h => by omega, Quiet.refl _⟩
  case round =>
    obtain ⟨k, hk, rfl, hto, hq⟩ := hrel
    by_cases hlt : k < n2
    · obtain ⟨⟨p, q⟩, hb⟩ := at_of_lt (l := rl) (k := k) (by have := HXL.out; omega)
      obtain ⟨⟨r, s⟩, hb'⟩ := at_of_lt (l := v) (k := k) (by have := HVL.out; omega)
      obtain ⟨g, off, rfl⟩ := h.addr (by rw [pairs_length, HXL.out]; omega)
      obtain ⟨g', off', rfl⟩ := h'.addr (by rw [pairs_length, HVL.out]; omega)
      have hc0 := (hq.cell _).trans (h.fst hb)
      have hc1 := (hq.cell _).trans (h.snd hb)
      have hd0 := (hq.cell _).trans (h'.fst hb')
      have hd1 := (hq.cell _).trans (h'.snd hb')
      have HB := Lib.hid hb
      have HB' := Lib.hid hb'
      have h2 : (k : Int) < (n2 : Int) := by omega
      have h3 : (0 : Int) ≤ (k : Int) := by omega
      clear hb hb'
      by_cases e1 : p = r
      · subst e1
        by_cases e2 : q = s
        · subst e2
          go_wp2
          go_quiet (fail)
          go_wp2
          go_roundw
          case rel => exact ⟨k + 1, by omega, by go_num, eqToV_succ hto (by rw [HB.out, HB'.out]), hq.drewN _⟩
          case measure => simp [intOf]; omega
        · go_wp2
          go_quiet (fail)
          go_wp2
          go_ret
          exact ⟨ret_bool (by rw [HF.out]; symm; simp; rintro rfl; have := HB.out; rw [HB'.out] at this; simp at this; exact e2 this.symm), x1.trans (hq.drewN _).ext⟩
      · go_wp2
        go_quiet (fail)
        go_wp2
        go_ret
        exact ⟨ret_bool (by rw [HF.out]; symm; simp; rintro rfl; have := HB.out; rw [HB'.out] at this; simp at this; exact e1 this.1.symm), x1.trans (hq.drewN _).ext⟩
    · go_wp2
      go_ret
      obtain rfl : k = n2 := by omega
      exact ⟨ret_bool (by rw [HF.out]; symm; simp; exact eqToV_all HXL.out HVL.out hto), x1.trans hq.ext⟩
end Go.Proofs.Ytebjdchfofhmhaa
