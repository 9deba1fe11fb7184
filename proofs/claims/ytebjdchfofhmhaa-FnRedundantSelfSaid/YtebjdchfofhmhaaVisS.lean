/-
  Contracts of the reference's functions over lists of visibilities: validity, a visibility in any order of the antennas.
-/
import Derived.Test.YtebjdchfofhmhaaVisV
namespace Go.Proofs.Ytebjdchfofhmhaa
open Go.RowKit
set_option linter.unusedSimpArgs false

theorem rg1_in {lim a b : Int} : rg1 lim (a, b) = ((decide (1 ≤ a) && decide (a ≤ lim)) && phB b) := by
  unfold rg1 phB
  rw [Bool.and_assoc]
set_option maxHeartbeats 1000000 in
theorem specVisValid_any (n : Int) (A : Option Addr) (m c : Nat) (l : VL) (w : World) (hn : l.length = m) (hz : m ≤ 9223372036854775807) (h : Rd w w.heap.size A m c (pairs l)) :
    Calls Try.prog 36 #[.int .i64 n, .slice A m c] w fun e w' => e = .returned (.bool (visB n l)) ∧ Quiet w w' := by
  have HV : Hid (visB n l = (mnB n && decide ((l.length : Int) = nbI n) && rgB 1000000 l)) := rfl
  by_cases h0 : nbI n = 0
  · have H0 := Lib.hid h0
    have H1 : Hid (mnB n = false) := nbI_zero.1 h0
    clear hn h h0
    go_enter Try.func36, Try.ntmps36
    go_wp2_with (go_at_call 61; refine (specBaseMany_any _ _).mono ?_; rintro e w' ⟨rfl, rfl⟩; rw [H0.out])
    go_ret
    exact ⟨ret_bool (by rw [HV.out, H1.out]; rfl), Quiet.refl w⟩
  · have h0' : (nbI n == 0) = false := by simpa using h0
    have H1 : Hid (mnB n = true) := by
      show _ = _
      rcases e : mnB n with _ | _
      · exact absurd (nbI_zero.2 e) h0
      · rfl
    by_cases h2 : (m : Int) = nbI n
    · have H2 : Hid (decide ((l.length : Int) = nbI n) = true) := by show _ = _; rw [hn]; simpa using h2
      have h2' : ((m : Int) != nbI n) = false := by simpa using h2
      have HN := Lib.hid hn
      clear hn h0 h2
      go_enter Try.func36, Try.ntmps36
      go_wp2_with (go_at_call 61; refine (specBaseMany_any _ _).mono ?_; rintro e w' ⟨rfl, rfl⟩)
      go_loopw [5] (fun i wr => ∃ k : Nat, k ≤ m ∧ i = .int .i64 k ∧ rgTo 1000000 l k ∧ Quiet w wr) (fun i _ => m - (intOf i).toNat)
      case atStart => exact ⟨0, Nat.zero_le _, rfl, fun j hj => by omega, Quiet.refl w⟩
      case round =>
        obtain ⟨k, hk, rfl, hr, q, rfl⟩ := hrel
        have HR := Lib.hid hr
        clear hr
        by_cases hlt : k < m
        · obtain ⟨g, off, rfl⟩ := h.addr (by rw [pairs_length, HN.out]; omega)
          have hc0 := (h.drewN q).fst (some_v (l := l) (k := k) (by rw [HN.out]; exact hlt))
          have hc1 := (h.drewN q).snd (some_v (l := l) (k := k) (by rw [HN.out]; exact hlt))
          have HE := Lib.hid (rg1_in (lim := 1000000) (a := vAm l k) (b := vPh l k))
          have h4 : (k : Int) < (m : Int) := by omega
          have h5 : (0 : Int) ≤ (k : Int) := by omega
          rcases h6 : (decide (1 ≤ vAm l k) && decide (vAm l k ≤ 1000000)) with _ | _
          · have H6 := Lib.hid h6
            have HF : Hid (rgB 1000000 l = false) := rgTo_no (by rw [HN.out]; exact hlt) (by rw [HE.out, h6]; rfl)
            clear h6
            go_wp2_with (go_at_call 60; refine (in_any _ _ _ _).mono ?_; rintro e w' ⟨rfl, rfl⟩; rw [H6.out])
            go_ret
            exact ⟨ret_bool (by rw [HV.out, HF.out]; simp), ⟨_, rfl⟩⟩
          · have H6 := Lib.hid h6
            rcases h7 : phB (vPh l k) with _ | _
            · have H7 := Lib.hid h7
              have HF : Hid (rgB 1000000 l = false) := rgTo_no (by rw [HN.out]; exact hlt) (by rw [HE.out, h6, h7]; rfl)
              clear h6 h7
              go_wp2_with (first | (go_at_call 60; refine (in_any _ _ _ _).mono ?_; rintro e w' ⟨rfl, rfl⟩; rw [H6.out]) | (go_at_call 62; refine (l2Phase_any _ _).mono ?_; rintro e w' ⟨rfl, rfl⟩; rw [H7.out]))
              go_ret
              exact ⟨ret_bool (by rw [HV.out, HF.out]; simp), ⟨_, rfl⟩⟩
            · have H7 := Lib.hid h7
              have HT : Hid (rgTo 1000000 l (k + 1)) := rgTo_succ HR.out (by rw [HE.out, h6, h7]; rfl)
              clear h6 h7
              go_wp2_with (first | (go_at_call 60; refine (in_any _ _ _ _).mono ?_; rintro e w' ⟨rfl, rfl⟩; rw [H6.out]) | (go_at_call 62; refine (l2Phase_any _ _).mono ?_; rintro e w' ⟨rfl, rfl⟩; rw [H7.out]))
              go_roundw
              case rel => exact ⟨k + 1, by omega, by go_num, HT.out, ⟨_, rfl⟩⟩
              case measure => simp [intOf]; omega
        · obtain rfl : k = m := by omega
          have HT : Hid (rgB 1000000 l = true) := rgTo_all (by rw [HN.out]; exact HR.out)
          go_wp2
          go_ret
          exact ⟨ret_bool (by rw [HV.out, H1.out, H2.out, HT.out]; rfl), ⟨_, rfl⟩⟩
    · have H2 : Hid (decide ((l.length : Int) = nbI n) = false) := by show _ = _; rw [hn]; simpa using h2
      have h2' : ((m : Int) != nbI n) = true := by simpa using h2
      clear hn h h0 h2
      go_enter Try.func36, Try.ntmps36
      go_wp2_with (go_at_call 61; refine (specBaseMany_any _ _).mono ?_; rintro e w' ⟨rfl, rfl⟩)
      go_ret
      exact ⟨ret_bool (by rw [HV.out, H1.out, H2.out]; rfl), Quiet.refl w⟩
end Go.Proofs.Ytebjdchfofhmhaa
