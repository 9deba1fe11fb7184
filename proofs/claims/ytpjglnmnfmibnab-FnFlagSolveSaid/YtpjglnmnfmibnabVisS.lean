/-
  Contracts of the reference's functions over lists of visibilities: validity, a visibility in any order of the antennas.
-/
import Derived.Test.YtpjglnmnfmibnabVisV
namespace Go.Proofs.Ytpjglnmnfmibnab
open Go.RowKit
set_option linter.unusedSimpArgs false

theorem rg1_in {lim a b : Int} : rg1 lim (a, b) = ((decide (1 ≤ a) && decide (a ≤ lim)) && phB b) := by
  unfold rg1 phB
  rw [Bool.and_assoc]
set_option maxHeartbeats 1000000 in
theorem specVisValid_any (n : Int) (A : Option Addr) (m c : Nat) (l : VL) (w : World) (hn : l.length = m) (hz : m ≤ 9223372036854775807) (h : Rd w w.heap.size A m c (pairs l)) :
    Calls Try.prog 28 #[.int .i64 n, .slice A m c] w fun e w' => e = .returned (.bool (visB n l)) ∧ Quiet w w' := by
  have HV : Hid (visB n l = (mnB n && decide ((l.length : Int) = nbI n) && rgB 1000000 l)) := rfl
  by_cases h0 : nbI n = 0
  · have H0 := Lib.hid h0
    have H1 : Hid (mnB n = false) := nbI_zero.1 h0
    clear hn h h0
    go_enter Try.func28, Try.ntmps28
    go_wp2_with (go_at_call 38; refine (specBaseMany_any _ _).mono ?_; rintro e w' ⟨rfl, rfl⟩; rw [H0.out])
    go_ret
    exact ⟨ret_bool (by rw [HV.out, H1.out]; rfl), Quiet.refl w⟩
  · have h0' : (nbI n == 0) = false := by simpa using h0
    have H1 : Hid (mnB n = true) := by
      show _ = _
      rcases e : mnB n with _ | _
      · exact absurd (nbI_zero.2 e) h0
      · rfl
    by_cases h2 : (m : Int) = nbI n
    · have H2 : Hid (decide ((l.length : Int) = nbI n) = true) := by show _ = _; rw [hn]; simpa using h2
      have h2' : ((m : Int) != nbI n) = false := by simpa using h2
      have HN := Lib.hid hn
      clear hn h0 h2
      go_enter Try.func28, Try.ntmps28
      go_wp2_with (go_at_call 38; refine (specBaseMany_any _ _).mono ?_; rintro e w' ⟨rfl, rfl⟩)
      go_loopw [5] (fun i wr => ∃ k : Nat, k ≤ m ∧ i = .int .i64 k ∧ rgTo 1000000 l k ∧ Quiet w wr) (fun i _ => m - (intOf i).toNat)
      case atStart => exact ⟨0, Nat.zero_le _, rfl, fun j hj => by omega, Quiet.refl w⟩
      case round =>
        obtain ⟨k, hk, rfl, hr, q, rfl⟩ := hrel
        have HR := Lib.hid hr
        clear hr
        by_cases hlt : k < m
        · obtain ⟨g, off, rfl⟩ := h.addr (by rw [pairs_length, HN.out]; omega)
          have hc0 := (h.drewN q).fst (some_v (l := l) (k := k) (by rw [HN.out]; exact hlt))
          have hc1 := (h.drewN q).snd (some_v (l := l) (k := k) (by rw [HN.out]; exact hlt))
          have HE := Lib.hid (rg1_in (lim := 1000000) (a := vAm l k) (b := vPh l k))
          have h4 : (k : Int) < (m : Int) := by omega
          have h5 : (0 : Int) ≤ (k : Int) := by omega
          rcases h6 : (decide (1 ≤ vAm l k) && decide (vAm l k ≤ 1000000)) with _ | _
          · have H6 := Lib.hid h6
            have HF : Hid (rgB 1000000 l = false) := rgTo_no (by rw [HN.out]; exact hlt) (by rw [HE.out, h6]; rfl)
            clear h6
            go_wp2_with (go_at_call 59; refine (in_any _ _ _ _).mono ?_; rintro e w' ⟨rfl, rfl⟩; rw [H6.out])
            go_ret
            exact ⟨ret_bool (by rw [HV.out, HF.out]; simp), ⟨_, rfl⟩⟩
          · have H6 := Lib.hid h6
            rcases h7 : phB (vPh l k) with _ | _
            · have H7 := Lib.hid h7
              have HF : Hid (rgB 1000000 l = false) := rgTo_no (by rw [HN.out]; exact hlt) (by rw [HE.out, h6, h7]; rfl)
              clear h6 h7
              go_wp2_with (first | (go_at_call 59; refine (in_any _ _ _ _).mono ?_; rintro e w' ⟨rfl, rfl⟩; rw [H6.out]) | (go_at_call 60; refine (l2Phase_any _ _).mono ?_; rintro e w' ⟨rfl, rfl⟩; rw [H7.out]))
              go_ret
              exact ⟨ret_bool (by rw [HV.out, HF.out]; simp), ⟨_, rfl⟩⟩
            · have H7 := Lib.hid h7
              have HT : Hid (rgTo 1000000 l (k + 1)) := rgTo_succ HR.out (by rw [HE.out, h6, h7]; rfl)
              clear h6 h7
              go_wp2_with (first | (go_at_call 59; refine (in_any _ _ _ _).mono ?_; rintro e w' ⟨rfl, rfl⟩; rw [H6.out]) | (go_at_call 60; refine (l2Phase_any _ _).mono ?_; rintro e w' ⟨rfl, rfl⟩; rw [H7.out]))
              go_roundw
              case rel => exact ⟨k + 1, by omega, by go_num, HT.out, ⟨_, rfl⟩⟩
              case measure => simp [intOf]; omega
        · obtain rfl : k = m := by omega
          have HT : Hid (rgB 1000000 l = true) := rgTo_all (by rw [HN.out]; exact HR.out)
          go_wp2
          go_ret
          exact ⟨ret_bool (by rw [HV.out, H1.out, H2.out, HT.out]; rfl), ⟨_, rfl⟩⟩
    · have H2 : Hid (decide ((l.length : Int) = nbI n) = false) := by show _ = _; rw [hn]; simpa using h2
      have h2' : ((m : Int) != nbI n) = true := by simpa using h2
      clear hn h h0 h2
      go_enter Try.func28, Try.ntmps28
      go_wp2_with (go_at_call 38; refine (specBaseMany_any _ _).mono ?_; rintro e w' ⟨rfl, rfl⟩)
      go_ret
      exact ⟨ret_bool (by rw [HV.out, H1.out, H2.out]; rfl), Quiet.refl w⟩
set_option maxHeartbeats 1000000 in
theorem specGainsValid_any (n : Int) (A : Option Addr) (m c : Nat) (l : VL) (w : World) (hn : l.length = m) (hz : m ≤ 9223372036854775807) (h : Rd w w.heap.size A m c (pairs l)) :
    Calls Try.prog 74 #[.int .i64 n, .slice A m c] w fun e w' => e = .returned (.bool (gaB n l)) ∧ Quiet w w' := by
  have HV : Hid (gaB n l = (mnB n && decide ((l.length : Int) = n) && rgB 99 l)) := rfl
  by_cases h0 : nbI n = 0
  · have H0 := Lib.hid h0
    have H1 : Hid (mnB n = false) := nbI_zero.1 h0
    clear hn h h0
    go_enter Try.func74, Try.ntmps74
    go_wp2_with (go_at_call 38; refine (specBaseMany_any _ _).mono ?_; rintro e w' ⟨rfl, rfl⟩; rw [H0.out])
    go_ret
    exact ⟨ret_bool (by rw [HV.out, H1.out]; rfl), Quiet.refl w⟩
  · have h0' : (nbI n == 0) = false := by simpa using h0
    have H1 : Hid (mnB n = true) := by
      show _ = _
      rcases e : mnB n with _ | _
      · exact absurd (nbI_zero.2 e) h0
      · rfl
    by_cases h2 : (m : Int) = n
    · subst h2
      have H2 : Hid (decide ((l.length : Int) = (m : Int)) = true) := by show _ = _; rw [hn]; simp
      have HN := Lib.hid hn
      clear hn h0
      go_enter Try.func74, Try.ntmps74
      go_wp2_with (go_at_call 38; refine (specBaseMany_any _ _).mono ?_; rintro e w' ⟨rfl, rfl⟩)
      go_loopw [5] (fun i wr => ∃ k : Nat, k ≤ m ∧ i = .int .i64 k ∧ rgTo 99 l k ∧ Quiet w wr) (fun i _ => m - (intOf i).toNat)
      case atStart => exact ⟨0, Nat.zero_le _, rfl, fun j hj => by omega, Quiet.refl w⟩
      case round =>
        obtain ⟨k, hk, rfl, hr, q, rfl⟩ := hrel
        have HR := Lib.hid hr
        clear hr
        by_cases hlt : k < m
        · obtain ⟨g, off, rfl⟩ := h.addr (by rw [pairs_length, HN.out]; omega)
          have hc0 := (h.drewN q).fst (some_v (l := l) (k := k) (by rw [HN.out]; exact hlt))
          have hc1 := (h.drewN q).snd (some_v (l := l) (k := k) (by rw [HN.out]; exact hlt))
          have HE := Lib.hid (rg1_in (lim := 99) (a := vAm l k) (b := vPh l k))
          have h4 : (k : Int) < (m : Int) := by omega
          have h5 : (0 : Int) ≤ (k : Int) := by omega
          rcases h6 : (decide (1 ≤ vAm l k) && decide (vAm l k ≤ 99)) with _ | _
          · have H6 := Lib.hid h6
            have HF : Hid (rgB 99 l = false) := rgTo_no (by rw [HN.out]; exact hlt) (by rw [HE.out, h6]; rfl)
            clear h6
            go_wp2_with (go_at_call 59; refine (in_any _ _ _ _).mono ?_; rintro e w' ⟨rfl, rfl⟩; rw [H6.out])
            go_ret
            exact ⟨ret_bool (by rw [HV.out, HF.out]; simp), ⟨_, rfl⟩⟩
          · have H6 := Lib.hid h6
            rcases h7 : phB (vPh l k) with _ | _
            · have H7 := Lib.hid h7
              have HF : Hid (rgB 99 l = false) := rgTo_no (by rw [HN.out]; exact hlt) (by rw [HE.out, h6, h7]; rfl)
              clear h6 h7
              go_wp2_with (first | (go_at_call 59; refine (in_any _ _ _ _).mono ?_; rintro e w' ⟨rfl, rfl⟩; rw [H6.out]) | (go_at_call 60; refine (l2Phase_any _ _).mono ?_; rintro e w' ⟨rfl, rfl⟩; rw [H7.out]))
              go_ret
              exact ⟨ret_bool (by rw [HV.out, HF.out]; simp), ⟨_, rfl⟩⟩
            · have H7 := Lib.hid h7
              have HT : Hid (rgTo 99 l (k + 1)) := rgTo_succ HR.out (by rw [HE.out, h6, h7]; rfl)
              clear h6 h7
              go_wp2_with (first | (go_at_call 59; refine (in_any _ _ _ _).mono ?_; rintro e w' ⟨rfl, rfl⟩; rw [H6.out]) | (go_at_call 60; refine (l2Phase_any _ _).mono ?_; rintro e w' ⟨rfl, rfl⟩; rw [H7.out]))
              go_roundw
              case rel => exact ⟨k + 1, by omega, by go_num, HT.out, ⟨_, rfl⟩⟩
              case measure => simp [intOf]; omega
        · obtain rfl : k = m := by omega
          have HT : Hid (rgB 99 l = true) := rgTo_all (by rw [HN.out]; exact HR.out)
          go_wp2
          go_ret
          exact ⟨ret_bool (by rw [HV.out, H1.out, H2.out, HT.out]; rfl), ⟨_, rfl⟩⟩
    · have H2 : Hid (decide ((l.length : Int) = n) = false) := by show _ = _; rw [hn]; simpa using h2
      have h2' : ((m : Int) != n) = true := by simpa using h2
      clear hn h h0 h2
      go_enter Try.func74, Try.ntmps74
      go_wp2_with (go_at_call 38; refine (specBaseMany_any _ _).mono ?_; rintro e w' ⟨rfl, rfl⟩)
      go_ret
      exact ⟨ret_bool (by rw [HV.out, H1.out, H2.out]; rfl), Quiet.refl w⟩
theorem l15Two_any (n : Int) (A B : Option Addr) (m c p d : Nat) (l k : VL) (w : World) (hn : l.length = m) (hz : m ≤ 9223372036854775807) (h : Rd w w.heap.size A m c (pairs l)) (hn2 : k.length = p) (hz2 : p ≤ 9223372036854775807) (h2 : Rd w w.heap.size B p d (pairs k)) :
    Calls Try.prog 44 #[.int .i64 n, .slice A m c, .slice B p d] w fun e w' => e = .returned (.bool (visB n l && visB n k)) ∧ Quiet w w' := by
  have H1 := Lib.hid (specVisValid_any n A m c l w hn hz h)
  have H2 := Lib.hid (fun q => specVisValid_any n B p d k (w.drewN q) hn2 hz2 (h2.drewN q))
  rcases e1 : visB n l with _ | _
  · rw [e1] at H1
    clear hn h hn2 h2 e1
    go_enter Try.func44, Try.ntmps44
    go_wp2_with fail
    refine H1.out.mono ?_
    rintro e w1 ⟨rfl, q, rfl⟩
    go_wp2
    go_ret
    exact ⟨rfl, ⟨_, rfl⟩⟩
  · rw [e1] at H1
    clear hn h hn2 h2 e1
    go_enter Try.func44, Try.ntmps44
    go_wp2_with fail
    refine H1.out.mono ?_
    rintro e w1 ⟨rfl, q, rfl⟩
    go_wp2_with fail
    refine (H2.out q).mono ?_
    rintro e w2 ⟨rfl, q2, rfl⟩
    go_wp2
    go_ret
    exact ⟨rfl, ⟨_, rfl⟩⟩
set_option maxHeartbeats 400000 in
theorem l11Get_any (N : Nat) (A : Option Addr) (m c : Nat) (l : VL) (i j : Nat) (w : World) (hN : N < 8) (hi : i < N) (hj : j < N) (hne : i ≠ j) (hn : l.length = nb N) (hm : m = nb N) (hr : rgB 1000000 l = true) (h : Rd w w.heap.size A m c (pairs l)) :
    Calls Try.prog 67 #[.int .i64 (N : Int), .slice A m c, .int .i64 (i : Int), .int .i64 (j : Int)] w fun e w' => e = .returned (.agg #[.int .i64 (vgA N l i j), .int .i64 (vgP N l i j)]) ∧ Ext w w' := by
  have hlt := bAt_lt hN hi hj hne
  have hrg := rgB_at hr (k := bAt N i j) (by rw [hn]; exact hlt)
  obtain ⟨g, off, rfl⟩ := h.addr (by rw [pairs_length, hn]; omega)
  have h2 : (bAt N i j : Int) < (m : Int) := by omega
  have h3 : (0 : Int) ≤ (bAt N i j : Int) := by omega
  have x0 : Ext w (w.alloc (.cells #[.int .i64 0, .int .i64 0] 30)) := (Ext.refl w).alloc _
  have h' := h.ext x0
  have hc0 := h'.fst (some_v (l := l) (k := bAt N i j) (by rw [hn]; exact hlt))
  have hc1 := h'.snd (some_v (l := l) (k := bAt N i j) (by rw [hn]; exact hlt))
  have HA : Hid (vgA N l i j = vAm l (bAt N i j)) := rfl
  rcases Nat.lt_or_ge j i with hd | hd
  · have HP : Hid (vgP N l i j = (-(vPh l (bAt N i j))) % 360) := by show _ = _; unfold vgP bAt; rw [if_pos hd, if_pos hd]
    have hd' : decide (j < i) = true := by simpa using hd
    obtain ⟨p1, p2, p3, p4⟩ := hrg
    clear h h' hn hr hm x0
    generalize hq : bAt N i j = q at *
    go_enter Try.func67, Try.ntmps67
    go_wp2_with fail
    refine (specBaseIndex_any N i j _ hN hi hj hne).mono ?_
    rintro e w' ⟨rfl, rfl⟩
    rw [hq]
    clear hq
    go_wp2_with fail
    refine (specPhaseOf_any _ _).mono ?_
    rintro e w' ⟨rfl, rfl⟩
    go_wp2
    exact bodyPost_ret (v := .agg #[.int .i64 (vAm l q), .int .i64 ((-(vPh l q)) % 360)]) (by simp [results, Try.results67, go_sem]) rfl ⟨by rw [HA.out, HP.out], ((Ext.refl w).alloc _).alloc _⟩
  · have hd0 : i < j := by omega
    have HP : Hid (vgP N l i j = vPh l (bAt N i j)) := by show _ = _; unfold vgP bAt; rw [if_neg (by omega), if_neg (by omega)]
    have hd' : decide (j < i) = false := by simp; omega
    clear h h' hn hr hm x0
    generalize hq : bAt N i j = q at *
    go_enter Try.func67, Try.ntmps67
    go_wp2_with fail
    refine (specBaseIndex_any N i j _ hN hi hj hne).mono ?_
    rintro e w' ⟨rfl, rfl⟩
    rw [hq]
    clear hq
    go_wp2
    exact bodyPost_ret (v := .agg #[.int .i64 (vAm l q), .int .i64 (vPh l q)]) (by simp [results, Try.results67, go_sem]) rfl ⟨by rw [HA.out, HP.out], ((Ext.refl w).alloc _).alloc _⟩
end Go.Proofs.Ytpjglnmnfmibnab
