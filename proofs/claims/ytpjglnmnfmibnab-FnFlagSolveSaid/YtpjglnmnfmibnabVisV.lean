/-
  Contracts of the functions over lists of visibilities, of the program and of the reference: validity, a visibility in any order of the antennas.
-/
import Derived.Test.YtpjglnmnfmibnabPhs
import Derived.Test.YtpjglnmnfmibnabPVis
import Derived.Test.YtpjglnmnfmibnabStruct
import Derived.StillTailTactics
namespace Go.Proofs.Ytpjglnmnfmibnab
open Go.RowKit
set_option linter.unusedSimpArgs false

theorem pairs_fst {l : VL} {k : Nat} (h : k < l.length) : (pairs l)[k * 2]? = some (.int .i64 (vAm l k)) := pairs_at0 (some_v h)
theorem pairs_snd {l : VL} {k : Nat} (h : k < l.length) : (pairs l)[k * 2 + 1]? = some (.int .i64 (vPh l k)) := pairs_at1 (some_v h)
/-- the first k visibilities are in range -/
def rgTo (lim : Int) (l : VL) (k : Nat) : Prop := ∀ j, j < k → rg1 lim (vAm l j, vPh l j) = true
theorem rgTo_succ {lim : Int} {l : VL} {k : Nat} (h : rgTo lim l k) (e : rg1 lim (vAm l k, vPh l k) = true) : rgTo lim l (k + 1) := by
  intro j hj
  by_cases hk : j = k
  · subst hk; exact e
  · exact h j (by omega)
theorem rgTo_all {lim : Int} {l : VL} (h : rgTo lim l l.length) : rgB lim l = true := rgB_mk fun k hk => by
  have := h k hk
  simp only [rg1, Bool.and_eq_true, decide_eq_true_eq] at this
  exact ⟨this.1.1.1, this.1.1.2, this.1.2, this.2⟩
theorem rgTo_no {lim : Int} {l : VL} {k : Nat} (hk : k < l.length) (e : rg1 lim (vAm l k, vPh l k) = false) : rgB lim l = false := by
  rcases h : rgB lim l with _ | _
  · rfl
  · have := List.all_eq_true.1 h _ (List.mem_of_getElem? (some_v hk))
    rw [this] at e; cases e
theorem rg1_parts {lim a b : Int} : rg1 lim (a, b) = (!decide (a < 1) && !decide (lim < a) && phB b) := by
  unfold rg1 phB
  rw [Bool.eq_iff_iff]
  simp
  omega
set_option maxHeartbeats 1000000 in
theorem visInRange_any (A : Option Addr) (n c : Nat) (l : VL) (lim : Int) (w : World) (hn : l.length = n) (hz : n ≤ 9223372036854775807) (h : Rd w w.heap.size A n c (pairs l)) :
    Calls Try.prog 51 #[.slice A n c, .int .i64 lim] w fun e w' => e = .returned (.bool (rgB lim l)) ∧ Ext w w' := by
  have HN := Lib.hid hn
  clear hn
  go_enter Try.func51, Try.ntmps51
  go_wp2
  go_loopw [9] (fun i wr => ∃ k : Nat, k ≤ n ∧ i = .int .i64 k ∧ rgTo lim l k ∧ Ext w wr) (fun i _ => n - (intOf i).toNat)
  case atStart => exact ⟨0, Nat.zero_le _, rfl, fun j hj => by omega, Ext.refl w⟩
  case round =>
    obtain ⟨k, hk, rfl, hr, he⟩ := hrel
    by_cases hlt : k < n
    · obtain ⟨g, off, rfl⟩ := h.addr (by rw [pairs_length, HN.out]; omega)
      have hc0 := (h.below he.below).fst (some_v (l := l) (k := k) (by rw [HN.out]; exact hlt))
      have hc1 := (h.below he.below).snd (some_v (l := l) (k := k) (by rw [HN.out]; exact hlt))
      have HE := Lib.hid (rg1_parts (lim := lim) (a := vAm l k) (b := vPh l k))
      have HR := Lib.hid hr
      have h2 : (k : Int) < (n : Int) := by omega
      clear hr
      rcases h1 : decide (vAm l k < 1) with _ | _
      · rcases h3 : decide (lim < vAm l k) with _ | _
        · rcases h4 : phB (vPh l k) with _ | _
          · have H4 := Lib.hid h4
            have HF : Hid (rgB lim l = false) := rgTo_no (by rw [HN.out]; exact hlt) (by rw [HE.out, h1, h3, h4]; rfl)
            clear h4
            go_wp2_with (go_at_call 72; refine (isPhase_any _ _).mono ?_; rintro e w' ⟨rfl, rfl⟩; rw [H4.out])
            go_ret
            exact ⟨ret_bool HF.out.symm, by repeat (first | exact he | apply Ext.alloc)⟩
          · have H4 := Lib.hid h4
            have HT : Hid (rgTo lim l (k + 1)) := rgTo_succ HR.out (by rw [HE.out, h1, h3, h4]; rfl)
            clear h4
            go_wp2_with (go_at_call 72; refine (isPhase_any _ _).mono ?_; rintro e w' ⟨rfl, rfl⟩; rw [H4.out])
            go_roundw
            case rel => exact ⟨k + 1, by omega, by go_num, HT.out, by repeat (first | exact he | apply Ext.alloc)⟩
            case measure => simp [intOf]; omega
        · have HF : Hid (rgB lim l = false) := rgTo_no (by rw [HN.out]; exact hlt) (by rw [HE.out, h1, h3]; rfl)
          go_wp2
          go_ret
          exact ⟨ret_bool HF.out.symm, by repeat (first | exact he | apply Ext.alloc)⟩
      · have HF : Hid (rgB lim l = false) := rgTo_no (by rw [HN.out]; exact hlt) (by rw [HE.out, h1]; rfl)
        go_wp2
        go_ret
        exact ⟨ret_bool HF.out.symm, by repeat (first | exact he | apply Ext.alloc)⟩
    · obtain rfl : k = n := by omega
      have HT : Hid (rgB lim l = true) := rgTo_all (by rw [HN.out]; exact hr)
      clear hr
      go_wp2
      go_ret
      exact ⟨ret_bool HT.out.symm, he⟩
set_option maxHeartbeats 400000 in
theorem visValid_any (n : Int) (A : Option Addr) (m c : Nat) (l : VL) (w : World) (hn : l.length = m) (hz : m ≤ 9223372036854775807) (h : Rd w w.heap.size A m c (pairs l)) :
    Calls Try.prog 23 #[.int .i64 n, .slice A m c] w fun e w' => e = .returned (.bool (visB n l)) ∧ Ext w w' := by
  have HV : Hid (visB n l = (mnB n && decide ((l.length : Int) = nbI n) && rgB 1000000 l)) := rfl
  have HR := Lib.hid (visInRange_any A m c l 1000000 w hn hz h)
  rcases h1 : mnB n with _ | _
  · have H1 := Lib.hid h1
    clear hn h h1
    go_enter Try.func23, Try.ntmps23
    go_wp2_with (go_at_call 48; refine (isMany_any _ _).mono ?_; rintro e w' ⟨rfl, rfl⟩; rw [H1.out])
    go_ret
    exact ⟨ret_bool (by rw [HV.out, H1.out]; rfl), Ext.refl w⟩
  · have H1 := Lib.hid h1
    by_cases h2 : (m : Int) = nbI n
    · have H2 : Hid (decide ((l.length : Int) = nbI n) = true) := by show _ = _; rw [hn]; simpa using h2
      have h2' : ((m : Int) == nbI n) = true := by simpa using h2
      clear hn h h1 h2
      go_enter Try.func23, Try.ntmps23
      go_wp2_with (first | (go_at_call 48; refine (isMany_any _ _).mono ?_; rintro e w' ⟨rfl, rfl⟩; rw [H1.out]) | (go_at_call 40; refine (baseMany_any _ _).mono ?_; rintro e w' ⟨rfl, rfl⟩) | (go_at_call 51; refine HR.out.mono ?_; rintro e w1 ⟨rfl, x1⟩))
      go_ret
      exact ⟨ret_bool (by rw [HV.out, H1.out, H2.out]; rfl), x1⟩
    · have H2 : Hid (decide ((l.length : Int) = nbI n) = false) := by show _ = _; rw [hn]; simpa using h2
      have h2' : ((m : Int) == nbI n) = false := by simpa using h2
      clear hn h h1 h2
      go_enter Try.func23, Try.ntmps23
      go_wp2_with (first | (go_at_call 48; refine (isMany_any _ _).mono ?_; rintro e w' ⟨rfl, rfl⟩; rw [H1.out]) | (go_at_call 40; refine (baseMany_any _ _).mono ?_; rintro e w' ⟨rfl, rfl⟩))
      go_ret
      exact ⟨ret_bool (by rw [HV.out, H1.out, H2.out]; rfl), Ext.refl w⟩
theorem phaseOf_s (x : Int) (w : World) : Calls Try.prog 11 #[.int .i64 x] w fun e w' => e = .returned (.int .i64 (x % 360)) ∧ w' = w := (phaseOf_any x w).mono fun _ _ h => ⟨h.1, h.2.symm⟩
set_option maxRecDepth 100000 in
set_option maxHeartbeats 400000 in
theorem opposite_v (a b : Int) (w : World) (h1 : 0 ≤ b) (h2 : b < 360) :
    Calls Try.prog 69 #[.agg #[.int .i64 a, .int .i64 b]] w fun e w' => e = .returned (.agg #[.int .i64 a, .int .i64 ((-b) % 360)]) ∧ Ext w w' := by
  have x0 : Ext w ((w.alloc (.cells #[.int .i64 a, .int .i64 b] 30)).alloc (.cells #[.int .i64 0, .int .i64 0] 30)) := ((Ext.refl w).alloc _).alloc _
  have S0 : St ((w.alloc (.cells #[.int .i64 a, .int .i64 b] 30)).alloc (.cells #[.int .i64 0, .int .i64 0] 30)) w.heap.size #[.int .i64 a, .int .i64 b] 30 := (St.new w _ _).ext ((Ext.refl _).alloc _)
  have S1 := St.new (w.alloc (.cells #[.int .i64 a, .int .i64 b] 30)) #[.int .i64 0, .int .i64 0] 30
  rw [World.size_alloc] at S1
  go_enter Try.func69, Try.ntmps69
  go_wp2_with fail
  generalize ((w.alloc (.cells #[.int .i64 a, .int .i64 b] 30)).alloc (.cells #[.int .i64 0, .int .i64 0] 30)) = w1 at *
  have k0 := S0.cell0
  have k1 := S0.cell1
  have k2 := S1.cell0
  have k3 := S1.cell1
  have k4 := S1.frozen 0
  have k5 := S1.frozen 1
  have k6 := S1.lt
  have k7 := Nat.ne_of_lt k6
  have HS := Lib.hid S1
  have HX := Lib.hid x0
  clear S0 S1 x0
  go_still_tail 7, (by kernel_rfl)
  still_call (phaseOf_s _ _)
  repeat still_step
  refine wpStill_nil ?_
  change wpList _ _ _ _ _ w1.drew
  have S2 := HS.out.ext ((Ext.refl w1).drew)
  have X2 := HX.out.drew
  clear k0 k1 k2 k3 k4 k5 k6 k7 HS HX
  generalize w1.drew = w2 at *
  have k2 := S2.cell0
  have k3 := S2.cell1
  have k4 := S2.frozen 0
  have k5 := S2.frozen 1
  have k6 := S2.lt
  have R := S2.put2 (.int .i64 a) (.int .i64 ((-b) % 360))
  have r0 := R.cell0
  have r1 := R.cell1
  have HX2 := Lib.hid X2
  clear R S2 X2
  go_wp2
  exact bodyPost_ret (v := .agg #[.int .i64 a, .int .i64 ((-b) % 360)]) (by simp [results, Try.results69, go_sem, r0, r1]) rfl ⟨rfl, HX2.out.put2 (by simp) _ _⟩
set_option maxHeartbeats 400000 in
theorem visGet_any (N : Nat) (A : Option Addr) (m c : Nat) (l : VL) (i j : Nat) (w : World) (hN : N < 8) (hi : i < N) (hj : j < N) (hne : i ≠ j) (hn : l.length = nb N) (hm : m = nb N) (hr : rgB 1000000 l = true) (h : Rd w w.heap.size A m c (pairs l)) :
    Calls Try.prog 42 #[.int .i64 (N : Int), .slice A m c, .int .i64 (i : Int), .int .i64 (j : Int)] w fun e w' => e = .returned (.agg #[.int .i64 (vgA N l i j), .int .i64 (vgP N l i j)]) ∧ Ext w w' := by
  have hlt := bAt_lt hN hi hj hne
  have hrg := rgB_at hr (k := bAt N i j) (by rw [hn]; exact hlt)
  obtain ⟨g, off, rfl⟩ := h.addr (by rw [pairs_length, hn]; omega)
  have h2 : (bAt N i j : Int) < (m : Int) := by omega
  have h3 : (0 : Int) ≤ (bAt N i j : Int) := by omega
  have x0 : Ext w (w.alloc (.cells #[.int .i64 0, .int .i64 0] 30)) := (Ext.refl w).alloc _
  have S0 := St.new w #[.int .i64 0, .int .i64 0] 30
  have h' := h.ext x0
  have hc0 := h'.fst (some_v (l := l) (k := bAt N i j) (by rw [hn]; exact hlt))
  have hc1 := h'.snd (some_v (l := l) (k := bAt N i j) (by rw [hn]; exact hlt))
  have HA : Hid (vgA N l i j = vAm l (bAt N i j)) := rfl
  rcases Nat.lt_or_ge j i with hd | hd
  · have HP : Hid (vgP N l i j = (-(vPh l (bAt N i j))) % 360) := by show _ = _; unfold vgP bAt; rw [if_pos hd, if_pos hd]
    have hd' : decide (j < i) = true := by simpa using hd
    obtain ⟨p1, p2, p3, p4⟩ := hrg
    clear h h' hn hr hm
    generalize hq : bAt N i j = q at *
    go_enter Try.func42, Try.ntmps42
    go_wp2_with fail
    refine (baseAt_any N i j _ hN hi hj hne).mono ?_
    rintro e w' ⟨rfl, rfl⟩
    rw [hq]
    clear hq
    go_wp2_with fail
    refine (opposite_v (vAm l q) (vPh l q) _ p3 p4).mono ?_
    rintro e w2 ⟨rfl, x2⟩
    have S2 := (S0.ext ((Ext.refl _).alloc (.cells #[.int .i64 (vAm l q), .int .i64 (vPh l q)] 30))).ext x2
    have X2 := (x0.trans ((Ext.refl _).alloc (.cells #[.int .i64 (vAm l q), .int .i64 (vPh l q)] 30))).trans x2
    have k2 := S2.cell0
    have k3 := S2.cell1
    have k4 := S2.frozen 0
    have k5 := S2.frozen 1
    have R := S2.put2 (.int .i64 (vAm l q)) (.int .i64 ((-(vPh l q)) % 360))
    have r0 := R.cell0
    have r1 := R.cell1
    have HX2 := Lib.hid X2
    clear R S2 X2 x0 S0 x2
    go_wp2
    exact bodyPost_ret (v := .agg #[.int .i64 (vAm l q), .int .i64 ((-(vPh l q)) % 360)]) (by simp [results, Try.results42, go_sem, r0, r1]) rfl ⟨by rw [HA.out, HP.out], HX2.out.put2 (Nat.le_refl _) _ _⟩
  · have hd0 : i < j := by omega
    have HP : Hid (vgP N l i j = vPh l (bAt N i j)) := by show _ = _; unfold vgP bAt; rw [if_neg (by omega), if_neg (by omega)]
    have hd' : decide (j < i) = false := by simp; omega
    clear h h' hn hr hm
    generalize hq : bAt N i j = q at *
    have S2 := S0.ext ((Ext.refl _).alloc (.cells #[.int .i64 (vAm l q), .int .i64 (vPh l q)] 30))
    have X2 := x0.trans ((Ext.refl _).alloc (.cells #[.int .i64 (vAm l q), .int .i64 (vPh l q)] 30))
    have k2 := S2.cell0
    have k3 := S2.cell1
    have k4 := S2.frozen 0
    have k5 := S2.frozen 1
    have R := S2.put2 (.int .i64 (vAm l q)) (.int .i64 (vPh l q))
    have r0 := R.cell0
    have r1 := R.cell1
    have HX2 := Lib.hid X2
    have HR := Lib.hid R
    clear S2 X2 x0 S0 R
    go_enter Try.func42, Try.ntmps42
    go_wp2_with fail
    refine (baseAt_any N i j _ hN hi hj hne).mono ?_
    rintro e w' ⟨rfl, rfl⟩
    rw [hq]
    clear hq
    go_wp2
    exact bodyPost_ret (v := .agg #[.int .i64 (vAm l q), .int .i64 (vPh l q)]) (by simp [results, Try.results42, go_sem, r0, r1]) rfl ⟨by rw [HA.out, HP.out], ((Ext.refl w).alloc _).alloc _⟩
end Go.Proofs.Ytpjglnmnfmibnab
