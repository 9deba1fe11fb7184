/-
  Contracts of the functions over lists of visibilities, of the program and of the reference: validity, a visibility in any order of the antennas.
-/
import Derived.Test.YtebjdchfofhmhaaPhs
import Derived.Test.YtebjdchfofhmhaaPVis
import Derived.Test.YtebjdchfofhmhaaStruct
import Derived.StillTailTactics
namespace Go.Proofs.Ytebjdchfofhmhaa
open Go.RowKit
set_option linter.unusedSimpArgs false

theorem pairs_fst {l : VL} {k : Nat} (h : k < l.length) : (pairs l)[k * 2]? = some (.int .i64 (vAm l k)) := pairs_at0 (some_v h)
theorem pairs_snd {l : VL} {k : Nat} (h : k < l.length) : (pairs l)[k * 2 + 1]? = some (.int .i64 (vPh l k)) := pairs_at1 (some_v h)
/-- the first k visibilities are in range -/
def rgTo (lim : Int) (l : VL) (k : Nat) : Prop := ∀ j, j < k → rg1 lim (vAm l j, vPh l j) = true
theorem rgTo_succ {lim : Int} {l : VL} {k : Nat} (h : rgTo lim l k) (e : rg1 lim (vAm l k, vPh l k) = true) : rgTo lim l (k + 1) := by
  intro j hj
  by_cases hk : j = k
  · subst hk; exact e
  · exact h j (by omega)
theorem rgTo_all {lim : Int} {l : VL} (h : rgTo lim l l.length) : rgB lim l = true := rgB_mk fun k hk => by
  have := h k hk
  simp only [rg1, Bool.and_eq_true, decide_eq_true_eq] at this
  exact ⟨this.1.1.1, this.1.1.2, this.1.2, this.2⟩
theorem rgTo_no {lim : Int} {l : VL} {k : Nat} (hk : k < l.length) (e : rg1 lim (vAm l k, vPh l k) = false) : rgB lim l = false := by
  rcases h : rgB lim l with _ | _
  · rfl
  · have := List.all_eq_true.1 h _ (List.mem_of_getElem? (some_v hk))
    rw [this] at e; cases e
theorem rg1_parts {lim a b : Int} : rg1 lim (a, b) = (!decide (a < 1) && !decide (lim < a) && phB b) := by
  unfold rg1 phB
  rw [Bool.eq_iff_iff]
  simp
  omega
set_option maxHeartbeats 1000000 in
theorem visInRange_any (A : Option Addr) (n c : Nat) (l : VL) (lim : Int) (w : World) (hn : l.length = n) (hz : n ≤ 9223372036854775807) (h : Rd w w.heap.size A n c (pairs l)) :
    Calls Try.prog 52 #[.slice A n c, .int .i64 lim] w fun e w' => e = .returned (.bool (rgB lim l)) ∧ Ext w w' := by
  have HN := Lib.hid hn
  clear hn
  go_enter Try.func52, Try.ntmps52
  go_wp2
  go_loopw [9] (fun i wr => ∃ k : Nat, k ≤ n ∧ i = .int .i64 k ∧ rgTo lim l k ∧ Ext w wr) (fun i _ => n - (intOf i).toNat)
  case atStart => exact ⟨0, Nat.zero_le _, rfl, fun j hj => by omega, Ext.refl w⟩
  case round =>
    obtain ⟨k, hk, rfl, hr, he⟩ := hrel
    by_cases hlt : k < n
    · obtain ⟨g, off, rfl⟩ := h.addr (by rw [pairs_length, HN.out]; omega)
      have hc0 := (h.below he.below).fst (some_v (l := l) (k := k) (by rw [HN.out]; exact hlt))
      have hc1 := (h.below he.below).snd (some_v (l := l) (k := k) (by rw [HN.out]; exact hlt))
      have HE := Lib.hid (rg1_parts (lim := lim) (a := vAm l k) (b := vPh l k))
      have HR := Lib.hid hr
      have h2 : (k : Int) < (n : Int) := by omega
      clear hr
      rcases h1 : decide (vAm l k < 1) with _ | _
      · rcases h3 : decide (lim < vAm l k) with _ | _
        · rcases h4 : phB (vPh l k) with _ | _
          · have H4 := Lib.hid h4
            have HF : Hid (rgB lim l = false) := rgTo_no (by rw [HN.out]; exact hlt) (by rw [HE.out, h1, h3, h4]; rfl)
            clear h4
            go_wp2_with (go_at_call 71; refine (isPhase_any _ _).mono ?_; rintro e w' ⟨rfl, rfl⟩; rw [H4.out])
            go_ret
            exact ⟨ret_bool HF.out.symm, by repeat (first | exact he | apply Ext.alloc)⟩
          · have H4 := Lib.hid h4
            have HT : Hid (rgTo lim l (k + 1)) := rgTo_succ HR.out (by rw [HE.out, h1, h3, h4]; rfl)
            clear h4
            go_wp2_with (go_at_call 71; refine (isPhase_any _ _).mono ?_; rintro e w' ⟨rfl, rfl⟩; rw [H4.out])
            go_roundw
            case rel => exact ⟨k + 1, by omega, by go_num, HT.out, by repeat (first | exact he | apply Ext.alloc)⟩
            case measure => simp [intOf]; omega
        · have HF : Hid (rgB lim l = false) := rgTo_no (by rw [HN.out]; exact hlt) (by rw [HE.out, h1, h3]; rfl)
          go_wp2
          go_ret
          exact ⟨ret_bool HF.out.symm, by repeat (first | exact he | apply Ext.alloc)⟩
      · have HF : Hid (rgB lim l = false) := rgTo_no (by rw [HN.out]; exact hlt) (by rw [HE.out, h1]; rfl)
        go_wp2
        go_ret
        exact ⟨ret_bool HF.out.symm, by repeat (first | exact he | apply Ext.alloc)⟩
    · obtain rfl : k = n := by omega
      have HT : Hid (rgB lim l = true) := rgTo_all (by rw [HN.out]; exact hr)
      clear hr
      go_wp2
      go_ret
      exact ⟨ret_bool HT.out.symm, he⟩
set_option maxHeartbeats 400000 in
theorem visValid_any (n : Int) (A : Option Addr) (m c : Nat) (l : VL) (w : World) (hn : l.length = m) (hz : m ≤ 9223372036854775807) (h : Rd w w.heap.size A m c (pairs l)) :
    Calls Try.prog 25 #[.int .i64 n, .slice A m c] w fun e w' => e = .returned (.bool (visB n l)) ∧ Ext w w' := by
  have HV : Hid (visB n l = (mnB n && decide ((l.length : Int) = nbI n) && rgB 1000000 l)) := rfl
  have HR := Lib.hid (visInRange_any A m c l 1000000 w hn hz h)
  rcases h1 : mnB n with _ | _
  · have H1 := Lib.hid h1
    clear hn h h1
    go_enter Try.func25, Try.ntmps25
    go_wp2_with (go_at_call 50; refine (isMany_any _ _).mono ?_; rintro e w' ⟨rfl, rfl⟩; rw [H1.out])
    go_ret
    exact ⟨ret_bool (by rw [HV.out, H1.out]; rfl), Ext.refl w⟩
  · have H1 := Lib.hid h1
    by_cases h2 : (m : Int) = nbI n
    · have H2 : Hid (decide ((l.length : Int) = nbI n) = true) := by show _ = _; rw [hn]; simpa using h2
      have h2' : ((m : Int) == nbI n) = true := by simpa using h2
      clear hn h h1 h2
      go_enter Try.func25, Try.ntmps25
      go_wp2_with (first | (go_at_call 50; refine (isMany_any _ _).mono ?_; rintro e w' ⟨rfl, rfl⟩; rw [H1.out]) | (go_at_call 51; refine (baseMany_any _ _).mono ?_; rintro e w' ⟨rfl, rfl⟩) | (go_at_call 52; refine HR.out.mono ?_; rintro e w1 ⟨rfl, x1⟩))
      go_ret
      exact ⟨ret_bool (by rw [HV.out, H1.out, H2.out]; rfl), x1⟩
    · have H2 : Hid (decide ((l.length : Int) = nbI n) = false) := by show _ = _; rw [hn]; simpa using h2
      have h2' : ((m : Int) == nbI n) = false := by simpa using h2
      clear hn h h1 h2
      go_enter Try.func25, Try.ntmps25
      go_wp2_with (first | (go_at_call 50; refine (isMany_any _ _).mono ?_; rintro e w' ⟨rfl, rfl⟩; rw [H1.out]) | (go_at_call 51; refine (baseMany_any _ _).mono ?_; rintro e w' ⟨rfl, rfl⟩))
      go_ret
      exact ⟨ret_bool (by rw [HV.out, H1.out, H2.out]; rfl), Ext.refl w⟩
set_option maxHeartbeats 400000 in
theorem gainsValid_any (n : Int) (A : Option Addr) (m c : Nat) (l : VL) (w : World) (hn : l.length = m) (hz : m ≤ 9223372036854775807) (h : Rd w w.heap.size A m c (pairs l)) :
    Calls Try.prog 56 #[.int .i64 n, .slice A m c] w fun e w' => e = .returned (.bool (gaB n l)) ∧ Ext w w' := by
  have HV : Hid (gaB n l = (mnB n && decide ((l.length : Int) = n) && rgB 99 l)) := rfl
  have HR := Lib.hid (visInRange_any A m c l 99 w hn hz h)
  rcases h1 : mnB n with _ | _
  · have H1 := Lib.hid h1
    clear hn h h1
    go_enter Try.func56, Try.ntmps56
    go_wp2_with (go_at_call 50; refine (isMany_any _ _).mono ?_; rintro e w' ⟨rfl, rfl⟩; rw [H1.out])
    go_ret
    exact ⟨ret_bool (by rw [HV.out, H1.out]; rfl), Ext.refl w⟩
  · have H1 := Lib.hid h1
    by_cases h2 : (m : Int) = n
    · have H2 : Hid (decide ((l.length : Int) = n) = true) := by show _ = _; rw [hn]; simpa using h2
      have h2' : ((m : Int) == n) = true := by simpa using h2
      clear hn h h1 h2
      go_enter Try.func56, Try.ntmps56
      go_wp2_with (first | (go_at_call 50; refine (isMany_any _ _).mono ?_; rintro e w' ⟨rfl, rfl⟩; rw [H1.out]) | (go_at_call 52; refine HR.out.mono ?_; rintro e w1 ⟨rfl, x1⟩))
      go_ret
      exact ⟨ret_bool (by rw [HV.out, H1.out, H2.out]; rfl), x1⟩
    · have H2 : Hid (decide ((l.length : Int) = n) = false) := by show _ = _; rw [hn]; simpa using h2
      have h2' : ((m : Int) == n) = false := by simpa using h2
      clear hn h h1 h2
      go_enter Try.func56, Try.ntmps56
      go_wp2_with (go_at_call 50; refine (isMany_any _ _).mono ?_; rintro e w' ⟨rfl, rfl⟩; rw [H1.out])
      go_ret
      exact ⟨ret_bool (by rw [HV.out, H1.out, H2.out]; rfl), Ext.refl w⟩
theorem phaseOf_s (x : Int) (w : World) : Calls Try.prog 57 #[.int .i64 x] w fun e w' => e = .returned (.int .i64 (x % 360)) ∧ w' = w := (phaseOf_any x w).mono fun _ _ h => ⟨h.1, h.2.symm⟩
set_option maxRecDepth 100000 in
set_option maxHeartbeats 400000 in
theorem opposite_v (a b : Int) (w : World) (h1 : 0 ≤ b) (h2 : b < 360) :
    Calls Try.prog 43 #[.agg #[.int .i64 a, .int .i64 b]] w fun e w' => e = .returned (.agg #[.int .i64 a, .int .i64 ((-b) % 360)]) ∧ Ext w w' := by
  have x0 : Ext w ((w.alloc (.cells #[.int .i64 a, .int .i64 b] 44)).alloc (.cells #[.int .i64 0, .int .i64 0] 44)) := ((Ext.refl w).alloc _).alloc _
  have S0 : St ((w.alloc (.cells #[.int .i64 a, .int .i64 b] 44)).alloc (.cells #[.int .i64 0, .int .i64 0] 44)) w.heap.size #[.int .i64 a, .int .i64 b] 44 := (St.new w _ _).ext ((Ext.refl _).alloc _)
  have S1 := St.new (w.alloc (.cells #[.int .i64 a, .int .i64 b] 44)) #[.int .i64 0, .int .i64 0] 44
  rw [World.size_alloc] at S1
  go_enter Try.func43, Try.ntmps43
  go_wp2_with fail
  generalize ((w.alloc (.cells #[.int .i64 a, .int .i64 b] 44)).alloc (.cells #[.int .i64 0, .int .i64 0] 44)) = w1 at *
  have k0 := S0.cell0
  have k1 := S0.cell1
  have k2 := S1.cell0
  have k3 := S1.cell1
  have k4 := S1.frozen 0
  have k5 := S1.frozen 1
  have k6 := S1.lt
  have k7 := Nat.ne_of_lt k6
  have HS := Lib.hid S1
  have HX := Lib.hid x0
  clear S0 S1 x0
  go_still_tail 7, (by kernel_rfl)
  still_call (phaseOf_s _ _)
  repeat still_step
  refine wpStill_nil ?_
  change wpList _ _ _ _ _ w1.drew
  have S2 := HS.out.ext ((Ext.refl w1).drew)
  have X2 := HX.out.drew
  clear k0 k1 k2 k3 k4 k5 k6 k7 HS HX
  generalize w1.drew = w2 at *
  have k2 := S2.cell0
  have k3 := S2.cell1
  have k4 := S2.frozen 0
  have k5 := S2.frozen 1
  have k6 := S2.lt
  have R := S2.put2 (.int .i64 a) (.int .i64 ((-b) % 360))
  have r0 := R.cell0
  have r1 := R.cell1
  have HX2 := Lib.hid X2
  clear R S2 X2
  go_wp2
  exact bodyPost_ret (v := .agg #[.int .i64 a, .int .i64 ((-b) % 360)]) (by simp [results, Try.results43, go_sem, r0, r1]) rfl ⟨rfl, HX2.out.put2 (by simp) _ _⟩
end Go.Proofs.Ytebjdchfofhmhaa
