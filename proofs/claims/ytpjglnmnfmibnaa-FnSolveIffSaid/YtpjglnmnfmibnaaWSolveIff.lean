/-
  The walk of FnSolveIff: it returns true and writes nothing that was there.
-/
import Derived.Test.YtpjglnmnfmibnaaCloseB
import Derived.Test.YtpjglnmnfmibnaaDrawX
import Derived.Test.YtpjglnmnfmibnaaBaseI
import Derived.Test.YtpjglnmnfmibnaaSolSpec
import Derived.Test.YtpjglnmnfmibnaaInts
namespace Go.Proofs.Ytpjglnmnfmibnaa.fnSolveIff
open Go.RowKit
set_option linter.unusedVariables false

/-- phases are solved just where all closing phases with antenna 0 agree -/
theorem sp_iff {N : Nat} {l m : VL} (h1 : 2 ≤ N) (h2 : N ≤ 7) (hl : visB (N : Int) l = true) (hm : visB (N : Int) m = true) : spB (N : Int) l m = true ↔ cbOf N l (bp N) = cbOf N m (bp N) := by
  have e : spB (N : Int) l m = true ↔ rstL N l m (soL N l m N) (bp N) = 0 := by simp [spB, hl, hm]
  rw [e, rst_fit h2, fit_iff]
  unfold cbOf
  rw [List.map_inj_left]
  constructor
  · rintro h ⟨i, j⟩ hp
    obtain ⟨hp1, hp2⟩ := List.mem_filter.1 hp
    have hi : 0 < i := by simpa using hp2
    obtain ⟨hij, hj⟩ := bp_mem (by omega) hp1
    have a := h i j hij hj (bAt0_allF _ _)
    rw [soL_at hj, soL_at (by omega)] at a
    unfold soT at a
    rw [if_neg (by omega), if_neg (by omega)] at a
    unfold tri0 vgP
    simp only
    rw [if_neg (by omega), if_neg (by omega), if_pos (by omega), if_neg (by omega), if_neg (by omega), if_pos (by omega)]
    omega
  · intro h i j hij hj _
    rw [soL_at hj, soL_at (by omega)]
    unfold soT
    rw [if_neg (show ¬ j = 0 by omega)]
    by_cases hi : i = 0
    · subst hi
      simp only [if_true]
      omega
    · rw [if_neg hi]
      have a := h (i, j) (List.mem_filter.2 ⟨mem_bp (by omega) hij hj, by simp; omega⟩)
      unfold tri0 vgP at a
      simp only at a
      rw [if_neg (by omega), if_neg (by omega), if_pos (by omega), if_neg (by omega), if_neg (by omega), if_pos (by omega)] at a
      omega
/-- what is kept of solution and bases -/
structure LsI (N : Nat) (ok : Bool) (xs ys : List Int) (p q : Bool) : Prop where
  none : p = false ∨ q = false → N = 2 ∨ ok = false
  iff : p = true → q = true → (ok = true ↔ xs = ys)
theorem lsI_of {N : Nat} {l m : VL} (h1 : 2 ≤ N) (h2 : N ≤ 7) : LsI N (spB (N : Int) l m) (cbL (N : Int) l) (cbL (N : Int) m) (cbB (N : Int) l) (cbB (N : Int) m) := by
  refine ⟨fun h => ?_, fun hp hq => ?_⟩
  · by_cases hN : N = 2
    · exact .inl hN
    · right
      rcases e : spB (N : Int) l m with _ | _
      · rfl
      · exfalso
        simp only [spB, Bool.and_eq_true] at e
        have h3 : (3 : Int) ≤ (N : Int) := by omega
        rcases h with h | h <;> simp [cbB, e.1.1, e.1.2] at h <;> omega
  · have hp' := hp
    have hq' := hq
    simp only [cbB, Bool.and_eq_true] at hp hq
    rw [sp_iff h1 h2 hp.1 hq.1]
    simp [cbL, hp', hq']
set_option maxRecDepth 100000 in
set_option maxHeartbeats 4000000 in
theorem walk (A0 : Option Addr) (n0 c0 : Nat) (b0 : List Int) (w : World) (hn0 : b0.length = n0) (hm0 : n0 ≤ 9223372036854775807) (h0 : Rd w w.heap.size A0 n0 c0 (b0.map (.int .u8))) (hw0 : ∀ z ∈ b0, 0 ≤ z ∧ z ≤ 255) :
    Calls Try.prog 6 #[.slice A0 n0 c0] w fun e w' => e = .returned (.bool true) ∧ Ext w w' := by
  have HN0 := Lib.hid hn0
  have HW0 := Lib.hid hw0
  clear hn0 hw0
  by_cases hz0 : n0 ≤ 1048576
  case neg =>
    go_enter Try.func6, Try.ntmps6
    go_wp2
    go_ret
    exact ⟨rfl, Ext.refl _⟩
  go_enter Try.func6, Try.ntmps6
  go_wp2_with fail
  refine (drawSolvePhases_any A0 n0 c0 b0 _ HN0.out hm0 h0 HW0.out).mono ?_
  rintro e w1 ⟨N, A_l, n_l, c_l, l, A_m, n_m, c_m, m, rfl, g1, g2, hl, g3, g4, hm, g5, g6, s_l, s_m, x1⟩
  obtain ⟨ls, ok, xs, ys, p, q, hlsn, hxn, hyn, HC1, HC2, HC3, HC4, HLS⟩ : ∃ (ls : List Int) (ok : Bool) (xs ys : List Int) (p q : Bool), ls.length ≤ 7 ∧ xs.length ≤ 21 ∧ ys.length ≤ 21 ∧
      Hid (∀ W, Rd W W.heap.size A_l n_l c_l (pairs l) → Rd W W.heap.size A_m n_m c_m (pairs m) → Calls Try.prog 22 #[.int .i64 (N : Int), .slice A_l n_l c_l, .slice A_m n_m c_m] W (RetSB W 3 ls.length (ints ls) ok)) ∧
      Hid (∀ W, Rd W W.heap.size A_l n_l c_l (pairs l) → Rd W W.heap.size A_m n_m c_m (pairs m) → Calls Try.prog 23 #[.int .i64 (N : Int), .slice A_l n_l c_l, .slice A_m n_m c_m] W (RetSB W 3 ls.length (ints ls) ok)) ∧
      Hid (∀ W, Rd W W.heap.size A_l n_l c_l (pairs l) → Calls Try.prog 27 #[.int .i64 (N : Int), .slice A_l n_l c_l] W (RetSB W 3 xs.length (ints xs) p)) ∧
      Hid (∀ W, Rd W W.heap.size A_m n_m c_m (pairs m) → Calls Try.prog 27 #[.int .i64 (N : Int), .slice A_m n_m c_m] W (RetSB W 3 ys.length (ints ys) q)) ∧
      Hid (LsI N ok xs ys p q) :=
    ⟨spL (N : Int) l m, spB (N : Int) l m, cbL (N : Int) l, cbL (N : Int) m, cbB (N : Int) l, cbB (N : Int) m, spL_length _ _ _, cbL_length _ _, cbL_length _ _, fun W r1 r2 => solvePhases_any (N : Int) A_l A_m n_l c_l n_m c_m l m W hl hm (by omega) (by omega) r1 r2,
      fun W r1 r2 => specSolvePhases_any (N : Int) A_l A_m n_l c_l n_m c_m l m W hl hm (by omega) (by omega) r1 r2,
      fun W r1 => closeBase_any (N : Int) A_l n_l c_l l W hl (by omega) r1, fun W r1 => closeBase_any (N : Int) A_m n_m c_m m W hm (by omega) r1, lsI_of g1 (by omega)⟩
  have HL := Lib.hid hl
  have HM := Lib.hid hm
  clear hl hm
  have E := x1
  go_wp2_with fail
  refine (HC1.out _ s_l.rd s_m.rd).mono ?_
  rintro e w2 ⟨A_o, c_o, rfl, s_o, x2⟩
  replace s_l := s_l.ext x2
  replace s_m := s_m.ext x2
  replace E := E.trans x2
  go_wp2_with fail
  refine (HC2.out _ s_l.rd s_m.rd).mono ?_
  rintro e w3 ⟨A_w, c_w, rfl, s_w, x3⟩
  replace s_l := s_l.ext x3
  replace s_m := s_m.ext x3
  replace s_o := s_o.ext x3
  replace E := E.trans x3
  go_wp2_with fail
  refine (sameInts_any A_o A_w ls.length ls.length c_o c_w ls ls _ rfl rfl (by omega) s_o.rd s_w.rd).mono ?_
  rintro e w4 ⟨rfl, y4⟩
  have x4 := y4.ext
  replace s_l := s_l.ext x4
  replace s_m := s_m.ext x4
  replace E := E.trans x4
  rw [show decide (ls = ls) = true from decide_eq_true rfl]
  clear s_o s_w x1 x2 x3 x4 y4 HC1 HC2
  go_wp2_with fail
  refine (HC3.out _ s_l.rd).mono ?_
  rintro e w5 ⟨A_x, c_x, rfl, s_x, x5⟩
  replace s_m := s_m.ext x5
  replace E := E.trans x5
  go_wp2_with fail
  refine (HC4.out _ s_m.rd).mono ?_
  rintro e w6 ⟨A_y, c_y, rfl, s_y, x6⟩
  replace s_x := s_x.ext x6
  replace E := E.trans x6
  clear s_l s_m x5 x6 HC3 HC4
  have none := HLS.out.none
  have iff := HLS.out.iff
  have HIF := Lib.hid iff
  clear iff HLS
  rcases p with _ | _
  · have hno := none (.inl rfl)
    clear none
    rcases hno with h | h
    · subst h
      go_wp2
      all_goals go_ret
      all_goals exact ⟨by simp, E⟩
    · subst h
      go_wp2
      all_goals go_ret
      all_goals exact ⟨by simp, E⟩
  rcases q with _ | _
  · have hno := none (.inr rfl)
    clear none
    rcases hno with h | h
    · subst h
      go_wp2
      all_goals go_ret
      all_goals exact ⟨by simp, E⟩
    · subst h
      go_wp2
      all_goals go_ret
      all_goals exact ⟨by simp, E⟩
  clear none
  go_wp2_with fail
  refine (sameInts_any A_x A_y xs.length ys.length c_x c_y xs ys _ rfl rfl (by omega) s_x.rd s_y.rd).mono ?_
  rintro e w7 ⟨rfl, y7⟩
  have hd : ok = decide (xs = ys) := by
    rw [Bool.eq_iff_iff, HIF.out (by simp) (by simp), decide_eq_true_eq]
  rw [← hd]
  go_wp2
  go_ret
  exact ⟨by simp, E.trans y7.ext⟩
end Go.Proofs.Ytpjglnmnfmibnaa.fnSolveIff
