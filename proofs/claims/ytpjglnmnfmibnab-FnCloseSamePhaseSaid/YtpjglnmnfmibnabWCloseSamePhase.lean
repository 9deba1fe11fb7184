/-
  The walk of FnCloseSamePhase: it returns true and writes nothing that was there.
-/
import Derived.Test.YtpjglnmnfmibnabCloseC
import Derived.Test.YtpjglnmnfmibnabCloseT
import Derived.Test.YtpjglnmnfmibnabDrawX
namespace Go.Proofs.Ytpjglnmnfmibnab.fnCloseSamePhase
open Go.RowKit
set_option linter.unusedVariables false

theorem tmod_nat (a n : Nat) : (a : Int).tmod (n : Int) = ((a % n : Nat) : Int) := by
  rw [Int.tmod_eq_emod_of_nonneg (Int.natCast_nonneg a)]; rfl
set_option maxRecDepth 100000 in
set_option maxHeartbeats 4000000 in
theorem walk (A0 : Option Addr) (n0 c0 : Nat) (b0 : List Int) (A1 : Option Addr) (n1 c1 : Nat) (b1 : List Int) (w : World) (hn0 : b0.length = n0) (hm0 : n0 ≤ 9223372036854775807) (h0 : Rd w w.heap.size A0 n0 c0 (b0.map (.int .u8))) (hw0 : ∀ z ∈ b0, 0 ≤ z ∧ z ≤ 255) (hn1 : b1.length = n1) (hm1 : n1 ≤ 9223372036854775807) (h1 : Rd w w.heap.size A1 n1 c1 (b1.map (.int .u8))) (hw1 : ∀ z ∈ b1, 0 ≤ z ∧ z ≤ 255) :
    Calls Try.prog 4 #[.slice A0 n0 c0, .slice A1 n1 c1] w fun e w' => e = .returned (.bool true) ∧ Ext w w' := by
  have HN0 := Lib.hid hn0
  have HW0 := Lib.hid hw0
  clear hn0 hw0 hn1 hw1 h1
  by_cases hz0 : n0 ≤ 1048576
  case neg =>
    go_enter Try.func4, Try.ntmps4
    go_wp2
    go_ret
    exact ⟨rfl, Ext.refl _⟩
  by_cases hz1 : n1 ≤ 1048576
  case neg =>
    go_enter Try.func4, Try.ntmps4
    go_wp2
    go_ret
    exact ⟨rfl, Ext.refl _⟩
  go_enter Try.func4, Try.ntmps4
  go_wp2_with fail
  refine (drawCloseSame_any A0 n0 c0 b0 _ HN0.out hm0 h0 HW0.out).mono ?_
  rintro e w1 ⟨N, A_a, n_a, c_a, a, A_b, n_b, c_b, b, rfl, g1, g2, ha, g3, g4, hb, g5, g6, s_a, s_b, x1⟩
  obtain ⟨ok, HC1, HC2, HOK, HC3⟩ : ∃ (ok : Bool),
      Hid (∀ W, Rd W W.heap.size A_a n_a c_a (pairs a) → Rd W W.heap.size A_b n_b c_b (pairs b) → Calls Try.prog 9 #[.int .i64 (N : Int), .slice A_a n_a c_a, .slice A_b n_b c_b] W fun e w' => e = .returned (.bool ok) ∧ Ext W w') ∧
      Hid (∀ W, Rd W W.heap.size A_a n_a c_a (pairs a) → Rd W W.heap.size A_b n_b c_b (pairs b) → Calls Try.prog 10 #[.int .i64 (N : Int), .slice A_a n_a c_a, .slice A_b n_b c_b] W fun e w' => e = .returned (.bool ok) ∧ Ext W w') ∧
      Hid (ok = true → rgB 1000000 b = true) ∧
      Hid (ok = true → ∀ W k A c, k < n_b → Rd W W.heap.size A_a n_a c_a (pairs a) → Rd W W.heap.size A n_b c (pairs (bump b k)) → Calls Try.prog 9 #[.int .i64 (N : Int), .slice A_a n_a c_a, .slice A n_b c] W fun e w' => e = .returned (.bool (decide ((N : Int) = 2))) ∧ Ext W w') := by
    refine ⟨csB (N : Int) a b, fun W r1 r2 => closeSame_any (N : Int) A_a A_b n_a c_a n_b c_b a b W ha hb (by omega) (by omega) r1 r2, fun W r1 r2 => specCloseSame_any (N : Int) A_a A_b n_a c_a n_b c_b a b W ha hb (by omega) (by omega) r1 r2, fun h => ?_, fun h W k A c hk r1 r2 => ?_⟩
    · obtain ⟨_, _, _, _, _, hr⟩ := visB_parts (csB_iff.1 h).2.1
      exact hr
    · obtain ⟨e1, e2, e3⟩ := csB_iff.1 h
      have := closeSame_any (N : Int) A_a A n_a c_a n_b c a (bump b k) W ha (by rw [bump_length]; exact hb) (by omega) (by omega) r1 r2
      have e : csB (N : Int) a (bump b k) = decide ((N : Int) = 2) := by
        by_cases hN : N = 2
        · subst hN
          rw [csB_iff.2 ⟨e1, bump_valid e2, csP_two _ _⟩]; rfl
        · rw [csB_not (csP_bump (by omega) (by omega) e2 (by omega) e3)]
          symm
          simp
          omega
      rwa [e] at this
  have HB := Lib.hid hb
  clear ha hb
  have E := x1
  go_wp2_with fail
  refine (HC1.out _ s_a.rd s_b.rd).mono ?_
  rintro e w2 ⟨rfl, x2⟩
  replace s_a := s_a.ext x2
  replace s_b := s_b.ext x2
  replace E := E.trans x2
  go_wp2_with fail
  refine (HC2.out _ s_a.rd s_b.rd).mono ?_
  rintro e w3 ⟨rfl, x3⟩
  replace s_a := s_a.ext x3
  replace s_b := s_b.ext x3
  replace E := E.trans x3
  have zz1 := x1.size
  have zz2 := x2.size
  have zz3 := x3.size
  clear HC1 HC2 x1 x2 x3
  cases ok
  · go_wp2
    go_ret
    exact ⟨rfl, E⟩
  have HRG := Lib.hid (HOK.out rfl)
  have HC := Lib.hid (HC3.out rfl)
  clear HOK HC3
  obtain ⟨gb, ob, ea, _, _, _⟩ := s_b.addr (by rw [pairs_length, HB.out]; omega)
  obtain rfl := ea
  have ho : (w3.alloc (.cells #[] 30)).ownsRow w3.heap.size 30 2 (.slice (some ⟨w3.heap.size, 0, none⟩) 0 0) 0 [] := World.ownsRow_lit w3 #[] 0 (Nat.le_refl _) (by simp [maxLen]) rfl
  have y3 : Ext w3 (w3.alloc (.cells #[] 30)) := (Ext.refl _).alloc _
  have q_a := Lib.hid s_a
  have q_b := Lib.hid (s_b.ext y3)
  have HE := Lib.hid (E.trans y3)
  have hpl : (pairs b).length = n_b * 2 := by rw [pairs_length, HB.out]
  clear s_a s_b E y3
  have HZ3 : Hid (w.heap.size ≤ w3.heap.size ∧ w1.heap.size ≤ w3.heap.size) := ⟨by omega, by omega⟩
  have hz3 : w3.heap.size ≤ (w3.alloc (.cells #[] 30)).heap.size := by simp
  obtain ⟨k, hk⟩ : ∃ k, n1 % n_b = k := ⟨_, rfl⟩
  have hkn : k < n_b := by rw [← hk]; exact Nat.mod_lt _ (by omega)
  have f0 : (n1 : Int).tmod (n_b : Int) = (k : Int) := by rw [tmod_nat, hk]
  have f0' : (n1 : Int) % (n_b : Int) = (k : Int) := by rw [← hk]; rfl
  have hnz : ((n_b : Int) == 0) = false := by simp; omega
  have hnz1 : ¬ (n_b : Int) = 0 := by omega
  have hnz2 : ¬ n_b = 0 := by omega
  have hk0 : (0 : Int) ≤ (k : Int) := by omega
  have hki : (k : Int) < (n_b : Int) := by omega
  have rg := rgB_at HRG.out (k := k) (by rw [HB.out]; exact hkn)
  have HAT := Lib.hid (some_v (l := b) (k := k) (by rw [HB.out]; exact hkn))
  have f1 : IntKind.i64.wrap (vPh b k + 1) = vPh b k + 1 := IntWalk.i64_in _ (by omega)
  clear hk
  go_wp2_with (first
    | (at_builtin; go_loud (refine wpList_appendV (w := w3.alloc (.cells #[] 30)) rfl _ _ _ rfl w3.heap.size 30 (.agg #[.int .i64 0, .int .i64 0]) 2 16 Vis.info Try.underlying23 rfl (by omega) _ 0 _ (by rfl) ho gb ob n_b c_b (pairs b) (by rfl) hpl q_b.out.rd (pairs_one b) (by omega) (by omega) (by omega) hz3 ?_); intro g' cap w4 s4 hg4 hx4; rw [List.nil_append, Nat.zero_add] at s4; have c1 := s4.snd HAT.out; have fr := s4.frozen (by rw [pairs_length, HB.out]; omega) (0 + k * 2 + 1); have S4 := Lib.hid s4; have X4 := Lib.hid hx4; simp only [Nat.zero_add] at c1 fr; clear s4 hx4)
    | (go_at_call 11; refine (phaseOf_any _ _).mono ?_; rintro e w' ⟨rfl, rfl⟩))
  have E4 := X4.out w HE.out (by have := HZ3.out; omega)
  have x34 : Ext w3 w4 := X4.out w3 ((Ext.refl _).alloc _) (Nat.le_refl _)
  have t_a := q_a.out.ext x34
  have SB := S4.out.setS HAT.out ((vPh b k + 1) % 360)
  simp only [Nat.zero_add] at SB
  have SB2 : Sl (w4.setCell ⟨g', k * 2 + 1, none⟩ (.int .i64 ((vPh b k + 1) % 360))) w3.heap.size w4.heap.size 30 (some ⟨g', 0, none⟩) n_b cap (pairs (bump b k)) := SB
  have t_a2 := t_a.far (p := ⟨g', k * 2 + 1, none⟩) (.inr (by show _ ≤ g'; omega)) (.int .i64 ((vPh b k + 1) % 360))
  have E5 := E4.setCell (p := ⟨g', k * 2 + 1, none⟩) (by show _ ≤ g'; have := HZ3.out; omega) (.int .i64 ((vPh b k + 1) % 360))
  clear SB t_a E4 x34 c1 fr f1 f0 f0'
  generalize (w4.setCell ⟨g', k * 2 + 1, none⟩ (.int .i64 ((vPh b k + 1) % 360))) = w5 at *
  refine (HC.out _ k _ _ hkn t_a2.rd SB2.rd).mono ?_
  rintro e w6 ⟨rfl, x6⟩
  go_wp2
  go_ret
  refine ⟨?_, E5.trans x6⟩
  by_cases hN : N = 2
  · subst hN; simp
  · have hN2 : ¬ (N : Int) = 2 := by omega
    simp [hN2]
end Go.Proofs.Ytpjglnmnfmibnab.fnCloseSamePhase
