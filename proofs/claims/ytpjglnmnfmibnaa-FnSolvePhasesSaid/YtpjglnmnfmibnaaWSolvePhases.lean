/-
  The walk of FnSolvePhases: it returns true and writes nothing that was there.
-/
import Derived.Test.YtpjglnmnfmibnaaCloseB
import Derived.Test.YtpjglnmnfmibnaaDrawX
import Derived.Test.YtpjglnmnfmibnaaSolRest
import Derived.Test.YtpjglnmnfmibnaaSolSpec
import Derived.Test.YtpjglnmnfmibnaaInts
namespace Go.Proofs.Ytpjglnmnfmibnaa.fnSolvePhases
open Go.RowKit
set_option linter.unusedVariables false

theorem tmod_nat (a n : Nat) : (a : Int).tmod (n : Int) = ((a % n : Nat) : Int) := by
  rw [Int.tmod_eq_emod_of_nonneg (Int.natCast_nonneg a)]; rfl
theorem sp_parts {N : Nat} {l m : VL} (h : spB (N : Int) l m = true) : visB (N : Int) l = true ∧ visB (N : Int) m = true ∧ spL (N : Int) l m = soL N l m N ∧ srF (N : Int) l m (soL N l m N) = 0 := by
  have h' := h
  simp only [spB, Bool.and_eq_true, decide_eq_true_eq, Int.toNat_natCast] at h
  refine ⟨h.1.1, h.1.2, by simp [spL, h'], ?_⟩
  have hb : srB (N : Int) l m (soL N l m N) = true := by
    simp only [srB, Bool.and_eq_true, decide_eq_true_eq]
    exact ⟨⟨⟨h.1.1, h.1.2⟩, by rw [soL_length]⟩, soL_phs _ _ _ _⟩
  simp [srF, hb, h.2]
theorem loops_same {N : Nat} {l m : VL} {q : Nat → Int} (h : Fit (Eg N (allF (nb N))) (tn N l m) q) {a b c : Nat} (h1 : a < N) (h2 : b < N) (h3 : c < N) (d1 : a ≠ b) (d2 : b ≠ c) (d3 : c ≠ a) :
    (vgP N l a b + vgP N l b c + vgP N l c a) % 360 = (vgP N m a b + vgP N m b c + vgP N m c a) % 360 := by
  have e1 := h a b ⟨h1, h2, d1, bAt0_allF _ _⟩
  have e2 := h b c ⟨h2, h3, d2, bAt0_allF _ _⟩
  have e3 := h c a ⟨h3, h1, d3, bAt0_allF _ _⟩
  unfold tn at e1 e2 e3
  omega
/-- what is kept of the two lists of phases: all that the walk needs -/
structure Ls (N : Nat) (l m : VL) (ls : List Int) : Prop where
  len : ls.length = N
  zero : ls[0]? = some 0
  rest : srF (N : Int) l m ls = 0
  yes : visB (N : Int) l = true ∧ visB (N : Int) m = true
  same : ∀ a b c, a < N → b < N → c < N → a ≠ b → b ≠ c → c ≠ a → (vgP N l a b + vgP N l b c + vgP N l c a) % 360 = (vgP N m a b + vgP N m b c + vgP N m c a) % 360
theorem ls_of {N : Nat} {l m : VL} (hN : 2 ≤ N) (h : spB (N : Int) l m = true) : Ls N l m (spL (N : Int) l m) := by
  obtain ⟨h1, h2, h3, h4⟩ := sp_parts h
  obtain ⟨N', e, _, _, _, _, _, _, _, hfit⟩ := spB_yes h
  obtain rfl : N' = N := by omega
  rw [h3]
  refine ⟨soL_length _ _ _ _, ?_, h4, ⟨h1, h2⟩, fun a b c a1 a2 a3 a4 a5 a6 => loops_same hfit a1 a2 a3 a4 a5 a6⟩
  rw [some_pAt (k := 0) (by rw [soL_length]; omega), soL_at (by omega)]
  rfl
theorem cph_same {N : Nat} {l m : VL} {ls : List Int} (h : Ls N l m ls) {a b c : Nat} {v v' : Int} {k k' : Bool} (i1 : k = true ↔ (visB (N : Int) l = true ∧ antsTo (N : Int) (qs [a, b, c]) 3)) (i2 : k' = true ↔ (visB (N : Int) m = true ∧ antsTo (N : Int) (qs [a, b, c]) 3))
    (j1 : k = false → v = 0) (j2 : k' = false → v' = 0) (m1 : k = true → v = (vgP (N : Int).toNat l a b + vgP (N : Int).toNat l b c + vgP (N : Int).toNat l c a) % 360) (m2 : k' = true → v' = (vgP (N : Int).toNat m a b + vgP (N : Int).toNat m b c + vgP (N : Int).toNat m c a) % 360) : k' = k ∧ v' = v := by
  have e : k' = k := by
    rw [Bool.eq_iff_iff, i1, i2]
    simp [h.yes.1, h.yes.2]
  subst e
  refine ⟨rfl, ?_⟩
  cases k'
  · rw [j1 rfl, j2 rfl]
  · rw [m1 rfl, m2 rfl, Int.toNat_natCast]
    obtain ⟨a1, a2, a3, a4, a5, a6⟩ := good3 (i1.1 rfl).2
    exact (h.same a b c a1 a2 a3 a4 a5 a6).symm
theorem _root_.Go.Proofs.Ytpjglnmnfmibnaa.Sl.cellz0 {w : World} {lo hi g off n c : Nat} {E : TypeId} {xs : List Int} {u : Int} (h : Sl w lo hi E (some ⟨g, off, none⟩) n c (ints xs)) (hu : xs[0]? = some u) : w.cell? ⟨g, off, none⟩ = some (.int .i64 u) := by
  have := h.cell (ints_at' hu)
  rwa [Nat.add_zero] at this
set_option maxRecDepth 100000 in
set_option maxHeartbeats 4000000 in
theorem walk (A0 : Option Addr) (n0 c0 : Nat) (b0 : List Int) (A1 : Option Addr) (n1 c1 : Nat) (b1 : List Int) (w : World) (hn0 : b0.length = n0) (hm0 : n0 ≤ 9223372036854775807) (h0 : Rd w w.heap.size A0 n0 c0 (b0.map (.int .u8))) (hw0 : ∀ z ∈ b0, 0 ≤ z ∧ z ≤ 255) (hn1 : b1.length = n1) (hm1 : n1 ≤ 9223372036854775807) (h1 : Rd w w.heap.size A1 n1 c1 (b1.map (.int .u8))) (hw1 : ∀ z ∈ b1, 0 ≤ z ∧ z ≤ 255) :
    Calls Try.prog 5 #[.slice A0 n0 c0, .slice A1 n1 c1] w fun e w' => e = .returned (.bool true) ∧ Ext w w' := by
  have HN0 := Lib.hid hn0
  have HW0 := Lib.hid hw0
  clear hn0 hw0 hn1 hw1 h1
  by_cases hz0 : n0 ≤ 1048576
  case neg =>
    go_enter Try.func5, Try.ntmps5
    go_wp2
    go_ret
    exact ⟨rfl, Ext.refl _⟩
  by_cases hz1 : n1 ≤ 1048576
  case neg =>
    go_enter Try.func5, Try.ntmps5
    go_wp2
    go_ret
    exact ⟨rfl, Ext.refl _⟩
  go_enter Try.func5, Try.ntmps5
  go_wp2_with fail
  refine (drawSolvePhases_any A0 n0 c0 b0 _ HN0.out hm0 h0 HW0.out).mono ?_
  rintro e w1 ⟨N, A_l, n_l, c_l, l, A_m, n_m, c_m, m, rfl, g1, g2, hl, g3, g4, hm, g5, g6, s_l, s_m, x1⟩
  obtain ⟨ls, ok, hlsn, HC1, HC2, HLS⟩ : ∃ (ls : List Int) (ok : Bool), ls.length ≤ 7 ∧
      Hid (∀ W, Rd W W.heap.size A_l n_l c_l (pairs l) → Rd W W.heap.size A_m n_m c_m (pairs m) → Calls Try.prog 22 #[.int .i64 (N : Int), .slice A_l n_l c_l, .slice A_m n_m c_m] W (RetSB W 3 ls.length (ints ls) ok)) ∧
      Hid (∀ W, Rd W W.heap.size A_l n_l c_l (pairs l) → Rd W W.heap.size A_m n_m c_m (pairs m) → Calls Try.prog 23 #[.int .i64 (N : Int), .slice A_l n_l c_l, .slice A_m n_m c_m] W (RetSB W 3 ls.length (ints ls) ok)) ∧
      Hid (ok = true → Ls N l m ls) :=
    ⟨spL (N : Int) l m, spB (N : Int) l m, spL_length _ _ _, fun W r1 r2 => solvePhases_any (N : Int) A_l A_m n_l c_l n_m c_m l m W hl hm (by omega) (by omega) r1 r2,
      fun W r1 r2 => specSolvePhases_any (N : Int) A_l A_m n_l c_l n_m c_m l m W hl hm (by omega) (by omega) r1 r2, fun h => ls_of g1 h⟩
  have HL := Lib.hid hl
  have HM := Lib.hid hm
  clear hl hm
  have E := x1
  go_wp2_with fail
  refine (HC1.out _ s_l.rd s_m.rd).mono ?_
  rintro e w2 ⟨A_o, c_o, rfl, s_o, x2⟩
  replace s_l := s_l.ext x2
  replace s_m := s_m.ext x2
  replace E := E.trans x2
  cases ok
  case false =>
    go_wp2_with fail
    refine (HC2.out _ s_l.rd s_m.rd).mono ?_
    rintro e w3 ⟨A_w, c_w, rfl, s_w, x3⟩
    replace s_o := s_o.ext x3
    replace E := E.trans x3
    go_wp2_with fail
    refine (sameInts_any A_o A_w ls.length ls.length c_o c_w ls ls _ rfl rfl (by omega) s_o.rd s_w.rd).mono ?_
    rintro e w4 ⟨rfl, y4⟩
    replace s_o := s_o.ext y4.ext
    replace s_w := s_w.ext y4.ext
    replace E := E.trans y4.ext
    rw [show decide (ls = ls) = true from decide_eq_true rfl]
    go_wp2_with fail
    refine (sameInts_any A_o A_w ls.length ls.length c_o c_w ls ls _ rfl rfl (by omega) s_o.rd s_w.rd).mono ?_
    rintro e w5 ⟨rfl, y5⟩
    replace E := E.trans y5.ext
    rw [show decide (ls = ls) = true from decide_eq_true rfl]
    go_wp2
    go_ret
    exact ⟨rfl, E⟩
  have HP := Lib.hid (HLS.out rfl)
  clear HLS
  go_wp2_with fail
  refine (HC2.out _ s_l.rd s_m.rd).mono ?_
  rintro e w3 ⟨A_w, c_w, rfl, s_w, x3⟩
  replace s_l := s_l.ext x3
  replace s_m := s_m.ext x3
  replace s_o := s_o.ext x3
  replace E := E.trans x3
  have hsn : ls.length = N := HP.out.len
  rw [hsn] at s_o s_w ⊢
  have HSN := Lib.hid hsn
  clear hlsn hsn HC1 HC2
  go_wp2_with fail
  refine (sameInts_any A_o A_w N N c_o c_w ls ls _ HSN.out HSN.out (by omega) s_o.rd s_w.rd).mono ?_
  rintro e w4 ⟨rfl, y4⟩
  have x4 := y4.ext
  replace s_l := s_l.ext x4
  replace s_m := s_m.ext x4
  replace s_o := s_o.ext x4
  replace E := E.trans x4
  rw [show decide (ls = ls) = true from decide_eq_true rfl]
  have HS_l := Lib.hid s_l
  have HS_m := Lib.hid s_m
  obtain ⟨gq, oq, ea, _, _, _⟩ := s_o.addr (by rw [ints_length, HSN.out]; omega)
  obtain rfl := ea
  have HS_o := Lib.hid s_o
  have HE := Lib.hid E
  clear s_l s_m s_o s_w x1 x2 x3 y4 x4 E
  obtain ⟨a, ha⟩ : ∃ a, n1 % N = a := ⟨_, rfl⟩
  obtain ⟨b, hb⟩ : ∃ b, (a + 1) % N = b := ⟨_, rfl⟩
  obtain ⟨cc, hcc⟩ : ∃ cc, (a + 2) % N = cc := ⟨_, rfl⟩
  have haN : a < N := by rw [← ha]; exact Nat.mod_lt _ (by omega)
  have f0 : (n1 : Int).tmod (N : Int) = (a : Int) := by rw [tmod_nat, ha]
  have f0' : (n1 : Int) % (N : Int) = (a : Int) := by rw [← ha]; rfl
  have hN0 : ((N : Int) == 0) = false := by simp; omega
  have f1 : IntKind.i64.wrap ((a : Int) + 1) = (a : Int) + 1 := IntWalk.i64_in _ (by omega)
  have f2 : ((a : Int) + 1).tmod (N : Int) = (b : Int) := by rw [← hb, ← tmod_nat]; rfl
  have f3 : IntKind.i64.wrap ((a : Int) + 2) = (a : Int) + 2 := IntWalk.i64_in _ (by omega)
  have f4 : ((a : Int) + 2).tmod (N : Int) = (cc : Int) := by rw [← hcc, ← tmod_nat]; rfl
  have hbN : b < N := by rw [← hb]; exact Nat.mod_lt _ (by omega)
  have hcN : cc < N := by rw [← hcc]; exact Nat.mod_lt _ (by omega)
  have f5 : IntKind.i64.wrap (b : Int) = (b : Int) := IntWalk.i64_in _ (by omega)
  have f6 : IntKind.i64.wrap (cc : Int) = (cc : Int) := IntWalk.i64_in _ (by omega)
  have n1' : ¬ (N : Int) = 0 := by omega
  have n2' : ¬ N = 0 := by omega
  have FS := Lib.hid (And.intro f1 (And.intro f2 (And.intro f3 (And.intro f4 (And.intro f5 (And.intro f6 (And.intro n1' n2')))))))
  clear hb hcc ha f1 f2 f3 f4 f5 f6 n1' n2'
  go_wp2_with fail
  clear f0 f0'
  obtain ⟨f1, f2, f3, f4, f5, f6, n1', n2'⟩ := FS.out
  go_region_held3 (fun _ => True) (exact trivial) (first | (go_at_call 25; refine (closePhase_any (N : Int) A_l n_l c_l l a b cc _ HL.out (by omega) (HS_l.out.ext (by repeat (first | (with_reducible exact Ext.refl _) | (with_reducible assumption) | (with_reducible refine Ext.drew ?_) | (with_reducible refine Ext.alloc ?_ _)))).rd).mono ?_; rintro e w5 ⟨v5, k5, rfl, i5, j5, m5, x5⟩; have E5 : Ext w4 w5 := Ext.trans (by repeat (first | (with_reducible exact Ext.refl _) | (with_reducible assumption) | (with_reducible refine Ext.drew ?_) | (with_reducible refine Ext.alloc ?_ _))) x5; have I5 := Lib.hid i5; have J5 := Lib.hid j5; have M5 := Lib.hid m5; clear i5 j5 m5 x5))
  go_wp2_with fail
  go_region_held3 (fun _ => True) (exact trivial) (first | (go_at_call 25; refine (closePhase_any (N : Int) A_m n_m c_m m a b cc _ HM.out (by omega) (HS_m.out.ext (by repeat (first | (with_reducible exact Ext.refl _) | (with_reducible assumption) | (with_reducible refine Ext.drew ?_) | (with_reducible refine Ext.alloc ?_ _)))).rd).mono ?_; rintro e w6 ⟨v6, k6, rfl, i6, j6, m6, x6⟩; have E6 : Ext w4 w6 := Ext.trans (by repeat (first | (with_reducible exact Ext.refl _) | (with_reducible assumption) | (with_reducible refine Ext.drew ?_) | (with_reducible refine Ext.alloc ?_ _))) x6; have I6 := Lib.hid i6; have J6 := Lib.hid j6; have M6 := Lib.hid m6; clear i6 j6 m6 x6))
  obtain ⟨e1, e2⟩ := cph_same HP.out I5.out I6.out J5.out J6.out M5.out M6.out
  subst e1
  subst e2
  clear f1 f2 f3 f4 f5 f6
  have c0 := (HS_o.out.ext E6).cellz0 HP.out.zero
  have HR := Lib.hid HP.out.rest
  go_wp2_with (go_at_call 26; refine (solveRest_any (N : Int) A_l A_m (some ⟨gq, oq, none⟩) n_l c_l n_m c_m N c_o l m ls _ HL.out HM.out HSN.out (by omega) (by omega) (by omega) (HS_l.out.ext (by repeat (first | (with_reducible exact Ext.refl _) | (with_reducible assumption) | (with_reducible refine Ext.drew ?_) | (with_reducible refine Ext.alloc ?_ _)))).rd (HS_m.out.ext (by repeat (first | (with_reducible exact Ext.refl _) | (with_reducible assumption) | (with_reducible refine Ext.drew ?_) | (with_reducible refine Ext.alloc ?_ _)))).rd (HS_o.out.ext (by repeat (first | (with_reducible exact Ext.refl _) | (with_reducible assumption) | (with_reducible refine Ext.drew ?_) | (with_reducible refine Ext.alloc ?_ _)))).rd).mono ?_; rintro e w7 ⟨rfl, x7⟩; rw [HR.out])
  go_ret
  exact ⟨rfl, HE.out.trans (Ext.trans (by repeat (first | (with_reducible exact Ext.refl _) | (with_reducible assumption) | (with_reducible refine Ext.drew ?_) | (with_reducible refine Ext.alloc ?_ _))) x7)⟩
end Go.Proofs.Ytpjglnmnfmibnaa.fnSolvePhases
