/-
  The walk of FnSolveRest: it returns true and writes nothing that was there.
-/
import Derived.Test.YtpjglnmnfmibnaaCloseB
import Derived.Test.YtpjglnmnfmibnaaDrawR
import Derived.Test.YtpjglnmnfmibnaaSolRest
import Derived.Test.YtpjglnmnfmibnaaSolSpec
import Derived.Test.YtpjglnmnfmibnaaRestPlain
import Derived.Test.YtpjglnmnfmibnaaInts
import Derived.Test.YtpjglnmnfmibnaaAppA
namespace Go.Proofs.Ytpjglnmnfmibnaa.fnSolveRest
open Go.RowKit
set_option linter.unusedVariables false

theorem tmod_nat (a n : Nat) : (a : Int).tmod (n : Int) = ((a % n : Nat) : Int) := by
  rw [Int.tmod_eq_emod_of_nonneg (Int.natCast_nonneg a)]; rfl
/-- what is kept of the phases, of the rest and of the solution -/
structure LsR (N : Nat) (l m : VL) (ph : List Int) (r : Int) (ls : List Int) (ok : Bool) : Prop where
  len : ph.length = N
  rng : ∀ k, 0 ≤ pAt ph k ∧ pAt ph k < 360
  le : r ≤ 180
  turn : ∀ t, srF (N : Int) l m (turned ph t) = r
  zero : r = 0 ↔ (ok = true ∧ ls = based ph)
theorem lsR_of {N : Nat} {l m : VL} {ph : List Int} (h : 0 ≤ srF (N : Int) l m ph) : LsR N l m ph (srF (N : Int) l m ph) (spL (N : Int) l m) (spB (N : Int) l m) := by
  have hb : srB (N : Int) l m ph = true := by
    rcases e : srB (N : Int) l m ph with _ | _
    · rw [srF_no e] at h; omega
    · rfl
  obtain ⟨h1, h2, h3, h4⟩ := srB_parts hb
  exact ⟨by omega, phsB_at h4, (srF_range _ _ _ _).2, fun t => rest_turned t hb, rest_zero hb⟩
theorem turned_length (p : List Int) (t : Int) : (turned p t).length = p.length := by simp [turned]
theorem based_length (p : List Int) : (based p).length = p.length := by simp [based]
theorem turned_snoc {p : List Int} {t : Int} {k : Nat} (h : k < p.length) : (turned p t).take (k + 1) = (turned p t).take k ++ [(pAt p k + t) % 360] :=
  take_snoc_of (by rw [some_pAt (by rw [turned_length]; exact h), turned_at h])
theorem based_snoc {p : List Int} {k : Nat} (h : k < p.length) : (based p).take (k + 1) = (based p).take k ++ [(pAt p k - pAt p 0) % 360] :=
  take_snoc_of (by rw [some_pAt (by rw [based_length]; exact h), based_at h])
set_option maxRecDepth 100000 in
set_option maxHeartbeats 4000000 in
theorem walk (A0 : Option Addr) (n0 c0 : Nat) (b0 : List Int) (A1 : Option Addr) (n1 c1 : Nat) (b1 : List Int) (w : World) (hn0 : b0.length = n0) (hm0 : n0 ≤ 9223372036854775807) (h0 : Rd w w.heap.size A0 n0 c0 (b0.map (.int .u8))) (hw0 : ∀ z ∈ b0, 0 ≤ z ∧ z ≤ 255) (hn1 : b1.length = n1) (hm1 : n1 ≤ 9223372036854775807) (h1 : Rd w w.heap.size A1 n1 c1 (b1.map (.int .u8))) (hw1 : ∀ z ∈ b1, 0 ≤ z ∧ z ≤ 255) :
    Calls Try.prog 8 #[.slice A0 n0 c0, .slice A1 n1 c1] w fun e w' => e = .returned (.bool true) ∧ Ext w w' := by
  have HN0 := Lib.hid hn0
  have HW0 := Lib.hid hw0
  clear hn0 hw0 hn1 hw1 h1
  by_cases hz0 : n0 ≤ 1048576
  case neg =>
    go_enter Try.func8, Try.ntmps8
    go_wp2
    go_ret
    exact ⟨rfl, Ext.refl _⟩
  by_cases hz1 : n1 ≤ 1048576
  case neg =>
    go_enter Try.func8, Try.ntmps8
    go_wp2
    go_ret
    exact ⟨rfl, Ext.refl _⟩
  go_enter Try.func8, Try.ntmps8
  go_wp2_with fail
  refine (drawSolveRest_any A0 n0 c0 b0 _ HN0.out hm0 h0 HW0.out).mono ?_
  rintro e w1 ⟨N, A_l, n_l, c_l, l, A_m, n_m, c_m, m, A_p, n_p, c_p, ph, rfl, g1, g2, hl, g3, hm, g5, hp, g7, s_l, s_m, s_p, x1⟩
  obtain ⟨r, hr0, HC1, HC2, HT, ls, ok, hlsn, HC3, HLS⟩ : ∃ (r : Int), -1 ≤ r ∧
      Hid (∀ W, Rd W W.heap.size A_l n_l c_l (pairs l) → Rd W W.heap.size A_m n_m c_m (pairs m) → Rd W W.heap.size A_p n_p c_p (ints ph) → Calls Try.prog 26 #[.int .i64 (N : Int), .slice A_l n_l c_l, .slice A_m n_m c_m, .slice A_p n_p c_p] W fun e w' => e = .returned (.int .i64 r) ∧ Ext W w') ∧
      Hid (∀ W, Rd W W.heap.size A_l n_l c_l (pairs l) → Rd W W.heap.size A_m n_m c_m (pairs m) → Rd W W.heap.size A_p n_p c_p (ints ph) → Calls Try.prog 31 #[.int .i64 (N : Int), .slice A_l n_l c_l, .slice A_m n_m c_m, .slice A_p n_p c_p] W fun e w' => e = .returned (.int .i64 r) ∧ Ext W w') ∧
      Hid (∀ W (t : Int) A c, (turned ph t).length = N → srF (N : Int) l m (turned ph t) = r → Rd W W.heap.size A_l n_l c_l (pairs l) → Rd W W.heap.size A_m n_m c_m (pairs m) → Rd W W.heap.size A N c (ints (turned ph t)) → Calls Try.prog 26 #[.int .i64 (N : Int), .slice A_l n_l c_l, .slice A_m n_m c_m, .slice A N c] W fun e w' => e = .returned (.int .i64 r) ∧ Ext W w') ∧
      ∃ (ls : List Int) (ok : Bool), ls.length ≤ 7 ∧
      Hid (∀ W, Rd W W.heap.size A_l n_l c_l (pairs l) → Rd W W.heap.size A_m n_m c_m (pairs m) → Calls Try.prog 22 #[.int .i64 (N : Int), .slice A_l n_l c_l, .slice A_m n_m c_m] W (RetSB W 3 ls.length (ints ls) ok)) ∧
      Hid (0 ≤ r → LsR N l m ph r ls ok) :=
    ⟨srF (N : Int) l m ph, (srF_range _ _ _ _).1, fun W r1 r2 r3 => solveRest_any (N : Int) A_l A_m A_p n_l c_l n_m c_m n_p c_p l m ph W hl hm hp (by omega) (by omega) (by omega) r1 r2 r3,
      fun W r1 r2 r3 => specSolveRest_any (N : Int) A_l A_m A_p n_l c_l n_m c_m n_p c_p l m ph W hl hm hp (by omega) (by omega) (by omega) r1 r2 r3,
      fun W t A c hn e r1 r2 r3 => e ▸ solveRest_any (N : Int) A_l A_m A n_l c_l n_m c_m N c l m (turned ph t) W hl hm hn (by omega) (by omega) (by omega) r1 r2 r3,
      spL (N : Int) l m, spB (N : Int) l m, spL_length _ _ _, fun W r1 r2 => solvePhases_any (N : Int) A_l A_m n_l c_l n_m c_m l m W hl hm (by omega) (by omega) r1 r2, fun h => lsR_of h⟩
  have HL := Lib.hid hl
  have HM := Lib.hid hm
  have HP := Lib.hid hp
  clear hl hm hp
  have E := x1
  go_wp2_with fail
  refine (HC1.out _ s_l.rd s_m.rd s_p.rd).mono ?_
  rintro e w2 ⟨rfl, x2⟩
  replace s_l := s_l.ext x2
  replace s_m := s_m.ext x2
  replace s_p := s_p.ext x2
  replace E := E.trans x2
  go_wp2_with fail
  refine (HC2.out _ s_l.rd s_m.rd s_p.rd).mono ?_
  rintro e w3 ⟨rfl, x3⟩
  replace s_l := s_l.ext x3
  replace s_m := s_m.ext x3
  replace s_p := s_p.ext x3
  replace E := E.trans x3
  clear x1 x2 x3 HC1 HC2
  by_cases hr : r < 0
  · go_wp2
    go_ret
    exact ⟨by simp, E⟩
  have HS := Lib.hid (HLS.out (by omega))
  have hpn : n_p = N := by rw [← HP.out]; exact HS.out.len
  obtain ⟨t, ht⟩ : ∃ t, n1 % 360 = t := ⟨_, rfl⟩
  have htlt : t < 360 := by omega
  have f0 : (n1 : Int).tmod 360 = (t : Int) := by rw [← ht]; exact tmod_nat n1 360
  have f0' : (n1 : Int) % 360 = (t : Int) := by rw [← ht]; rfl
  rw [hpn] at s_p ⊢
  have HPN := Lib.hid (HS.out.len)
  have hn0 : (N : Int) ≤ 6 := by omega
  have hn1 : (2 : Int) ≤ N := by omega
  clear HLS hpn ht HP
  obtain ⟨gp, op, ea, _, _, _⟩ := s_p.addr (by rw [ints_length, HPN.out]; omega)
  obtain rfl := ea
  have HSL := Lib.hid s_l
  have HSM := Lib.hid s_m
  have HSP := Lib.hid s_p
  have HE := Lib.hid E
  clear s_l s_m s_p E
  go_wp2_with fail
  go_loopw [12, 13, 14] (fun v u i wr => ∃ k : Nat, k ≤ N ∧ i = .int .i64 k ∧ wr.ownsRow w3.heap.size 3 1 v k (ints ((turned ph t).take k)) ∧ wr.ownsRow w3.heap.size 3 1 u k (ints ((based ph).take k)) ∧ Ap v u ∧ Ext w3 wr) (fun _ _ i _ => N - (intOf i).toNat)
  case atStart =>
    have o1 : (w3.alloc (.cells #[] 3)).ownsRow w3.heap.size 3 1 (.slice (some ⟨w3.heap.size, 0, none⟩) 0 0) 0 (ints []) := World.ownsRow_lit w3 #[] 0 (Nat.le_refl _) (by simp [maxLen]) rfl
    have o2 : ((w3.alloc (.cells #[] 3)).alloc (.cells #[] 3)).ownsRow w3.heap.size 3 1 (.slice (some ⟨(w3.alloc (.cells #[] 3)).heap.size, 0, none⟩) 0 0) 0 (ints []) := World.ownsRow_lit (w3.alloc (.cells #[] 3)) #[] 0 (by simp) (by simp [maxLen]) rfl
    have a1 := Ap.lit o1 0 0
    rw [World.size_alloc] at o2 a1
    exact ⟨0, Nat.zero_le _, rfl, o1.alloc _, o2, a1, ((Ext.refl _).alloc _).alloc _⟩
  case round =>
    obtain ⟨k, hk, rfl, ho1, ho2, ha, he⟩ := hrel
    by_cases hlt : k < N
    · have hkn : (k : Int) < (N : Int) := by omega
      have hk0 : (0 : Int) ≤ (k : Int) := by omega
      have hkl : k < ph.length := by rw [HPN.out]; exact hlt
      have rg := HS.out.rng k
      have rg0 := HS.out.rng 0
      have c1 := (HSP.out.ext he).cell (ints_at' (some_pAt (l := ph) (k := k) hkl))
      have T1 := Lib.hid (turned_snoc (t := (t : Int)) hkl)
      have T2 := Lib.hid (based_snoc hkl)
      have HC0 := Lib.hid (ints_at' (some_pAt (l := ph) (k := 0) (by omega)))
      have hz := he.size
      clear hkl
      have f1 : IntKind.i64.wrap (pAt ph k + (t : Int)) = pAt ph k + (t : Int) := IntWalk.i64_in _ (by omega)
      have f2 : IntKind.i64.wrap (pAt ph k - pAt ph 0) = pAt ph k - pAt ph 0 := IntWalk.i64_in _ (by omega)
      go_wp2_with (first | (go_at_call 29; refine (phaseOf_any _ _).mono ?_; rintro e w' ⟨rfl, rfl⟩) | (at_builtin; go_loud (refine wpList_append1A (w := wr) rfl _ _ _ rfl w3.heap.size 3 (.int .i64 0) 8 I.infoInt Try.underlying36 rfl _ k _ (by rfl) ho1 (.int .i64 ((pAt ph k + (t : Int)) % 360)) _ (by rfl) rfl rfl (by omega) (by omega) hz ?_); intro v' w' o1' hg1 hat1))
      have he' := he.grownV ho1 hg1 (Nat.le_refl _)
      have o2' := own_other ho2 hg1 ha
      have a' := ha.next ho2 hat1
      clear c1 he ho1 ho2 ha hg1 hat1 f1
      have c1 := (HSP.out.ext he').cell (ints_at' (some_pAt (l := ph) (k := k) (by rw [HPN.out]; exact hlt)))
      have c2 := (HSP.out.ext he').cell HC0.out
      rw [Nat.add_zero] at c2
      have hN0 : (0 : Int) < (N : Int) := by omega
      have hNn : 0 < N := by omega
      have hz2 := he'.size
      go_region_law (first | (refine step_append1D (w := w') rfl _ _ _ rfl w3.heap.size 3 (.int .i64 0) 8 I.infoInt Try.underlying36 rfl _ k _ (by rfl) o2' (.int .i64 ((pAt ph k - pAt ph 0) % 360)) _ (by rfl) rfl rfl (by omega) (by omega) hz2 ?_; intro u' w5 o25 hg2 hat2) | (go_simp; go_at_call 29; refine (phaseOf_any _ _).mono ?_; rintro e w7 ⟨rfl, rfl⟩))
      all_goals
        have he5 := he'.grownV o2' hg2 (Nat.le_refl _)
        have o15 := own_other o1' hg2 a'.symm
        have a5 := (a'.symm.next o1' hat2).symm
        rw [ints_snoc, ← T2.out] at o25
        rw [ints_snoc, ← T1.out] at o15
        clear he' o1' o2' a' hg2 hat2 c1 c2 f2
        go_wp2_with fail
        go_roundw
        case rel => exact ⟨k + 1, by omega, by go_num, o15, o25, a5, he5⟩
        case measure => simp [intOf]; omega
    · have e : k = N := by omega
      have hd : decide (k < N) = false := by simpa using hlt
      rw [e, List.take_of_length_le (by rw [turned_length, HPN.out]; exact Nat.le_refl _)] at ho1
      rw [e, List.take_of_length_le (by rw [based_length, HPN.out]; exact Nat.le_refl _)] at ho2
      obtain ⟨A5, c5, hv5, s5⟩ := Sl.of_own ho1
      subst hv5
      obtain ⟨A6, c6, hv6, s6⟩ := Sl.of_own ho2
      subst hv6
      clear ho1 ho2 ha
      rw [e]
      clear e
      have hd : decide (N < N) = false := by simp
      have q_l := HSL.out.ext he
      have q_m := HSM.out.ext he
      have HE2 := Lib.hid (HE.out.trans he)
      have HTL : Hid ((turned ph (t : Int)).length = N) := by show _ = _; rw [turned_length, HPN.out]
      have HBL : Hid ((based ph).length = N) := by show _ = _; rw [based_length, HPN.out]
      clear he HSP
      go_wp2_with fail
      refine (HC3.out _ q_l.rd q_m.rd).mono ?_
      rintro e w6 ⟨A7, c7, rfl, s7, x6⟩
      replace q_l := q_l.ext x6
      replace q_m := q_m.ext x6
      replace s5 := s5.ext x6
      replace s6 := s6.ext x6
      have E6 := HE2.out.trans x6
      have hle := HS.out.le
      have HCT := Lib.hid (HT.out w6 (t : Int) A5 c5 HTL.out (HS.out.turn _) q_l.rd q_m.rd s5.rd)
      have HZ := Lib.hid HS.out.zero
      have HQ := Lib.hid (fun (W : World) (x : Ext w6 W) => sameInts_any A7 A6 ls.length N c7 c6 ls (based ph) W rfl HBL.out (by omega) (s7.ext x).rd (s6.ext x).rd)
      clear HS q_l q_m s5 s6 x6 HC3 HT s7
      cases ok
      · have hr0 : (r == 0) = false := by
          have : ¬ r = 0 := fun h => by have := (HZ.out.1 h).1; cases this
          simpa using this
        go_wp2_with (go_at_call 26; refine HCT.out.mono ?_; rintro e w7 ⟨rfl, x7⟩)
        go_ret
        exact ⟨rfl, E6.trans x7⟩
      · by_cases hq : ls = based ph
        · have hr0 : (r == 0) = true := by simpa using HZ.out.2 ⟨rfl, hq⟩
          have hqd : decide (ls = based ph) = true := decide_eq_true hq
          have HQD := Lib.hid hqd
          clear hq hqd
          go_wp2_with (first | (go_at_call 26; refine HCT.out.mono ?_; rintro e w7 ⟨rfl, x7⟩) | (go_at_call 24; refine (HQ.out _ (by assumption)).mono ?_; rintro e w8 ⟨rfl, y8⟩; rw [HQD.out]))
          go_ret
          exact ⟨rfl, (E6.trans x7).trans y8.ext⟩
        · have hr0 : (r == 0) = false := by
            have : ¬ r = 0 := fun h => hq (HZ.out.1 h).2
            simpa using this
          have hqd : decide (ls = based ph) = false := decide_eq_false hq
          have HQD := Lib.hid hqd
          clear hq hqd
          go_wp2_with (first | (go_at_call 26; refine HCT.out.mono ?_; rintro e w7 ⟨rfl, x7⟩) | (go_at_call 24; refine (HQ.out _ (by assumption)).mono ?_; rintro e w8 ⟨rfl, y8⟩; rw [HQD.out]))
          go_ret
          exact ⟨rfl, (E6.trans x7).trans y8.ext⟩
end Go.Proofs.Ytpjglnmnfmibnaa.fnSolveRest
