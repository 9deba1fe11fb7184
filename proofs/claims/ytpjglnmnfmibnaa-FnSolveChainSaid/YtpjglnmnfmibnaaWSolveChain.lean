/-
  The walk of FnSolveChain: it returns true and writes nothing that was there.
-/
import Derived.Test.YtpjglnmnfmibnaaCloseB
import Derived.Test.YtpjglnmnfmibnaaDrawX
import Derived.Test.YtpjglnmnfmibnaaGainP
import Derived.Test.YtpjglnmnfmibnaaSolSpec
import Derived.Test.YtpjglnmnfmibnaaInts
import Derived.Test.YtpjglnmnfmibnaaAppA
import Derived.Deep.QuietTactic
import Derived.BigQuiet
namespace Go.Proofs.Ytpjglnmnfmibnaa.fnSolveChain
open Go.RowKit
set_option linter.unusedVariables false

/-- the phases of the gains -/
def gv (m i : Nat) : Int := (((i * 53 + i * i * m) % 360 : Nat) : Int)
theorem gv_range (m i : Nat) : 0 ≤ gv m i ∧ gv m i < 360 := by unfold gv; omega
theorem gv_zero (m : Nat) : gv m 0 = 0 := by simp [gv]
/-- the gains, the first k phases set -/
def gK (m N k : Nat) : VL := oneG (fun i => if i < k then gv m i else 0) N
theorem gK_end (m N : Nat) : gK m N N = oneG (gv m) N := by
  unfold gK oneG
  refine List.map_congr_left fun i hi => ?_
  show (1, if i < N then gv m i else 0) = _
  rw [if_pos (List.mem_range.1 hi)]
theorem gK_zero (m N : Nat) : gK m N 0 = List.replicate N (1, 0) := by
  apply List.ext_getElem?
  intro i
  by_cases h : i < N
  · rw [gK, oneG_at h]; simp [h]
  · rw [List.getElem?_eq_none (by simp [gK, oneG_length]; omega), List.getElem?_eq_none (by simp; omega)]
theorem gK_succ {m N k : Nat} (h : k < N) : (gK m N k).set k (1, gv m k) = gK m N (k + 1) := by
  apply List.ext_getElem?
  intro i
  by_cases hi : i < N
  · by_cases e : i = k
    · subst e
      rw [List.getElem?_set_self (by rw [gK, oneG_length]; exact h), gK, oneG_at h]
      simp
    · rw [List.getElem?_set_ne (Ne.symm e), gK, gK, oneG_at hi, oneG_at hi]
      simp only [Option.some.injEq, Prod.mk.injEq, true_and]
      by_cases h2 : i < k
      · rw [if_pos h2, if_pos (by omega)]
      · rw [if_neg h2, if_neg (by omega)]
  · rw [List.getElem?_eq_none (by rw [List.length_set, gK, oneG_length]; omega), List.getElem?_eq_none (by rw [gK, oneG_length]; omega)]
/-- the numbers that the loop reckons -/
theorem gv_int {m i : Nat} (hi : i ≤ 6) (hm : m ≤ 1048576) : IntKind.i64.wrap ((i : Int) * 53) = (i : Int) * 53 ∧ IntKind.i64.wrap ((i : Int) * (i : Int)) = (i : Int) * (i : Int) ∧ IntKind.i64.wrap ((i : Int) * (i : Int) * (m : Int)) = (i : Int) * (i : Int) * (m : Int) ∧
    IntKind.i64.wrap ((i : Int) * 53 + (i : Int) * (i : Int) * (m : Int)) = (i : Int) * 53 + (i : Int) * (i : Int) * (m : Int) ∧ ((i : Int) * 53 + (i : Int) * (i : Int) * (m : Int)).tmod 360 = gv m i := by
  have h1 : i * i ≤ 36 := Nat.mul_le_mul hi hi
  have h2 : i * i * m ≤ 36 * 1048576 := Nat.mul_le_mul h1 hm
  have e1 : (i : Int) * (i : Int) = ((i * i : Nat) : Int) := by simp
  have e2 : (i : Int) * (i : Int) * (m : Int) = ((i * i * m : Nat) : Int) := by simp
  rw [e1] at e2 ⊢
  rw [e2]
  refine ⟨IntWalk.i64_in _ (by omega), IntWalk.i64_in _ (by omega), IntWalk.i64_in _ (by omega), IntWalk.i64_in _ (by omega), ?_⟩
  rw [Int.tmod_eq_emod_of_nonneg (by omega)]
  unfold gv
  omega
set_option maxHeartbeats 1000000 in
theorem ones_any (N : Nat) (w : World) (hN : N ≤ 7) : Calls Try.prog 28 #[.int .i64 (N : Int)] w (RetS w 47 N (pairs (List.replicate N (1, 0)))) := by
  go_enter Try.func28, Try.ntmps28
  go_wp2_with fail
  go_loopw [3, 4] (fun v i wr => ∃ k : Nat, k ≤ N ∧ i = .int .i64 k ∧ wr.ownsRow w.heap.size 47 2 v k (pairs (List.replicate k (1, 0))) ∧ Ext w wr) (fun _ i _ => N - (intOf i).toNat)
  case atStart => exact ⟨0, Nat.zero_le _, rfl, World.ownsRow_lit w #[] 0 (Nat.le_refl _) (by simp [maxLen]) rfl, (Ext.refl w).alloc _⟩
  case round =>
    obtain ⟨k, hk, rfl, hs, he⟩ := hrel
    have hz := he.size
    by_cases hlt : k < N
    · have h2 : (k : Int) < (N : Int) := by omega
      go_wp2_with (at_builtin; refine wpList_append2C (w := wr) rfl _ _ _ rfl w.heap.size 47 16 Vis.info Try.underlying24 _ k _ (by rfl) hs 1 0 rfl (by omega) (by omega) hz ?_; intro v' w' hs' C')
      go_roundw
      case rel => exact ⟨k + 1, by omega, by go_num, by rw [List.replicate_succ']; exact hs', he.more C' (Nat.le_refl _)⟩
      case measure => simp [intOf]; omega
    · have e : k = N := by omega
      rw [e] at hs
      rw [e]
      have hd : decide (N < N) = false := by simp
      go_wp2
      go_ret
      exact RetS.of_own hs he
/-- what is kept of the solution and of the gains -/
structure LsC (N : Nat) (ls ys : List Int) (ph : Nat → Int) : Prop where
  len : ls.length = N
  leny : ys.length = N
  rng : ∀ k, 0 ≤ pAt ls k ∧ pAt ls k < 360
  eq : ∀ i, i < N → pAt ys i = (pAt ls i + ph i - ph 0) % 360
set_option maxRecDepth 100000 in
set_option maxHeartbeats 4000000 in
theorem walk (A0 : Option Addr) (n0 c0 : Nat) (b0 : List Int) (A1 : Option Addr) (n1 c1 : Nat) (b1 : List Int) (w : World) (hn0 : b0.length = n0) (hm0 : n0 ≤ 9223372036854775807) (h0 : Rd w w.heap.size A0 n0 c0 (b0.map (.int .u8))) (hw0 : ∀ z ∈ b0, 0 ≤ z ∧ z ≤ 255) (hn1 : b1.length = n1) (hm1 : n1 ≤ 9223372036854775807) (h1 : Rd w w.heap.size A1 n1 c1 (b1.map (.int .u8))) (hw1 : ∀ z ∈ b1, 0 ≤ z ∧ z ≤ 255) :
    Calls Try.prog 7 #[.slice A0 n0 c0, .slice A1 n1 c1] w fun e w' => e = .returned (.bool true) ∧ Ext w w' := by
  have HN0 := Lib.hid hn0
  have HW0 := Lib.hid hw0
  clear hn0 hw0 hn1 hw1 h1
  by_cases hz0 : n0 ≤ 1048576
  case neg =>
    go_enter Try.func7, Try.ntmps7
    go_wp2
    go_ret
    exact ⟨rfl, Ext.refl _⟩
  by_cases hz1 : n1 ≤ 1048576
  case neg =>
    go_enter Try.func7, Try.ntmps7
    go_wp2
    go_ret
    exact ⟨rfl, Ext.refl _⟩
  go_enter Try.func7, Try.ntmps7
  go_wp2_with fail
  refine (drawSolvePhases_any A0 n0 c0 b0 _ HN0.out hm0 h0 HW0.out).mono ?_
  rintro e w1 ⟨N, A_l, n_l, c_l, l, A_m, n_m, c_m, m, rfl, g1, g2, hl, g3, g4, hm, g5, g6, s_l, s_m, x1⟩
  obtain ⟨ls, xs, ys, ok, hlsn, hxsn, HC1, HC2, HC3, HC4, HLS⟩ : ∃ (ls : List Int) (xs : VL) (ys : List Int) (ok : Bool), ls.length ≤ 7 ∧ (ok = true → xs.length ≤ 21) ∧
      Hid (∀ W, Rd W W.heap.size A_l n_l c_l (pairs l) → Rd W W.heap.size A_m n_m c_m (pairs m) → Calls Try.prog 22 #[.int .i64 (N : Int), .slice A_l n_l c_l, .slice A_m n_m c_m] W (RetSB W 3 ls.length (ints ls) ok)) ∧
      Hid (∀ W, Rd W W.heap.size A_l n_l c_l (pairs l) → Rd W W.heap.size A_m n_m c_m (pairs m) → Calls Try.prog 23 #[.int .i64 (N : Int), .slice A_l n_l c_l, .slice A_m n_m c_m] W (RetSB W 3 ls.length (ints ls) ok)) ∧
      Hid (ok = true → ∀ W A c, Rd W W.heap.size A_l n_l c_l (pairs l) → Rd W W.heap.size A N c (pairs (oneG (gv n1) N)) → Calls Try.prog 18 #[.int .i64 (N : Int), .slice A_l n_l c_l, .slice A N c] W (RetSB W 47 xs.length (pairs xs) true)) ∧
      Hid (ok = true → ∀ W A c, Rd W W.heap.size A xs.length c (pairs xs) → Rd W W.heap.size A_m n_m c_m (pairs m) → Calls Try.prog 22 #[.int .i64 (N : Int), .slice A xs.length c, .slice A_m n_m c_m] W (RetSB W 3 N (ints ys) true)) ∧
      Hid (ok = true → LsC N ls ys (gv n1)) := by
    refine ⟨spL (N : Int) l m, gaM l (oneG (gv n1) N) (bp N), spL (N : Int) (gaM l (oneG (gv n1) N) (bp N)) m, spB (N : Int) l m, spL_length _ _ _, fun _ => by rw [gaM_length, bp_length N (by omega)]; exact nb_le N (by omega), fun W r1 r2 => solvePhases_any (N : Int) A_l A_m n_l c_l n_m c_m l m W hl hm (by omega) (by omega) r1 r2,
      fun W r1 r2 => specSolvePhases_any (N : Int) A_l A_m n_l c_l n_m c_m l m W hl hm (by omega) (by omega) r1 r2, fun h W A c r1 r2 => ?_, fun h W A c r1 r2 => ?_, fun h => ?_⟩
    · obtain ⟨e1, e2, _⟩ := chain h (gv_range n1)
      have := gainApply_any (N : Int) A_l A n_l c_l N c l (oneG (gv n1) N) W hl (oneG_length _ _) (by omega) (by omega) r1 r2
      rwa [e1, e2] at this
    · obtain ⟨_, _, e3, e4, _⟩ := chain h (gv_range n1)
      have hx : (gaM l (oneG (gv n1) N) (bp N)).length ≤ 21 := by rw [gaM_length, bp_length N (by omega)]; exact nb_le N (by omega)
      have := solvePhases_any (N : Int) A A_m _ c n_m c_m (gaM l (oneG (gv n1) N) (bp N)) m W rfl hm (by omega) (by omega) r1 r2
      rwa [e3, e4] at this
    · obtain ⟨_, _, _, e4, e5, e6⟩ := chain h (gv_range n1)
      obtain ⟨N', e, _, _, _, _, _, _, hso, _⟩ := spB_yes h
      refine ⟨e5, e4, fun k => ?_, e6⟩
      rw [hso]
      exact phsB_at (soL_phs _ _ _ _) k
  have HL := Lib.hid hl
  have HM := Lib.hid hm
  clear hl hm
  have E := x1
  go_wp2_with fail
  refine (HC1.out _ s_l.rd s_m.rd).mono ?_
  rintro e w2 ⟨A_o, c_o, rfl, s_o, x2⟩
  replace s_l := s_l.ext x2
  replace s_m := s_m.ext x2
  replace E := E.trans x2
  cases ok
  case false =>
    go_wp2_with fail
    refine (HC2.out _ s_l.rd s_m.rd).mono ?_
    rintro e w3 ⟨A_w, c_w, rfl, s_w, x3⟩
    replace s_o := s_o.ext x3
    replace E := E.trans x3
    go_wp2_with fail
    refine (sameInts_any A_o A_w ls.length ls.length c_o c_w ls ls _ rfl rfl (by omega) s_o.rd s_w.rd).mono ?_
    rintro e w4 ⟨rfl, y4⟩
    replace s_o := s_o.ext y4.ext
    replace s_w := s_w.ext y4.ext
    replace E := E.trans y4.ext
    rw [show decide (ls = ls) = true from decide_eq_true rfl]
    go_wp2_with fail
    refine (sameInts_any A_o A_w ls.length ls.length c_o c_w ls ls _ rfl rfl (by omega) s_o.rd s_w.rd).mono ?_
    rintro e w5 ⟨rfl, y5⟩
    replace E := E.trans y5.ext
    rw [show decide (ls = ls) = true from decide_eq_true rfl]
    go_wp2
    go_ret
    exact ⟨rfl, E⟩
  have HP := Lib.hid (HLS.out rfl)
  have HC3' := Lib.hid (HC3.out rfl)
  have HC4' := Lib.hid (HC4.out rfl)
  have hxs := hxsn rfl
  clear HLS HC3 HC4 hxsn
  go_wp2_with fail
  refine (HC2.out _ s_l.rd s_m.rd).mono ?_
  rintro e w3 ⟨A_w, c_w, rfl, s_w, x3⟩
  replace s_l := s_l.ext x3
  replace s_m := s_m.ext x3
  replace s_o := s_o.ext x3
  replace E := E.trans x3
  have hsn : ls.length = N := HP.out.len
  rw [hsn] at s_o s_w ⊢
  have HSN := Lib.hid hsn
  clear hlsn hsn HC1 HC2
  go_wp2_with fail
  refine (sameInts_any A_o A_w N N c_o c_w ls ls _ HSN.out HSN.out (by omega) s_o.rd s_w.rd).mono ?_
  rintro e w4 ⟨rfl, y4⟩
  have x4 := y4.ext
  replace s_l := s_l.ext x4
  replace s_m := s_m.ext x4
  replace s_o := s_o.ext x4
  replace E := E.trans x4
  rw [show decide (ls = ls) = true from decide_eq_true rfl]
  have zz1 := x1.size
  have zz2 := x2.size
  have zz3 := x3.size
  have zz4 := x4.size
  have zE := E.size
  clear s_w x1 x2 x3 y4 x4
  go_wp2_with fail
  refine (ones_any N _ (by omega)).mono ?_
  rintro e w5 ⟨A_g, c_g, rfl, s_g, x5⟩
  replace s_l := s_l.ext x5
  replace s_m := s_m.ext x5
  replace s_o := s_o.ext x5
  replace E := E.trans x5
  have z5 := x5.size
  obtain ⟨gg, og, ea, hg1, hg2, _⟩ := s_g.addr (by rw [pairs_length]; simp; omega)
  obtain rfl := ea
  rw [← gK_zero n1 N] at s_g
  have HSL := Lib.hid s_l
  have HSM := Lib.hid s_m
  have HSO := Lib.hid s_o
  have HE := Lib.hid E
  clear s_l s_m s_o E x5
  go_wp2_with fail
  go_loopw [13] (fun i wr => ∃ k : Nat, k ≤ N ∧ i = .int .i64 k ∧ Sl wr w4.heap.size w5.heap.size 47 (some ⟨gg, og, none⟩) N c_g (pairs (gK n1 N k)) ∧ Chg w4.heap.size w5.heap.size w5 wr) (fun i _ => N - (intOf i).toNat)
  case atStart => exact ⟨0, Nat.zero_le _, rfl, s_g, Chg.refl _ _ _⟩
  case round =>
    obtain ⟨k, hk, rfl, hs, hc⟩ := hrel
    by_cases hlt : k < N
    · have hkn : (k : Int) < (N : Int) := by omega
      have hk0 : (0 : Int) ≤ (k : Int) := by omega
      have hat : (gK n1 N k)[k]? = some (1, 0) := by rw [gK, oneG_at hlt]; simp
      have c1 := hs.snd hat
      have fr := hs.frozen (by rw [pairs_length, gK, oneG_length]; omega) (og + k * 2 + 1)
      have R := Lib.hid (hs.setS hat (gv n1 k))
      rw [gK_succ hlt] at R
      have C := Lib.hid (hc.setCell (p := ⟨gg, og + k * 2 + 1, none⟩) (.inl ⟨hg1, hg2⟩) (.int .i64 (gv n1 k)))
      obtain ⟨f1, f2, f3, f4, f5⟩ := gv_int (m := n1) (i := k) (by omega) hz1
      clear hat hs hc
      go_wp2_with fail
      try rw [f5]
      go_roundw
      case rel => exact ⟨k + 1, by omega, by go_num, R.out, C.out⟩
      case measure => simp [intOf]; omega
    · have e : k = N := by omega
      rw [e, gK_end] at hs
      have hd : decide (k < N) = false := by simpa using hlt
      clear e
      have q_l := HSL.out.chg hc (.inl (by omega))
      have q_m := HSM.out.chg hc (.inl (by omega))
      have q_o := HSO.out.chg hc (.inl (by omega))
      have E2 := HE.out.more hc (by omega)
      have q_g := hs
      have HSL2 := Lib.hid q_l
      have HSM2 := Lib.hid q_m
      have HSO2 := Lib.hid q_o
      have HSG2 := Lib.hid q_g
      have HE2 := Lib.hid E2
      clear q_l q_m q_o q_g hs hc E2 HSL HSM HSO HE s_g
      go_wp2_with fail
      refine (HC3'.out _ _ _ HSL2.out.rd HSG2.out.rd).mono ?_
      rintro e w6 ⟨A_x, c_x, rfl, s_x, x6⟩
      go_wp2_with fail
      refine (HC4'.out _ _ _ s_x.rd (HSM2.out.ext x6).rd).mono ?_
      rintro e w7 ⟨A_y, c_y, rfl, s_y, x7⟩
      have q_o := (HSO2.out.ext x6).ext x7
      have q_g := (HSG2.out.ext x6).ext x7
      have E7 := (HE2.out.trans x6).trans x7
      obtain ⟨gy, oy, ea, _, _, _⟩ := s_y.addr (by rw [ints_length, HP.out.leny]; omega)
      obtain rfl := ea
      obtain ⟨go, oo, ea, _, _, _⟩ := q_o.addr (by rw [ints_length, HP.out.len]; omega)
      obtain rfl := ea
      have HSO3 := Lib.hid q_o
      have HSG3 := Lib.hid q_g
      have HSY3 := Lib.hid s_y
      clear HSL2 HSM2 HSO2 HSG2 HE2 HC3' HC4' s_x x6 x7 q_o q_g s_y
      go_wp2_with fail
      go_loopw [18] (fun i wr => ∃ k : Nat, k ≤ N ∧ i = .int .i64 k ∧ Quiet w7 wr) (fun i _ => N - (intOf i).toNat)
      case atStart => exact ⟨0, Nat.zero_le _, rfl, Quiet.refl _⟩
      case round =>
        obtain ⟨k2, hk2, rfl, hq⟩ := hrel
        by_cases hlt2 : k2 < N
        · have hkn : (k2 : Int) < (N : Int) := by omega
          have hk0 : (0 : Int) ≤ (k2 : Int) := by omega
          have hN0 : (0 : Int) < (N : Int) := by omega
          have hNn : 0 < N := by omega
          have x := hq.ext
          have rg := HP.out.rng k2
          have v1 := gv_range n1 k2
          have v0 := gv_range n1 0
          have d1 := (HSY3.out.ext x).cell (ints_at' (some_pAt (l := ys) (k := k2) (by rw [HP.out.leny]; exact hlt2)))
          have d2 := (HSO3.out.ext x).cell (ints_at' (some_pAt (l := ls) (k := k2) (by rw [HP.out.len]; exact hlt2)))
          have d3 := (HSG3.out.ext x).snd (oneG_at (ph := gv n1) hlt2)
          have d4 := (HSG3.out.ext x).snd (oneG_at (ph := gv n1) hNn)
          rw [HP.out.eq k2 hlt2] at d1
          simp only [Nat.zero_mul, Nat.add_zero] at d4
          have f1 : IntKind.i64.wrap (pAt ls k2 + gv n1 k2) = pAt ls k2 + gv n1 k2 := IntWalk.i64_in _ (by omega)
          have f2 : IntKind.i64.wrap (pAt ls k2 + gv n1 k2 - gv n1 0) = pAt ls k2 + gv n1 k2 - gv n1 0 := IntWalk.i64_in _ (by omega)
          clear x
          go_wp2
          go_quiet ((go_at_call 29; exact quiet_same (phaseOf_any _ _)))
          go_wp2
          go_roundw
          case rel => exact ⟨k2 + 1, by omega, by go_num, hq.drewN _⟩
          case measure => simp [intOf]; omega
        · have e : k2 = N := by omega
          have hd2 : decide (k2 < N) = false := by simpa using hlt2
          go_wp2
          go_ret
          exact ⟨rfl, E7.trans hq.ext⟩
end Go.Proofs.Ytpjglnmnfmibnaa.fnSolveChain
