/-
  Words for the draw of FnSolveRest: an append of one int, with what it leaves as it was.
-/
import Derived.Test.YtpjglnmnfmibnaaDrawX
import Derived.Test.YtpjglnmnfmibnaaInts
import Derived.Test.YtpjglnmnfmibnaaSolSpec
namespace Go.Proofs.Ytpjglnmnfmibnaa
open Go.RowKit
set_option linter.unusedVariables false

theorem wpList_append1C {P : Program} {w : World} {ops : Array Oper} {rest : List Oper} {o : Oper} {a : Act} {Q : Exit → Act → World → Prop} (hgd : o.guard = none) (s x : Operand) (t : TypeId)
    (ho : o.op = .call { callee := .builtin .append, args := #[s, x], argTypes := #[t, t] })
    (base : Nat) (E : TypeId) (z : Value) (bytes : Nat) (hinfo : (P.info? E).map (fun i => (i.zero, i.size, i.bytes)) = some (some z, 1, bytes)) (ht : P.underlying t = some (.slice E)) (hz : z.cells.size = 1)
    (v : Value) (n : Nat) (xs : List Value) (hs : a.eval s = v) (hown : w.ownsRow base E 1 v n xs)
    (u : Value) (b : Nat) (hx : a.eval x = .slice (some ⟨b, 0, none⟩) 1 1) (hb : b = w.heap.size) (h1 : u.oneCell' = true) (hbytes : (n + 1) * bytes ≤ 100000000) (hn : n + 1 ≤ 100000000) (hbase : base ≤ w.heap.size)
    (h : ∀ v' w', w'.ownsRow base E 1 v' (n + 1) (xs ++ [u]) → Chg base w.heap.size w w' → wpList P ops Q rest (a.put o.dst v') w') : wpList P ops Q (o :: rest) a (w.alloc (.cells #[u] E)) := by
  obtain ⟨i, hi, hz1, hz2, hz3⟩ := info_parts hinfo
  subst hb
  refine wpList_append_own _ hgd s x t ho base E i z 1 bytes ht hi hz1 hz2 hz3 hz (by omega) v n xs hs (hown.alloc _) ⟨w.heap.size, 0, none⟩ 1 1 [u] hx rfl ?_ ?_ (by unfold maxLen; omega) (by omega) (by simp; omega) ?_
  · intro j u' hj
    match j, hj with
    | 0, hj => simp at hj; subst hj; simp [Addr.add]
  · intro u' hu; simp at hu; subst hu; exact h1
  · intro v' w' ho' hg _
    exact h v' w' ho' (((Chg.refl base w.heap.size w).alloc _).grown hg fun g hg' => .inl ⟨own_base hown g hg', own_lt hown g hg'⟩)
def Some3 (w : World) (e : Ending) (w' : World) : Prop :=
  ∃ (N : Nat) (A : Option Addr) (n c : Nat) (l : VL) (A2 : Option Addr) (n2 c2 : Nat) (l2 : VL) (A3 : Option Addr) (n3 c3 : Nat) (ph : List Int), e = .returned (.tuple #[.int .i64 (N : Int), .slice A n c, .slice A2 n2 c2, .slice A3 n3 c3]) ∧ 2 ≤ N ∧ N ≤ 6 ∧
    l.length = n ∧ n ≤ 22 ∧ l2.length = n2 ∧ n2 ≤ 22 ∧ ph.length = n3 ∧ n3 ≤ 22 ∧ Sl w' w.heap.size w'.heap.size 47 A n c (pairs l) ∧ Sl w' w.heap.size w'.heap.size 47 A2 n2 c2 (pairs l2) ∧ Sl w' w.heap.size w'.heap.size 3 A3 n3 c3 (ints ph) ∧ Ext w w'
theorem results_tmp4 {fn : Func} {t u v x : Tmp} (h : fn.results = #[.tmp t, .tmp u, .tmp v, .tmp x]) (tmps : Array Value) (P : Program) (w : World) :
    (results fn tmps).run P w = .ok (.tuple #[tmps.getD t undef, tmps.getD u undef, tmps.getD v undef, tmps.getD x undef]) w := by
  simp [results, h]
theorem Sl.setI0 {w : World} {lo hi g off n c : Nat} {E : TypeId} {l : List Int} (h : Sl w lo hi E (some ⟨g, off, none⟩) n c (ints l)) (k : Nat) (u : Int) : Sl (w.setCell ⟨g, off + k, none⟩ (.int .i64 u)) lo hi E (some ⟨g, off, none⟩) n c (ints (l.set k u)) := by
  rw [← ints_set]; exact h.set_ k _
theorem specPhaseOf_n (x : Int) (w : World) : Calls Try.prog 46 #[.int .i64 x] w fun e w' => e = .returned (.int .i64 (x % 360)) ∧ w' = w := (specPhaseOf_any x w).mono fun _ _ h => ⟨h.1, h.2.symm⟩
theorem ints_drop1 (l : List Int) : (ints l).drop 1 = ints (l.drop 1) := by simp [ints]
set_option maxRecDepth 100000 in
set_option maxHeartbeats 4000000 in
theorem drawSolveRest_any (A : Option Addr) (n c : Nat) (zs : List Int) (w : World) (hn : zs.length = n) (hm : n ≤ 9223372036854775807) (h : Rd w w.heap.size A n c (zs.map (.int .u8))) (hz : ∀ z ∈ zs, 0 ≤ z ∧ z ≤ 255) :
    Calls Try.prog 30 #[.slice A n c] w (Some3 w) := by
  have HO := Lib.hid (l6Open_any A n c zs w hn hm h hz)
  clear hn hz h
  go_enter Try.func30, Try.ntmps30
  go_wp2_with fail
  refine HO.out.mono ?_
  rintro e w1 ⟨rfl, R1, x1⟩
  have hr := R1.lt
  have z1 := x1.size
  go_wp2_with fail
  refine (l92Applied_any w.heap.size w.heap.size 0 2 _ (by omega) (by omega) (by omega) R1).mono ?_
  rintro e w2 ⟨N, A1, n1, c1, l1, A2, n2, c2, l2, p', rfl, a1, a2, a3, a4, a5, a6, a7, a8, s1, s2, R2, hp2, C⟩
  have z2 := C.size
  obtain ⟨ls, ok, hlsn, HC, hln⟩ : ∃ (ls : List Int) (ok : Bool), ls.length ≤ 7 ∧
      Hid (∀ W, Rd W W.heap.size A1 n1 c1 (pairs l1) → Rd W W.heap.size A2 n2 c2 (pairs l2) → Calls Try.prog 23 #[.int .i64 (N : Int), .slice A1 n1 c1, .slice A2 n2 c2] W (RetSB W 3 ls.length (ints ls) ok)) ∧ Hid (ok = true → ls.length = N) :=
    ⟨spL (N : Int) l1 l2, spB (N : Int) l1 l2, spL_length _ _ _, fun W r1 r2 => specSolvePhases_any (N : Int) A1 A2 n1 c1 n2 c2 l1 l2 W a3 a6 (by omega) (by omega) r1 r2, fun h => by
      obtain ⟨N', e, _, _, _, _, _, _, hso, _⟩ := spB_yes h
      obtain rfl : N' = N := by omega
      rw [hso, soL_length]⟩
  have H3 := Lib.hid a3
  have H6 := Lib.hid a6
  clear a3 a6
  go_wp2_with fail
  refine (HC.out _ s1.rd s2.rd).mono ?_
  rintro e w3 ⟨A3, c3, rfl, s3, x3⟩
  have z3 := x3.size
  have R3 := R2.ext x3
  have t1 := s1.ext x3
  have t2 := s2.ext x3
  have X3 := (x1.more C (Nat.le_refl _)).trans x3
  clear R1 x1 C R2 x3 s1 s2 HC
  cases ok
  case' false =>
    obtain ⟨pk, hpk⟩ : ∃ x, x = p' := ⟨_, rfl⟩
    obtain ⟨wk, hwk⟩ : ∃ x, x = w3 := ⟨_, rfl⟩
    have hpk1 : pk ≤ 501 := by omega
    have hwz : w.heap.size + 1 ≤ w3.heap.size := by omega
    subst hpk
    subst hwk
    have Rk := R3
    have u1 := t1.full.mono (show w.heap.size + 1 ≤ w1.heap.size by omega) (Nat.le_refl _)
    have u2 := t2.full.mono (show w.heap.size + 1 ≤ w1.heap.size by omega) (Nat.le_refl _)
    have Xk := X3
    clear R3 t1 t2 X3 s3 hln
    go_wp2_with fail
  case' true =>
    have hN := hln.out rfl
    rw [hN] at s3 ⊢
    have HN := Lib.hid hN
    clear hN hln
    go_wp2_with fail
    refine (pick_any w.heap.size w.heap.size p' 3 _ (by omega) (by omega) (by omega) R3).mono ?_
    rintro e w4 ⟨v4, rfl, hv4, R4, C4⟩
    have z4 := C4.size
    have t3 := t1.chg C4 (.inr (by omega))
    have t4 := t2.chg C4 (.inr (by omega))
    have X4 := X3.more C4 (Nat.le_refl _)
    have s4 := s3.chg C4 (.inr (by omega))
    clear t1 t2 X3 s3 C4 R3
    by_cases k0 : v4 = 0
    case' pos =>
      subst k0
      obtain ⟨pk, hpk⟩ : ∃ x, x = p' + 1 := ⟨_, rfl⟩
      obtain ⟨wk, hwk⟩ : ∃ x, x = w4 := ⟨_, rfl⟩
      have hpk1 : pk ≤ 501 := by omega
      have hwz : w.heap.size + 1 ≤ w4.heap.size := by omega
      rw [← hpk] at R4
      subst hwk
      have Rk := R4
      have u1 := t3.full.mono (show w.heap.size + 1 ≤ w1.heap.size by omega) (Nat.le_refl _)
      have u2 := t4.full.mono (show w.heap.size + 1 ≤ w1.heap.size by omega) (Nat.le_refl _)
      have Xk := X4
      clear R4 t3 t4 X4 s4 hpk
      go_wp2_with fail
    case neg =>
      have k0' : (0 : Int) < (v4 : Int) := by omega
      go_wp2_with fail
      refine (pick_any w.heap.size w.heap.size (p' + 1) (N : Int) _ (by omega) (by omega) (by omega) R4).mono ?_
      rintro e w5 ⟨v5, rfl, hv5, R5, C5⟩
      have z5 := C5.size
      have t5 := t3.chg C5 (.inr (by omega))
      have t6 := t4.chg C5 (.inr (by omega))
      have X5 := X4.more C5 (Nat.le_refl _)
      have s5 := s4.chg C5 (.inr (by omega))
      clear t3 t4 X4 s4 C5 R4
      obtain ⟨g3, o3, ea, hg1, hg2, hg3⟩ := s5.addr (by rw [ints_length, HN.out]; omega)
      obtain rfl := ea
      have hv5' : v5 < N := by omega
      have hv5n : (0 : Int) ≤ (v5 : Int) := by omega
      have hcell := ints_at' (some_pAt (l := ls) (k := v5) (by rw [HN.out]; exact hv5'))
      have HCE := Lib.hid hcell
      have c0 := s5.cell hcell
      have hfr := s5.frozen (by rw [ints_length, HN.out]; omega) (o3 + v5)
      have HS5 := Lib.hid s5
      have HT5 := Lib.hid t5
      have HT6 := Lib.hid t6
      have HX5 := Lib.hid X5
      have HR5 := Lib.hid R5
      clear s5 t5 t6 X5 R5 hcell
      generalize pAt ls v5 = y at *
      go_wp2_with fail
      go_region_with (first
        | (go_at_call 53; refine (pick_any w.heap.size w.heap.size (p' + 1 + 1) 5 _ (by omega) (by omega) (by omega) (HR5.out.ext (by repeat (first | (with_reducible exact Ext.refl _) | (with_reducible refine Ext.drew ?_))))).mono ?_; rintro e w6 ⟨v6, rfl, hv6, R6, C6⟩; have y6 : Ext w5 w5.drew := (Ext.refl _).drew; have z6 : w5.heap.size ≤ w6.heap.size := C6.size; have S6 := Lib.hid ((HS5.out.ext y6).chg C6 (.inr (by omega))); have T6 := Lib.hid ((HT5.out.ext y6).chg C6 (.inr (by omega))); have U6 := Lib.hid ((HT6.out.ext y6).chg C6 (.inr (by omega))); have X6 := Lib.hid ((HX5.out.trans y6).more C6 (Nat.le_refl _)); have c6 := S6.out.cell HCE.out; have hfr6 := S6.out.frozen (by rw [ints_length, HN.out]; omega) (o3 + v5); clear C6 R6)
        | (go_at_call 46; refine (specPhaseOf_any _ _).mono ?_; rintro e w' ⟨rfl, rfl⟩))
      all_goals go_wp2_with fail
      all_goals
        refine bodyPost_ret (results_tmp4 rfl _ _ _) rfl ?_
        exact ⟨N, A1, n1, c1, l1, A2, n2, c2, l2, _, N, c3, ls.set v5 (IntKind.i64.wrap (y + (v6 : Int)) % 360), rfl, a1, a2, H3.out, by omega, H6.out, by omega, by rw [List.length_set]; exact HN.out, by omega,
          (T6.out.far (p := ⟨g3, o3 + v5, none⟩) (.inr (by show _ ≤ g3; omega)) _).full.mono (by omega) (Nat.le_refl _), (U6.out.far (p := ⟨g3, o3 + v5, none⟩) (.inr (by show _ ≤ g3; omega)) _).full.mono (by omega) (Nat.le_refl _), (S6.out.setI0 v5 _).full.mono (by omega) (Nat.le_refl _), X6.out.setCell (p := ⟨g3, o3 + v5, none⟩) (by show _ ≤ g3; omega) _⟩
  all_goals
    clear hlsn
    go_loopw [13, 14] (fun v i wr => ∃ (k p2 : Nat) (ph : List Int), k ≤ N ∧ i = .int .i64 k ∧ Hid (ph.length = k) ∧ wr.ownsRow wk.heap.size 3 1 v k (ints ph) ∧ Rdr wr w.heap.size w.heap.size p2 ∧ p2 ≤ 501 + 3 * k ∧ Chg w.heap.size (w.heap.size + 1) wk wr) (fun _ i _ => N - (intOf i).toNat)
    case atStart => exact ⟨0, pk, [], Nat.zero_le _, rfl, rfl, World.ownsRow_lit wk #[] 0 (Nat.le_refl _) (by simp [maxLen]) rfl, Rk.ext ((Ext.refl _).alloc _), by omega, (Ext.chg ((Ext.refl _).alloc _))⟩
    case round =>
      obtain ⟨k, p2, ph, hk, rfl, hph, hs, hR, hp2', hC⟩ := hrel
      have zr := hC.size
      by_cases hlt : k < N
      · have hkn : (k : Int) < (N : Int) := by omega
        go_wp2_with fail
        refine (l91Phase_any w.heap.size w.heap.size p2 _ (by omega) hR).mono ?_
        rintro e w5 ⟨y, p5, rfl, hy1, hy2, R5, hp5, C5⟩
        have z5 := C5.size
        have hs5 := own_chg hs C5 (fun g hg => by have := own_base hs g hg; omega)
        have C6 := hC.trans C5
        go_wp2_with (at_builtin; refine wpList_append1C (w := w5) rfl _ _ _ rfl wk.heap.size 3 (.int .i64 0) 8 I.infoInt Try.underlying36 rfl _ k _ (by rfl) hs5 (.int .i64 y) _ (by rfl) rfl rfl (by omega) (by omega) (by omega) ?_; intro v' w' hs' C')
        go_roundw
        case rel => exact ⟨k + 1, p5, ph ++ [y], by omega, by go_num, (by show _ = _; simp [hph.out]), by rw [← ints_append]; exact hs', R5.chg C' (by omega) (by omega), by omega, C6.moreG C' (Nat.le_refl _)⟩
        case measure => simp [intOf]; omega
      · have e : k = N := by omega
        have hd : decide (k < N) = false := by simpa using hlt
        obtain ⟨A5, c5, hv5, s5⟩ := Sl.of_own hs
        subst hv5
        have q1 := u1.chg hC (.inr (by omega))
        have q2 := u2.chg hC (.inr (by omega))
        have Xr := Xk.more hC (Nat.le_refl _)
        have HP := Lib.hid (hph.out.trans e)
        rw [e] at s5 ⊢
        clear hs e hph hC
        go_wp2_with fail
        refine (pick_any w.heap.size w.heap.size p2 12 _ (by omega) (by omega) (by omega) hR).mono ?_
        rintro e w6 ⟨v6, rfl, hv6, R6, C6⟩
        have z6 := C6.size
        have s6 := s5.chg C6 (.inr (by omega))
        have q3 := q1.chg C6 (.inr (by omega))
        have q4 := q2.chg C6 (.inr (by omega))
        have X6 := Xr.more C6 (Nat.le_refl _)
        clear s5 q1 q2 Xr C6 R6 hR
        obtain ⟨g3, o3, ea, hg1, hg2, hg3⟩ := s6.addr (by rw [ints_length, HP.out]; omega)
        obtain rfl := ea
        have c0 := s6.cell (ints_at' (some_pAt (l := ph) (k := 0) (by rw [HP.out]; omega)))
        rw [Nat.add_zero] at c0
        have hfr := s6.frozen (by rw [ints_length, HP.out]; omega) o3
        have hcap := s6.1
        have HS6 := Lib.hid s6
        have HQ3 := Lib.hid q3
        have HQ4 := Lib.hid q4
        have HX6 := Lib.hid X6
        have hN0 : (0 : Int) < (N : Int) := by omega
        clear s6 q3 q4 X6
        by_cases k0 : v6 = 0
        · subst k0
          go_wp2
          refine bodyPost_ret (results_tmp4 rfl _ _ _) rfl ?_
          have s7 := HS6.out.setI0 0 360
          rw [Nat.add_zero] at s7
          exact ⟨N, A1, n1, c1, l1, A2, n2, c2, l2, _, N, c5, ph.set 0 360, rfl, a1, a2, H3.out, by omega, H6.out, by omega, by rw [List.length_set]; exact HP.out, by omega,
            (HQ3.out.far (p := ⟨g3, o3, none⟩) (.inr (by show _ ≤ g3; omega)) _).full.mono (by omega) (Nat.le_refl _), (HQ4.out.far (p := ⟨g3, o3, none⟩) (.inr (by show _ ≤ g3; omega)) _).full.mono (by omega) (Nat.le_refl _), s7.full.mono (by omega) (Nat.le_refl _), HX6.out.setCell (p := ⟨g3, o3, none⟩) (by show _ ≤ g3; omega) _⟩
        have k0' : ((v6 : Int) == 0) = false := by simp; omega
        by_cases k1 : v6 = 1
        · subst k1
          have s7 := HS6.out.drop 1 (n' := N - 1) (c' := c5 - 1) (by omega)
          rw [ints_drop1] at s7
          have HS7 := Lib.hid s7
          have hN1 : (1 : Int) ≤ (N : Int) := by omega
          have hc1 : 1 < c5 := by omega
          clear s7
          go_wp2
          refine bodyPost_ret (results_tmp4 rfl _ _ _) rfl ?_
          exact ⟨N, A1, n1, c1, l1, A2, n2, c2, l2, some ⟨g3, o3 + 1, none⟩, N - 1, c5 - 1, ph.drop 1, by first | rfl | simp, a1, a2, H3.out, by omega, H6.out, by omega, by rw [List.length_drop, HP.out], by omega,
            HQ3.out.full.mono (by omega) (Nat.le_refl _), HQ4.out.full.mono (by omega) (Nat.le_refl _), HS7.out.full.mono (by omega) (Nat.le_refl _), HX6.out⟩
        have k1' : ((v6 : Int) == 1) = false := by simp; omega
        go_wp2
        refine bodyPost_ret (results_tmp4 rfl _ _ _) rfl ?_
        exact ⟨N, A1, n1, c1, l1, A2, n2, c2, l2, _, N, c5, ph, rfl, a1, a2, H3.out, by omega, H6.out, by omega, HP.out, by omega,
          HQ3.out.full.mono (by omega) (Nat.le_refl _), HQ4.out.full.mono (by omega) (Nat.le_refl _), HS6.out.full.mono (by omega) (Nat.le_refl _), HX6.out⟩
end Go.Proofs.Ytpjglnmnfmibnaa
