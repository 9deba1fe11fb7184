/-
  Drawn gains; GainApply of the reference, as far as the draws need it; drawn lists of visibilities that often differ by gains alone.
-/
import Derived.Test.YtpjglnmnfmibnabDrawV
import Derived.StillTailTactics
namespace Go.Proofs.Ytpjglnmnfmibnab
open Go.RowKit
set_option linter.unusedSimpArgs false
set_option linter.unusedVariables false

set_option maxHeartbeats 4000000 in
theorem l91Gains_any (N B r p : Nat) (w : World) (h1 : 2 ≤ N) (h2 : N < 8) (hp : p ≤ 8000) (h : Rdr w B r p) :
    Calls Try.prog 54 #[.pointer (some ⟨r, 0, none⟩), .int .i64 (N : Int)] w (DrewL w B r p 100 1 22) := by
  have hrl := h.lt
  go_enter Try.func54, Try.ntmps54
  go_wp2_with fail
  go_loopw [5, 6] (fun v i wr => ∃ k : Nat, k ≤ N ∧ i = .int .i64 k ∧ (∃ l : VL, Hid (l.length = k) ∧ wr.ownsRow w.heap.size 30 2 v k (pairs l)) ∧ (∃ p' : Nat, p' ≤ p + 4 * k ∧ Rdr wr B r p') ∧ Chg r (r + 1) w wr) (fun _ i _ => N - (intOf i).toNat)
  case atStart => exact ⟨0, Nat.zero_le _, rfl, ⟨[], rfl, World.ownsRow_lit w #[] 0 (Nat.le_refl _) (by simp [maxLen]) rfl⟩, ⟨p, by omega, h.ext ((Ext.refl _).alloc _)⟩, (Chg.refl _ _ _).alloc _⟩
  case round =>
    obtain ⟨k, hk, rfl, ⟨l, hl, hs⟩, ⟨p', hp', R2⟩, D2⟩ := hrel
    have z2 := D2.size
    by_cases hlt : k < N
    · have hkl : (k : Int) < (N : Int) := by omega
      go_wp2_with fail
      refine (pick_any B r p' 8 _ (by omega) (by omega) (by omega) R2).mono ?_
      rintro e w3 ⟨v3, rfl, hv3, R3, C3⟩
      have z3 := C3.size
      go_wp2_with fail
      refine (l91Phase_any B r (p' + 1) _ (by omega) R3).mono ?_
      rintro e w4 ⟨y, p4, rfl, hy1, hy2, R4, hp4, C4⟩
      have z4 := C4.size
      have hs3 := own_chg hs C3 (fun g hg => by have := own_base hs g hg; omega)
      have hs4 := own_chg hs3 C4 (fun g hg => by have := own_base hs3 g hg; omega)
      have D4 := (D2.trans C3).trans C4
      go_wp2_with (at_builtin; refine wpList_append2C (w := w4) rfl _ _ _ rfl w.heap.size 30 16 Vis.info Try.underlying23 _ k _ (by rfl) hs4 (1 + (v3 : Int)) y rfl (by omega) (by omega) (by omega) ?_; intro v' w' hs' C')
      go_roundw
      case rel => exact ⟨k + 1, by omega, by go_num, ⟨l ++ [(1 + (v3 : Int), y)], (by show _ = _; simp [hl.out]), hs'⟩, ⟨p4, by omega, R4.chg C' (by omega) (by have := h.ge; omega)⟩, D4.moreG C' (Nat.le_refl _)⟩
      case measure => simp [intOf]; omega
    · have e : k = N := by omega
      have HK := Lib.hid e
      have hkd : decide (k < N) = false := by simpa using hlt
      have hk1 : 2 ≤ k := by omega
      clear e
      obtain ⟨A5, c5, hv5, s5⟩ := Sl.of_own hs
      subst hv5
      go_wp2_with fail
      refine (pick_any B r p' 50 _ (by omega) (by omega) (by omega) R2).mono ?_
      rintro e w3 ⟨v3, rfl, hv3, R3, C3⟩
      have z3 := C3.size
      have s6 := s5.chg C3 (.inr (by omega))
      have D3 := D2.trans C3
      obtain ⟨g, off, ea, hg1, hg2, hg3⟩ := s6.addr (by rw [pairs_length, hl.out]; omega)
      obtain rfl := ea
      obtain ⟨⟨a, b⟩, hab⟩ := at_of_lt (l := l) (k := 0) (by rw [hl.out]; omega)
      have HAB := Lib.hid hab
      have c0 := s6.fst hab
      have c1 := s6.snd hab
      simp only [Nat.zero_mul, Nat.add_zero] at c0 c1
      have hk0 : (0 : Int) < (k : Int) := by omega
      clear hab hs s5
      by_cases k0 : v3 = 0
      · subst k0
        have f1 := s6.frozen (by rw [pairs_length, hl.out]; omega) off
        have s8 := s6.setF HAB.out 100
        simp only [Nat.zero_mul, Nat.add_zero] at s8
        have HS8 := Lib.hid s8
        clear s6 s8
        go_wp2
        go_ret
        exact ⟨_, k, c5, _, _, rfl, by simp [hl.out], by omega, by omega, HS8.out.full.mono (by omega) (Nat.le_refl _), R3.far (q := ⟨g, off, none⟩) (by show r < g; omega) _, by omega, D3.setCell (p := ⟨g, off, none⟩) (.inr (by show _ ≤ g; omega)) _⟩
      have k0' : ((v3 : Int) == 0) = false := by simp; omega
      by_cases k1 : v3 = 1
      · subst k1
        have f1 := s6.frozen (by rw [pairs_length, hl.out]; omega) (off + 1)
        have s8 := s6.setS HAB.out (-1)
        simp only [Nat.zero_mul, Nat.add_zero] at s8
        have HS8 := Lib.hid s8
        clear s6 s8
        go_wp2
        go_ret
        exact ⟨_, k, c5, _, _, rfl, by simp [hl.out], by omega, by omega, HS8.out.full.mono (by omega) (Nat.le_refl _), R3.far (q := ⟨g, off + 1, none⟩) (by show r < g; omega) _, by omega, D3.setCell (p := ⟨g, off + 1, none⟩) (.inr (by show _ ≤ g; omega)) _⟩
      have k1' : ((v3 : Int) == 1) = false := by simp; omega
      by_cases k2 : v3 = 2
      · subst k2
        have hc5 : k ≤ c5 := s6.1
        have s7 := s6.drop (1 * 2) (n' := k - 1) (c' := c5 - 1) (by omega)
        rw [pairs_drop] at s7
        have HS7 := Lib.hid s7
        have q1 : (1 : Int) ≤ (k : Int) := by omega
        have q2 : 1 < c5 := by omega
        clear s6 s7
        go_wp2
        go_ret
        exact ⟨some ⟨g, off + 1 * 2, none⟩, k - 1, c5 - 1, l.drop 1, _, by first | rfl | simp, by simp [hl.out], by omega, by omega, HS7.out.full.mono (by omega) (Nat.le_refl _), R3, by omega, D3⟩
      have k2' : ((v3 : Int) == 2) = false := by simp; omega
      go_wp2
      go_ret
      exact ⟨_, k, c5, l, _, rfl, hl.out, by omega, by omega, s6.full.mono (Nat.le_refl _) (Nat.le_refl _), R3, by omega, D3⟩
theorem l92Many_any (B r p : Nat) (least : Nat) (w : World) (h1 : 2 ≤ least) (h2 : least ≤ 3) (hp : p ≤ 7000) (h : Rdr w B r p) :
    Calls Try.prog 52 #[.pointer (some ⟨r, 0, none⟩), .int .i64 (least : Int)] w fun e w' => ∃ (N : Nat) (A : Option Addr) (n c : Nat) (l : VL) (p' : Nat), e = .returned (.tuple #[.int .i64 (N : Int), .slice A n c]) ∧ 2 ≤ N ∧ N ≤ 6 ∧ l.length = n ∧ 1 ≤ n ∧ n ≤ 22 ∧ Sl w' w.heap.size w'.heap.size 30 A n c (pairs l) ∧ Rdr w' B r p' ∧ p' ≤ p + 101 ∧ Chg r (r + 1) w w' := by
  have hrl := h.lt
  go_enter Try.func52, Try.ntmps52
  go_wp2_with fail
  refine (l91Ants_any B r p _ (by omega) h).mono ?_
  rintro e w2 ⟨x, p2, rfl, hx1, hx2, R, hp2, C⟩
  have z2 := C.size
  obtain ⟨X, rfl⟩ := Int.eq_ofNat_of_zero_le (show 0 ≤ x by omega)
  by_cases hlx : least < X
  · have hd : decide (least < X) = true := by simpa using hlx
    go_wp2_with fail
    refine (l91Vis_any X B r p2 _ (by omega) (by omega) (by omega) R).mono ?_
    rintro e w3 ⟨A, n, c, l, p3, rfl, hl, hn1, hn2, s, R3, hp3, C3⟩
    have HL := Lib.hid hl
    clear hl
    go_wp2
    go_ret2
    exact ⟨X, A, n, c, l, p3, rfl, by omega, by omega, HL.out, hn1, hn2, s.mono (by omega) (Nat.le_refl _), R3, by omega, C.trans C3⟩
  · have hd : decide (least < X) = false := by simpa using hlx
    go_wp2_with fail
    refine (l91Vis_any least B r p2 _ (by omega) (by omega) (by omega) R).mono ?_
    rintro e w3 ⟨A, n, c, l, p3, rfl, hl, hn1, hn2, s, R3, hp3, C3⟩
    have HL := Lib.hid hl
    clear hl
    go_wp2
    go_ret2
    exact ⟨least, A, n, c, l, p3, rfl, by omega, by omega, HL.out, hn1, hn2, s.mono (by omega) (Nat.le_refl _), R3, by omega, C.trans C3⟩
theorem wpList_append2C' {P : Program} {w : World} {ops : Array Oper} {rest : List Oper} {o : Oper} {a : Act} {Q : Exit → Act → World → Prop} (hgd : o.guard = none) (s x : Operand) (t : TypeId)
    (ho : o.op = .call { callee := .builtin .append, args := #[s, x], argTypes := #[t, t] })
    (base : Nat) (E : TypeId) (bytes : Nat) (hinfo : (P.info? E).map (fun i => (i.zero, i.size, i.bytes)) = some (some (.agg #[.int .i64 0, .int .i64 0]), 2, bytes)) (ht : P.underlying t = some (.slice E))
    (v : Value) (n : Nat) (l : List (Int × Int)) (hs : a.eval s = v) (hown : w.ownsRow base E 2 v n (pairs l))
    (p q : Int) (b : Nat) (hx : a.eval x = .slice (some ⟨b, 0, none⟩) 1 1) (hb : b = w.heap.size) (hbytes : (n + 1) * bytes ≤ 100000000) (hn : n + 1 ≤ 100000000) (hbase : base ≤ w.heap.size)
    (h : ∀ v' w', w'.ownsRow base E 2 v' (n + 1) (pairs (l ++ [(p, q)])) → Chg base w.heap.size w w' → wpList P ops Q rest (a.put o.dst v') w') : wpList P ops Q (o :: rest) a (w.alloc (.cells #[.int .i64 p, .int .i64 q] E)) :=
  wpList_append2C hgd s x t ho base E bytes hinfo ht v n l hs hown p q (hb ▸ hx) hbytes hn hbase h
theorem own_ne {w : World} {base : Nat} {E : TypeId} {size n : Nat} {v : Value} {xs : List Value} (h : w.ownsRow base E size v n xs) : ∀ g, v.ownBlock = some g → g ≠ w.heap.size := fun g hg => by have := own_lt h g hg; omega
/-- what GainApply returns: how long the list is -/
def GApp (w : World) (e : Ending) (w' : World) : Prop :=
  ∃ (A : Option Addr) (m c : Nat) (l : VL) (ok : Bool), e = .returned (.tuple #[.slice A m c, .bool ok]) ∧ l.length = m ∧ m ≤ 21 ∧ (ok = true → 1 ≤ m) ∧ Sl w' w.heap.size w'.heap.size 30 A m c (pairs l) ∧ Ext w w'
theorem specPhaseOf_s (x : Int) (w : World) : Calls Try.prog 66 #[.int .i64 x] w fun e w' => e = .returned (.int .i64 (x % 360)) ∧ w' = w := (specPhaseOf_any x w).mono fun _ _ h => ⟨h.1, h.2.symm⟩
set_option maxRecDepth 100000 in
set_option maxHeartbeats 4000000 in
theorem specGainApply_w (N : Nat) (A1 A2 : Option Addr) (n1 c1 n2 c2 : Nat) (l g : VL) (w : World) (h1 : 2 ≤ N) (h2 : N < 8) (hl : l.length = n1) (hg : g.length = n2) (z1 : n1 ≤ 1048576) (z2 : n2 ≤ 1048576)
    (r1 : Rd w w.heap.size A1 n1 c1 (pairs l)) (r2 : Rd w w.heap.size A2 n2 c2 (pairs g)) : Calls Try.prog 53 #[.int .i64 (N : Int), .slice A1 n1 c1, .slice A2 n2 c2] w (GApp w) := by
  have x0 : Ext w (w.alloc (.cells #[] 30)) := (Ext.refl w).alloc _
  have HV := Lib.hid (fun (q : Nat) => specVisValid_any (N : Int) A1 n1 c1 l ((w.alloc (.cells #[] 30)).drewN q) hl (by omega) ((r1.ext x0).drewN q))
  have HV0 := Lib.hid (specVisValid_any (N : Int) A1 n1 c1 l (w.alloc (.cells #[] 30)) hl (by omega) (r1.ext x0))
  have HG := Lib.hid (fun (q : Nat) => specGainsValid_any (N : Int) A2 n2 c2 g ((w.alloc (.cells #[] 30)).drewN q) hg (by omega) ((r2.ext x0).drewN q))
  have HL := Lib.hid hl
  have HGL := Lib.hid hg
  rcases e1 : visB (N : Int) l with _ | _
  · rw [e1] at HV0
    clear hl hg r1 r2 e1
    go_enter Try.func53, Try.ntmps53
    go_wp2_with fail
    refine HV0.out.mono ?_
    rintro e w1 ⟨rfl, q, rfl⟩
    go_wp2
    go_ret2
    exact ⟨_, 0, 0, [], false, rfl, rfl, by omega, (fun h => by cases h), Sl.nil (Nat.le_refl _), x0.drewN q⟩
  rw [e1] at HV0
  rcases e2 : gaB (N : Int) g with _ | _
  · rw [e2] at HG
    clear hl hg r1 r2 e1 e2
    go_enter Try.func53, Try.ntmps53
    go_wp2_with fail
    refine HV0.out.mono ?_
    rintro e w1 ⟨rfl, q, rfl⟩
    go_wp2_with fail
    refine (HG.out q).mono ?_
    rintro e w2 ⟨rfl, q2, rfl⟩
    go_wp2
    go_ret2
    exact ⟨_, 0, 0, [], false, rfl, rfl, by omega, (fun h => by cases h), Sl.nil (Nat.le_refl _), x0.drewN _⟩
  rw [e2] at HG
  obtain ⟨N', e, _, _, g3, g4⟩ := visB_parts e1
  obtain rfl : N' = N := by omega
  obtain ⟨N2, e', _, _, g5, g6⟩ := gaB_parts e2
  obtain rfl : N2 = N' := by omega
  have HRL := Lib.hid g4
  have HG3 := Lib.hid g3
  have HG5 := Lib.hid g5
  have hn1 : n1 = nb N2 := by rw [← hl]; exact g3
  have hn2 : n2 = N2 := by rw [← hg]; exact g5
  have HN1 := Lib.hid hn1
  have hn2a : n2 ≤ N2 := by omega
  have hn2b : N2 ≤ n2 := by omega
  obtain ⟨gg, og, rfl⟩ := r2.addr (by rw [pairs_length, hg]; omega)
  have HR1 := Lib.hid r1
  have HR2 := Lib.hid r2
  have hnb := nb_le N2 h2
  have hnp := nb_pos N2 h2 h1
  have HX0 := Lib.hid x0
  clear e e' e1 e2 g3 g4 g5 g6 hn1 hn2 hl hg r1 r2 x0
  go_enter Try.func53, Try.ntmps53
  go_wp2_with fail
  refine HV0.out.mono ?_
  rintro e w1 ⟨rfl, q, rfl⟩
  go_wp2_with fail
  refine (HG.out q).mono ?_
  rintro e w2 ⟨rfl, q2, rfl⟩
  go_wp2_with fail
  go_loopw [8, 9] (fun v i wr => ∃ (k : Nat) (ll : VL), k ≤ N2 ∧ i = .int .i64 k ∧ Hid (ll.length = row N2 k) ∧ wr.ownsRow w.heap.size 30 2 v (row N2 k) (pairs ll) ∧ Ext w wr) (fun _ i _ => N2 - (intOf i).toNat)
  case atStart => exact ⟨0, [], Nat.zero_le _, rfl, (by show _ = _; rw [row_zero]; rfl), by rw [row_zero]; exact World.ownsRow_lit w #[] 0 (Nat.le_refl _) (by simp [maxLen]) rfl, HX0.out.drewN _⟩
  case round =>
    obtain ⟨k, ll, hk, rfl, hll, hs, he⟩ := hrel
    by_cases hlt : k < N2
    · have hkn : (k : Int) < (N2 : Int) := by omega
      have hkg : (k : Int) < (n2 : Int) := by omega
      have hk0 : (0 : Int) ≤ (k : Int) := by omega
      go_wp2_with fail
      go_loopw [8, 10] (fun v j wr => ∃ (j0 : Nat) (ll : VL), k + 1 ≤ j0 ∧ j0 ≤ N2 ∧ j = .int .i64 j0 ∧ Hid (ll.length = bIx N2 k j0) ∧ wr.ownsRow w.heap.size 30 2 v (bIx N2 k j0) (pairs ll) ∧ Ext w wr) (fun _ j _ => N2 - (intOf j).toNat)
      case atStart => exact ⟨k + 1, ll, Nat.le_refl _, by omega, by go_num, (by show _ = _; rw [bIx_first]; exact hll.out), by rw [bIx_first]; exact hs, he⟩
      case round =>
        clear hll hs he
        obtain ⟨j, ll, hj1, hj2, rfl, hll, hs, he⟩ := hrel
        by_cases hlt2 : j < N2
        · have hjn : (j : Int) < (N2 : Int) := by omega
          have hjg : (j : Int) < (n2 : Int) := by omega
          have hj0 : (0 : Int) ≤ (j : Int) := by omega
          have hq := bIx_lt N2 h2 k hlt j hlt2 (by omega)
          go_wp2_with fail
          refine (l11Get_any N2 A1 n1 c1 l k j _ h2 hlt hlt2 (by omega) HG3.out HN1.out HRL.out (HR1.out.ext he)).mono ?_
          rintro e w3 ⟨rfl, x3⟩
          have e3 := he.trans x3
          have hs3 := own_ext hs x3
          have hs3' := hs3
          generalize vgA N2 l k j = xa at *
          generalize vgP N2 l k j = xp at *
          have xb : Ext w3 (w3.alloc (.cells #[.int .i64 xa, .int .i64 xp] 30)) := (Ext.refl w3).alloc _
          have S3 := St.new w3 #[.int .i64 xa, .int .i64 xp] 30
          have e4 := e3.trans xb
          have hs4 := own_ext hs3 xb
          have hw3 := e3.size
          clear hs he x3 e3 hs3 xb
          go_wp2_with fail
          generalize (w3.alloc (.cells #[.int .i64 xa, .int .i64 xp] 30)) = w4 at *
          obtain ⟨⟨a1, b1⟩, hab1⟩ := at_of_lt (l := g) (k := k) (by rw [HG5.out]; exact hlt)
          obtain ⟨⟨a2, b2⟩, hab2⟩ := at_of_lt (l := g) (k := j) (by rw [HG5.out]; exact hlt2)
          have HA1 := Lib.hid hab1
          have HA2 := Lib.hid hab2
          clear hab1 hab2
          have k0 := S3.cell0
          have k1 := S3.cell1
          have d1 := (HR2.out.ext e4).fst HA1.out
          have d2 := (HR2.out.ext e4).fst HA2.out
          go_still_tail 15, (by kernel_rfl)
          change wpList _ _ _ _ _ w4.drew
          have S4 := S3.ext ((Ext.refl w4).drew)
          have e5 := e4.drew
          have hs5 := own_ext hs4 ((Ext.refl w4).drew)
          clear k0 k1 d1 d2 S3 e4 hs4
          have hlo3 := own_ne hs3'
          clear hs3'
          generalize w4.drew = w5 at *
          generalize w3.heap.size = G at *
          have s0 := S4.cell0
          have s0f := S4.frozen 0
          go_wp2_with fail
          generalize wrap64 (wrap64 (xa * a1) * a2) = V at *
          have S5 : St (w5.setCell ⟨G, 0, none⟩ (.int .i64 V)) G #[.int .i64 V, .int .i64 xp] 30 := S4.set 0 (.int .i64 V)
          have e6 := e5.more ((Chg.refl G (G + 1) w5).setCell (p := ⟨G, 0, none⟩) (.inl ⟨Nat.le_refl _, Nat.lt_succ_self _⟩) (.int .i64 V)) hw3
          have hs6 := own_far hs5 (p := ⟨G, 0, none⟩) hlo3 (.int .i64 V)
          clear s0 s0f S4 e5 hs5
          generalize w5.setCell ⟨G, 0, none⟩ (.int .i64 V) = w6 at *
          have k1 := S5.cell1
          have d1 := (HR2.out.ext e6).snd HA1.out
          have d2 := (HR2.out.ext e6).snd HA2.out
          refine wp_region_still_tail 16 (by kernel_rfl) (by kernel_rfl) ?_
          simp only [List.take_succ_cons, List.take_zero, List.drop_succ_cons, List.drop_zero]
          repeat still_step
          still_call (specPhaseOf_s _ _)
          repeat still_step
          try refine wpStill_nil ?_
          change wpList _ _ _ _ _ w6.drew
          have S6 := S5.ext ((Ext.refl w6).drew)
          have e7 := e6.drew
          have hs7 := own_ext hs6 ((Ext.refl w6).drew)
          clear k1 d1 d2 S5 e6 hs6
          generalize w6.drew = w7 at *
          obtain ⟨U, HU⟩ : ∃ U, Hid (U = wrap64 (wrap64 (xp + b2) - b1) % 360) := ⟨_, rfl⟩
          have s0 := S6.cell0
          have s1 := S6.cell1
          have s1f := S6.frozen 1
          have e8 := e7.more ((Chg.refl G (G + 1) w7).setCell (p := ⟨G, 1, none⟩) (.inl ⟨Nat.le_refl _, Nat.lt_succ_self _⟩) (.int .i64 U)) hw3
          have hs8 := own_far hs7 (p := ⟨G, 1, none⟩) hlo3 (.int .i64 U)
          have hz8 := e8.size
          go_wp2_with (at_builtin; go_loud (rw [← HU.out]; refine wpList_append2C' (w := w7.setCell ⟨G, 1, none⟩ (.int .i64 U)) rfl _ _ _ rfl w.heap.size 30 16 Vis.info Try.underlying23 _ (bIx N2 k j) _ (by rfl) hs8 V U _ (by rfl) (by first | rfl | (simp only [World.size_setCell]; done)) (by omega) (by omega) hz8 ?_); intro v' w' hs' C')
          go_roundw
          case rel => exact ⟨j + 1, ll ++ [(V, U)], by omega, by omega, by go_num, (by show _ = _; rw [List.length_append, List.length_singleton, hll.out, bIx_succ]; all_goals omega), by rw [bIx_succ] <;> first | exact hs' | omega, e8.more C' (Nat.le_refl _)⟩
          case measure => simp [intOf]; omega
        · have e : j = N2 := by omega
          rw [e, bIx_last h2 hlt] at hs hll
          have hd : decide (j < N2) = false := by simpa using hlt2
          clear e
          go_wp2
          go_roundw
          case rel => exact ⟨k + 1, ll, by omega, by go_num, hll, hs, he⟩
          case measure => simp [intOf]; omega
    · have e : k = N2 := by omega
      have hd : decide (k < N2) = false := by simpa using hlt
      have hlN : Hid (ll.length = nb N2) := by show _ = _; rw [hll.out, e, row_end N2 h2]
      rw [e, row_end N2 h2] at hs
      clear e
      obtain ⟨A5, c5, hv5, s5⟩ := Sl.of_own hs
      subst hv5
      go_wp2_with fail
      refine (specVisValid_any (N2 : Int) A5 (nb N2) c5 ll _ hlN.out (by omega) s5.rd).mono ?_
      rintro e w3 ⟨rfl, q3, rfl⟩
      have s6 := s5.ext ((Ext.refl _).drewN q3)
      rcases e3 : visB (N2 : Int) ll with _ | _
      · go_wp2
        go_ret2
        exact ⟨_, 0, 0, [], false, rfl, rfl, by omega, (fun h => by cases h), Sl.nil (Nat.le_refl _), (he.drewN _).alloc _⟩
      · go_wp2
        go_ret2
        exact ⟨_, nb N2, c5, ll, true, rfl, hlN.out, by omega, (fun _ => by omega), s6.mono (Nat.le_refl _) (by simp), he.drewN _⟩
end Go.Proofs.Ytpjglnmnfmibnab
