/-
  Drawn grids: l91Part, l91Gauss, DrawGridValid, DrawGridInverse, DrawGridMask: lists of at most 16 pairs in new memory; nothing is said of their numbers.
-/
import Derived.Test.YtnpbjfnmmleppaaDrawS
import Derived.Test.YtnpbjfnmmleppaaGridC
namespace Go.Proofs.Ytnpbjfnmmleppaa
open Go.RowKit
set_option linter.unusedSimpArgs false

/-- a number is drawn; the reader has gone on by at most q places -/
def DrewN (w : World) (B r p q : Nat) (e : Ending) (w' : World) : Prop :=
  ∃ (x : Int) (p' : Nat), e = .returned (.int .i64 x) ∧ Rdr w' B r p' ∧ p' ≤ p + q ∧ Chg r (r + 1) w w'
set_option maxHeartbeats 1000000 in
theorem l91Part_any (B r p : Nat) (w : World) (hp : p ≤ 9000) (h : Rdr w B r p) :
    Calls Try.prog 36 #[.pointer (some ⟨r, 0, none⟩)] w (DrewN w B r p 2) := by
  have hrl := h.lt
  go_enter Try.func36, Try.ntmps36
  go_wp2_with fail
  refine (pick_any B r p 12 _ (by omega) (by omega) (by omega) h).mono ?_
  rintro e w1 ⟨v1, rfl, hv1, R1, C1⟩
  have z1 := C1.size
  by_cases k0 : v1 = 0
  · subst k0
    have y0 : Ext w1 (w1.alloc (.cells #[.int .i64 1000000000, .int .i64 (-1000000000), .int .i64 30000, .int .i64 (-30000)] 3)) := (Ext.refl w1).alloc _
    have q4 := St.new w1 #[.int .i64 1000000000, .int .i64 (-1000000000), .int .i64 30000, .int .i64 (-30000)] 3
    go_wp2_with fail
    refine (pick_any B r (p + 1) 4 _ (by omega) (by omega) (by omega) (R1.ext y0)).mono ?_
    rintro e w2 ⟨v2, rfl, hv2, R2, C2⟩
    have q5 := q4.chg C2 (by omega)
    have D2 := C1.trans (y0.chg.trans C2)
    have hv : v2 = 0 ∨ v2 = 1 ∨ v2 = 2 ∨ v2 = 3 := by omega
    rcases hv with rfl | rfl | rfl | rfl
    · have c0 := q5.cell 0
      go_wp2
      go_ret
      exact ⟨_, _, rfl, R2, by omega, D2⟩
    · have c0 := q5.cell 1
      go_wp2
      go_ret
      exact ⟨_, _, rfl, R2, by omega, D2⟩
    · have c0 := q5.cell 2
      go_wp2
      go_ret
      exact ⟨_, _, rfl, R2, by omega, D2⟩
    · have c0 := q5.cell 3
      go_wp2
      go_ret
      exact ⟨_, _, rfl, R2, by omega, D2⟩
  have k0' : ((v1 : Int) == 0) = false := by simp; omega
  by_cases k1 : v1 = 1
  · subst k1
    go_wp2_with fail
    refine (pick_any B r (p + 1) 200 _ (by omega) (by omega) (by omega) R1).mono ?_
    rintro e w2 ⟨v2, rfl, hv2, R2, C2⟩
    go_wp2
    go_ret
    exact ⟨_, _, rfl, R2, by omega, C1.trans C2⟩
  have k1' : ((v1 : Int) == 1) = false := by simp; omega
  go_wp2_with fail
  refine (pick_any B r (p + 1) 13 _ (by omega) (by omega) (by omega) R1).mono ?_
  rintro e w2 ⟨v2, rfl, hv2, R2, C2⟩
  go_wp2
  go_ret
  exact ⟨_, _, rfl, R2, by omega, C1.trans C2⟩
/-- a Gaussian integer is drawn -/
def DrewG (w : World) (B r p q : Nat) (e : Ending) (w' : World) : Prop :=
  ∃ (x y : Int) (p' : Nat), e = .returned (.agg #[.int .i64 x, .int .i64 y]) ∧ Rdr w' B r p' ∧ p' ≤ p + q ∧ Chg r (r + 1) w w'
set_option maxHeartbeats 400000 in
theorem l91Gauss_any (B r p : Nat) (w : World) (hp : p ≤ 8000) (h : Rdr w B r p) :
    Calls Try.prog 30 #[.pointer (some ⟨r, 0, none⟩)] w (DrewG w B r p 4) := by
  have hrl := h.lt
  have x0 : Ext w (w.alloc (.cells #[.int .i64 0, .int .i64 0] 31)) := (Ext.refl w).alloc _
  have S0 := St.new w #[.int .i64 0, .int .i64 0] 31
  have R0 := h.ext x0
  clear h
  go_enter Try.func30, Try.ntmps30
  go_wp2_with fail
  refine (l91Part_any B r p _ (by omega) R0).mono ?_
  rintro e w1 ⟨x, p1, rfl, R1, hp1, C1⟩
  go_wp2_with fail
  refine (l91Part_any B r p1 _ (by omega) R1).mono ?_
  rintro e w2 ⟨y, p2, rfl, R2, hp2, C2⟩
  have S2 := (S0.chg C1 (by omega)).chg C2 (by omega)
  have D2 := (Chg.trans (lo := r) (hi := r + 1) x0.chg C1).trans C2
  have k0 := S2.cell0
  have k1 := S2.cell1
  have k2 := S2.frozen 0
  have k3 := S2.frozen 1
  have R := S2.put2 (.int .i64 x) (.int .i64 y)
  have r0 := R.cell0
  have r1 := R.cell1
  go_wp2
  exact bodyPost_ret (v := .agg #[.int .i64 x, .int .i64 y]) (by simp [results, Try.results30, go_sem, r0, r1]) rfl ⟨x, y, p2, rfl, (R2.far (q := ⟨w.heap.size, 0, none⟩) hrl _).far (q := ⟨w.heap.size, 1, none⟩) hrl _, by omega, (D2.setCell (p := ⟨w.heap.size, 0, none⟩) (.inr (Nat.le_refl _)) _).setCell (p := ⟨w.heap.size, 1, none⟩) (.inr (Nat.le_refl _)) _⟩
theorem Chg.moreG {lo hi lo' hi' : Nat} {w w1 w2 : World} (h : Chg lo hi w w1) (k : Chg lo' hi' w1 w2) (hlo : w.heap.size ≤ lo') : Chg lo hi w w2 :=
  ⟨k.os.trans h.os, k.tape.trans h.tape, k.output.trans h.output, Nat.le_trans h.size k.size, fun i hi c => (k.block i (Nat.lt_of_lt_of_le hi h.size) (.inl (by omega))).trans (h.block i hi c)⟩
/-- 'out = append(out, x)', x a struct of two ints; what else changes -/
theorem wpList_append2C {P : Program} {w : World} {ops : Array Oper} {rest : List Oper} {o : Oper} {a : Act} {Q : Exit → Act → World → Prop} (hgd : o.guard = none) (s x : Operand) (t : TypeId)
    (ho : o.op = .call { callee := .builtin .append, args := #[s, x], argTypes := #[t, t] })
    (base : Nat) (E : TypeId) (bytes : Nat) (hinfo : (P.info? E).map (fun i => (i.zero, i.size, i.bytes)) = some (some (.agg #[.int .i64 0, .int .i64 0]), 2, bytes)) (ht : P.underlying t = some (.slice E))
    (v : Value) (n : Nat) (l : List (Int × Int)) (hs : a.eval s = v) (hown : w.ownsRow base E 2 v n (pairs l))
    (p q : Int) (hx : a.eval x = .slice (some ⟨w.heap.size, 0, none⟩) 1 1) (hbytes : (n + 1) * bytes ≤ 100000000) (hn : n + 1 ≤ 100000000) (hbase : base ≤ w.heap.size)
    (h : ∀ v' w', w'.ownsRow base E 2 v' (n + 1) (pairs (l ++ [(p, q)])) → Chg base w.heap.size w w' → wpList P ops Q rest (a.put o.dst v') w') : wpList P ops Q (o :: rest) a (w.alloc (.cells #[.int .i64 p, .int .i64 q] E)) := by
  obtain ⟨i, hi, hz1, hz2, hz3⟩ := info_parts hinfo
  refine wpList_append_own _ hgd s x t ho base E i _ 2 bytes ht hi hz1 hz2 hz3 rfl (by omega) v n (pairs l) hs (hown.alloc _) ⟨w.heap.size, 0, none⟩ 1 1 [.int .i64 p, .int .i64 q] hx rfl ?_ ?_ (by unfold maxLen; omega) (by omega) (by simp; omega) ?_
  · intro j u' hj
    match j, hj with
    | 0, hj => simp at hj; subst hj; simp [Addr.add]
    | 1, hj => simp at hj; subst hj; simp [Addr.add]
  · intro u' hu; simp at hu; rcases hu with rfl | rfl <;> rfl
  · intro v' w' ho' hg _
    refine h v' w' (by rw [pairs_append]; exact ho') (((Chg.refl base w.heap.size w).alloc _).grown hg fun g hg' => .inl ⟨own_base hown g hg', own_lt hown g hg'⟩)
theorem pairs_drop (l : List (Int × Int)) (k : Nat) : (pairs l).drop (k * 2) = pairs (l.drop k) := by
  induction k generalizing l with
  | zero => simp
  | succ k ih =>
    cases l with
    | nil => simp [pairs]
    | cons x l =>
      have e : (k + 1) * 2 = k * 2 + 1 + 1 := by omega
      rw [pairs_cons, e, List.drop_succ_cons, List.drop_succ_cons, ih, List.drop_succ_cons]
/-- a list of pairs in new memory is returned -/
def SomeG (w : World) (e : Ending) (w' : World) : Prop :=
  ∃ (A : Option Addr) (n c : Nat) (l : List (Int × Int)), e = .returned (.slice A n c) ∧ l.length = n ∧ n ≤ 16 ∧ Sl w' w.heap.size w'.heap.size 31 A n c (pairs l) ∧ Ext w w'
theorem Sl.setF {w : World} {lo hi g off n c : Nat} {E : TypeId} {l : List (Int × Int)} {k : Nat} {a b : Int} (h : Sl w lo hi E (some ⟨g, off, none⟩) n c (pairs l)) (hk : l[k]? = some (a, b)) (u : Int) : Sl (w.setCell ⟨g, off + k * 2, none⟩ (.int .i64 u)) lo hi E (some ⟨g, off, none⟩) n c (pairs (l.set k (u, b))) := by
  have := h.set_ (k * 2) (.int .i64 u)
  have e : (pairs l).set (k * 2) (.int .i64 u) = pairs (l.set k (u, b)) := by
    rw [← pairs_set l k u b]
    symm
    apply List.ext_getElem?
    intro j
    by_cases hj : j = k * 2 + 1
    · subst hj
      have h1 := pairs_at1 hk
      rw [List.getElem?_set_self (by simp; exact lt_of_at h1), List.getElem?_set_ne (by omega), h1]
    · rw [List.getElem?_set_ne (Ne.symm hj)]
  rw [e] at this
  exact this
theorem Sl.setS {w : World} {lo hi g off n c : Nat} {E : TypeId} {l : List (Int × Int)} {k : Nat} {a b : Int} (h : Sl w lo hi E (some ⟨g, off, none⟩) n c (pairs l)) (hk : l[k]? = some (a, b)) (u : Int) : Sl (w.setCell ⟨g, off + k * 2 + 1, none⟩ (.int .i64 u)) lo hi E (some ⟨g, off, none⟩) n c (pairs (l.set k (a, u))) := by
  have := h.set_ (k * 2 + 1) (.int .i64 u)
  have e : (pairs l).set (k * 2 + 1) (.int .i64 u) = pairs (l.set k (a, u)) := by
    rw [← pairs_set l k a u]
    congr 1
    symm
    apply List.ext_getElem?
    intro j
    by_cases hj : j = k * 2
    · subst hj
      have h1 := pairs_at0 hk
      rw [List.getElem?_set_self (lt_of_at h1), h1]
    · rw [List.getElem?_set_ne (Ne.symm hj)]
  rw [e, ← Nat.add_assoc] at this
  exact this
set_option maxHeartbeats 2000000 in
theorem drawGridValid_any (A : Option Addr) (n c : Nat) (zs : List Int) (w : World) (hn : zs.length = n) (hm : n ≤ 9223372036854775807) (h : Rd w w.heap.size A n c (zs.map (.int .u8))) (hz : ∀ z ∈ zs, 0 ≤ z ∧ z ≤ 255) :
    Calls Try.prog 21 #[.slice A n c] w (SomeG w) := by
  have HO := Lib.hid (l6Open_any A n c zs w hn hm h hz)
  clear hn hz h
  go_enter Try.func21, Try.ntmps21
  go_wp2_with fail
  refine HO.out.mono ?_
  rintro e w1 ⟨rfl, R1, x1⟩
  have hr := R1.lt
  have z1 := x1.size
  go_wp2_with fail
  go_loopw [4, 5] (fun v i wr => ∃ k : Nat, k ≤ 16 ∧ i = .int .i64 k ∧ (∃ l : List (Int × Int), Hid (l.length = k) ∧ wr.ownsRow w1.heap.size 31 2 v k (pairs l)) ∧ (∃ p' : Nat, p' ≤ 4 * k ∧ Rdr wr w.heap.size w.heap.size p') ∧ Chg w.heap.size (w.heap.size + 1) w1 wr) (fun _ i _ => 16 - (intOf i).toNat)
  case atStart => exact ⟨0, Nat.zero_le _, rfl, ⟨[], rfl, World.ownsRow_lit w1 #[] 0 (Nat.le_refl _) (by simp [maxLen]) rfl⟩, ⟨0, by omega, R1.ext ((Ext.refl _).alloc _)⟩, (Chg.refl _ _ _).alloc _⟩
  case round =>
    obtain ⟨k, hk, rfl, ⟨l, hl, hs⟩, ⟨p', hp', R2⟩, D2⟩ := hrel
    have z2 := D2.size
    by_cases hlt : k < 16
    · go_wp2_with (go_at_call 23; refine (l21Cells_any _).mono ?_; rintro e w' ⟨rfl, rfl⟩)
      refine (l91Gauss_any w.heap.size w.heap.size p' _ (by omega) R2).mono ?_
      rintro e w3 ⟨x, y, p3, rfl, R3, hp3, C3⟩
      have z3 := C3.size
      have hs3 := own_chg hs C3 (fun g hg => by have := own_base hs g hg; omega)
      have D3 := D2.trans C3
      go_wp2_with (at_builtin; refine wpList_append2C rfl _ _ _ rfl w1.heap.size 31 16 G.info Try.underlying23 _ k _ rfl hs3 x y rfl (by omega) (by omega) (by omega) ?_; intro v' w' hs' C')
      go_roundw
      case rel => exact ⟨k + 1, by omega, by go_num, ⟨l ++ [(x, y)], (by show _ = _; simp [hl.out]), hs'⟩, ⟨p3, by omega, R3.chg C' (by omega) (by omega)⟩, D3.moreG C' (Nat.le_refl _)⟩
      case measure => simp [intOf]; omega
    · obtain rfl : k = 16 := by omega
      obtain ⟨A5, c5, rfl, s5⟩ := Sl.of_own hs
      go_wp2_with (go_at_call 23; refine (l21Cells_any _).mono ?_; rintro e w' ⟨rfl, rfl⟩)
      refine (pick_any w.heap.size w.heap.size p' 10 _ (by omega) (by omega) (by omega) R2).mono ?_
      rintro e w3 ⟨v3, rfl, hv3, R3, C3⟩
      have z3 := C3.size
      have s6 := s5.chg C3 (.inr (by omega))
      have X3 := (x1.more D2 (Nat.le_refl _)).more C3 (Nat.le_refl _)
      obtain ⟨g, off, ea, hg1, hg2, hg3⟩ := s6.addr (by rw [pairs_length, hl.out]; omega)
      obtain rfl := ea
      by_cases k0 : v3 = 0
      · subst k0
        obtain ⟨⟨a, b⟩, hab⟩ := at_of_lt (l := l) (k := 3) (by rw [hl.out]; omega)
        have c0 := s6.fst hab
        have c1 := s6.snd hab
        have f1 := s6.frozen (by rw [pairs_length, hl.out]; omega) (off + 3 * 2 + 1)
        have s7 := s6.setS hab 1000000001
        simp only [Nat.reduceMul, Nat.add_assoc, Nat.reduceAdd] at c0 c1 f1 s7
        have HS7 := Lib.hid s7
        clear hab s7
        go_wp2
        go_ret
        exact ⟨_, 16, c5, _, rfl, by simp [hl.out], by omega, HS7.out.full.mono (by omega) (Nat.le_refl _), X3.setCell (p := ⟨g, off + 7, none⟩) (by show _ ≤ g; omega) _⟩
      have k0' : ((v3 : Int) == 0) = false := by simp; omega
      by_cases k1 : v3 = 1
      · subst k1
        have hc5 : 16 ≤ c5 := s6.1
        have s7 := s6.drop (1 * 2) (n' := 15) (c' := c5 - 1) (by omega)
        rw [pairs_drop] at s7
        have HS7 := Lib.hid s7
        clear s7
        go_wp2
        go_ret
        exact ⟨_, 15, c5 - 1, l.drop 1, rfl, by simp [hl.out], by omega, HS7.out.full.mono (by omega) (Nat.le_refl _), X3⟩
      have k1' : ((v3 : Int) == 1) = false := by simp; omega
      go_wp2
      go_ret
      exact ⟨_, 16, c5, l, rfl, hl.out, by omega, s6.full.mono (by omega) (Nat.le_refl _), X3⟩
set_option maxHeartbeats 2000000 in
theorem drawGridInverse_any (A : Option Addr) (n c : Nat) (zs : List Int) (w : World) (hn : zs.length = n) (hm : n ≤ 9223372036854775807) (h : Rd w w.heap.size A n c (zs.map (.int .u8))) (hz : ∀ z ∈ zs, 0 ≤ z ∧ z ≤ 255) :
    Calls Try.prog 11 #[.slice A n c] w (SomeG w) := by
  have HO := Lib.hid (l6Open_any A n c zs w hn hm h hz)
  have HG := Lib.hid (fun (W : World) (x : Ext w W) => drawGridValid_any A n c zs W hn hm (h.ext x) hz)
  clear hn hz h
  go_enter Try.func11, Try.ntmps11
  go_wp2_with fail
  refine HO.out.mono ?_
  rintro e w1 ⟨rfl, R1, x1⟩
  have hr := R1.lt
  have z1 := x1.size
  go_wp2_with fail
  refine (l92Sky_any w.heap.size w.heap.size 0 _ (by omega) R1).mono ?_
  rintro e w2 ⟨As, ns, cs, s, ps, rfl, hls, h15, hbs, S, R2, hp2, C2⟩
  have HS := Lib.hid hls
  clear hls
  have X2 := x1.more C2 (Nat.le_refl _)
  have z2 := C2.size
  go_wp2_with fail
  refine (specSkyTransform_any As ns cs s _ HS.out (by omega) S.rd).mono ?_
  rintro e w3 ⟨A3, c3, rfl, s3, x3⟩
  have X3 := X2.trans x3
  have R3 := R2.ext x3
  have z3 := x3.size
  rcases hv : svB s with _ | _
  · go_wp2_with fail
    refine (HG.out _ X3).mono ?_
    rintro e w4 ⟨A4, n4, c4, l4, rfl, hl4, hb4, s4, x4⟩
    have HL4 := Lib.hid hl4
    clear hl4
    go_wp2
    go_ret
    exact ⟨A4, n4, c4, l4, rfl, HL4.out, hb4, s4.mono (by omega) (Nat.le_refl _), X3.trans x4⟩
  have HT : Hid (tsL s = skyG s) := by show _ = _; simp [tsL, hv]
  have HVS := Lib.hid hv
  clear hv
  rw [HT.out, skyG_length] at s3
  rw [HT.out, skyG_length]
  go_wp2_with fail
  refine (pick_any w.heap.size w.heap.size ps 8 _ (by omega) (by omega) (by omega) R3).mono ?_
  rintro e w4 ⟨v4, rfl, hv4, R4, C4⟩
  have z4 := C4.size
  have s4 := s3.chg C4 (.inr (by omega))
  have X4 := X3.more C4 (Nat.le_refl _)
  obtain ⟨g, off, ea, hg1, hg2, hg3⟩ := s4.addr (by rw [pairs_length, skyG_length]; omega)
  obtain rfl := ea
  by_cases k0 : v4 = 0
  · subst k0
    go_wp2_with fail
    refine (pick_any w.heap.size w.heap.size (ps + 1) 16 _ (by omega) (by omega) (by omega) R4).mono ?_
    rintro e w5 ⟨v5, rfl, hv5, R5, C5⟩
    have z5 := C5.size
    have s5 := s4.chg C5 (.inr (by omega))
    have X5 := X4.more C5 (Nat.le_refl _)
    obtain ⟨⟨a, b⟩, hab⟩ := at_of_lt (l := skyG s) (k := v5) (by rw [skyG_length]; omega)
    have c0 := s5.fst hab
    have c1 := s5.snd hab
    have f0 := s5.frozen (by rw [pairs_length, skyG_length]; omega) (off + v5 * 2)
    have s6 := s5.setF hab 5
    have HS6 := Lib.hid s6
    have h2 : (v5 : Int) < 16 := by omega
    have h3 : (0 : Int) ≤ (v5 : Int) := by omega
    clear hab s6
    go_wp2
    go_ret
    exact ⟨_, 16, c3, _, rfl, by simp [skyG_length], by omega, HS6.out.full.mono (by omega) (Nat.le_refl _), X5.setCell (p := ⟨g, off + v5 * 2, none⟩) (by show _ ≤ g; omega) _⟩
  have k0' : ((v4 : Int) == 0) = false := by simp; omega
  by_cases k1 : v4 = 1
  · subst k1
    go_wp2_with fail
    refine (HG.out _ X4).mono ?_
    rintro e w5 ⟨A5, n5, c5, l5, rfl, hl5, hb5, s5, x5⟩
    have HL5 := Lib.hid hl5
    clear hl5
    go_wp2
    go_ret
    exact ⟨A5, n5, c5, l5, rfl, HL5.out, hb5, s5.mono (by omega) (Nat.le_refl _), X4.trans x5⟩
  have k1' : ((v4 : Int) == 1) = false := by simp; omega
  go_wp2
  go_ret
  exact ⟨_, 16, c3, skyG s, rfl, skyG_length _, by omega, s4.full.mono (by omega) (Nat.le_refl _), X4⟩
/-- a list of pairs and one of bools in new memory are returned -/
def SomeGB (w : World) (e : Ending) (w' : World) : Prop :=
  ∃ (A : Option Addr) (n c : Nat) (l : List (Int × Int)) (A2 : Option Addr) (n2 c2 : Nat) (bs : List Bool), e = .returned (.tuple #[.slice A n c, .slice A2 n2 c2]) ∧ l.length = n ∧ n ≤ 16 ∧ bs.length = n2 ∧ n2 ≤ 16 ∧
    Sl w' w.heap.size w'.heap.size 31 A n c (pairs l) ∧ Sl w' w.heap.size w'.heap.size 4 A2 n2 c2 (bools bs) ∧ Ext w w'
theorem drawGridMask_any (A : Option Addr) (n c : Nat) (zs : List Int) (w : World) (hn : zs.length = n) (hm : n ≤ 9223372036854775807) (h : Rd w w.heap.size A n c (zs.map (.int .u8))) (hz : ∀ z ∈ zs, 0 ≤ z ∧ z ≤ 255) :
    Calls Try.prog 4 #[.slice A n c] w (SomeGB w) := by
  have HO := Lib.hid (l6Open_any A n c zs w hn hm h hz)
  have HG := Lib.hid (fun (W : World) (x : Ext w W) => drawGridInverse_any A n c zs W hn hm (h.ext x) hz)
  clear hn hz h
  go_enter Try.func4, Try.ntmps4
  go_wp2_with fail
  refine HO.out.mono ?_
  rintro e w1 ⟨rfl, R1, x1⟩
  have hr := R1.lt
  have z1 := x1.size
  go_wp2_with fail
  refine (HG.out _ x1).mono ?_
  rintro e w2 ⟨A2, n2, c2, l2, rfl, hl2, hb2, s2, x2⟩
  have HL2 := Lib.hid hl2
  clear hl2
  have R2 := R1.ext x2
  have X2 := x1.trans x2
  have z2 := x2.size
  go_wp2_with fail
  refine (l92Cover_any w.heap.size w.heap.size 0 _ (by omega) R2).mono ?_
  rintro e w3 ⟨A3, n3, c3, bs3, p3, rfl, hl3, hb3, s3, R3, _, C3⟩
  have HL3 := Lib.hid hl3
  clear hl3
  have z3 := C3.size
  go_wp2
  go_ret2
  exact ⟨A2, n2, c2, l2, A3, n3, c3, bs3, rfl, HL2.out, hb2, HL3.out, hb3, (s2.chg C3 (.inr (by omega))).full.mono (by omega) (Nat.le_refl _), s3.mono (by omega) (Nat.le_refl _), X2.more C3 (Nat.le_refl _)⟩
end Go.Proofs.Ytnpbjfnmmleppaa
