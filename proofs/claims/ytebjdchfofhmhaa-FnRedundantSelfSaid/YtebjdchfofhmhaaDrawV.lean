/-
  Drawn visibilities: numbers of antennas, phases, lists of visibilities and gains, in new memory; of their numbers nothing is said but how many there are.
-/
import Derived.Test.YtebjdchfofhmhaaDraw
import Derived.Test.YtebjdchfofhmhaaVisS
import Derived.Test.YtebjdchfofhmhaaInts
namespace Go.Proofs.Ytebjdchfofhmhaa
open Go.RowKit
set_option linter.unusedSimpArgs false
set_option linter.unusedVariables false

theorem Chg.moreG {lo hi lo' hi' : Nat} {w w1 w2 : World} (h : Chg lo hi w w1) (k : Chg lo' hi' w1 w2) (hlo : w.heap.size ≤ lo') : Chg lo hi w w2 :=
  ⟨k.os.trans h.os, k.tape.trans h.tape, k.output.trans h.output, Nat.le_trans h.size k.size, fun i hi c => (k.block i (Nat.lt_of_lt_of_le hi h.size) (.inl (by omega))).trans (h.block i hi c)⟩
theorem wpList_append2C {P : Program} {w : World} {ops : Array Oper} {rest : List Oper} {o : Oper} {a : Act} {Q : Exit → Act → World → Prop} (hgd : o.guard = none) (s x : Operand) (t : TypeId)
    (ho : o.op = .call { callee := .builtin .append, args := #[s, x], argTypes := #[t, t] })
    (base : Nat) (E : TypeId) (bytes : Nat) (hinfo : (P.info? E).map (fun i => (i.zero, i.size, i.bytes)) = some (some (.agg #[.int .i64 0, .int .i64 0]), 2, bytes)) (ht : P.underlying t = some (.slice E))
    (v : Value) (n : Nat) (l : List (Int × Int)) (hs : a.eval s = v) (hown : w.ownsRow base E 2 v n (pairs l))
    (p q : Int) (hx : a.eval x = .slice (some ⟨w.heap.size, 0, none⟩) 1 1) (hbytes : (n + 1) * bytes ≤ 100000000) (hn : n + 1 ≤ 100000000) (hbase : base ≤ w.heap.size)
    (h : ∀ v' w', w'.ownsRow base E 2 v' (n + 1) (pairs (l ++ [(p, q)])) → Chg base w.heap.size w w' → wpList P ops Q rest (a.put o.dst v') w') : wpList P ops Q (o :: rest) a (w.alloc (.cells #[.int .i64 p, .int .i64 q] E)) := by
  obtain ⟨i, hi, hz1, hz2, hz3⟩ := info_parts hinfo
  refine wpList_append_own _ hgd s x t ho base E i _ 2 bytes ht hi hz1 hz2 hz3 rfl (by omega) v n (pairs l) hs (hown.alloc _) ⟨w.heap.size, 0, none⟩ 1 1 [.int .i64 p, .int .i64 q] hx rfl ?_ ?_ (by unfold maxLen; omega) (by omega) (by simp; omega) ?_
  · intro j u' hj
    match j, hj with
    | 0, hj => simp at hj; subst hj; simp [Addr.add]
    | 1, hj => simp at hj; subst hj; simp [Addr.add]
  · intro u' hu; simp at hu; rcases hu with rfl | rfl <;> rfl
  · intro v' w' ho' hg _
    refine h v' w' (by rw [pairs_append]; exact ho') (((Chg.refl base w.heap.size w).alloc _).grown hg fun g hg' => .inl ⟨own_base hown g hg', own_lt hown g hg'⟩)
theorem pairs_drop (l : List (Int × Int)) (k : Nat) : (pairs l).drop (k * 2) = pairs (l.drop k) := by
  induction k generalizing l with
  | zero => simp
  | succ k ih =>
    cases l with
    | nil => simp [pairs]
    | cons x l =>
      have e : (k + 1) * 2 = k * 2 + 1 + 1 := by omega
      rw [pairs_cons, e, List.drop_succ_cons, List.drop_succ_cons, ih, List.drop_succ_cons]
theorem Sl.setF {w : World} {lo hi g off n c : Nat} {E : TypeId} {l : List (Int × Int)} {k : Nat} {a b : Int} (h : Sl w lo hi E (some ⟨g, off, none⟩) n c (pairs l)) (hk : l[k]? = some (a, b)) (u : Int) : Sl (w.setCell ⟨g, off + k * 2, none⟩ (.int .i64 u)) lo hi E (some ⟨g, off, none⟩) n c (pairs (l.set k (u, b))) := by
  have := h.set_ (k * 2) (.int .i64 u)
  have e : (pairs l).set (k * 2) (.int .i64 u) = pairs (l.set k (u, b)) := by
    rw [← pairs_set l k u b]
    symm
    apply List.ext_getElem?
    intro j
    by_cases hj : j = k * 2 + 1
    · subst hj
      have h1 := pairs_at1 hk
      rw [List.getElem?_set_self (by simp; exact lt_of_at h1), List.getElem?_set_ne (by omega), h1]
    · rw [List.getElem?_set_ne (Ne.symm hj)]
  rw [e] at this
  exact this
theorem Sl.setS {w : World} {lo hi g off n c : Nat} {E : TypeId} {l : List (Int × Int)} {k : Nat} {a b : Int} (h : Sl w lo hi E (some ⟨g, off, none⟩) n c (pairs l)) (hk : l[k]? = some (a, b)) (u : Int) : Sl (w.setCell ⟨g, off + k * 2 + 1, none⟩ (.int .i64 u)) lo hi E (some ⟨g, off, none⟩) n c (pairs (l.set k (a, u))) := by
  have := h.set_ (k * 2 + 1) (.int .i64 u)
  have e : (pairs l).set (k * 2 + 1) (.int .i64 u) = pairs (l.set k (a, u)) := by
    rw [← pairs_set l k a u]
    congr 1
    symm
    apply List.ext_getElem?
    intro j
    by_cases hj : j = k * 2
    · subst hj
      have h1 := pairs_at0 hk
      rw [List.getElem?_set_self (lt_of_at h1), h1]
    · rw [List.getElem?_set_ne (Ne.symm hj)]
  rw [e, ← Nat.add_assoc] at this
  exact this

/-- a number in a range is drawn -/
def DrewR (w : World) (B r p q : Nat) (lo hi : Int) (e : Ending) (w' : World) : Prop :=
  ∃ (x : Int) (p' : Nat), e = .returned (.int .i64 x) ∧ lo ≤ x ∧ x ≤ hi ∧ Rdr w' B r p' ∧ p' ≤ p + q ∧ Chg r (r + 1) w w'
def ants7 : List Int := [2, 3, 3, 4, 4, 5, 6]
theorem ants7_range : ∀ v, v < 7 → 2 ≤ pAt ants7 v ∧ pAt ants7 v ≤ 6 := by decide
theorem l91Phase_any (B r p : Nat) (w : World) (hp : p ≤ 9000) (h : Rdr w B r p) :
    Calls Try.prog 69 #[.pointer (some ⟨r, 0, none⟩)] w (DrewR w B r p 3 0 359) := by
  go_enter Try.func69, Try.ntmps69
  go_wp2_with fail
  refine (pick_any B r p 3 _ (by omega) (by omega) (by omega) h).mono ?_
  rintro e w2 ⟨v, rfl, hv, R, C⟩
  by_cases k0 : v = 0
  · subst k0
    go_wp2_with fail
    refine (pick_any B r (p + 1) 4 _ (by omega) (by omega) (by omega) R).mono ?_
    rintro e w3 ⟨v3, rfl, hv3, R3, C3⟩
    go_wp2
    go_ret
    exact ⟨_, _, rfl, by omega, by omega, R3, by omega, C.trans C3⟩
  · have k0' : ((v : Int) == 0) = false := by simp; omega
    go_wp2_with fail
    refine (pick_any B r (p + 1) 200 _ (by omega) (by omega) (by omega) R).mono ?_
    rintro e w3 ⟨v3, rfl, hv3, R3, C3⟩
    go_wp2_with fail
    refine (pick_any B r (p + 1 + 1) 2 _ (by omega) (by omega) (by omega) R3).mono ?_
    rintro e w4 ⟨v4, rfl, hv4, R4, C4⟩
    go_wp2
    go_ret
    exact ⟨_, _, rfl, by omega, by omega, R4, by omega, (C.trans C3).trans C4⟩
/-- a list of pairs in new memory is drawn -/
def DrewL (w : World) (B r p q lo hi : Nat) (e : Ending) (w' : World) : Prop :=
  ∃ (A : Option Addr) (n c : Nat) (l : VL) (p' : Nat), e = .returned (.slice A n c) ∧ l.length = n ∧ lo ≤ n ∧ n ≤ hi ∧ Sl w' w.heap.size w'.heap.size 44 A n c (pairs l) ∧ Rdr w' B r p' ∧ p' ≤ p + q ∧ Chg r (r + 1) w w'
set_option maxHeartbeats 4000000 in
theorem l91Vis_any (N B r p : Nat) (w : World) (h1 : 2 ≤ N) (h2 : N < 8) (hp : p ≤ 8000) (h : Rdr w B r p) :
    Calls Try.prog 46 #[.pointer (some ⟨r, 0, none⟩), .int .i64 (N : Int)] w (DrewL w B r p 100 1 22) := by
  have hrl := h.lt
  have HNB := Lib.hid (nbI_nat h1 (by omega))
  have hnb := nb_le N h2
  have hnp := nb_pos N h2 h1
  go_enter Try.func46, Try.ntmps46
  go_wp2_with fail
  go_loopw [5, 6] (fun v i wr => ∃ k : Nat, k ≤ nb N ∧ i = .int .i64 k ∧ (∃ l : VL, Hid (l.length = k) ∧ wr.ownsRow w.heap.size 44 2 v k (pairs l)) ∧ (∃ p' : Nat, p' ≤ p + 4 * k ∧ Rdr wr B r p') ∧ Chg r (r + 1) w wr) (fun _ i _ => nb N - (intOf i).toNat)
  case atStart => exact ⟨0, Nat.zero_le _, rfl, ⟨[], rfl, World.ownsRow_lit w #[] 0 (Nat.le_refl _) (by simp [maxLen]) rfl⟩, ⟨p, by omega, h.ext ((Ext.refl _).alloc _)⟩, (Chg.refl _ _ _).alloc _⟩
  case round =>
    obtain ⟨k, hk, rfl, ⟨l, hl, hs⟩, ⟨p', hp', R2⟩, D2⟩ := hrel
    have z2 := D2.size
    by_cases hlt : k < nb N
    · have hkl : (k : Int) < (nb N : Int) := by omega
      go_wp2_with (go_at_call 61; refine (specBaseMany_any _ _).mono ?_; rintro e w' ⟨rfl, rfl⟩; rw [HNB.out])
      refine (pick_any B r p' 12 _ (by omega) (by omega) (by omega) R2).mono ?_
      rintro e w3 ⟨v3, rfl, hv3, R3, C3⟩
      have z3 := C3.size
      go_wp2_with fail
      refine (l91Phase_any B r (p' + 1) _ (by omega) R3).mono ?_
      rintro e w4 ⟨y, p4, rfl, hy1, hy2, R4, hp4, C4⟩
      have z4 := C4.size
      have hs3 := own_chg hs C3 (fun g hg => by have := own_base hs g hg; omega)
      have hs4 := own_chg hs3 C4 (fun g hg => by have := own_base hs3 g hg; omega)
      have D4 := (D2.trans C3).trans C4
      go_wp2_with (at_builtin; refine wpList_append2C (w := w4) rfl _ _ _ rfl w.heap.size 44 16 Vis.info Try.underlying29 _ k _ (by rfl) hs4 (1 + (v3 : Int)) y rfl (by omega) (by omega) (by omega) ?_; intro v' w' hs' C')
      go_roundw
      case rel => exact ⟨k + 1, by omega, by go_num, ⟨l ++ [(1 + (v3 : Int), y)], (by show _ = _; simp [hl.out]), hs'⟩, ⟨p4, by omega, R4.chg C' (by omega) (by have := h.ge; omega)⟩, D4.moreG C' (Nat.le_refl _)⟩
      case measure => simp [intOf]; omega
    · have e : k = nb N := by omega
      have HK := Lib.hid e
      have hkd : decide (k < nb N) = false := by simpa using hlt
      have hkd2 : ((k : Int) == 0) = false := by simp; omega
      have hk1 : 1 ≤ k := by omega
      clear e
      obtain ⟨A5, c5, hv5, s5⟩ := Sl.of_own hs
      subst hv5
      go_wp2_with (go_at_call 61; refine (specBaseMany_any _ _).mono ?_; rintro e w' ⟨rfl, rfl⟩; rw [HNB.out])
      refine (pick_any B r p' 50 _ (by omega) (by omega) (by omega) R2).mono ?_
      rintro e w3 ⟨v3, rfl, hv3, R3, C3⟩
      have z3 := C3.size
      have hs3 := own_chg hs C3 (fun g hg => by have := own_base hs g hg; omega)
      have s6 := s5.chg C3 (.inr (by omega))
      have D3 := D2.trans C3
      obtain ⟨g, off, ea, hg1, hg2, hg3⟩ := s6.addr (by rw [pairs_length, hl.out]; omega)
      obtain rfl := ea
      obtain ⟨⟨a, b⟩, hab⟩ := at_of_lt (l := l) (k := 0) (by rw [hl.out]; omega)
      have HAB := Lib.hid hab
      have c0 := s6.fst hab
      have c1 := s6.snd hab
      simp only [Nat.zero_mul, Nat.add_zero] at c0 c1
      have hk0 : (0 : Int) < (k : Int) := by omega
      have HS := Lib.hid hs
      clear hab hs s5
      by_cases k0 : v3 = 0
      · subst k0
        have x4 : Ext w3 (w3.alloc (.cells #[.int .i64 0, .int .i64 1000001] 3)) := (Ext.refl w3).alloc _
        have t0 : Sl (w3.alloc (.cells #[.int .i64 0, .int .i64 1000001] 3)) w3.heap.size (w3.heap.size + 1) 3 (some ⟨w3.heap.size, 0, none⟩) 2 2 (ints [0, 1000001]) := Sl.new w3 3 _ 2 2 (Nat.le_refl _)
        go_wp2_with fail
        refine (pick_any B r (p' + 1) 2 _ (by omega) (by omega) (by omega) (R3.ext x4)).mono ?_
        rintro e w5 ⟨v5, rfl, hv5, R5, C5⟩
        have hv5' : v5 < 2 := by omega
        have z5 := C5.size
        rw [World.size_alloc] at z5
        have hc := (t0.chg C5 (.inr (by omega))).cell (ints_at' (some_pAt (l := [0, 1000001]) (k := v5) (by simpa using hv5')))
        simp only [Nat.zero_add] at hc
        have hv0 : (0 : Int) ≤ (v5 : Int) := by omega
        have s7 := (s6.ext x4).chg C5 (.inr (by omega))
        have d0 := s7.fst HAB.out
        have d1 := s7.snd HAB.out
        have f0 := s7.frozen (by rw [pairs_length, hl.out]; omega) off
        generalize pAt [0, 1000001] v5 = y at *
        have s8 := s7.setF HAB.out y
        simp only [Nat.zero_mul, Nat.add_zero] at d0 d1 s8
        have D5 := (D3.trans x4.chg).trans C5
        have HS8 := Lib.hid s8
        have HD5 := Lib.hid D5
        have HR5 := Lib.hid R5
        clear s6 s7 s8 t0 x4 D5 R5 C5 C3 D2 D3 c0 c1
        go_wp2
        go_ret
        exact ⟨_, k, c5, _, _, rfl, by simp [hl.out], hk1, by omega, HS8.out.full.mono (by omega) (Nat.le_refl _), HR5.out.far (q := ⟨g, off, none⟩) (by show r < g; omega) _, by omega, HD5.out.setCell (p := ⟨g, off, none⟩) (.inr (by show _ ≤ g; omega)) _⟩
      have k0' : ((v3 : Int) == 0) = false := by simp; omega
      by_cases k1 : v3 = 1
      · subst k1
        have f1 := s6.frozen (by rw [pairs_length, hl.out]; omega) (off + 1)
        have s8 := s6.setS HAB.out 360
        simp only [Nat.zero_mul, Nat.add_zero] at s8
        have HS8 := Lib.hid s8
        clear s6 s8
        go_wp2
        go_ret
        exact ⟨_, k, c5, _, _, rfl, by simp [hl.out], hk1, by omega, HS8.out.full.mono (by omega) (Nat.le_refl _), R3.far (q := ⟨g, off + 1, none⟩) (by show r < g; omega) _, by omega, D3.setCell (p := ⟨g, off + 1, none⟩) (.inr (by show _ ≤ g; omega)) _⟩
      have k1' : ((v3 : Int) == 1) = false := by simp; omega
      by_cases k2 : v3 = 2
      · subst k2
        have hz3 : w.heap.size ≤ w3.heap.size := by omega
        go_wp2_with (at_builtin; refine wpList_append2C (w := w3) rfl _ _ _ rfl w.heap.size 44 16 Vis.info Try.underlying29 _ k _ (by rfl) hs3 a b rfl (by omega) (by omega) hz3 ?_; intro v' w' hs' C')
        obtain ⟨A9, c9, hv9, s9⟩ := Sl.of_own hs'
        subst hv9
        go_ret
        exact ⟨A9, k + 1, c9, _, _, rfl, by simp [hl.out], by omega, by omega, s9, R3.chg C' (by omega) (by have := h.ge; omega), by omega, D3.moreG C' (Nat.le_refl _)⟩
      have k2' : ((v3 : Int) == 2) = false := by simp; omega
      go_wp2
      go_ret
      exact ⟨_, k, c5, l, _, rfl, hl.out, hk1, by omega, s6.full.mono (Nat.le_refl _) (Nat.le_refl _), R3, by omega, D3⟩
end Go.Proofs.Ytebjdchfofhmhaa
