/-
  Drawn cleanings: l93Clean and the Draw functions over it: lists of at most 17 numbers in new memory.
-/
import Derived.Test.YtbafniaohjjacabDrawD
import Derived.Deep.CutBlock
import Derived.Outline
namespace Go.Proofs.Ytbafniaohjjacab
open Go.RowKit
set_option linter.unusedSimpArgs false

/-- 'out = append(out, x)', x of one cell; what else changes; the new value written out -/
theorem wpList_append1V {P : Program} {w : World} {ops : Array Oper} {rest : List Oper} {o : Oper} {a : Act} {Q : Exit → Act → World → Prop} (hgd : o.guard = none) (s x : Operand) (t : TypeId)
    (ho : o.op = .call { callee := .builtin .append, args := #[s, x], argTypes := #[t, t] })
    (base : Nat) (E : TypeId) (z : Value) (bytes : Nat) (hinfo : (P.info? E).map (fun i => (i.zero, i.size, i.bytes)) = some (some z, 1, bytes)) (ht : P.underlying t = some (.slice E)) (hz : z.cells.size = 1)
    (v : Value) (n : Nat) (xs : List Value) (hs : a.eval s = v) (hown : w.ownsRow base E 1 v n xs)
    (u : Value) (hx : a.eval x = .slice (some ⟨w.heap.size, 0, none⟩) 1 1) (h1 : u.oneCell' = true) (hbytes : (n + 1) * bytes ≤ 100000000) (hn : n + 1 ≤ 100000000) (hbase : base ≤ w.heap.size)
    (h : ∀ A' c' w', Sl w' base w'.heap.size E A' (n + 1) c' (xs ++ [u]) → (∀ lo hi, (∀ g, v.ownBlock = some g → lo ≤ g ∧ g < hi) → Chg lo hi w w') → wpList P ops Q rest (a.put o.dst (.slice A' (n + 1) c')) w') : wpList P ops Q (o :: rest) a (w.alloc (.cells #[u] E)) := by
  obtain ⟨i, hi, hz1, hz2, hz3⟩ := info_parts hinfo
  refine wpList_append_own _ hgd s x t ho base E i z 1 bytes ht hi hz1 hz2 hz3 hz (by omega) v n xs hs (hown.alloc _) ⟨w.heap.size, 0, none⟩ 1 1 [u] hx rfl ?_ ?_ (by unfold maxLen; omega) (by omega) (by simp; omega) ?_
  · intro j u' hj
    match j, hj with
    | 0, hj => simp at hj; subst hj; simp [Addr.add]
  · intro u' hu; simp at hu; subst hu; exact h1
  · intro v' w' ho' hg _
    obtain ⟨A', c', rfl, s'⟩ := Sl.of_own ho'
    exact h A' c' w' s' fun lo hi hb => ((Chg.refl lo hi w).alloc _).grown hg fun g hg' => .inl (hb g hg')
theorem Chg.more {lo hi lo' hi' : Nat} {w w1 w2 : World} (h : Chg lo hi w w1) (k : Chg lo' hi' w1 w2) (hlo : w.heap.size ≤ lo') : Chg lo hi w w2 :=
  ⟨k.os.trans h.os, k.tape.trans h.tape, k.output.trans h.output, Nat.le_trans h.size k.size, fun i hi c => (k.block i (Nat.lt_of_lt_of_le hi h.size) (.inl (by omega))).trans (h.block i hi c)⟩
/-- a slice and a variable of another type lie apart -/
theorem Sl.farT {w : World} {lo hi g k n c : Nat} {E T : TypeId} {A : Option Addr} {xs : List Value} {vs : Array Value} (h : Sl w lo hi E A n c xs) (s : St w g vs T) (hne : E ≠ T) (u : Value) : Sl (w.setCell ⟨g, k, none⟩ u) lo hi E A n c xs :=
  ⟨h.1, fun hx => by
    obtain ⟨g', off, cur, e, h3, h4, h5, h6⟩ := h.2 hx
    have hg : g' ≠ g := by
      rintro rfl
      have s' : w.heap[g']? = some (.cells vs T (0, 0)) := s
      rw [s'] at h5
      simp only [Option.some.injEq, Obj.cells.injEq] at h5
      exact hne h5.2.1.symm
    exact ⟨g', off, cur, e, h3, h4, (Below.heap_setCell w ⟨g, k, none⟩ u g' hg).trans h5, h6⟩⟩
theorem Sl.put2 {w : World} {lo hi g n c : Nat} {E : TypeId} {A : Option Addr} {xs : List Value} (h : Sl w lo hi E A n c xs) (hp : g < lo) (u v : Value) : Sl ((w.setCell ⟨g, 0, none⟩ u).setCell ⟨g, 1, none⟩ v) lo hi E A n c xs :=
  (h.far (p := ⟨g, 0, none⟩) (.inl hp) u).far (p := ⟨g, 1, none⟩) (.inl hp) v
/-- a run of valid skies -/
def RunYes (w : World) (e : Ending) (w' : World) : Prop :=
  ∃ A c B d xs ys k, e = .returned (.tuple #[.agg #[.slice A 16 c, .slice B 16 d], .int .i64 k, .bool true]) ∧ svB xs = true ∧ svB ys = true ∧ Two w' w.heap.size w'.heap.size 3 A 16 c (ints xs) B 16 d (ints ys) ∧ Ext w w' ∧ w'.ownsRow w.heap.size 3 1 (.slice B 16 d) 16 (ints ys)
theorem specCleanRun_yes (A B D : Option Addr) (c d q : Nat) (xs ys bs : List Int) (many : Int) (w : World) (h1 : svB xs = true) (h2 : svB ys = true) (h3 : svB bs = true) (h4 : 0 ≤ many) (h5 : many ≤ 200)
    (r1 : Rd w w.heap.size A 16 c (ints xs)) (r2 : Rd w w.heap.size B 16 d (ints ys)) (r3 : Rd w w.heap.size D 16 q (ints bs)) :
    Calls Try.prog 13 #[.agg #[.slice A 16 c, .slice B 16 d], .slice D 16 q, .int .i64 many] w (RunYes w) := by
  have hb : crB xs ys bs many = true := by simp [crB, h1, h2, h3, h4, h5]
  have hv := run_valid hb
  refine (specCleanRun_own A B D 16 c 16 d 16 q xs ys bs many w (svB_16 h1) (svB_16 h2) (svB_16 h3) (by omega) (by omega) (by omega) r1 r2 r3).mono ?_
  rintro e w' ⟨A', c', B', d', he, t, x, ow⟩
  rw [svB_16 hv.1, svB_16 hv.2, hb] at he
  rw [svB_16 hv.1, svB_16 hv.2] at t
  rw [svB_16 hv.2] at ow
  exact ⟨A', c', B', d', _, _, _, he, hv.1, hv.2, t, x, ow⟩
def NewYes (w : World) (ys : List Int) (e : Ending) (w' : World) : Prop :=
  ∃ A c B d, e = .returned (.tuple #[.agg #[.slice A 16 c, .slice B 16 d], .bool true]) ∧ Two w' w.heap.size w'.heap.size 3 A 16 c (ints zero16) B 16 d (ints ys) ∧ Ext w w' ∧ w'.ownsRow w.heap.size 3 1 (.slice B 16 d) 16 (ints ys)
theorem specCleanNew_yes (A : Option Addr) (n c : Nat) (ys : List Int) (w : World) (hn : ys.length = n) (hv : svB ys = true) (h : Rd w w.heap.size A n c (ints ys)) :
    Calls Try.prog 48 #[.slice A n c] w (NewYes w ys) := by
  have h16 := svB_16 hv
  refine (specCleanNew_own A n c ys w hn (by omega) h).mono ?_
  have e1 : cnM ys = zero16 := by simp [cnM, hv]
  have e2 : cnL ys = ys := by simp [cnL, hv]
  rw [e1, e2, hv]
  rintro e w' ⟨A', c', B', d', he, t, x, ow⟩
  rw [zero16_length, h16] at he t
  rw [h16] at ow
  exact ⟨A', c', B', d', he, t, x, ow⟩
theorem svB_zero16 : svB zero16 = true := by decide
/-- a list of 16 ints is in a slot -/
def IntsIn (w : World) (base : Nat) (v : Value) (w' : World) : Prop :=
  ∃ (A : Option Addr) (c : Nat) (xs : List Int), v = .slice A 16 c ∧ svB xs = true ∧ Sl w' base w'.heap.size 3 A 16 c (ints xs) ∧ Ext w w'
/-- a cleaning is in a variable of its own, behind a run -/
def CleanIn (W : World) (B r p : Nat) (v b : Value) (wx : World) : Prop :=
  ∃ (g : Nat) (A : Option Addr) (c : Nat) (B' : Option Addr) (d : Nat) (xs ys : List Int) (lo hi : Nat), v = .pointer (some ⟨g, 0, none⟩) ∧ b = .bool true ∧ svB xs = true ∧ svB ys = true ∧ St wx g #[.slice A 16 c, .slice B' 16 d] 25 ∧
    Two wx lo hi 3 A 16 c (ints xs) B' 16 d (ints ys) ∧ wx.ownsRow lo 3 1 (.slice B' 16 d) 16 (ints ys) ∧ W.heap.size ≤ lo ∧ (g < lo ∨ hi ≤ g) ∧ W.heap.size ≤ g ∧ Rdr wx B r p ∧ Chg r (r + 1) W wx ∧ hi ≤ wx.heap.size
theorem clean_put {W w8 : World} {B r p g lo : Nat} {A B' : Option Addr} {c d : Nat} {xs ys : List Int} {u v : Value} (Q : St w8 g #[u, v] 25) (hx : svB xs = true) (hy : svB ys = true)
    (t : Two w8 lo w8.heap.size 3 A 16 c (ints xs) B' 16 d (ints ys)) (ow : w8.ownsRow lo 3 1 (.slice B' 16 d) 16 (ints ys)) (h1 : W.heap.size ≤ lo) (h2 : g < lo) (h3 : W.heap.size ≤ g) (R : Rdr w8 B r p) (hr : r < W.heap.size) (D : Chg r (r + 1) W w8) :
    CleanIn W B r p (.pointer (some ⟨g, 0, none⟩)) (.bool true) ((w8.setCell ⟨g, 0, none⟩ (.slice A 16 c)).setCell ⟨g, 1, none⟩ (.slice B' 16 d)) := by
  refine ⟨g, A, c, B', d, xs, ys, lo, w8.heap.size, rfl, rfl, hx, hy, Q.put2 _ _, t.put2 h2 _ _, own_put2 ow (own_low ow h2) _ _, h1, .inl h2, h3, ?_, ?_, by simp⟩
  · exact (R.far (q := ⟨g, 0, none⟩) (by show r < g; omega) _).far (q := ⟨g, 1, none⟩) (by show r < g; omega) _
  · exact (D.setCell (p := ⟨g, 0, none⟩) (.inr h3) _).setCell (p := ⟨g, 1, none⟩) (.inr h3) _
theorem clean_new {W w8 : World} {B r p lo : Nat} {A B' : Option Addr} {c d : Nat} {xs ys : List Int} (hx : svB xs = true) (hy : svB ys = true)
    (t : Two w8 lo w8.heap.size 3 A 16 c (ints xs) B' 16 d (ints ys)) (ow : w8.ownsRow lo 3 1 (.slice B' 16 d) 16 (ints ys)) (h1 : W.heap.size ≤ lo) (R : Rdr w8 B r p) (D : Chg r (r + 1) W w8) :
    CleanIn W B r p (.pointer (some ⟨w8.heap.size, 0, none⟩)) (.bool true) (w8.alloc (.cells #[.slice A 16 c, .slice B' 16 d] 25)) := by
  have x : Ext w8 (w8.alloc (.cells #[.slice A 16 c, .slice B' 16 d] 25)) := (Ext.refl _).alloc _
  exact ⟨_, A, c, B', d, xs, ys, lo, w8.heap.size, rfl, rfl, hx, hy, St.new _ _ _, t.ext x, own_ext ow x, h1, .inr (Nat.le_refl _), D.size, R.ext x, D.trans x.chg, by simp⟩
/-- a cleaning and a beam are drawn -/
def DrewC (w : World) (B r p q : Nat) (e : Ending) (w' : World) : Prop :=
  ∃ (A : Option Addr) (c : Nat) (B' : Option Addr) (m d : Nat) (D : Option Addr) (n f : Nat) (xs ys zs : List Int) (p' : Nat), e = .returned (.tuple #[.agg #[.slice A 16 c, .slice B' m d], .slice D n f]) ∧ xs.length = 16 ∧ ys.length = m ∧ m ≤ 17 ∧ zs.length = n ∧ n ≤ 16 ∧
    Sl w' w.heap.size w'.heap.size 3 A 16 c (ints xs) ∧ Sl w' w.heap.size w'.heap.size 3 B' m d (ints ys) ∧ Sl w' w.heap.size w'.heap.size 3 D n f (ints zs) ∧ Rdr w' B r p' ∧ p' ≤ p + q ∧ Chg r (r + 1) w w'
set_option maxRecDepth 100000 in
set_option maxHeartbeats 4000000 in
theorem l93Clean_any (B r p : Nat) (w : World) (hp : p ≤ 8000) (h : Rdr w B r p) :
    Calls Try.prog 25 #[.pointer (some ⟨r, 0, none⟩)] w (DrewC w B r p 30) := by
  have hrl := h.lt
  have hmk := makeInts16
  have x0 : Ext w (w.alloc (.cells #[.slice none 0 0, .slice none 0 0] 25)) := (Ext.refl w).alloc _
  have S0 := St.new w #[.slice none 0 0, .slice none 0 0] 25
  have R0 := h.ext x0
  clear h
  go_enter Try.func25, Try.ntmps25
  go_wp2_with fail
  refine (l93Dirty_any B r p _ (by omega) R0).mono ?_
  rintro e w1 ⟨A1, n1, c1, bs, A2, c2, ss, A3, n3, c3, ys, p1, rfl, hl1, hb1, hl2, hl3, hvy, s1, s2, s3, R1, hp1, C1⟩
  obtain rfl : n3 = 16 := by rw [← hl3]; exact svB_16 hvy
  have HL1 := Lib.hid hl1
  have HVY := Lib.hid hvy
  have HL3 := Lib.hid hl3
  have S1 := S0.chg C1 (by omega)
  have D1 := (Chg.trans (lo := r) (hi := r + 1) x0.chg C1)
  have z1 := C1.size
  simp only [World.size_alloc] at z1 s1 s3
  clear hl1 hl2 hl3 hvy s2 x0 S0 R0 C1
  go_wp2_with fail
  refine (specBeamOf_any A1 n1 c1 bs _ HL1.out s1.rd).mono ?_
  rintro e w2 ⟨Ab, nb, cb, bm, rfl, hlb, hnb, sb, x2, hvb⟩
  have z2 := x2.size
  have s3' := s3.ext x2
  have S2 := S1.ext x2
  have R2 := R1.ext x2
  have D2 := D1.trans (lo := r) (hi := r + 1) x2.chg
  clear s1 s3 S1 R1 D1
  go_upto_if 26 with (fail)
  go_cut [7, 8] (fun v _ wx => IntsIn w2 w1.heap.size v wx)
  case first =>
    rcases hcv : cvB bs with _ | _
    · rw [hcv] at hnb
      rw [if_neg (by decide)] at hnb
      subst hnb
      clear hlb hvb hcv
      have t3 := Sl.new w2 3 ((madeCells #[.int .i64 0] 16).setIfInBounds 0 (.int .i64 2)) 16 16 (Nat.le_refl _)
      rw [Array.toList_setIfInBounds, toList_madeCells_one, ints_rep, ints_set] at t3
      have hm0 : (madeCells #[Value.int .i64 0] 16)[0]? = some (Value.int .i64 0) := by simp [madeCells]
      go_wp2_with (go_at_call 47; refine (l21Cells_any _).mono ?_; rintro e w' ⟨rfl, rfl⟩)
      go_meet
      exact ⟨_, 16, (List.replicate 16 0).set 0 2, rfl, smallL_sv (M := 100) (smallL_set (smallL_rep 100 (by omega) 16) (by omega) (by omega)) (by omega) (by simp), t3.full.mono (by omega) (Nat.le_refl _), (Ext.refl w2).alloc _⟩
    · rw [hcv] at hnb
      rw [if_pos rfl] at hnb
      subst hnb
      have HVB := Lib.hid (hvb hcv)
      clear hlb hvb hcv
      go_wp2_with fail
      go_meet
      exact ⟨_, _, _, rfl, HVB.out, sb, Ext.refl _⟩
  case rest =>
    clear sb hlb hnb hvb hmk
    obtain ⟨Ab', cb', bm', rfl, hvb, sb, x3⟩ := hcut
    have HVB := Lib.hid hvb
    clear hvb
    have z3 := x3.size
    have s4 := s3'.ext x3
    have S3 := S2.ext x3
    have R3 := R2.ext x3
    have D3 := D2.trans (lo := r) (hi := r + 1) x3.chg
    clear s3' S2 R2 D2
    go_wp2_with fail
    refine (specCleanNew_yes A3 16 c3 ys _ HL3.out HVY.out s4.rd).mono ?_
    rintro e w5 ⟨A5, c5, B5, d5, rfl, t5, x5, ow5⟩
    have x6 : Ext w5 (w5.alloc (.cells #[.slice A5 16 c5, .slice B5 16 d5] 25)) := (Ext.refl _).alloc _
    have z5 := x5.size
    have T6 := t5.ext x6
    have S6 := St.new w5 #[.slice A5 16 c5, .slice B5 16 d5] 25
    have B6 := (sb.ext x5).ext x6
    have SR6 := (S3.ext x5).ext x6
    have R6 := (R3.ext x5).ext x6
    have D6 := D3.trans (lo := r) (hi := r + 1) (x5.trans x6).chg
    have zz6 : (w5.alloc (.cells #[.slice A5 16 c5, .slice B5 16 d5] 25)).heap.size = w5.heap.size + 1 := by simp
    have hz6 : w.heap.size + 1 ≤ w5.heap.size := by omega
    have HS6 := Lib.hid S6
    have HT6 := Lib.hid T6
    have HB6 := Lib.hid B6
    have HR6 := Lib.hid R6
    have HD6 := Lib.hid D6
    have HSR6 := Lib.hid SR6
    have k0 := S6.cell0
    have k1 := S6.cell1
    have HZ6 := Lib.hid zz6
    clear s4 S3 R3 D3 t5 x5 ow5 sb x3 T6 S6 B6 SR6 R6 D6 x6 zz6
    go_wp2_with fail
    go_cut [11, 13] (fun v b wx => CleanIn (w5.alloc (.cells #[.slice A5 16 c5, .slice B5 16 d5] 25)) B r (p1 + 1) v b wx)
    case first =>
      go_region_held3 (fun w' => w'.cell? ⟨w5.heap.size, 0, none⟩ = some (.slice A5 16 c5) ∧ w'.cell? ⟨w5.heap.size, 1, none⟩ = some (.slice B5 16 d5))
        (exact ⟨(St.chg (lo := r) (hi := r + 1) HS6.out (by repeat (first | (with_reducible exact D8) | (with_reducible exact D7) | (with_reducible exact Chg.refl _ _ _) | (with_reducible refine Chg.drew ?_) | (with_reducible refine Chg.alloc ?_ _) | (with_reducible refine Chg.setCell ?_ (.inr (by (try simp only [World.size_alloc, World.size_drew] at *); (try simp only [World.size_alloc, World.size_drew]); omega)) _))) (.inr (by omega))).cell0, (St.chg (lo := r) (hi := r + 1) HS6.out (by repeat (first | (with_reducible exact D8) | (with_reducible exact D7) | (with_reducible exact Chg.refl _ _ _) | (with_reducible refine Chg.drew ?_) | (with_reducible refine Chg.alloc ?_ _) | (with_reducible refine Chg.setCell ?_ (.inr (by (try simp only [World.size_alloc, World.size_drew] at *); (try simp only [World.size_alloc, World.size_drew]); omega)) _))) (.inr (by omega))).cell1⟩)
        (first
          | (go_at_call 26; refine (pick_any B r p1 4 _ (by omega) (by omega) (by omega) (HR6.out.ext (by repeat (first | (with_reducible exact Ext.refl _) | (with_reducible assumption) | (with_reducible refine Ext.drew ?_) | (with_reducible refine Ext.alloc ?_ _))))).mono ?_; rintro e w7 ⟨v7, rfl, hv7, R7, C7⟩; have D7 : Chg r (r + 1) (w5.alloc (.cells #[.slice A5 16 c5, .slice B5 16 d5] 25)) w7 := Chg.trans (Ext.chg (by repeat (first | (with_reducible exact Ext.refl _) | (with_reducible assumption) | (with_reducible refine Ext.drew ?_) | (with_reducible refine Ext.alloc ?_ _)))) C7; have z7 := C7.size; (try simp only [World.size_alloc, World.size_drew] at z7))
          | (go_at_call 13; refine (specCleanRun_yes A5 B5 Ab' c5 d5 cb' zero16 ys bm' (v7 : Int) _ svB_zero16 HVY.out HVB.out (by omega) (by omega) (Sl.chg (lo' := r) (hi' := r + 1) HT6.out.fst (by repeat (first | (with_reducible exact D8) | (with_reducible exact D7) | (with_reducible exact Chg.refl _ _ _) | (with_reducible refine Chg.drew ?_) | (with_reducible refine Chg.alloc ?_ _) | (with_reducible refine Chg.setCell ?_ (.inr (by (try simp only [World.size_alloc, World.size_drew] at *); (try simp only [World.size_alloc, World.size_drew]); omega)) _))) (.inr (by omega))).rd (Sl.chg (lo' := r) (hi' := r + 1) HT6.out.snd (by repeat (first | (with_reducible exact D8) | (with_reducible exact D7) | (with_reducible exact Chg.refl _ _ _) | (with_reducible refine Chg.drew ?_) | (with_reducible refine Chg.alloc ?_ _) | (with_reducible refine Chg.setCell ?_ (.inr (by (try simp only [World.size_alloc, World.size_drew] at *); (try simp only [World.size_alloc, World.size_drew]); omega)) _))) (.inr (by omega))).rd (Sl.chg (lo' := r) (hi' := r + 1) HB6.out (by repeat (first | (with_reducible exact D8) | (with_reducible exact D7) | (with_reducible exact Chg.refl _ _ _) | (with_reducible refine Chg.drew ?_) | (with_reducible refine Chg.alloc ?_ _) | (with_reducible refine Chg.setCell ?_ (.inr (by (try simp only [World.size_alloc, World.size_drew] at *); (try simp only [World.size_alloc, World.size_drew]); omega)) _))) (.inr (by omega))).rd).mono ?_; rintro e w8 ⟨A8, c8, B8, d8, xs8, ys8, k8, rfl, hx8, hy8, t8, x8, ow8⟩; have y8 : Chg 0 0 _ w8 := x8; have D8 : Chg r (r + 1) (w5.alloc (.cells #[.slice A5 16 c5, .slice B5 16 d5] 25)) w8 := Chg.trans (by repeat (first | (with_reducible exact D8) | (with_reducible exact D7) | (with_reducible exact Chg.refl _ _ _) | (with_reducible refine Chg.drew ?_) | (with_reducible refine Chg.alloc ?_ _) | (with_reducible refine Chg.setCell ?_ (.inr (by (try simp only [World.size_alloc, World.size_drew] at *); (try simp only [World.size_alloc, World.size_drew]); omega)) _))) (Ext.chg x8); have z8 := y8.size; (try simp only [World.size_alloc, World.size_drew] at z8); have HX8 := Lib.hid hx8; have HY8 := Lib.hid hy8; clear hx8 hy8; have R8 := Rdr.ext (w1 := w8) (w := _) (Rdr.ext R7 (by repeat (first | (with_reducible exact Ext.refl _) | (with_reducible assumption) | (with_reducible refine Ext.drew ?_) | (with_reducible refine Ext.alloc ?_ _)))) x8; (try (refine cutP (P := St w8 (w5.heap.size + 1) #[.slice none 0 0, .slice none 0 0] 25) ?_ ?_; (focus ((show w8.heap[(w5.heap.size + 1)]? = some (.cells #[.slice none 0 0, .slice none 0 0] 25 (0, 0))); (repeat (first | ((refine heap_new ?_); (first | rfl | (simp; done))) | (with_reducible refine heap_old ?_) | (with_reducible refine heap_drew ?_) | ((with_reducible refine heap_kept C7 ?_ ?_); (focus ((try simp only [World.size_alloc, World.size_drew]); omega))) | ((with_reducible refine heap_kept y8 ?_ ?_); (focus ((try simp only [World.size_alloc, World.size_drew]); omega))))); done)); intro q; have q0 := q.cell0; have q1 := q.cell1; have q2 := q.frozen 0; have q3 := q.frozen 1; have q4 := q.lt; have q5 := Nat.ne_of_lt q4; have Q := Lib.hid q; clear q)); (try (refine cutP (P := St w8 (w7.heap.size) #[.slice none 0 0, .slice none 0 0] 25) ?_ ?_; (focus ((show w8.heap[(w7.heap.size)]? = some (.cells #[.slice none 0 0, .slice none 0 0] 25 (0, 0))); (repeat (first | ((refine heap_new ?_); (first | rfl | (simp; done))) | (with_reducible refine heap_old ?_) | (with_reducible refine heap_drew ?_) | ((with_reducible refine heap_kept C7 ?_ ?_); (focus ((try simp only [World.size_alloc, World.size_drew]); omega))) | ((with_reducible refine heap_kept y8 ?_ ?_); (focus ((try simp only [World.size_alloc, World.size_drew]); omega))))); done)); intro q; have q0 := q.cell0; have q1 := q.cell1; have q2 := q.frozen 0; have q3 := q.frozen 1; have q4 := q.lt; have q5 := Nat.ne_of_lt q4; have Q := Lib.hid q; clear q)); (try (refine cutP (P := St w8 (w5.heap.size + 1 + 1) #[.slice none 0 0, .slice none 0 0] 25) ?_ ?_; (focus ((show w8.heap[(w5.heap.size + 1 + 1)]? = some (.cells #[.slice none 0 0, .slice none 0 0] 25 (0, 0))); (repeat (first | ((refine heap_new ?_); (first | rfl | (simp; done))) | (with_reducible refine heap_old ?_) | (with_reducible refine heap_drew ?_) | ((with_reducible refine heap_kept C7 ?_ ?_); (focus ((try simp only [World.size_alloc, World.size_drew]); omega))) | ((with_reducible refine heap_kept y8 ?_ ?_); (focus ((try simp only [World.size_alloc, World.size_drew]); omega))))); done)); intro q; have q0 := q.cell0; have q1 := q.cell1; have q2 := q.frozen 0; have q3 := q.frozen 1; have q4 := q.lt; have q5 := Nat.ne_of_lt q4; have Q := Lib.hid q; clear q))))
      all_goals go_wp2_with fail
      all_goals go_meet
      all_goals first
        | exact clean_put Q.out HX8.out HY8.out t8 ow8 (by (try simp only [World.size_alloc, World.size_drew]); omega) (by (try simp only [World.size_alloc, World.size_drew]); omega) (by (try simp only [World.size_alloc, World.size_drew]); omega) R8 (by (try simp only [World.size_alloc, World.size_drew]); omega) D8
        | exact clean_new HX8.out HY8.out t8 ow8 (by (try simp only [World.size_alloc, World.size_drew]); omega) R8 D8
    case rest =>
      obtain ⟨g, A8, c8, B8, d8, xs8, ys8, lo, hi, rfl, rfl, hx8, hy8, Sg, t8, ow8, q1, q2, q3, R8, D8, q4⟩ := hcut
      have hz8 := HZ6.out
      rw [hz8] at q1 q3
      have z8 := D8.size
      rw [hz8] at z8
      have HX8 := Lib.hid (svB_16 hx8)
      have HY8 := Lib.hid (svB_16 hy8)
      have B8' := Sl.chg (lo' := r) (hi' := r + 1) HB6.out D8 (.inr (by omega))
      have SR8 := HSR6.out.chg D8 (by omega)
      have DD8 := HD6.out.trans D8
      clear hx8 hy8 k0 k1 HS6 HT6 HB6 HR6 HD6 HSR6 D8
      go_wp2_with fail
      refine (pick_any B r (p1 + 1) 40 _ (by omega) (by omega) (by omega) R8).mono ?_
      rintro e w9 ⟨v9, rfl, hv9, R9, C9⟩
      have z9 := C9.size
      have Sg9 := Sg.chg C9 (by omega)
      have t9 := t8.chg C9 (.inr (by omega))
      have ow9 := own_chg ow8 C9 (fun g hg => by have := own_base ow8 g hg; omega)
      have B9 := Sl.chg (lo' := r) (hi' := r + 1) B8' C9 (.inr (by omega))
      have SR9 := SR8.chg C9 (by omega)
      have D9 := DD8.trans C9
      have HHZ := Lib.hid hz8
      clear Sg t8 ow8 B8' SR8 DD8 C9 R8 hz8
      obtain ⟨l1, i1, l2, i2, a1, a2, a3, a4, ap, m9, f9⟩ := t9
      have kg0 := Sg9.cell0
      have kg1 := Sg9.cell1
      have ne : (3 : TypeId) ≠ 25 := by decide
      have hlo : lo ≤ w9.heap.size := by
        obtain ⟨g0, o0, e0, h1, h2, h3⟩ := f9.addr (by rw [ints_length, HY8.out]; omega)
        omega
      by_cases k0 : v9 = 0
      · subst k0
        go_wp2_with (at_builtin; refine wpList_append1V rfl _ _ _ rfl lo 3 (.int .i64 0) 8 I.infoInt Try.underlying23 rfl _ 16 _ rfl ow9 (.int .i64 0) rfl rfl (by omega) (by omega) (by omega) ?_; intro A10 c10 w10 s10 ch10; have C10 := ch10 l2 i2 (own_in f9 (by rw [ints_length, HY8.out]; omega)); have Sg10 := Sg9.chg C10 (by omega); have ka0 := Sg10.cell0; have ka1 := Sg10.cell1; have ka2 := Sg10.frozen 0; have ka3 := Sg10.frozen 1; have ka4 := Sg10.lt; have ka5 := Nat.ne_of_lt ka4; have Sg11 : St (w10.setCell ⟨g, 1, none⟩ (.slice A10 17 c10)) g #[.slice A8 16 c8, .slice A10 17 c10] 25 := Sg10.set 1 _; have SR10 := SR9.chg C10 (by omega); have SR11 := SR10.far (p := ⟨g, 1, none⟩) (by show w.heap.size ≠ g; omega) (.slice A10 17 c10); have kb0 := Sg11.cell0; have kb1 := Sg11.cell1; have kr0 := SR11.cell0; have kr1 := SR11.cell1; have kr2 := SR11.frozen 0; have kr3 := SR11.frozen 1; have kn1 : w.heap.size ≠ g := (by omega); have kn2 : g ≠ w.heap.size := (by omega); have kr4 := SR10.cell0; have kr5 := SR10.cell1; have kr6 := SR10.frozen 0; have kr7 := SR10.frozen 1)
        have z10 := C10.size
        have RR := SR11.put2 (.slice A8 16 c8) (.slice A10 17 c10)
        have r0 := RR.cell0
        have r1 := RR.cell1
        refine bodyPost_ret (v := .tuple #[.agg #[.slice A8 16 c8, .slice A10 17 c10], .slice Ab' 16 cb']) (by simp [results, Try.results25, go_sem, r0, r1]) rfl ?_
        have t1 := ((m9.chg C10 (by omega)).farT (k := 1) Sg10 ne (.slice A10 17 c10)).full.mono (lo' := w.heap.size + 1) (by omega) (Nat.le_refl _)
        have t2 := (s10.farT (k := 1) Sg10 ne (.slice A10 17 c10)).full.mono (lo' := w.heap.size + 1) (by omega) (Nat.le_refl _)
        have t3 := ((B9.chg C10 (by omega)).farT (k := 1) Sg10 ne (.slice A10 17 c10)).full.mono (lo' := w.heap.size + 1) (by omega) (Nat.le_refl _)
        have R11 := (R9.chg C10 (by omega) (by have := R9.ge; omega)).far (q := ⟨g, 1, none⟩) (by show r < g; omega) (.slice A10 17 c10)
        have D11 := (D9.more C10 (by omega)).setCell (p := ⟨g, 1, none⟩) (.inr (by show _ ≤ g; omega)) (.slice A10 17 c10)
        rw [show ints ys8 ++ [Value.int .i64 0] = ints (ys8 ++ [0]) from ints_append ys8 [0]] at t2
        exact ⟨A8, c8, A10, 17, c10, Ab', 16, cb', xs8, ys8 ++ [0], bm', _, rfl, HX8.out, by simp [HY8.out], by omega, svB_16 HVB.out, by omega, (t1.put2 (g := w.heap.size) (Nat.lt_succ_self _) _ _).full.mono (by omega) (Nat.le_refl _), (t2.put2 (g := w.heap.size) (Nat.lt_succ_self _) _ _).full.mono (by omega) (Nat.le_refl _), (t3.put2 (g := w.heap.size) (Nat.lt_succ_self _) _ _).full.mono (by omega) (Nat.le_refl _), (R11.far (q := ⟨w.heap.size, 0, none⟩) hrl _).far (q := ⟨w.heap.size, 1, none⟩) hrl _, by omega, (D11.setCell (p := ⟨w.heap.size, 0, none⟩) (.inr (Nat.le_refl _)) _).setCell (p := ⟨w.heap.size, 1, none⟩) (.inr (Nat.le_refl _)) _⟩
      have k0' : ((v9 : Int) == 0) = false := by simp; omega
      have kr0 := SR9.cell0
      have kr1 := SR9.cell1
      have kr2 := SR9.frozen 0
      have kr3 := SR9.frozen 1
      have RR := SR9.put2 (.slice A8 16 c8) (.slice B8 16 d8)
      have r0 := RR.cell0
      have r1 := RR.cell1
      have t1 := (m9.full.mono (lo' := w.heap.size + 1) (by omega) (Nat.le_refl _)).put2 (g := w.heap.size) (Nat.lt_succ_self _) (.slice A8 16 c8) (.slice B8 16 d8)
      have t2 := (f9.full.mono (lo' := w.heap.size + 1) (by omega) (Nat.le_refl _)).put2 (g := w.heap.size) (Nat.lt_succ_self _) (.slice A8 16 c8) (.slice B8 16 d8)
      have R11 := (R9.far (q := ⟨w.heap.size, 0, none⟩) hrl (.slice A8 16 c8)).far (q := ⟨w.heap.size, 1, none⟩) hrl (.slice B8 16 d8)
      have D11 := (D9.setCell (p := ⟨w.heap.size, 0, none⟩) (.inr (Nat.le_refl _)) (.slice A8 16 c8)).setCell (p := ⟨w.heap.size, 1, none⟩) (.inr (Nat.le_refl _)) (.slice B8 16 d8)
      by_cases k1 : v9 = 1
      · subst k1
        obtain ⟨gb, ob, eb, _, _, _⟩ := B9.addr (by rw [ints_length, svB_16 HVB.out]; omega)
        obtain rfl := eb
        have hcb : 16 ≤ cb' := B9.1
        have b9 := B9.drop 1 (n' := 15) (c' := cb' - 1) (by omega)
        rw [ints_drop] at b9
        have t3 := (b9.full.mono (lo' := w.heap.size + 1) (by omega) (Nat.le_refl _)).put2 (g := w.heap.size) (Nat.lt_succ_self _) (.slice A8 16 c8) (.slice B8 16 d8)
        have HT3 := Lib.hid t3
        clear b9 t3
        go_wp2
        refine bodyPost_ret (v := .tuple #[.agg #[.slice A8 16 c8, .slice B8 16 d8], .slice (some ⟨gb, ob + 1, none⟩) 15 (cb' - 1)]) (by simp [results, Try.results25, go_sem, r0, r1]) rfl ?_
        exact ⟨A8, c8, B8, 16, d8, _, 15, cb' - 1, xs8, ys8, bm'.drop 1, _, rfl, HX8.out, HY8.out, by omega, by simp [svB_16 HVB.out], by omega, t1.full.mono (by omega) (Nat.le_refl _), t2.full.mono (by omega) (Nat.le_refl _), HT3.out.full.mono (by omega) (Nat.le_refl _), R11, by omega, D11⟩
      have k1' : ((v9 : Int) == 1) = false := by simp; omega
      have t3 := (B9.full.mono (lo' := w.heap.size + 1) (by omega) (Nat.le_refl _)).put2 (g := w.heap.size) (Nat.lt_succ_self _) (.slice A8 16 c8) (.slice B8 16 d8)
      go_wp2
      refine bodyPost_ret (v := .tuple #[.agg #[.slice A8 16 c8, .slice B8 16 d8], .slice Ab' 16 cb']) (by simp [results, Try.results25, go_sem, r0, r1]) rfl ?_
      exact ⟨A8, c8, B8, 16, d8, Ab', 16, cb', xs8, ys8, bm', _, rfl, HX8.out, HY8.out, by omega, svB_16 HVB.out, by omega, t1.full.mono (by omega) (Nat.le_refl _), t2.full.mono (by omega) (Nat.le_refl _), t3.full.mono (by omega) (Nat.le_refl _), R11, by omega, D11⟩
end Go.Proofs.Ytbafniaohjjacab
