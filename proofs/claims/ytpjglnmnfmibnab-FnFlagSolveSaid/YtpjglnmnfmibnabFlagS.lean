/-
  Contracts of FlagSolve and SolvePhases of the program: a search by a queue.
-/
import Derived.Test.YtpjglnmnfmibnabFlagI
namespace Go.Proofs.Ytpjglnmnfmibnab
open Go.RowKit
set_option linter.unusedSimpArgs false
set_option linter.unusedVariables false

/-- what solving with bad baselines returns -/
def RetF (w : World) (n : Int) (l m : VL) (fl : List Bool) (e : Ending) (w' : World) : Prop :=
  ∃ (A : Option Addr) (c : Nat) (out : List Int) (ok : Bool), e = .returned (.tuple #[.slice A out.length c, .bool ok]) ∧ FSol n l m fl out ok ∧ Sl w' w.heap.size w'.heap.size 3 A out.length c (ints out) ∧ Ext w w'
theorem RetF.no {w w' : World} {n : Int} {l m : VL} {fl : List Bool} (h : FSol n l m fl [] false) (x : Ext w w') : RetF w n l m fl (.returned (.tuple #[.slice none 0 0, .bool false])) w' := ⟨none, 0, [], false, rfl, h, Sl.nil (Nat.le_refl _), x⟩
theorem RetF.yes {w w' : World} {n : Int} {l m : VL} {fl : List Bool} {out : List Int} {N c lo hi : Nat} {A : Option Addr} (hp : out.length = N) (h : FSol n l m fl out true) (s : Sl w' lo hi 3 A N c (ints out)) (hlo : w.heap.size ≤ lo) (x : Ext w w') :
    RetF w n l m fl (.returned (.tuple #[.slice A N c, .bool true])) w' := by
  subst hp
  exact ⟨A, c, out, true, rfl, h, s.full.mono hlo (Nat.le_refl _), x⟩
def qs (Q : List Nat) : List Int := Q.map fun (q : Nat) => (q : Int)
theorem qs_length (Q : List Nat) : (qs Q).length = Q.length := by simp [qs]
theorem qs_snoc (Q : List Nat) (j : Nat) : qs Q ++ [(j : Int)] = qs (Q ++ [j]) := by simp [qs]
/-- one more into the queue; the block of the new argument is told by an equation -/
theorem wpList_append_q' {P : Program} {w : World} {ops : Array Oper} {rest : List Oper} {o : Oper} {a : Act} {Q : Exit → Act → World → Prop} (hgd : o.guard = none) (s x : Operand) (t : TypeId)
    (ho : o.op = .call { callee := .builtin .append, args := #[s, x], argTypes := #[t, t] })
    (base : Nat) (E : TypeId) (z : Value) (bytes : Nat) (hinfo : (P.info? E).map (fun i => (i.zero, i.size, i.bytes)) = some (some z, 1, bytes)) (ht : P.underlying t = some (.slice E)) (hz : z.cells.size = 1)
    (g off n c : Nat) (xs : List Int) (hs : a.eval s = .slice (some ⟨g, off, none⟩) n c) (hn : n = xs.length) (hq : Qu w base g off c E xs)
    (u : Int) (b : Nat) (hx : a.eval x = .slice (some ⟨b, 0, none⟩) 1 1) (hb : b = w.heap.size) (hbytes : (n + 1) * bytes ≤ 100000000) (hn1 : n + 1 ≤ 100000000)
    (h : ∀ g' off' c' w', Qu w' base g' off' c' E (xs ++ [u]) → Chg g (g + 1) w w' → wpList P ops Q rest (a.put o.dst (.slice (some ⟨g', off', none⟩) (n + 1) c')) w') : wpList P ops Q (o :: rest) a (w.alloc (.cells #[.int .i64 u] E)) :=
  wpList_append_q hgd s x t ho base E z bytes hinfo ht hz g off n c xs hs hn hq u (hb ▸ hx) hbytes hn1 h
/-- the two lists of the search -/
def FM (P N : Nat) (w2 wr : World) (ps : List Int) (ks : List Bool) : Prop :=
  ps.length = N ∧ ks.length = N ∧ Sl wr P (P + 1) 3 (some ⟨P, 0, none⟩) N N (ints ps) ∧ Sl wr (P + 1) (P + 2) 4 (some ⟨P + 1, 0, none⟩) N N (bools ks) ∧ Ext w2 wr
theorem FM.ext {P N : Nat} {w2 wr w3 : World} {ps : List Int} {ks : List Bool} (h : FM P N w2 wr ps ks) (x : Ext wr w3) : FM P N w2 w3 ps ks := ⟨h.1, h.2.1, h.2.2.1.ext x, h.2.2.2.1.ext x, h.2.2.2.2.trans x⟩
theorem FM.chg {P N g : Nat} {w2 wr w3 : World} {ps : List Int} {ks : List Bool} (h : FM P N w2 wr ps ks) (hP : w2.heap.size ≤ P) (x : Chg g (g + 1) wr w3) (hg : P + 2 ≤ g) : FM P N w2 w3 ps ks :=
  ⟨h.1, h.2.1, h.2.2.1.chg x (.inl (by omega)), h.2.2.2.1.chg x (.inl (by omega)), h.2.2.2.2.more x (by omega)⟩
theorem Sl.lt' {w : World} {lo hi g off n c : Nat} {E : TypeId} {xs : List Value} (h : Sl w lo hi E (some ⟨g, off, none⟩) n c xs) (hx : 0 < xs.length) : g < w.heap.size := (h.blk hx).2.2
theorem Sl.cellz {w : World} {lo hi g n c : Nat} {E : TypeId} {xs : List Value} (h : Sl w lo hi E (some ⟨g, 0, none⟩) n c xs) {k : Nat} {u : Value} (hu : xs[k]? = some u) : w.cell? ⟨g, k, none⟩ = some u := by
  have := h.cell hu
  rwa [Nat.zero_add] at this
theorem chg_two (w : World) (P j : Nat) (u v : Value) : Chg P (P + 2) w ((w.setCell ⟨P + 1, j, none⟩ u).setCell ⟨P, j, none⟩ v) :=
  ((Chg.refl _ _ _).setCell (p := ⟨P + 1, j, none⟩) (.inl ⟨Nat.le_succ _, Nat.lt_succ_self _⟩) _).setCell (p := ⟨P, j, none⟩) (.inl ⟨Nat.le_refl _, Nat.lt_succ_of_lt (Nat.lt_succ_self _)⟩) _
section
variable {N : Nat} {E : Nat → Nat → Prop} {t : Nat → Nat → Int}
/-- between two starts -/
def FO (N : Nat) (E : Nat → Nat → Prop) (t : Nat → Nat → Int) (s : Nat) (ps : List Int) (ks : List Bool) : Prop :=
  (∀ v, v < s → bAt0 ks v = true) ∧ Der N E t (bAt0 ks) (pAt ps) ∧ Cons E t (bAt0 ks) (pAt ps) (fun _ _ => True)
/-- a queue is worked off -/
def FQ (N : Nat) (E : Nat → Nat → Prop) (t : Nat → Nat → Int) (s : Nat) (ps : List Int) (ks : List Bool) (Q : List Nat) : Prop :=
  (∀ v, v < s + 1 → bAt0 ks v = true) ∧ Der N E t (bAt0 ks) (pAt ps) ∧ Cons E t (bAt0 ks) (pAt ps) (fun u _ => u ∉ Q) ∧ ∀ u, u ∈ Q → u < N ∧ bAt0 ks u = true
/-- the neighbours of the first are looked at -/
def FJ (N : Nat) (E : Nat → Nat → Prop) (t : Nat → Nat → Int) (s : Nat) (ps : List Int) (ks : List Bool) (Q : List Nat) (i j : Nat) : Prop :=
  (∀ v, v < s + 1 → bAt0 ks v = true) ∧ Der N E t (bAt0 ks) (pAt ps) ∧ Cons E t (bAt0 ks) (pAt ps) (Done Q i j) ∧ ∀ u, u ∈ Q → u < N ∧ bAt0 ks u = true
theorem FO.start (hl : N ≤ N) : FO N E t 0 (List.replicate N 0) (List.replicate N false) := by
  refine ⟨fun v h => by omega, ?_, ?_⟩
  · rw [pAt_rep, bAt0_rep]; exact Der.start
  · rw [bAt0_rep]; intro u v _ h; cases h
theorem FO.known {s : Nat} {ps : List Int} {ks : List Bool} (h : FO N E t s ps ks) (hk : bAt0 ks s = true) : FO N E t (s + 1) ps ks :=
  ⟨fun v hv => by by_cases e : v = s; (· subst e; exact hk); (· exact h.1 v (by omega)), h.2⟩
theorem FO.queue (Nt : Net N E t) {s : Nat} {ps : List Int} {ks : List Bool} (h : FO N E t s ps ks) (hs : s < N) (hl : ks.length = N) (hk : bAt0 ks s = false) : FQ N E t s ps (ks.set s true) [s] := by
  obtain ⟨h1, h2, h3⟩ := h
  unfold FQ
  rw [bAt0_set (by omega)]
  refine ⟨fun v hv => ?_, h2.root hk (root_next Nt h3.shut hk h1), cons_begin h3, fun u hu => ?_⟩
  · by_cases e : v = s
    · subst e; exact upd_same _ _ _
    · exact upd_true (h1 v (by omega))
  · obtain rfl : u = s := by simpa using hu
    exact ⟨hs, upd_same _ _ _⟩
theorem FQ.done {s : Nat} {ps : List Int} {ks : List Bool} (h : FQ N E t s ps ks []) : FO N E t (s + 1) ps ks :=
  ⟨h.1, h.2.1, h.2.2.1.mono fun u v _ _ => by simp⟩
theorem FQ.head {s i : Nat} {ps : List Int} {ks : List Bool} {Q : List Nat} (h : FQ N E t s ps ks Q) : FJ N E t s ps ks Q i 0 := ⟨h.1, h.2.1, cons_head h.2.2.1, h.2.2.2⟩
theorem FJ.skip {s i j : Nat} {ps : List Int} {ks : List Bool} {Q : List Nat} (h : FJ N E t s ps ks Q i j) (hn : ¬ E i j) : FJ N E t s ps ks Q i (j + 1) := ⟨h.1, h.2.1, cons_skip h.2.2.1 hn, h.2.2.2⟩
theorem FJ.known {s i j : Nat} {ps : List Int} {ks : List Bool} {Q : List Nat} (h : FJ N E t s ps ks Q i j) (hk : bAt0 ks j = true) (he : pAt ps j = (pAt ps i + t i j) % 360) : FJ N E t s ps ks Q i (j + 1) := ⟨h.1, h.2.1, cons_known h.2.2.1 hk he, h.2.2.2⟩
theorem FJ.add (Nt : Net N E t) {s i j : Nat} {ps : List Int} {ks : List Bool} {Q : List Nat} (h : FJ N E t s ps ks Q i j) (hi : bAt0 ks i = true) (hj : bAt0 ks j = false) (e : E i j) (hk : ks.length = N) (hp : ps.length = N) :
    FJ N E t s (ps.set j ((pAt ps i + t i j) % 360)) (ks.set j true) (Q ++ [j]) i (j + 1) := by
  have hjN := (Nt.lt _ _ e).2
  obtain ⟨h1, h2, h3, h4⟩ := h
  unfold FJ
  rw [bAt0_set (by omega), pAt_set (by omega)]
  refine ⟨fun v hv => upd_true (h1 v hv), h2.add Nt hi hj e, cons_add h3 hi hj, fun u hu => ?_⟩
  rcases List.mem_append.1 hu with hu | hu
  · exact ⟨(h4 u hu).1, upd_true (h4 u hu).2⟩
  · obtain rfl : u = j := by simpa using hu
    exact ⟨hjN, upd_same _ _ _⟩
theorem FJ.pop (Nt : Net N E t) {s i : Nat} {ps : List Int} {ks : List Bool} {Q : List Nat} (h : FJ N E t s ps ks (i :: Q) i N) : FQ N E t s ps ks Q := ⟨h.1, h.2.1, cons_pop Nt h.2.2.1, fun u hu => h.2.2.2 u (by simp [hu])⟩
theorem FO.sol (Nt : Net N E t) {ps : List Int} {ks : List Bool} (h : FO N E t N ps ks) (hp : ps.length = N) : Sol N E t ps true :=
  Sol.of_der h.2.1 hp h.1 fun u v e => (h.2.2 u v e (h.1 u (Nt.lt _ _ e).1) trivial).2
theorem FJ.wrong (Nt : Net N E t) {s i j : Nat} {ps : List Int} {ks : List Bool} {Q : List Nat} (h : FJ N E t s ps ks Q i j) (hi : bAt0 ks i = true) (hj : bAt0 ks j = true) (e : E i j) (hne : pAt ps j ≠ (pAt ps i + t i j) % 360) : Sol N E t [] false :=
  .inr ⟨rfl, rfl, h.2.1.wrong Nt hi hj e hne⟩
end
theorem makeIntsN (N : Nat) (hN : N < 8) (w : World) : (Instr.makeSlice 38 (.int .i64 (N : Int)) (.int .i64 (N : Int))).run Try.prog w = .ok (.slice (some ⟨w.heap.size, 0, none⟩) N N) (w.alloc (.cells (madeCells #[.int .i64 0] N) 3)) :=
  run_make1 (P := Try.prog) 38 3 _ 8 I.infoInt Try.underlying38 rfl N (by omega) (by omega) w
theorem makeBoolsN (N : Nat) (hN : N ≤ 1000) (w : World) : (Instr.makeSlice 35 (.int .i64 (N : Int)) (.int .i64 (N : Int))).run Try.prog w = .ok (.slice (some ⟨w.heap.size, 0, none⟩) N N) (w.alloc (.cells (madeCells #[.bool false] N) 4)) :=
  run_make1 (P := Try.prog) 35 4 _ 1 B.infoBool Try.underlying35 rfl N (by omega) (by omega) w
set_option maxRecDepth 100000 in
set_option maxHeartbeats 8000000 in
theorem flagSolve_any (n : Int) (A1 A2 A3 : Option Addr) (n1 c1 n2 c2 n3 c3 : Nat) (l m : VL) (fl : List Bool) (w : World) (hl : l.length = n1) (hm : m.length = n2) (hf : fl.length = n3)
    (z1 : n1 ≤ 1048576) (z2 : n2 ≤ 1048576) (z3 : n3 ≤ 1048576) (r1 : Rd w w.heap.size A1 n1 c1 (pairs l)) (r2 : Rd w w.heap.size A2 n2 c2 (pairs m)) (r3 : Rd w w.heap.size A3 n3 c3 (bools fl)) :
    Calls Try.prog 17 #[.int .i64 n, .slice A1 n1 c1, .slice A2 n2 c2, .slice A3 n3 c3] w (RetF w n l m fl) := by
  obtain ⟨w0, hw0⟩ : ∃ w0, w0 = ((w.alloc (.cells #[.int .i64 n] 3)).alloc (.cells #[.slice A1 n1 c1] 23)).alloc (.cells #[.slice A2 n2 c2] 23) := ⟨_, rfl⟩
  have x0 : Ext w w0 := by rw [hw0]; exact (((Ext.refl w).alloc _).alloc _).alloc _
  have s0 : St w0 w.heap.size #[.int .i64 n] 3 := by rw [hw0]; exact ((St.new w _ _).ext ((Ext.refl _).alloc _)).ext ((Ext.refl _).alloc _)
  have s1 : St w0 (w.heap.size + 1) #[.slice A1 n1 c1] 23 := by
    rw [hw0]; have := St.new (w.alloc (.cells #[.int .i64 n] 3)) #[.slice A1 n1 c1] 23
    rw [World.size_alloc] at this
    exact this.ext ((Ext.refl _).alloc _)
  have s2 : St w0 (w.heap.size + 1 + 1) #[.slice A2 n2 c2] 23 := by
    rw [hw0]; have := St.new ((w.alloc (.cells #[.int .i64 n] 3)).alloc (.cells #[.slice A1 n1 c1] 23)) #[.slice A2 n2 c2] 23
    rw [World.size_alloc, World.size_alloc] at this
    exact this
  have HV1 := Lib.hid (fun (W : World) (x : Ext w W) => visValid_any n A1 n1 c1 l W hl (by omega) (r1.ext x))
  have HV2 := Lib.hid (fun (W : World) (x : Ext w W) => visValid_any n A2 n2 c2 m W hm (by omega) (r2.ext x))
  have HW0 := Lib.hid hw0
  have HL := Lib.hid hl
  have HM := Lib.hid hm
  have HFl := Lib.hid hf
  clear hl hm hf hw0
  go_enter Try.func17, Try.ntmps17
  have k0 := s0.one'
  have k1 := s1.one'
  have k2 := s2.one'
  rcases h1 : visB n l with _ | _
  · have H1 := Lib.hid h1
    have HF := Lib.hid (FSol.bad (fl := fl) (show (visB n l && visB n m && decide ((fl.length : Int) = nbI n)) = false by rw [h1]; rfl))
    clear h1
    go_wp2_with fail
    rw [← HW0.out]
    refine (HV1.out _ x0).mono ?_
    rintro e w1 ⟨rfl, x1⟩
    rw [H1.out]
    go_wp2
    go_ret2
    exact RetF.no HF.out (x0.trans x1)
  have H1 := Lib.hid h1
  go_wp2_with fail
  rw [← HW0.out]
  refine (HV1.out _ x0).mono ?_
  rintro e w1 ⟨rfl, x1⟩
  rw [H1.out]
  replace x1 : Ext w0 w1 := x1
  have y1 := x0.trans x1
  replace s0 := s0.ext x1
  replace s1 := s1.ext x1
  replace s2 := s2.ext x1
  clear k0 k1 k2 x0 x1
  have k0 := s0.one'
  have k1 := s1.one'
  have k2 := s2.one'
  rcases h2 : visB n m with _ | _
  · have H2 := Lib.hid h2
    have HF := Lib.hid (FSol.bad (fl := fl) (show (visB n l && visB n m && decide ((fl.length : Int) = nbI n)) = false by rw [h1, h2]; rfl))
    clear h1 h2
    go_wp2_with fail
    refine (HV2.out _ y1).mono ?_
    rintro e w2 ⟨rfl, x2⟩
    rw [H2.out]
    go_wp2
    go_ret2
    exact RetF.no HF.out (y1.trans x2)
  have H2 := Lib.hid h2
  go_wp2_with fail
  refine (HV2.out _ y1).mono ?_
  rintro e w2 ⟨rfl, x2⟩
  rw [H2.out]
  have y2 := y1.trans x2
  replace s0 := s0.ext x2
  replace s1 := s1.ext x2
  replace s2 := s2.ext x2
  clear k0 k1 k2 y1 x2
  have k0 := s0.one'
  have k1 := s1.one'
  have k2 := s2.one'
  by_cases h3 : (n3 : Int) = nbI n
  case neg =>
    have h3' : ((n3 : Int) != nbI n) = true := by simpa using h3
    have HF := Lib.hid (FSol.bad (fl := fl) (show (visB n l && visB n m && decide ((fl.length : Int) = nbI n)) = false by rw [h1, h2, HFl.out, decide_eq_false h3]; rfl))
    clear h1 h2 h3
    go_wp2_with (go_at_call 40; refine (baseMany_any _ _).mono ?_; rintro e w' ⟨rfl, rfl⟩)
    go_ret2
    exact RetF.no HF.out y2
  have h3' : ((n3 : Int) != nbI n) = false := by simpa using h3
  obtain ⟨N, rfl, g1, g2, g3, g4⟩ := visB_parts h1
  obtain ⟨N', e, _, _, g5, g6⟩ := visB_parts h2
  obtain rfl : N' = N := by omega
  have hfn : n3 = nb N' := by rw [nbI_nat g1 g2] at h3; omega
  have HN8 : N' < 8 := by omega
  have HOF := Lib.hid (fun (out : List Int) (ok : Bool) (s : Sol N' (Eg N' fl) (tn N' l m) out ok) => FSol.of_sol (l := l) (m := m) (fl := fl) g1 g2 h1 h2 (by rw [HFl.out]; exact hfn) s)
  have Nt := net_of N' fl l m
  have HRL := Lib.hid g4
  have HRM := Lib.hid g6
  have HG3 := Lib.hid g3
  have HG5 := Lib.hid g5
  have hn1 : n1 = nb N' := by rw [← HL.out]; exact g3
  have hn2 : n2 = nb N' := by rw [← HM.out]; exact g5
  have HN1 := Lib.hid hn1
  have HN2 := Lib.hid hn2
  have HN3 := Lib.hid hfn
  have hmk := makeIntsN N' HN8
  have hmb := makeBoolsN N' (by omega)
  obtain ⟨gf, off, rfl⟩ := r3.addr (by rw [bools_length, HFl.out, hfn]; have := nb_pos N' HN8 g1; omega)
  have hsz2 := y2.size
  have hb2 := s2.lt
  have hb1 := s1.lt
  have hb0 := s0.lt
  have m1 : Sl (w2.alloc (.cells (madeCells #[.int .i64 0] N') 3)) w2.heap.size (w2.heap.size + 1) 3 (some ⟨w2.heap.size, 0, none⟩) N' N' (ints (List.replicate N' 0)) := by
    rw [← ints_rep]; exact Sl.made w2 3 _ N'
  have m2 : Sl ((w2.alloc (.cells (madeCells #[.int .i64 0] N') 3)).alloc (.cells (madeCells #[.bool false] N') 4)) (w2.heap.size + 1) (w2.heap.size + 2) 4 (some ⟨w2.heap.size + 1, 0, none⟩) N' N' (bools (List.replicate N' false)) := by
    have := Sl.made (w2.alloc (.cells (madeCells #[.int .i64 0] N') 3)) 4 (.bool false) N'
    rw [World.size_alloc, bools_rep] at this
    exact this
  have xm : Ext w2 (w2.alloc (.cells (madeCells #[.int .i64 0] N') 3)) := (Ext.refl w2).alloc _
  have xn : Ext (w2.alloc (.cells (madeCells #[.int .i64 0] N') 3)) ((w2.alloc (.cells (madeCells #[.int .i64 0] N') 3)).alloc (.cells (madeCells #[.bool false] N') 4)) := (Ext.refl _).alloc _
  have FM0 : FM w2.heap.size N' w2 ((w2.alloc (.cells (madeCells #[.int .i64 0] N') 3)).alloc (.cells (madeCells #[.bool false] N') 4)) (List.replicate N' 0) (List.replicate N' false) := ⟨by simp, by simp, m1.ext xn, m2, xm.trans xn⟩
  have HM0 := Lib.hid FM0
  have k0' := (s0.ext (xm.trans xn)).one'
  have k1' := (s0.ext xm).one'
  have HS0 := Lib.hid s0
  have HS1 := Lib.hid s1
  have HS2 := Lib.hid s2
  have HY := Lib.hid y2
  have HR1 := Lib.hid r1
  have HR2 := Lib.hid r2
  have HR3 := Lib.hid r3
  clear e h1 h2 h3 g3 g4 g5 g6 hfn hn1 hn2 m1 m2 xm xn FM0 r1 r2 r3 y2 s0 s1 s2
  go_wp2_with (go_at_call 40; refine (baseMany_any _ _).mono ?_; rintro e w' ⟨rfl, rfl⟩)
  clear hmk hmb k0 k1 k2 k0' k1' h3'
  go_loopw [41] (fun s wr => ∃ (s0 : Nat) (ps : List Int) (ks : List Bool), s0 ≤ N' ∧ s = .int .i64 s0 ∧ FM w2.heap.size N' w2 wr ps ks ∧ FO N' (Eg N' fl) (tn N' l m) s0 ps ks) (fun s _ => N' - (intOf s).toNat)
  case atStart => exact ⟨0, _, _, Nat.zero_le _, rfl, HM0.out, FO.start (Nat.le_refl _)⟩
  case round =>
    clear HM0
    obtain ⟨s, ps, ks, hs, rfl, fm, fo⟩ := hrel
    have HFM := Lib.hid fm
    have HFO := Lib.hid fo
    clear fm fo
    have k0 := (HS0.out.ext HFM.out.2.2.2.2).one'
    by_cases hlt : s < N'
    case neg =>
      have e : s = N' := by omega
      have hd : decide (s < N') = false := by simpa using hlt
      have HE : Hid (s = N') := e
      clear e
      go_wp2
      go_ret2
      have hp := HFM.out.1
      have hF := HFO.out
      rw [HE.out] at hF
      exact RetF.yes hp (HOF.out _ _ (hF.sol Nt hp)) HFM.out.2.2.1 hsz2 (HY.out.trans HFM.out.2.2.2.2)
    have hsl : (s : Int) < (N' : Int) := by omega
    have hs0 : (0 : Int) ≤ (s : Int) := by omega
    have kk := HFM.out.2.2.2.1.cell (bools_at (some_bAt0 (l := ks) (k := s) (by rw [HFM.out.2.1]; exact hlt)))
    have kf := HFM.out.2.2.2.1.frozen (by rw [bools_length, HFM.out.2.1]; omega) (0 + s)
    simp only [Nat.zero_add] at kk kf
    rcases hk : bAt0 ks s with _ | _
    case true =>
      rw [hk] at kk
      have HO2 := Lib.hid (HFO.out.known hk)
      clear hk
      go_wp2
      go_roundw
      case rel => exact ⟨s + 1, ps, ks, by omega, by go_num, HFM.out, HO2.out⟩
      case measure => simp [intOf]; omega
    rw [hk] at kk
    have HFQ := Lib.hid (HFO.out.queue Nt hlt HFM.out.2.1 hk)
    have hPw := HFM.out.2.2.2.1.lt' (by rw [bools_length, HFM.out.2.1]; omega)
    have m2 := HFM.out.2.2.2.1.set_ s (.bool true)
    rw [bools_set] at m2
    simp only [Nat.zero_add] at m2
    have m1 := HFM.out.2.2.1.far (p := ⟨w2.heap.size + 1, s, none⟩) (.inr (Nat.le_refl _)) (.bool true)
    have m3 := HFM.out.2.2.2.2.setCell (p := ⟨w2.heap.size + 1, s, none⟩) (by show _ ≤ w2.heap.size + 1; omega) (.bool true)
    have xa : Ext (wr.setCell ⟨w2.heap.size + 1, s, none⟩ (.bool true)) ((wr.setCell ⟨w2.heap.size + 1, s, none⟩ (.bool true)).alloc (.cells #[.int .i64 (s : Int)] 3)) := (Ext.refl _).alloc _
    have HF1 := Lib.hid (show FM w2.heap.size N' w2 ((wr.setCell ⟨w2.heap.size + 1, s, none⟩ (.bool true)).alloc (.cells #[.int .i64 (s : Int)] 3)) ps (ks.set s true) from ⟨HFM.out.1, by rw [List.length_set]; exact HFM.out.2.1, m1.ext xa, m2.ext xa, m3.trans xa⟩)
    have hqu := (Qu.new (wr.setCell ⟨w2.heap.size + 1, s, none⟩ (.bool true)) (s : Int) 3).base (base' := w2.heap.size + 2) (by simp; omega)
    rw [World.size_setCell] at hqu
    have HQU := Lib.hid hqu
    clear hk m1 m2 m3 xa hqu HFO
    go_wp2
    go_loopw [14] (fun v wr => ∃ (Q : List Nat) (ps : List Int) (ks : List Bool) (g off c : Nat), v = .slice (some ⟨g, off, none⟩) Q.length c ∧ Qu wr (w2.heap.size + 2) g off c 3 (qs Q) ∧ FM w2.heap.size N' w2 wr ps ks ∧ FQ N' (Eg N' fl) (tn N' l m) s ps ks Q ∧ Hid ((N' - cntF (bAt0 ks) N') + Q.length ≤ N' + 1)) (fun v wr => (N' - kCnt wr (w2.heap.size + 1) N') + sLen v)
    case atStart => exact ⟨[s], ps, ks.set s true, wr.heap.size, 0, 1, rfl, HQU.out, HF1.out, HFQ.out, by show _ ≤ _; simp only [List.length_singleton]; omega⟩
    case round =>
      clear HFM HFQ HF1 HQU kk kf k0 hPw
      obtain ⟨Q, ps, ks, g, qo, qc, rfl, qu, fm, fq, hqb⟩ := hrel
      have HFM := Lib.hid fm
      have HFQ := Lib.hid fq
      have HQU := Lib.hid qu
      clear fm fq qu
      have k0 := (HS0.out.ext HFM.out.2.2.2.2).one'
      rcases Q with _ | ⟨i, rest⟩
      · have HO2 := Lib.hid HFQ.out.done
        go_wp2
        go_roundw
        case rel => exact ⟨s + 1, ps, ks, by omega, by go_num, HFM.out, HO2.out⟩
        case measure => simp [intOf]; omega
      have hiN := (HFQ.out.2.2.2 i (by simp)).1
      have HM0 := Lib.hid (kCnt_eq HFM.out.2.2.2.1 N' (by rw [HFM.out.2.1]; exact Nat.le_refl _))
      obtain ⟨M0, hM0⟩ : ∃ M0, M0 = (N' - cntF (bAt0 ks) N') + (rest.length + 1) := ⟨_, rfl⟩
      have HMM := Lib.hid hM0
      have hMb : M0 ≤ N' + 1 := by have := hqb.out; rw [List.length_cons] at this; omega
      have q0 := HQU.out.cell (j := 0) (u := (i : Int)) rfl
      simp only [Nat.add_zero] at q0
      have HJ0 := Lib.hid (HFQ.out.head (i := i))
      have hMle : (N' - cntF (bAt0 ks) N') + (rest.length + 1) ≤ M0 := by omega
      have HML := Lib.hid hMle
      clear hM0 hMle
      rw [List.length_cons]
      go_wp2
      go_loopw [14, 62] (fun v j wr => ∃ (rest : List Nat) (ps : List Int) (ks : List Bool) (g off c j0 : Nat), v = .slice (some ⟨g, off, none⟩) (rest.length + 1) c ∧ j = .int .i64 j0 ∧ j0 ≤ N' ∧ Qu wr (w2.heap.size + 2) g off c 3 (qs (i :: rest)) ∧ FM w2.heap.size N' w2 wr ps ks ∧ FJ N' (Eg N' fl) (tn N' l m) s ps ks (i :: rest) i j0 ∧ Hid ((N' - cntF (bAt0 ks) N') + (rest.length + 1) ≤ M0)) (fun _ j _ => N' - (intOf j).toNat)
      case atStart => exact ⟨rest, ps, ks, g, qo, qc, 0, rfl, rfl, Nat.zero_le _, HQU.out, HFM.out, HJ0.out, HML⟩
      case round =>
        have HKO := HM0
        have HMO := HMM
        clear HFM HFQ HQU HJ0 HML q0 k0
        obtain ⟨rest2, ps2, ks2, g2, qo2, qc2, j, rfl, rfl, hj, qu, fm, fj, hml⟩ := hrel
        have HFM := Lib.hid fm
        have HFJ := Lib.hid fj
        have HQU := Lib.hid qu
        clear fm fj qu
        have k0 := (HS0.out.ext HFM.out.2.2.2.2).one'
        by_cases hlt2 : j < N'
        case neg =>
          have e : j = N' := by omega
          have hd : decide (j < N') = false := by simpa using hlt2
          have hF := HFJ.out
          rw [e] at hF
          have HFP := Lib.hid (hF.pop Nt)
          have HK2 := Lib.hid (kCnt_eq HFM.out.2.2.2.1 N' (by rw [HFM.out.2.1]; exact Nat.le_refl _))
          have hq2 := HQU.out
          clear hF e
          have hql : rest2.length + 1 ≤ qc2 := by obtain ⟨cur, _, _, h3, _⟩ := hq2; simpa [qs] using h3
          by_cases hc1 : qc2 = 1
          · subst hc1
            obtain ⟨h1, h2⟩ := Qu.pop1 (xs := qs rest2) hq2
            obtain rfl : rest2 = [] := by cases rest2 with | nil => rfl | cons a b => simp [qs] at h1
            have HP := Lib.hid h2
            clear h1 h2 hq2 hql HQU
            go_wp2
            go_roundw
            case rel => exact ⟨[], ps2, ks2, g2, qo2, 0, by first | rfl | simp, HP.out, HFM.out, HFP.out, by show _ ≤ _; have := hml.out; simp at this ⊢; omega⟩
            case measure =>
              have a1 := HK2.out; have a2 := HKO.out; have a3 := HMO.out; have a4 := hml.out
              simp only [sLen, List.length_nil] at *
              omega
          · have h1c : 1 < qc2 := by omega
            have HP := Lib.hid (Qu.pop (xs := qs rest2) hq2)
            have h1l : (1 : Int) ≤ ((rest2.length : Int) + 1) := by omega
            clear hq2 HQU
            go_wp2
            go_roundw
            case rel => exact ⟨rest2, ps2, ks2, g2, qo2 + 1, qc2 - 1, by first | rfl | simp, HP.out, HFM.out, HFP.out, by show _ ≤ _; have := hml.out; omega⟩
            case measure =>
              have a1 := HK2.out; have a2 := HKO.out; have a3 := HMO.out; have a4 := hml.out
              simp only [sLen] at *
              omega
        have hjl : (j : Int) < (N' : Int) := by omega
        have hj0 : (0 : Int) ≤ (j : Int) := by omega
        by_cases hij : i = j
        · subst hij
          have HJ2 := Lib.hid (HFJ.out.skip (fun e => e.2.2.1 rfl))
          go_wp2
          go_roundw
          case rel => exact ⟨rest2, ps2, ks2, g2, qo2, qc2, i + 1, rfl, by go_num, by omega, HQU.out, HFM.out, HJ2.out, hml⟩
          case measure => simp [intOf]; omega
        have hij' : ((i : Int) == (j : Int)) = false := by simp; omega
        have hq := bAt_lt HN8 hiN hlt2 hij
        have cf := (HR3.out.ext (HY.out.trans HFM.out.2.2.2.2)).cell (bools_at (some_bAt0 (l := fl) (k := bAt N' i j) (by rw [HFl.out, HN3.out]; exact hq)))
        have hqi : (bAt N' i j : Int) < (n3 : Int) := by have := HN3.out; omega
        have hqi0 : (0 : Int) ≤ (bAt N' i j : Int) := by omega
        rcases hfl : bAt0 fl (bAt N' i j) with _ | _
        case true =>
          rw [hfl] at cf
          have HJ2 := Lib.hid (HFJ.out.skip (fun e => by rw [e.2.2.2] at hfl; cases hfl))
          clear hfl
          go_wp2_with (go_at_call 43; refine (baseAt_any N' i j _ HN8 hiN hlt2 hij).mono ?_; rintro e w' ⟨rfl, rfl⟩)
          go_roundw
          case rel => exact ⟨rest2, ps2, ks2, g2, qo2, qc2, j + 1, rfl, by go_num, by omega, HQU.out, HFM.out, HJ2.out, hml⟩
          case measure => simp [intOf]; omega
        rw [hfl] at cf
        have HE : Hid (Eg N' fl i j) := ⟨hiN, hlt2, hij, hfl⟩
        clear hfl
        have HKI := Lib.hid (HFJ.out.2.2.2 i (by simp)).2
        have cp := HFM.out.2.2.1.cell (ints_at' (some_pAt (l := ps2) (k := i) (by rw [HFM.out.1]; exact hiN)))
        simp only [Nat.zero_add] at cp
        have hil : (i : Int) < (N' : Int) := by omega
        have hi0 : (0 : Int) ≤ (i : Int) := by omega
        have hpr := HFJ.out.2.1.rng i
        have hv1 := vgP_range HN8 HG3.out HRL.out hiN hlt2 hij
        have hv2 := vgP_range HN8 HG5.out HRM.out hiN hlt2 hij
        have ht1 : -360 < tn N' l m i j := by unfold tn; omega
        have ht2 : tn N' l m i j < 360 := by unfold tn; omega
        clear hv1 hv2
        go_wp2_with (go_at_call 43; refine (baseAt_any N' i j _ HN8 hiN hlt2 hij).mono ?_; rintro e w' ⟨rfl, rfl⟩)
        have f1 : IntKind.i64.wrap (pAt ps2 i + tn N' l m i j) = pAt ps2 i + tn N' l m i j := IntWalk.i64_in _ (by omega)
        have F1 := Lib.hid f1
        clear f1 cf
        go_region_held3 (fun w' => w'.cell? ⟨w2.heap.size, i, none⟩ = some (.int .i64 (pAt ps2 i))) (exact (HFM.out.2.2.1.ext (by repeat (first | (with_reducible exact Ext.refl _) | (with_reducible assumption) | (with_reducible refine Ext.drew ?_) | (with_reducible refine Ext.alloc ?_ _)))).cellz (ints_at' (some_pAt (l := ps2) (k := i) (by rw [HFM.out.1]; exact hiN))))
          (first
            | (go_at_call 41; refine (turn_any N' i j w.heap.size (w.heap.size + 1) (w.heap.size + 1 + 1) A1 A2 n1 c1 n2 c2 l m _ HN8 hiN hlt2 hij HG3.out HG5.out HN1.out HN2.out HRL.out HRM.out (HR1.out.ext ((HY.out.trans HFM.out.2.2.2.2).trans (by repeat (first | (with_reducible exact Ext.refl _) | (with_reducible assumption) | (with_reducible refine Ext.drew ?_) | (with_reducible refine Ext.alloc ?_ _))))) (HR2.out.ext ((HY.out.trans HFM.out.2.2.2.2).trans (by repeat (first | (with_reducible exact Ext.refl _) | (with_reducible assumption) | (with_reducible refine Ext.drew ?_) | (with_reducible refine Ext.alloc ?_ _))))) (HS0.out.ext (HFM.out.2.2.2.2.trans (by repeat (first | (with_reducible exact Ext.refl _) | (with_reducible assumption) | (with_reducible refine Ext.drew ?_) | (with_reducible refine Ext.alloc ?_ _))))) (HS1.out.ext (HFM.out.2.2.2.2.trans (by repeat (first | (with_reducible exact Ext.refl _) | (with_reducible assumption) | (with_reducible refine Ext.drew ?_) | (with_reducible refine Ext.alloc ?_ _))))) (HS2.out.ext (HFM.out.2.2.2.2.trans (by repeat (first | (with_reducible exact Ext.refl _) | (with_reducible assumption) | (with_reducible refine Ext.drew ?_) | (with_reducible refine Ext.alloc ?_ _)))))).mono ?_; rintro e w5 ⟨rfl, x5⟩; have E5 : Ext wr w5 := Ext.trans (by repeat (first | (with_reducible exact Ext.refl _) | (with_reducible assumption) | (with_reducible refine Ext.drew ?_) | (with_reducible refine Ext.alloc ?_ _))) x5; have f1 := F1.out)
            | (go_at_call 11; refine (phaseOf_any _ _).mono ?_; rintro e w' ⟨rfl, rfl⟩))
        have FM5 := Lib.hid (HFM.out.ext E5)
        have HQ5 := Lib.hid (HQU.out.ext E5)
        have kj := FM5.out.2.2.2.1.cellz (bools_at (some_bAt0 (l := ks2) (k := j) (by rw [FM5.out.2.1]; exact hlt2)))
        have pj := FM5.out.2.2.1.cellz (ints_at' (some_pAt (l := ps2) (k := j) (by rw [FM5.out.1]; exact hlt2)))
        have kjf := FM5.out.2.2.2.1.frozen (by rw [bools_length, FM5.out.2.1]; omega) j
        have pjf := FM5.out.2.2.1.frozen (by rw [ints_length, FM5.out.1]; omega) j
        clear k0 cp E5 x5
        rcases hk : bAt0 ks2 j with _ | _
        case true =>
          rw [hk] at kj
          by_cases he : pAt ps2 j = (pAt ps2 i + tn N' l m i j) % 360
          · have he' : (pAt ps2 j != (pAt ps2 i + tn N' l m i j) % 360) = false := by simpa using he
            have HJ2 := Lib.hid (HFJ.out.known hk he)
            clear hk he
            go_wp2
            go_roundw
            case rel => exact ⟨rest2, ps2, ks2, g2, qo2, qc2, j + 1, rfl, by go_num, by omega, HQ5.out, FM5.out, HJ2.out, hml⟩
            case measure => simp [intOf]; omega
          · have he' : (pAt ps2 j != (pAt ps2 i + tn N' l m i j) % 360) = true := by simpa using he
            have HW := Lib.hid (HOF.out _ _ (HFJ.out.wrong Nt HKI.out hk HE.out he))
            clear hk he
            go_wp2
            go_ret2
            exact RetF.no HW.out (HY.out.trans FM5.out.2.2.2.2)
        rw [hk] at kj
        have HJ2 := Lib.hid (HFJ.out.add Nt HKI.out hk HE.out FM5.out.2.1 FM5.out.1)
        have hcn := cntF_upd hk hlt2
        have hcl := cntF_le (upd (bAt0 ks2) j true) N'
        have HCN : Hid ((N' - cntF (bAt0 (ks2.set j true)) N') + ((rest2 ++ [j]).length + 1) ≤ M0) := by
          show _ ≤ _
          have := hml.out
          rw [bAt0_set (by rw [FM5.out.2.1]; exact hlt2), List.length_append, List.length_singleton]
          omega
        have m2 := FM5.out.2.2.2.1.set_ j (.bool true)
        rw [bools_set] at m2
        simp only [Nat.zero_add] at m2
        have m1 := (FM5.out.2.2.1.far (p := ⟨w2.heap.size + 1, j, none⟩) (.inr (Nat.le_refl _)) (.bool true)).set_ j (.int .i64 ((pAt ps2 i + tn N' l m i j) % 360))
        rw [ints_set] at m1
        simp only [Nat.zero_add] at m1
        have m2' := m2.far (p := ⟨w2.heap.size, j, none⟩) (.inl (by show w2.heap.size < _; omega)) (.int .i64 ((pAt ps2 i + tn N' l m i j) % 360))
        have m3 := (FM5.out.2.2.2.2.setCell (p := ⟨w2.heap.size + 1, j, none⟩) (by show _ ≤ w2.heap.size + 1; omega) (.bool true)).setCell (p := ⟨w2.heap.size, j, none⟩) (Nat.le_refl _) (.int .i64 ((pAt ps2 i + tn N' l m i j) % 360))
        have FM6 := Lib.hid (show FM w2.heap.size N' w2 ((w5.setCell ⟨w2.heap.size + 1, j, none⟩ (.bool true)).setCell ⟨w2.heap.size, j, none⟩ (.int .i64 ((pAt ps2 i + tn N' l m i j) % 360))) (ps2.set j ((pAt ps2 i + tn N' l m i j) % 360)) (ks2.set j true) from ⟨by rw [List.length_set]; exact FM5.out.1, by rw [List.length_set]; exact FM5.out.2.1, m1, m2', m3⟩)
        have hge := HQ5.out.ge
        have ch := chg_two w5 w2.heap.size j (.bool true) (.int .i64 ((pAt ps2 i + tn N' l m i j) % 360))
        have HQ6 := Lib.hid (HQ5.out.chg ch (.inr hge))
        have hrl : rest2.length ≤ N' + 1 := by have := hml.out; omega
        have nb1 : w2.heap.size + 1 ≠ w2.heap.size := by omega
        have nb2 : w2.heap.size ≠ w2.heap.size + 1 := by omega
        clear hk hcn hcl m1 m2 m2' m3 ch
        go_wp2_with (at_builtin; go_loud (refine wpList_append_q' (w := (w5.setCell ⟨w2.heap.size + 1, j, none⟩ (.bool true)).setCell ⟨w2.heap.size, j, none⟩ (.int .i64 ((pAt ps2 i + tn N' l m i j) % 360))) rfl _ _ _ rfl (w2.heap.size + 2) 3 (.int .i64 0) 8 I.infoInt Try.underlying38 rfl g2 qo2 (rest2.length + 1) qc2 (qs (i :: rest2)) rfl (by simp [qs]) HQ6.out (j : Int) _ (by rfl) (by first | rfl | (simp only [World.size_setCell]; done)) (by omega) (by omega) ?_); intro g3 qo3 qc3 w7 hq7 ch7; rw [qs_snoc] at hq7)
        have FM7 := Lib.hid (FM6.out.chg (Nat.le_refl _) ch7 hge)
        have HQ7 := Lib.hid hq7
        clear hq7 ch7
        go_roundw
        case rel => exact ⟨rest2 ++ [j], _, _, g3, qo3, qc3, j + 1, by simp, by go_num, by omega, HQ7.out, FM7.out, HJ2.out, HCN⟩
        case measure => simp [intOf]; omega
end Go.Proofs.Ytpjglnmnfmibnab
