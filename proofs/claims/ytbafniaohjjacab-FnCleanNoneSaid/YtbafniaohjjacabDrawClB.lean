/-
  Drawn cleanings: DrawCleanPeak, DrawCleanStep, DrawCleanRun.
-/
import Derived.Test.YtbafniaohjjacabDrawCl
namespace Go.Proofs.Ytbafniaohjjacab
open Go.RowKit
set_option linter.unusedSimpArgs false
set_option linter.unusedVariables false

set_option maxHeartbeats 400000 in
/-- l6Open of a code that lies below block B -/
theorem l6Open_at (B : Nat) (A : Option Addr) (n c : Nat) (zs : List Int) (w : World) (hB : B ≤ w.heap.size) (hn : zs.length = n) (hm : n ≤ 9223372036854775807) (h : Rd w B A n c (zs.map (.int .u8))) (hz : ∀ z ∈ zs, 0 ≤ z ∧ z ≤ 255) :
    Calls Try.prog 24 #[.slice A n c] w fun e w' => e = .returned (.pointer (some ⟨w.heap.size, 0, none⟩)) ∧ Rdr w' B w.heap.size 0 ∧ Ext w w' := by
  have HN := Lib.hid hn
  have HZ := Lib.hid hz
  clear hn hz
  by_cases h2 : n ≤ 2000
  · go_enter Try.func24, Try.ntmps24
    go_wp2
    go_ret
    exact ⟨rfl, ⟨A, n, c, zs, heap_alloc_new w _, HN.out, h2, h.alloc hB _, HZ.out, hB⟩, (Ext.refl w).alloc _⟩
  · have hc := h.1
    have hcI : (n : Int) ≤ (c : Int) := by omega
    have hA : Rd w B A 2000 c ((zs.take 2000).map (.int .u8)) := by
      refine ⟨by omega, fun hx => ?_⟩
      obtain ⟨g, off, e, hb, hc⟩ := h.2 (by simp [HN.out]; omega)
      refine ⟨g, off, e, hb, fun j u hu => hc j u ?_⟩
      simp only [List.map_take, List.getElem?_take] at hu
      split at hu
      · exact hu
      · cases hu
    obtain ⟨g, off, rfl⟩ := h.addr (by simp [HN.out]; omega)
    go_enter Try.func24, Try.ntmps24
    go_wp2
    go_ret
    exact ⟨rfl, ⟨_, 2000, c, zs.take 2000, heap_alloc_new w _, by simp [HN.out]; omega, by omega, hA.alloc hB _, fun z hz => HZ.out z (List.mem_of_mem_take hz), hB⟩, (Ext.refl w).alloc _⟩
/-- a cleaning is returned -/
def SomeC (w : World) (e : Ending) (w' : World) : Prop :=
  ∃ (A : Option Addr) (c : Nat) (B : Option Addr) (m d : Nat) (xs ys : List Int), e = .returned (.agg #[.slice A 16 c, .slice B m d]) ∧ xs.length = 16 ∧ ys.length = m ∧ m ≤ 17 ∧
    Sl w' w.heap.size w'.heap.size 3 A 16 c (ints xs) ∧ Sl w' w.heap.size w'.heap.size 3 B m d (ints ys) ∧ Ext w w'
/-- a cleaning and a beam are returned -/
def SomeCI (w : World) (e : Ending) (w' : World) : Prop :=
  ∃ (A : Option Addr) (c : Nat) (B : Option Addr) (m d : Nat) (D : Option Addr) (n f : Nat) (xs ys zs : List Int), e = .returned (.tuple #[.agg #[.slice A 16 c, .slice B m d], .slice D n f]) ∧ xs.length = 16 ∧ ys.length = m ∧ m ≤ 17 ∧ zs.length = n ∧ n ≤ 16 ∧
    Sl w' w.heap.size w'.heap.size 3 A 16 c (ints xs) ∧ Sl w' w.heap.size w'.heap.size 3 B m d (ints ys) ∧ Sl w' w.heap.size w'.heap.size 3 D n f (ints zs) ∧ Ext w w'
/-- a cleaning, a beam and a number are returned -/
def SomeCIN (w : World) (e : Ending) (w' : World) : Prop :=
  ∃ (A : Option Addr) (c : Nat) (B : Option Addr) (m d : Nat) (D : Option Addr) (n f : Nat) (xs ys zs : List Int) (k : Int), e = .returned (.tuple #[.agg #[.slice A 16 c, .slice B m d], .slice D n f, .int .i64 k]) ∧ xs.length = 16 ∧ ys.length = m ∧ m ≤ 17 ∧ zs.length = n ∧ n ≤ 16 ∧
    Sl w' w.heap.size w'.heap.size 3 A 16 c (ints xs) ∧ Sl w' w.heap.size w'.heap.size 3 B m d (ints ys) ∧ Sl w' w.heap.size w'.heap.size 3 D n f (ints zs) ∧ Ext w w'
set_option maxHeartbeats 1000000 in
theorem drawCleanStep_any (A : Option Addr) (n c : Nat) (zs : List Int) (w : World) (hn : zs.length = n) (hm : n ≤ 9223372036854775807) (h : Rd w w.heap.size A n c (zs.map (.int .u8))) (hz : ∀ z ∈ zs, 0 ≤ z ∧ z ≤ 255) :
    Calls Try.prog 18 #[.slice A n c] w (SomeCI w) := by
  have x0 : Ext w (w.alloc (.cells #[.slice none 0 0, .slice none 0 0] 25)) := (Ext.refl w).alloc _
  have S0 := St.new w #[.slice none 0 0, .slice none 0 0] 25
  have HO := Lib.hid (l6Open_any A n c zs _ hn hm (h.ext x0) hz)
  rw [World.size_alloc] at HO
  clear hn hz h
  go_enter Try.func18, Try.ntmps18
  go_wp2_with fail
  refine HO.out.mono ?_
  rintro e w1 ⟨rfl, R1, x1⟩
  have z1 := x1.size
  rw [World.size_alloc] at z1
  go_wp2_with fail
  refine (l93Clean_any (w.heap.size + 1) (w.heap.size + 1) 0 _ (by omega) R1).mono ?_
  rintro e w2 ⟨A2, c2, B2, m2, d2, D2, n2, f2, xs, ys, bm, p2, rfl, hx, hy, hm2, hb, hn2, s1, s2, s3, R2, hp2, C2⟩
  have HX := Lib.hid hx
  have HY := Lib.hid hy
  have HB := Lib.hid hb
  clear hx hy hb
  have SR := (S0.ext x1).chg C2 (by omega)
  have X2 := (x0.trans x1).more C2 (by omega)
  have kr0 := SR.cell0
  have kr1 := SR.cell1
  have kr2 := SR.frozen 0
  have kr3 := SR.frozen 1
  have RR := SR.put2 (.slice A2 16 c2) (.slice B2 m2 d2)
  have r0 := RR.cell0
  have r1 := RR.cell1
  go_wp2
  refine bodyPost_ret (v := .tuple #[.agg #[.slice A2 16 c2, .slice B2 m2 d2], .slice D2 n2 f2]) (by simp [results, Try.results18, go_sem, r0, r1]) rfl ?_
  exact ⟨A2, c2, B2, m2, d2, D2, n2, f2, xs, ys, bm, rfl, HX.out, HY.out, hm2, HB.out, hn2, (s1.put2 (g := w.heap.size) (by omega) _ _).full.mono (by omega) (Nat.le_refl _), (s2.put2 (g := w.heap.size) (by omega) _ _).full.mono (by omega) (Nat.le_refl _), (s3.put2 (g := w.heap.size) (by omega) _ _).full.mono (by omega) (Nat.le_refl _), X2.put2 (Nat.le_refl _) _ _⟩
theorem st_alloc {w : World} {g : Nat} {vs : Array Value} {T : TypeId} {o : Obj} (h : St w g vs T) : St (w.alloc o) g vs T := h.ext ((Ext.refl _).alloc _)
theorem st_drew {w : World} {g : Nat} {vs : Array Value} {T : TypeId} (h : St w g vs T) : St w.drew g vs T := h
theorem sl_alloc {w : World} {lo hi : Nat} {E : TypeId} {A : Option Addr} {n c : Nat} {xs : List Value} {o : Obj} (h : Sl w lo hi E A n c xs) : Sl (w.alloc o) lo hi E A n c xs := h.ext ((Ext.refl _).alloc _)
theorem sl_drew {w : World} {lo hi : Nat} {E : TypeId} {A : Option Addr} {n c : Nat} {xs : List Value} (h : Sl w lo hi E A n c xs) : Sl w.drew lo hi E A n c xs := h
theorem sl_low {w : World} {lo hi : Nat} {E : TypeId} {A : Option Addr} {n c g k : Nat} {xs : List Value} {u : Value} (hg : g < lo) (h : Sl w lo hi E A n c xs) : Sl (w.setCell ⟨g, k, none⟩ u) lo hi E A n c xs := h.far (.inl hg) u
/-- what stands before the end: the beam and the number in their slots, the cleaning in the cell of the result -/
def EndIn (w : World) (lo hi : Nat) (A : Option Addr) (c : Nat) (B : Option Addr) (m d : Nat) (D : Option Addr) (n f : Nat) (xs ys zs : List Int) (v k : Value) (wx : World) : Prop :=
  v = .slice D n f ∧ (∃ i : Int, k = .int .i64 i) ∧ St wx w.heap.size #[.slice A 16 c, .slice B m d] 25 ∧ Sl wx lo hi 3 A 16 c (ints xs) ∧ Sl wx lo hi 3 B m d (ints ys) ∧ Sl wx lo hi 3 D n f (ints zs) ∧ Ext w wx
theorem heap_set2 {w : World} {g k H : Nat} {u : Value} {x : Obj} (hne : H ≠ g) (h : w.heap[H]? = some x) : (w.setCell ⟨g, k, none⟩ u).heap[H]? = some x := (Below.heap_setCell w ⟨g, k, none⟩ u H hne).trans h
theorem St.pick2 {w : World} {g v : Nat} {a b : Int} {T : TypeId} (h : St w g #[.int .i64 a, .int .i64 b] T) (hv : v < 2) : w.cell? ⟨g, v, none⟩ = some (.int .i64 (if v = 0 then a else b)) := by
  have hv' : v = 0 ∨ v = 1 := by omega
  rcases hv' with rfl | rfl
  · exact h.cell 0
  · exact h.cell 1
theorem arr_pick2 {v : Nat} {a b : Int} (hv : v < 2) : (#[Value.int .i64 a, Value.int .i64 b] : Array Value)[v]? = some (.int .i64 (if v = 0 then a else b)) := by
  have hv' : v = 0 ∨ v = 1 := by omega
  rcases hv' with rfl | rfl <;> rfl
theorem arr_get2 {v : Nat} {a b : Int} (h : v < [Value.int .i64 a, Value.int .i64 b].length) : [Value.int .i64 a, Value.int .i64 b][v]'h = .int .i64 (if v = 0 then a else b) := by
  have hv' : v = 0 ∨ v = 1 := by simp at h; omega
  rcases hv' with rfl | rfl <;> rfl
set_option maxRecDepth 100000 in
set_option maxHeartbeats 4000000 in
theorem drawCleanRun_any (A : Option Addr) (n c : Nat) (zs : List Int) (w : World) (hn : zs.length = n) (hm : n ≤ 9223372036854775807) (h : Rd w w.heap.size A n c (zs.map (.int .u8))) (hz : ∀ z ∈ zs, 0 ≤ z ∧ z ≤ 255) :
    Calls Try.prog 11 #[.slice A n c] w (SomeCIN w) := by
  have x0 : Ext w (w.alloc (.cells #[.slice none 0 0, .slice none 0 0] 25)) := (Ext.refl w).alloc _
  have S0 := St.new w #[.slice none 0 0, .slice none 0 0] 25
  have HO := Lib.hid (l6Open_at w.heap.size A n c zs _ (by simp) hn hm (h.below x0.below) hz)
  rw [World.size_alloc] at HO
  clear hn hz h
  go_enter Try.func11, Try.ntmps11
  go_wp2_with fail
  refine HO.out.mono ?_
  rintro e w1 ⟨rfl, R1, x1⟩
  have z1 := x1.size
  rw [World.size_alloc] at z1
  have zr := R1.lt
  go_wp2_with fail
  refine (l93Clean_any w.heap.size (w.heap.size + 1) 0 _ (by omega) R1).mono ?_
  rintro e w2 ⟨A2, c2, B2, m2, d2, D2, n2, f2, xs, ys, bm, p2, rfl, hx, hy, hm2, hb, hn2, s1, s2, s3, R2, hp2, C2⟩
  have HX := Lib.hid hx
  have HY := Lib.hid hy
  have HB := Lib.hid hb
  clear hx hy hb
  have z2 := C2.size
  have y2 : Ext w2 (w2.alloc (.cells #[.slice A2 16 c2, .slice B2 m2 d2] 25)) := (Ext.refl _).alloc _
  have SX := St.new w2 #[.slice A2 16 c2, .slice B2 m2 d2] 25
  have SR := ((S0.ext x1).chg C2 (by omega)).ext y2
  have X2 := ((x0.trans x1).more C2 (by omega)).trans y2
  have t1 := s1.ext y2
  have t2 := s2.ext y2
  have t3 := s3.ext y2
  have R3 := R2.ext y2
  clear s1 s2 s3 R2 S0
  go_wp2_with fail
  refine (pick_any w.heap.size (w.heap.size + 1) p2 16 _ (by omega) (by omega) (by omega) R3).mono ?_
  rintro e w4 ⟨v4, rfl, hv4, R4, C4⟩
  have z4 := C4.size
  rw [World.size_alloc] at z4
  replace SX := SX.chg C4 (by omega)
  replace SR := SR.chg C4 (by omega)
  replace X2 := X2.more C4 (by omega)
  replace t1 := t1.chg C4 (.inr (by omega))
  replace t2 := t2.chg C4 (.inr (by omega))
  replace t3 := t3.chg C4 (.inr (by omega))
  have HSX := Lib.hid SX
  have HSR := Lib.hid SR
  have HX2 := Lib.hid X2
  have HT1 := Lib.hid t1
  have HT2 := Lib.hid t2
  have HT3 := Lib.hid t3
  have HR4 := Lib.hid R4
  have kx0 := SX.cell0
  have kx1 := SX.cell1
  have kx2 := SX.lt
  have kr0 := SR.cell0
  have kr1 := SR.cell1
  have kr2 := SR.frozen 0
  have kr3 := SR.frozen 1
  have kr4 := SR.lt
  have kn1 : w.heap.size ≠ w2.heap.size := by omega
  have kn2 : w2.heap.size ≠ w.heap.size := by omega
  clear SX SR X2 t1 t2 t3 R4 R3 C4 C2 y2 x0 x1 R1
  have kr5 := Nat.ne_of_lt kr4
  have kx3 := Nat.ne_of_lt kx2
  by_cases k0 : v4 = 0
  · subst k0
    go_wp2_with fail
    go_cut [3, 4] (fun v k wx => EndIn w w1.heap.size w2.heap.size A2 c2 B2 m2 d2 D2 n2 f2 xs ys bm v k wx)
    case first =>
      go_region_with ((go_at_call 26; refine (pick_any w.heap.size (w.heap.size + 1) (p2 + 1) 2 _ (by omega) (by omega) (by omega) (Rdr.chg (lo := w.heap.size) (hi := w.heap.size + 1) HR4.out (by (repeat (first | (with_reducible exact Chg.refl _ _ _) | (with_reducible refine Chg.drew ?_) | (with_reducible refine Chg.alloc ?_ _) | (with_reducible refine Chg.setCell ?_ (.inl ⟨Nat.le_refl _, Nat.lt_succ_self _⟩) _))); done) (.inr (Nat.le_refl _)) (.inl (Nat.le_refl _)))).mono ?_; rintro e w5 ⟨v5, rfl, hv5, R5, C5⟩; have z5 := C5.size; (try simp only [World.size_alloc, World.size_drew, World.size_setCell] at z5); have SX5 := Lib.hid ((St.chg (lo := w.heap.size) (hi := w.heap.size + 1) HSX.out (by (repeat (first | (with_reducible exact Chg.refl _ _ _) | (with_reducible refine Chg.drew ?_) | (with_reducible refine Chg.alloc ?_ _) | (with_reducible refine Chg.setCell ?_ (.inl ⟨Nat.le_refl _, Nat.lt_succ_self _⟩) _))); done) (.inr (by omega))).chg C5 (.inr (by omega))); have T1 := Lib.hid ((Sl.chg (lo' := w.heap.size) (hi' := w.heap.size + 1) HT1.out (by (repeat (first | (with_reducible exact Chg.refl _ _ _) | (with_reducible refine Chg.drew ?_) | (with_reducible refine Chg.alloc ?_ _) | (with_reducible refine Chg.setCell ?_ (.inl ⟨Nat.le_refl _, Nat.lt_succ_self _⟩) _))); done) (.inr (by omega))).chg C5 (.inr (by omega))); have T2 := Lib.hid ((Sl.chg (lo' := w.heap.size) (hi' := w.heap.size + 1) HT2.out (by (repeat (first | (with_reducible exact Chg.refl _ _ _) | (with_reducible refine Chg.drew ?_) | (with_reducible refine Chg.alloc ?_ _) | (with_reducible refine Chg.setCell ?_ (.inl ⟨Nat.le_refl _, Nat.lt_succ_self _⟩) _))); done) (.inr (by omega))).chg C5 (.inr (by omega))); have T3 := Lib.hid ((Sl.chg (lo' := w.heap.size) (hi' := w.heap.size + 1) HT3.out (by (repeat (first | (with_reducible exact Chg.refl _ _ _) | (with_reducible refine Chg.drew ?_) | (with_reducible refine Chg.alloc ?_ _) | (with_reducible refine Chg.setCell ?_ (.inl ⟨Nat.le_refl _, Nat.lt_succ_self _⟩) _))); done) (.inr (by omega))).chg C5 (.inr (by omega))); have X5 := Lib.hid ((Ext.more (lo := w.heap.size) (hi := w.heap.size + 1) HX2.out (by (repeat (first | (with_reducible exact Chg.refl _ _ _) | (with_reducible refine Chg.drew ?_) | (with_reducible refine Chg.alloc ?_ _) | (with_reducible refine Chg.setCell ?_ (.inl ⟨Nat.le_refl _, Nat.lt_succ_self _⟩) _))); done) (Nat.le_refl _)).more C5 (by omega)); have kx50 := SX5.out.cell0; have kx51 := SX5.out.cell1; have kx52 := SX5.out.lt; have kx53 := Nat.ne_of_lt kx52; (first | (refine cutP (P := St w5 w.heap.size #[.slice A2 16 c2, .slice B2 m2 d2] 25) ?_ ?_; (focus (refine St.chg ?_ C5 (.inl (by omega)); (repeat (first | (with_reducible exact HSR.out) | (with_reducible refine st_drew ?_) | (with_reducible refine st_alloc ?_) | (with_reducible refine St.put2 (u := .slice none 0 0) (v := .slice none 0 0) ?_ _ _))); done)); intro SRa_; have SRa := Lib.hid SRa_; clear SRa_; have ra4 := SRa.out.lt; have ra5 := Nat.ne_of_lt ra4) | (refine cutP (P := St w5 w.heap.size #[.slice none 0 0, .slice none 0 0] 25) ?_ ?_; (focus (refine St.chg ?_ C5 (.inl (by omega)); (repeat (first | (with_reducible exact HSR.out) | (with_reducible refine st_drew ?_) | (with_reducible refine st_alloc ?_) | (with_reducible refine St.put2 (u := .slice none 0 0) (v := .slice none 0 0) ?_ _ _))); done)); intro SRb_; have SRb := Lib.hid SRb_; clear SRb_; have ra0 := SRb.out.cell0; have ra1 := SRb.out.cell1; have ra2 := SRb.out.frozen 0; have ra3 := SRb.out.frozen 1; have ra4 := SRb.out.lt; have ra5 := Nat.ne_of_lt ra4)); have hv5' : v5 < 2 := (by omega); have hv5'' : (v5 : Int) < 2 := (by omega); have hv50 : (0 : Int) ≤ (v5 : Int) := (by omega); have ia := arr_pick2 (v := v5) (a := -1) (b := 201) hv5'; (try (refine cutP (P := St w5 w4.heap.size #[.int .i64 (-1), .int .i64 201] 3) ?_ ?_; (focus (show w5.heap[w4.heap.size]? = _; refine heap_kept C5 (.inr (by omega)) ?_; (repeat (first | ((refine heap_new ?_); (first | rfl | (simp; done))) | (with_reducible refine heap_old ?_) | (with_reducible refine heap_drew ?_) | (refine heap_set2 ?_ ?_ ; (focus omega)))); done)); intro q; have ib := q.pick2 hv5'; have ic := q.lt; have id := Nat.ne_of_lt ic))))
      all_goals go_wp2_with fail
      all_goals go_meet
      all_goals exact ⟨rfl, (by first | exact ⟨_, rfl⟩ | exact ⟨_, arr_get2 _⟩), (by (repeat (first | (with_reducible exact SRa.out) | (with_reducible exact SRb.out) | (with_reducible refine st_drew ?_) | (with_reducible refine st_alloc ?_) | (with_reducible refine St.put2 (u := .slice none 0 0) (v := .slice none 0 0) ?_ _ _))); done), (by (repeat (first | (with_reducible exact T1.out) | (with_reducible refine sl_drew ?_) | (with_reducible refine sl_alloc ?_) | (with_reducible refine sl_low (by omega) ?_))); done), (by (repeat (first | (with_reducible exact T2.out) | (with_reducible refine sl_drew ?_) | (with_reducible refine sl_alloc ?_) | (with_reducible refine sl_low (by omega) ?_))); done), (by (repeat (first | (with_reducible exact T3.out) | (with_reducible refine sl_drew ?_) | (with_reducible refine sl_alloc ?_) | (with_reducible refine sl_low (by omega) ?_))); done), (by (repeat (first | (with_reducible exact X5.out) | (with_reducible refine Ext.drew ?_) | (with_reducible refine Ext.alloc ?_ _) | (with_reducible refine Ext.setCell ?_ (Nat.le_refl _) _))); done)⟩
    case rest =>
      obtain ⟨rfl, ⟨i, rfl⟩, SR, q1, q2, q3, X⟩ := hcut
      clear kr0 kr1 kr2 kr3 kx0 kx1
      have r0 := SR.cell0
      have r1 := SR.cell1
      have hsz := SR.lt
      go_wp2
      refine bodyPost_ret (v := .tuple #[.agg #[.slice A2 16 c2, .slice B2 m2 d2], .slice D2 n2 f2, .int .i64 i]) (by simp [results, Try.results11, go_sem, r0, r1]) rfl ?_
      exact ⟨A2, c2, B2, m2, d2, D2, n2, f2, xs, ys, bm, i, rfl, HX.out, HY.out, hm2, HB.out, hn2, q1.full.mono (by omega) (Nat.le_refl _), q2.full.mono (by omega) (Nat.le_refl _), q3.full.mono (by omega) (Nat.le_refl _), X⟩
  have k0' : ((v4 : Int) == 0) = false := by simp; omega
  go_wp2_with fail
  go_cut [3, 4] (fun v k wx => EndIn w w1.heap.size w2.heap.size A2 c2 B2 m2 d2 D2 n2 f2 xs ys bm v k wx)
  case first =>
    go_region_with ((go_at_call 26; refine (pick_any w.heap.size (w.heap.size + 1) (p2 + 1) 30 _ (by omega) (by omega) (by omega) (Rdr.chg (lo := w.heap.size) (hi := w.heap.size + 1) HR4.out (by (repeat (first | (with_reducible exact Chg.refl _ _ _) | (with_reducible refine Chg.drew ?_) | (with_reducible refine Chg.alloc ?_ _) | (with_reducible refine Chg.setCell ?_ (.inl ⟨Nat.le_refl _, Nat.lt_succ_self _⟩) _))); done) (.inr (Nat.le_refl _)) (.inl (Nat.le_refl _)))).mono ?_; rintro e w5 ⟨v5, rfl, hv5, R5, C5⟩; have z5 := C5.size; (try simp only [World.size_alloc, World.size_drew, World.size_setCell] at z5); have SX5 := Lib.hid ((St.chg (lo := w.heap.size) (hi := w.heap.size + 1) HSX.out (by (repeat (first | (with_reducible exact Chg.refl _ _ _) | (with_reducible refine Chg.drew ?_) | (with_reducible refine Chg.alloc ?_ _) | (with_reducible refine Chg.setCell ?_ (.inl ⟨Nat.le_refl _, Nat.lt_succ_self _⟩) _))); done) (.inr (by omega))).chg C5 (.inr (by omega))); have T1 := Lib.hid ((Sl.chg (lo' := w.heap.size) (hi' := w.heap.size + 1) HT1.out (by (repeat (first | (with_reducible exact Chg.refl _ _ _) | (with_reducible refine Chg.drew ?_) | (with_reducible refine Chg.alloc ?_ _) | (with_reducible refine Chg.setCell ?_ (.inl ⟨Nat.le_refl _, Nat.lt_succ_self _⟩) _))); done) (.inr (by omega))).chg C5 (.inr (by omega))); have T2 := Lib.hid ((Sl.chg (lo' := w.heap.size) (hi' := w.heap.size + 1) HT2.out (by (repeat (first | (with_reducible exact Chg.refl _ _ _) | (with_reducible refine Chg.drew ?_) | (with_reducible refine Chg.alloc ?_ _) | (with_reducible refine Chg.setCell ?_ (.inl ⟨Nat.le_refl _, Nat.lt_succ_self _⟩) _))); done) (.inr (by omega))).chg C5 (.inr (by omega))); have T3 := Lib.hid ((Sl.chg (lo' := w.heap.size) (hi' := w.heap.size + 1) HT3.out (by (repeat (first | (with_reducible exact Chg.refl _ _ _) | (with_reducible refine Chg.drew ?_) | (with_reducible refine Chg.alloc ?_ _) | (with_reducible refine Chg.setCell ?_ (.inl ⟨Nat.le_refl _, Nat.lt_succ_self _⟩) _))); done) (.inr (by omega))).chg C5 (.inr (by omega))); have X5 := Lib.hid ((Ext.more (lo := w.heap.size) (hi := w.heap.size + 1) HX2.out (by (repeat (first | (with_reducible exact Chg.refl _ _ _) | (with_reducible refine Chg.drew ?_) | (with_reducible refine Chg.alloc ?_ _) | (with_reducible refine Chg.setCell ?_ (.inl ⟨Nat.le_refl _, Nat.lt_succ_self _⟩) _))); done) (Nat.le_refl _)).more C5 (by omega)); have kx50 := SX5.out.cell0; have kx51 := SX5.out.cell1; have kx52 := SX5.out.lt; have kx53 := Nat.ne_of_lt kx52; (first | (refine cutP (P := St w5 w.heap.size #[.slice A2 16 c2, .slice B2 m2 d2] 25) ?_ ?_; (focus (refine St.chg ?_ C5 (.inl (by omega)); (repeat (first | (with_reducible exact HSR.out) | (with_reducible refine st_drew ?_) | (with_reducible refine st_alloc ?_) | (with_reducible refine St.put2 (u := .slice none 0 0) (v := .slice none 0 0) ?_ _ _))); done)); intro SRa_; have SRa := Lib.hid SRa_; clear SRa_; have ra4 := SRa.out.lt; have ra5 := Nat.ne_of_lt ra4) | (refine cutP (P := St w5 w.heap.size #[.slice none 0 0, .slice none 0 0] 25) ?_ ?_; (focus (refine St.chg ?_ C5 (.inl (by omega)); (repeat (first | (with_reducible exact HSR.out) | (with_reducible refine st_drew ?_) | (with_reducible refine st_alloc ?_) | (with_reducible refine St.put2 (u := .slice none 0 0) (v := .slice none 0 0) ?_ _ _))); done)); intro SRb_; have SRb := Lib.hid SRb_; clear SRb_; have ra0 := SRb.out.cell0; have ra1 := SRb.out.cell1; have ra2 := SRb.out.frozen 0; have ra3 := SRb.out.frozen 1; have ra4 := SRb.out.lt; have ra5 := Nat.ne_of_lt ra4))))
    all_goals go_wp2_with fail
    all_goals go_meet
    all_goals exact ⟨rfl, (by first | exact ⟨_, rfl⟩ | exact ⟨_, arr_get2 _⟩), (by (repeat (first | (with_reducible exact SRa.out) | (with_reducible exact SRb.out) | (with_reducible refine st_drew ?_) | (with_reducible refine st_alloc ?_) | (with_reducible refine St.put2 (u := .slice none 0 0) (v := .slice none 0 0) ?_ _ _))); done), (by (repeat (first | (with_reducible exact T1.out) | (with_reducible refine sl_drew ?_) | (with_reducible refine sl_alloc ?_) | (with_reducible refine sl_low (by omega) ?_))); done), (by (repeat (first | (with_reducible exact T2.out) | (with_reducible refine sl_drew ?_) | (with_reducible refine sl_alloc ?_) | (with_reducible refine sl_low (by omega) ?_))); done), (by (repeat (first | (with_reducible exact T3.out) | (with_reducible refine sl_drew ?_) | (with_reducible refine sl_alloc ?_) | (with_reducible refine sl_low (by omega) ?_))); done), (by (repeat (first | (with_reducible exact X5.out) | (with_reducible refine Ext.drew ?_) | (with_reducible refine Ext.alloc ?_ _) | (with_reducible refine Ext.setCell ?_ (Nat.le_refl _) _))); done)⟩
  case rest =>
    obtain ⟨rfl, ⟨i, rfl⟩, SR, q1, q2, q3, X⟩ := hcut
    clear kr0 kr1 kr2 kr3 kx0 kx1
    have r0 := SR.cell0
    have r1 := SR.cell1
    have hsz := SR.lt
    go_wp2
    refine bodyPost_ret (v := .tuple #[.agg #[.slice A2 16 c2, .slice B2 m2 d2], .slice D2 n2 f2, .int .i64 i]) (by simp [results, Try.results11, go_sem, r0, r1]) rfl ?_
    exact ⟨A2, c2, B2, m2, d2, D2, n2, f2, xs, ys, bm, i, rfl, HX.out, HY.out, hm2, HB.out, hn2, q1.full.mono (by omega) (Nat.le_refl _), q2.full.mono (by omega) (Nat.le_refl _), q3.full.mono (by omega) (Nat.le_refl _), X⟩
end Go.Proofs.Ytbafniaohjjacab
