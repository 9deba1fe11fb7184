/-
  Drawn cleanings: DrawCleanPeak, DrawCleanStep, DrawCleanRun.
-/
import Derived.Test.YtbafniaohjjacaaDrawCl
namespace Go.Proofs.Ytbafniaohjjacaa
open Go.RowKit
set_option linter.unusedSimpArgs false
set_option linter.unusedVariables false

set_option maxHeartbeats 400000 in
/-- l6Open of a code that lies below block B -/
theorem l6Open_at (B : Nat) (A : Option Addr) (n c : Nat) (zs : List Int) (w : World) (hB : B ≤ w.heap.size) (hn : zs.length = n) (hm : n ≤ 9223372036854775807) (h : Rd w B A n c (zs.map (.int .u8))) (hz : ∀ z ∈ zs, 0 ≤ z ∧ z ≤ 255) :
    Calls Try.prog 56 #[.slice A n c] w fun e w' => e = .returned (.pointer (some ⟨w.heap.size, 0, none⟩)) ∧ Rdr w' B w.heap.size 0 ∧ Ext w w' := by
  have HN := Lib.hid hn
  have HZ := Lib.hid hz
  clear hn hz
  by_cases h2 : n ≤ 2000
  · go_enter Try.func56, Try.ntmps56
    go_wp2
    go_ret
    exact ⟨rfl, ⟨A, n, c, zs, heap_alloc_new w _, HN.out, h2, h.alloc hB _, HZ.out, hB⟩, (Ext.refl w).alloc _⟩
  · have hc := h.1
    have hcI : (n : Int) ≤ (c : Int) := by omega
    have hA : Rd w B A 2000 c ((zs.take 2000).map (.int .u8)) := by
      refine ⟨by omega, fun hx => ?_⟩
      obtain ⟨g, off, e, hb, hc⟩ := h.2 (by simp [HN.out]; omega)
      refine ⟨g, off, e, hb, fun j u hu => hc j u ?_⟩
      simp only [List.map_take, List.getElem?_take] at hu
      split at hu
      · exact hu
      · cases hu
    obtain ⟨g, off, rfl⟩ := h.addr (by simp [HN.out]; omega)
    go_enter Try.func56, Try.ntmps56
    go_wp2
    go_ret
    exact ⟨rfl, ⟨_, 2000, c, zs.take 2000, heap_alloc_new w _, by simp [HN.out]; omega, by omega, hA.alloc hB _, fun z hz => HZ.out z (List.mem_of_mem_take hz), hB⟩, (Ext.refl w).alloc _⟩
/-- a cleaning is returned -/
def SomeC (w : World) (e : Ending) (w' : World) : Prop :=
  ∃ (A : Option Addr) (c : Nat) (B : Option Addr) (m d : Nat) (xs ys : List Int), e = .returned (.agg #[.slice A 16 c, .slice B m d]) ∧ xs.length = 16 ∧ ys.length = m ∧ m ≤ 17 ∧
    Sl w' w.heap.size w'.heap.size 3 A 16 c (ints xs) ∧ Sl w' w.heap.size w'.heap.size 3 B m d (ints ys) ∧ Ext w w'
/-- a cleaning and a beam are returned -/
def SomeCI (w : World) (e : Ending) (w' : World) : Prop :=
  ∃ (A : Option Addr) (c : Nat) (B : Option Addr) (m d : Nat) (D : Option Addr) (n f : Nat) (xs ys zs : List Int), e = .returned (.tuple #[.agg #[.slice A 16 c, .slice B m d], .slice D n f]) ∧ xs.length = 16 ∧ ys.length = m ∧ m ≤ 17 ∧ zs.length = n ∧ n ≤ 16 ∧
    Sl w' w.heap.size w'.heap.size 3 A 16 c (ints xs) ∧ Sl w' w.heap.size w'.heap.size 3 B m d (ints ys) ∧ Sl w' w.heap.size w'.heap.size 3 D n f (ints zs) ∧ Ext w w'
/-- a cleaning, a beam and a number are returned -/
def SomeCIN (w : World) (e : Ending) (w' : World) : Prop :=
  ∃ (A : Option Addr) (c : Nat) (B : Option Addr) (m d : Nat) (D : Option Addr) (n f : Nat) (xs ys zs : List Int) (k : Int), e = .returned (.tuple #[.agg #[.slice A 16 c, .slice B m d], .slice D n f, .int .i64 k]) ∧ xs.length = 16 ∧ ys.length = m ∧ m ≤ 17 ∧ zs.length = n ∧ n ≤ 16 ∧
    Sl w' w.heap.size w'.heap.size 3 A 16 c (ints xs) ∧ Sl w' w.heap.size w'.heap.size 3 B m d (ints ys) ∧ Sl w' w.heap.size w'.heap.size 3 D n f (ints zs) ∧ Ext w w'
set_option maxHeartbeats 1000000 in
theorem drawCleanPeak_any (A : Option Addr) (n c : Nat) (zs : List Int) (w : World) (hn : zs.length = n) (hm : n ≤ 9223372036854775807) (h : Rd w w.heap.size A n c (zs.map (.int .u8))) (hz : ∀ z ∈ zs, 0 ≤ z ∧ z ≤ 255) :
    Calls Try.prog 34 #[.slice A n c] w (SomeC w) := by
  have x0 : Ext w (w.alloc (.cells #[.slice none 0 0, .slice none 0 0] 24)) := (Ext.refl w).alloc _
  have S0 := St.new w #[.slice none 0 0, .slice none 0 0] 24
  have HO := Lib.hid (l6Open_any A n c zs _ hn hm (h.ext x0) hz)
  rw [World.size_alloc] at HO
  clear hn hz h
  go_enter Try.func34, Try.ntmps34
  go_wp2_with fail
  refine HO.out.mono ?_
  rintro e w1 ⟨rfl, R1, x1⟩
  have z1 := x1.size
  rw [World.size_alloc] at z1
  go_wp2_with fail
  refine (l93Clean_any (w.heap.size + 1) (w.heap.size + 1) 0 _ (by omega) R1).mono ?_
  rintro e w2 ⟨A2, c2, B2, m2, d2, D2, n2, f2, xs, ys, bm, p2, rfl, hx, hy, hm2, hb, hn2, s1, s2, s3, R2, hp2, C2⟩
  have HX := Lib.hid hx
  have HY := Lib.hid hy
  clear hx hy hb s3
  have y2 : Ext w2 (w2.alloc (.cells #[.slice A2 16 c2, .slice B2 m2 d2] 24)) := (Ext.refl _).alloc _
  have SX := St.new w2 #[.slice A2 16 c2, .slice B2 m2 d2] 24
  have SR := ((S0.ext x1).chg C2 (by omega)).ext y2
  have X2 := ((x0.trans x1).more C2 (by omega)).trans y2
  have t1 := s1.ext y2
  have t2 := s2.ext y2
  have kx0 := SX.cell0
  have kx1 := SX.cell1
  have kr0 := SR.cell0
  have kr1 := SR.cell1
  have kr2 := SR.frozen 0
  have kr3 := SR.frozen 1
  have kr4 := SR.lt
  have RR := SR.put2 (.slice A2 16 c2) (.slice B2 m2 d2)
  have r0 := RR.cell0
  have r1 := RR.cell1
  go_wp2
  refine bodyPost_ret (v := .agg #[.slice A2 16 c2, .slice B2 m2 d2]) (by simp [results, Try.results34, go_sem, r0, r1]) rfl ?_
  exact ⟨A2, c2, B2, m2, d2, xs, ys, rfl, HX.out, HY.out, hm2, (t1.put2 (g := w.heap.size) (by omega) _ _).full.mono (by omega) (Nat.le_refl _), (t2.put2 (g := w.heap.size) (by omega) _ _).full.mono (by omega) (Nat.le_refl _), X2.put2 (Nat.le_refl _) _ _⟩
end Go.Proofs.Ytbafniaohjjacaa
