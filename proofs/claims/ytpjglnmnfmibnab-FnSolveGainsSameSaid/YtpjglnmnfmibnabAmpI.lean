/-
  Contract of ampsFrom of the program.
-/
import Derived.Test.YtpjglnmnfmibnabHeld
import Derived.Test.YtpjglnmnfmibnabAmpP
import Derived.Test.YtpjglnmnfmibnabVisV
import Derived.Test.YtpjglnmnfmibnabFlagI
import Derived.Test.YtpjglnmnfmibnabInts
import Derived.Deep.QuietTactic
import Derived.Deep.RegionHeld3
import Derived.BigQuiet
namespace Go.Proofs.Ytpjglnmnfmibnab
open Go.RowKit Go.Shelf
attribute [local go_sem] Oper.semAt_some
set_option linter.unusedSimpArgs false
set_option linter.unusedVariables false

theorem mul_in2 {a b A B : Int} (h1 : 0 ≤ a) (h2 : a ≤ A) (h3 : 0 ≤ b) (h4 : b ≤ B) : 0 ≤ a * b ∧ a * b ≤ A * B :=
  ⟨Int.mul_nonneg h1 h3, Int.mul_le_mul h2 h4 h3 (by omega)⟩
theorem hG_nil {P : Prop} (h : P) : P := h
theorem mul_in1' {a b A B : Int} (h1 : 1 ≤ a) (h2 : a ≤ A) (h3 : 1 ≤ b) (h4 : b ≤ B) : 1 ≤ a * b ∧ a * b ≤ A * B :=
  ⟨by have := Int.mul_le_mul h1 h3 (by omega) (by omega); simpa using this, Int.mul_le_mul h2 h4 (by omega) (by omega)⟩
/-- the boxes of the function, and the amplitudes so far -/
structure AmpW (N : Nat) (l m : VL) (f : Int) (w : World) (b0 b1 b2 b3 b4 b6 : Nat) (v1 v2 : Value) (k : Nat) (W : World) : Prop where
  ext : Ext w W
  s0 : St W b0 #[.int .i64 (N : Int)] 3
  s1 : St W b1 #[v1] 23
  s2 : St W b2 #[v2] 23
  s3 : St W b3 #[.slice none 0 0] 38
  s4 : St W b4 #[.bool false] 4
  own : ∃ g c, St W b6 #[.slice (some ⟨g, 0, none⟩) k c] 38 ∧ W.ownsRow (b4 + 1) 3 1 (.slice (some ⟨g, 0, none⟩) k c) k (ints (amL N l m f k)) ∧ g ≠ b6
theorem AmpW.drewN {N : Nat} {l m : VL} {f : Int} {w : World} {b0 b1 b2 b3 b4 b6 : Nat} {v1 v2 : Value} {k : Nat} {W : World} (h : AmpW N l m f w b0 b1 b2 b3 b4 b6 v1 v2 k W) (n : Nat) : AmpW N l m f w b0 b1 b2 b3 b4 b6 v1 v2 k (W.drewN n) :=
  ⟨h.ext.drewN n, h.s0, h.s1, h.s2, h.s3, h.s4, h.own⟩
/-- in the loop over all baselines -/
def AmpR (N : Nat) (l m : VL) (f : Int) (w : World) (b0 b1 b2 b3 b4 b6 : Nat) (v1 v2 : Value) (g c : Nat) (cur : Array Value) (B : Nat) (pre : List (BL N)) (W : World) : Prop :=
  (Ext w W ∧ St W b0 #[.int .i64 (N : Int)] 3) ∧ (St W b1 #[v1] 23 ∧ St W b2 #[v2] 23) ∧ (St W b3 #[.slice none 0 0] 38 ∧ St W b4 #[.bool false] 4) ∧
    (St W b6 #[.slice (some ⟨g, 0, none⟩) N c] 38 ∧ St W g cur 3) ∧ (St W B #[.int .i64 (N : Int)] 3 ∧ ∀ p ∈ vals pre, amG N l m f p = true)
theorem ampR_own (N : Nat) (l m : VL) (f : Int) (w : World) (b0 b1 b2 b3 b4 b6 : Nat) (v1 v2 : Value) (g c : Nat) (cur : Array Value) (B B0 : Nat) (h : w.heap.size ≤ B0) : OwnFrom B0 (AmpR N l m f w b0 b1 b2 b3 b4 b6 v1 v2 g c cur B) :=
  ((own_extW h).and (own_st _)).and (((own_st _).and (own_st _)).and (((own_st _).and (own_st _)).and (((own_st _).and (own_st _)).and ((own_st _).and own_pure))))
/-- behind an early return -/
def AmpX (N : Nat) (l m : VL) (f : Int) (w : World) (b3 b4 : Nat) (c : Code) (_ : List (BL N)) (W : World) : Prop :=
  (c = .ret ∧ amOk N l m f = false) ∧ (Ext w W ∧ (St W b3 #[.slice none 0 0] 38 ∧ St W b4 #[.bool false] 4))
theorem ampX_own (N : Nat) (l m : VL) (f : Int) (w : World) (b3 b4 B0 : Nat) (h : w.heap.size ≤ B0) (c : Code) : OwnFrom B0 (AmpX N l m f w b3 b4 c) :=
  own_pure.and ((own_extW h).and ((own_st _).and (own_st _)))
set_option maxRecDepth 100000 in
set_option maxHeartbeats 4000000 in
theorem ampsFrom_any (N : Nat) (A1 A2 : Option Addr) (n1 c1 n2 c2 : Nat) (l m : VL) (f : Int) (w : World) (hv1 : visB (N : Int) l = true) (hv2 : visB (N : Int) m = true) (hl : l.length = n1) (hm : m.length = n2) (hf1 : 1 ≤ f) (hf2 : f ≤ 99)
    (r1 : Rd w w.heap.size A1 n1 c1 (pairs l)) (r2 : Rd w w.heap.size A2 n2 c2 (pairs m)) :
    Calls Try.prog 63 #[.int .i64 (N : Int), .slice A1 n1 c1, .slice A2 n2 c2, .int .i64 f] w (RetSB w 3 (amF N l m f).length (ints (amF N l m f)) (amOk N l m f)) := by
  obtain ⟨N', e, g1, g2, g3, g4⟩ := visB_parts hv1
  obtain rfl : N' = N := by omega
  obtain ⟨N2, e', _, _, g5, g6⟩ := visB_parts hv2
  obtain rfl : N2 = N' := by omega
  have hnb := nb_le N2 (by omega)
  have hnp := nb_pos N2 (by omega) g1
  obtain ⟨ga, oa, rfl⟩ := r1.addr (by rw [pairs_length, g3]; omega)
  obtain ⟨gb, ob, rfl⟩ := r2.addr (by rw [pairs_length, g5]; omega)
  have hn1 : n1 = nb N2 := by omega
  have hn2 : n2 = nb N2 := by omega
  have HN1 := Lib.hid hn1
  have HN2 := Lib.hid hn2
  have HL := Lib.hid g3
  have HM := Lib.hid g5
  have HR1 := Lib.hid r1
  have HR2 := Lib.hid r2
  have HRL := Lib.hid g4
  have HRM := Lib.hid g6
  have hz1 : n1 ≤ 21 := by omega
  have hz2 : n2 ≤ 21 := by omega
  clear e e' hv1 hv2 hl hm g3 g4 g5 g6 r1 r2 hn1 hn2 hnb hnp
  refine (callsIn_wide (n := 10)).1 ?_
  refine callsIn_of_wp_marks Try.func63 rfl trivial ?_ rfl
  refine wpIn_wide.2 ?_
  simp only [Try.ntmps63, List.size_toArray, List.length_cons, List.length_nil, Nat.reduceAdd, Nat.reduceSub, Array.replicate_succ, Array.replicate_zero, List.push_toArray, List.append_toArray, List.nil_append, List.cons_append]
  go_wp2_with fail
  have q0 : St (w.alloc (.cells #[.int .i64 (N2 : Int)] 3)) (w.heap.size) #[.int .i64 (N2 : Int)] 3 := by
    have h := St.new w #[.int .i64 (N2 : Int)] 3
    (try simp only [World.size_alloc] at h)
    exact h
  have x0 : Ext w (w.alloc (.cells #[.int .i64 (N2 : Int)] 3)) := (Ext.refl _).alloc _
  have q1 : St ((w.alloc (.cells #[.int .i64 (N2 : Int)] 3)).alloc (.cells #[.slice (some ⟨ga, oa, none⟩) n1 c1] 23)) (w.heap.size + 1) #[.slice (some ⟨ga, oa, none⟩) n1 c1] 23 := by
    have h := St.new (w.alloc (.cells #[.int .i64 (N2 : Int)] 3)) #[.slice (some ⟨ga, oa, none⟩) n1 c1] 23
    (try simp only [World.size_alloc] at h)
    exact h
  have x1 : Ext (w.alloc (.cells #[.int .i64 (N2 : Int)] 3)) ((w.alloc (.cells #[.int .i64 (N2 : Int)] 3)).alloc (.cells #[.slice (some ⟨ga, oa, none⟩) n1 c1] 23)) := (Ext.refl _).alloc _
  have q2 : St (((w.alloc (.cells #[.int .i64 (N2 : Int)] 3)).alloc (.cells #[.slice (some ⟨ga, oa, none⟩) n1 c1] 23)).alloc (.cells #[.slice (some ⟨gb, ob, none⟩) n2 c2] 23)) (w.heap.size + 1 + 1) #[.slice (some ⟨gb, ob, none⟩) n2 c2] 23 := by
    have h := St.new ((w.alloc (.cells #[.int .i64 (N2 : Int)] 3)).alloc (.cells #[.slice (some ⟨ga, oa, none⟩) n1 c1] 23)) #[.slice (some ⟨gb, ob, none⟩) n2 c2] 23
    (try simp only [World.size_alloc] at h)
    exact h
  have x2 : Ext ((w.alloc (.cells #[.int .i64 (N2 : Int)] 3)).alloc (.cells #[.slice (some ⟨ga, oa, none⟩) n1 c1] 23)) (((w.alloc (.cells #[.int .i64 (N2 : Int)] 3)).alloc (.cells #[.slice (some ⟨ga, oa, none⟩) n1 c1] 23)).alloc (.cells #[.slice (some ⟨gb, ob, none⟩) n2 c2] 23)) := (Ext.refl _).alloc _
  have q3 : St ((((w.alloc (.cells #[.int .i64 (N2 : Int)] 3)).alloc (.cells #[.slice (some ⟨ga, oa, none⟩) n1 c1] 23)).alloc (.cells #[.slice (some ⟨gb, ob, none⟩) n2 c2] 23)).alloc (.cells #[.slice none 0 0] 38)) (w.heap.size + 1 + 1 + 1) #[.slice none 0 0] 38 := by
    have h := St.new (((w.alloc (.cells #[.int .i64 (N2 : Int)] 3)).alloc (.cells #[.slice (some ⟨ga, oa, none⟩) n1 c1] 23)).alloc (.cells #[.slice (some ⟨gb, ob, none⟩) n2 c2] 23)) #[.slice none 0 0] 38
    (try simp only [World.size_alloc] at h)
    exact h
  have x3 : Ext (((w.alloc (.cells #[.int .i64 (N2 : Int)] 3)).alloc (.cells #[.slice (some ⟨ga, oa, none⟩) n1 c1] 23)).alloc (.cells #[.slice (some ⟨gb, ob, none⟩) n2 c2] 23)) ((((w.alloc (.cells #[.int .i64 (N2 : Int)] 3)).alloc (.cells #[.slice (some ⟨ga, oa, none⟩) n1 c1] 23)).alloc (.cells #[.slice (some ⟨gb, ob, none⟩) n2 c2] 23)).alloc (.cells #[.slice none 0 0] 38)) := (Ext.refl _).alloc _
  have q4 : St (((((w.alloc (.cells #[.int .i64 (N2 : Int)] 3)).alloc (.cells #[.slice (some ⟨ga, oa, none⟩) n1 c1] 23)).alloc (.cells #[.slice (some ⟨gb, ob, none⟩) n2 c2] 23)).alloc (.cells #[.slice none 0 0] 38)).alloc (.cells #[.bool false] 4)) (w.heap.size + 1 + 1 + 1 + 1) #[.bool false] 4 := by
    have h := St.new ((((w.alloc (.cells #[.int .i64 (N2 : Int)] 3)).alloc (.cells #[.slice (some ⟨ga, oa, none⟩) n1 c1] 23)).alloc (.cells #[.slice (some ⟨gb, ob, none⟩) n2 c2] 23)).alloc (.cells #[.slice none 0 0] 38)) #[.bool false] 4
    (try simp only [World.size_alloc] at h)
    exact h
  have x4 : Ext ((((w.alloc (.cells #[.int .i64 (N2 : Int)] 3)).alloc (.cells #[.slice (some ⟨ga, oa, none⟩) n1 c1] 23)).alloc (.cells #[.slice (some ⟨gb, ob, none⟩) n2 c2] 23)).alloc (.cells #[.slice none 0 0] 38)) (((((w.alloc (.cells #[.int .i64 (N2 : Int)] 3)).alloc (.cells #[.slice (some ⟨ga, oa, none⟩) n1 c1] 23)).alloc (.cells #[.slice (some ⟨gb, ob, none⟩) n2 c2] 23)).alloc (.cells #[.slice none 0 0] 38)).alloc (.cells #[.bool false] 4)) := (Ext.refl _).alloc _
  have q5 : St ((((((w.alloc (.cells #[.int .i64 (N2 : Int)] 3)).alloc (.cells #[.slice (some ⟨ga, oa, none⟩) n1 c1] 23)).alloc (.cells #[.slice (some ⟨gb, ob, none⟩) n2 c2] 23)).alloc (.cells #[.slice none 0 0] 38)).alloc (.cells #[.bool false] 4)).alloc (.cells #[.int .i64 f] 3)) (w.heap.size + 1 + 1 + 1 + 1 + 1) #[.int .i64 f] 3 := by
    have h := St.new (((((w.alloc (.cells #[.int .i64 (N2 : Int)] 3)).alloc (.cells #[.slice (some ⟨ga, oa, none⟩) n1 c1] 23)).alloc (.cells #[.slice (some ⟨gb, ob, none⟩) n2 c2] 23)).alloc (.cells #[.slice none 0 0] 38)).alloc (.cells #[.bool false] 4)) #[.int .i64 f] 3
    (try simp only [World.size_alloc] at h)
    exact h
  have x5 : Ext (((((w.alloc (.cells #[.int .i64 (N2 : Int)] 3)).alloc (.cells #[.slice (some ⟨ga, oa, none⟩) n1 c1] 23)).alloc (.cells #[.slice (some ⟨gb, ob, none⟩) n2 c2] 23)).alloc (.cells #[.slice none 0 0] 38)).alloc (.cells #[.bool false] 4)) ((((((w.alloc (.cells #[.int .i64 (N2 : Int)] 3)).alloc (.cells #[.slice (some ⟨ga, oa, none⟩) n1 c1] 23)).alloc (.cells #[.slice (some ⟨gb, ob, none⟩) n2 c2] 23)).alloc (.cells #[.slice none 0 0] 38)).alloc (.cells #[.bool false] 4)).alloc (.cells #[.int .i64 f] 3)) := (Ext.refl _).alloc _
  have q6 : St (((((((w.alloc (.cells #[.int .i64 (N2 : Int)] 3)).alloc (.cells #[.slice (some ⟨ga, oa, none⟩) n1 c1] 23)).alloc (.cells #[.slice (some ⟨gb, ob, none⟩) n2 c2] 23)).alloc (.cells #[.slice none 0 0] 38)).alloc (.cells #[.bool false] 4)).alloc (.cells #[.int .i64 f] 3)).alloc (.cells #[.slice (some ⟨w.heap.size + 1 + 1 + 1 + 1 + 1, 0, none⟩) 1 1] 38)) (w.heap.size + 1 + 1 + 1 + 1 + 1 + 1) #[.slice (some ⟨w.heap.size + 1 + 1 + 1 + 1 + 1, 0, none⟩) 1 1] 38 := by
    have h := St.new ((((((w.alloc (.cells #[.int .i64 (N2 : Int)] 3)).alloc (.cells #[.slice (some ⟨ga, oa, none⟩) n1 c1] 23)).alloc (.cells #[.slice (some ⟨gb, ob, none⟩) n2 c2] 23)).alloc (.cells #[.slice none 0 0] 38)).alloc (.cells #[.bool false] 4)).alloc (.cells #[.int .i64 f] 3)) #[.slice (some ⟨w.heap.size + 1 + 1 + 1 + 1 + 1, 0, none⟩) 1 1] 38
    (try simp only [World.size_alloc] at h)
    exact h
  have x6 : Ext ((((((w.alloc (.cells #[.int .i64 (N2 : Int)] 3)).alloc (.cells #[.slice (some ⟨ga, oa, none⟩) n1 c1] 23)).alloc (.cells #[.slice (some ⟨gb, ob, none⟩) n2 c2] 23)).alloc (.cells #[.slice none 0 0] 38)).alloc (.cells #[.bool false] 4)).alloc (.cells #[.int .i64 f] 3)) (((((((w.alloc (.cells #[.int .i64 (N2 : Int)] 3)).alloc (.cells #[.slice (some ⟨ga, oa, none⟩) n1 c1] 23)).alloc (.cells #[.slice (some ⟨gb, ob, none⟩) n2 c2] 23)).alloc (.cells #[.slice none 0 0] 38)).alloc (.cells #[.bool false] 4)).alloc (.cells #[.int .i64 f] 3)).alloc (.cells #[.slice (some ⟨w.heap.size + 1 + 1 + 1 + 1 + 1, 0, none⟩) 1 1] 38)) := (Ext.refl _).alloc _
  have s0 := ((((((q0.ext x1).ext x2).ext x3).ext x4).ext x5).ext x6)
  have s1 := (((((q1.ext x2).ext x3).ext x4).ext x5).ext x6)
  have s2 := ((((q2.ext x3).ext x4).ext x5).ext x6)
  have s3 := (((q3.ext x4).ext x5).ext x6)
  have s4 := ((q4.ext x5).ext x6)
  have s5 := (q5.ext x6)
  have s6 := q6
  have X := ((((((x0.trans x1).trans x2).trans x3).trans x4).trans x5).trans x6)
  clear q0 q1 q2 q3 q4 q5 q6 x0 x1 x2 x3 x4 x5 x6
  generalize (((((((w.alloc (.cells #[.int .i64 (N2 : Int)] 3)).alloc (.cells #[.slice (some ⟨ga, oa, none⟩) n1 c1] 23)).alloc (.cells #[.slice (some ⟨gb, ob, none⟩) n2 c2] 23)).alloc (.cells #[.slice none 0 0] 38)).alloc (.cells #[.bool false] 4)).alloc (.cells #[.int .i64 f] 3)).alloc (.cells #[.slice (some ⟨w.heap.size + 1 + 1 + 1 + 1 + 1, 0, none⟩) 1 1] 38)) = W0 at *
  obtain ⟨b1, hb1⟩ : ∃ x, x = w.heap.size + 1 := ⟨_, rfl⟩
  rw [← hb1] at s1 s2 s3 s4 s5 s6 ⊢
  obtain ⟨b2, hb2⟩ : ∃ x, x = b1 + 1 := ⟨_, rfl⟩
  rw [← hb2] at s2 s3 s4 s5 s6 ⊢
  obtain ⟨b3, hb3⟩ : ∃ x, x = b2 + 1 := ⟨_, rfl⟩
  rw [← hb3] at s3 s4 s5 s6 ⊢
  obtain ⟨b4, hb4⟩ : ∃ x, x = b3 + 1 := ⟨_, rfl⟩
  rw [← hb4] at s4 s5 s6 ⊢
  obtain ⟨b5, hb5⟩ : ∃ x, x = b4 + 1 := ⟨_, rfl⟩
  rw [← hb5] at s5 s6 ⊢
  obtain ⟨b6, hb6⟩ : ∃ x, x = b5 + 1 := ⟨_, rfl⟩
  rw [← hb6] at s6 ⊢
  have ho : W0.ownsRow (b4 + 1) 3 1 (.slice (some ⟨b5, 0, none⟩) 1 1) 1 (ints (amL N2 l m f 1)) := by
    rw [amL_one]
    exact ⟨rfl, .inr ⟨b5, 1, _, rfl, by omega, s5, Nat.le_refl _, by simp [maxLen], rfl, rfl⟩⟩
  have HW : AmpW N2 l m f w w.heap.size b1 b2 b3 b4 b6 (.slice (some ⟨ga, oa, none⟩) n1 c1) (.slice (some ⟨gb, ob, none⟩) n2 c2) 1 W0 := ⟨X, s0, s1, s2, s3, s4, b5, 1, s6, ho, by omega⟩
  clear s0 s1 s2 s3 s4 s5 s6 X ho
  have lt1 : w.heap.size < b1 := by omega
  have lt2 : b1 < b2 := by omega
  have lt3 : b2 < b3 := by omega
  have lt4 : b3 < b4 := by omega
  have lt5 : b4 < b5 := by omega
  have lt6 : b5 < b6 := by omega
  have lt7 : b4 + 1 < b6 := by omega
  clear hb1 hb2 hb3 hb4 hb5 hb6
  go_loopw [11] (fun j wr => ∃ k : Nat, 1 ≤ k ∧ k ≤ N2 ∧ j = .int .i64 (k : Int) ∧ AmpW N2 l m f w w.heap.size b1 b2 b3 b4 b6 (.slice (some ⟨ga, oa, none⟩) n1 c1) (.slice (some ⟨gb, ob, none⟩) n2 c2) k wr) (fun j _ => N2 - (intOf j).toNat)
  case atStart => exact ⟨1, Nat.le_refl _, by omega, rfl, HW⟩
  case round =>
    clear HW
    obtain ⟨k, hk1, hk, rfl, HW⟩ := hrel
    have j0 := HW.s0.one'
    by_cases hlt : k < N2
    · have h2 : (k : Int) < (N2 : Int) := by omega
      have j1 := HW.s1.one'
      have j2 := HW.s2.one'
      have hq := bIx_lt N2 (by omega) 0 (by omega) k hlt (by omega)
      have hqa : bAt N2 0 k = bIx N2 0 k := if_neg (by omega)
      have HBA : Hid (∀ W, Calls Try.prog 43 #[.int .i64 (N2 : Int), .int .i64 0, .int .i64 (k : Int)] W fun e w' => e = .returned (.int .i64 ((bIx N2 0 k : Nat) : Int)) ∧ W = w') := fun W => by
        have := baseAt_any N2 0 k W (by omega) (by omega) hlt (by omega)
        rw [hqa] at this
        exact this
      have d1 := (HR1.out.ext HW.ext).fst (some_v (l := l) (k := bIx N2 0 k) (by rw [HL.out]; exact hq))
      have d2 := (HR2.out.ext HW.ext).fst (some_v (l := m) (k := bIx N2 0 k) (by rw [HM.out]; exact hq))
      have e1 := rgB_at HRL.out (k := bIx N2 0 k) (by rw [HL.out]; exact hq)
      have e2 := rgB_at HRM.out (k := bIx N2 0 k) (by rw [HM.out]; exact hq)
      have hq1 : bIx N2 0 k < n1 := by rw [HN1.out]; exact hq
      have hq2 : bIx N2 0 k < n2 := by rw [HN2.out]; exact hq
      obtain ⟨m1, m2⟩ := mul_in1' e2.1 e2.2.1 hf1 hf2
      have f1 : IntKind.i64.wrap (vAm m (bIx N2 0 k) * f) = vAm m (bIx N2 0 k) * f := IntWalk.i64_in _ (by omega)
      have HAT : Hid (amT N2 l m f k = if vAm l (bIx N2 0 k) % (vAm m (bIx N2 0 k) * f) = 0 ∧ vAm l (bIx N2 0 k) / (vAm m (bIx N2 0 k) * f) ≤ 99 then vAm l (bIx N2 0 k) / (vAm m (bIx N2 0 k) * f) else 0) := by show _ = _; unfold amT; rw [if_neg (by omega)]
      have HBAD : Hid (amT N2 l m f k = 0 → amOk N2 l m f = false) := fun h => amOk_bad (by omega) HL.out HRL.out hk1 hlt h
      have HWH := Lib.hid HW
      clear HW hqa hq
      generalize bIx N2 0 k = q at *
      obtain ⟨a, ha⟩ : ∃ a, vAm l q = a := ⟨_, rfl⟩
      obtain ⟨p, hp⟩ : ∃ p, vAm m q * f = p := ⟨_, rfl⟩
      have hpz : (p == 0) = false := by simp; omega
      have hpz2 : ¬ p = 0 := by omega
      rw [ha] at d1 e1 HAT
      rw [hp] at f1 m1 m2 HAT
      have HP := Lib.hid hp
      have hqr := Int.ediv_nonneg (show 0 ≤ a by omega) (show 0 ≤ p by omega)
      have hqs := Int.ediv_le_self p (show 0 ≤ a by omega)
      have t1 : a.tmod p = a % p := Int.tmod_eq_emod_of_nonneg (by omega)
      have t2 : a.tdiv p = a / p := Int.tdiv_eq_ediv_of_nonneg (by omega)
      have t3 : IntKind.i64.wrap (a / p) = a / p := IntWalk.i64_in _ (by omega)
      clear ha
      go_wp2
      go_quiet ((go_at_call 43; exact quiet_same (HBA.out _)))
      have HWd := Lib.hid (HWH.out.drewN nq)
      clear hp HWH j0 j1 j2 d1 d2
      generalize wr.drewN nq = wd at *
      by_cases g0 : a % p = 0
      case neg =>
        have g0' : (a % p != 0) = true := by simpa using g0
        have HNO := Lib.hid (HBAD.out (by rw [HAT.out, if_neg (fun h => g0 h.1)]))
        have HF : Hid (amF N2 l m f = []) := by show _ = _; simp [amF, HNO.out]
        have s3 := HWd.out.s3
        have s4 := HWd.out.s4
        have c3 := s3.one'
        have c4 := s4.one'
        have f3 := s3.frozen 0
        have f4 := s4.frozen 0
        have z3 := s3.set 0 (.slice none 0 0)
        have hne : b3 ≠ b4 := by omega
        have z4 := s4.far (p := ⟨b3, 0, none⟩) (Ne.symm hne) (.slice none 0 0)
        have z5 := (z3.far (p := ⟨b4, 0, none⟩) hne (.bool false)).one'
        have z6 := (z4.set 0 (.bool false)).one'
        have XE := (HWd.out.ext.setCell (p := ⟨b3, 0, none⟩) (by show _ ≤ b3; omega) (.slice none 0 0)).setCell (p := ⟨b4, 0, none⟩) (by show _ ≤ b4; omega) (.bool false)
        have HXE := Lib.hid XE
        clear s3 s4 z3 z4 XE
        go_wp2
        refine marks_ret rfl (v := .tuple #[.slice none 0 0, .bool false]) (by simp [results, Try.results63, go_sem, z5, z6]) ?_
        rw [HNO.out]
        exact RetSB.nil (by rw [HF.out]; rfl) (by rw [HF.out]; rfl) HXE.out
      have g0' : (a % p != 0) = false := by simpa using g0
      have g0i : (a % p == 0) = true := by simpa using g0
      by_cases g9 : a / p ≤ 99
      case neg =>
        have g9' : (99 : Int) < a / p := by omega
        have HNO := Lib.hid (HBAD.out (by rw [HAT.out, if_neg (fun h => g9 h.2)]))
        have HF : Hid (amF N2 l m f = []) := by show _ = _; simp [amF, HNO.out]
        have s3 := HWd.out.s3
        have s4 := HWd.out.s4
        have c3 := s3.one'
        have c4 := s4.one'
        have f3 := s3.frozen 0
        have f4 := s4.frozen 0
        have z3 := s3.set 0 (.slice none 0 0)
        have hne : b3 ≠ b4 := by omega
        have z4 := s4.far (p := ⟨b3, 0, none⟩) (Ne.symm hne) (.slice none 0 0)
        have z5 := (z3.far (p := ⟨b4, 0, none⟩) hne (.bool false)).one'
        have z6 := (z4.set 0 (.bool false)).one'
        have XE := (HWd.out.ext.setCell (p := ⟨b3, 0, none⟩) (by show _ ≤ b3; omega) (.slice none 0 0)).setCell (p := ⟨b4, 0, none⟩) (by show _ ≤ b4; omega) (.bool false)
        have HXE := Lib.hid XE
        clear s3 s4 z3 z4 XE
        go_wp2
        refine marks_ret rfl (v := .tuple #[.slice none 0 0, .bool false]) (by simp [results, Try.results63, go_sem, z5, z6]) ?_
        rw [HNO.out]
        exact RetSB.nil (by rw [HF.out]; rfl) (by rw [HF.out]; rfl) HXE.out
      have g9' : ¬ (99 : Int) < a / p := by omega
      have HAV : Hid (amT N2 l m f k = a / p) := by show _ = _; rw [HAT.out, if_pos ⟨g0, g9⟩]
      have HSN := Lib.hid (amL_succ N2 l m f k)
      obtain ⟨g, c, sb, so, hgb⟩ := HWd.out.own
      have j6 := sb.one'
      clear HAT HBAD
      go_wp2
      refine wp_region_noPanic ?_
      refine region_held 4 (fun W' => W'.cell? ⟨b6, 0, none⟩ = some (.slice (some ⟨g, 0, none⟩) k c)) (by kernel_rfl) (by kernel_rfl) (by kernel_rfl) (by kernel_rfl) (by kernel_rfl) (by kernel_rfl) (fun _ _ _ _ _ h => (h : False).elim) j6 ?_
      simp only [List.take_succ_cons, List.take_zero, List.drop_succ_cons, List.drop_zero]
      iterate 4
        apply headG_step
        · rfl
        · intro w' hSw
          (try dsimp only at hSw)
          go_simp
          all_goals exact rfl
        simp only [Act.put, List.setIfInBounds_toArray, List.set_cons_zero, List.set_cons_succ]
      change TailG _ _ _ _ _ _
      have HWe : Hid (AmpW N2 l m f w w.heap.size b1 b2 b3 b4 b6 (.slice (some ⟨ga, oa, none⟩) n1 c1) (.slice (some ⟨gb, ob, none⟩) n2 c2) k wd.drew) := ⟨HWd.out.ext.drew, HWd.out.s0, HWd.out.s1, HWd.out.s2, HWd.out.s3, HWd.out.s4, HWd.out.own⟩
      have sb2 : St wd.drew b6 #[.slice (some ⟨g, 0, none⟩) k c] 38 := sb
      have so2 : wd.drew.ownsRow (b4 + 1) 3 1 (.slice (some ⟨g, 0, none⟩) k c) k (ints (amL N2 l m f k)) := so
      clear HWd sb so j6
      generalize wd.drew = we at *
      refine tail_cons fun K hK => ?_
      go_simp
      refine hK _ _ ((sb2.ext ((Ext.refl _).alloc _)).one') ?_
      clear hK K
      have hwe := sb2.lt
      refine tail_cons fun K hK => ?_
      refine wp_append1W (w := we) _ _ _ rfl (b4 + 1) 3 (.int .i64 0) 8 I.infoInt Try.underlying38 rfl _ k _ (by rfl) so2 (.int .i64 (a / p)) _ (by rfl) rfl rfl (by omega) (by omega) (by omega) ?_
      intro v' w3 ho3 hg3 hat3
      obtain ⟨g', c', rfl, _, _⟩ := ho3.form (by omega)
      rw [ints_snoc, ← HAV.out, ← HSN.out] at ho3
      have hgo : ∀ t, t ≠ g → t < we.heap.size → w3.heap[t]? = we.heap[t]? := fun t h1 h2 => hg3.block t h2 (fun e => h1 (Option.some.inj e))
      have hge := own_base so2 g rfl
      have u0 := HWe.out.s0.grown so2 hg3 (by omega)
      have u1 := HWe.out.s1.grown so2 hg3 (by omega)
      have u2 := HWe.out.s2.grown so2 hg3 (by omega)
      have u3 := HWe.out.s3.grown so2 hg3 (by omega)
      have u4 := HWe.out.s4.grown so2 hg3 (by omega)
      have u6 : St w3 b6 #[.slice (some ⟨g, 0, none⟩) k c] 38 := (hgo b6 (Ne.symm hgb) hwe).trans sb2
      have ue := HWe.out.ext.grownV so2 hg3 (by omega)
      have hgb' : g' ≠ b6 := by
        rcases hat3 g' rfl with e | e
        · intro h
          have e2 : g = g' := Option.some.inj e
          omega
        · omega
      refine hK _ _ u6.one' ?_
      clear hK K
      have j6 := u6.one'
      have f6 := u6.frozen 0
      have HU := Lib.hid (And.intro u0 (And.intro u1 (And.intro u2 (And.intro u3 (And.intro u4 (And.intro u6 (And.intro ue ho3)))))))
      clear u0 u1 u2 u3 u4 u6 ue ho3 hg3 hat3 so2 sb2 HWe hgo
      refine tail_last fun K hK => ?_
      go_simp
      refine hK _ _ ?_
      clear hK K j6 f6
      obtain ⟨u0, u1, u2, u3, u4, u6, ue, ho3⟩ := HU.out
      have y0 := u0.far (p := ⟨b6, 0, none⟩) (by show _ ≠ b6; omega) (.slice (some ⟨g', 0, none⟩) (k + 1) c')
      have y1 := u1.far (p := ⟨b6, 0, none⟩) (by show _ ≠ b6; omega) (.slice (some ⟨g', 0, none⟩) (k + 1) c')
      have y2 := u2.far (p := ⟨b6, 0, none⟩) (by show _ ≠ b6; omega) (.slice (some ⟨g', 0, none⟩) (k + 1) c')
      have y3 := u3.far (p := ⟨b6, 0, none⟩) (by show _ ≠ b6; omega) (.slice (some ⟨g', 0, none⟩) (k + 1) c')
      have y4 := u4.far (p := ⟨b6, 0, none⟩) (by show _ ≠ b6; omega) (.slice (some ⟨g', 0, none⟩) (k + 1) c')
      have y6 := u6.set 0 (.slice (some ⟨g', 0, none⟩) (k + 1) c')
      have ye := ue.setCell (p := ⟨b6, 0, none⟩) (by show _ ≤ b6; omega) (.slice (some ⟨g', 0, none⟩) (k + 1) c')
      have yo := own_far ho3 (p := ⟨b6, 0, none⟩) (fun g2 h => by
        have e2 : g' = g2 := Option.some.inj h
        show g2 ≠ b6
        omega) (.slice (some ⟨g', 0, none⟩) (k + 1) c')
      have HFN : Hid (AmpW N2 l m f w w.heap.size b1 b2 b3 b4 b6 (.slice (some ⟨ga, oa, none⟩) n1 c1) (.slice (some ⟨gb, ob, none⟩) n2 c2) (k + 1) (w3.setCell ⟨b6, 0, none⟩ (.slice (some ⟨g', 0, none⟩) (k + 1) c'))) := ⟨ye, y0, y1, y2, y3, y4, g', c', y6, yo, hgb'⟩
      clear u0 u1 u2 u3 u4 u6 ue ho3 y0 y1 y2 y3 y4 y6 ye yo HU
      refine NoPanic.normal ?_
      go_wp2
      go_roundw
      case rel => exact ⟨k + 1, by omega, by omega, by go_num, HFN.out⟩
      case measure => simp [intOf]; omega
    · have e : k = N2 := by omega
      have hd : decide (k < N2) = false := by simpa using hlt
      rw [e] at HW ⊢
      clear e hlt hk hd
      have hd : decide (N2 < N2) = false := by simp
      obtain ⟨g, c, sb, so, hgb⟩ := HW.own
      obtain ⟨cur, hcur, htk⟩ : ∃ cur, St wr g cur 3 ∧ cur.toList.take N2 = ints (amL N2 l m f N2) := by
        rcases so.2 with ⟨e, _⟩ | ⟨g', cap, cur, e, _, hh, _, _, _, ht⟩
        · cases e
        · simp only [Value.slice.injEq, Option.some.injEq, Addr.mk.injEq, and_true, true_and] at e
          obtain ⟨rfl, rfl⟩ := e
          exact ⟨cur, hh, by rw [← ht, Nat.mul_one]⟩
      have hct : ∀ t, t < N2 → cur[t]? = some (.int .i64 (amT N2 l m f t)) := fun t ht => by
        have h1 : (cur.toList.take N2)[t]? = some (.int .i64 (amT N2 l m f t)) := by rw [htk]; exact ints_at' (amL_at ht)
        rw [List.getElem?_take, if_pos ht] at h1
        simpa using h1
      have HCT := Lib.hid hct
      have hgl := own_base so g rfl
      have HNC : Hid (N2 ≤ c) := by
        obtain ⟨A', c', e', s'⟩ := Sl.of_own so
        cases e'
        exact s'.1
      clear hct htk
      go_wp2_with fail
      refine (bases_any _ _).mono ?_
      rintro e w' ⟨rfl, rfl⟩
      have sB := St.new wr #[.int .i64 (N2 : Int)] 3
      have x4 : Ext wr (wr.alloc (.cells #[.int .i64 (N2 : Int)] 3)) := (Ext.refl _).alloc _
      obtain ⟨ue, u0, u1, u2, u3, u4, _⟩ := HW
      have hszr := ue.size
      have hb6 := sb.lt
      have hI0 : AmpR N2 l m f w w.heap.size b1 b2 b3 b4 b6 (.slice (some ⟨ga, oa, none⟩) n1 c1) (.slice (some ⟨gb, ob, none⟩) n2 c2) g c cur wr.heap.size [] (wr.alloc (.cells #[.int .i64 (N2 : Int)] 3)) :=
        ⟨⟨ue.trans x4, u0.ext x4⟩, ⟨u1.ext x4, u2.ext x4⟩, ⟨u3.ext x4, u4.ext x4⟩, ⟨sb.ext x4, hcur.ext x4⟩, sB, fun p hp => by simp [vals] at hp⟩
      have hlt := sB.lt
      have hcB := sB.one'
      have hsz5 := (ue.trans x4).size
      clear ue u0 u1 u2 u3 u4 sb so hcur sB x4 j0
      go_wp2_with fail
      generalize (wr.alloc (.cells #[.int .i64 (N2 : Int)] 3)) = w5 at *
      refine (wpIn_wide (n := 10)).1 ?_
      refine' wpIn_rangeFunc_ownF rfl (by omega) (gf := 71) (lb := #[.pointer (some ⟨wr.heap.size, 0, none⟩)]) rfl trivial (enters_of Try.func71 (by kernel_rfl) rfl)
        (bases1_stops N2 g1 (by omega) _ (by omega) wr.heap.size _ hcB hlt) kpB_t (kpB_b hlt) (Below.refl _ _) (fun _ => rfl)
        (AmpR N2 l m f w w.heap.size b1 b2 b3 b4 b6 (.slice (some ⟨ga, oa, none⟩) n1 c1) (.slice (some ⟨gb, ob, none⟩) n2 c2) g c cur wr.heap.size) (AmpX N2 l m f w b3 b4)
        (ampR_own _ _ _ _ _ _ _ _ _ _ _ _ _ _ _ _ _ _ hsz5) (fun c => ampX_own _ _ _ _ _ _ _ _ hsz5 c) hI0 _ ?assign ?body ?done ?stop
      case assign =>
        intro l x W K hK
        dsimp only [bEnc]
        gi_wp2
        exact hK
      case body =>
        rintro l0 pre ⟨⟨i, j⟩, hij0, hjN0⟩ W ⟨⟨e1, t0⟩, ⟨t1, t2⟩, ⟨t3, t4⟩, ⟨t6, tg⟩, tB, hpre⟩ _
        have hij : i < j := hij0
        have hjN : j < N2 := hjN0
        have hq := bIx_lt N2 (by omega) i (by omega) j hjN hij
        have hqA : bAt N2 i j = bIx N2 i j := if_neg (by omega)
        have hiN : i < N2 := by omega
        have HBA : Hid (∀ W, Calls Try.prog 43 #[.int .i64 (N2 : Int), .int .i64 (i : Int), .int .i64 (j : Int)] W fun e w' => e = .returned (.int .i64 ((bIx N2 i j : Nat) : Int)) ∧ W = w') := fun W => by
          have := baseAt_any N2 i j W (by omega) hiN hjN (by omega)
          rw [hqA] at this
          exact this
        have HSS : Hid (∀ W', Ext W W' → W'.cell? ⟨b1, 0, none⟩ = some (.slice (some ⟨ga, oa, none⟩) n1 c1) ∧ W'.cell? ⟨b2, 0, none⟩ = some (.slice (some ⟨gb, ob, none⟩) n2 c2) ∧ W'.cell? ⟨b6, 0, none⟩ = some (.slice (some ⟨g, 0, none⟩) N2 c) ∧ W'.cell? ⟨ga, oa + bIx N2 i j * 2, none⟩ = some (.int .i64 (vAm l (bIx N2 i j))) ∧ W'.cell? ⟨gb, ob + bIx N2 i j * 2, none⟩ = some (.int .i64 (vAm m (bIx N2 i j))) ∧ W'.cell? ⟨g, i, none⟩ = some (.int .i64 (amT N2 l m f i)) ∧ W'.cell? ⟨g, j, none⟩ = some (.int .i64 (amT N2 l m f j))) := fun W' x =>
          ⟨(t1.ext x).one', (t2.ext x).one', (t6.ext x).one', (HR1.out.ext (e1.trans x)).fst (some_v (l := l) (k := bIx N2 i j) (by rw [HL.out]; exact hq)), (HR2.out.ext (e1.trans x)).fst (some_v (l := m) (k := bIx N2 i j) (by rw [HM.out]; exact hq)), ((tg.ext x).cell i).trans (HCT.out i hiN), ((tg.ext x).cell j).trans (HCT.out j hjN)⟩
        have HYES : Hid (vAm l (bIx N2 i j) = vAm m (bIx N2 i j) * amT N2 l m f i * amT N2 l m f j → ∀ p ∈ vals (pre ++ [⟨(i, j), hij0, hjN0⟩]), amG N2 l m f p = true) := fun h p hp => by
          rw [vals_snoc, List.mem_append, List.mem_singleton] at hp
          rcases hp with hp | hp
          · exact hpre p hp
          · subst hp
            simpa [amG] using h
        have HNO : Hid (vAm l (bIx N2 i j) ≠ vAm m (bIx N2 i j) * amT N2 l m f i * amT N2 l m f j → amOk N2 l m f = false) := fun h => amOk_no (by omega) hij hjN h
        have q1 := rgB_at HRL.out (k := bIx N2 i j) (by rw [HL.out]; exact hq)
        have q2 := rgB_at HRM.out (k := bIx N2 i j) (by rw [HM.out]; exact hq)
        have a1 := amT_range (N := N2) (l := l) (m := m) i hf1 hf2 (rg_nonneg HRL.out) (rg_nonneg HRM.out)
        have a2 := amT_range (N := N2) (l := l) (m := m) j hf1 hf2 (rg_nonneg HRL.out) (rg_nonneg HRM.out)
        have hq1 : bIx N2 i j < n1 := by rw [HN1.out]; exact hq
        have hq2 : bIx N2 i j < n2 := by rw [HN2.out]; exact hq
        have HT : Hid (Ext w W ∧ St W w.heap.size #[.int .i64 (N2 : Int)] 3 ∧ (St W b1 #[.slice (some ⟨ga, oa, none⟩) n1 c1] 23 ∧ St W b2 #[.slice (some ⟨gb, ob, none⟩) n2 c2] 23) ∧ (St W b3 #[.slice none 0 0] 38 ∧ St W b4 #[.bool false] 4) ∧ (St W b6 #[.slice (some ⟨g, 0, none⟩) N2 c] 38 ∧ St W g cur 3) ∧ St W wr.heap.size #[.int .i64 (N2 : Int)] 3) := ⟨e1, t0, ⟨t1, t2⟩, ⟨t3, t4⟩, ⟨t6, tg⟩, tB⟩
        have j0 := t0.one'
        clear e1 t0 t1 t2 t3 t4 t6 tg tB hpre hq hqA
        generalize bIx N2 i j = q at *
        generalize amT N2 l m f i = t1 at *
        generalize amT N2 l m f j = t2 at *
        generalize vAm l q = a at *
        generalize vAm m q = mm at *
        obtain ⟨m1, m2⟩ := mul_in2 (show 0 ≤ mm by omega) q2.2.1 a1.1 a1.2
        obtain ⟨m3, m4⟩ := mul_in2 m1 m2 a2.1 a2.2
        have hq1i : (q : Int) < (n1 : Int) := by omega
        have hq2i : (q : Int) < (n2 : Int) := by omega
        have hini : (i : Int) < (N2 : Int) := by omega
        have hjni : (j : Int) < (N2 : Int) := by omega
        have f1 : IntKind.i64.wrap (mm * t1) = mm * t1 := IntWalk.i64_in _ (by omega)
        have f2 : IntKind.i64.wrap (mm * t1 * t2) = mm * t1 * t2 := IntWalk.i64_in _ (by omega)
        gi_wp2_with (refine ⟨trivial, ?_⟩; gi_at_call 43; refine (CallsIn.inRound l0 (callsIn_wide.2 (HBA.out _))).mono ?_; rintro e w' ⟨rfl, rfl⟩)
        refine round_reads (fun W' => W'.cell? ⟨b1, 0, none⟩ = some (.slice (some ⟨ga, oa, none⟩) n1 c1) ∧ W'.cell? ⟨b2, 0, none⟩ = some (.slice (some ⟨gb, ob, none⟩) n2 c2) ∧ W'.cell? ⟨b6, 0, none⟩ = some (.slice (some ⟨g, 0, none⟩) N2 c) ∧ W'.cell? ⟨ga, oa + q * 2, none⟩ = some (.int .i64 a) ∧ W'.cell? ⟨gb, ob + q * 2, none⟩ = some (.int .i64 mm) ∧ W'.cell? ⟨g, i, none⟩ = some (.int .i64 t1) ∧ W'.cell? ⟨g, j, none⟩ = some (.int .i64 t2)) (by kernel_rfl) (by kernel_rfl) (by kernel_rfl) (by kernel_rfl) (by kernel_rfl) (by rintro ⟨a, w, h⟩; exact h) (fun _ _ _ _ _ h => h) (HSS.out _ (Ext.drew (Ext.refl _))) ?_
        iterate 21
          apply headG_step
          · rfl
          · intro w' hSw
            (try dsimp only at hSw)
            go_simp
            all_goals exact rfl
          simp only [Act.put, List.setIfInBounds_toArray, List.set_cons_zero, List.set_cons_succ]
        have HT2 : Hid (Ext w W.drew ∧ St W.drew w.heap.size #[.int .i64 (N2 : Int)] 3 ∧ (St W.drew b1 #[.slice (some ⟨ga, oa, none⟩) n1 c1] 23 ∧ St W.drew b2 #[.slice (some ⟨gb, ob, none⟩) n2 c2] 23) ∧ (St W.drew b3 #[.slice none 0 0] 38 ∧ St W.drew b4 #[.bool false] 4) ∧ (St W.drew b6 #[.slice (some ⟨g, 0, none⟩) N2 c] 38 ∧ St W.drew g cur 3) ∧ St W.drew wr.heap.size #[.int .i64 (N2 : Int)] 3) := ⟨HT.out.1.drew, HT.out.2⟩
        have HKO : Hid (KeepsOthers W W.drew ∧ W.drew.heap = W.heap) := ⟨KeepsOthers.drew W, rfl⟩
        clear HT HSS HBA f1 f2 j0
        generalize W.drew = W2 at *
        refine headG_done ?_
        by_cases hcmp : a = mm * t1 * t2
        · have hb : (a != mm * t1 * t2) = false := by simpa using hcmp
          have HY := Lib.hid (HYES.out hcmp)
          clear hcmp
          gi_wp2
          obtain ⟨e1, t0, tt, ts, tv, tB⟩ := HT2.out
          exact ⟨HKO.out.1, (by show W2.heap[_]? = _; rw [HKO.out.2]), ⟨e1, t0⟩, tt, ts, tv, tB, HY.out⟩
        · have hb : (a != mm * t1 * t2) = true := by simpa using hcmp
          have HN := Lib.hid (HNO.out hcmp)
          clear hcmp
          obtain ⟨e1, t0, tt, ts, tv, tB⟩ := HT2.out
          have c3 := ts.1.one'
          have c4 := ts.2.one'
          have f3 := ts.1.frozen 0
          have f4 := ts.2.frozen 0
          have hne : b3 ≠ b4 := by omega
          have z3 := (ts.1.set 0 (.slice none 0 0)).far (p := ⟨b4, 0, none⟩) hne (.bool false)
          have z4 := (ts.2.far (p := ⟨b3, 0, none⟩) (Ne.symm hne) (.slice none 0 0)).set 0 (.bool false)
          have ze := (e1.setCell (p := ⟨b3, 0, none⟩) (by show _ ≤ b3; omega) (.slice none 0 0)).setCell (p := ⟨b4, 0, none⟩) (by show _ ≤ b4; omega) (.bool false)
          have HZ := Lib.hid (And.intro ze (And.intro z3 z4))
          clear e1 t0 tt ts tv tB z3 z4 ze HT2
          gi_wp2
          exact ⟨HKO.out.1.trans ((KeepsOthers.setCell _ _ _).trans (KeepsOthers.setCell _ _ _)), ⟨rfl, HN.out⟩, HZ.out⟩
      case done =>
        rintro D xs W hD rfl ⟨⟨e1, t0⟩, ⟨t1, t2⟩, ⟨t3, t4⟩, ⟨t6, tg⟩, tB, hpre⟩ hK
        rw [vals_all] at hpre
        have HOK : Hid (amOk N2 l m f = true) := List.all_eq_true.2 hpre
        have HF : Hid (amF N2 l m f = amL N2 l m f N2) := by show _ = _; simp [amF, HOK.out]
        have HD := Lib.hid hK
        have hct : cur.toList.take N2 = ints (amL N2 l m f N2) := by
          apply List.ext_getElem?
          intro t
          by_cases ht : t < N2
          · rw [List.getElem?_take, if_pos ht, ints_at' (amL_at ht)]
            have := HCT.out t ht
            simpa using this
          · rw [List.getElem?_eq_none (by rw [List.length_take]; omega), List.getElem?_eq_none (by rw [ints_length, amL_length]; omega)]
        have hnc : N2 ≤ c := HNC.out
        have hne : b3 ≠ b4 := by omega
        have j6 := t6.one'
        have c3 := t3.one'
        have c4 := t4.one'
        have f3 := t3.frozen 0
        have f4 := t4.frozen 0
        have z3 := (t3.set 0 (.slice (some ⟨g, 0, none⟩) N2 c)).far (p := ⟨b4, 0, none⟩) hne (.bool true)
        have z4 := (t4.far (p := ⟨b3, 0, none⟩) (Ne.symm hne) (.slice (some ⟨g, 0, none⟩) N2 c)).set 0 (.bool true)
        have zg := (tg.far (p := ⟨b3, 0, none⟩) (by show g ≠ b3; omega) (.slice (some ⟨g, 0, none⟩) N2 c)).far (p := ⟨b4, 0, none⟩) (by show g ≠ b4; omega) (.bool true)
        have ze := (e1.setCell (p := ⟨b3, 0, none⟩) (by show _ ≤ b3; omega) (.slice (some ⟨g, 0, none⟩) N2 c)).setCell (p := ⟨b4, 0, none⟩) (by show _ ≤ b4; omega) (.bool true)
        have hK2 : ((W.setCell ⟨b3, 0, none⟩ (.slice (some ⟨g, 0, none⟩) N2 c)).setCell ⟨b4, 0, none⟩ (.bool true)).heap[D]? = some (.deferred (some [])) := by
          have hD3 : D ≠ b3 := fun e => by subst e; have h : W.heap[D]? = some (.cells _ _ (0, 0)) := t3; rw [hK] at h; cases h
          have hD4 : D ≠ b4 := fun e => by subst e; have h : W.heap[D]? = some (.cells _ _ (0, 0)) := t4; rw [hK] at h; cases h
          exact (Below.heap_setCell _ ⟨b4, 0, none⟩ _ _ hD4).trans ((Below.heap_setCell _ ⟨b3, 0, none⟩ _ _ hD3).trans hK)
        have HZ := Lib.hid (And.intro ze (And.intro z3 (And.intro z4 (And.intro zg hK2))))
        have HCU := Lib.hid hct
        clear hK e1 t0 t1 t2 t3 t4 t6 tg tB hpre z3 z4 zg ze hK2 hct
        go_wp2
        generalize ((W.setCell ⟨b3, 0, none⟩ (.slice (some ⟨g, 0, none⟩) N2 c)).setCell ⟨b4, 0, none⟩ (.bool true)) = W9 at *
        obtain ⟨ze, z3, z4, zg, hK2⟩ := HZ.out
        have y3 := (z3.putObj (o := .deferred none) hK2).one'
        have y4 := (z4.putObj (o := .deferred none) hK2).one'
        refine marks_one (v := .tuple #[.slice (some ⟨g, 0, none⟩) N2 c, .bool true]) rfl hK2 (by simp [results, Try.results63, go_sem, y3, y4]) ?_
        rw [HOK.out, HF.out, amL_length]
        have ye := ze.putObj (D := D) (by omega) (.deferred none)
        have yg := zg.putObj (o := .deferred none) hK2
        exact ⟨some ⟨g, 0, none⟩, c, rfl, ⟨hnc, fun _ => ⟨g, 0, cur, rfl, by omega, yg.lt, yg, fun t u hu => by
          rw [← HCU.out, List.getElem?_take] at hu
          split at hu
          · simpa using hu
          · cases hu⟩⟩, ye⟩
      case stop =>
        rintro D c' pre W hD _ ⟨⟨rfl, hno⟩, e1, t3, t4⟩ hK
        have HNO := Lib.hid hno
        have HF : Hid (amF N2 l m f = []) := by show _ = _; simp [amF, HNO.out]
        have y3 := (t3.putObj (o := .deferred none) hK).one'
        have y4 := (t4.putObj (o := .deferred none) hK).one'
        have ye := e1.putObj (D := D) (by omega) (.deferred none)
        have HD := Lib.hid hK
        clear hK hno t3 t4 e1
        refine (wpIn_wide (n := 10)).2 ?_
        go_wp2
        refine marks_one (v := .tuple #[.slice none 0 0, .bool false]) rfl HD.out (by simp [results, Try.results63, go_sem, y3, y4]) ?_
        rw [HNO.out]
        exact RetSB.nil (by rw [HF.out]; rfl) (by rw [HF.out]; rfl) ye
end Go.Proofs.Ytpjglnmnfmibnab
