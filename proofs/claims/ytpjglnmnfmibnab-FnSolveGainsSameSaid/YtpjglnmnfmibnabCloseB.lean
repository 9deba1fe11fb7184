/-
  Contract of the closing phase of the program.
-/
import Derived.Test.YtpjglnmnfmibnabClose
namespace Go.Proofs.Ytpjglnmnfmibnab
open Go.RowKit
set_option linter.unusedSimpArgs false
set_option linter.unusedVariables false

def nAt (ks : List Nat) (j : Nat) : Nat := ks[j]?.getD 0
theorem some_nAt {ks : List Nat} {j : Nat} (h : j < ks.length) : ks[j]? = some (nAt ks j) := by simp [nAt, h]
theorem qs_at {ks : List Nat} {j : Nat} (h : j < ks.length) : (qs ks)[j]? = some ((nAt ks j : Nat) : Int) := by
  simp [qs, some_nAt h]
/-- the phases of the first k sides of a loop -/
def lpS (N : Nat) (l : VL) (ks : List Nat) : Nat → Int
  | 0 => 0
  | k + 1 => lpS N l ks k + vgP N l (nAt ks k) (nAt ks ((k + 1) % ks.length))
theorem lpS_range {N : Nat} {l : VL} {ks : List Nat} {q : Nat} (hN : N < 8) (hl : l.length = nb N) (hr : rgB 1000000 l = true) (hq : ks.length = q) (hlt : ∀ j, j < q → nAt ks j < N) (hne : ∀ j, j < q → nAt ks j ≠ nAt ks ((j + 1) % q)) :
    ∀ k, k ≤ q → 0 ≤ lpS N l ks k ∧ lpS N l ks k ≤ 360 * k
  | 0, _ => by simp [lpS]
  | k + 1, hk => by
    have h1 := lpS_range hN hl hr hq hlt hne k (by omega)
    have h2 := vgP_range hN hl hr (hlt k (by omega)) (hlt ((k + 1) % q) (Nat.mod_lt _ (by omega))) (hne k (by omega))
    simp only [lpS, hq]
    omega
set_option maxHeartbeats 4000000 in
theorem loopPhase_any (N : Nat) (A B : Option Addr) (m c q d : Nat) (l : VL) (ks : List Nat) (w : World) (hN : N < 8) (hn : l.length = nb N) (hm : m = nb N) (hr : rgB 1000000 l = true) (hq : ks.length = q) (hq1 : 2 ≤ q) (hq2 : q ≤ 8)
    (hlt : ∀ j, j < q → nAt ks j < N) (hne : ∀ j, j < q → nAt ks j ≠ nAt ks ((j + 1) % q)) (r : Rd w w.heap.size A m c (pairs l)) (r2 : Rd w w.heap.size B q d (ints (qs ks))) :
    Calls Try.prog 57 #[.int .i64 (N : Int), .slice A m c, .slice B q d] w fun e w' => e = .returned (.int .i64 (lpS N l ks q % 360)) ∧ Ext w w' := by
  have HL := Lib.hid hn
  have HM := Lib.hid hm
  have HR := Lib.hid hr
  have HQ := Lib.hid hq
  have HLT := Lib.hid hlt
  have HNE := Lib.hid hne
  have HA := Lib.hid r
  have HB := Lib.hid r2
  have HS := Lib.hid (lpS_range hN hn hr hq hlt hne)
  obtain ⟨g, off, rfl⟩ := r2.addr (by rw [ints_length, qs_length]; omega)
  clear hn hm hr hq hlt hne r r2
  have hfl := fieldV'
  go_enter Try.func57, Try.ntmps57
  go_wp2
  go_loopw [7, 12] (fun s i wr => ∃ k : Nat, k ≤ q ∧ i = .int .i64 k ∧ s = .int .i64 (lpS N l ks k) ∧ Ext w wr) (fun _ i _ => q - (intOf i).toNat)
  case atStart => exact ⟨0, Nat.zero_le _, rfl, rfl, Ext.refl _⟩
  case round =>
    obtain ⟨k, hk, rfl, rfl, he⟩ := hrel
    by_cases hlt : k < q
    · have h2 : (k : Int) < (q : Int) := by omega
      have h3 : (0 : Int) ≤ (k : Int) := by omega
      have c0 := (HB.out.ext he).cell (ints_at' (qs_at (ks := ks) (j := k) (by rw [HQ.out]; exact hlt)))
      have hb1 := HS.out k hk
      have hb2 := HS.out (k + 1) (by omega)
      have hv := HNE.out k hlt
      have hv2 := HLT.out k hlt
      rcases Nat.lt_or_ge (k + 1) q with h4 | h4
      · have e1 : (k + 1) % q = k + 1 := Nat.mod_eq_of_lt h4
        rw [e1] at hv
        have c1 := (HB.out.ext he).cell (ints_at' (qs_at (ks := ks) (j := k + 1) (by rw [HQ.out]; exact h4)))
        have hv3 := HLT.out (k + 1) h4
        have f2 : ((k : Int) + 1).tmod (q : Int) = ((k + 1 : Nat) : Int) := by rw [Int.tmod_eq_of_lt (by omega) (by omega)]; rfl
        have f3 : ((k + 1 : Nat) : Int).toNat = k + 1 := by omega
        have hvg := vgP_range hN HL.out HR.out hv2 hv3 hv
        have HE : Hid (lpS N l ks (k + 1) = lpS N l ks k + vgP N l (nAt ks k) (nAt ks (k + 1))) := by show _ = _; simp only [lpS, HQ.out, e1]
        have h5 : ((k + 1 : Nat) : Int) < (q : Int) := by omega
        have h6 : (0 : Int) ≤ ((k + 1 : Nat) : Int) := by omega
        clear e1
        go_wp2_with (go_at_call 42; refine (visGet_any N A m c l (nAt ks k) (nAt ks (k + 1)) _ hN hv2 hv3 hv HL.out HM.out HR.out (HA.out.ext he)).mono ?_; rintro e w3 ⟨rfl, x3⟩; have E3 := Ext.trans he x3)
        go_roundw
        case rel => exact ⟨k + 1, by omega, by go_num, by rw [HE.out], E3⟩
        case measure => simp [intOf]; omega
      · have e0 : k + 1 = q := by omega
        have e1 : (k + 1) % q = 0 := by rw [e0]; exact Nat.mod_self q
        rw [e1] at hv
        have c1 := (HB.out.ext he).cell (ints_at' (qs_at (ks := ks) (j := 0) (by rw [HQ.out]; omega)))
        rw [Nat.add_zero] at c1
        have hv3 := HLT.out 0 (by omega)
        have f2 : ((k : Int) + 1).tmod (q : Int) = 0 := by
          rw [show (k : Int) + 1 = (q : Int) by omega]; exact Int.tmod_self
        have hvg := vgP_range hN HL.out HR.out hv2 hv3 hv
        have HE : Hid (lpS N l ks (k + 1) = lpS N l ks k + vgP N l (nAt ks k) (nAt ks 0)) := by show _ = _; simp only [lpS, HQ.out, e1]
        have h5 : (0 : Int) < (q : Int) := by omega
        have E0 := Lib.hid e0
        clear e1 e0
        go_wp2_with (go_at_call 42; refine (visGet_any N A m c l (nAt ks k) (nAt ks 0) _ hN hv2 hv3 hv HL.out HM.out HR.out (HA.out.ext he)).mono ?_; rintro e w3 ⟨rfl, x3⟩; have E3 := Ext.trans he x3)
        go_roundw
        case rel => exact ⟨k + 1, by omega, by go_num, by rw [HE.out], E3⟩
        case measure => simp [intOf]; omega
    · have e : k = q := by omega
      have hd : decide (k < q) = false := by simpa using hlt
      go_wp2_with (go_at_call 11; refine (phaseOf_any _ _).mono ?_; rintro e w' ⟨rfl, rfl⟩)
      go_ret
      exact ⟨rfl, he⟩
/-- what ClosePhase returns -/
def CPh (N : Int) (l : VL) (a b c : Nat) (w : World) (e : Ending) (w' : World) : Prop :=
  ∃ (v : Int) (ok : Bool), e = .returned (.tuple #[.int .i64 v, .bool ok]) ∧ (ok = true ↔ (visB N l = true ∧ antsTo N (qs [a, b, c]) 3)) ∧ (ok = false → v = 0) ∧
    (ok = true → v = (vgP N.toNat l a b + vgP N.toNat l b c + vgP N.toNat l c a) % 360) ∧ Ext w w'
theorem good3 {N a b c : Nat} (h : antsTo (N : Int) (qs [a, b, c]) 3) : a < N ∧ b < N ∧ c < N ∧ a ≠ b ∧ b ≠ c ∧ c ≠ a := by
  have h0 := h 0 (by omega) _ (show (qs [a, b, c])[0]? = some (a : Int) from rfl)
  have h1 := h 1 (by omega) _ (show (qs [a, b, c])[1]? = some (b : Int) from rfl)
  have h2 := h 2 (by omega) _ (show (qs [a, b, c])[2]? = some (c : Int) from rfl)
  simp [qs] at h0 h1 h2
  omega
set_option maxHeartbeats 4000000 in
theorem closePhase_any (N : Int) (A : Option Addr) (m cc : Nat) (l : VL) (a b c : Nat) (w : World) (hn : l.length = m) (hz : m ≤ 1048576) (r : Rd w w.heap.size A m cc (pairs l)) :
    Calls Try.prog 26 #[.int .i64 N, .slice A m cc, .int .i64 (a : Int), .int .i64 (b : Int), .int .i64 (c : Int)] w (CPh N l a b c w) := by
  have HV := Lib.hid (visValid_any N A m cc l w hn (by omega) r)
  have HL := Lib.hid hn
  have HR := Lib.hid r
  clear hn r
  rcases hv : visB N l with _ | _
  · rw [hv] at HV
    have HV1 := Lib.hid hv
    clear hv
    go_enter Try.func26, Try.ntmps26
    go_wp2_with fail
    refine HV.out.mono ?_
    rintro e w1 ⟨rfl, x1⟩
    go_wp2
    go_ret2
    exact ⟨_, _, rfl, by simp [HV1.out], fun _ => rfl, fun h => (by cases h), x1⟩
  · rw [hv] at HV
    obtain ⟨N', rfl, g1, g2, g3, g4⟩ := visB_parts hv
    have HV1 := Lib.hid hv
    have HR4 := Lib.hid g4
    have HG3 := Lib.hid g3
    clear hv g3 g4
    go_enter Try.func26, Try.ntmps26
    go_wp2_with fail
    refine HV.out.mono ?_
    rintro e w1 ⟨rfl, x1⟩
    have s1 : Sl (w1.alloc (.cells #[.int .i64 (a : Int), .int .i64 (b : Int), .int .i64 (c : Int)] 3)) w1.heap.size (w1.heap.size + 1) 3 (some ⟨w1.heap.size, 0, none⟩) 3 3 (ints (qs [a, b, c])) := Sl.new w1 3 _ 3 3 (Nat.le_refl _)
    have x2 : Ext w (w1.alloc (.cells #[.int .i64 (a : Int), .int .i64 (b : Int), .int .i64 (c : Int)] 3)) := x1.alloc _
    have HS1 := Lib.hid s1
    clear s1
    go_wp2_with fail
    refine (differentAnts_any (N' : Int) _ 3 3 (qs [a, b, c]) _ (by simp [qs]) (by omega) HS1.out.rd).mono ?_
    rintro e w2 ⟨rfl, ok, rfl, hok⟩
    have HOK := Lib.hid hok
    clear hok HS1
    cases ok
    · go_wp2
      go_ret2
      exact ⟨_, _, rfl, ⟨fun h => (by cases h), fun h => HOK.out.2 h.2⟩, fun _ => rfl, fun h => (by cases h), x2⟩
    · have hg := good3 (HOK.out.1 rfl)
      generalize w1.alloc (.cells #[.int .i64 (a : Int), .int .i64 (b : Int), .int .i64 (c : Int)] 3) = w3 at *
      have s3 : Sl (w3.alloc (.cells #[.int .i64 (a : Int), .int .i64 (b : Int), .int .i64 (c : Int)] 3)) w3.heap.size (w3.heap.size + 1) 3 (some ⟨w3.heap.size, 0, none⟩) 3 3 (ints (qs [a, b, c])) := Sl.new w3 3 _ 3 3 (Nat.le_refl _)
      have x3 : Ext w (w3.alloc (.cells #[.int .i64 (a : Int), .int .i64 (b : Int), .int .i64 (c : Int)] 3)) := x2.alloc _
      have HS3 := Lib.hid s3
      have hm : m = nb N' := by rw [← HL.out]; exact HG3.out
      have HM := Lib.hid hm
      have HGD := Lib.hid hg
      clear s3 hm hg
      go_wp2_with fail
      refine (loopPhase_any N' A _ m cc 3 3 l [a, b, c] _ (by omega) HG3.out HM.out HR4.out rfl (by omega) (by omega) ?_ ?_ (HR.out.ext x3) HS3.out.rd).mono ?_
      · intro j hj
        obtain ⟨h1, h2, h3, h4, h5, h6⟩ := HGD.out
        match j, hj with
        | 0, _ => exact h1
        | 1, _ => exact h2
        | 2, _ => exact h3
      · intro j hj
        obtain ⟨h1, h2, h3, h4, h5, h6⟩ := HGD.out
        match j, hj with
        | 0, _ => exact h4
        | 1, _ => exact h5
        | 2, _ => exact h6
      rintro e w4 ⟨rfl, x4⟩
      go_wp2
      go_ret2
      exact ⟨_, _, rfl, ⟨fun _ => ⟨HV1.out, HOK.out.1 (by simp)⟩, fun _ => rfl⟩, fun h => (by cases h), fun _ => (by simp [lpS, nAt]), x3.trans x4⟩
end Go.Proofs.Ytpjglnmnfmibnab
