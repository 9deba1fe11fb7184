/-
  The iterator over all baselines: its contract at any body; and what a caller's invariant on cells needs.
-/
import Derived.Test.YtebjdchfofhmhaaRound
import Derived.Test.YtebjdchfofhmhaaVisV
namespace Go.Proofs.Ytebjdchfofhmhaa
open Go.RowKit Go.Shelf
attribute [local go_sem] Oper.semAt_some
set_option linter.unusedSimpArgs false

/-- the baselines of N antennas, each with its proof -/
abbrev BL (N : Nat) := { p : Nat × Nat // p.1 < p.2 ∧ p.2 < N }
def bEnc {N : Nat} (p : BL N) : Array Value := #[.int .i64 (p.1.1 : Int), .int .i64 (p.1.2 : Int)]
def allS (N : Nat) (hN : N < 8) : List (BL N) := (bp N).attach.map fun p => ⟨p.1, bp_mem hN p.2⟩
def vals {N : Nat} (l : List (BL N)) : List (Nat × Nat) := l.map (·.1)
theorem vals_all (N : Nat) (hN : N < 8) : vals (allS N hN) = bp N := by
  simp only [vals, allS, List.map_map, Function.comp_def]
  exact List.attach_map_subtype_val _
theorem vals_snoc {N : Nat} (l : List (BL N)) (x : BL N) : vals (l ++ [x]) = vals l ++ [x.1] := by simp [vals]
theorem allS_at {N : Nat} (hN : N < 8) {i j : Nat} (h : i < j) (hj : j < N) : (allS N hN)[bIx N i j]? = some ⟨(i, j), h, hj⟩ := by
  have h1 : (vals (allS N hN))[bIx N i j]? = some (i, j) := by rw [vals_all]; exact bp_at N hN i (by omega) j hj h
  unfold vals at h1
  rw [List.getElem?_map] at h1
  cases e : (allS N hN)[bIx N i j]? with
  | none => rw [e] at h1; cases h1
  | some x =>
    rw [e] at h1
    simp only [Option.map_some, Option.some.injEq] at h1
    congr 1
    exact Subtype.ext h1
theorem allS_length (N : Nat) (hN : N < 8) : (allS N hN).length = nb N := by simp [allS, bp_length N hN]
theorem allS_take {N : Nat} (hN : N < 8) {i j : Nat} (h : i < j) (hj : j < N) : (allS N hN).take (bIx N i j + 1) = (allS N hN).take (bIx N i j) ++ [⟨(i, j), h, hj⟩] := take_snoc_of (allS_at hN h hj)
theorem allS_end (N : Nat) (hN : N < 8) : (allS N hN).take (row N N) = allS N hN := by rw [row_end N hN]; exact List.take_of_length_le (by rw [allS_length]; exact Nat.le_refl _)
/-- the variable of the iterator lies as it lay -/
def KpB (B : Nat) (W W' : World) : Prop := W'.heap[B]? = W.heap[B]?
theorem kpB_t {B : Nat} {X Y Z : World} (h : KpB B X Y) (k : KpB B Y Z) : KpB B X Z := Eq.trans k h
theorem kpB_b {B : Nat} {w : World} (hB : B < w.heap.size) (W : World) (l : Nat) (o o' : Obj) (hl : w.heap.size ≤ l) (_ : W.heap[l]? = some o) (_ : o.isCells = false) (_ : o.isWalk = false) : KpB B W (W.putObj l o') :=
  World.putObj_heap_other (by omega)
theorem kpB_ext {B : Nat} {W W' : World} (x : Ext W W') (h : B < W.heap.size) : KpB B W W' := x.block h
theorem bases_any (n : Int) (w : World) : Calls Try.prog 47 #[.int .i64 n] w fun e w' => e = .returned (.func (.func 70) #[] #[.pointer (some ⟨w.heap.size, 0, none⟩)]) ∧ w' = w.alloc (.cells #[.int .i64 n] 3) := by
  go_enter Try.func47, Try.ntmps47
  go_wp2
  go_ret
  exact ⟨rfl, rfl⟩
set_option maxHeartbeats 2000000 in
theorem bases1_stops (N : Nat) (h1 : 2 ≤ N) (h2 : N < 8) (n : Nat) (hn : 1 ≤ n) (B : Nat) (w : World) (hB : w.cell? ⟨B, 0, none⟩ = some (.int .i64 (N : Int))) (hBl : B < w.heap.size) :
    SeqStopsK Fence.wide n Try.prog 70 #[.pointer (some ⟨B, 0, none⟩)] bEnc (KpB B) (fun xs => xs = allS N h2) (fun _ => True) (nb N) w := fun l J Jx W hW hJ hJx hY h0 => by
  refine callsIn_of_wp Try.func70 rfl trivial ?_ rfl
  simp only [Try.ntmps70, List.size_toArray, List.length_cons, List.length_nil, Nat.reduceAdd, Nat.reduceSub, Array.replicate_succ, Array.replicate_zero, List.push_toArray, List.append_toArray, List.nil_append, List.cons_append]
  have hc : W.cell? ⟨B, 0, none⟩ = some (.int .i64 (N : Int)) := (hW.cell (p := ⟨B, 0, none⟩) hBl).trans hB
  have HM := Lib.hid (mn_nat h1 (by omega))
  gi_wp2
  gi_loopw [3] (fun i wr => ∃ k : Nat, k ≤ N ∧ i = .int .i64 k ∧ J ((allS N h2).take (row N k)) wr ∧ wr.heap[B]? = W.heap[B]?) (fun i _ => N - (intOf i).toNat)
  case atStart => exact ⟨0, Nat.zero_le _, rfl, by rw [row_zero]; exact h0, rfl⟩
  case round =>
    obtain ⟨k, hk, rfl, hj, hb⟩ := hrel
    have hcr : wr.cell? ⟨B, 0, none⟩ = some (.int .i64 (N : Int)) := (World.cell?_of_block (w := W) hb).trans hc
    by_cases hlt : k < N
    · gi_wp2_with (refine ⟨trivial, ?_⟩; gi_at_call 50; refine (callsIn_wide.2 (isMany_any _ _)).mono ?_; rintro e w' ⟨rfl, rfl⟩; rw [HM.out])
      gi_loopw [4] (fun j wr2 => ∃ m : Nat, k + 1 ≤ m ∧ m ≤ N ∧ j = .int .i64 m ∧ J ((allS N h2).take (bIx N k m)) wr2 ∧ wr2.heap[B]? = W.heap[B]?) (fun j _ => N - (intOf j).toNat)
      case atStart => exact ⟨k + 1, Nat.le_refl _, by omega, by go_num, by rw [bIx_first]; exact hj, hb⟩
      case round =>
        obtain ⟨m, hm1, hm2, rfl, hj2, hb2⟩ := hrel
        have hcr2 : wr.cell? ⟨B, 0, none⟩ = some (.int .i64 (N : Int)) := (World.cell?_of_block (w := W) hb2).trans hc
        by_cases hlt2 : m < N
        · obtain ⟨fn, tmps, assign, body, hy, hR⟩ := hY ((allS N h2).take (bIx N k m)) ⟨(k, m), by omega, hlt2⟩ wr hj2 (by rw [List.length_take, allS_length]; have := bIx_lt N h2 k hlt m hlt2 (by omega); omega)
          dsimp only [bEnc] at hy
          gi_wp2
          refine hR.mono ?_
          rintro e W3 (⟨rfl, hJ3, hk3⟩ | ⟨rfl, hJx3⟩)
          · rw [← allS_take h2 (by omega) hlt2] at hJ3
            gi_wp2
            go_roundw
            case rel => exact ⟨m + 1, by omega, by omega, by go_num, by rw [bIx_succ (by omega)]; exact hJ3, Eq.trans hk3 hb2⟩
            case measure => simp [intOf]; omega
          · gi_wp2
            refine bodyPost_ret (results_none rfl _ _ _) rfl ?_
            exact ⟨⟨_, rfl⟩, .inr ⟨_, trivial, hJx3⟩⟩
        · obtain rfl : m = N := by omega
          rw [bIx_last h2 hlt] at hj2
          gi_wp2
          go_roundw
          case rel => exact ⟨k + 1, by omega, by go_num, hj2, hb2⟩
          case measure => simp [intOf]; omega
    · have e : k = N := by omega
      rw [e, allS_end] at hj
      have hd : decide (k < N) = false := by simpa using hlt
      clear e
      gi_wp2
      refine ⟨trivial, ?_⟩
      gi_wp2
      go_end0
      exact ⟨⟨_, rfl⟩, .inl ⟨_, rfl, hj⟩⟩
end Go.Proofs.Ytebjdchfofhmhaa
