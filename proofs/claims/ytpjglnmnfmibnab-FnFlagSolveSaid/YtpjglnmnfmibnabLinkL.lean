/-
  Contract of FlagLoops of the program.
-/
import Derived.Test.YtpjglnmnfmibnabLinkI
import Derived.WalkSpells
namespace Go.Proofs.Ytpjglnmnfmibnab
open Go.RowKit Go.Shelf
set_option linter.unusedSimpArgs false
set_option linter.unusedVariables false

def offC (fl : List Bool) (k : Nat) : Nat := (fl.take k).countP fun b => !b
theorem offC_zero (fl : List Bool) : offC fl 0 = 0 := by simp [offC]
theorem offC_succ {fl : List Bool} {k : Nat} {b : Bool} (h : fl[k]? = some b) : offC fl (k + 1) = offC fl k + if b then 0 else 1 := by
  unfold offC
  rw [take_snoc_of h, List.countP_append]
  congr 1
  cases b <;> rfl
theorem offC_le (fl : List Bool) (k : Nat) : offC fl k ≤ fl.length := Nat.le_trans List.countP_le_length (by rw [List.length_take]; omega)
theorem offC_end (fl : List Bool) : offC fl fl.length = fl.countP fun b => !b := by unfold offC; rw [List.take_length]
def loopsI (N : Nat) (fl : List Bool) : Int := (fl.countP fun b => !b : Nat) + (grp (flF N fl (bp N)) N : Nat) - (N : Int)
theorem flagLoops_bad (N : Nat) (A3 : Option Addr) (n3 c3 : Nat) (w : World) (h1 : 2 ≤ N) (h2 : N ≤ 7) (hb : n3 ≠ nb N) :
    Calls Try.prog 22 #[.int .i64 (N : Int), .slice A3 n3 c3] w fun e w' => e = .returned (.int .i64 (-1)) ∧ Ext w w' := by
  have HC := Lib.hid (flagLinked_bad N A3 n3 c3 w h1 h2 hb)
  clear hb
  have hnil := fun (w : World) (a : Option Addr) (n c : Nat) => Lib.run_eql_slice_nil (P := Try.prog) w 38 3 a n c 0 0 Try.underlying38
  go_enter Try.func22, Try.ntmps22
  go_wp2_with fail
  refine HC.out.mono ?_
  rintro e w1 ⟨rfl, x1⟩
  go_wp2
  go_ret
  exact ⟨rfl, x1⟩
set_option maxHeartbeats 4000000 in
theorem flagLoops_any (N : Nat) (A3 : Option Addr) (n3 c3 : Nat) (fl : List Bool) (w : World) (h1 : 2 ≤ N) (h2 : N ≤ 7) (hf : fl.length = n3) (hb : n3 = nb N) (r3 : Rd w w.heap.size A3 n3 c3 (bools fl)) :
    Calls Try.prog 22 #[.int .i64 (N : Int), .slice A3 n3 c3] w fun e w' => e = .returned (.int .i64 (loopsI N fl)) ∧ Ext w w' := by
  have HC := Lib.hid (flagLinked_any N A3 n3 c3 fl w h1 h2 hf hb r3)
  have hnb := nb_le N (by omega)
  have hn21 : n3 ≤ 21 := by omega
  obtain ⟨gf, of, rfl⟩ := r3.addr (by rw [bools_length, hf, hb]; have := nb_pos N (by omega) h1; omega)
  have HF := Lib.hid hf
  have HFA : Hid (∀ v, v < N → (flL N fl (bp N))[v]? = some ((flF N fl (bp N) v : Nat) : Int)) := fun v h => flL_at h
  have HLL : Hid ((flL N fl (bp N)).length = N) := flL_length _ _ _
  have HLI : Hid (loopsI N fl = (fl.countP fun b => !b : Nat) + (grp (flF N fl (bp N)) N : Nat) - (N : Int)) := rfl
  have HOE := Lib.hid (offC_end fl)
  generalize flL N fl (bp N) = L at *
  generalize flF N fl (bp N) = f at *
  generalize loopsI N fl = R at *
  clear hf hb hnb
  have hnil := fun (w : World) (a : Option Addr) (n c : Nat) => Lib.run_eql_slice_nil (P := Try.prog) w 38 3 a n c 0 0 Try.underlying38
  go_enter Try.func22, Try.ntmps22
  go_wp2_with fail
  refine HC.out.mono ?_
  rintro e w1 ⟨A4, c4, rfl, s4, x1⟩
  obtain ⟨g4, o4, ea, _, _, _⟩ := s4.addr (by rw [ints_length, HLL.out]; omega)
  obtain rfl := ea
  clear HC
  have f0 : IntKind.i64.wrap (-(N : Int)) = -(N : Int) := IntWalk.i64_in _ (by omega)
  go_wp2_with fail
  go_loopw [6, 20] (fun s i wr => ∃ k : Nat, k ≤ N ∧ i = .int .i64 (k : Int) ∧ s = .int .i64 ((grp f k : Nat) - (N : Int)) ∧ Sl wr w.heap.size w1.heap.size 3 (some ⟨g4, o4, none⟩) N c4 (ints L) ∧ Ext w wr) (fun _ i _ => N - (intOf i).toNat)
  case atStart => exact ⟨0, Nat.zero_le _, rfl, by simp [grp, cntF], s4, x1⟩
  case round =>
    clear s4 x1
    obtain ⟨k, hk, rfl, rfl, s4, he⟩ := hrel
    by_cases hlt : k < N
    · have h3 : (k : Int) < (N : Int) := by omega
      have h4 : (0 : Int) ≤ (k : Int) := by omega
      have d1 := s4.cell (ints_at' (HFA.out k hlt))
      have hg : grp f (k + 1) = grp f k + if decide (f k = k) then 1 else 0 := rfl
      have hgl := cntF_le (fun v => decide (f v = v)) k
      have hgl2 : grp f k ≤ k := hgl
      have HG := Lib.hid hg
      clear hgl hg
      by_cases hfk : f k = k
      · rw [hfk] at d1
        have f1 : IntKind.i64.wrap ((grp f k : Nat) - (N : Int) + 1) = (grp f k : Nat) - (N : Int) + 1 := IntWalk.i64_in _ (by omega)
        have HG2 : Hid ((grp f (k + 1) : Nat) - (N : Int) = (grp f k : Nat) - (N : Int) + 1) := by
          have := HG.out
          rw [decide_eq_true hfk] at this
          simp only [if_true] at this
          show _ = _
          omega
        clear hfk
        generalize grp f k = gk at *
        go_wp2
        go_roundw
        case rel => exact ⟨k + 1, by omega, by go_num, by rw [HG2.out], s4, he⟩
        case measure => simp [intOf]; omega
      · have hfk2 : ((k : Int) == (f k : Int)) = false := by simp; omega
        have HG2 : Hid ((grp f (k + 1) : Nat) - (N : Int) = (grp f k : Nat) - (N : Int)) := by
          have := HG.out
          rw [decide_eq_false hfk] at this
          simp only [Bool.false_eq_true, if_false] at this
          show _ = _
          omega
        have hfk3 : ¬ (k : Int) = (f k : Int) := by omega
        clear hfk
        generalize grp f k = gk at *
        generalize f k = fk at *
        go_wp2
        go_roundw
        case rel => exact ⟨k + 1, by omega, by go_num, by rw [HG2.out], s4, he⟩
        case measure => simp [intOf]; omega
    · have e : k = N := by omega
      have hgl2 : grp f N ≤ N := cntF_le _ _
      rw [e]
      have hd : decide (N < N) = false := by simp
      have r4 := r3.ext he
      clear e hlt hk s4
      go_wp2_with fail
      go_loopw [6, 33] (fun s i wq => ∃ t : Nat, t ≤ n3 ∧ i = .int .i64 (t : Int) ∧ s = .int .i64 ((offC fl t : Nat) + (grp f N : Nat) - (N : Int)) ∧ Ext w wq) (fun _ i _ => n3 - (intOf i).toNat)
      case atStart => exact ⟨0, Nat.zero_le _, rfl, by simp [offC_zero], he⟩
      case round =>
        clear he r4
        obtain ⟨t, ht, rfl, rfl, he⟩ := hrel
        by_cases hlt : t < n3
        · have h3 : (t : Int) < (n3 : Int) := by omega
          have h4 : (0 : Int) ≤ (t : Int) := by omega
          have hft := some_bAt0 (l := fl) (k := t) (by rw [HF.out]; exact hlt)
          have d1 := (r3.ext he).cell (bools_at hft)
          have ho := offC_le fl t
          rw [HF.out] at ho
          have HO := Lib.hid (offC_succ hft)
          clear hft
          rcases hbt : bAt0 fl t with _ | _
          · rw [hbt] at d1 HO
            have f1 : IntKind.i64.wrap ((offC fl t : Nat) + (grp f N : Nat) - (N : Int) + 1) = (offC fl t : Nat) + (grp f N : Nat) - (N : Int) + 1 := IntWalk.i64_in _ (by omega)
            have HO2 : Hid (((offC fl (t + 1) : Nat) : Int) + (grp f N : Nat) - (N : Int) = (offC fl t : Nat) + (grp f N : Nat) - (N : Int) + 1) := by
              have := HO.out
              simp only [Bool.false_eq_true, if_false] at this
              show _ = _
              omega
            clear hbt
            generalize offC fl t = ot at *
            generalize grp f N = gn at *
            go_wp2
            go_roundw
            case rel => exact ⟨t + 1, by omega, by go_num, by rw [HO2.out], he⟩
            case measure => simp [intOf]; omega
          · rw [hbt] at d1 HO
            have HO2 : Hid (((offC fl (t + 1) : Nat) : Int) + (grp f N : Nat) - (N : Int) = (offC fl t : Nat) + (grp f N : Nat) - (N : Int)) := by
              have := HO.out
              simp only [if_true] at this
              show _ = _
              omega
            clear hbt
            generalize offC fl t = ot at *
            generalize grp f N = gn at *
            go_wp2
            go_roundw
            case rel => exact ⟨t + 1, by omega, by go_num, by rw [HO2.out], he⟩
            case measure => simp [intOf]; omega
        · have e : t = n3 := by omega
          have HR : Hid (((offC fl n3 : Nat) : Int) + (grp f N : Nat) - (N : Int) = R) := by
            have := HOE.out
            rw [HF.out] at this
            show _ = _
            rw [this, HLI.out]
          rw [e]
          have hd : decide (n3 < n3) = false := by simp
          clear e hlt ht
          go_wp2
          go_ret
          refine ⟨?_, he⟩
          rw [← HR.out]
          rfl
end Go.Proofs.Ytpjglnmnfmibnab
