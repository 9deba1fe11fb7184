/-
  Draw of the law on solving with bad baselines.
-/
import Derived.Test.YtpjglnmnfmibnabDrawX
import Derived.Test.YtpjglnmnfmibnabDrawR
import Derived.Test.YtpjglnmnfmibnabFlagS
namespace Go.Proofs.Ytpjglnmnfmibnab
open Go.RowKit
set_option linter.unusedVariables false

/-- drawn flags -/
def DrewF (w : World) (B r p q : Nat) (e : Ending) (w' : World) : Prop :=
  ∃ (A : Option Addr) (n c : Nat) (fl : List Bool) (p' : Nat), e = .returned (.slice A n c) ∧ fl.length = n ∧ 1 ≤ n ∧ n ≤ 22 ∧ Sl w' w.heap.size w'.heap.size 4 A n c (bools fl) ∧ Rdr w' B r p' ∧ p' ≤ p + q ∧ Chg r (r + 1) w w'
/-- two drawn lists, flags, and how many antennas -/
def Some2F (w : World) (e : Ending) (w' : World) : Prop :=
  ∃ (N : Nat) (A : Option Addr) (n c : Nat) (l : VL) (A2 : Option Addr) (n2 c2 : Nat) (l2 : VL) (A3 : Option Addr) (n3 c3 : Nat) (fl : List Bool), e = .returned (.tuple #[.int .i64 (N : Int), .slice A n c, .slice A2 n2 c2, .slice A3 n3 c3]) ∧ 2 ≤ N ∧ N ≤ 6 ∧
    l.length = n ∧ n ≤ 22 ∧ l2.length = n2 ∧ n2 ≤ 22 ∧ fl.length = n3 ∧ n3 ≤ 22 ∧ Sl w' w.heap.size w'.heap.size 30 A n c (pairs l) ∧ Sl w' w.heap.size w'.heap.size 30 A2 n2 c2 (pairs l2) ∧ Sl w' w.heap.size w'.heap.size 4 A3 n3 c3 (bools fl) ∧ Ext w w'
set_option maxHeartbeats 1000000 in
theorem l92Flags_any (N : Nat) (B r p : Nat) (w : World) (h1 : 2 ≤ N) (h2 : N ≤ 6) (hp : p ≤ 6000) (hB : B ≤ w.heap.size) (h : Rdr w B r p) :
    Calls Try.prog 36 #[.pointer (some ⟨r, 0, none⟩), .int .i64 (N : Int)] w (DrewF w B r p 40) := by
  have hrl := h.lt
  have HBM := Lib.hid (fun (W : World) => specBaseMany_any (N : Int) W)
  rw [nbI_nat h1 (by omega)] at HBM
  have hnb := nb_le N (by omega)
  have hnp := nb_pos N (by omega) h1
  generalize nb N = M at *
  go_enter Try.func36, Try.ntmps36
  go_wp2_with fail
  refine (pick_any B r p 4 _ (by omega) (by omega) (by omega) (h.ext ((Ext.refl _).alloc _))).mono ?_
  rintro e w1 ⟨v1, rfl, hv1, R1, C1⟩
  have C0 : Chg r (r + 1) w w1 := Chg.trans (Ext.chg ((Ext.refl w).alloc _)) C1
  have o00 : (w.alloc (.cells #[] 4)).ownsRow w.heap.size 4 1 (.slice (some ⟨w.heap.size, 0, none⟩) 0 0) 0 (bools []) := World.ownsRow_lit w #[] 0 (Nat.le_refl _) (by simp [maxLen]) rfl
  have o0 := own_chg o00 C1 (fun g hg => by have := own_base o00 g hg; omega)
  have f0 : IntKind.i64.wrap (2 + (v1 : Int)) = 2 + (v1 : Int) := IntWalk.i64_in _ (by omega)
  go_wp2_with fail
  have zw1 := C0.size
  clear o00 C1 h
  go_loopw [5, 7] (fun v i wr => ∃ (k p2 : Nat) (fl : List Bool), k ≤ M ∧ i = .int .i64 k ∧ Hid (fl.length = k) ∧ wr.ownsRow w.heap.size 4 1 v k (bools fl) ∧ Rdr wr B r p2 ∧ p2 ≤ p + 1 + k ∧ Chg r (r + 1) w wr) (fun _ i _ => M - (intOf i).toNat)
  case atStart => exact ⟨0, p + 1, [], Nat.zero_le _, rfl, rfl, o0, R1, by omega, C0⟩
  case round =>
    clear o0 R1 C0
    obtain ⟨k, p2, fl, hk, rfl, hfl, hs, hR, hp2, hC⟩ := hrel
    have zr := hC.size
    by_cases hlt : k < M
    · have hkn : (k : Int) < (M : Int) := by omega
      go_wp2_with (go_at_call 38; refine (HBM.out _).mono ?_; rintro e w' ⟨rfl, rfl⟩)
      refine (pick_any B r p2 (2 + (v1 : Int)) _ (by omega) (by omega) (by omega) hR).mono ?_
      rintro e w5 ⟨v5, rfl, hv5, R5, C5⟩
      have z5 := C5.size
      have hs5 := own_chg hs C5 (fun g hg => by have := own_base hs g hg; omega)
      have C6 := hC.trans C5
      go_wp2_with (at_builtin; (refine wpList_append1C (w := w5) rfl _ _ _ rfl w.heap.size 4 (.bool false) 1 _root_.Go.Proofs.Ytpjglnmnfmibnab.B.infoBool Try.underlying35 rfl _ k _ (by rfl) hs5 (.bool ((v5 : Int) == 0)) _ (by rfl) rfl rfl (by omega) (by omega) (by omega) ?_; intro v' w' hs' C'))
      go_roundw
      case rel => exact ⟨k + 1, p2 + 1, fl ++ [((v5 : Int) == 0)], by omega, by go_num, (by show _ = _; simp [hfl.out]), by rw [← bools_append]; exact hs', R5.chg C' (by omega) (by omega), by omega, C6.moreG C' (Nat.le_refl _)⟩
      case measure => simp [intOf]; omega
    · have e : k = M := by omega
      have hd : decide (k < M) = false := by simpa using hlt
      have HKM := Lib.hid (hfl.out.trans e)
      rw [e] at hs
      go_wp2_with (go_at_call 38; refine (HBM.out _).mono ?_; rintro e w' ⟨rfl, rfl⟩)
      refine (pick_any B r p2 24 _ (by omega) (by omega) (by omega) hR).mono ?_
      rintro e w5 ⟨v5, rfl, hv5, R5, C5⟩
      have z5 := C5.size
      have hs5 := own_chg hs C5 (fun g hg => by have := own_base hs g hg; omega)
      have C6 := hC.trans C5
      by_cases k0 : v5 = 0
      · subst k0
        go_wp2_with (at_builtin; refine wpList_append1C (w := w5) rfl _ _ _ rfl w.heap.size 4 (.bool false) 1 _root_.Go.Proofs.Ytpjglnmnfmibnab.B.infoBool Try.underlying35 rfl _ M _ (by rfl) hs5 (.bool false) _ (by rfl) rfl rfl (by omega) (by omega) (by omega) ?_; intro v' w' hs' C')
        obtain ⟨A5, c5, hv5, s5⟩ := Sl.of_own hs'
        subst hv5
        have R6 := R5.chg C' (by omega) (by omega)
        have C7 := C6.moreG C' (Nat.le_refl _)
        clear hs'
        go_wp2
        go_ret
        exact ⟨A5, _, c5, fl ++ [false], _, rfl, by rw [List.length_append, HKM.out]; rfl, by omega, by omega, by rw [← bools_append]; exact s5, R6, by omega, C7⟩
      · have k0' : ((v5 : Int) == 0) = false := by simp; omega
        obtain ⟨A5, c5, hv5, s5⟩ := Sl.of_own hs5
        subst hv5
        clear hs hs5
        go_wp2
        go_ret
        exact ⟨A5, _, c5, fl, _, rfl, HKM.out, by omega, by omega, s5, R5, by omega, C6⟩
end Go.Proofs.Ytpjglnmnfmibnab
