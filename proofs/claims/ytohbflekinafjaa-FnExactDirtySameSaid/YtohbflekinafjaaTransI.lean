/-
  The contract of the program's transform.
-/
import Derived.Test.YtohbflekinafjaaGridB
import Derived.Test.YtohbflekinafjaaTrPlain
import Derived.Test.YtohbflekinafjaaStruct
import Derived.Test.YtohbflekinafjaaSkyOps
import Derived.Deep.RegionWith
import Derived.Deep.DrawnRows
namespace Go.Proofs.Ytohbflekinafjaa
open Go.RowKit
attribute [local go_sem ↓] Go.wp_at_zero Go.wp_at_succ

theorem plus_ext (a b c d : Int) (w : World) (h11 : -1000000000000 ≤ a) (h12 : a ≤ 1000000000000) (h21 : -1000000000000 ≤ b) (h22 : b ≤ 1000000000000) (h31 : -1000000000000 ≤ c) (h32 : c ≤ 1000000000000) (h41 : -1000000000000 ≤ d) (h42 : d ≤ 1000000000000) :
    Calls Try.prog 60 #[.agg #[.int .i64 a, .int .i64 b], .agg #[.int .i64 c, .int .i64 d]] w fun e w' => e = .returned (.agg #[.int .i64 (a + c), .int .i64 (b + d)]) ∧ Ext w w' :=
  (plus_any a b c d w h11 h12 h21 h22 h31 h32 h41 h42).mono fun _ _ ⟨he, _, _, _, hw⟩ => ⟨he, hw ▸ (((Ext.refl w).alloc _).alloc _).alloc _⟩
theorem times_ext (a b k : Int) (w : World) (h11 : -1000000000000 ≤ a) (h12 : a ≤ 1000000000000) (h21 : -1000000000000 ≤ b) (h22 : b ≤ 1000000000000) :
    Calls Try.prog 61 #[.agg #[.int .i64 a, .int .i64 b], .agg #[.int .i64 (ur k), .int .i64 (ui k)]] w fun e w' => e = .returned (.agg #[.int .i64 (tre a b k), .int .i64 (tim a b k)]) ∧ Ext w w' :=
  (times_any a b k w h11 h12 h21 h22).mono fun _ _ ⟨he, _, _, _, hw⟩ => ⟨he, hw ▸ (((Ext.refl w).alloc _).alloc _).alloc _⟩
theorem gaussUnit_ext (k : Int) (w : World) :
    Calls Try.prog 62 #[.int .i64 k] w fun e w' => e = .returned (.agg #[.int .i64 (ur k), .int .i64 (ui k)]) ∧ Ext w w' :=
  (gaussUnit_any k w).mono fun _ _ ⟨he, _, hw⟩ => ⟨he, hw ▸ (Ext.refl w).alloc _⟩
/-- what is done when the cells before 'to' are whole and k terms of that cell are added -/
def trTo (g : List (Int × Int)) (sg : Int) (to k : Nat) : List (Int × Int) := (over (transL g sg) zeroG to).set to (pre g sg to k, pim g sg to k)
theorem trTo_length (g : List (Int × Int)) (sg : Int) (to k : Nat) : (trTo g sg to k).length = 16 := by
  unfold trTo
  rw [List.length_set, over_length (by rw [transL_length, zeroG_length]), zeroG_length]
theorem trTo_at {g : List (Int × Int)} {sg : Int} {to k : Nat} (h : to < 16) : (trTo g sg to k)[to]? = some (pre g sg to k, pim g sg to k) := by
  unfold trTo
  rw [List.getElem?_set_self (by rw [over_length (by rw [transL_length, zeroG_length]), zeroG_length]; exact h)]
theorem trTo_zero {g : List (Int × Int)} {sg : Int} {to : Nat} (h : to < 16) : trTo g sg to 0 = over (transL g sg) zeroG to := by
  unfold trTo
  apply List.ext_getElem?
  intro j
  by_cases hj : j = to
  · subst hj
    rw [List.getElem?_set_self (by rw [over_length (by rw [transL_length, zeroG_length]), zeroG_length]; exact h), over_at (by rw [transL_length, zeroG_length]) (Nat.le_refl _), zeroG_at h]
    rfl
  · rw [List.getElem?_set_ne (Ne.symm hj)]
theorem trTo_end {g : List (Int × Int)} {sg : Int} {to : Nat} (h : to < 16) : trTo g sg to 16 = over (transL g sg) zeroG (to + 1) := over_set (transL_at h) (by rw [transL_length, zeroG_length])
theorem trTo_succ (g : List (Int × Int)) (sg : Int) (to k : Nat) : (trTo g sg to k).set to (pre g sg to (k + 1), pim g sg to (k + 1)) = trTo g sg to (k + 1) := by
  unfold trTo
  rw [List.set_set]
theorem mul3' {u a : Int} (h1 : 0 ≤ u) (h2 : u ≤ 3) (h3 : 0 ≤ a) (h4 : a ≤ 3) : 0 ≤ u * a ∧ u * a ≤ 9 := by
  have := mul_le_of (a := u) (b := a) (M := 3) (K := 3) (by omega) h2 (by omega) h4
  exact ⟨Int.mul_nonneg h1 h3, by omega⟩
theorem ex_nat (to k : Nat) : ((to % 4 : Nat) : Int) * ((k % 4 : Nat) : Int) + ((to / 4 : Nat) : Int) * ((k / 4 : Nat) : Int) = ex to k := by unfold ex; simp
set_option maxRecDepth 100000 in
set_option maxHeartbeats 4000000 in
theorem transform_any (A : Option Addr) (c : Nat) (gs : List (Int × Int)) (sg : Int) (w : World) (hn : gs.length = 16) (hsg1 : -1 ≤ sg) (hsg2 : sg ≤ 1) (hg : GB 1600000 gs) (h : Rd w w.heap.size A 16 c (pairs gs)) :
    Calls Try.prog 41 #[.slice A 16 c, .int .i64 sg] w (RetS w 47 16 (pairs (transL gs sg))) := by
  have HN := Lib.hid hn
  have HP := Lib.hid (fun (to k : Nat) (hk : k ≤ 16) => psum_le hg sg to k (by rw [hn]; exact hk))
  obtain ⟨g, off, rfl⟩ := h.addr (by rw [pairs_length, hn]; omega)
  have hgl := h.blk (by rw [pairs_length, hn]; omega)
  have HG := Lib.hid hg
  have hmk := makeG16
  clear hn hg
  go_enter Try.func41, Try.ntmps41
  go_wp2_with fail
  clear hmk
  go_loopw [12] (fun i wr => ∃ to : Nat, to ≤ 16 ∧ i = .int .i64 to ∧ Sl wr w.heap.size (w.heap.size + 1) 47 (some ⟨w.heap.size, 0, none⟩) 16 16 (pairs (over (transL gs sg) zeroG to)) ∧ Ext w wr) (fun i _ => 16 - (intOf i).toNat)
  case atStart => exact ⟨0, Nat.zero_le _, rfl, by rw [over_zero]; exact Sl.made2 w 47 16, (Ext.refl w).alloc _⟩
  case round =>
    obtain ⟨to, hto, rfl, hs, he⟩ := hrel
    by_cases hlt : to < 16
    · have hdt : decide ((to : Int) < 16) = true := by simp; omega
      rw [← trTo_zero hlt] at hs
      obtain ⟨wo, rfl⟩ : ∃ wo : World, wo = wr := ⟨_, rfl⟩
      go_wp2_with fail
      go_loopw [17] (fun i wr => ∃ k : Nat, k ≤ 16 ∧ i = .int .i64 k ∧ Sl wr w.heap.size (w.heap.size + 1) 47 (some ⟨w.heap.size, 0, none⟩) 16 16 (pairs (trTo gs sg to k)) ∧ Ext w wr) (fun i _ => 16 - (intOf i).toNat)
      case atStart => exact ⟨0, Nat.zero_le _, rfl, hs, he⟩
      case round =>
        clear hs he
        obtain ⟨k, hk, rfl, hs, he⟩ := hrel
        by_cases hltk : k < 16
        · obtain ⟨⟨p, q⟩, hpq⟩ := at_of_lt (l := gs) (k := k) (by rw [HN.out]; exact hltk)
          obtain ⟨⟨b1, b2⟩, b3, b4⟩ := HG.out k p q hpq
          have g0 := (h.below he.below).fst hpq
          have g1 := (h.below he.below).snd hpq
          obtain ⟨⟨p1, p2⟩, p3, p4⟩ := HP.out to k hk
          have HS1 := Lib.hid (pre_succ hpq sg to)
          have HS2 := Lib.hid (pim_succ hpq sg to)
          obtain ⟨⟨t1, t2⟩, t3, t4⟩ := term_le (M := 1600000) (p := p) (q := q) (sg * ex to k) ⟨b1, b2⟩ ⟨b3, b4⟩
          obtain ⟨x1, x2⟩ := ex_le to k hlt hltk
          have hsz := he.size
          have hwl : w.heap.size < wr.heap.size := by obtain ⟨_, _, e, h1, h2, h3⟩ := hs.addr (by rw [pairs_length, trTo_length]; omega); simp at e; omega
          have xa : Ext wr (wr.alloc (.cells #[.int .i64 p, .int .i64 q] 47)) := (Ext.refl wr).alloc _
          have sa := St.new wr #[.int .i64 p, .int .i64 q] 47
          have so := hs.ext xa
          have E1 := he.trans xa
          clear hpq
          go_wp2_with fail
          clear g0 g1
          generalize wr.alloc (.cells #[.int .i64 p, .int .i64 q] 47) = wa at *
          have SA := Lib.hid sa
          have SO := Lib.hid so
          have a0 := sa.cell0
          have a1 := sa.cell1
          have o0 := so.fst (trTo_at hlt)
          have o1 := so.snd (trTo_at hlt)
          simp only [Nat.zero_add] at o0 o1
          clear sa so hs
          obtain ⟨m1, m2⟩ := mul3' (u := ((to % 4 : Nat) : Int)) (a := ((k % 4 : Nat) : Int)) (by omega) (by omega) (by omega) (by omega)
          obtain ⟨m3, m4⟩ := mul3' (u := ((to / 4 : Nat) : Int)) (a := ((k / 4 : Nat) : Int)) (by omega) (by omega) (by omega) (by omega)
          have f1 : ((to : Nat) : Int).tmod 4 = ((to % 4 : Nat) : Int) := by rw [tmod_nn (by omega)]; omega
          have f2 : ((k : Nat) : Int).tmod 4 = ((k % 4 : Nat) : Int) := by rw [tmod_nn (by omega)]; omega
          have f3 : IntKind.i64.wrap (((to : Nat) : Int) / 4) = ((to / 4 : Nat) : Int) := by rw [IntWalk.i64_in _ (by omega)]; omega
          have f4 : IntKind.i64.wrap (((k : Nat) : Int) / 4) = ((k / 4 : Nat) : Int) := by rw [IntWalk.i64_in _ (by omega)]; omega
          have e0 := ex_nat to k
          obtain ⟨u1, hu1⟩ : ∃ u : Nat, u = to % 4 := ⟨_, rfl⟩
          obtain ⟨u2, hu2⟩ : ∃ u : Nat, u = to / 4 := ⟨_, rfl⟩
          obtain ⟨u3, hu3⟩ : ∃ u : Nat, u = k % 4 := ⟨_, rfl⟩
          obtain ⟨u4, hu4⟩ : ∃ u : Nat, u = k / 4 := ⟨_, rfl⟩
          rw [← hu1] at f1 e0 m1 m2
          rw [← hu2] at f3 e0 m3 m4
          rw [← hu3] at f2 e0 m1 m2
          rw [← hu4] at f4 e0 m3 m4
          clear hu1 hu2 hu3 hu4
          have f5 : IntKind.i64.wrap ((u1 : Int) * (u3 : Int)) = (u1 : Int) * (u3 : Int) := IntWalk.i64_in _ (by omega)
          have f6 : IntKind.i64.wrap ((u2 : Int) * (u4 : Int)) = (u2 : Int) * (u4 : Int) := IntWalk.i64_in _ (by omega)
          have f7 : IntKind.i64.wrap ((u1 : Int) * (u3 : Int) + (u2 : Int) * (u4 : Int)) = ex to k := by rw [IntWalk.i64_in _ (by omega)]; exact e0
          have hs8 := mul_le_of (a := sg) (b := ex to k) (M := 1) (K := 18) (by omega) (by omega) (by omega) (by omega)
          have f8 : IntKind.i64.wrap (sg * ex to k) = sg * ex to k := IntWalk.i64_in _ (by omega)
          have h2 : (to : Int) < 16 := by omega
          have h3 : (0 : Int) ≤ (to : Int) := by omega
          clear e0 m1 m2 m3 m4 hs8
          go_region_with
            (first
              | (go_at_call 62; refine (gaussUnit_ext _ _).mono ?_; rintro e w3 ⟨rfl, y3⟩; have E3 : Ext wa w3 := Ext.trans (by repeat (first | (with_reducible exact Ext.refl _) | (with_reducible assumption) | (with_reducible refine Ext.drew ?_) | (with_reducible refine Ext.alloc ?_ _))) y3; have s3 := SO.out.ext E3; have o30 := s3.fst (trTo_at hlt); have o31 := s3.snd (trTo_at hlt); simp only [Nat.zero_add] at o30 o31; clear s3; have a30 := (SA.out.ext E3).cell0; have a31 := (SA.out.ext E3).cell1)
              | (go_at_call 61; refine (times_ext p q (sg * ex to k) _ (by omega) (by omega) (by omega) (by omega)).mono ?_; rintro e w4 ⟨rfl, y4⟩; have E4 : Ext wa w4 := Ext.trans (by repeat (first | (with_reducible exact Ext.refl _) | (with_reducible assumption) | (with_reducible refine Ext.drew ?_) | (with_reducible refine Ext.alloc ?_ _))) y4; have s4 := SO.out.ext E4; have o40 := s4.fst (trTo_at hlt); have o41 := s4.snd (trTo_at hlt); simp only [Nat.zero_add] at o40 o41; clear s4)
              | (go_at_call 60; refine (plus_ext (pre gs sg to k) (pim gs sg to k) (tre p q (sg * ex to k)) (tim p q (sg * ex to k)) _ (by omega) (by omega) (by omega) (by omega) (by omega) (by omega) (by omega) (by omega)).mono ?_; rintro e w5 ⟨rfl, y5⟩; have E5 : Ext wa w5 := Ext.trans (by repeat (first | (with_reducible exact Ext.refl _) | (with_reducible assumption) | (with_reducible refine Ext.drew ?_) | (with_reducible refine Ext.alloc ?_ _))) y5; have s5 := SO.out.ext E5; have o50 := s5.fst (trTo_at hlt); have o51 := s5.snd (trTo_at hlt); have o52 := s5.frozen (by rw [pairs_length, trTo_length]; omega) (0 + to * 2); have o53 := s5.frozen (by rw [pairs_length, trTo_length]; omega) (0 + to * 2 + 1); simp only [Nat.zero_add] at o50 o51 o52 o53; have T5 := Lib.hid s5; clear s5))
          all_goals
            have R := T5.out.set2 to (pre gs sg to k + tre p q (sg * ex to k)) (pim gs sg to k + tim p q (sg * ex to k))
            rw [← HS1.out, ← HS2.out, trTo_succ, HS1.out, HS2.out] at R
            simp only [Nat.zero_add] at R
            have RR := Lib.hid R
            have xx := ((E1.trans E5).setCell (p := ⟨w.heap.size, to * 2, none⟩) (Nat.le_refl _) (.int .i64 (pre gs sg to k + tre p q (sg * ex to k)))).setCell (p := ⟨w.heap.size, to * 2 + 1, none⟩) (Nat.le_refl _) (.int .i64 (pim gs sg to k + tim p q (sg * ex to k)))
            clear R f1 f2 f3 f4 f5 f6 f7 f8 a0 a1 o0 o1 o50 o51 o52 o53
            go_wp2_with fail
            go_roundw
            case rel => first | exact ⟨k + 1, by omega, by go_num, RR.out, xx⟩ | exact ⟨k + 1, by omega, by go_num, RR.out, xx.drew⟩
            case measure => simp [intOf]; omega
        · obtain rfl : k = 16 := by omega
          rw [trTo_end hlt] at hs
          go_wp2_with fail
          go_roundw
          case rel => exact ⟨to + 1, by omega, by go_num, hs, he⟩
          case measure => simp [intOf]; omega
    · obtain rfl : to = 16 := by omega
      rw [over_end (n := 16) (transL_length _ _) zeroG_length] at hs
      go_wp2_with fail
      go_ret
      exact RetS.mk' rfl rfl hs (Nat.le_refl _) he
end Go.Proofs.Ytohbflekinafjaa
