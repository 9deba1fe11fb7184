/-
  Contracts of the closures of the reference: gcd, different antennas, closing phase, closing amplitude.
-/
import Derived.Test.YtpjglnmnfmibnabCloseA
import Derived.Test.YtpjglnmnfmibnabVisS
import Derived.Deep.RegionHeld3
namespace Go.Proofs.Ytpjglnmnfmibnab
open Go.RowKit
set_option linter.unusedSimpArgs false
set_option linter.unusedVariables false

set_option maxHeartbeats 1000000 in
theorem l13Gcd_any (a b : Nat) (w : World) (ha : a ≤ 4611686018427387904) (hb : b ≤ 4611686018427387904) :
    Calls Try.prog 80 #[.int .i64 (a : Int), .int .i64 (b : Int)] w fun e w' => e = .returned (.int .i64 ((Nat.gcd a b : Nat) : Int)) ∧ w = w' := by
  go_enter Try.func80, Try.ntmps80
  go_wp2
  go_loopw [0, 1] (fun x y wr => ∃ (c d : Nat), x = .int .i64 (c : Int) ∧ y = .int .i64 (d : Int) ∧ Hid (Nat.gcd c d = Nat.gcd a b) ∧ c ≤ 4611686018427387904 ∧ d ≤ 4611686018427387904 ∧ wr = w) (fun _ y _ => (intOf y).toNat)
  case atStart => exact ⟨a, b, rfl, rfl, rfl, ha, hb, rfl⟩
  case round =>
    obtain ⟨c, d, rfl, rfl, hg, hc, hd, rfl⟩ := hrel
    by_cases h0 : d = 0
    · subst h0
      have hG : Hid ((c : Int) = ((Nat.gcd a b : Nat) : Int)) := by show _ = _; rw [← hg.out, Nat.gcd_zero_right]
      go_wp2
      go_ret
      exact ⟨ret_int hG.out, rfl⟩
    · have hd0 : ((d : Int) != 0) = true := by simpa using h0
      have hdz : ((d : Int) == 0) = false := by simpa using h0
      have hlt := Nat.mod_lt c (show 0 < d by omega)
      have hG : Hid (Nat.gcd d (c % d) = Nat.gcd a b) := by show _ = _; rw [← hg.out, Nat.gcd_comm c d, Nat.gcd_rec d c, Nat.gcd_comm]
      have hdi : ¬ (d : Int) = 0 := by omega
      go_wp2
      go_roundw
      case rel => exact ⟨d, c % d, rfl, by first | rfl | simp, hG.out, hd, by omega, trivial⟩
      case measure => show ((c : Int) % (d : Int)).toNat < ((d : Int)).toNat; omega
set_option maxHeartbeats 2000000 in
theorem l13Apart_any (N : Int) (A : Option Addr) (n c : Nat) (xs : List Int) (w : World) (hN1 : 0 ≤ N) (hN2 : N ≤ 1000) (hn : xs.length = n) (hz : n ≤ 1048576) (r : Rd w w.heap.size A n c (ints xs)) :
    Calls Try.prog 79 #[.int .i64 N, .slice A n c] w fun e w' => Quiet w w' ∧ ∃ b : Bool, e = .returned (.bool b) ∧ (b = true ↔ antsTo N xs n) := by
  have HN := Lib.hid hn
  have HR := Lib.hid r
  clear hn r
  go_enter Try.func79, Try.ntmps79
  go_wp2
  go_loopw [5] (fun i wr => ∃ k : Nat, k ≤ n ∧ i = .int .i64 k ∧ Hid (antsTo N xs k) ∧ Quiet w wr) (fun i _ => n - (intOf i).toNat)
  case atStart => exact ⟨0, Nat.zero_le _, rfl, (fun j hj => by omega : antsTo N xs 0), Quiet.refl _⟩
  case round =>
    obtain ⟨k, hk, rfl, hf, hq⟩ := hrel
    by_cases hlt : k < n
    · obtain ⟨g, off, rfl⟩ := HR.out.addr (by rw [ints_length, HN.out]; omega)
      obtain ⟨y, hy⟩ := at_of_lt (l := xs) (k := k) (by rw [HN.out]; exact hlt)
      have HY := Lib.hid hy
      have hc := (HR.out.ext hq.ext).cell (ints_at' hy)
      have h2 : (k : Int) < (n : Int) := by omega
      have h3 : (0 : Int) ≤ (k : Int) := by omega
      have f0 : IntKind.i64.wrap (N - 1) = N - 1 := IntWalk.i64_in _ (by omega)
      clear hy
      by_cases h1 : 0 ≤ y ∧ y < N
      · have d1 : (decide (0 ≤ y) && decide (y ≤ N - 1)) = true := by simp; omega
        have D1 := Lib.hid d1
        have H1 := Lib.hid h1
        clear d1
        go_wp2_with (go_at_call 59; refine (in_any _ _ _ _).mono ?_; rintro e w' ⟨rfl, rfl⟩; rw [D1.out])
        clear hc f0
        go_loopw [6] (fun i wr2 => ∃ t : Nat, t ≤ k ∧ i = .int .i64 t ∧ Hid (∀ j, j < t → xs[j]? ≠ some y) ∧ Quiet w wr2) (fun i _ => k - (intOf i).toNat)
        case atStart => exact ⟨0, Nat.zero_le _, rfl, fun j h => by omega, hq⟩
        case round =>
          clear hq
          obtain ⟨t, ht, rfl, hf2, hq⟩ := hrel
          by_cases hlt2 : t < k
          · obtain ⟨z, hz'⟩ := at_of_lt (l := xs) (k := t) (by rw [HN.out]; omega)
            have HZ := Lib.hid hz'
            have hc1 := (HR.out.ext hq.ext).cell (ints_at' HY.out)
            have hc2 := (HR.out.ext hq.ext).cell (ints_at' hz')
            have h4 : (t : Int) < (k : Int) := by omega
            have h5 : (0 : Int) ≤ (t : Int) := by omega
            have h6 : (t : Int) < (n : Int) := by omega
            clear hz'
            by_cases he : z = y
            · have hb : (z == y) = true := by simpa using he
              have HE := Lib.hid he
              clear he
              go_wp2
              go_quiet (fail)
              go_wp2
              go_ret
              exact ⟨hq.drewN _, _, rfl, by simp, fun h => absurd (List.mem_of_getElem? (show (xs.take k)[t]? = some y by rw [List.getElem?_take, if_pos hlt2, HZ.out, HE.out])) (h k hlt y HY.out).2⟩
            · have hb : (z == y) = false := by simpa using he
              have HS : Hid (∀ j, j < t + 1 → xs[j]? ≠ some y) := fun j hj => by
                by_cases e : j = t
                · subst e; rw [HZ.out]; intro h; exact he (Option.some.inj h)
                · exact hf2.out j (by omega)
              go_wp2
              go_quiet (fail)
              go_wp2
              go_roundw
              case rel => exact ⟨t + 1, by omega, by go_num, HS.out, hq.drewN _⟩
              case measure => simp [intOf]; omega
          · have e : t = k := by omega
            have hd : decide (t < k) = false := by simpa using hlt2
            have HS : Hid (antsTo N xs (k + 1)) := antsTo_succ hf.out HY.out H1.out fun h => by
              obtain ⟨j, hj⟩ := List.getElem?_of_mem h
              rw [List.getElem?_take] at hj
              split at hj
              · next hjk => exact hf2.out j (by omega) hj
              · cases hj
            go_wp2
            go_roundw
            case rel => exact ⟨k + 1, by omega, by go_num, HS.out, hq⟩
            case measure => simp [intOf]; omega
      · have d1 : (decide (0 ≤ y) && decide (y ≤ N - 1)) = false := by simp; omega
        have D1 := Lib.hid d1
        have H1 := Lib.hid h1
        clear d1 h1
        go_wp2_with (go_at_call 59; refine (in_any _ _ _ _).mono ?_; rintro e w' ⟨rfl, rfl⟩; rw [D1.out])
        go_ret
        exact ⟨hq, _, rfl, by simp, fun h => absurd (h k hlt y HY.out).1 H1.out⟩
    · have e : k = n := by omega
      have hd : decide (k < n) = false := by simpa using hlt
      go_wp2
      go_ret
      exact ⟨hq, _, rfl, fun _ => by rw [← e]; exact hf.out, fun _ => rfl⟩
set_option maxHeartbeats 4000000 in
theorem closeLoop_any (N : Nat) (A B : Option Addr) (m cc d : Nat) (l : VL) (a b c : Nat) (w : World) (hv : visB (N : Int) l = true) (hm : l.length = m) (ha : a < N) (hb : b < N) (hc : c < N) (r : Rd w w.heap.size A m cc (pairs l)) (r2 : Rd w w.heap.size B 3 d (ints (qs [a, b, c]))) :
    Calls Try.prog 78 #[.int .i64 (N : Int), .slice A m cc, .slice B 3 d] w fun e w' => e = .returned (.tuple #[.int .i64 (cph N l a b c), .bool (decide (dis3 a b c))]) ∧ Ext w w' := by
  obtain ⟨N', e, g1, g2, g3, g4⟩ := visB_parts hv
  obtain rfl : N' = N := by omega
  clear e
  have hN : N' < 8 := by omega
  have hnb := nb_le N' hN
  have hz : m ≤ 21 := by omega
  have HV := Lib.hid (specVisValid_any (N' : Int) A m cc l w hm (by omega) r)
  have HVB := Lib.hid hv
  have HL := Lib.hid g3
  have HM : Hid (m = nb N') := hm.symm.trans g3
  have HR := Lib.hid g4
  have HA := Lib.hid r
  have HB := Lib.hid r2
  have hd3 : antsTo (N' : Int) (qs [a, b, c]) 3 ↔ dis3 a b c := by
    constructor
    · intro h
      have := good3 h
      unfold dis3
      omega
    · intro d
      unfold dis3 at d
      intro t ht x hx
      match t, ht with
      | 0, _ => simp [qs] at hx ⊢; omega
      | 1, _ => simp [qs] at hx ⊢; omega
      | 2, _ => simp [qs] at hx ⊢; omega
  have HD := Lib.hid hd3
  obtain ⟨g, off, rfl⟩ := r2.addr (by rw [ints_length, qs_length]; simp)
  clear hv hm g3 g4 r r2 hd3 hnb
  have hfl := fieldV'
  go_enter Try.func78, Try.ntmps78
  go_wp2_with fail
  refine HV.out.mono ?_
  rintro e w1 ⟨rfl, q, rfl⟩
  rw [HVB.out]
  go_wp2_with (go_at_call 59; refine (in_any _ _ _ _).mono ?_; rintro e w' ⟨rfl, rfl⟩; rw [show (decide ((3 : Int) ≤ 3) && decide ((3 : Int) ≤ 7)) = true from rfl])
  refine (l13Apart_any (N' : Int) _ 3 d (qs [a, b, c]) _ (by omega) (by omega) (by simp [qs]) (by omega) (HB.out.ext ((Ext.refl w).drewN q))).mono ?_
  rintro e w2 ⟨hq, ok, rfl, hok⟩
  rw [HD.out] at hok
  have E2 : Ext w w2 := ((Ext.refl w).drewN q).trans hq.ext
  clear hq
  cases ok
  · have hnd : ¬ dis3 a b c := fun h => by have := hok.2 h; cases this
    have HT : Hid (cph N' l a b c = 0 ∧ decide (dis3 a b c) = false) := ⟨by unfold cph; rw [if_neg hnd], decide_eq_false hnd⟩
    clear hok hnd
    go_wp2
    go_ret2
    exact ⟨by rw [HT.out.1, HT.out.2]; rfl, E2⟩
  have hd := hok.1 rfl
  have HT : Hid (cph N' l a b c = (vgP N' l a b + vgP N' l b c + vgP N' l c a) % 360 ∧ decide (dis3 a b c) = true) := ⟨by unfold cph; rw [if_pos hd], decide_eq_true hd⟩
  obtain ⟨ks, hks⟩ : ∃ ks, ks = [a, b, c] := ⟨_, rfl⟩
  have hlt : ∀ j, j < 3 → nAt ks j < N' := by
    intro j hj
    rw [hks]
    match j, hj with
    | 0, _ => exact ha
    | 1, _ => exact hb
    | 2, _ => exact hc
  have hne : ∀ j, j < 3 → nAt ks j ≠ nAt ks ((j + 1) % 3) := by
    intro j hj
    rw [hks]
    obtain ⟨d1, d2, d3⟩ := hd
    match j, hj with
    | 0, _ => exact d1
    | 1, _ => exact d2
    | 2, _ => exact d3
  have hkl : ks.length = 3 := by rw [hks]; rfl
  have HFIN : Hid (lpS N' l ks 3 % 360 = (vgP N' l a b + vgP N' l b c + vgP N' l c a) % 360) := by show _ = _; rw [hks]; simp [lpS, nAt]
  have HS := Lib.hid (lpS_range hN HL.out HR.out hkl hlt hne)
  have HCE : Hid (∀ W, Ext w W → ∀ j, j < 3 → W.cell? ⟨g, off + j, none⟩ = some (.int .i64 ((nAt ks j : Nat) : Int))) := fun W x j hj => (HB.out.ext x).cell (ints_at' (by rw [← hks]; exact qs_at (by rw [hkl]; exact hj)))
  have HLT := Lib.hid hlt
  have HNE := Lib.hid hne
  have HKL := Lib.hid hkl
  clear hks hlt hne hkl hd hok
  go_wp2_with fail
  go_loopw [8, 9] (fun s i wr => ∃ k : Nat, k ≤ 3 ∧ i = .int .i64 k ∧ s = .int .i64 (lpS N' l ks k) ∧ Ext w wr) (fun _ i _ => 3 - (intOf i).toNat)
  case atStart => exact ⟨0, by omega, rfl, rfl, E2⟩
  case round =>
    obtain ⟨k, hk, rfl, rfl, he⟩ := hrel
    by_cases hlt : k < 3
    · have h2 : (k : Int) < 3 := by omega
      have h3 : (0 : Int) ≤ (k : Int) := by omega
      have hb1 := HS.out k hk
      have hb2 := HS.out (k + 1) (by omega)
      have hv := HNE.out k hlt
      have hv2 := HLT.out k hlt
      have HC0 : Hid (∀ W, Ext w W → W.cell? ⟨g, off + k, none⟩ = some (.int .i64 ((nAt ks k : Nat) : Int))) := fun W x => HCE.out W x k hlt
      have f1 : IntKind.i64.wrap ((k : Int) + 1) = (k : Int) + 1 := IntWalk.i64_in _ (by omega)
      rcases Nat.lt_or_ge (k + 1) 3 with h4 | h4
      · have e1 : (k + 1) % 3 = k + 1 := Nat.mod_eq_of_lt h4
        rw [e1] at hv
        have HC1 : Hid (∀ W, Ext w W → W.cell? ⟨g, off + (k + 1), none⟩ = some (.int .i64 ((nAt ks (k + 1) : Nat) : Int))) := fun W x => HCE.out W x (k + 1) h4
        have hv3 := HLT.out (k + 1) h4
        have f2 : ((k : Int) + 1).tmod 3 = ((k + 1 : Nat) : Int) := by rw [Int.tmod_eq_of_lt (by omega) (by omega)]; rfl
        have f3 : ((k + 1 : Nat) : Int).toNat = k + 1 := by omega
        have f2' : ((k : Int) + 1) % 3 = (k : Int) + 1 := by omega
        have h5' : (k : Int) + 1 < 3 := by omega
        have h6' : (0 : Int) ≤ (k : Int) + 1 := by omega
        have f3' : ((k : Int) + 1).toNat = k + 1 := by omega
        have hvg := vgP_range hN HL.out HR.out hv2 hv3 hv
        have HE : Hid (lpS N' l ks (k + 1) = lpS N' l ks k + vgP N' l (nAt ks k) (nAt ks (k + 1))) := by show _ = _; simp only [lpS, HKL.out, e1]
        have h5 : ((k + 1 : Nat) : Int) < 3 := by omega
        have h6 : (0 : Int) ≤ ((k + 1 : Nat) : Int) := by omega
        have f4 : IntKind.i64.wrap (lpS N' l ks k + vgP N' l (nAt ks k) (nAt ks (k + 1))) = lpS N' l ks k + vgP N' l (nAt ks k) (nAt ks (k + 1)) := IntWalk.i64_in _ (by omega)
        clear e1
        have HE2 := Lib.hid he
        clear he
        go_wp2_with fail
        go_region_held3 (fun w' => w'.cell? ⟨g, off + k, none⟩ = some (.int .i64 ((nAt ks k : Nat) : Int)) ∧ w'.cell? ⟨g, off + (k + 1), none⟩ = some (.int .i64 ((nAt ks (k + 1) : Nat) : Int))) (exact ⟨HC0.out _ (HE2.out.trans (by repeat (first | (with_reducible exact Ext.refl _) | (with_reducible assumption) | (with_reducible refine Ext.drew ?_) | (with_reducible refine Ext.alloc ?_ _)))), HC1.out _ (HE2.out.trans (by repeat (first | (with_reducible exact Ext.refl _) | (with_reducible assumption) | (with_reducible refine Ext.drew ?_) | (with_reducible refine Ext.alloc ?_ _))))⟩)
          (first | (go_at_call 67; refine (l11Get_any N' A m cc l (nAt ks k) (nAt ks (k + 1)) _ hN hv2 hv3 hv HL.out HM.out HR.out (HA.out.ext (HE2.out.trans (by repeat (first | (with_reducible exact Ext.refl _) | (with_reducible assumption) | (with_reducible refine Ext.drew ?_) | (with_reducible refine Ext.alloc ?_ _)))))).mono ?_; rintro e w3 ⟨rfl, x3⟩; have E3 : Ext wr w3 := Ext.trans (by repeat (first | (with_reducible exact Ext.refl _) | (with_reducible assumption) | (with_reducible refine Ext.drew ?_) | (with_reducible refine Ext.alloc ?_ _))) x3))
        all_goals go_wp2_with fail
        all_goals go_roundw
        all_goals first
          | exact ⟨k + 1, by omega, by go_num, by rw [HE.out], HE2.out.trans (by repeat (first | (with_reducible exact Ext.refl _) | (with_reducible assumption) | (with_reducible refine Ext.drew ?_) | (with_reducible refine Ext.alloc ?_ _)))⟩
          | (simp [intOf]; omega)
      · have e0 : k + 1 = 3 := by omega
        have e1 : (k + 1) % 3 = 0 := by rw [e0]
        rw [e1] at hv
        have HC1 : Hid (∀ W, Ext w W → W.cell? ⟨g, off, none⟩ = some (.int .i64 ((nAt ks 0 : Nat) : Int))) := fun W x => by have := HCE.out W x 0 (by omega); rwa [Nat.add_zero] at this
        have hv3 := HLT.out 0 (by omega)
        have f2 : ((k : Int) + 1).tmod 3 = 0 := by
          rw [show (k : Int) + 1 = 3 by omega]; exact Int.tmod_self
        have f2' : ((k : Int) + 1) % 3 = 0 := by omega
        have hvg := vgP_range hN HL.out HR.out hv2 hv3 hv
        have HE : Hid (lpS N' l ks (k + 1) = lpS N' l ks k + vgP N' l (nAt ks k) (nAt ks 0)) := by show _ = _; simp only [lpS, HKL.out, e1]
        have f4 : IntKind.i64.wrap (lpS N' l ks k + vgP N' l (nAt ks k) (nAt ks 0)) = lpS N' l ks k + vgP N' l (nAt ks k) (nAt ks 0) := IntWalk.i64_in _ (by omega)
        have E0 := Lib.hid e0
        clear e1 e0
        have HE2 := Lib.hid he
        clear he
        go_wp2_with fail
        go_region_held3 (fun w' => w'.cell? ⟨g, off + k, none⟩ = some (.int .i64 ((nAt ks k : Nat) : Int)) ∧ w'.cell? ⟨g, off, none⟩ = some (.int .i64 ((nAt ks 0 : Nat) : Int))) (exact ⟨HC0.out _ (HE2.out.trans (by repeat (first | (with_reducible exact Ext.refl _) | (with_reducible assumption) | (with_reducible refine Ext.drew ?_) | (with_reducible refine Ext.alloc ?_ _)))), HC1.out _ (HE2.out.trans (by repeat (first | (with_reducible exact Ext.refl _) | (with_reducible assumption) | (with_reducible refine Ext.drew ?_) | (with_reducible refine Ext.alloc ?_ _))))⟩)
          (first | (go_at_call 67; refine (l11Get_any N' A m cc l (nAt ks k) (nAt ks 0) _ hN hv2 hv3 hv HL.out HM.out HR.out (HA.out.ext (HE2.out.trans (by repeat (first | (with_reducible exact Ext.refl _) | (with_reducible assumption) | (with_reducible refine Ext.drew ?_) | (with_reducible refine Ext.alloc ?_ _)))))).mono ?_; rintro e w3 ⟨rfl, x3⟩; have E3 : Ext wr w3 := Ext.trans (by repeat (first | (with_reducible exact Ext.refl _) | (with_reducible assumption) | (with_reducible refine Ext.drew ?_) | (with_reducible refine Ext.alloc ?_ _))) x3))
        all_goals go_wp2_with fail
        all_goals go_roundw
        all_goals first
          | exact ⟨k + 1, by omega, by go_num, by rw [HE.out], HE2.out.trans (by repeat (first | (with_reducible exact Ext.refl _) | (with_reducible assumption) | (with_reducible refine Ext.drew ?_) | (with_reducible refine Ext.alloc ?_ _)))⟩
          | (simp [intOf]; omega)
    · have e : k = 3 := by omega
      rw [e]
      clear e hlt
      go_wp2_with (go_at_call 66; refine (specPhaseOf_any _ _).mono ?_; rintro e w' ⟨rfl, rfl⟩)
      go_ret2
      exact ⟨by rw [HT.out.1, HT.out.2, ← HFIN.out]; rfl, he⟩
end Go.Proofs.Ytpjglnmnfmibnab
