/-
  Contract of CloseSame of the program.
-/
import Derived.Test.YtpjglnmnfmibnabCloseA
namespace Go.Proofs.Ytpjglnmnfmibnab
open Go.RowKit
set_option linter.unusedSimpArgs false
set_option linter.unusedVariables false

theorem ants3 {N i j k : Nat} (hi : i < N) (hj : j < N) (hk : k < N) : antsTo (N : Int) (qs [i, j, k]) 3 ↔ dis3 i j k := by
  constructor
  · intro h
    have := good3 h
    unfold dis3
    omega
  · intro d
    unfold dis3 at d
    intro t ht x hx
    match t, ht with
    | 0, _ => simp [qs] at hx ⊢; omega
    | 1, _ => simp [qs] at hx ⊢; omega
    | 2, _ => simp [qs] at hx ⊢; omega
theorem closePhase_f (N : Nat) (A : Option Addr) (m cc : Nat) (l : VL) (a b c : Nat) (w : World) (hv : visB (N : Int) l = true) (hn : l.length = m) (hz : m ≤ 1048576) (ha : a < N) (hb : b < N) (hc : c < N) (r : Rd w w.heap.size A m cc (pairs l)) :
    Calls Try.prog 26 #[.int .i64 (N : Int), .slice A m cc, .int .i64 (a : Int), .int .i64 (b : Int), .int .i64 (c : Int)] w fun e w' => e = .returned (.tuple #[.int .i64 (cph N l a b c), .bool (decide (dis3 a b c))]) ∧ Ext w w' := by
  refine (closePhase_any (N : Int) A m cc l a b c w hn hz r).mono ?_
  rintro e w' ⟨v, ok, rfl, i1, i2, i3, x⟩
  rw [ants3 ha hb hc] at i1
  by_cases hd : dis3 a b c
  · obtain rfl : ok = true := i1.2 ⟨hv, hd⟩
    have := i3 rfl
    rw [Int.toNat_natCast] at this
    exact ⟨by rw [decide_eq_true hd, this]; unfold cph; rw [if_pos hd], x⟩
  · obtain rfl : ok = false := by
      cases ok
      · rfl
      · exact absurd (i1.1 rfl).2 hd
    exact ⟨by rw [decide_eq_false hd, i2 rfl]; unfold cph; rw [if_neg hd], x⟩
set_option maxHeartbeats 4000000 in
theorem sameAmps_any (N : Nat) (A B : Option Addr) (n1 c1 n2 c2 : Nat) (a b : VL) (i j k : Nat) (w : World) (hva : visB (N : Int) a = true) (hvb : visB (N : Int) b = true) (ha : a.length = n1) (hb : b.length = n2) (hi : i < N) (hj : j < N) (hk : k < N)
    (r1 : Rd w w.heap.size A n1 c1 (pairs a)) (r2 : Rd w w.heap.size B n2 c2 (pairs b)) :
    Calls Try.prog 27 #[.int .i64 (N : Int), .slice A n1 c1, .slice B n2 c2, .int .i64 (i : Int), .int .i64 (j : Int), .int .i64 (k : Int)] w fun e w' => (∃ ok : Bool, e = .returned (.bool ok) ∧ (ok = true ↔ sameA N a b i j k)) ∧ Ext w w' := by
  have HA := Lib.hid (fun (W : World) (x : Ext w W) (m : Nat) (hm : m < N) => closeAmp_any N A n1 c1 a i j k m W hva ha hi hj hk hm (r1.ext x))
  have HB := Lib.hid (fun (W : World) (x : Ext w W) (m : Nat) (hm : m < N) => closeAmp_any N B n2 c2 b i j k m W hvb hb hi hj hk hm (r2.ext x))
  have hN7 : N ≤ 7 := by
    obtain ⟨N', e, _, g2, _, _⟩ := visB_parts hva
    omega
  clear hva hvb ha hb r1 r2
  go_enter Try.func27, Try.ntmps27
  go_wp2
  go_loopw [21] (fun v wr => ∃ m : Nat, m ≤ N ∧ v = .int .i64 m ∧ Hid (∀ m', m' < m → same4 N a b i j k m') ∧ Ext w wr) (fun v _ => N - (intOf v).toNat)
  case atStart => exact ⟨0, Nat.zero_le _, rfl, fun m' h => by omega, Ext.refl _⟩
  case round =>
    obtain ⟨m, hm, rfl, hf, he⟩ := hrel
    by_cases hlt : m < N
    · have h2 : (m : Int) < (N : Int) := by omega
      go_wp2_with fail
      refine (HA.out _ he m hlt).mono ?_
      rintro e w3 ⟨rfl, x3⟩
      have e3 := he.trans x3
      go_wp2_with fail
      refine (HB.out _ e3 m hlt).mono ?_
      rintro e w4 ⟨rfl, x4⟩
      have e4 := e3.trans x4
      by_cases q1 : camT N a i j k m = camT N b i j k m
      · by_cases q2 : camB N a i j k m = camB N b i j k m
        · have HS : Hid (∀ m', m' < m + 1 → same4 N a b i j k m') := fun m' h => by
            by_cases e : m' = m
            · subst e; exact ⟨q1, q2⟩
            · exact hf.out m' (by omega)
          have b1 : (camT N a i j k m != camT N b i j k m) = false := by simpa using q1
          have b2 : (camB N a i j k m != camB N b i j k m) = false := by simpa using q2
          clear q1 q2
          generalize camT N a i j k m = u1 at *
          generalize camT N b i j k m = u2 at *
          generalize camB N a i j k m = u3 at *
          generalize camB N b i j k m = u4 at *
          go_wp2
          go_roundw
          case rel => exact ⟨m + 1, by omega, by go_num, HS.out, e4⟩
          case measure => simp [intOf]; omega
        · have HN : Hid (¬ sameA N a b i j k) := fun h => q2 (h m hlt).2
          have b1 : (camT N a i j k m != camT N b i j k m) = false := by simpa using q1
          have b2 : (camB N a i j k m != camB N b i j k m) = true := by simpa using q2
          clear q1 q2
          generalize camT N a i j k m = u1 at *
          generalize camT N b i j k m = u2 at *
          generalize camB N a i j k m = u3 at *
          generalize camB N b i j k m = u4 at *
          go_wp2
          go_ret
          exact ⟨⟨_, rfl, by simp [HN.out]⟩, e4⟩
      · have HN : Hid (¬ sameA N a b i j k) := fun h => q1 (h m hlt).1
        have b1 : (camT N a i j k m != camT N b i j k m) = true := by simpa using q1
        clear q1
        generalize camT N a i j k m = u1 at *
        generalize camT N b i j k m = u2 at *
        generalize camB N a i j k m = u3 at *
        generalize camB N b i j k m = u4 at *
        go_wp2
        go_ret
        exact ⟨⟨_, rfl, by simp [HN.out]⟩, e4⟩
    · have e : m = N := by omega
      have hd : decide (m < N) = false := by simpa using hlt
      have HY : Hid (sameA N a b i j k) := fun m' h => hf.out m' (by omega)
      go_wp2
      go_ret
      exact ⟨⟨_, rfl, by simp [HY.out]⟩, he⟩
set_option maxHeartbeats 4000000 in
theorem closeSame_any (n : Int) (A B : Option Addr) (n1 c1 n2 c2 : Nat) (a b : VL) (w : World) (ha : a.length = n1) (hb : b.length = n2) (z1 : n1 ≤ 1048576) (z2 : n2 ≤ 1048576)
    (r1 : Rd w w.heap.size A n1 c1 (pairs a)) (r2 : Rd w w.heap.size B n2 c2 (pairs b)) :
    Calls Try.prog 9 #[.int .i64 n, .slice A n1 c1, .slice B n2 c2] w fun e w' => e = .returned (.bool (csB n a b)) ∧ Ext w w' := by
  have HV1 := Lib.hid (fun (W : World) (x : Ext w W) => visValid_any n A n1 c1 a W ha (by omega) (r1.ext x))
  have HV2 := Lib.hid (fun (W : World) (x : Ext w W) => visValid_any n B n2 c2 b W hb (by omega) (r2.ext x))
  rcases h1 : visB n a with _ | _
  · have H1 := Lib.hid h1
    have HF := Lib.hid (csB_no (n := n) (a := a) (b := b) (by rw [h1]; rfl))
    clear h1 ha hb r1 r2
    go_enter Try.func9, Try.ntmps9
    go_wp2_with fail
    refine (HV1.out _ (Ext.refl _)).mono ?_
    rintro e w1 ⟨rfl, x1⟩
    rw [H1.out]
    go_wp2
    go_ret
    exact ⟨ret_bool HF.out.symm, x1⟩
  rcases h2 : visB n b with _ | _
  · have H1 := Lib.hid h1
    have H2 := Lib.hid h2
    have HF := Lib.hid (csB_no (n := n) (a := a) (b := b) (by rw [h2, Bool.and_false]))
    clear h1 h2 ha hb r1 r2
    go_enter Try.func9, Try.ntmps9
    go_wp2_with fail
    refine (HV1.out _ (Ext.refl _)).mono ?_
    rintro e w1 ⟨rfl, x1⟩
    rw [H1.out]
    go_wp2_with fail
    refine (HV2.out _ x1).mono ?_
    rintro e w2 ⟨rfl, x2⟩
    rw [H2.out]
    go_wp2
    go_ret
    exact ⟨ret_bool HF.out.symm, x1.trans x2⟩
  obtain ⟨N, rfl, g1, g2, _, _⟩ := visB_parts h1
  have HP1 := Lib.hid (fun (W : World) (x : Ext w W) (i j k : Nat) (hi : i < N) (hj : j < N) (hk : k < N) => closePhase_f N A n1 c1 a i j k W h1 ha z1 hi hj hk (r1.ext x))
  have HP2 := Lib.hid (fun (W : World) (x : Ext w W) (i j k : Nat) (hi : i < N) (hj : j < N) (hk : k < N) => closePhase_f N B n2 c2 b i j k W h2 hb z2 hi hj hk (r2.ext x))
  have HSA := Lib.hid (fun (W : World) (x : Ext w W) (i j k : Nat) (hi : i < N) (hj : j < N) (hk : k < N) => sameAmps_any N A B n1 c1 n2 c2 a b i j k W h1 h2 ha hb hi hj hk (r1.ext x) (r2.ext x))
  have HB : Hid (csB (N : Int) a b = true ↔ csP N a b) := by show _ ↔ _; rw [csB_iff]; exact ⟨fun h => h.2.2, fun h => ⟨h1, h2, h⟩⟩
  have H1 := Lib.hid h1
  have H2 := Lib.hid h2
  clear h1 h2 ha hb r1 r2
  go_enter Try.func9, Try.ntmps9
  go_wp2_with fail
  refine (HV1.out _ (Ext.refl _)).mono ?_
  rintro e w1 ⟨rfl, x1⟩
  rw [H1.out]
  go_wp2_with fail
  refine (HV2.out _ x1).mono ?_
  rintro e w2 ⟨rfl, x2⟩
  rw [H2.out]
  have y2 := x1.trans x2
  clear x1 x2
  go_wp2_with fail
  go_loopw [25] (fun v wr => ∃ i : Nat, i ≤ N ∧ v = .int .i64 i ∧ Hid (∀ i' j' k', i' < i → j' < N → k' < N → sameC N a b i' j' k') ∧ Ext w wr) (fun v _ => N - (intOf v).toNat)
  case atStart => exact ⟨0, Nat.zero_le _, rfl, fun _ _ _ h => by omega, y2⟩
  case round =>
    obtain ⟨i, hi, rfl, hf, he⟩ := hrel
    by_cases hlt : i < N
    · have h2 : (i : Int) < (N : Int) := by omega
      go_wp2_with fail
      go_loopw [29] (fun v wr => ∃ j : Nat, j ≤ N ∧ v = .int .i64 j ∧ Hid (∀ j' k', j' < j → k' < N → sameC N a b i j' k') ∧ Ext w wr) (fun v _ => N - (intOf v).toNat)
      case atStart => exact ⟨0, Nat.zero_le _, rfl, fun _ _ h => by omega, he⟩
      case round =>
        clear he
        obtain ⟨j, hj, rfl, hf2, he⟩ := hrel
        by_cases hlt2 : j < N
        · have h3 : (j : Int) < (N : Int) := by omega
          go_wp2_with fail
          go_loopw [33] (fun v wr => ∃ k : Nat, k ≤ N ∧ v = .int .i64 k ∧ Hid (∀ k', k' < k → sameC N a b i j k') ∧ Ext w wr) (fun v _ => N - (intOf v).toNat)
          case atStart => exact ⟨0, Nat.zero_le _, rfl, fun _ h => by omega, he⟩
          case round =>
            clear he
            obtain ⟨k, hk, rfl, hf3, he⟩ := hrel
            by_cases hlt3 : k < N
            · have h4 : (k : Int) < (N : Int) := by omega
              go_wp2_with fail
              refine (HP1.out _ he i j k hlt hlt2 hlt3).mono ?_
              rintro e w3 ⟨rfl, x3⟩
              have e3 := he.trans x3
              go_wp2_with fail
              refine (HP2.out _ e3 i j k hlt hlt2 hlt3).mono ?_
              rintro e w4 ⟨rfl, x4⟩
              have e4 := e3.trans x4
              by_cases q1 : cph N a i j k = cph N b i j k
              · have Q1 := Lib.hid q1
                have b1 : (cph N a i j k != cph N b i j k) = false := by simpa using q1
                clear q1
                generalize hu1 : cph N a i j k = u1 at *
                generalize hu2 : cph N b i j k = u2 at *
                have HU := Lib.hid (And.intro hu1 hu2)
                clear hu1 hu2
                go_wp2_with fail
                refine (HSA.out _ e4 i j k hlt hlt2 hlt3).mono ?_
                rintro e w5 ⟨⟨ok, rfl, hok⟩, x5⟩
                have e5 := e4.trans x5
                have HOK := Lib.hid hok
                clear hok
                cases ok
                · have HNO : Hid (csB (N : Int) a b = false) := by
                    show _ = _
                    rcases e : csB (N : Int) a b with _ | _
                    · rfl
                    · have := HOK.out.2 ((HB.out.1 e) i j k hlt hlt2 hlt3).2
                      cases this
                  go_wp2
                  go_ret
                  exact ⟨ret_bool HNO.out.symm, e5⟩
                · have HS : Hid (∀ k', k' < k + 1 → sameC N a b i j k') := fun k' h => by
                    by_cases e : k' = k
                    · subst e; exact ⟨by rw [HU.out.1, HU.out.2]; exact Q1.out, HOK.out.1 rfl⟩
                    · exact hf3.out k' (by omega)
                  go_wp2
                  go_roundw
                  case rel => exact ⟨k + 1, by omega, by go_num, HS.out, e5⟩
                  case measure => simp [intOf]; omega
              · have HNO : Hid (csB (N : Int) a b = false) := by
                  show _ = _
                  rcases e : csB (N : Int) a b with _ | _
                  · rfl
                  · exact absurd ((HB.out.1 e) i j k hlt hlt2 hlt3).1 q1
                have b1 : (cph N a i j k != cph N b i j k) = true := by simpa using q1
                clear q1
                generalize cph N a i j k = u1 at *
                generalize cph N b i j k = u2 at *
                go_wp2
                go_ret
                exact ⟨ret_bool HNO.out.symm, e4⟩
            · have e : k = N := by omega
              have hd : decide (k < N) = false := by simpa using hlt3
              have HS : Hid (∀ j' k', j' < j + 1 → k' < N → sameC N a b i j' k') := fun j' k' h h' => by
                by_cases e' : j' = j
                · subst e'; exact hf3.out k' (by omega)
                · exact hf2.out j' k' (by omega) h'
              go_wp2
              go_roundw
              case rel => exact ⟨j + 1, by omega, by go_num, HS.out, he⟩
              case measure => simp [intOf]; omega
        · have e : j = N := by omega
          have hd : decide (j < N) = false := by simpa using hlt2
          have HS : Hid (∀ i' j' k', i' < i + 1 → j' < N → k' < N → sameC N a b i' j' k') := fun i' j' k' h h' h'' => by
            by_cases e' : i' = i
            · subst e'; exact hf2.out j' k' (by omega) h''
            · exact hf.out i' j' k' (by omega) h' h''
          go_wp2
          go_roundw
          case rel => exact ⟨i + 1, by omega, by go_num, HS.out, he⟩
          case measure => simp [intOf]; omega
    · have e : i = N := by omega
      have hd : decide (i < N) = false := by simpa using hlt
      have HY : Hid (csB (N : Int) a b = true) := HB.out.2 fun i' j' k' h h' h'' => hf.out i' j' k' (by omega) h' h''
      go_wp2
      go_ret
      exact ⟨ret_bool HY.out.symm, he⟩
end Go.Proofs.Ytpjglnmnfmibnab
