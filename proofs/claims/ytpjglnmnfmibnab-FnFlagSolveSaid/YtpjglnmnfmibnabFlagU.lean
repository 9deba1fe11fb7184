/-
  Contract of FlagSolve of the reference.
-/
import Derived.Test.YtpjglnmnfmibnabFlagT
namespace Go.Proofs.Ytpjglnmnfmibnab
open Go.RowKit
set_option linter.unusedSimpArgs false
set_option linter.unusedVariables false

/-- between two antennas -/
def FA (N : Nat) (E : Nat → Nat → Prop) (t : Nat → Nat → Int) (s : Nat) (ps : List Int) (ks : List Bool) : Prop := (∀ v, v < s → bAt0 ks v = true) ∧ Der N E t (bAt0 ks) (pAt ps) ∧ Shut E (bAt0 ks)
/-- between two rounds -/
def FR (N : Nat) (E : Nat → Nat → Prop) (t : Nat → Nat → Int) (s r : Nat) (ps : List Int) (ks : List Bool) : Prop := (∀ v, v < s + 1 → bAt0 ks v = true) ∧ Der N E t (bAt0 ks) (pAt ps) ∧ Rounds N E r (bAt0 ks)
section
variable {N : Nat} {E : Nat → Nat → Prop} {t : Nat → Nat → Int}
theorem FA.start : FA N E t 0 (List.replicate N 0) (List.replicate N false) := by
  refine ⟨fun v h => by omega, ?_, ?_⟩
  · rw [pAt_rep, bAt0_rep]; exact Der.start
  · rw [bAt0_rep]; intro u v _ h; cases h
theorem FA.set (Nt : Net N E t) {s : Nat} {ps : List Int} {ks : List Bool} (h : FA N E t s ps ks) (hs : s < N) (hl : ks.length = N) : FR N E t s 0 ps (ks.set s true) := by
  obtain ⟨h1, h2, h3⟩ := h
  unfold FR
  rw [bAt0_set (by rw [hl]; exact hs)]
  refine ⟨fun v hv => ?_, ?_, rounds_start hs (upd_same _ _ _)⟩
  · by_cases e : v = s
    · subst e; exact upd_same _ _ _
    · exact upd_true (h1 v (by omega))
  · rcases hk : bAt0 ks s with _ | _
    · exact h2.root hk (root_next Nt h3 hk h1)
    · rw [upd_id hk]; exact h2
theorem FR.step (Nt : Net N E t) {s r : Nat} {ps ps' : List Int} {ks ks' : List Bool} (h : FR N E t s r ps ks) (hd : Der N E t (bAt0 ks') (pAt ps')) (hr : Rnd E (bAt0 ks) (bAt0 ks') N 0) : FR N E t s (r + 1) ps' ks' :=
  ⟨fun v hv => hr.old v (h.1 v hv), hd, rounds_step Nt h.2.2 (hr.end_ Nt).1 (hr.end_ Nt).2.1 (hr.end_ Nt).2.2⟩
theorem FR.done {s : Nat} {ps : List Int} {ks : List Bool} (h : FR N E t s N ps ks) : FA N E t (s + 1) ps ks := ⟨h.1, h.2.1, rounds_end h.2.2⟩
end
theorem FA.sol {N : Nat} {l m : VL} {fl : List Bool} {ps : List Int} {ks : List Bool} (hN : N < 8) (hl : l.length = nb N) (hr : rgB 1000000 l = true) (hp : ps.length = N) (h : FA N (Eg N fl) (tn N l m) N ps ks) :
    Sol N (Eg N fl) (tn N l m) (if fitB N l m fl ps then ps else []) (fitB N l m fl ps) := by
  rcases e : fitB N l m fl ps with _ | _
  · refine .inr ⟨rfl, by simp, fun q hq => ?_⟩
    have := (fitB_iff (m := m) (fl := fl) hN hl hr).2 (h.2.1.fit (net_of N fl l m) h.1 hq)
    rw [e] at this; cases this
  · simp only [if_true]
    exact Sol.of_der h.2.1 hp h.1 ((fitB_iff hN hl hr).1 e)
set_option maxRecDepth 100000 in
set_option maxHeartbeats 1000000 in
theorem specFlagSolve_any (n : Int) (A1 A2 A3 : Option Addr) (n1 c1 n2 c2 n3 c3 : Nat) (l m : VL) (fl : List Bool) (w : World) (hl : l.length = n1) (hm : m.length = n2) (hf : fl.length = n3)
    (z1 : n1 ≤ 1048576) (z2 : n2 ≤ 1048576) (z3 : n3 ≤ 1048576) (r1 : Rd w w.heap.size A1 n1 c1 (pairs l)) (r2 : Rd w w.heap.size A2 n2 c2 (pairs m)) (r3 : Rd w w.heap.size A3 n3 c3 (bools fl)) :
    Calls Try.prog 18 #[.int .i64 n, .slice A1 n1 c1, .slice A2 n2 c2, .slice A3 n3 c3] w (RetF w n l m fl) := by
  have HT := Lib.hid (l15Two_any n A1 A2 n1 c1 n2 c2 l m w hl (by omega) r1 hm (by omega) r2)
  rcases h1 : (visB n l && visB n m) with _ | _
  · rw [h1] at HT
    have HF := Lib.hid (FSol.bad (fl := fl) (show (visB n l && visB n m && decide ((fl.length : Int) = nbI n)) = false by rw [h1]; rfl))
    clear h1 hl hm hf r1 r2 r3
    go_enter Try.func18, Try.ntmps18
    go_wp2_with fail
    refine HT.out.mono ?_
    rintro e w1 ⟨rfl, q, rfl⟩
    go_wp2
    go_ret2
    exact ⟨_, _, [], false, rfl, HF.out, Sl.nil (Nat.zero_le _), ((Ext.refl w).drewN q).alloc _⟩
  rw [h1] at HT
  have h1' := h1
  simp only [Bool.and_eq_true] at h1'
  obtain ⟨N, rfl, g1, g2, g3, g4⟩ := visB_parts h1'.1
  obtain ⟨N', e, _, _, g5, g6⟩ := visB_parts h1'.2
  obtain rfl : N' = N := by omega
  have HOK := Lib.hid (fun (W : World) => l16Ok_any N' A3 n3 c3 W g1 g2)
  by_cases h3 : n3 = nb N'
  case neg =>
    rw [decide_eq_false h3] at HOK
    have HF := Lib.hid (FSol.bad (fl := fl) (show (visB (N' : Int) l && visB (N' : Int) m && decide ((fl.length : Int) = nbI (N' : Int))) = false by rw [h1, hf, nbI_nat g1 g2, decide_eq_false (by omega)]; rfl))
    clear h1 h1' hl hm hf r1 r2 r3 h3
    go_enter Try.func18, Try.ntmps18
    go_wp2_with fail
    refine HT.out.mono ?_
    rintro e w1 ⟨rfl, q, rfl⟩
    go_wp2_with (go_at_call 45; refine (HOK.out _).mono ?_; rintro e w' ⟨rfl, rfl⟩)
    go_ret2
    exact ⟨_, _, [], false, rfl, HF.out, Sl.nil (Nat.zero_le _), ((Ext.refl w).drewN q).alloc _⟩
  rw [decide_eq_true h3] at HOK
  have HN8 : N' < 8 := by omega
  have HOF := Lib.hid (fun (out : List Int) (ok : Bool) (s : Sol N' (Eg N' fl) (tn N' l m) out ok) => FSol.of_sol (l := l) (m := m) (fl := fl) g1 g2 h1'.1 h1'.2 (by rw [hf]; exact h3) s)
  have HNT := Lib.hid (net_of N' fl l m)
  have HRL := Lib.hid g4
  have HG3 := Lib.hid g3
  have HR1 := Lib.hid r1
  have HR2 := Lib.hid r2
  have HR3 := Lib.hid r3
  have HSPR := Lib.hid (fun (w2 : World) (x : Ext w w2) (w : World) (ps : List Int) (ks : List Bool) (fm : FM w2.heap.size N' w2 w ps ks) (hd : Der N' (Eg N' fl) (tn N' l m) (bAt0 ks) (pAt ps)) => l16Spread_any N' w2.heap.size A1 A2 A3 n1 c1 n2 c2 n3 c3 l m fl ps ks w2 w (Nat.le_refl _) g1 g2 g3 g5 (by omega) (by omega) h3 hf g4 g6 (r1.ext x) (r2.ext x) (r3.ext x) fm hd)
  have HFIT := Lib.hid (fun (W : World) (x : Ext w W) (A4 : Option Addr) (c4 : Nat) (ps : List Int) (hp : ps.length = N') (hpr : ∀ v, 0 ≤ pAt ps v ∧ pAt ps v < 360) (r4 : Rd W W.heap.size A4 N' c4 (ints ps)) => l16Fits_any N' A1 A2 A3 A4 n1 c1 n2 c2 n3 c3 c4 l m fl ps W g1 g2 g3 g5 (by omega) (by omega) h3 hf g4 g6 hp hpr (r1.ext x) (r2.ext x) (r3.ext x) r4)
  have hmk := makeIntsN N' HN8
  have hmb := makeBoolsN N' (by omega)
  clear e h1 h1' h3 g3 g4 g5 g6 hl hm hf r1 r2 r3
  go_enter Try.func18, Try.ntmps18
  go_wp2_with fail
  refine HT.out.mono ?_
  rintro e w1 ⟨rfl, q, rfl⟩
  have y2 : Ext w (w.drewN q) := (Ext.refl w).drewN q
  generalize w.drewN q = w2 at *
  go_wp2_with (go_at_call 45; refine (HOK.out _).mono ?_; rintro e w' ⟨rfl, rfl⟩)
  have m1 : Sl (w2.alloc (.cells (madeCells #[.int .i64 0] N') 3)) w2.heap.size (w2.heap.size + 1) 3 (some ⟨w2.heap.size, 0, none⟩) N' N' (ints (List.replicate N' 0)) := by
    rw [← ints_rep]; exact Sl.made w2 3 _ N'
  have m2 : Sl ((w2.alloc (.cells (madeCells #[.int .i64 0] N') 3)).alloc (.cells (madeCells #[.bool false] N') 4)) (w2.heap.size + 1) (w2.heap.size + 2) 4 (some ⟨w2.heap.size + 1, 0, none⟩) N' N' (bools (List.replicate N' false)) := by
    have := Sl.made (w2.alloc (.cells (madeCells #[.int .i64 0] N') 3)) 4 (.bool false) N'
    rw [World.size_alloc, bools_rep] at this
    exact this
  have xm : Ext w2 (w2.alloc (.cells (madeCells #[.int .i64 0] N') 3)) := (Ext.refl w2).alloc _
  have xn : Ext (w2.alloc (.cells (madeCells #[.int .i64 0] N') 3)) ((w2.alloc (.cells (madeCells #[.int .i64 0] N') 3)).alloc (.cells (madeCells #[.bool false] N') 4)) := (Ext.refl _).alloc _
  have HM0 : Hid (FM w2.heap.size N' w2 ((w2.alloc (.cells (madeCells #[.int .i64 0] N') 3)).alloc (.cells (madeCells #[.bool false] N') 4)) (List.replicate N' 0) (List.replicate N' false)) := ⟨by simp, by simp, m1.ext xn, m2, xm.trans xn⟩
  have HY := Lib.hid y2
  clear m1 m2 xm xn y2 hmk hmb
  go_loopw [12] (fun s wr => ∃ (s0 : Nat) (ps : List Int) (ks : List Bool), s0 ≤ N' ∧ s = .int .i64 s0 ∧ Hid (FM w2.heap.size N' w2 wr ps ks) ∧ Hid (FA N' (Eg N' fl) (tn N' l m) s0 ps ks)) (fun s _ => N' - (intOf s).toNat)
  case atStart => exact ⟨0, _, _, Nat.zero_le _, rfl, HM0.out, FA.start⟩
  case round =>
    clear HM0
    obtain ⟨s, ps, ks, hs, rfl, HFM, HFA⟩ := hrel
    by_cases hlt : s < N'
    case neg =>
      have e : s = N' := by omega
      have hA := HFA.out
      rw [e] at hA ⊢
      have hd : decide (N' < N') = false := by simp
      have HFT := Lib.hid (HFIT.out wr (HY.out.trans HFM.out.2.2.2.2) (some ⟨w2.heap.size, 0, none⟩) N' ps HFM.out.1 hA.2.1.rng HFM.out.2.2.1.rd)
      have HS := Lib.hid (HOF.out _ _ (hA.sol HN8 HG3.out HRL.out HFM.out.1))
      have hsz := HY.out.size
      rcases hfit : fitB N' l m fl ps with _ | _
      · rw [hfit] at HFT HS
        simp only [Bool.false_eq_true, if_false] at HS
        clear e hlt hA hfit
        go_wp2_with (go_at_call 47; refine HFT.out.mono ?_; rintro e w5 ⟨rfl, x5⟩)
        go_ret2
        exact ⟨_, _, [], false, rfl, HS.out, Sl.nil (Nat.zero_le _), ((HY.out.trans HFM.out.2.2.2.2).trans x5).alloc _⟩
      · rw [hfit] at HFT HS
        simp only [if_true] at HS
        clear e hlt hA hfit
        go_wp2_with (go_at_call 47; refine HFT.out.mono ?_; rintro e w5 ⟨rfl, x5⟩)
        go_ret2
        exact RetF.yes HFM.out.1 HS.out (HFM.out.2.2.1.ext x5) hsz ((HY.out.trans HFM.out.2.2.2.2).trans x5)
    have hsl : (s : Int) < (N' : Int) := by omega
    have hs0 : (0 : Int) ≤ (s : Int) := by omega
    have kk := HFM.out.2.2.2.1.cellz (bools_at (some_bAt0 (l := ks) (k := s) (by rw [HFM.out.2.1]; exact hlt)))
    have kf := HFM.out.2.2.2.1.frozen (by rw [bools_length, HFM.out.2.1]; omega) s
    have HR0 := Lib.hid (HFA.out.set HNT.out hlt HFM.out.2.1)
    have m2 := HFM.out.2.2.2.1.set_ s (.bool true)
    rw [bools_set] at m2
    simp only [Nat.zero_add] at m2
    have m1 := HFM.out.2.2.1.far (p := ⟨w2.heap.size + 1, s, none⟩) (.inr (Nat.le_refl _)) (.bool true)
    have m3 := HFM.out.2.2.2.2.setCell (p := ⟨w2.heap.size + 1, s, none⟩) (by show _ ≤ w2.heap.size + 1; omega) (.bool true)
    have HF1 : Hid (FM w2.heap.size N' w2 (wr.setCell ⟨w2.heap.size + 1, s, none⟩ (.bool true)) ps (ks.set s true)) := ⟨HFM.out.1, by rw [List.length_set]; exact HFM.out.2.1, m1, m2, m3⟩
    clear m1 m2 m3 HFM HFA
    go_wp2_with fail
    clear kk kf
    generalize wr.setCell ⟨w2.heap.size + 1, s, none⟩ (.bool true) = wn at *
    go_loopw [13] (fun v wq => ∃ (r : Nat) (ps : List Int) (ks : List Bool), r ≤ N' ∧ v = .int .i64 (r : Int) ∧ Hid (FM w2.heap.size N' w2 wq ps ks) ∧ Hid (FR N' (Eg N' fl) (tn N' l m) s r ps ks)) (fun v _ => N' - (intOf v).toNat)
    case atStart => exact ⟨0, _, _, Nat.zero_le _, rfl, HF1.out, HR0.out⟩
    case round =>
      clear HF1 HR0
      obtain ⟨r, ps, ks, hr, rfl, HFM, HFR⟩ := hrel
      by_cases hlt2 : r < N'
      · have hrl : (r : Int) < (N' : Int) := by omega
        have HC := Lib.hid (HSPR.out w2 HY.out _ ps ks HFM.out HFR.out.2.1)
        go_wp2_with fail
        refine HC.out.mono ?_
        rintro e w5 ⟨⟨v, rfl⟩, ps', ks', fm', hd', hr'⟩
        have HFM' := Lib.hid fm'
        have HFR' := Lib.hid (HFR.out.step HNT.out hd' hr')
        clear fm' hd' hr' HC HFM HFR
        go_wp2
        go_roundw
        case rel => exact ⟨r + 1, ps', ks', by omega, by go_num, HFM'.out, HFR'.out⟩
        case measure => simp [intOf]; omega
      · have e : r = N' := by omega
        have HA : Hid (FA N' (Eg N' fl) (tn N' l m) (s + 1) ps ks) := by
          have h := HFR.out
          rw [e] at h
          exact h.done
        rw [e]
        have hd : decide (N' < N') = false := by simp
        clear e hlt2 HFR
        go_wp2
        go_roundw
        case rel => exact ⟨s + 1, ps, ks, by omega, by go_num, HFM.out, HA.out⟩
        case measure => simp [intOf]; omega
end Go.Proofs.Ytpjglnmnfmibnab
