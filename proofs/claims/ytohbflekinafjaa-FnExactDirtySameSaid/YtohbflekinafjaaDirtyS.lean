/-
  Contracts of DirtySame: slices.Equal over grids, the program's DirtySame, the reference's DirtySame; and what the laws on it use in plain numbers.
-/
import Derived.Test.YtohbflekinafjaaDirty
import Derived.Test.YtohbflekinafjaaDirtyLaws
import Derived.Laws.StructEq
namespace Go.Proofs.Ytohbflekinafjaa
open Go.RowKit

theorem gauss_neq (a b c d : Int) (w : World) : (binOp .neq 47 (.agg #[.int .i64 a, .int .i64 b]) (.agg #[.int .i64 c, .int .i64 d])).run Try.prog w = .ok (.bool (decide ((a, b) ≠ (c, d)))) w := by
  by_cases h1 : a = c <;> by_cases h2 : b = d <;> simp [go_sem, h1, h2]
def eqToG (a b : List (Int × Int)) (k : Nat) : Prop := ∀ j, j < k → a[j]? = b[j]?
theorem eqToG_succ {a b : List (Int × Int)} {k : Nat} (h : eqToG a b k) (e : a[k]? = b[k]?) : eqToG a b (k + 1) := by
  intro j hj
  by_cases hjk : j = k
  · subst hjk; exact e
  · exact h j (by omega)
theorem eqToG_all {a b : List (Int × Int)} {n : Nat} (h : eqToG a b n) (h1 : a.length = n) (h2 : b.length = n) : a = b := by
  apply List.ext_getElem?
  intro j
  by_cases hj : j < n
  · exact h j hj
  · rw [List.getElem?_eq_none (by omega), List.getElem?_eq_none (by omega)]

set_option maxHeartbeats 1000000 in
theorem slicesEqualG_any (A B : Option Addr) (c d : Nat) (xs ys : List (Int × Int)) (w : World) (hn : xs.length = 16) (hm : ys.length = 16) (h : Rd w w.heap.size A 16 c (pairs xs)) (h' : Rd w w.heap.size B 16 d (pairs ys)) :
    Calls Try.prog 39 #[.slice A 16 c, .slice B 16 d] w fun e w' => e = .returned (.bool (decide (xs = ys))) ∧ Quiet w w' := by
  have HN := Lib.hid hn
  have HM := Lib.hid hm
  obtain ⟨g, off, rfl⟩ := h.addr (by rw [pairs_length, hn]; omega)
  obtain ⟨g', off', rfl⟩ := h'.addr (by rw [pairs_length, hm]; omega)
  clear hn hm
  go_enter Try.func39, Try.ntmps39
  go_wp2
  go_loopw [13] (fun i wr => ∃ k : Nat, k ≤ 16 ∧ i = .int .i64 k ∧ Hid (eqToG xs ys k) ∧ Quiet w wr) (fun i _ => 16 - (intOf i).toNat)
  case atStart => exact ⟨0, Nat.zero_le _, rfl, fun _ h => by omega, Quiet.refl _⟩
  case round =>
    obtain ⟨k, hk, rfl, hto, hq⟩ := hrel
    by_cases hlt : k < 16
    · obtain ⟨⟨p, q⟩, hb⟩ := at_of_lt (l := xs) (k := k) (by have := HN.out; omega)
      obtain ⟨⟨p', q'⟩, he⟩ := at_of_lt (l := ys) (k := k) (by have := HM.out; omega)
      have hc0 := (hq.cell _).trans (h.fst hb)
      have hc1 := (hq.cell _).trans (h.snd hb)
      have hd0 := (hq.cell _).trans (h'.fst he)
      have hd1 := (hq.cell _).trans (h'.snd he)
      have HB := Lib.hid hb
      have HE := Lib.hid he
      have h2 : (k : Int) < 16 := by omega
      have h3 : (0 : Int) ≤ (k : Int) := by omega
      have hne := gauss_neq p q p' q'
      clear hb he
      by_cases hbe : (p, q) = (p', q')
      · obtain ⟨rfl, rfl⟩ := Prod.mk.inj hbe
        rw [decide_eq_false (by simp)] at hne
        clear hbe
        go_wp2
        go_quiet (fail)
        go_wp2
        go_roundw
        case rel => exact ⟨k + 1, by omega, by go_num, eqToG_succ hto (by rw [HB.out, HE.out]), hq.drewN _⟩
        case measure => simp [intOf]; omega
      · rw [decide_eq_true hbe] at hne
        have HBE := Lib.hid hbe
        clear hbe
        go_wp2
        go_quiet (fail)
        go_wp2
        go_ret
        exact ⟨ret_bool (by symm; rw [decide_eq_false]; rintro rfl; have := HB.out; rw [HE.out] at this; simp at this; exact HBE.out (by rw [this.1, this.2])), hq.drewN _⟩
    · go_wp2
      go_ret
      obtain rfl : k = 16 := by omega
      exact ⟨ret_bool (by symm; rw [decide_eq_true]; exact eqToG_all hto HN.out HM.out), hq⟩
/-- both skies and the coverage are valid, and what is seen is the same -/
def dsB (a b : List Int) (c : List Bool) : Bool := svB a && svB b && cvB c && decide (seen a c = seen b c)
theorem dsB_parts {a b : List Int} {c : List Bool} (h : dsB a b c = true) : svB a = true ∧ svB b = true ∧ cvB c = true ∧ seen a c = seen b c := by
  simp only [dsB, Bool.and_eq_true, decide_eq_true_eq] at h
  exact ⟨h.1.1.1, h.1.1.2, h.1.2, h.2⟩
theorem dsB_mk {a b : List Int} {c : List Bool} (h1 : svB a = true) (h2 : svB b = true) (h3 : cvB c = true) (h4 : seen a c = seen b c) : dsB a b c = true := by
  simp [dsB, h1, h2, h3, h4]
set_option maxHeartbeats 1000000 in
theorem dirtySame_any (A B C : Option Addr) (n m l c d f : Nat) (xs ys : List Int) (bs : List Bool) (w : World) (hn : xs.length = n) (hm : ys.length = m) (hl : bs.length = l) (h : Rd w w.heap.size A n c (ints xs)) (h' : Rd w w.heap.size B m d (ints ys)) (h'' : Rd w w.heap.size C l f (bools bs)) :
    Calls Try.prog 12 #[.slice A n c, .slice B m d, .slice C l f] w fun e w' => e = .returned (.bool (dsB xs ys bs)) ∧ Ext w w' := by
  have HC := Lib.hid (skyValid_any A n c xs w hn h)
  have HD := Lib.hid (skyValid_any B m d ys w hm h')
  have HV := Lib.hid (coverValid_any C l f bs w hl h'')
  rcases hv : svB xs with _ | _
  · rw [hv] at HC
    have HO : Hid (dsB xs ys bs = false) := by show _ = _; simp [dsB, hv]
    rw [HO.out]
    clear hn hm hl h h' h'' hv
    go_enter Try.func12, Try.ntmps12
    go_wp2_with fail
    refine HC.out.mono ?_
    rintro e w' ⟨rfl, rfl⟩
    go_wp2
    go_ret
    exact ⟨rfl, Ext.refl _⟩
  rw [hv] at HC
  rcases hv2 : svB ys with _ | _
  · rw [hv2] at HD
    have HO : Hid (dsB xs ys bs = false) := by show _ = _; simp [dsB, hv2]
    rw [HO.out]
    clear hn hm hl h h' h'' hv hv2
    go_enter Try.func12, Try.ntmps12
    go_wp2_with fail
    refine HC.out.mono ?_
    rintro e w' ⟨rfl, rfl⟩
    go_wp2_with fail
    refine HD.out.mono ?_
    rintro e w' ⟨rfl, rfl⟩
    go_wp2
    go_ret
    exact ⟨rfl, Ext.refl _⟩
  rw [hv2] at HD
  rcases hc : cvB bs with _ | _
  · rw [hc] at HV
    have HO : Hid (dsB xs ys bs = false) := by show _ = _; simp [dsB, hc]
    rw [HO.out]
    clear hn hm hl h h' h'' hv hv2 hc
    go_enter Try.func12, Try.ntmps12
    go_wp2_with fail
    refine HC.out.mono ?_
    rintro e w' ⟨rfl, rfl⟩
    go_wp2_with fail
    refine HD.out.mono ?_
    rintro e w' ⟨rfl, rfl⟩
    go_wp2_with fail
    refine HV.out.mono ?_
    rintro e w' ⟨rfl, rfl⟩
    go_wp2
    go_ret
    exact ⟨rfl, Ext.refl _⟩
  rw [hc] at HV
  obtain rfl : n = 16 := by rw [← hn]; exact svB_16 hv
  obtain rfl : m = 16 := by rw [← hm]; exact svB_16 hv2
  obtain rfl : l = 16 := by rw [← hl]; exact cvB_16 hc
  have HR := Lib.hid (realGrid_any A 16 c xs w hn (by omega) h)
  have HR2 := Lib.hid (fun (W : World) (x : Ext w W) => realGrid_any B 16 d ys W hm (by omega) (h'.ext x))
  have HT := Lib.hid (fun (W : World) (A1 : Option Addr) (c1 : Nat) (r : Rd W W.heap.size A1 16 c1 (pairs (realG xs))) => transform_any A1 c1 (realG xs) 1 W (by rw [realG_length, hn]) (by omega) (by omega) (GB_mono (realG_GB hv) (by omega)) r)
  have HT2 := Lib.hid (fun (W : World) (A1 : Option Addr) (c1 : Nat) (r : Rd W W.heap.size A1 16 c1 (pairs (realG ys))) => transform_any A1 c1 (realG ys) 1 W (by rw [realG_length, hm]) (by omega) (by omega) (GB_mono (realG_GB hv2) (by omega)) r)
  have HM := Lib.hid (fun (W : World) (x : Ext w W) (A1 : Option Addr) (c1 : Nat) (g : List (Int × Int)) (hg : g.length = 16) (r : Rd W W.heap.size A1 16 c1 (pairs g)) => masked_any A1 C c1 f g bs W hg hl r (h''.ext x))
  have HO : Hid (dsB xs ys bs = decide (maskL (skyG xs) bs = maskL (skyG ys) bs)) := by show _ = _; simp only [dsB, hv, hv2, hc, Bool.true_and]; rfl
  have HL := Lib.hid hl
  clear hn hm hl h h' h'' hv hv2 hc
  go_enter Try.func12, Try.ntmps12
  go_wp2_with fail
  refine HC.out.mono ?_
  rintro e w' ⟨rfl, rfl⟩
  go_wp2_with fail
  refine HD.out.mono ?_
  rintro e w' ⟨rfl, rfl⟩
  go_wp2_with fail
  refine HV.out.mono ?_
  rintro e w' ⟨rfl, rfl⟩
  go_wp2_with fail
  refine HR.out.mono ?_
  rintro e w1 ⟨A1, c1, rfl, s1, x1⟩
  go_wp2_with fail
  refine (HT.out _ A1 c1 s1.rd).mono ?_
  rintro e w2 ⟨A2, c2, rfl, s2, x2⟩
  have X2 := x1.trans x2
  go_wp2_with fail
  refine (HM.out _ X2 A2 c2 (skyG xs) (skyG_length _) s2.rd).mono ?_
  rintro e w3 ⟨A3, c3, rfl, s3, x3⟩
  have X3 := X2.trans x3
  go_wp2_with fail
  refine (HR2.out _ X3).mono ?_
  rintro e w4 ⟨A4, c4, rfl, s4, x4⟩
  have X4 := X3.trans x4
  go_wp2_with fail
  refine (HT2.out _ A4 c4 s4.rd).mono ?_
  rintro e w5 ⟨A5, c5, rfl, s5, x5⟩
  have X5 := X4.trans x5
  go_wp2_with fail
  refine (HM.out _ X5 A5 c5 (skyG ys) (skyG_length _) s5.rd).mono ?_
  rintro e w6 ⟨A6, c6, rfl, s6, x6⟩
  have X6 := X5.trans x6
  have s3' := s3.ext (x4.trans (x5.trans x6))
  clear s1 s2 s4 s5
  go_wp2_with fail
  refine (slicesEqualG_any A3 A6 c3 c6 (maskL (skyG xs) bs) (maskL (skyG ys) bs) _ (maskL_length (skyG_length _) HL.out) (maskL_length (skyG_length _) HL.out) s3'.rd s6.rd).mono ?_
  rintro e w7 ⟨rfl, q7⟩
  go_wp2
  go_ret
  exact ⟨ret_bool HO.out.symm, X6.trans q7.ext⟩
/-- the set cells before k look the same -/
def sameTo (x y : List (Int × Int)) (c : List Bool) (k : Nat) : Prop := ∀ j, j < k → c[j]? = some true → x[j]? = y[j]?
theorem sameTo_succ {x y : List (Int × Int)} {c : List Bool} {k : Nat} (h : sameTo x y c k) (e : c[k]? = some true → x[k]? = y[k]?) : sameTo x y c (k + 1) := by
  intro j hj hc
  by_cases hjk : j = k
  · subst hjk; exact e hc
  · exact h j (by omega) hc
theorem sameTo_end {x y : List (Int × Int)} {c : List Bool} (hx : x.length = 16) (hy : y.length = 16) (hc : c.length = 16) (h : sameTo x y c 16) : maskL x c = maskL y c := by
  apply eqToG_all (n := 16) _ (maskL_length hx hc) (maskL_length hy hc)
  intro j hj
  obtain ⟨p, hp⟩ := at_of_lt (l := x) (k := j) (by omega)
  obtain ⟨q, hq⟩ := at_of_lt (l := y) (k := j) (by omega)
  obtain ⟨b, hb⟩ := at_of_lt (l := c) (k := j) (by omega)
  rw [maskL_at hp hb, maskL_at hq hb]
  cases b
  · rfl
  · have := h j hj hb
    rw [hp, hq] at this
    simpa using this
theorem same_no {x y : List (Int × Int)} {c : List Bool} {k : Nat} {p q : Int × Int} (hc : c[k]? = some true) (hp : x[k]? = some p) (hq : y[k]? = some q) (hn : p ≠ q) : maskL x c ≠ maskL y c := by
  intro h
  have e := congrArg (fun l => l[k]?) h
  simp only [maskL_at hp hc, maskL_at hq hc, if_true, Option.some.injEq] at e
  exact hn e
set_option maxHeartbeats 2000000 in
theorem specDirtySame_any (A B C : Option Addr) (n m l c d f : Nat) (xs ys : List Int) (bs : List Bool) (w : World) (hn : xs.length = n) (hm : ys.length = m) (hl : bs.length = l) (z1 : n ≤ 1048576) (z2 : m ≤ 1048576) (h : Rd w w.heap.size A n c (ints xs)) (h' : Rd w w.heap.size B m d (ints ys)) (h'' : Rd w w.heap.size C l f (bools bs)) :
    Calls Try.prog 9 #[.slice A n c, .slice B m d, .slice C l f] w fun e w' => e = .returned (.bool (dsB xs ys bs)) ∧ Ext w w' := by
  have HT := Lib.hid (specSkyTransform_any A n c xs w hn z1 h)
  have HT2 := Lib.hid (fun (W : World) (x : Ext w W) => specSkyTransform_any B m d ys W hm z2 (h'.ext x))
  have HV := Lib.hid (fun (W : World) (x : Ext w W) => specCoverValid_any C l f bs W hl (h''.ext x))
  have ht1 := tsL_length xs
  have ht2 := tsL_length ys
  by_cases hg : (svB xs && svB ys && cvB bs) = true
  case neg =>
    have HO : Hid (dsB xs ys bs = false) := by show _ = _; simp only [dsB]; rw [Bool.eq_false_iff.mpr hg]; rfl
    rw [HO.out]
    rcases hv : svB xs with _ | _
    · rw [hv] at HT
      clear hn hm hl h h' h'' hv hg
      go_enter Try.func9, Try.ntmps9
      go_wp2_with fail
      refine HT.out.mono ?_
      rintro e w1 ⟨A1, c1, rfl, s1, x1⟩
      go_wp2_with fail
      refine (HT2.out _ x1).mono ?_
      rintro e w2 ⟨A2, c2, rfl, s2, x2⟩
      go_wp2
      go_ret
      exact ⟨rfl, x1.trans x2⟩
    rw [hv] at HT
    rcases hv2 : svB ys with _ | _
    · rw [hv2] at HT2
      clear hn hm hl h h' h'' hv hv2 hg
      go_enter Try.func9, Try.ntmps9
      go_wp2_with fail
      refine HT.out.mono ?_
      rintro e w1 ⟨A1, c1, rfl, s1, x1⟩
      go_wp2_with fail
      refine (HT2.out _ x1).mono ?_
      rintro e w2 ⟨A2, c2, rfl, s2, x2⟩
      go_wp2
      go_ret
      exact ⟨rfl, x1.trans x2⟩
    rw [hv2] at HT2
    have hc : cvB bs = false := by simpa [hv, hv2] using hg
    rw [hc] at HV
    clear hn hm hl h h' h'' hv hv2 hg hc
    go_enter Try.func9, Try.ntmps9
    go_wp2_with fail
    refine HT.out.mono ?_
    rintro e w1 ⟨A1, c1, rfl, s1, x1⟩
    go_wp2_with fail
    refine (HT2.out _ x1).mono ?_
    rintro e w2 ⟨A2, c2, rfl, s2, x2⟩
    go_wp2_with fail
    refine (HV.out _ (x1.trans x2)).mono ?_
    rintro e w3 ⟨rfl, q3⟩
    go_wp2
    go_ret
    exact ⟨rfl, (x1.trans x2).trans q3.ext⟩
  simp only [Bool.and_eq_true] at hg
  obtain ⟨⟨hv, hv2⟩, hc⟩ := hg
  rw [hv] at HT
  rw [hv2] at HT2
  rw [hc] at HV
  have e1 : tsL xs = skyG xs := by simp [tsL, hv]
  have e2 : tsL ys = skyG ys := by simp [tsL, hv2]
  rw [e1, skyG_length] at HT
  rw [e2, skyG_length] at HT2
  obtain rfl : l = 16 := by rw [← hl]; exact cvB_16 hc
  obtain ⟨gc, oc, rfl⟩ := h''.addr (by rw [bools_length, hl]; omega)
  have HO : Hid (dsB xs ys bs = decide (maskL (skyG xs) bs = maskL (skyG ys) bs)) := by show _ = _; simp only [dsB, hv, hv2, hc, Bool.true_and]; rfl
  have HL := Lib.hid hl
  clear hn hm hl h h' hv hv2 hc e1 e2 ht1 ht2
  go_enter Try.func9, Try.ntmps9
  go_wp2_with fail
  refine HT.out.mono ?_
  rintro e w1 ⟨A1, c1, rfl, s1, x1⟩
  go_wp2_with fail
  refine (HT2.out _ x1).mono ?_
  rintro e w2 ⟨A2, c2, rfl, s2, x2⟩
  go_wp2_with fail
  refine (HV.out _ (x1.trans x2)).mono ?_
  rintro e w3 ⟨rfl, q3⟩
  have X3 := (x1.trans x2).trans q3.ext
  have t1 := s1.ext (x2.trans q3.ext)
  have t2 := s2.ext q3.ext
  obtain ⟨g1', o1, ea1, _, _, _⟩ := t1.addr (by rw [pairs_length, skyG_length]; omega)
  obtain rfl := ea1
  obtain ⟨g2', o2, ea2, _, _, _⟩ := t2.addr (by rw [pairs_length, skyG_length]; omega)
  obtain rfl := ea2
  clear s1 s2 HT HT2 HV
  go_wp2_with (go_at_call 36; refine (l21Cells_any _).mono ?_; rintro e w' ⟨rfl, rfl⟩)
  go_loopw [11] (fun i wr => ∃ k : Nat, k ≤ 16 ∧ i = .int .i64 k ∧ Hid (sameTo (skyG xs) (skyG ys) bs k) ∧ Ext w3 wr) (fun i _ => 16 - (intOf i).toNat)
  case atStart => exact ⟨0, Nat.zero_le _, rfl, fun _ h => by omega, Ext.refl _⟩
  case round =>
    obtain ⟨k, hk, rfl, hto, hx⟩ := hrel
    by_cases hlt : k < 16
    · obtain ⟨⟨p, q⟩, hp⟩ := at_of_lt (l := skyG xs) (k := k) (by rw [skyG_length]; exact hlt)
      obtain ⟨⟨p', q'⟩, hp'⟩ := at_of_lt (l := skyG ys) (k := k) (by rw [skyG_length]; exact hlt)
      obtain ⟨b, hb⟩ := at_of_lt (l := bs) (k := k) (by rw [HL.out]; exact hlt)
      have hcb := (h''.below (X3.trans hx).below).cell (bools_at hb)
      have c0 := (t1.ext hx).fst hp
      have c1' := (t1.ext hx).snd hp
      have d0 := (t2.ext hx).fst hp'
      have d1 := (t2.ext hx).snd hp'
      have h2 : (k : Int) < 16 := by omega
      have h3 : (0 : Int) ≤ (k : Int) := by omega
      have HP := Lib.hid hp
      have HP' := Lib.hid hp'
      have HB := Lib.hid hb
      have hne := gauss_neq p q p' q'
      clear hp hp' hb
      cases b
      · go_wp2_with (go_at_call 36; refine (l21Cells_any _).mono ?_; rintro e w' ⟨rfl, rfl⟩)
        try go_quiet (fail)
        try go_wp2
        go_roundw
        case rel => exact ⟨k + 1, by omega, by go_num, sameTo_succ hto (fun e => by rw [HB.out] at e; cases e), by first | exact hx | exact hx.drewN _⟩
        case measure => simp [intOf]; omega
      · by_cases hbe : (p, q) = (p', q')
        · obtain ⟨rfl, rfl⟩ := Prod.mk.inj hbe
          rw [decide_eq_false (by simp)] at hne
          clear hbe
          go_wp2_with (go_at_call 36; refine (l21Cells_any _).mono ?_; rintro e w' ⟨rfl, rfl⟩)
          go_quiet (fail)
          go_wp2
          go_roundw
          case rel => exact ⟨k + 1, by omega, by go_num, sameTo_succ hto (fun e => by rw [HP.out, HP'.out]), hx.drewN _⟩
          case measure => simp [intOf]; omega
        · rw [decide_eq_true hbe] at hne
          have HBE := Lib.hid hbe
          clear hbe
          go_wp2_with (go_at_call 36; refine (l21Cells_any _).mono ?_; rintro e w' ⟨rfl, rfl⟩)
          go_quiet (fail)
          go_wp2
          go_ret
          exact ⟨ret_bool (by rw [HO.out, decide_eq_false (same_no HB.out HP.out HP'.out HBE.out)]), (X3.trans hx).drewN _⟩
    · obtain rfl : k = 16 := by omega
      go_wp2_with (go_at_call 36; refine (l21Cells_any _).mono ?_; rintro e w' ⟨rfl, rfl⟩)
      go_ret
      exact ⟨ret_bool (by rw [HO.out, decide_eq_true (sameTo_end (skyG_length _) (skyG_length _) HL.out hto)]), X3.trans hx⟩
/-! ### what the laws use -/
theorem ds_swap {a b : List Int} {c : List Bool} (h : dsB a b c = true) : dsB b a c = true := by
  obtain ⟨h1, h2, h3, h4⟩ := dsB_parts h
  exact dsB_mk h2 h1 h3 h4.symm
theorem ds_image {a b : List Int} {c : List Bool} (h : dsB a b c = true) : dokB a c = dokB b c ∧ doL a c = doL b c := by
  obtain ⟨h1, h2, h3, h4⟩ := dsB_parts h
  have e : dirtyR a c = dirtyR b c := same_dirty h4
  have k : dokB a c = dokB b c := by simp [dokB, h1, h2, h3, e]
  exact ⟨k, by simp [doL, k, e]⟩
theorem ds_zeros {a b : List Int} {c : List Bool} (h : dsB a b c = true) : dsB a b zeros16 = true := by
  obtain ⟨h1, h2, h3, h4⟩ := dsB_parts h
  exact dsB_mk h1 h2 cvB_zeros seen_zeros
theorem ds_hole {a b : List Int} {c : List Bool} (h : dsB a b c = true) {k : Nat} (hk : k < 16) (hc : c[k]? = some true) : (skyG (addL b a (-1)))[k]? = some (0, 0) := by
  obtain ⟨h1, h2, h3, h4⟩ := dsB_parts h
  obtain ⟨e1, e2⟩ := same_holes (svB_16 h1) (svB_16 h2) (cvB_16 h3) h4 hk (cB_some hc)
  obtain ⟨⟨p, q⟩, hp⟩ := at_of_lt (l := skyG (addL b a (-1))) (k := k) (by rw [skyG_length]; exact hk)
  rw [← skyG_eq, g1_some hp] at e1
  rw [← skyG_eq, g2_some hp] at e2
  rw [hp]
  simp only at e1 e2
  rw [e1, e2]
theorem ds_all {a b : List Int} {c : List Bool} (h : dsB a b c = true) : c.length = 16 ∧ ∀ k, k < 16 → c[k]? = some true → (skyG (addL b a (-1)))[k]? = some (0, 0) :=
  ⟨cvB_16 (dsB_parts h).2.2.1, fun _ hk hc => ds_hole h hk hc⟩
theorem svB_nil : svB [] = false := by decide
theorem tsL_nil : tsL [] = [] := by simp [tsL, svB_nil]
theorem saL_no {a b : List Int} {t : Int} (h : saOk a b t = false) : saL a b t = [] := by
  unfold saL
  split
  · next h1 =>
    simp only [saOk, h1, Bool.true_and] at h
    exact skyOr_no h
  · rfl
theorem saL_yes {a b : List Int} {t : Int} (h : saOk a b t = true) : saL a b t = addL a b t ∧ svB (addL a b t) = true := by
  simp only [saOk, Bool.and_eq_true] at h
  exact ⟨by simp [saL, h.1, skyOr_yes h.2], h.2⟩
end Go.Proofs.Ytohbflekinafjaa
