/-
  Contracts of SkySum, SkyAdd, SkyFold, SkyShift of the program.
-/
import Derived.Test.YtbafniaohjjacabSkyOps
namespace Go.Proofs.Ytbafniaohjjacab
open Go.RowKit

/-- a sky if it is valid -/
def skyOr (s : List Int) : List Int := if svB s then s else []
theorem skyOr_length (s : List Int) : (skyOr s).length ≤ 16 := by
  unfold skyOr
  split
  · next h => rw [svB_16 h]; omega
  · simp
theorem skyOr_yes {s : List Int} (h : svB s = true) : skyOr s = s := by simp [skyOr, h]
theorem skyOr_no {s : List Int} (h : svB s = false) : skyOr s = [] := by simp [skyOr, h]
def ssB (s : List Int) : Int := if svB s then sumL s else 0
theorem sumTo_step (s : List Int) (k : Nat) : sumTo (at0 s) (k + 1) = sumTo (at0 s) k + at0 s k := rfl
set_option maxHeartbeats 400000 in
theorem skySum_any (A : Option Addr) (n c : Nat) (xs : List Int) (w : World) (hn : xs.length = n) (h : Rd w w.heap.size A n c (ints xs)) :
    Calls Try.prog 22 #[.slice A n c] w fun e w' => e = .returned (.tuple #[.int .i64 (ssB xs), .bool (svB xs)]) ∧ w = w' := by
  have HC := Lib.hid (skyValid_any A n c xs w hn h)
  rcases hv : svB xs with _ | _
  · rw [hv] at HC
    have HS : Hid (ssB xs = 0) := by show _ = _; simp [ssB, hv]
    clear hn h hv
    go_enter Try.func22, Try.ntmps22
    go_wp2_with (go_at_call 28; refine HC.out.mono ?_; rintro e w' ⟨rfl, rfl⟩)
    go_ret2
    exact ⟨ret_ib HS.out.symm, rfl⟩
  · rw [hv] at HC
    have HS : Hid (ssB xs = sumL xs) := by show _ = _; simp [ssB, hv]
    have HB := Lib.hid (svB_IB hv)
    obtain rfl : n = 16 := by rw [← hn]; exact svB_16 hv
    obtain ⟨g, off, rfl⟩ := h.addr (by rw [ints_length, hn]; omega)
    have HN := Lib.hid hn
    clear hn hv
    go_enter Try.func22, Try.ntmps22
    go_wp2_with (go_at_call 28; refine HC.out.mono ?_; rintro e w' ⟨rfl, rfl⟩)
    go_loop [4, 12] (fun m i => ∃ k : Nat, k ≤ 16 ∧ i = .int .i64 k ∧ m = .int .i64 (sumTo (at0 xs) k)) (fun _ i => 16 - (intOf i).toNat)
    case atStart => exact ⟨0, Nat.zero_le _, rfl, rfl⟩
    case round =>
      obtain ⟨k, hk, rfl, rfl⟩ := hrel
      by_cases hlt : k < 16
      · have hck := h.cell (ints_a0 (s := xs) (k := k) (by rw [HN.out]; omega))
        obtain ⟨q1, q2⟩ := HB.out k
        obtain ⟨q3, q4⟩ := sumTo_le (n := k) (f := at0 xs) (M := 100000) (fun j _ => HB.out j)
        have HE := Lib.hid (sumTo_step xs k)
        go_wp2
        go_round
        case rel => exact ⟨k + 1, by omega, by go_num, by rw [HE.out]⟩
        case measure => simp [intOf]; omega
      · go_wp2
        go_ret2
        obtain rfl : k = 16 := by omega
        exact ⟨ret_ib HS.out.symm, rfl⟩
def saB (a b : List Int) (t : Int) : Bool := svB a && svB b && decide (-100000 ≤ t ∧ t ≤ 100000)
def saL (a b : List Int) (t : Int) : List Int := if saB a b t then skyOr (addL a b t) else []
def saOk (a b : List Int) (t : Int) : Bool := saB a b t && svB (addL a b t)
theorem saL_length (a b : List Int) (t : Int) : (saL a b t).length ≤ 16 := by
  unfold saL
  split
  · exact skyOr_length _
  · simp
set_option maxHeartbeats 1000000 in
theorem skyAdd_any (A B : Option Addr) (n m c d : Nat) (xs ys : List Int) (t : Int) (w : World) (hn : xs.length = n) (hm : ys.length = m) (h : Rd w w.heap.size A n c (ints xs)) (h' : Rd w w.heap.size B m d (ints ys)) :
    Calls Try.prog 16 #[.slice A n c, .slice B m d, .int .i64 t] w (RetSB w 3 (saL xs ys t).length (ints (saL xs ys t)) (saOk xs ys t)) := by
  have HC := Lib.hid (skyValid_any A n c xs w hn h)
  have HD := Lib.hid (skyValid_any B m d ys w hm h')
  have HI := Lib.hid (inRange_any t 100000 w (by omega) (by omega))
  by_cases hs : saB xs ys t = true
  case neg =>
    have HE : Hid (saL xs ys t = []) := by show _ = _; simp [saL, hs]
    have HO : Hid (saOk xs ys t = false) := by show _ = _; simp [saOk, hs]
    rw [HO.out]
    rcases hv : svB xs with _ | _
    · rw [hv] at HC
      clear hn h hm h' hv hs
      go_enter Try.func16, Try.ntmps16
      go_wp2_with fail
      refine HC.out.mono ?_
      rintro e w' ⟨rfl, rfl⟩
      go_wp2
      go_ret2
      exact RetSB.nil (by rw [HE.out]; rfl) (by rw [HE.out]; rfl) (Ext.refl _)
    rw [hv] at HC
    rcases hv' : svB ys with _ | _
    · rw [hv'] at HD
      clear hn h hm h' hv hv' hs
      go_enter Try.func16, Try.ntmps16
      go_wp2_with fail
      refine HC.out.mono ?_
      rintro e w' ⟨rfl, rfl⟩
      go_wp2_with fail
      refine HD.out.mono ?_
      rintro e w' ⟨rfl, rfl⟩
      go_wp2
      go_ret2
      exact RetSB.nil (by rw [HE.out]; rfl) (by rw [HE.out]; rfl) (Ext.refl _)
    · rw [hv'] at HD
      have hd : decide (-100000 ≤ t ∧ t ≤ 100000) = false := by simpa [saB, hv, hv'] using hs
      rw [hd] at HI
      clear hn h hm h' hv hv' hs hd
      go_enter Try.func16, Try.ntmps16
      go_wp2_with fail
      refine HC.out.mono ?_
      rintro e w' ⟨rfl, rfl⟩
      go_wp2_with fail
      refine HD.out.mono ?_
      rintro e w' ⟨rfl, rfl⟩
      go_wp2_with fail
      refine HI.out.mono ?_
      rintro e w' ⟨rfl, rfl⟩
      go_wp2
      go_ret2
      exact RetSB.nil (by rw [HE.out]; rfl) (by rw [HE.out]; rfl) (Ext.refl _)
  have hp := hs
  simp only [saB, Bool.and_eq_true] at hp
  obtain ⟨⟨hv, hv'⟩, hd⟩ := hp
  rw [hv] at HC
  rw [hv'] at HD
  rw [hd] at HI
  obtain rfl : n = 16 := by rw [← hn]; exact svB_16 hv
  obtain rfl : m = 16 := by rw [← hm]; exact svB_16 hv'
  have ht : -100000 ≤ t ∧ t ≤ 100000 := by simpa using hd
  have HA := Lib.hid (addTimes_any A B c d xs ys t w hn hm (fun k => by have := svB_IB hv k; omega) (fun k => by have a := svB_IB hv' k; have := mul_le_of ht.1 ht.2 a.1 a.2; omega) h h')
  rcases hw : svB (addL xs ys t) with _ | _
  · have HE : Hid (saL xs ys t = []) := by show _ = _; simp [saL, skyOr, hw]
    have HO : Hid (saOk xs ys t = false) := by show _ = _; simp [saOk, hw]
    rw [HO.out]
    have HW := Lib.hid hw
    clear hn h hm h' hv hv' hs hd ht hw
    go_enter Try.func16, Try.ntmps16
    go_wp2_with fail
    refine HC.out.mono ?_
    rintro e w' ⟨rfl, rfl⟩
    go_wp2_with fail
    refine HD.out.mono ?_
    rintro e w' ⟨rfl, rfl⟩
    go_wp2_with fail
    refine HI.out.mono ?_
    rintro e w' ⟨rfl, rfl⟩
    go_wp2_with fail
    refine HA.out.mono ?_
    rintro e w1 ⟨A1, c1, rfl, s1, x1⟩
    go_wp2_with fail
    refine (skyChecked_no A1 16 c1 (addL xs ys t) _ (addL_length _ _ _) s1.rd HW.out).mono ?_
    rintro e w' ⟨rfl, rfl⟩
    go_wp2
    go_ret2
    exact RetSB.nil (by rw [HE.out]; rfl) (by rw [HE.out]; rfl) x1
  · have HE : Hid (saL xs ys t = addL xs ys t) := by show _ = _; simp [saL, skyOr, hw, hs]
    have HO : Hid (saOk xs ys t = true) := by show _ = _; simp [saOk, hw, hs]
    rw [HO.out]
    have HW := Lib.hid hw
    clear hn h hm h' hv hv' hs hd ht hw
    go_enter Try.func16, Try.ntmps16
    go_wp2_with fail
    refine HC.out.mono ?_
    rintro e w' ⟨rfl, rfl⟩
    go_wp2_with fail
    refine HD.out.mono ?_
    rintro e w' ⟨rfl, rfl⟩
    go_wp2_with fail
    refine HI.out.mono ?_
    rintro e w' ⟨rfl, rfl⟩
    go_wp2_with fail
    refine HA.out.mono ?_
    rintro e w1 ⟨A1, c1, rfl, s1, x1⟩
    go_wp2_with fail
    refine (skyChecked_yes A1 16 c1 (addL xs ys t) _ (addL_length _ _ _) s1.rd HW.out).mono ?_
    rintro e w' ⟨rfl, rfl⟩
    go_wp2
    go_ret2
    exact RetSB.mk' (by rw [HE.out, addL_length]) (by rw [HE.out]) s1 (Nat.le_refl _) x1
def sfL (a b : List Int) : List Int := if svB a && svB b then skyOr (foldL a b) else []
def sfOk (a b : List Int) : Bool := svB a && svB b && svB (foldL a b)
theorem sfL_length (a b : List Int) : (sfL a b).length ≤ 16 := by
  unfold sfL
  split
  · exact skyOr_length _
  · simp
set_option maxHeartbeats 1000000 in
theorem skyFold_any (A B : Option Addr) (n m c d : Nat) (xs ys : List Int) (w : World) (hn : xs.length = n) (hm : ys.length = m) (h : Rd w w.heap.size A n c (ints xs)) (h' : Rd w w.heap.size B m d (ints ys)) :
    Calls Try.prog 15 #[.slice A n c, .slice B m d] w (RetSB w 3 (sfL xs ys).length (ints (sfL xs ys)) (sfOk xs ys)) := by
  have HC := Lib.hid (skyValid_any A n c xs w hn h)
  have HD := Lib.hid (skyValid_any B m d ys w hm h')
  rcases hv : svB xs with _ | _
  · rw [hv] at HC
    have HE : Hid (sfL xs ys = []) := by show _ = _; simp [sfL, hv]
    have HO : Hid (sfOk xs ys = false) := by show _ = _; simp [sfOk, hv]
    rw [HO.out]
    clear hn h hm h' hv
    go_enter Try.func15, Try.ntmps15
    go_wp2_with fail
    refine HC.out.mono ?_
    rintro e w' ⟨rfl, rfl⟩
    go_wp2
    go_ret2
    exact RetSB.nil (by rw [HE.out]; rfl) (by rw [HE.out]; rfl) (Ext.refl _)
  rw [hv] at HC
  rcases hv' : svB ys with _ | _
  · rw [hv'] at HD
    have HE : Hid (sfL xs ys = []) := by show _ = _; simp [sfL, hv']
    have HO : Hid (sfOk xs ys = false) := by show _ = _; simp [sfOk, hv']
    rw [HO.out]
    clear hn h hm h' hv hv'
    go_enter Try.func15, Try.ntmps15
    go_wp2_with fail
    refine HC.out.mono ?_
    rintro e w' ⟨rfl, rfl⟩
    go_wp2_with fail
    refine HD.out.mono ?_
    rintro e w' ⟨rfl, rfl⟩
    go_wp2
    go_ret2
    exact RetSB.nil (by rw [HE.out]; rfl) (by rw [HE.out]; rfl) (Ext.refl _)
  rw [hv'] at HD
  obtain rfl : n = 16 := by rw [← hn]; exact svB_16 hv
  obtain rfl : m = 16 := by rw [← hm]; exact svB_16 hv'
  have HA := Lib.hid (fold_any A B c d xs ys w hn hm (svB_IB hv) (svB_IB hv') h h')
  rcases hw : svB (foldL xs ys) with _ | _
  · have HE : Hid (sfL xs ys = []) := by show _ = _; simp [sfL, skyOr, hw]
    have HO : Hid (sfOk xs ys = false) := by show _ = _; simp [sfOk, hw]
    rw [HO.out]
    have HW := Lib.hid hw
    clear hn h hm h' hv hv' hw
    go_enter Try.func15, Try.ntmps15
    go_wp2_with fail
    refine HC.out.mono ?_
    rintro e w' ⟨rfl, rfl⟩
    go_wp2_with fail
    refine HD.out.mono ?_
    rintro e w' ⟨rfl, rfl⟩
    go_wp2_with fail
    refine HA.out.mono ?_
    rintro e w1 ⟨A1, c1, rfl, s1, x1⟩
    go_wp2_with fail
    refine (skyChecked_no A1 16 c1 (foldL xs ys) _ (foldL_length _ _) s1.rd HW.out).mono ?_
    rintro e w' ⟨rfl, rfl⟩
    go_wp2
    go_ret2
    exact RetSB.nil (by rw [HE.out]; rfl) (by rw [HE.out]; rfl) x1
  · have HE : Hid (sfL xs ys = foldL xs ys) := by show _ = _; simp [sfL, skyOr, hw, hv, hv']
    have HO : Hid (sfOk xs ys = true) := by show _ = _; simp [sfOk, hw, hv, hv']
    rw [HO.out]
    have HW := Lib.hid hw
    clear hn h hm h' hv hv' hw
    go_enter Try.func15, Try.ntmps15
    go_wp2_with fail
    refine HC.out.mono ?_
    rintro e w' ⟨rfl, rfl⟩
    go_wp2_with fail
    refine HD.out.mono ?_
    rintro e w' ⟨rfl, rfl⟩
    go_wp2_with fail
    refine HA.out.mono ?_
    rintro e w1 ⟨A1, c1, rfl, s1, x1⟩
    go_wp2_with fail
    refine (skyChecked_yes A1 16 c1 (foldL xs ys) _ (foldL_length _ _) s1.rd HW.out).mono ?_
    rintro e w' ⟨rfl, rfl⟩
    go_wp2
    go_ret2
    exact RetSB.mk' (by rw [HE.out, foldL_length]) (by rw [HE.out]) s1 (Nat.le_refl _) x1
end Go.Proofs.Ytbafniaohjjacab
