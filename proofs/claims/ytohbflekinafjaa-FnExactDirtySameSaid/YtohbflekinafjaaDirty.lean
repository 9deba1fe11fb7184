/-
  Contracts of the program's SkyTransform, DirtyOf and DirtySame, and of the reference's DirtySame.
-/
import Derived.Test.YtohbflekinafjaaTransI
import Derived.Test.YtohbflekinafjaaBackB
import Derived.Test.YtohbflekinafjaaGridC
import Derived.Test.YtohbflekinafjaaDirtyPlain
import Derived.Test.YtohbflekinafjaaSkyFns
namespace Go.Proofs.Ytohbflekinafjaa
open Go.RowKit

theorem skyG_eq (s : List Int) : skyG s = skyT s := rfl
theorem dirtyR_eq (s : List Int) (c : List Bool) : dirtyR s c = dirtL s c := rfl
theorem GB_mono {M K : Int} {g : List (Int × Int)} (h : GB M g) (hk : M ≤ K) : GB K g := fun k p q hp => by have := h k p q hp; omega
set_option maxHeartbeats 1000000 in
theorem dirtyOf_any (A B : Option Addr) (n m c d : Nat) (xs : List Int) (bs : List Bool) (w : World) (hn : xs.length = n) (hm : bs.length = m) (h : Rd w w.heap.size A n c (ints xs)) (h' : Rd w w.heap.size B m d (bools bs)) :
    Calls Try.prog 24 #[.slice A n c, .slice B m d] w (RetSB w 3 (doL xs bs).length (ints (doL xs bs)) (dokB xs bs)) := by
  have HC := Lib.hid (skyValid_any A n c xs w hn h)
  have HD := Lib.hid (coverValid_any B m d bs w hm h')
  rcases hv : svB xs with _ | _
  · rw [hv] at HC
    have HE : Hid (doL xs bs = []) := by show _ = _; simp [doL, dokB, hv]
    have HO : Hid (dokB xs bs = false) := by show _ = _; simp [dokB, hv]
    rw [HO.out]
    clear hn hm h h' hv
    go_enter Try.func24, Try.ntmps24
    go_wp2_with fail
    refine HC.out.mono ?_
    rintro e w' ⟨rfl, rfl⟩
    go_wp2
    go_ret2
    exact RetSB.nil (by rw [HE.out]; rfl) (by rw [HE.out]; rfl) (Ext.refl _)
  rw [hv] at HC
  rcases hc : cvB bs with _ | _
  · rw [hc] at HD
    have HE : Hid (doL xs bs = []) := by show _ = _; simp [doL, dokB, hc]
    have HO : Hid (dokB xs bs = false) := by show _ = _; simp [dokB, hc]
    rw [HO.out]
    clear hn hm h h' hv hc
    go_enter Try.func24, Try.ntmps24
    go_wp2_with fail
    refine HC.out.mono ?_
    rintro e w' ⟨rfl, rfl⟩
    go_wp2_with fail
    refine HD.out.mono ?_
    rintro e w' ⟨rfl, rfl⟩
    go_wp2
    go_ret2
    exact RetSB.nil (by rw [HE.out]; rfl) (by rw [HE.out]; rfl) (Ext.refl _)
  rw [hc] at HD
  obtain rfl : n = 16 := by rw [← hn]; exact svB_16 hv
  obtain rfl : m = 16 := by rw [← hm]; exact cvB_16 hc
  have HR := Lib.hid (realGrid_any A 16 c xs w hn (by omega) h)
  have HT := Lib.hid (fun (W : World) (A1 : Option Addr) (c1 : Nat) (r : Rd W W.heap.size A1 16 c1 (pairs (realG xs))) => transform_any A1 c1 (realG xs) 1 W (by rw [realG_length, hn]) (by omega) (by omega) (GB_mono (realG_GB hv) (by omega)) r)
  have HM := Lib.hid (fun (W : World) (x : Ext w W) (A1 : Option Addr) (c1 : Nat) (r : Rd W W.heap.size A1 16 c1 (pairs (skyG xs))) => masked_any A1 B c1 d (skyG xs) bs W (skyG_length xs) hm r (h'.ext x))
  have HT2 := Lib.hid (fun (W : World) (A1 : Option Addr) (c1 : Nat) (r : Rd W W.heap.size A1 16 c1 (pairs (maskL (skyG xs) bs))) => transform_any A1 c1 (maskL (skyG xs) bs) (-1) W (maskL_length (skyG_length xs) hm) (by omega) (by omega) (maskL_GB (by omega) (skyG_GB hv)) r)
  have HP := Lib.hid (fun (W : World) (A1 : Option Addr) (c1 : Nat) (r : Rd W W.heap.size A1 16 c1 (pairs (transL (maskL (skyG xs) bs) (-1)))) => realParts_any A1 16 c1 (transL (maskL (skyG xs) bs) (-1)) W (transL_length _ _) (by omega) r)
  have HK : Hid (dokB xs bs = svB (dirtyR xs bs)) := by show _ = _; simp [dokB, hv, hc]
  clear hn hm h h' hv hc
  rcases hw : svB (dirtyR xs bs) with _ | _
  · have HO : Hid (dokB xs bs = false) := by show _ = _; rw [HK.out, hw]
    have HE : Hid (doL xs bs = []) := by show _ = _; simp [doL, HO.out]
    have HW := Lib.hid hw
    rw [HO.out]
    clear hw
    go_enter Try.func24, Try.ntmps24
    go_wp2_with fail
    refine HC.out.mono ?_
    rintro e w' ⟨rfl, rfl⟩
    go_wp2_with fail
    refine HD.out.mono ?_
    rintro e w' ⟨rfl, rfl⟩
    go_wp2_with fail
    refine HR.out.mono ?_
    rintro e w1 ⟨A1, c1, rfl, s1, x1⟩
    go_wp2_with fail
    refine (HT.out _ A1 c1 s1.rd).mono ?_
    rintro e w2 ⟨A2, c2, rfl, s2, x2⟩
    go_wp2_with fail
    refine (HM.out _ (x1.trans x2) A2 c2 s2.rd).mono ?_
    rintro e w3 ⟨A3, c3, rfl, s3, x3⟩
    go_wp2_with fail
    refine (HT2.out _ A3 c3 s3.rd).mono ?_
    rintro e w4 ⟨A4, c4, rfl, s4, x4⟩
    go_wp2_with fail
    refine (HP.out _ A4 c4 s4.rd).mono ?_
    rintro e w5 ⟨A5, c5, rfl, s5, x5⟩
    go_wp2_with fail
    refine (skyChecked_no A5 16 c5 (dirtyR xs bs) _ (dirtyR_length _ _) s5.rd HW.out).mono ?_
    rintro e w' ⟨rfl, rfl⟩
    go_wp2
    go_ret2
    exact RetSB.nil (by rw [HE.out]; rfl) (by rw [HE.out]; rfl) ((((x1.trans x2).trans x3).trans x4).trans x5)
  · have HO : Hid (dokB xs bs = true) := by show _ = _; rw [HK.out, hw]
    have HE : Hid (doL xs bs = dirtyR xs bs) := by show _ = _; simp [doL, HO.out]
    have HW := Lib.hid hw
    rw [HO.out]
    clear hw
    go_enter Try.func24, Try.ntmps24
    go_wp2_with fail
    refine HC.out.mono ?_
    rintro e w' ⟨rfl, rfl⟩
    go_wp2_with fail
    refine HD.out.mono ?_
    rintro e w' ⟨rfl, rfl⟩
    go_wp2_with fail
    refine HR.out.mono ?_
    rintro e w1 ⟨A1, c1, rfl, s1, x1⟩
    go_wp2_with fail
    refine (HT.out _ A1 c1 s1.rd).mono ?_
    rintro e w2 ⟨A2, c2, rfl, s2, x2⟩
    go_wp2_with fail
    refine (HM.out _ (x1.trans x2) A2 c2 s2.rd).mono ?_
    rintro e w3 ⟨A3, c3, rfl, s3, x3⟩
    go_wp2_with fail
    refine (HT2.out _ A3 c3 s3.rd).mono ?_
    rintro e w4 ⟨A4, c4, rfl, s4, x4⟩
    go_wp2_with fail
    refine (HP.out _ A4 c4 s4.rd).mono ?_
    rintro e w5 ⟨A5, c5, rfl, s5, x5⟩
    have x14 := ((x1.trans x2).trans x3).trans x4
    go_wp2_with fail
    refine (skyChecked_yes A5 16 c5 (dirtyR xs bs) _ (dirtyR_length _ _) s5.rd HW.out).mono ?_
    rintro e w' ⟨rfl, rfl⟩
    go_wp2
    go_ret2
    exact RetSB.mk' (by rw [HE.out, dirtyR_length]) (by rw [HE.out]; rfl) s5 x14.size (x14.trans x5)
end Go.Proofs.Ytohbflekinafjaa
