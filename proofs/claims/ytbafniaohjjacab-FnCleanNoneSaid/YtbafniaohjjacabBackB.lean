/-
  Contracts of the reference's DirtyOf and BeamOf.
-/
import Derived.Test.YtbafniaohjjacabBack
import Derived.Test.YtbafniaohjjacabCovD
namespace Go.Proofs.Ytbafniaohjjacab
open Go.RowKit

set_option maxHeartbeats 2000000 in
theorem specDirtyOf_any (A B : Option Addr) (n m c d : Nat) (xs : List Int) (bs : List Bool) (w : World) (hn : xs.length = n) (hm : bs.length = m) (hz : n ≤ 1048576) (h : Rd w w.heap.size A n c (ints xs)) (h' : Rd w w.heap.size B m d (bools bs)) :
    Calls Try.prog 53 #[.slice A n c, .slice B m d] w (RetSB w 3 (doL xs bs).length (ints (doL xs bs)) (dokB xs bs)) := by
  have HT := Lib.hid (specSkyTransform_any A n c xs w hn hz h)
  have HV := Lib.hid (fun (W : World) (x : Ext w W) => specCoverValid_any B m d bs W hm (h'.ext x))
  rcases hv : svB xs with _ | _
  · rw [hv] at HT
    have HE : Hid (doL xs bs = []) := by show _ = _; simp [doL, dokB, hv]
    have HO : Hid (dokB xs bs = false) := by show _ = _; simp [dokB, hv]
    rw [HO.out]
    clear hn hm h h' hv
    go_enter Try.func53, Try.ntmps53
    go_wp2_with fail
    refine HT.out.mono ?_
    rintro e w1 ⟨A1, c1, rfl, s1, x1⟩
    go_wp2
    go_ret2
    exact RetSB.nil (by rw [HE.out]; rfl) (by rw [HE.out]; rfl) (x1.alloc _)
  rw [hv] at HT
  rcases hc : cvB bs with _ | _
  · rw [hc] at HV
    have HE : Hid (doL xs bs = []) := by show _ = _; simp [doL, dokB, hc]
    have HO : Hid (dokB xs bs = false) := by show _ = _; simp [dokB, hc]
    rw [HO.out]
    clear hn hm h h' hv hc
    go_enter Try.func53, Try.ntmps53
    go_wp2_with fail
    refine HT.out.mono ?_
    rintro e w1 ⟨A1, c1, rfl, s1, x1⟩
    go_wp2_with fail
    refine (HV.out _ x1).mono ?_
    rintro e w2 ⟨rfl, y2⟩
    go_wp2
    go_ret2
    exact RetSB.nil (by rw [HE.out]; rfl) (by rw [HE.out]; rfl) ((x1.trans y2.ext).alloc _)
  rw [hc] at HV
  obtain rfl : m = 16 := by rw [← hm]; exact cvB_16 hc
  have eT : tsL xs = skyG xs := by simp [tsL, hv]
  rw [eT, skyG_length] at HT
  have HM := Lib.hid (fun (W : World) (A1 : Option Addr) (c1 : Nat) (x : Ext w W) (r : Rd W W.heap.size A1 16 c1 (pairs (skyG xs))) => l23Mask_any A1 B c1 d (skyG xs) bs W (skyG_length xs) hm r (h'.ext x))
  have HB := Lib.hid (fun (W : World) (A1 : Option Addr) (c1 x y k : Nat) (hx : x < 4) (hy : y < 4) (hk : 4 * y + x = k) (r : Rd W W.heap.size A1 16 c1 (pairs (maskL (skyG xs) bs))) => l21Back_any A1 c1 (maskL (skyG xs) bs) x y k W (maskL_length (skyG_length xs) hm) hx hy hk (maskL_GB (by omega) (skyG_GB hv)) r)
  have HD : Hid (dokB xs bs = svB (dirtyR xs bs)) := by show _ = _; simp [dokB, hv, hc]
  have hfl : ∀ (a b : Value) (W : World), (Instr.field 77 (.agg #[a, b]) 0).run Try.prog W = .ok a W := fun _ _ _ => by kernel_rfl
  clear hn hm h h' hv hc eT
  go_enter Try.func53, Try.ntmps53
  go_wp2_with fail
  refine HT.out.mono ?_
  rintro e w1 ⟨A1, c1, rfl, s1, x1⟩
  go_wp2_with fail
  refine (HV.out _ x1).mono ?_
  rintro e w2 ⟨rfl, y2⟩
  have x2 := x1.trans y2.ext
  have s2 := s1.ext y2.ext
  clear HT HV s1
  go_wp2_with fail
  go_loopw [8, 9] (fun v i wr => ∃ k : Nat, k ≤ 16 ∧ i = .int .i64 k ∧ wr.ownsRow w2.heap.size 3 1 v k (ints ((dirtyR xs bs).take k)) ∧ Ext w2 wr) (fun _ i _ => 16 - (intOf i).toNat)
  case atStart => exact ⟨0, Nat.zero_le _, rfl, World.ownsRow_lit w2 #[] 0 (Nat.le_refl _) (by simp [maxLen]) rfl, (Ext.refl _).alloc _⟩
  case round =>
    obtain ⟨k, hk, rfl, hs, he⟩ := hrel
    by_cases hlt : k < 16
    · have HS := Lib.hid (take_snoc_of (dirtyR_at (s := xs) (c := bs) hlt))
      obtain ⟨x, hx⟩ : ∃ x, x = k % 4 := ⟨_, rfl⟩
      obtain ⟨y, hy⟩ : ∃ y, y = k / 4 := ⟨_, rfl⟩
      have HE1 : Hid ((k : Int) % 4 = (x : Int)) := by show _ = _; omega
      have HE2 : Hid ((k : Int) / 4 = (y : Int)) := by show _ = _; omega
      have lx : x < 4 := by omega
      have ly : y < 4 := by omega
      have HK : Hid (4 * y + x = k) := by show _ = _; omega
      clear hx hy
      have hsz := he.size
      go_wp2_with (go_at_call 47; refine (l21Cells_any _).mono ?_; rintro e w' ⟨rfl, rfl⟩)
      refine (HM.out _ A1 c1 (x2.trans he) (s2.ext he).rd).mono ?_
      rintro e w3 ⟨A3, c3, rfl, s3, x3⟩
      go_wp2_with fail
      rw [HE1.out, HE2.out]
      refine (HB.out _ A3 c3 x y k lx ly HK.out s3.rd).mono ?_
      rintro e w4 ⟨rfl, x4⟩
      have e4 := (he.trans x3).trans x4
      have z4 := e4.size
      have o4 := own_ext hs (x3.trans x4)
      go_wp2_with (at_builtin; refine wpList_append1 rfl _ _ _ rfl w2.heap.size 3 (.int .i64 0) 8 I.infoInt Try.underlying23 rfl _ k _ rfl o4 (.int .i64 (pre (maskL (skyG xs) bs) (-1) k 16)) rfl rfl (by omega) (by omega) z4 ?_; intro v' w' hs' he')
      go_roundw
      case rel => exact ⟨k + 1, by omega, by go_num, by rw [HS.out, ← ints_append]; exact hs', he' w2 e4 (Nat.le_refl _)⟩
      case measure => simp [intOf]; omega
    · obtain rfl : k = 16 := by omega
      rw [List.take_of_length_le (by rw [dirtyR_length]; omega)] at hs
      obtain ⟨A5, c5, rfl, s5⟩ := Sl.of_own hs
      have HW := Lib.hid (specSkyValid_any A5 16 c5 (dirtyR xs bs) wr (dirtyR_length _ _) (by omega) s5.rd)
      rcases hw : svB (dirtyR xs bs) with _ | _
      · rw [hw] at HW
        have HO : Hid (dokB xs bs = false) := by show _ = _; rw [HD.out, hw]
        have HE : Hid (doL xs bs = []) := by show _ = _; simp [doL, HO.out]
        clear hw
        go_wp2_with (first
          | (go_at_call 47; refine (l21Cells_any _).mono ?_; rintro e w' ⟨rfl, rfl⟩)
          | (go_at_call 31; refine HW.out.mono ?_; rintro e w' ⟨rfl, rfl⟩))
        go_ret2
        rw [HE.out, HO.out]
        exact RetSB.nil rfl rfl ((x2.trans he).alloc _)
      · rw [hw] at HW
        have HO : Hid (dokB xs bs = true) := by show _ = _; rw [HD.out, hw]
        have HE : Hid (doL xs bs = dirtyR xs bs) := by show _ = _; simp [doL, HO.out]
        clear hw
        go_wp2_with (first
          | (go_at_call 47; refine (l21Cells_any _).mono ?_; rintro e w' ⟨rfl, rfl⟩)
          | (go_at_call 31; refine HW.out.mono ?_; rintro e w' ⟨rfl, rfl⟩))
        go_ret2
        rw [HE.out, HO.out]
        exact RetSB.mk' (dirtyR_length _ _).symm rfl s5 x2.size (x2.trans he)
end Go.Proofs.Ytbafniaohjjacab
