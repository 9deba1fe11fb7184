/-
  The contracts of CleanFits of the program and of the reference.
-/
import Derived.Test.YtbafniaohjjacabSpecStep
namespace Go.Proofs.Ytbafniaohjjacab
open Go.RowKit

theorem foldL_IB {a b : List Int} (ha : IB 100000 a) (hb : IB 100000 b) : IB 160000000000 (foldL a b) := foldTo_IB ha hb (Nat.le_refl _)
set_option maxHeartbeats 1000000 in
theorem cleanFits_any (A B D F : Option Addr) (n c m d p q r s : Nat) (xs ys bs ds : List Int) (w : World) (h1 : xs.length = n) (h2 : ys.length = m) (h3 : bs.length = p) (h4 : ds.length = r)
    (r1 : Rd w w.heap.size A n c (ints xs)) (r2 : Rd w w.heap.size B m d (ints ys)) (r3 : Rd w w.heap.size D p q (ints bs)) (r4 : Rd w w.heap.size F r s (ints ds)) :
    Calls Try.prog 17 #[.agg #[.slice A n c, .slice B m d], .slice D p q, .slice F r s] w fun e w' => e = .returned (.bool (fitB xs ys bs ds)) ∧ Ext w w' := by
  have x0 : Ext w (w.alloc (.cells #[.slice A n c, .slice B m d] 25)) := (Ext.refl w).alloc _
  have HC := Lib.hid (cleanValid_any A B n c m d xs ys _ h1 h2 (r1.ext x0) (r2.ext x0))
  have HD := Lib.hid (fun (W : World) (x : Ext w W) => skyValid_any D p q bs W h3 (r3.ext x))
  have HF := Lib.hid (fun (W : World) (x : Ext w W) => skyValid_any F r s ds W h4 (r4.ext x))
  have S1 := Lib.hid (St.new w #[.slice A n c, .slice B m d] 25)
  rcases hv : (svB xs && svB ys) with _ | _
  · rw [hv] at HC
    have HE : Hid (fitB xs ys bs ds = false) := by show _ = _; simp only [fitB, hv, Bool.false_and]
    clear h1 h2 h3 h4 r1 r2 r3 r4 hv
    go_enter Try.func17, Try.ntmps17
    go_wp2_with fail
    refine HC.out.mono ?_
    rintro e w1 ⟨rfl, x1⟩
    go_wp2
    go_ret
    exact ⟨ret_bool HE.out.symm, x0.trans x1⟩
  rw [hv] at HC
  rcases hb : svB bs with _ | _
  · rw [hb] at HD
    have HE : Hid (fitB xs ys bs ds = false) := by show _ = _; simp [fitB, hb]
    clear h1 h2 h3 h4 r1 r2 r3 r4 hv hb
    go_enter Try.func17, Try.ntmps17
    go_wp2_with fail
    refine HC.out.mono ?_
    rintro e w1 ⟨rfl, x1⟩
    go_wp2_with fail
    refine (HD.out _ (x0.trans x1)).mono ?_
    rintro e w_ ⟨rfl, rfl⟩
    go_wp2
    go_ret
    exact ⟨ret_bool HE.out.symm, x0.trans x1⟩
  rw [hb] at HD
  rcases hd : svB ds with _ | _
  · rw [hd] at HF
    have HE : Hid (fitB xs ys bs ds = false) := by show _ = _; simp [fitB, hd]
    clear h1 h2 h3 h4 r1 r2 r3 r4 hv hb hd
    go_enter Try.func17, Try.ntmps17
    go_wp2_with fail
    refine HC.out.mono ?_
    rintro e w1 ⟨rfl, x1⟩
    go_wp2_with fail
    refine (HD.out _ (x0.trans x1)).mono ?_
    rintro e w_ ⟨rfl, rfl⟩
    go_wp2_with fail
    refine (HF.out _ (x0.trans x1)).mono ?_
    rintro e w_ ⟨rfl, rfl⟩
    go_wp2
    go_ret
    exact ⟨ret_bool HE.out.symm, x0.trans x1⟩
  rw [hd] at HF
  have hp := hv
  simp only [Bool.and_eq_true] at hp
  obtain rfl : n = 16 := by rw [← h1]; exact svB_16 hp.1
  obtain rfl : m = 16 := by rw [← h2]; exact svB_16 hp.2
  obtain rfl : p = 16 := by rw [← h3]; exact svB_16 hb
  obtain rfl : r = 16 := by rw [← h4]; exact svB_16 hd
  have HE : Hid (fitB xs ys bs ds = decide (addL (foldL xs bs) ys 1 = ds)) := by show _ = _; simp [fitB, hp.1, hp.2, hb, hd]
  have HO := Lib.hid (fun (W : World) (x : Ext w W) => fold_any A D c q xs bs W h1 h3 (svB_IB hp.1) (svB_IB hb) (r1.ext x) (r3.ext x))
  have HT := Lib.hid (fun (W : World) (x : Ext w W) (A4 : Option Addr) (c4 : Nat) (rr : Rd W W.heap.size A4 16 c4 (ints (foldL xs bs))) => addTimes_any A4 B c4 d (foldL xs bs) ys 1 W (foldL_length _ _) h2 (fun k => by have := foldL_IB (svB_IB hp.1) (svB_IB hb) k; omega) (fun k => by have := svB_IB hp.2 k; omega) rr (r2.ext x))
  have HQ := Lib.hid (fun (W : World) (x : Ext w W) (A4 : Option Addr) (c4 : Nat) (rr : Rd W W.heap.size A4 16 c4 (ints (addL (foldL xs bs) ys 1))) => slicesEqual_any A4 F c4 s (addL (foldL xs bs) ys 1) ds W (addL_length _ _ _) h4 rr (r4.ext x))
  clear h1 h2 h3 h4 r1 r2 r3 r4 hv hb hd hp
  go_enter Try.func17, Try.ntmps17
  go_wp2_with fail
  refine HC.out.mono ?_
  rintro e w1 ⟨rfl, x1⟩
  go_wp2_with fail
  refine (HD.out _ (x0.trans x1)).mono ?_
  rintro e w_ ⟨rfl, rfl⟩
  go_wp2_with fail
  refine (HF.out _ (x0.trans x1)).mono ?_
  rintro e w_ ⟨rfl, rfl⟩
  have E1 := x0.trans x1
  have SB := Lib.hid (S1.out.ext x1)
  clear HC HD HF S1 x0 x1
  go_wp2_with fail
  go_region_held3 (fun w' => w'.cell? ⟨w.heap.size, 0, none⟩ = some (.slice A 16 c) ∧ w'.cell? ⟨w.heap.size, 1, none⟩ = some (.slice B 16 d)) (exact ⟨(SB.out.ext (by repeat (first | (with_reducible exact Ext.refl _) | (with_reducible assumption) | (with_reducible refine Ext.drew ?_) | (with_reducible refine Ext.alloc ?_ _)))).cell0, (SB.out.ext (by repeat (first | (with_reducible exact Ext.refl _) | (with_reducible assumption) | (with_reducible refine Ext.drew ?_) | (with_reducible refine Ext.alloc ?_ _)))).cell1⟩)
    (first
      | (go_at_call 35; refine (HO.out _ (E1.trans (by repeat (first | (with_reducible exact Ext.refl _) | (with_reducible assumption) | (with_reducible refine Ext.drew ?_) | (with_reducible refine Ext.alloc ?_ _))))).mono ?_; rintro e w3 ⟨A3, c3, rfl, s3, x3⟩; have E3 : Ext w1 w3 := Ext.trans (by repeat (first | (with_reducible exact Ext.refl _) | (with_reducible assumption) | (with_reducible refine Ext.drew ?_) | (with_reducible refine Ext.alloc ?_ _))) x3)
      | (go_at_call 37; refine (HT.out _ (E1.trans (by repeat (first | (with_reducible exact Ext.refl _) | (with_reducible assumption) | (with_reducible refine Ext.drew ?_) | (with_reducible refine Ext.alloc ?_ _)))) A3 c3 (s3.ext (by repeat (first | (with_reducible exact Ext.refl _) | (with_reducible assumption) | (with_reducible refine Ext.drew ?_) | (with_reducible refine Ext.alloc ?_ _)))).rd).mono ?_; rintro e w4 ⟨A4, c4, rfl, s4, x4⟩; have E4 : Ext w3 w4 := Ext.trans (by repeat (first | (with_reducible exact Ext.refl _) | (with_reducible assumption) | (with_reducible refine Ext.drew ?_) | (with_reducible refine Ext.alloc ?_ _))) x4; have E4' := E3.trans E4)
      | (go_at_call 38; refine (HQ.out _ (E1.trans (by repeat (first | (with_reducible exact Ext.refl _) | (with_reducible assumption) | (with_reducible refine Ext.drew ?_) | (with_reducible refine Ext.alloc ?_ _)))) A4 c4 (s4.ext (by repeat (first | (with_reducible exact Ext.refl _) | (with_reducible assumption) | (with_reducible refine Ext.drew ?_) | (with_reducible refine Ext.alloc ?_ _)))).rd).mono ?_; rintro e w5 ⟨rfl, y5⟩; have E5 : Ext w1 w5 := Ext.trans (by repeat (first | (with_reducible exact Ext.refl _) | (with_reducible assumption) | (with_reducible refine Ext.drew ?_) | (with_reducible refine Ext.alloc ?_ _))) y5.ext))
  go_wp2
  go_ret
  exact ⟨ret_bool HE.out.symm, E1.trans E5⟩
end Go.Proofs.Ytbafniaohjjacab
