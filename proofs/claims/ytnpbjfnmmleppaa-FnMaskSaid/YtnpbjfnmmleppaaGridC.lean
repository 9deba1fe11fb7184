/-
  Contracts over grids: allGauss, GridValid, GridMask of the program and of the reference.
-/
import Derived.Test.YtnpbjfnmmleppaaGridB
namespace Go.Proofs.Ytnpbjfnmmleppaa
open Go.RowKit

def gridB (g : List (Int × Int)) : Bool := decide (g.length = 16) && g.all gvB
theorem gridB_16 {s : List (Int × Int)} (h : gridB s = true) : s.length = 16 := by simp [gridB] at h; exact h.1
theorem gridB_len {s : List (Int × Int)} (h : s.length ≠ 16) : gridB s = false := by simp [gridB, h]
theorem gridB_all {s : List (Int × Int)} (h : s.length = 16) : gridB s = s.all gvB := by simp [gridB, h]
def gAllTo (s : List (Int × Int)) (k : Nat) : Prop := ∀ j x, j < k → s[j]? = some x → gvB x = true
theorem gAllTo_succ {s : List (Int × Int)} {k : Nat} {x : Int × Int} (h : gAllTo s k) (hx : s[k]? = some x) (hi : gvB x = true) : gAllTo s (k + 1) := by
  intro j y hj hy
  by_cases hjk : j = k
  · subst hjk; rw [hx] at hy; cases hy; exact hi
  · exact h j y (by omega) hy
theorem gAllTo_end {s : List (Int × Int)} {k : Nat} (h : gAllTo s k) (hk : s.length ≤ k) : s.all gvB = true := by
  rw [List.all_eq_true]
  intro x hx
  obtain ⟨j, hj⟩ := List.mem_iff_getElem?.1 hx
  exact h j x (by have := lt_of_at hj; omega) hj
theorem gAll_false {s : List (Int × Int)} {k : Nat} {x : Int × Int} (hx : s[k]? = some x) (hi : gvB x = false) : s.all gvB = false := by
  rw [List.all_eq_false]
  exact ⟨x, List.mem_of_getElem? hx, by simp [hi]⟩

set_option maxHeartbeats 400000 in
theorem allGauss_any (A : Option Addr) (n c : Nat) (gs : List (Int × Int)) (w : World) (hn : gs.length = n) (hz : n ≤ 1048576) (h : Rd w w.heap.size A n c (pairs gs)) :
    Calls Try.prog 25 #[.slice A n c] w fun e w' => e = .returned (.bool (gs.all gvB)) ∧ Ext w w' := by
  have HN := Lib.hid hn
  clear hn
  go_enter Try.func25, Try.ntmps25
  go_wp2
  go_loopw [7] (fun i wr => ∃ k : Nat, k ≤ n ∧ i = .int .i64 k ∧ Hid (gAllTo gs k) ∧ Ext w wr) (fun i _ => n - (intOf i).toNat)
  case atStart => exact ⟨0, Nat.zero_le _, rfl, fun _ _ h => by omega, Ext.refl _⟩
  case round =>
    obtain ⟨k, hk, rfl, hto, he⟩ := hrel
    by_cases hlt : k < n
    · obtain ⟨⟨p, q⟩, hb⟩ := at_of_lt (l := gs) (k := k) (by have := HN.out; omega)
      obtain ⟨g, off, rfl⟩ := h.addr (by rw [pairs_length, HN.out]; omega)
      have hc0 := (h.below he.below).fst hb
      have hc1 := (h.below he.below).snd hb
      have HB := Lib.hid hb
      have HC := Lib.hid (fun w' => gaussValid_any p q w')
      clear hb
      rcases hi : gvB (p, q) with _ | _
      · rw [hi] at HC
        have HI := Lib.hid hi
        clear hi
        go_wp2_with (go_at_call 32; refine (HC.out _).mono ?_; rintro e w1 ⟨rfl, x1⟩)
        go_ret
        exact ⟨ret_bool (gAll_false HB.out HI.out).symm, (he.alloc _).trans x1⟩
      · rw [hi] at HC
        have HI := Lib.hid hi
        clear hi
        go_wp2_with (go_at_call 32; refine (HC.out _).mono ?_; rintro e w1 ⟨rfl, x1⟩)
        go_roundw
        case rel => exact ⟨k + 1, by omega, by go_num, gAllTo_succ hto HB.out HI.out, (he.alloc _).trans x1⟩
        case measure => simp [intOf]; omega
    · go_wp2
      go_ret
      exact ⟨ret_bool (gAllTo_end hto (by rw [HN.out]; omega)).symm, he⟩
theorem gridValid_any (A : Option Addr) (n c : Nat) (gs : List (Int × Int)) (w : World) (hn : gs.length = n) (h : Rd w w.heap.size A n c (pairs gs)) :
    Calls Try.prog 13 #[.slice A n c] w fun e w' => e = .returned (.bool (gridB gs)) ∧ Ext w w' := by
  by_cases h16 : n = 16
  · subst h16
    have HC := Lib.hid (allGauss_any A 16 c gs w hn (by omega) h)
    rw [← gridB_all hn] at HC
    clear hn h
    go_enter Try.func13, Try.ntmps13
    go_wp2_with (go_at_call 25; refine HC.out.mono ?_; rintro e w1 ⟨rfl, x1⟩)
    go_ret
    exact ⟨rfl, x1⟩
  · have h16' : ((n : Int) == 16) = false := by simp; omega
    have HS := Lib.hid (gridB_len (by rw [hn]; exact h16))
    clear hn h
    go_enter Try.func13, Try.ntmps13
    go_wp2
    go_ret
    exact ⟨ret_bool HS.out.symm, Ext.refl _⟩
set_option maxHeartbeats 400000 in
theorem specGridValid_any (A : Option Addr) (n c : Nat) (gs : List (Int × Int)) (w : World) (hn : gs.length = n) (hz : n ≤ 1048576) (h : Rd w w.heap.size A n c (pairs gs)) :
    Calls Try.prog 16 #[.slice A n c] w fun e w' => e = .returned (.bool (gridB gs)) ∧ Ext w w' := by
  have HN := Lib.hid hn
  clear hn
  go_enter Try.func16, Try.ntmps16
  go_wp2
  go_loopw [3] (fun i wr => ∃ k : Nat, k ≤ n ∧ i = .int .i64 k ∧ Hid (gAllTo gs k) ∧ Ext w wr) (fun i _ => n - (intOf i).toNat)
  case atStart => exact ⟨0, Nat.zero_le _, rfl, fun _ _ h => by omega, Ext.refl _⟩
  case round =>
    obtain ⟨k, hk, rfl, hto, he⟩ := hrel
    by_cases hlt : k < n
    · obtain ⟨⟨p, q⟩, hb⟩ := at_of_lt (l := gs) (k := k) (by have := HN.out; omega)
      obtain ⟨g, off, rfl⟩ := h.addr (by rw [pairs_length, HN.out]; omega)
      have hc0 := (h.below he.below).fst hb
      have hc1 := (h.below he.below).snd hb
      have HB := Lib.hid hb
      have HC := Lib.hid (fun w' => specGaussValid_any p q w')
      clear hb
      rcases hi : gvB (p, q) with _ | _
      · rw [hi] at HC
        have HI := Lib.hid hi
        clear hi
        go_wp2_with (go_at_call 27; refine (HC.out _).mono ?_; rintro e w1 ⟨rfl, x1⟩)
        go_ret
        exact ⟨ret_bool (by unfold gridB; rw [gAll_false HB.out HI.out]; simp), he.trans x1⟩
      · rw [hi] at HC
        have HI := Lib.hid hi
        clear hi
        go_wp2_with (go_at_call 27; refine (HC.out _).mono ?_; rintro e w1 ⟨rfl, x1⟩)
        go_roundw
        case rel => exact ⟨k + 1, by omega, by go_num, gAllTo_succ hto HB.out HI.out, he.trans x1⟩
        case measure => simp [intOf]; omega
    · go_wp2_with (go_at_call 23; refine (l21Cells_any _).mono ?_; rintro e w' ⟨rfl, rfl⟩)
      go_ret
      refine ⟨ret_bool ?_, he⟩
      unfold gridB
      rw [gAllTo_end hto (by rw [HN.out]; omega), HN.out]
      rw [Bool.eq_iff_iff]
      simp
      omega
def gridMask (g : List (Int × Int)) (c : List Bool) : List (Int × Int) := if gridB g && cvB c then maskL g c else []
theorem gridMask_length (g : List (Int × Int)) (c : List Bool) : (gridMask g c).length ≤ 16 := by
  unfold gridMask
  split
  · next h =>
    simp only [Bool.and_eq_true] at h
    rw [maskL_length (gridB_16 h.1) (cvB_16 h.2)]
    omega
  · simp
set_option maxHeartbeats 400000 in
theorem gridMask_any (A B : Option Addr) (n m c d : Nat) (gs : List (Int × Int)) (bs : List Bool) (w : World) (hn : gs.length = n) (hm : bs.length = m) (h : Rd w w.heap.size A n c (pairs gs)) (h' : Rd w w.heap.size B m d (bools bs)) :
    Calls Try.prog 5 #[.slice A n c, .slice B m d] w (RetSB w 31 (gridMask gs bs).length (pairs (gridMask gs bs)) (gridB gs && cvB bs)) := by
  have HG := Lib.hid (gridValid_any A n c gs w hn h)
  have HV := Lib.hid (fun (w1 : World) (x : Ext w w1) => coverValid_any B m d bs w1 hm (h'.ext x))
  rcases hg : gridB gs with _ | _
  · rw [hg] at HG
    have HE : Hid (gridMask gs bs = []) := by show _ = _; simp [gridMask, hg]
    clear hn hm h h' hg
    go_enter Try.func5, Try.ntmps5
    go_wp2_with fail
    refine HG.out.mono ?_
    rintro e w1 ⟨rfl, x1⟩
    go_wp2
    go_ret2
    exact RetSB.nil (by rw [HE.out]; rfl) (by rw [HE.out]; rfl) x1
  rw [hg] at HG
  rcases hv : cvB bs with _ | _
  · rw [hv] at HV
    have HE : Hid (gridMask gs bs = []) := by show _ = _; simp [gridMask, hg, hv]
    clear hn hm h h' hg hv
    go_enter Try.func5, Try.ntmps5
    go_wp2_with fail
    refine HG.out.mono ?_
    rintro e w1 ⟨rfl, x1⟩
    go_wp2_with fail
    refine (HV.out _ x1).mono ?_
    rintro e w2 ⟨rfl, rfl⟩
    go_wp2
    go_ret2
    exact RetSB.nil (by rw [HE.out]; rfl) (by rw [HE.out]; rfl) x1
  · rw [hv] at HV
    obtain rfl : n = 16 := by rw [← hn]; exact gridB_16 hg
    obtain rfl : m = 16 := by rw [← hm]; exact cvB_16 hv
    have HE : Hid (gridMask gs bs = maskL gs bs) := by show _ = _; simp [gridMask, hg, hv]
    have HK := Lib.hid (fun (w1 : World) (x : Ext w w1) => masked_any A B c d gs bs w1 hn hm (h.ext x) (h'.ext x))
    have HL := Lib.hid (maskL_length hn hm)
    clear hn hm h h' hg hv
    go_enter Try.func5, Try.ntmps5
    go_wp2_with fail
    refine HG.out.mono ?_
    rintro e w1 ⟨rfl, x1⟩
    go_wp2_with fail
    refine (HV.out _ x1).mono ?_
    rintro e w2 ⟨rfl, rfl⟩
    go_wp2_with fail
    refine (HK.out _ x1).mono ?_
    rintro e w3 ⟨A3, c3, rfl, s3, x3⟩
    go_wp2
    go_ret2
    exact RetSB.mk' (by rw [HE.out, HL.out]) (by rw [HE.out]) s3 x1.size (x1.trans x3)
set_option maxHeartbeats 400000 in
theorem specGridMask_any (A B : Option Addr) (n m c d : Nat) (gs : List (Int × Int)) (bs : List Bool) (w : World) (hn : gs.length = n) (hm : bs.length = m) (hz : n ≤ 1048576) (h : Rd w w.heap.size A n c (pairs gs)) (h' : Rd w w.heap.size B m d (bools bs)) :
    Calls Try.prog 6 #[.slice A n c, .slice B m d] w (RetSB w 31 (gridMask gs bs).length (pairs (gridMask gs bs)) (gridB gs && cvB bs)) := by
  have HG := Lib.hid (specGridValid_any A n c gs w hn hz h)
  have HV := Lib.hid (fun (w1 : World) (x : Ext w w1) => specCoverValid_any B m d bs w1 hm (h'.ext x))
  rcases hg : gridB gs with _ | _
  · rw [hg] at HG
    have HE : Hid (gridMask gs bs = []) := by show _ = _; simp [gridMask, hg]
    clear hn hm h h' hg
    go_enter Try.func6, Try.ntmps6
    go_wp2_with fail
    refine HG.out.mono ?_
    rintro e w1 ⟨rfl, x1⟩
    go_wp2
    go_ret2
    exact RetSB.nil (by rw [HE.out]; rfl) (by rw [HE.out]; rfl) (x1.alloc _)
  rw [hg] at HG
  rcases hv : cvB bs with _ | _
  · rw [hv] at HV
    have HE : Hid (gridMask gs bs = []) := by show _ = _; simp [gridMask, hg, hv]
    clear hn hm h h' hg hv
    go_enter Try.func6, Try.ntmps6
    go_wp2_with fail
    refine HG.out.mono ?_
    rintro e w1 ⟨rfl, x1⟩
    go_wp2_with fail
    refine (HV.out _ x1).mono ?_
    rintro e w2 ⟨rfl, q2⟩
    go_wp2
    go_ret2
    exact RetSB.nil (by rw [HE.out]; rfl) (by rw [HE.out]; rfl) ((x1.trans q2.ext).alloc _)
  · rw [hv] at HV
    obtain rfl : n = 16 := by rw [← hn]; exact gridB_16 hg
    obtain rfl : m = 16 := by rw [← hm]; exact cvB_16 hv
    have HE : Hid (gridMask gs bs = maskL gs bs) := by show _ = _; simp [gridMask, hg, hv]
    have HK := Lib.hid (fun (w1 : World) (x : Ext w w1) => l23Mask_any A B c d gs bs w1 hn hm (h.ext x) (h'.ext x))
    have HL := Lib.hid (maskL_length hn hm)
    clear hn hm h h' hg hv
    go_enter Try.func6, Try.ntmps6
    go_wp2_with fail
    refine HG.out.mono ?_
    rintro e w1 ⟨rfl, x1⟩
    go_wp2_with fail
    refine (HV.out _ x1).mono ?_
    rintro e w2 ⟨rfl, q2⟩
    go_wp2_with fail
    refine (HK.out _ (x1.trans q2.ext)).mono ?_
    rintro e w3 ⟨A3, c3, rfl, s3, x3⟩
    go_wp2
    go_ret2
    exact RetSB.mk' (by rw [HE.out, HL.out]) (by rw [HE.out]) s3 (x1.trans q2.ext).size ((x1.trans q2.ext).trans x3)
end Go.Proofs.Ytnpbjfnmmleppaa
