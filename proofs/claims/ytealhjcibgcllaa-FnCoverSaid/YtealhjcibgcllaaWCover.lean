/-
  The walk of FnCover: it returns true and writes nothing that was there.
-/
import Derived.Test.YtealhjcibgcllaaCovD
import Derived.Test.YtealhjcibgcllaaFlags
import Derived.Test.YtealhjcibgcllaaDrawC
namespace Go.Proofs.Ytealhjcibgcllaa.fnCover
open Go.RowKit
set_option linter.unusedVariables false

set_option maxHeartbeats 1000000 in
theorem walk (A0 : Option Addr) (n0 c0 : Nat) (b0 : List Int) (A1 : Option Addr) (n1 c1 : Nat) (b1 : List Int) (w : World) (hn0 : b0.length = n0) (hm0 : n0 ≤ 9223372036854775807) (h0 : Rd w w.heap.size A0 n0 c0 (b0.map (.int .u8))) (hw0 : ∀ z ∈ b0, 0 ≤ z ∧ z ≤ 255) (hn1 : b1.length = n1) (hm1 : n1 ≤ 9223372036854775807) (h1 : Rd w w.heap.size A1 n1 c1 (b1.map (.int .u8))) (hw1 : ∀ z ∈ b1, 0 ≤ z ∧ z ≤ 255) :
    Calls Try.prog 5 #[.slice A0 n0 c0, .slice A1 n1 c1] w fun e w' => e = .returned (.bool true) ∧ Ext w w' := by
  have HN0 := Lib.hid hn0
  clear hn0
  have HW0 := Lib.hid hw0
  clear hw0
  have HN1 := Lib.hid hn1
  clear hn1
  have HW1 := Lib.hid hw1
  clear hw1
  by_cases hz0 : n0 ≤ 1048576
  case neg =>
    go_enter Try.func5, Try.ntmps5
    go_wp2
    go_ret
    exact ⟨rfl, Ext.refl _⟩
  by_cases hz1 : n1 ≤ 1048576
  case neg =>
    go_enter Try.func5, Try.ntmps5
    go_wp2
    go_ret
    exact ⟨rfl, Ext.refl _⟩
  go_enter Try.func5, Try.ntmps5
  go_wp2_with fail
  refine (drawCoverValid_any A0 n0 c0 b0 _ HN0.out hm0 h0 HW0.out).mono ?_
  rintro e w1 ⟨A_c, n_c, c_c, c, rfl, hl_c, hb_c, s_c, x1⟩
  have HL_c := Lib.hid hl_c
  clear hl_c
  have E := x1
  rcases hv : cvB c with _ | _
  case false =>
    go_wp2_with fail
    refine (coverValid_any A_c n_c c_c c _ HL_c.out s_c.rd).mono ?_
    rintro e w_ ⟨rfl, rfl⟩
    go_wp2_with fail
    refine (specCoverValid_any A_c n_c c_c c _ HL_c.out s_c.rd).mono ?_
    rintro e w2 ⟨rfl, y2⟩
    have x2 := y2.ext
    replace s_c := s_c.ext x2
    replace E := E.trans x2
    go_wp2
    go_ret
    exact ⟨rfl, E⟩
  have h16 := cvB_16 hv
  obtain rfl : n_c = 16 := by have := HL_c.out; omega
  obtain ⟨g, off, rfl, hg1, hg2, hg3⟩ := s_c.addr (by rw [bools_length, h16]; omega)
  have H16 := Lib.hid h16
  clear h16
  have hcap := s_c.1
  go_wp2_with fail
  refine (coverValid_any (some ⟨g, off, none⟩) 16 c_c c _ HL_c.out s_c.rd).mono ?_
  rintro e w_ ⟨rfl, rfl⟩
  go_wp2_with fail
  refine (specCoverValid_any (some ⟨g, off, none⟩) 16 c_c c _ HL_c.out s_c.rd).mono ?_
  rintro e w3 ⟨rfl, y3⟩
  have x3 := y3.ext
  replace s_c := s_c.ext x3
  replace E := E.trans x3
  obtain ⟨k, hk⟩ : ∃ k : Nat, k = n1 % 16 := ⟨_, rfl⟩
  have hk16 : k < 16 := by omega
  have hkI : (n1 : Int) % 16 = (k : Int) := by omega
  have HK := Lib.hid hk
  clear hk
  have hol := opp_lt k
  obtain ⟨b, hb⟩ := at_of_lt (l := c) (k := k) (by rw [H16.out]; omega)
  have HB := Lib.hid hb
  clear hb
  have HBO : Hid (c[opp k]? = some b) := (cvB_to hv k hk16).symm.trans HB.out
  have HO : Hid (4 * (-((k : Int) / 4) % 4) + -((k : Int) % 4) % 4 = (opp k : Int)) := by unfold opp; show _ = _; omega
  have hsz := E.size
  have hown := World.ownsRow_lit (base := w3.heap.size) (e := 4) (size := 1) w3 #[] 0 (Nat.le_refl _) (by simp [maxLen]) rfl
  have hrs := (s_c.rd.alloc (Nat.le_refl _) (.cells #[] 4)).mono (B' := (w3.alloc (.cells #[] 4)).heap.size) (by simp)
  go_wp2_with (first | (go_at_call 17; refine (lawCellAt_eq _ _ _ _ HO.out).mono ?_; rintro e w_ ⟨rfl, rfl⟩) | (at_builtin; refine wpList_appendV rfl _ _ _ rfl w3.heap.size 4 (.bool false) 1 1 A.infoBool Try.underlying22 rfl (by omega) _ 0 [] rfl hown g off 16 c_c (bools c) rfl (by rw [bools_length, H16.out]) hrs (bools_one c) (by omega) (by omega) (by omega) (by simp) ?_; intro g1 c2 wa s1 hq1 hext1; have hc1 := s1.cell (k := k) (u := .bool b) (bools_at HB.out); have hf1 := s1.frozen (by simp [bools_length, H16.out]) (0 + k); simp only [Nat.zero_add] at hc1 hf1))
  have xa : Ext w3 wa := hext1 w3 ((Ext.refl _).alloc _) (Nat.le_refl _)
  clear hext1 hown hrs
  replace s_c := s_c.ext xa
  replace E := E.trans xa
  simp only [Nat.zero_add, List.nil_append] at s1
  have s2 := s1.set_ k (.bool !b)
  rw [bools_set] at s2
  simp only [Nat.zero_add] at s2
  have E2 := E.setCell (p := ⟨g1, k, none⟩) (Nat.le_trans hsz hq1) (.bool !b)
  have s3 := s_c.far (p := ⟨g1, k, none⟩) (.inr (Nat.le_trans x3.size hq1)) (.bool !b)
  obtain ⟨wb, hwb⟩ : ∃ wb, wb = wa.setCell ⟨g1, k, none⟩ (.bool !b) := ⟨_, rfl⟩
  rw [← hwb] at s2 E2 s3
  have hlen : (c.set k !b).length = 16 := by simp [H16.out]
  have HV1 : Hid (∀ n, Calls Try.prog 12 #[.slice (some ⟨g1, 0, none⟩) 16 c2] (wb.drewN n) fun e w' => e = .returned (.bool (cvB (c.set k !b))) ∧ wb.drewN n = w') := fun n => coverValid_any _ 16 c2 _ _ hlen (s2.rd.drewN n)
  have HV2 : Hid (∀ n, Calls Try.prog 12 #[.slice (some ⟨g, off + 1, none⟩) 15 (c_c - 1)] (wb.drewN n) fun e w' => e = .returned (.bool (cvB (c.drop 1))) ∧ wb.drewN n = w') := fun n => coverValid_any _ 15 (c_c - 1) _ _ (by simp [H16.out]) (by have := (s3.drop 1 (n' := 15) (c' := c_c - 1) (by omega)).rd.drewN n; simpa [bools] using this)
  have hfl := flip_valid hv hk16 HB.out
  have hdr := drop_invalid hv
  rw [hdr] at HV2
  rw [hfl] at HV1
  have hk1 := s3.cell (bools_at HB.out)
  have hk2 := s3.cell (bools_at HBO.out)
  have m1 : (0 : Int) ≤ (k : Int) := by omega
  have m2 : (k : Int) < 16 := by omega
  have m3 : (0 : Int) ≤ (opp k : Int) := by omega
  have m4 : (opp k : Int) < 16 := by omega
  have m5 : (16 : Int) ≤ (c_c : Int) := by omega
  clear hlen hfl hdr s1 s_c
  have HWB := Lib.hid hwb
  clear hwb
  by_cases hko : k = opp k
  · have ht : ((k : Int) == (opp k : Int)) = true := by simp; omega
    rw [decide_eq_true hko] at HV1
    have HKO := Lib.hid hko
    clear hko
    rw [← HWB.out]
    go_quiet ((go_at_call 12; first | (with_reducible exact quiet_same (HV1.out _)) | (with_reducible exact quiet_same (HV2.out _))))
    go_wp2
    go_ret
    exact ⟨rfl, E2.drewN _⟩
  · have ht : ((k : Int) == (opp k : Int)) = false := by simp; omega
    rw [decide_eq_false hko] at HV1
    have HKO := Lib.hid hko
    clear hko
    rw [← HWB.out]
    go_quiet ((go_at_call 12; first | (with_reducible exact quiet_same (HV1.out _)) | (with_reducible exact quiet_same (HV2.out _))))
    go_wp2
    go_ret
    exact ⟨rfl, E2.drewN _⟩
end Go.Proofs.Ytealhjcibgcllaa.fnCover
