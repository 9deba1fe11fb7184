/-
  What FnMask and FnMaskJoin use: the law's own gauss and sameGrid, and plain facts on masks.
-/
import Derived.Test.YtnpbjfnmmleppaaGridC
import Derived.Laws.StructEq
namespace Go.Proofs.Ytnpbjfnmmleppaa
open Go.RowKit

theorem lawGauss_x (a b : Int) (w : World) :
    Calls Try.prog 8 #[.int .i64 a, .int .i64 b] w fun e w' => e = .returned (.agg #[.int .i64 a, .int .i64 b]) ∧ Ext w w' := by
  go_enter Try.func8, Try.ntmps8
  go_wp2
  simp [bodyPost, results, Try.results8, go_sem]
  repeat (first | exact Ext.refl _ | refine Ext.drew ?_ | refine Ext.alloc ?_ _)
theorem neqG (a b : Int) (w : World) : (binOp .neq 31 (.agg #[.int .i64 a, .int .i64 b]) (.agg #[.int .i64 a, .int .i64 b])).run Try.prog w = .ok (.bool false) w := by
  simp [go_sem]
theorem neqGG (a b c d : Int) (w : World) : (binOp .neq 31 (.agg #[.int .i64 a, .int .i64 b]) (.agg #[.int .i64 c, .int .i64 d])).run Try.prog w = .ok (.bool (decide ((a, b) ≠ (c, d)))) w := by
  by_cases h1 : a = c <;> by_cases h2 : b = d <;> simp [go_sem, h1, h2]
def eqToGM (a b : List (Int × Int)) (k : Nat) : Prop := ∀ j, j < k → a[j]? = b[j]?
theorem eqToGM_succ {a b : List (Int × Int)} {k : Nat} (h : eqToGM a b k) (e : a[k]? = b[k]?) : eqToGM a b (k + 1) := by
  intro j hj
  by_cases hjk : j = k
  · subst hjk; exact e
  · exact h j (by omega)
theorem eqToGM_all {a b : List (Int × Int)} {n : Nat} (h : eqToGM a b n) (h1 : a.length = n) (h2 : b.length = n) : a = b := by
  apply List.ext_getElem?
  intro j
  by_cases hj : j < n
  · exact h j hj
  · rw [List.getElem?_eq_none (by omega), List.getElem?_eq_none (by omega)]
set_option maxHeartbeats 1000000 in
theorem sameGrid_any (A B : Option Addr) (n m c d : Nat) (xs ys : List (Int × Int)) (w : World) (hn : xs.length = n) (hm : ys.length = m) (hz : n ≤ 1048576) (h : Rd w w.heap.size A n c (pairs xs)) (h' : Rd w w.heap.size B m d (pairs ys)) :
    Calls Try.prog 7 #[.slice A n c, .slice B m d] w fun e w' => e = .returned (.bool (decide (xs = ys))) ∧ Quiet w w' := by
  have HN := Lib.hid hn
  have HM := Lib.hid hm
  by_cases hnm : n = m
  case neg =>
    have e1 : ((n : Int) != (m : Int)) = true := by simp; omega
    have HD : Hid (decide (xs = ys) = false) := by show _ = _; rw [decide_eq_false]; rintro rfl; omega
    clear hn hm h h'
    go_enter Try.func7, Try.ntmps7
    go_wp2
    go_ret
    exact ⟨ret_bool HD.out.symm, Quiet.refl _⟩
  subst hnm
  clear hn hm
  go_enter Try.func7, Try.ntmps7
  go_wp2
  go_loopw [5] (fun i wr => ∃ k : Nat, k ≤ n ∧ i = .int .i64 k ∧ Hid (eqToGM xs ys k) ∧ Quiet w wr) (fun i _ => n - (intOf i).toNat)
  case atStart => exact ⟨0, Nat.zero_le _, rfl, fun _ h => by omega, Quiet.refl _⟩
  case round =>
    obtain ⟨k, hk, rfl, hto, hq⟩ := hrel
    by_cases hlt : k < n
    · obtain ⟨g, off, rfl⟩ := h.addr (by rw [pairs_length, HN.out]; omega)
      obtain ⟨g', off', rfl⟩ := h'.addr (by rw [pairs_length, HM.out]; omega)
      obtain ⟨⟨p, q⟩, hb⟩ := at_of_lt (l := xs) (k := k) (by have := HN.out; omega)
      obtain ⟨⟨p', q'⟩, he⟩ := at_of_lt (l := ys) (k := k) (by have := HM.out; omega)
      have hc0 := (hq.cell _).trans (h.fst hb)
      have hc1 := (hq.cell _).trans (h.snd hb)
      have hd0 := (hq.cell _).trans (h'.fst he)
      have hd1 := (hq.cell _).trans (h'.snd he)
      have HB := Lib.hid hb
      have HE := Lib.hid he
      have h2 : (k : Int) < (n : Int) := by omega
      have h3 : (0 : Int) ≤ (k : Int) := by omega
      have hne := neqGG p q p' q'
      clear hb he
      by_cases hbe : (p, q) = (p', q')
      · obtain ⟨rfl, rfl⟩ := Prod.mk.inj hbe
        rw [decide_eq_false (by simp)] at hne
        clear hbe
        go_wp2
        go_quiet (fail)
        go_wp2
        go_roundw
        case rel => exact ⟨k + 1, by omega, by go_num, eqToGM_succ hto (by rw [HB.out, HE.out]), hq.drewN _⟩
        case measure => simp [intOf]; omega
      · rw [decide_eq_true hbe] at hne
        have HBE := Lib.hid hbe
        clear hbe
        go_wp2
        go_quiet (fail)
        go_wp2
        go_ret
        exact ⟨ret_bool (by symm; rw [decide_eq_false]; rintro rfl; have := HB.out; rw [HE.out] at this; simp at this; exact HBE.out (by rw [this.1, this.2])), hq.drewN _⟩
    · go_wp2
      go_ret
      obtain rfl : k = n := by omega
      exact ⟨ret_bool (by symm; rw [decide_eq_true]; exact eqToGM_all hto HN.out HM.out), hq⟩
theorem mask_parts {g : List (Int × Int)} {c : List Bool} (h : (gridB g && cvB c) = true) : gridB g = true ∧ cvB c = true ∧ gridMask g c = maskL g c := by
  have h' := h
  simp only [Bool.and_eq_true] at h'
  exact ⟨h'.1, h'.2, by simp [gridMask, h]⟩
theorem gvB_at {g : List (Int × Int)} (h : gridB g = true) {k : Nat} {p q : Int} (hk : g[k]? = some (p, q)) : (-1000000000 ≤ p ∧ p ≤ 1000000000) ∧ (-1000000000 ≤ q ∧ q ≤ 1000000000) := by
  rw [gridB_all (gridB_16 h), List.all_eq_true] at h
  have := h _ (List.mem_of_getElem? hk)
  simpa [gvB, inB] using this
theorem gridB_mask {g : List (Int × Int)} {c : List Bool} (h : gridB g = true) (hc : cvB c = true) : gridB (maskL g c) = true := by
  rw [gridB_all (maskL_length (gridB_16 h) (cvB_16 hc)), List.all_eq_true]
  rintro ⟨p, q⟩ hx
  obtain ⟨k, hk⟩ := List.getElem?_of_mem hx
  have hlt := lt_of_at hk
  rw [maskL_length (gridB_16 h) (cvB_16 hc)] at hlt
  obtain ⟨⟨a, b⟩, hab⟩ := at_of_lt (l := g) (k := k) (by rw [gridB_16 h]; exact hlt)
  obtain ⟨bb, hbb⟩ := at_of_lt (l := c) (k := k) (by rw [cvB_16 hc]; exact hlt)
  have hv := gvB_at h hab
  rw [maskL_at hab hbb] at hk
  cases bb
  · simp at hk; obtain ⟨rfl, rfl⟩ := hk; decide
  · simp at hk; obtain ⟨rfl, rfl⟩ := hk; simpa [gvB, inB] using hv
theorem mask_mask {g : List (Int × Int)} {c : List Bool} (h : g.length = 16) (hc : c.length = 16) : maskL (maskL g c) c = maskL g c := by
  apply eqToGM_all (n := 16) _ (maskL_length (maskL_length h hc) hc) (maskL_length h hc)
  intro k hk
  obtain ⟨x, hx⟩ := at_of_lt (l := g) (k := k) (by omega)
  obtain ⟨b, hb⟩ := at_of_lt (l := c) (k := k) (by omega)
  rw [maskL_at (maskL_at hx hb) hb, maskL_at hx hb]
  cases b <;> rfl
theorem mask_full {g : List (Int × Int)} (h : g.length = 16) : maskL g full16 = g := by
  apply eqToGM_all (n := 16) _ (maskL_length h full16_length) h
  intro k hk
  obtain ⟨x, hx⟩ := at_of_lt (l := g) (k := k) (by omega)
  rw [maskL_at hx (full16_at hk), hx]
  rfl
theorem mask_laws {g : List (Int × Int)} {c : List Bool} (h : gridB g = true) (hc : cvB c = true) :
    (gridB (maskL g c) && cvB c) = true ∧ gridMask (maskL g c) c = maskL g c ∧ (gridB g && cvB full16) = true ∧ gridMask g full16 = g := by
  have h1 := gridB_mask h hc
  have hf : cvB full16 = true := by decide
  exact ⟨by simp [h1, hc], by simp [gridMask, h1, hc, mask_mask (gridB_16 h) (cvB_16 hc)], by simp [h, hf], by simp [gridMask, h, hf, mask_full (gridB_16 h)]⟩
theorem mask_join {g : List (Int × Int)} {c : List Bool} (h : gridB g = true) (hc : cvB c = true) :
    (gridB g && cvB (covHoles c)) = true ∧ gridMask g (covHoles c) = maskL g (covHoles c) ∧ (maskL g (covHoles c)).length = 16 ∧
    ∀ k, k < 16 → ∃ p q p1 q1 p2 q2, g[k]? = some (p, q) ∧ (maskL g c)[k]? = some (p1, q1) ∧ (maskL g (covHoles c))[k]? = some (p2, q2) ∧ p1 + p2 = p ∧ q1 + q2 = q ∧
      -1000000000 ≤ p1 ∧ p1 ≤ 1000000000 ∧ -1000000000 ≤ q1 ∧ q1 ≤ 1000000000 ∧ -1000000000 ≤ p2 ∧ p2 ≤ 1000000000 ∧ -1000000000 ≤ q2 ∧ q2 ≤ 1000000000 := by
  have hh := cvB_holes hc
  refine ⟨by simp [h, hh], by simp [gridMask, h, hh], maskL_length (gridB_16 h) (cvB_16 hh), fun k hk => ?_⟩
  obtain ⟨⟨p, q⟩, hx⟩ := at_of_lt (l := g) (k := k) (by rw [gridB_16 h]; exact hk)
  obtain ⟨b, hb⟩ := at_of_lt (l := c) (k := k) (by rw [cvB_16 hc]; exact hk)
  have hv := gvB_at h hx
  have e1 := maskL_at hx hb
  have e2 := maskL_at hx (holes_get hc hb)
  cases b
  · exact ⟨p, q, 0, 0, p, q, hx, e1, e2, by omega, by omega, by omega, by omega, by omega, by omega, hv.1.1, hv.1.2, hv.2.1, hv.2.2⟩
  · exact ⟨p, q, p, q, 0, 0, hx, e1, e2, by omega, by omega, hv.1.1, hv.1.2, hv.2.1, hv.2.2, by omega, by omega, by omega, by omega⟩
end Go.Proofs.Ytnpbjfnmmleppaa
