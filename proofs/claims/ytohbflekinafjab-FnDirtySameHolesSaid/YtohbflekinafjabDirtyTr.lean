/-
  What FnDirtyTransform uses: the law's own gauss, the compare of two numbers, and plain facts.
-/
import Derived.Test.YtohbflekinafjabDirty
import Derived.Test.YtohbflekinafjabDirtyLaws
import Derived.Laws.StructEq
namespace Go.Proofs.Ytohbflekinafjab
open Go.RowKit

theorem lawGauss_ext (a b : Int) (w : World) :
    Calls Try.prog 17 #[.int .i64 a, .int .i64 b] w fun e w' => e = .returned (.agg #[.int .i64 a, .int .i64 b]) ∧ Ext w w' := by
  go_enter Try.func17, Try.ntmps17
  go_wp2
  simp [bodyPost, results, Try.results17, go_sem]
  repeat (first | exact Ext.refl _ | refine Ext.drew ?_ | refine Ext.alloc ?_ _)
theorem neqGauss (a b : Int) (w : World) : (binOp .neq 39 (.agg #[.int .i64 a, .int .i64 b]) (.agg #[.int .i64 a, .int .i64 b])).run Try.prog w = .ok (.bool false) w := by
  simp [go_sem]
theorem gridB_sky {s : List Int} (vs : svB s = true) : gridB (skyG s) = true := by
  rw [gridB_all (skyG_length s), List.all_eq_true]
  rintro ⟨p, q⟩ hx
  obtain ⟨k, hk⟩ := List.getElem?_of_mem hx
  have := skyG_GB vs k p q hk
  simp [gvB, inB]
  omega
theorem tsL_yes {s : List Int} (vs : svB s = true) : tsL s = skyG s := by simp [tsL, vs]
theorem seenG {s : List Int} {c : List Bool} (vs : svB s = true) (vc : cvB c = true) : gridMask (tsL s) c = maskL (skyG s) c ∧ (gridB (tsL s) && cvB c) = true := by
  rw [tsL_yes vs]
  exact ⟨by simp [gridMask, gridB_sky vs, vc], by simp [gridB_sky vs, vc]⟩
theorem trans_at {s : List Int} {c : List Bool} (vs : svB s = true) (vc : cvB c = true) (hd : doL s c = dirtyR s c) : ∀ k, k < 16 → ∃ p q, (-1600000 ≤ p ∧ p ≤ 1600000) ∧ (-1600000 ≤ q ∧ q ≤ 1600000) ∧ (maskL (skyG s) c)[k]? = some (p, q) ∧ (skyG (doL s c))[k]? = some (16 * p, 16 * q) := by
  intro k hk
  obtain ⟨⟨p, q⟩, hm⟩ := at_of_lt (l := maskL (skyG s) c) (k := k) (by rw [maskL_length (skyG_length s) (cvB_16 vc)]; exact hk)
  obtain ⟨⟨p', q'⟩, hg⟩ := at_of_lt (l := skyG (doL s c)) (k := k) (by rw [skyG_length]; exact hk)
  have hb := maskL_GB (M := 1600000) (by omega) (skyG_GB vs) (c := c) k p q hm
  have ht := dirty_transform (svB_16 vs) vc hk
  have e1 : g1 (skyT (dirtL s c)) k = p' := by
    have : (skyT (dirtL s c))[k]? = some (p', q') := by rw [← hg, hd]; rfl
    exact g1_some this
  have e2 : g2 (skyT (dirtL s c)) k = q' := by
    have : (skyT (dirtL s c))[k]? = some (p', q') := by rw [← hg, hd]; rfl
    exact g2_some this
  have e3 : g1 (seen s c) k = p := g1_some (x := (p, q)) hm
  have e4 : g2 (seen s c) k = q := g2_some (x := (p, q)) hm
  rw [e1, e2, e3, e4] at ht
  exact ⟨p, q, hb.1, hb.2, hm, by rw [hg, ht.1, ht.2]⟩
end Go.Proofs.Ytohbflekinafjab
