/-
  What the laws on dirty images use, in plain numbers. No program in sight.
-/
import Derived.Test.YtohbflekinafjaaBack
import Derived.Test.YtohbflekinafjaaDirtyPlain
import Derived.Test.YtohbflekinafjaaCleanPlain
import Derived.Test.YtohbflekinafjaaSkyOps
namespace Go.Proofs.Ytohbflekinafjaa

theorem dokB_parts {s : List Int} {c : List Bool} (h : dokB s c = true) : svB s = true ∧ cvB c = true ∧ svB (dirtyR s c) = true := by
  simp only [dokB, Bool.and_eq_true] at h
  exact ⟨h.1.1, h.1.2, h.2⟩
theorem doL_yes {s : List Int} {c : List Bool} (h : dokB s c = true) : doL s c = dirtyR s c := by simp [doL, h]
theorem doL_no {s : List Int} {c : List Bool} (h : dokB s c = false) : doL s c = [] := by simp [doL, h]
theorem dirtL_length' (s : List Int) (c : List Bool) : (dirtyR s c).length = 16 := dirtL_length s c
theorem twice_at {s : List Int} {c : List Bool} (vs : svB s = true) (vc : cvB c = true) (hd : doL s c = dirtyR s c) (hx : dokB (doL s c) c = true) : ∀ k, k < 16 → at0 (doL (doL s c) c) k = at0 (doL s c) k * 4 * 4 := by
  intro k hk
  rw [doL_yes hx, hd]
  have := dirty_twice (svB_16 vs) vc hk
  show at0 (dirtL (dirtL s c) c) k = at0 (dirtL s c) k * 4 * 4
  omega
theorem dok_zeros {s : List Int} (vs : svB s = true) : dokB s zeros16 = true ∧ doL s zeros16 = zero16 := by
  have h : dirtyR s zeros16 = zero16 := dirty_zeros
  have hk : dokB s zeros16 = true := by
    simp only [dokB, Bool.and_eq_true]
    refine ⟨⟨vs, cvB_zeros⟩, ?_⟩
    rw [h]; decide
  exact ⟨hk, by rw [doL_yes hk, h]⟩
theorem full_at {s : List Int} (vs : svB s = true) (hx : dokB s full16 = true) : ∀ k, k < 16 → at0 (doL s full16) k = at0 s k * 4 * 4 := by
  intro k hk
  rw [doL_yes hx]
  have := dirty_full (svB_16 vs) hk
  show at0 (dirtL s full16) k = at0 s k * 4 * 4
  omega
theorem holes_sum {s : List Int} {c : List Bool} (vs : svB s = true) (vc : cvB c = true) (hd : doL s c = dirtyR s c) (hx : dokB s (covHoles c) = true) : ∀ k, k < 16 → at0 (doL s c) k + at0 (doL s (covHoles c)) k = at0 s k * 4 * 4 := by
  intro k hk
  rw [doL_yes hx, hd]
  have := dirty_holes (svB_16 vs) vc hk
  show at0 (dirtL s c) k + at0 (dirtL s (covHoles c)) k = at0 s k * 4 * 4
  omega
theorem svB_shL {s : List Int} (vs : svB s = true) (p : Nat) : svB (shL s p) = true :=
  svB_mk (shL_length _ _) fun j _ => shL_IB (by omega) (svB_IB vs) p j
theorem shift_ok {s : List Int} {c : List Bool} (vs : svB s = true) (vc : cvB c = true) (vd : svB (dirtyR s c) = true) (hd : doL s c = dirtyR s c) {p : Nat} (hp : p < 16) : dokB (shL s p) c = true ∧ doL (shL s p) c = shL (doL s c) p ∧ svB (doL s c) = true := by
  have h : dirtyR (shL s p) c = shL (dirtyR s c) p := dirty_shift (svB_16 vs) vc hp
  have hk : dokB (shL s p) c = true := by
    simp only [dokB, Bool.and_eq_true]
    refine ⟨⟨svB_shL vs p, vc⟩, ?_⟩
    rw [h]; exact svB_shL vd p
  exact ⟨hk, by rw [doL_yes hk, h, hd], by rw [hd]; exact vd⟩
theorem Ext.madeI {w w' : World} (_ : Ext w w') : Sl (w'.alloc (.cells (madeCells #[.int .i64 0] 16) 3)) w'.heap.size (w'.heap.size + 1) 3 (some ⟨w'.heap.size, 0, none⟩) 16 16 (ints zero16) ∧ Ext w' (w'.alloc (.cells (madeCells #[.int .i64 0] 16) 3)) := by
  have m0 := Sl.made w' 3 (.int .i64 0) 16
  rw [ints_rep, zero16_rep] at m0
  exact ⟨m0, (Ext.refl _).alloc _⟩
theorem Ext.madeB {w w' : World} (_ : Ext w w') : Sl (w'.alloc (.cells (madeCells #[.bool false] 16) 4)) w'.heap.size (w'.heap.size + 1) 4 (some ⟨w'.heap.size, 0, none⟩) 16 16 (bools zeros16) ∧ Ext w' (w'.alloc (.cells (madeCells #[.bool false] 16) 4)) := by
  have m0 := Sl.made w' 4 (.bool false) 16
  rw [bools_rep] at m0
  exact ⟨m0, (Ext.refl _).alloc _⟩
end Go.Proofs.Ytohbflekinafjaa
