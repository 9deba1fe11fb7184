/-
  Contracts of FlagSolve and SolvePhases of the program: a search by a queue.
-/
import Derived.Test.YtpjglnmnfmibnabQueue
import Derived.Test.YtpjglnmnfmibnabVisV
import Derived.Test.YtpjglnmnfmibnabFlags
import Derived.Deep.RegionHeld3
namespace Go.Proofs.Ytpjglnmnfmibnab
open Go.RowKit
set_option linter.unusedSimpArgs false
set_option linter.unusedVariables false

theorem St.one' {w : World} {g : Nat} {v : Value} {T : TypeId} (h : St w g #[v] T) : w.cell? ⟨g, 0, none⟩ = some v := h.cell 0
theorem fieldV' (a b : Value) (W : World) : (Instr.field 30 (.agg #[a, b]) 1).run Try.prog W = .ok b W := by kernel_rfl
theorem vgP_le {N : Nat} {l : VL} (hN : N < 8) (hl : l.length = nb N) (hr : rgB 1000000 l = true) {i j : Nat} (hi : i < N) (hj : j < N) (h : i ≠ j) : 0 ≤ vgP N l i j ∧ vgP N l i j < 360 := vgP_range hN hl hr hi hj h
set_option maxHeartbeats 1000000 in
theorem turn_any (N i j b b1 b2 : Nat) (A1 A2 : Option Addr) (n1 c1 n2 c2 : Nat) (l m : VL) (w : World) (hN : N < 8) (hi : i < N) (hj : j < N) (hne : i ≠ j) (hl : l.length = nb N) (hm : m.length = nb N) (z1 : n1 = nb N) (z2 : n2 = nb N)
    (g1 : rgB 1000000 l = true) (g2 : rgB 1000000 m = true) (r1 : Rd w w.heap.size A1 n1 c1 (pairs l)) (r2 : Rd w w.heap.size A2 n2 c2 (pairs m)) (s0 : St w b #[.int .i64 (N : Int)] 3) (s1 : St w b1 #[.slice A1 n1 c1] 23) (s2 : St w b2 #[.slice A2 n2 c2] 23) :
    Calls Try.prog 41 #[.int .i64 (i : Int), .int .i64 (j : Int), .pointer (some ⟨b, 0, none⟩), .pointer (some ⟨b1, 0, none⟩), .pointer (some ⟨b2, 0, none⟩)] w fun e w' => e = .returned (.int .i64 (tn N l m i j)) ∧ Ext w w' := by
  have hp := vgP_range hN hl g1 hi hj hne
  have hq := vgP_range hN hm g2 hi hj hne
  have HT : Hid (tn N l m i j = vgP N l i j - vgP N m i j) := rfl
  have HL := Lib.hid (fun (W : World) (x : Ext w W) => visGet_any N A1 n1 c1 l i j W hN hi hj hne hl z1 g1 (r1.ext x))
  have HM := Lib.hid (fun (W : World) (x : Ext w W) => visGet_any N A2 n2 c2 m i j W hN hi hj hne hm z2 g2 (r2.ext x))
  have S0 := Lib.hid s0
  have S1 := Lib.hid s1
  have S2 := Lib.hid s2
  have hfl := fieldV'
  have f1 : IntKind.i64.wrap (vgP N l i j - vgP N m i j) = vgP N l i j - vgP N m i j := IntWalk.i64_in _ (by omega)
  have F1 := Lib.hid f1
  clear hl hm z1 z2 r1 r2 s0 s1 s2 f1
  go_enter Try.func41, Try.ntmps41
  go_wp2_with fail
  go_region_held3 (fun w' => w'.cell? ⟨b, 0, none⟩ = some (.int .i64 (N : Int)) ∧ w'.cell? ⟨b1, 0, none⟩ = some (.slice A1 n1 c1) ∧ w'.cell? ⟨b2, 0, none⟩ = some (.slice A2 n2 c2)) (exact ⟨(S0.out.ext (by repeat (first | (with_reducible exact Ext.refl _) | (with_reducible assumption) | (with_reducible refine Ext.drew ?_) | (with_reducible refine Ext.alloc ?_ _)))).one', (S1.out.ext (by repeat (first | (with_reducible exact Ext.refl _) | (with_reducible assumption) | (with_reducible refine Ext.drew ?_) | (with_reducible refine Ext.alloc ?_ _)))).one', (S2.out.ext (by repeat (first | (with_reducible exact Ext.refl _) | (with_reducible assumption) | (with_reducible refine Ext.drew ?_) | (with_reducible refine Ext.alloc ?_ _)))).one'⟩)
    (first
      | (go_at_call 42; (with_reducible refine (HL.out _ (by repeat (first | (with_reducible exact Ext.refl _) | (with_reducible assumption) | (with_reducible refine Ext.drew ?_) | (with_reducible refine Ext.alloc ?_ _)))).mono ?_); rintro e wL ⟨rfl, xL⟩; have EL : Ext w wL := Ext.trans (by repeat (first | (with_reducible exact Ext.refl _) | (with_reducible assumption) | (with_reducible refine Ext.drew ?_) | (with_reducible refine Ext.alloc ?_ _))) xL; (try have f1 := F1.out))
      | (go_at_call 42; (with_reducible refine (HM.out _ (by repeat (first | (with_reducible exact Ext.refl _) | (with_reducible assumption) | (with_reducible refine Ext.drew ?_) | (with_reducible refine Ext.alloc ?_ _)))).mono ?_); rintro e wM ⟨rfl, xM⟩; have EM : Ext w wM := Ext.trans (by repeat (first | (with_reducible exact Ext.refl _) | (with_reducible assumption) | (with_reducible refine Ext.drew ?_) | (with_reducible refine Ext.alloc ?_ _))) xM; (try have f1 := F1.out)))
  all_goals go_wp2
  all_goals go_ret
  all_goals exact ⟨ret_int HT.out.symm, (by repeat (first | (with_reducible exact Ext.refl _) | (with_reducible assumption) | (with_reducible refine Ext.drew ?_) | (with_reducible refine Ext.alloc ?_ _)))⟩
end Go.Proofs.Ytpjglnmnfmibnab
