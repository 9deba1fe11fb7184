/-
  Contracts of the laws' own helpers over cleanings: toClean, szClean, eqClean, sameClean, markClean, heldClean, spot.
-/
import Derived.Test.YtbafniaohjjacabCleanB
namespace Go.Proofs.Ytbafniaohjjacab
open Go.RowKit

set_option maxHeartbeats 400000 in
theorem sameClean_any (A B C D : Option Addr) (n c m d p q r s : Nat) (xs ys us vs : List Int) (w : World) (h1 : xs.length = n) (h2 : ys.length = m) (h3 : us.length = p) (h4 : vs.length = r) (z1 : n ≤ 1048576) (z2 : m ≤ 1048576)
    (r1 : Rd w w.heap.size A n c (ints xs)) (r2 : Rd w w.heap.size B m d (ints ys)) (r3 : Rd w w.heap.size C p q (ints us)) (r4 : Rd w w.heap.size D r s (ints vs)) :
    Calls Try.prog 14 #[.agg #[.slice A n c, .slice B m d], .agg #[.slice C p q, .slice D r s]] w fun e w' => e = .returned (.bool (decide (xs = us) && decide (ys = vs))) ∧ Ext w w' := by
  have x0 : Ext w ((w.alloc (.cells #[.slice A n c, .slice B m d] 25)).alloc (.cells #[.slice C p q, .slice D r s] 25)) := ((Ext.refl w).alloc _).alloc _
  have H1 := Lib.hid (sameInts_any A C n p c q xs us _ h1 h3 z1 (r1.ext x0) (r3.ext x0))
  have H2 := Lib.hid (fun (W : World) (x : Ext w W) => sameInts_any B D m r d s ys vs W h2 h4 z2 (r2.ext x) (r4.ext x))
  have S1 := Lib.hid ((St.new w #[.slice A n c, .slice B m d] 25).ext ((Ext.refl _).alloc (.cells #[.slice C p q, .slice D r s] 25)))
  have S2 := Lib.hid (St.new (w.alloc (.cells #[.slice A n c, .slice B m d] 25)) #[.slice C p q, .slice D r s] 25)
  rw [World.size_alloc] at S2
  clear h1 h2 h3 h4 r1 r2 r3 r4
  rcases e1 : decide (xs = us) with _ | _
  · rw [e1] at H1
    clear e1
    go_enter Try.func14, Try.ntmps14
    go_wp2_with fail
    refine H1.out.mono ?_
    rintro e w1 ⟨rfl, y1⟩
    go_wp2
    go_ret
    exact ⟨ret_bool (by simp), x0.trans y1.ext⟩
  · rw [e1] at H1
    clear e1
    go_enter Try.func14, Try.ntmps14
    go_wp2_with fail
    refine H1.out.mono ?_
    rintro e w1 ⟨rfl, y1⟩
    have k1 := (S1.out.ext y1.ext).cell1
    have k2 := (S2.out.ext y1.ext).cell1
    go_wp2_with fail
    refine (H2.out _ (x0.trans y1.ext)).mono ?_
    rintro e w2 ⟨rfl, y2⟩
    go_wp2
    go_ret
    exact ⟨ret_bool (by simp), (x0.trans y1.ext).trans y2.ext⟩
end Go.Proofs.Ytbafniaohjjacab
