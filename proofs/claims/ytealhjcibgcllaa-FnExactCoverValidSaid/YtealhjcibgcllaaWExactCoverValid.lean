/-
  The walk of FnExactCoverValid: it returns true and writes nothing that was there.
-/
import Derived.Test.YtealhjcibgcllaaCovD
import Derived.Test.YtealhjcibgcllaaFlags
namespace Go.Proofs.Ytealhjcibgcllaa.fnExactCoverValid
open Go.RowKit

set_option maxHeartbeats 400000 in
theorem walk (A : Option Addr) (n c : Nat) (bs : List Bool) (w : World) (hn : bs.length = n) (hm : n ≤ 9223372036854775807) (h : Rd w w.heap.size A n c (bools bs)) :
    Calls Try.prog 3 #[.slice A n c] w fun e w' => e = .returned (.bool true) ∧ Ext w w' := by
  have HN := Lib.hid hn
  clear hn
  by_cases hz : n ≤ 1048576
  · go_enter Try.func3, Try.ntmps3
    go_wp2_with fail
    refine (toBoolS_any A n c bs _ HN.out hz h).mono ?_
    rintro e w1 ⟨A1, c1, rfl, s1, e1⟩
    go_wp2_with fail
    refine (specCoverValid_any A1 n c1 bs _ HN.out s1.rd).mono ?_
    rintro e w2 ⟨rfl, q2⟩
    have e2 := e1.trans q2.ext
    go_wp2_with fail
    refine (toBoolS_any A n c bs _ HN.out hz (h.ext e2)).mono ?_
    rintro e w3 ⟨A3, c3, rfl, s3, e3⟩
    go_wp2_with fail
    refine (coverValid_any A3 n c3 bs _ HN.out s3.rd).mono ?_
    rintro e w4 ⟨rfl, rfl⟩
    go_wp2_with fail
    refine (toBoolS_any A n c bs _ HN.out hz (h.ext (e2.trans e3))).mono ?_
    rintro e w4 ⟨A4, c4, rfl, s4, e4⟩
    go_wp2_with fail
    refine (eqBoolS_any A3 A4 n n c3 c4 bs bs _ HN.out HN.out hz (s3.ext e4).rd s4.rd).mono ?_
    rintro e w5 ⟨rfl, q5⟩
    go_wp2
    go_ret
    exact ⟨rfl, ((e2.trans e3).trans e4).trans q5.ext⟩
  · go_enter Try.func3, Try.ntmps3
    go_wp2
    go_ret
    exact ⟨rfl, Ext.refl _⟩
end Go.Proofs.Ytealhjcibgcllaa.fnExactCoverValid
