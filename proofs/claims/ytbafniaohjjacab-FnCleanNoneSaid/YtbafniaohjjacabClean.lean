/-
  Contracts of cleanValid, l24Valid, CleanNew, CleanPeak of the program and of the reference.
-/
import Derived.Test.YtbafniaohjjacabSkySpec
import Derived.Test.YtbafniaohjjacabStruct
import Derived.Test.YtbafniaohjjacabCleanPlain
namespace Go.Proofs.Ytbafniaohjjacab
open Go.RowKit

abbrev cl (A : Option Addr) (n c : Nat) (B : Option Addr) (m d : Nat) : Value := .agg #[.slice A n c, .slice B m d]

theorem cleanValid_any (A B : Option Addr) (n c m d : Nat) (xs ys : List Int) (w : World) (hn : xs.length = n) (hm : ys.length = m) (h : Rd w w.heap.size A n c (ints xs)) (h' : Rd w w.heap.size B m d (ints ys)) :
    Calls Try.prog 27 #[.agg #[.slice A n c, .slice B m d]] w fun e w' => e = .returned (.bool (svB xs && svB ys)) ∧ Ext w w' := by
  have HC := Lib.hid (skyValid_any A n c xs (w.alloc (.cells #[.slice A n c, .slice B m d] 25)) hn ((h.alloc (Nat.le_refl _) _).mono (by simp)))
  have HD := Lib.hid (skyValid_any B m d ys (w.alloc (.cells #[.slice A n c, .slice B m d] 25)) hm ((h'.alloc (Nat.le_refl _) _).mono (by simp)))
  clear hn hm h h'
  rcases hv : svB xs with _ | _
  · rw [hv] at HC
    clear hv
    go_enter Try.func27, Try.ntmps27
    go_wp2_with fail
    refine HC.out.mono ?_
    rintro e w' ⟨rfl, rfl⟩
    go_wp2
    go_ret
    exact ⟨ret_bool (by simp), (Ext.refl w).alloc _⟩
  · rw [hv] at HC
    clear hv
    go_enter Try.func27, Try.ntmps27
    go_wp2_with fail
    refine HC.out.mono ?_
    rintro e w' ⟨rfl, rfl⟩
    go_wp2_with fail
    refine HD.out.mono ?_
    rintro e w' ⟨rfl, rfl⟩
    go_wp2
    go_ret
    exact ⟨ret_bool (by simp), (Ext.refl w).alloc _⟩
theorem l24Valid_any (A B : Option Addr) (n c m d : Nat) (xs ys : List Int) (w : World) (hn : xs.length = n) (hm : ys.length = m) (hz1 : n ≤ 1048576) (hz2 : m ≤ 1048576) (h : Rd w w.heap.size A n c (ints xs)) (h' : Rd w w.heap.size B m d (ints ys)) :
    Calls Try.prog 30 #[.agg #[.slice A n c, .slice B m d]] w fun e w' => e = .returned (.bool (svB xs && svB ys)) ∧ Ext w w' := by
  have HC := Lib.hid (specSkyValid_any A n c xs (w.alloc (.cells #[.slice A n c, .slice B m d] 25)) hn (by omega) ((h.alloc (Nat.le_refl _) _).mono (by simp)))
  have HD := Lib.hid (specSkyValid_any B m d ys (w.alloc (.cells #[.slice A n c, .slice B m d] 25)) hm (by omega) ((h'.alloc (Nat.le_refl _) _).mono (by simp)))
  clear hn hm h h'
  rcases hv : svB xs with _ | _
  · rw [hv] at HC
    clear hv
    go_enter Try.func30, Try.ntmps30
    go_wp2_with fail
    refine HC.out.mono ?_
    rintro e w' ⟨rfl, rfl⟩
    go_wp2
    go_ret
    exact ⟨ret_bool (by simp), (Ext.refl w).alloc _⟩
  · rw [hv] at HC
    clear hv
    go_enter Try.func30, Try.ntmps30
    go_wp2_with fail
    refine HC.out.mono ?_
    rintro e w' ⟨rfl, rfl⟩
    go_wp2_with fail
    refine HD.out.mono ?_
    rintro e w' ⟨rfl, rfl⟩
    go_wp2
    go_ret
    exact ⟨ret_bool (by simp), (Ext.refl w).alloc _⟩
def cnM (s : List Int) : List Int := if svB s then zero16 else []
def cnL (s : List Int) : List Int := if svB s then s else []
theorem cnM_length (s : List Int) : (cnM s).length ≤ 16 := by
  unfold cnM
  split
  · rw [zero16_length]; omega
  · simp
theorem cnL_length (s : List Int) : (cnL s).length ≤ 16 := skyOr_length s
end Go.Proofs.Ytbafniaohjjacab
