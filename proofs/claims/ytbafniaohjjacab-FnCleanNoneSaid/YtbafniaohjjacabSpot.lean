/-
  The laws' spot: a sky with one number; and what the laws FnCleanNone, FnCleanNew, FnCleanPeak, FnCleanFits use, in plain numbers.
-/
import Derived.Test.YtbafniaohjjacabCleanLawB
import Derived.Test.YtbafniaohjjacabInts
import Derived.Test.YtbafniaohjjacabProg
namespace Go.Proofs.Ytbafniaohjjacab
open Go.RowKit

def spotL (k : Nat) (x : Int) : List Int := (List.replicate 16 0).set k x
theorem spotL_length (k : Nat) (x : Int) : (spotL k x).length = 16 := by simp [spotL]
theorem spotL_at (k : Nat) (x : Int) (j : Nat) : at0 (spotL k x) j = if k = j ∧ j < 16 then x else 0 := by
  unfold at0 spotL
  rw [List.getD_eq_getElem?_getD, List.getElem?_set]
  by_cases h : k = j
  · subst h
    by_cases h2 : k < 16
    · simp [h2]
    · simp [h2]
  · rw [if_neg h, List.getElem?_replicate]
    rw [if_neg (show ¬ (k = j ∧ j < 16) from fun c => h c.1)]
    split <;> rfl
theorem spotL_sv (k : Nat) (x : Int) (h1 : -100000 ≤ x) (h2 : x ≤ 100000) : svB (spotL k x) = true :=
  svB_mk (spotL_length k x) fun j _ => by rw [spotL_at]; split <;> omega
set_option maxHeartbeats 400000 in
theorem spot_any (k : Nat) (x : Int) (w : World) (hk : k < 16) :
    Calls Try.prog 23 #[.int .i64 (k : Int), .int .i64 x] w (RetS w 3 16 (ints (spotL k x))) := by
  have hmk := makeInts16
  have h2 : (k : Int) < 16 := by omega
  have h3 : (0 : Int) ≤ (k : Int) := by omega
  have t3 := Sl.new w 3 ((madeCells #[.int .i64 0] 16).setIfInBounds k (.int .i64 x)) 16 16 (Nat.le_refl _)
  rw [Array.toList_setIfInBounds, toList_madeCells_one, ints_rep, ints_set] at t3
  have hm0 : (madeCells #[Value.int .i64 0] 16)[k]? = some (Value.int .i64 0) := by
    have hl : (madeCells #[Value.int .i64 0] 16).toList[k]? = some (Value.int .i64 0) := by rw [toList_madeCells_one, List.getElem?_replicate, if_pos hk]
    simpa using hl
  have T := Lib.hid t3
  clear t3
  go_enter Try.func23, Try.ntmps23
  go_wp2
  go_ret
  exact RetS.mk' rfl rfl T.out (Nat.le_refl _) ((Ext.refl w).alloc _)
theorem sameInts_self (A B : Option Addr) (c d : Nat) (xs : List Int) (w : World) (hn : xs.length = 16) (h : Rd w w.heap.size A 16 c (ints xs)) (h' : Rd w w.heap.size B 16 d (ints xs)) :
    Calls Try.prog 33 #[.slice A 16 c, .slice B 16 d] w fun e w' => e = .returned (.bool true) ∧ Ext w w' :=
  (sameInts_any A B 16 16 c d xs xs w hn hn (by omega) h h').mono fun e w' ⟨he, hq⟩ => ⟨he.trans (ret_bool (by simp)), hq.ext⟩
/-! ### no steps -/
def mxTo (l : List Int) : Nat → Int
  | 0 => 0
  | k + 1 => if mxTo l k < at0 l k then at0 l k else mxTo l k
theorem mxTo_succ (l : List Int) (k : Nat) : mxTo l (k + 1) = if mxTo l k < at0 l k then at0 l k else mxTo l k := rfl
theorem mxTo_le {l : List Int} (h : svB l = true) (k : Nat) : 0 ≤ mxTo l k ∧ mxTo l k ≤ 100000 := by
  induction k with
  | zero => simp [mxTo]
  | succ k ih => rw [mxTo_succ]; have := svB_at0 h k; split <;> omega
theorem le_mxTo (l : List Int) (k : Nat) : ∀ j, j < k → at0 l j ≤ mxTo l k := by
  induction k with
  | zero => intro j hj; omega
  | succ k ih =>
    intro j hj
    rw [mxTo_succ]
    by_cases e : j = k
    · subst e; split <;> omega
    · have := ih j (by omega); split <;> omega
theorem none_law {m l b : List Int} {K : Nat} (h : crB m l b K = true) : crB m l b 0 = true ∧ crM m l b 0 = m ∧ crL m l b 0 = l ∧ crN m l b 0 = 0 ∧ crB m l (spotL 0 100000) 5 = true ∧
    (mxTo l 16 ≠ 100000 → crM m l (spotL 0 100000) 5 = m ∧ crL m l (spotL 0 100000) 5 = l ∧ crN m l (spotL 0 100000) 5 = 0) := by
  have hp := crB_parts h
  have h0 : crB m l b 0 = true := by simp [crB, hp.1, hp.2.1, hp.2.2.1]
  have h5 : crB m l (spotL 0 100000) 5 = true := by simp [crB, hp.1, hp.2.1, spotL_sv 0 100000]
  refine ⟨h0, by rw [crM_of h0]; rfl, by rw [crL_of h0]; rfl, by simp only [crN, h0, if_true]; rfl, h5, fun hm => ?_⟩
  have hst : okC (m, l) (spotL 0 100000) = false := by
    rcases e : okC (m, l) (spotL 0 100000) with _ | _
    · rfl
    · have hg := goB_parts (stB_parts e).1
      have h1 : at0 (spotL 0 100000) 0 ≤ top l := hg.2.2.2.2
      rw [spotL_at] at h1
      have h2 := le_mxTo l 16 (pk l) (pk_lt l)
      have h3 := mxTo_le hp.2.1 16
      have h4 : top l = at0 l (pk l) := rfl
      simp at h1
      omega
  have hr : runC (spotL 0 100000) 5 (m, l) = ((m, l), 0) := by
    show runC (spotL 0 100000) (4 + 1) (m, l) = _
    simp only [runC, hst]
    rfl
  have e5 : (5 : Int).toNat = 5 := rfl
  exact ⟨by rw [crM_of h5, e5, hr], by rw [crL_of h5, e5, hr], by simp only [crN, h5, if_true, e5, hr]; rfl⟩
/-- a run's cleaning is in a variable of its own -/
def RunIn (W : World) (xs ys : List Int) (n m : Nat) (k : Int) (v mv qv : Value) (wx : World) : Prop :=
  ∃ (g : Nat) (A : Option Addr) (c : Nat) (B : Option Addr) (d : Nat), v = .pointer (some ⟨g, 0, none⟩) ∧ mv = .int .i64 k ∧ qv = .bool true ∧ St wx g #[.slice A n c, .slice B m d] 25 ∧
    Sl wx W.heap.size wx.heap.size 3 A n c (ints xs) ∧ Sl wx W.heap.size wx.heap.size 3 B m d (ints ys) ∧ Ext W wx
theorem RunIn.mk' {W w8 : World} {xs ys : List Int} {n m c d lo hi : Nat} {A B : Option Addr} {k : Int} (t : Two w8 lo hi 3 A n c (ints xs) B m d (ints ys)) (h : W.heap.size ≤ lo) (x : Ext W w8) :
    RunIn W xs ys n m k (.pointer (some ⟨w8.heap.size, 0, none⟩)) (.int .i64 k) (.bool true) (w8.alloc (.cells #[.slice A n c, .slice B m d] 25)) := by
  have y : Ext w8 (w8.alloc (.cells #[.slice A n c, .slice B m d] 25)) := (Ext.refl _).alloc _
  exact ⟨_, A, c, B, d, rfl, rfl, rfl, St.new _ _ _, (t.fst.ext y).full.mono h (Nat.le_refl _), (t.snd.ext y).full.mono h (Nat.le_refl _), x.trans y⟩
theorem RunIn.put {W w8 : World} {xs ys : List Int} {n m c d g lo hi : Nat} {A B : Option Addr} {k : Int} {u v : Value} (Q : St w8 g #[u, v] 25) (t : Two w8 lo hi 3 A n c (ints xs) B m d (ints ys)) (h1 : W.heap.size ≤ lo) (h2 : g < lo) (h3 : W.heap.size ≤ g) (x : Ext W w8) :
    RunIn W xs ys n m k (.pointer (some ⟨g, 0, none⟩)) (.int .i64 k) (.bool true) ((w8.setCell ⟨g, 0, none⟩ (.slice A n c)).setCell ⟨g, 1, none⟩ (.slice B m d)) :=
  ⟨_, A, c, B, d, rfl, rfl, rfl, Q.put2 _ _, (t.put2 h2 _ _).fst.full.mono h1 (Nat.le_refl _), (t.put2 h2 _ _).snd.full.mono h1 (Nat.le_refl _), x.put2 h3 _ _⟩
/-! ### a new cleaning -/
theorem new_law {d : List Int} (h : svB d = true) (k : Nat) : cnM d = zero16 ∧ cnL d = d ∧ d.length = 16 ∧ ssB zero16 = 0 ∧ svB zero16 = true ∧ fitB zero16 d (spotL k 3) d = true := by
  refine ⟨by simp [cnM, h], by simp [cnL, h], svB_16 h, by decide, by decide, ?_⟩
  refine fitB_mk (by decide) h (spotL_sv k 3 (by omega) (by omega)) h ?_
  apply List.ext_getElem?
  intro j
  rcases Nat.lt_or_ge j 16 with hj | hj
  · rw [addL_at hj, some_at0 (by rw [svB_16 h]; exact hj)]
    have e : at0 (foldL zero16 (spotL k 3)) j = 0 := by
      unfold foldL foldTo
      rw [at0_mk16 hj]
      have e2 : ∀ i, i < 16 → at0 zero16 i * at0 (spotL k 3) (csub j i) = 0 := fun i hi => by unfold zero16; rw [at0_mk16 hi]; simp
      rw [sumTo_congr e2, sumTo_zero]
    rw [e]
    simp
  · rw [List.getElem?_eq_none (by rw [addL_length]; omega), List.getElem?_eq_none (by rw [svB_16 h]; omega)]
/-! ### what fits -/
theorem fits_law {m l b d : List Int} (h : fitB m l b d = true) (k : Nat) (hk : k < 16) : (m.length = 16 ∧ l.length = 16 ∧ b.length = 16 ∧ d.length = 16) ∧ fitB m l b (d.set k (at0 d k - 1)) = false ∧ (sfOk m b = false → sfL m b = []) ∧
    (sfOk m b = true → (sfL m b).length = 16 ∧ ∀ j, j < 16 → at0 (sfL m b) j + at0 l j = at0 d j ∧ -300000 ≤ at0 (sfL m b) j ∧ at0 (sfL m b) j ≤ 300000) ∧ ∀ j, -100000 ≤ at0 d j ∧ at0 d j ≤ 100000 ∧ -100000 ≤ at0 l j ∧ at0 l j ≤ 100000 := by
  obtain ⟨h1, h2, h3, h4, h5⟩ := fitB_parts h
  refine ⟨⟨svB_16 h1, svB_16 h2, svB_16 h3, svB_16 h4⟩, ?_, fold_no, fun hs => ?_, fun j => ?_⟩
  · rcases e : fitB m l b (d.set k (at0 d k - 1)) with _ | _
    · rfl
    · have h6 := (fitB_parts e).2.2.2.2
      rw [h5] at h6
      have h7 : at0 d k = at0 (d.set k (at0 d k - 1)) k := by rw [← h6]
      rw [at0_set (by rw [svB_16 h4]; exact hk), if_pos rfl] at h7
      omega
  · have hf := fold_yes hs
    have hl : (sfL m b).length = 16 := by rw [hf]; exact foldL_length _ _
    refine ⟨hl, fun j hj => ?_⟩
    have h6 : at0 (addL (foldL m b) l 1) j = at0 d j := by rw [h5]
    rw [at0_some (addL_at hj)] at h6
    have a := svB_at0 h4 j
    have c := svB_at0 h2 j
    rw [hf]
    omega
  · have a := svB_at0 h4 j
    have c := svB_at0 h2 j
    omega
theorem peak_law {m l : List Int} (h : (svB m && svB l) = true) : cpK m l = (pk l : Int) ∧ cpT m l = top l ∧ m.length = 16 ∧ l.length = 16 ∧ top l = at0 l (pk l) ∧ ∀ k, k < 16 → at0 l k ≤ top l ∧ (k < pk l → at0 l k < top l) := by
  have h1 := h
  simp only [Bool.and_eq_true] at h1
  exact ⟨by simp [cpK, h], by simp [cpT, h], svB_16 h1.1, svB_16 h1.2, rfl, fun k hk => ⟨le_top l hk, fun hp => lt_top l hp⟩⟩
end Go.Proofs.Ytbafniaohjjacab
