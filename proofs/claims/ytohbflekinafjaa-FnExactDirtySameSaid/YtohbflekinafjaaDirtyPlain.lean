/-
  Dirty images in plain numbers: the transform is turned back, and the laws that follow. No program in sight.
-/
import Derived.Test.YtohbflekinafjaaTrPlain
import Derived.Test.YtohbflekinafjaaSkyPlain
import Derived.Test.YtohbflekinafjaaCovPlain
import Derived.Test.YtohbflekinafjaaMaskPlain
namespace Go.Proofs.Ytohbflekinafjaa

theorem ur_add (j k : Int) : ur (j + k) = ur j * ur k - ui j * ui k := by
  unfold ur ui
  have hj : j % 4 = 0 ∨ j % 4 = 1 ∨ j % 4 = 2 ∨ j % 4 = 3 := by omega
  have hk : k % 4 = 0 ∨ k % 4 = 1 ∨ k % 4 = 2 ∨ k % 4 = 3 := by omega
  have e : (j + k) % 4 = (j % 4 + k % 4) % 4 := by omega
  rw [e]
  rcases hj with h | h | h | h <;> rcases hk with h' | h' | h' | h' <;> simp [h, h']
theorem ui_add (j k : Int) : ui (j + k) = ur j * ui k + ui j * ur k := by
  unfold ur ui
  have hj : j % 4 = 0 ∨ j % 4 = 1 ∨ j % 4 = 2 ∨ j % 4 = 3 := by omega
  have hk : k % 4 = 0 ∨ k % 4 = 1 ∨ k % 4 = 2 ∨ k % 4 = 3 := by omega
  have e : (j + k) % 4 = (j % 4 + k % 4) % 4 := by omega
  rw [e]
  rcases hj with h | h | h | h <;> rcases hk with h' | h' | h' | h' <;> simp [h, h']
theorem tre_tre (a b j k : Int) : tre (tre a b j) (tim a b j) k = tre a b (j + k) := by
  unfold tre tim
  rw [ur_add, ui_add]
  simp only [Int.sub_mul, Int.add_mul, Int.mul_sub, Int.mul_add, Int.mul_assoc]
  omega
theorem tim_tim (a b j k : Int) : tim (tre a b j) (tim a b j) k = tim a b (j + k) := by
  unfold tre tim
  rw [ur_add, ui_add]
  simp only [Int.sub_mul, Int.add_mul, Int.mul_sub, Int.mul_add, Int.mul_assoc]
  omega
theorem tre_sum (f g : Nat → Int) (k : Int) (n : Nat) : tre (sumTo f n) (sumTo g n) k = sumTo (fun j => tre (f j) (g j) k) n := by
  induction n with
  | zero => simp [sumTo, tre]
  | succ n ih => simp only [sumTo]; rw [← ih]; unfold tre; simp only [Int.add_mul]; omega
theorem tim_sum (f g : Nat → Int) (k : Int) (n : Nat) : tim (sumTo f n) (sumTo g n) k = sumTo (fun j => tim (f j) (g j) k) n := by
  induction n with
  | zero => simp [sumTo, tim]
  | succ n ih => simp only [sumTo]; rw [← ih]; unfold tim; simp only [Int.add_mul]; omega
def Tre (p q : Nat → Int) (sg : Int) (to : Nat) : Int := sumTo (fun k => tre (p k) (q k) (sg * ex to k)) 16
def Tim (p q : Nat → Int) (sg : Int) (to : Nat) : Int := sumTo (fun k => tim (p k) (q k) (sg * ex to k)) 16
theorem Tre_congr {p q p' q' : Nat → Int} {sg : Int} {to : Nat} (h : ∀ k, k < 16 → p k = p' k) (h' : ∀ k, k < 16 → q k = q' k) : Tre p q sg to = Tre p' q' sg to :=
  sumTo_congr fun k hk => by rw [h k hk, h' k hk]
theorem Tim_congr {p q p' q' : Nat → Int} {sg : Int} {to : Nat} (h : ∀ k, k < 16 → p k = p' k) (h' : ∀ k, k < 16 → q k = q' k) : Tim p q sg to = Tim p' q' sg to :=
  sumTo_congr fun k hk => by rw [h k hk, h' k hk]
theorem orth_r1 : ∀ v, v < 16 → ∀ u, u < 16 → sumTo (fun x => ur (1 * ex x u + -1 * ex v x)) 16 = if u = v then 16 else 0 := by decide +kernel
theorem orth_i1 : ∀ v, v < 16 → ∀ u, u < 16 → sumTo (fun x => ui (1 * ex x u + -1 * ex v x)) 16 = 0 := by decide +kernel
theorem orth_r2 : ∀ v, v < 16 → ∀ u, u < 16 → sumTo (fun x => ur (-1 * ex x u + 1 * ex v x)) 16 = if u = v then 16 else 0 := by decide +kernel
theorem orth_i2 : ∀ v, v < 16 → ∀ u, u < 16 → sumTo (fun x => ui (-1 * ex x u + 1 * ex v x)) 16 = 0 := by decide +kernel
theorem tre_over (a b : Int) (f : Nat → Int) (n : Nat) : sumTo (fun x => tre a b (f x)) n = a * sumTo (fun x => ur (f x)) n - b * sumTo (fun x => ui (f x)) n := by
  induction n with
  | zero => simp [sumTo]
  | succ n ih => simp only [sumTo]; rw [ih]; unfold tre; simp only [Int.mul_add]; omega
theorem tim_over (a b : Int) (f : Nat → Int) (n : Nat) : sumTo (fun x => tim a b (f x)) n = a * sumTo (fun x => ui (f x)) n + b * sumTo (fun x => ur (f x)) n := by
  induction n with
  | zero => simp [sumTo]
  | succ n ih => simp only [sumTo]; rw [ih]; unfold tim; simp only [Int.mul_add]; omega
section
variable {s t : Int} (hr : ∀ v, v < 16 → ∀ u, u < 16 → sumTo (fun x => ur (s * ex x u + t * ex v x)) 16 = if u = v then 16 else 0) (hi : ∀ v, v < 16 → ∀ u, u < 16 → sumTo (fun x => ui (s * ex x u + t * ex v x)) 16 = 0)
include hr hi
theorem back_re (p q : Nat → Int) {v : Nat} (hv : v < 16) : Tre (Tre p q s) (Tim p q s) t v = 16 * p v := by
  have e1 : Tre (Tre p q s) (Tim p q s) t v = sumTo (fun x => sumTo (fun u => tre (p u) (q u) (s * ex x u + t * ex v x)) 16) 16 := by
    apply sumTo_congr
    intro x _
    unfold Tre Tim
    rw [tre_sum]
    exact sumTo_congr fun u _ => tre_tre _ _ _ _
  rw [e1, sumTo_swap]
  have e2 : ∀ u, u < 16 → sumTo (fun x => tre (p u) (q u) (s * ex x u + t * ex v x)) 16 = if u = v then 16 * p v else 0 := by
    intro u hu
    rw [tre_over, hr v hv u hu, hi v hv u hu]
    by_cases e : u = v
    · subst e; simp; omega
    · simp [e]
  rw [sumTo_congr e2, sumTo_one, if_pos hv]
theorem back_im (p q : Nat → Int) {v : Nat} (hv : v < 16) : Tim (Tre p q s) (Tim p q s) t v = 16 * q v := by
  have e1 : Tim (Tre p q s) (Tim p q s) t v = sumTo (fun x => sumTo (fun u => tim (p u) (q u) (s * ex x u + t * ex v x)) 16) 16 := by
    apply sumTo_congr
    intro x _
    unfold Tre Tim
    rw [tim_sum]
    exact sumTo_congr fun u _ => tim_tim _ _ _ _
  rw [e1, sumTo_swap]
  have e2 : ∀ u, u < 16 → sumTo (fun x => tim (p u) (q u) (s * ex x u + t * ex v x)) 16 = if u = v then 16 * q v else 0 := by
    intro u hu
    rw [tim_over, hr v hv u hu, hi v hv u hu]
    by_cases e : u = v
    · subst e; simp; omega
    · simp [e]
  rw [sumTo_congr e2, sumTo_one, if_pos hv]
end

/-! ### lists -/
def g1 (g : List (Int × Int)) (k : Nat) : Int := (g.getD k (0, 0)).1
def g2 (g : List (Int × Int)) (k : Nat) : Int := (g.getD k (0, 0)).2
theorem g1_some {g : List (Int × Int)} {k : Nat} {x : Int × Int} (h : g[k]? = some x) : g1 g k = x.1 := by simp [g1, List.getD, h]
theorem g2_some {g : List (Int × Int)} {k : Nat} {x : Int × Int} (h : g[k]? = some x) : g2 g k = x.2 := by simp [g2, List.getD, h]
theorem pre_sum (g : List (Int × Int)) (sg : Int) (to n : Nat) : pre g sg to n = sumTo (fun k => tre (g1 g k) (g2 g k) (sg * ex to k)) n := by
  induction n with
  | zero => rfl
  | succ n ih => simp only [pre, sumTo]; rw [ih]; rfl
theorem pim_sum (g : List (Int × Int)) (sg : Int) (to n : Nat) : pim g sg to n = sumTo (fun k => tim (g1 g k) (g2 g k) (sg * ex to k)) n := by
  induction n with
  | zero => rfl
  | succ n ih => simp only [pim, sumTo]; rw [ih]; rfl
theorem g1_trans (g : List (Int × Int)) (sg : Int) {k : Nat} (hk : k < 16) : g1 (transL g sg) k = Tre (g1 g) (g2 g) sg k := by
  rw [g1_some (transL_at hk)]; exact pre_sum _ _ _ _
theorem g2_trans (g : List (Int × Int)) (sg : Int) {k : Nat} (hk : k < 16) : g2 (transL g sg) k = Tim (g1 g) (g2 g) sg k := by
  rw [g2_some (transL_at hk)]; exact pim_sum _ _ _ _
theorem g1_real {s : List Int} {k : Nat} (hk : k < s.length) : g1 (realG s) k = at0 s k := by
  rw [g1_some (x := (at0 s k, 0)) (by simp [realG, some_at0 hk])]
theorem g2_real {s : List Int} {k : Nat} (hk : k < s.length) : g2 (realG s) k = 0 := by
  rw [g2_some (x := (at0 s k, 0)) (by simp [realG, some_at0 hk])]
theorem at0_reals {g : List (Int × Int)} {k : Nat} (hk : k < g.length) : at0 (reals g) k = g1 g k := by
  obtain ⟨x, hx⟩ := at_of_lt hk
  rw [g1_some hx, at0_some (x := x.1) (by simp [reals, hx])]
def cB (c : List Bool) (k : Nat) : Bool := c.getD k false
theorem cB_some {c : List Bool} {k : Nat} {b : Bool} (h : c[k]? = some b) : cB c k = b := by simp [cB, List.getD, h]
theorem g1_mask {g : List (Int × Int)} {c : List Bool} (hg : g.length = 16) (hc : c.length = 16) {k : Nat} (hk : k < 16) : g1 (maskL g c) k = if cB c k then g1 g k else 0 := by
  obtain ⟨x, hx⟩ := at_of_lt (l := g) (k := k) (by omega)
  obtain ⟨b, hb⟩ := at_of_lt (l := c) (k := k) (by omega)
  rw [g1_some (maskL_at hx hb), cB_some hb, g1_some hx]
  cases b <;> rfl
theorem g2_mask {g : List (Int × Int)} {c : List Bool} (hg : g.length = 16) (hc : c.length = 16) {k : Nat} (hk : k < 16) : g2 (maskL g c) k = if cB c k then g2 g k else 0 := by
  obtain ⟨x, hx⟩ := at_of_lt (l := g) (k := k) (by omega)
  obtain ⟨b, hb⟩ := at_of_lt (l := c) (k := k) (by omega)
  rw [g2_some (maskL_at hx hb), cB_some hb, g2_some hx]
  cases b <;> rfl
theorem pairs_ext {g h : List (Int × Int)} (hg : g.length = 16) (hh : h.length = 16) (k1 : ∀ k, k < 16 → g1 g k = g1 h k) (k2 : ∀ k, k < 16 → g2 g k = g2 h k) : g = h := by
  apply List.ext_getElem?
  intro k
  by_cases hk : k < 16
  · obtain ⟨x, hx⟩ := at_of_lt (l := g) (k := k) (by omega)
    obtain ⟨y, hy⟩ := at_of_lt (l := h) (k := k) (by omega)
    have e1 := k1 k hk
    have e2 := k2 k hk
    rw [g1_some hx, g1_some hy] at e1
    rw [g2_some hx, g2_some hy] at e2
    rw [hx, hy]
    exact congrArg some (Prod.ext e1 e2)
  · rw [List.getElem?_eq_none (by omega), List.getElem?_eq_none (by omega)]

/-! ### the dirty image -/
def skyT (s : List Int) : List (Int × Int) := transL (realG s) 1
def seen (s : List Int) (c : List Bool) : List (Int × Int) := maskL (skyT s) c
def dirtL (s : List Int) (c : List Bool) : List Int := reals (transL (seen s c) (-1))
theorem skyT_length (s : List Int) : (skyT s).length = 16 := transL_length _ _
theorem seen_length {s : List Int} {c : List Bool} (hc : c.length = 16) : (seen s c).length = 16 := maskL_length (skyT_length s) hc
theorem dirtL_length (s : List Int) (c : List Bool) : (dirtL s c).length = 16 := by simp [dirtL, reals, transL_length]
/-- what the exponents say of opposite cells -/
theorem ex_opp : ∀ u, u < 16 → ∀ k, k < 16 → (ex u k + ex (opp u) k) % 4 = 0 := by decide +kernel
theorem ex_opp2 : ∀ u, u < 16 → ∀ k, k < 16 → (ex k u + ex k (opp u)) % 4 = 0 := by decide +kernel
theorem opp_count : ∀ j, j < 16 → sumTo (fun k => if opp k = j then 1 else 0) 16 = 1 := by decide +kernel
theorem sumTo_opp (f : Nat → Int) : sumTo (fun k => f (opp k)) 16 = sumTo f 16 := by
  have e1 : ∀ k, k < 16 → f (opp k) = sumTo (fun j => if j = opp k then f (opp k) else 0) 16 := by
    intro k _
    rw [sumTo_one, if_pos (opp_lt _)]
  rw [sumTo_congr e1, sumTo_swap]
  apply sumTo_congr
  intro j hj
  have e2 : ∀ k, k < 16 → (if j = opp k then f (opp k) else 0) = f j * (if opp k = j then 1 else 0) := by
    intro k _
    by_cases h : opp k = j
    · rw [if_pos h, if_pos h.symm, h]; omega
    · rw [if_neg h, if_neg (fun e => h e.symm)]; omega
  rw [sumTo_congr e2, sumTo_mul, opp_count j hj]
  omega
theorem ui_neg {j k : Int} (h : (j + k) % 4 = 0) : ui k = -ui j ∧ ur k = ur j := by
  unfold ur ui
  have hj : j % 4 = 0 ∨ j % 4 = 1 ∨ j % 4 = 2 ∨ j % 4 = 3 := by omega
  rcases hj with e | e | e | e
  · have : k % 4 = 0 := by omega
    simp [e, this]
  · have : k % 4 = 3 := by omega
    simp [e, this]
  · have : k % 4 = 2 := by omega
    simp [e, this]
  · have : k % 4 = 1 := by omega
    simp [e, this]
theorem cB_opp {c : List Bool} (h : cvB c = true) {k : Nat} (hk : k < 16) : cB c (opp k) = cB c k := by
  have := cvB_to h k hk
  simp [cB, List.getD, ← this]
section
variable {s : List Int} {c : List Bool} (hs : s.length = 16) (hc : cvB c = true)
include hs
theorem skyT_re {u : Nat} (hu : u < 16) : g1 (skyT s) u = sumTo (fun k => at0 s k * ur (ex u k)) 16 := by
  unfold skyT
  rw [g1_trans _ _ hu]
  apply sumTo_congr
  intro k hk
  rw [g1_real (by omega), g2_real (by omega)]
  unfold tre
  simp
theorem skyT_im {u : Nat} (hu : u < 16) : g2 (skyT s) u = sumTo (fun k => at0 s k * ui (ex u k)) 16 := by
  unfold skyT
  rw [g2_trans _ _ hu]
  apply sumTo_congr
  intro k hk
  rw [g1_real (by omega), g2_real (by omega)]
  unfold tim
  simp
/-- opposite cells of a transform are conjugate -/
theorem skyT_opp {u : Nat} (hu : u < 16) : g1 (skyT s) (opp u) = g1 (skyT s) u ∧ g2 (skyT s) (opp u) = -g2 (skyT s) u := by
  rw [skyT_re hs hu, skyT_im hs hu, skyT_re hs (opp_lt u), skyT_im hs (opp_lt u)]
  constructor
  · exact sumTo_congr fun k hk => by rw [(ui_neg (ex_opp u hu k hk)).2]
  · have e : ∀ k, k < 16 → at0 s k * ui (ex (opp u) k) = -1 * (at0 s k * ui (ex u k)) := by
      intro k hk
      rw [(ui_neg (ex_opp u hu k hk)).1, Int.mul_neg]
      omega
    rw [sumTo_congr e, sumTo_mul]
    omega
include hc
theorem seen_opp {u : Nat} (hu : u < 16) : g1 (seen s c) (opp u) = g1 (seen s c) u ∧ g2 (seen s c) (opp u) = -g2 (seen s c) u := by
  unfold seen
  have hl := cvB_16 hc
  rw [g1_mask (skyT_length s) hl (opp_lt u), g1_mask (skyT_length s) hl hu, g2_mask (skyT_length s) hl (opp_lt u), g2_mask (skyT_length s) hl hu, cB_opp hc hu, (skyT_opp hs hu).1, (skyT_opp hs hu).2]
  cases cB c u <;> simp
/-- the image is real -/
theorem dirty_real {x : Nat} (hx : x < 16) : Tim (g1 (seen s c)) (g2 (seen s c)) (-1) x = 0 := by
  have e : Tim (g1 (seen s c)) (g2 (seen s c)) (-1) x = sumTo (fun k => -1 * tim (g1 (seen s c) k) (g2 (seen s c) k) (-1 * ex x k)) 16 := by
    unfold Tim
    rw [← sumTo_opp]
    apply sumTo_congr
    intro k hk
    obtain ⟨a, b⟩ := seen_opp hs hc hk
    have h4 := ex_opp2 k hk x hx
    obtain ⟨p, q⟩ := ui_neg (j := -1 * ex x k) (k := -1 * ex x (opp k)) (by omega)
    rw [a, b]
    unfold tim
    rw [p, q]
    simp only [Int.mul_neg, Int.neg_mul]
    omega
  rw [sumTo_mul] at e
  unfold Tim at e ⊢
  omega
omit hs hc in
theorem dirt_at {x : Nat} (hx : x < 16) : at0 (dirtL s c) x = Tre (g1 (seen s c)) (g2 (seen s c)) (-1) x := by
  unfold dirtL
  rw [at0_reals (by rw [transL_length]; exact hx), g1_trans _ _ hx]
/-- the transform of the image is sixteen times what is seen -/
theorem dirty_transform {v : Nat} (hv : v < 16) : g1 (skyT (dirtL s c)) v = 16 * g1 (seen s c) v ∧ g2 (skyT (dirtL s c)) v = 16 * g2 (seen s c) v := by
  have e1 : ∀ k, k < 16 → g1 (realG (dirtL s c)) k = Tre (g1 (seen s c)) (g2 (seen s c)) (-1) k := fun k hk => by
    rw [g1_real (by rw [dirtL_length]; exact hk), dirt_at hk]
  have e2 : ∀ k, k < 16 → g2 (realG (dirtL s c)) k = Tim (g1 (seen s c)) (g2 (seen s c)) (-1) k := fun k hk => by
    rw [g2_real (by rw [dirtL_length]; exact hk), dirty_real hs hc hk]
  unfold skyT
  rw [g1_trans _ _ hv, g2_trans _ _ hv, Tre_congr e1 e2, Tim_congr e1 e2]
  exact ⟨back_re orth_r2 orth_i2 _ _ hv, back_im orth_r2 orth_i2 _ _ hv⟩
end
theorem Tre_mul (a : Int) (p q : Nat → Int) (sg : Int) (to : Nat) : Tre (fun k => a * p k) (fun k => a * q k) sg to = a * Tre p q sg to := by
  unfold Tre
  rw [← sumTo_mul]
  apply sumTo_congr
  intro k _
  unfold tre
  rw [Int.mul_sub, Int.mul_assoc, Int.mul_assoc]
theorem Tre_add (p q p' q' : Nat → Int) (sg : Int) (to : Nat) : Tre (fun k => p k + p' k) (fun k => q k + q' k) sg to = Tre p q sg to + Tre p' q' sg to := by
  unfold Tre
  rw [← sumTo_add]
  apply sumTo_congr
  intro k _
  unfold tre
  rw [Int.add_mul, Int.add_mul]
  omega
/-- the image of an image is a multiple -/
theorem dirty_twice {s : List Int} {c : List Bool} (hs : s.length = 16) (hc : cvB c = true) {x : Nat} (hx : x < 16) : at0 (dirtL (dirtL s c) c) x = 16 * at0 (dirtL s c) x := by
  have hl := cvB_16 hc
  rw [dirt_at hx, dirt_at hx, ← Tre_mul]
  apply Tre_congr
  · intro k hk
    show g1 (maskL _ c) k = _
    rw [g1_mask (skyT_length _) hl hk, (dirty_transform hs hc hk).1]
    unfold seen
    rw [g1_mask (skyT_length _) hl hk]
    cases cB c k <;> simp
  · intro k hk
    show g2 (maskL _ c) k = _
    rw [g2_mask (skyT_length _) hl hk, (dirty_transform hs hc hk).2]
    unfold seen
    rw [g2_mask (skyT_length _) hl hk]
    cases cB c k <;> simp
/-- what is seen through a coverage and through its holes -/
theorem dirty_holes {s : List Int} {c : List Bool} (hs : s.length = 16) (hc : cvB c = true) {x : Nat} (hx : x < 16) : at0 (dirtL s c) x + at0 (dirtL s (covHoles c)) x = 16 * at0 s x := by
  have hl := cvB_16 hc
  have hh := cvB_holes hc
  have hhl := cvB_16 hh
  rw [dirt_at hx, dirt_at hx, ← Tre_add]
  have e0 : ∀ k, k < 16 → cB (covHoles c) k = !cB c k := by
    intro k hk
    obtain ⟨b, hb⟩ := at_of_lt (l := c) (k := k) (by omega)
    rw [cB_some hb, cB_some (b := !b) (by simp [covHoles, hc, hb])]
  have e1 : ∀ k, k < 16 → g1 (seen s c) k + g1 (seen s (covHoles c)) k = Tre (g1 (realG s)) (g2 (realG s)) 1 k := by
    intro k hk
    unfold seen
    rw [g1_mask (skyT_length _) hl hk, g1_mask (skyT_length _) hhl hk, e0 k hk, ← g1_trans _ _ hk]
    unfold skyT
    cases cB c k <;> simp
  have e2 : ∀ k, k < 16 → g2 (seen s c) k + g2 (seen s (covHoles c)) k = Tim (g1 (realG s)) (g2 (realG s)) 1 k := by
    intro k hk
    unfold seen
    rw [g2_mask (skyT_length _) hl hk, g2_mask (skyT_length _) hhl hk, e0 k hk, ← g2_trans _ _ hk]
    unfold skyT
    cases cB c k <;> simp
  rw [Tre_congr e1 e2, back_re orth_r1 orth_i1 _ _ hx, g1_real (by omega)]
theorem cB_full {k : Nat} (hk : k < 16) : cB full16 k = true := cB_some (by unfold full16; rw [List.getElem?_replicate, if_pos hk])
theorem cvB_full : cvB full16 = true := by decide
theorem dirty_full {s : List Int} (hs : s.length = 16) {x : Nat} (hx : x < 16) : at0 (dirtL s full16) x = 16 * at0 s x := by
  rw [dirt_at hx]
  have e1 : ∀ k, k < 16 → g1 (seen s full16) k = Tre (g1 (realG s)) (g2 (realG s)) 1 k := by
    intro k hk
    unfold seen
    rw [g1_mask (skyT_length _) full16_length hk, cB_full hk, ← g1_trans _ _ hk]
    rfl
  have e2 : ∀ k, k < 16 → g2 (seen s full16) k = Tim (g1 (realG s)) (g2 (realG s)) 1 k := by
    intro k hk
    unfold seen
    rw [g2_mask (skyT_length _) full16_length hk, cB_full hk, ← g2_trans _ _ hk]
    rfl
  rw [Tre_congr e1 e2, back_re orth_r1 orth_i1 _ _ hx, g1_real (by omega)]
theorem cB_zeros {k : Nat} (hk : k < 16) : cB zeros16 k = false := cB_some (by unfold zeros16; rw [List.getElem?_replicate, if_pos hk])
theorem cvB_zeros : cvB zeros16 = true := by decide
theorem zeros16_length : zeros16.length = 16 := by simp [zeros16]
theorem dirty_zeros {s : List Int} : dirtL s zeros16 = zero16 := by
  apply eq_mk16 (dirtL_length _ _)
  intro x hx
  rw [dirt_at hx]
  have e1 : ∀ k, k < 16 → g1 (seen s zeros16) k = 0 := by
    intro k hk
    unfold seen
    rw [g1_mask (skyT_length _) zeros16_length hk, cB_zeros hk]
    rfl
  have e2 : ∀ k, k < 16 → g2 (seen s zeros16) k = 0 := by
    intro k hk
    unfold seen
    rw [g2_mask (skyT_length _) zeros16_length hk, cB_zeros hk]
    rfl
  rw [Tre_congr e1 e2]
  unfold Tre tre
  simp [sumTo_zero]
/-- the image as a sum over the sky -/
def beamC (c : List Bool) (d : Nat) : Int := sumTo (fun u => if cB c u then ur (ex u d) else 0) 16
theorem ex_csub : ∀ u, u < 16 → ∀ k, k < 16 → ∀ x, x < 16 → (ex u k + -1 * ex x u - ex u (csub k x)) % 4 = 0 := by decide +kernel
theorem ur_eq {j k : Int} (h : (j - k) % 4 = 0) : ur j = ur k := by
  have e : j % 4 = k % 4 := by omega
  unfold ur; rw [e]
theorem dirty_sum {s : List Int} {c : List Bool} (hs : s.length = 16) (hc : cvB c = true) {x : Nat} (hx : x < 16) : at0 (dirtL s c) x = sumTo (fun k => at0 s k * beamC c (csub k x)) 16 := by
  have hl := cvB_16 hc
  rw [dirt_at hx]
  have e1 : ∀ u, u < 16 → tre (g1 (seen s c) u) (g2 (seen s c) u) (-1 * ex x u) = sumTo (fun k => at0 s k * (if cB c u then ur (ex u (csub k x)) else 0)) 16 := by
    intro u hu
    unfold seen
    rw [g1_mask (skyT_length _) hl hu, g2_mask (skyT_length _) hl hu]
    cases hcu : cB c u
    · simp only [Bool.false_eq_true, if_false, Int.mul_zero]
      rw [sumTo_zero]
      simp [tre]
    · simp only [if_true]
      rw [skyT_re hs hu, skyT_im hs hu, tre_sum]
      apply sumTo_congr
      intro k hk
      rw [← ur_eq (ex_csub u hu k hk x hx), ur_add]
      unfold tre
      rw [Int.mul_sub, Int.mul_assoc, Int.mul_assoc]
  unfold Tre
  rw [sumTo_congr e1, sumTo_swap]
  apply sumTo_congr
  intro k _
  rw [sumTo_mul]
  rfl
theorem csub_csub : ∀ k, k < 16 → ∀ x, x < 16 → ∀ a, a < 16 → csub (csub k a) (csub x a) = csub k x := by decide +kernel
/-- a shifted sky has the shifted image -/
theorem dirty_shift {s : List Int} {c : List Bool} (hs : s.length = 16) (hc : cvB c = true) {a : Nat} (ha : a < 16) : dirtL (shL s a) c = shL (dirtL s c) a := by
  apply eq_mk16 (dirtL_length _ _)
  intro x hx
  rw [dirty_sum (shL_length s a) hc hx, dirty_sum hs hc (csub_lt _ _), ← sumTo_shift (fun k => at0 s k * beamC c (csub k (csub x a))) ha]
  apply sumTo_congr
  intro k hk
  unfold shL
  rw [at0_mk16 hk, csub_csub k hk x hx a ha]
/-! ### skies that look the same -/
theorem same_dirty {a b : List Int} {c : List Bool} (h : seen a c = seen b c) : dirtL a c = dirtL b c := by unfold dirtL; rw [h]
theorem same_holes {a b : List Int} {c : List Bool} (ha : a.length = 16) (hb : b.length = 16) (hc : c.length = 16) (h : seen a c = seen b c) {k : Nat} (hk : k < 16) (hset : cB c k = true) :
    g1 (skyT (addL b a (-1))) k = 0 ∧ g2 (skyT (addL b a (-1))) k = 0 := by
  have e1 := congrArg (g1 · k) h
  have e2 := congrArg (g2 · k) h
  simp only [seen] at e1 e2
  rw [g1_mask (skyT_length _) hc hk, g1_mask (skyT_length _) hc hk, hset, if_pos rfl, if_pos rfl, skyT_re ha hk, skyT_re hb hk] at e1
  rw [g2_mask (skyT_length _) hc hk, g2_mask (skyT_length _) hc hk, hset, if_pos rfl, if_pos rfl, skyT_im ha hk, skyT_im hb hk] at e2
  rw [skyT_re (addL_length _ _ _) hk, skyT_im (addL_length _ _ _) hk]
  have q1 : ∀ j, j < 16 → at0 (addL b a (-1)) j * ur (ex k j) = at0 b j * ur (ex k j) + -1 * (at0 a j * ur (ex k j)) := by
    intro j hj
    unfold addL
    rw [at0_mk16 hj, Int.add_mul, Int.mul_assoc]
  have q2 : ∀ j, j < 16 → at0 (addL b a (-1)) j * ui (ex k j) = at0 b j * ui (ex k j) + -1 * (at0 a j * ui (ex k j)) := by
    intro j hj
    unfold addL
    rw [at0_mk16 hj, Int.add_mul, Int.mul_assoc]
  rw [sumTo_congr q1, sumTo_congr q2, sumTo_add, sumTo_add, sumTo_mul, sumTo_mul]
  omega
theorem seen_zeros {a b : List Int} : seen a zeros16 = seen b zeros16 := by
  apply pairs_ext (seen_length zeros16_length) (seen_length zeros16_length)
  · intro k hk
    unfold seen
    rw [g1_mask (skyT_length _) zeros16_length hk, g1_mask (skyT_length _) zeros16_length hk, cB_zeros hk]
    rfl
  · intro k hk
    unfold seen
    rw [g2_mask (skyT_length _) zeros16_length hk, g2_mask (skyT_length _) zeros16_length hk, cB_zeros hk]
    rfl
end Go.Proofs.Ytohbflekinafjaa
