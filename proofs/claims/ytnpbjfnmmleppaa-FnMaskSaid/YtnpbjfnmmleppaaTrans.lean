/-
  Contracts of the reference's transform: GaussUnit, l21Term, SkyTransform, l21Back.
-/
import Derived.Test.YtnpbjfnmmleppaaSky
import Derived.Test.YtnpbjfnmmleppaaSkyFns
import Derived.Test.YtnpbjfnmmleppaaGrid
import Derived.Test.YtnpbjfnmmleppaaTrPlain
import Derived.Test.YtnpbjfnmmleppaaStruct
import Derived.Test.YtnpbjfnmmleppaaStep
namespace Go.Proofs.Ytnpbjfnmmleppaa
open Go.RowKit

set_option maxHeartbeats 400000 in
theorem specGaussUnit_any (k : Int) (w : World) :
    Calls Try.prog 35 #[.int .i64 k] w fun e w' => e = .returned (.agg #[.int .i64 (ur k), .int .i64 (ui k)]) ∧ Ext w w' := by
  have HM := Lib.hid (fun (W : World) => l1Mod_any k 4 W (by omega) (by omega))
  unfold ur ui
  have h : k % 4 = 0 ∨ k % 4 = 1 ∨ k % 4 = 2 ∨ k % 4 = 3 := by omega
  rcases h with h | h | h | h <;> rw [h] at HM <;> rw [h] <;> clear h
  all_goals
    go_enter Try.func35, Try.ntmps35
    go_wp2_with (go_at_call 31; refine (HM.out _).mono ?_; rintro e w' ⟨rfl, rfl⟩)
    simp [bodyPost, results, Try.results35, go_sem]
    exact ((Ext.refl w).alloc _).alloc _
set_option maxHeartbeats 400000 in
theorem l21Term_any (n k : Int) (w : World) (h1 : -1000000000000 ≤ n) (h2 : n ≤ 1000000000000) :
    Calls Try.prog 29 #[.int .i64 n, .int .i64 k] w fun e w' => e = .returned (.agg #[.int .i64 (tre n 0 k), .int .i64 (tim n 0 k)]) ∧ Ext w w' := by
  have HU := Lib.hid (fun (W : World) => specGaussUnit_any k W)
  have e1 : tre n 0 k = n * ur k := by unfold tre; omega
  have e2 : tim n 0 k = n * ui k := by unfold tim; omega
  rw [e1, e2]
  clear e1 e2
  have SR := Lib.hid (St.new w #[.int .i64 0, .int .i64 0] 31)
  rcases unit_cases k with ⟨a, b⟩ | ⟨a, b⟩ | ⟨a, b⟩ | ⟨a, b⟩ <;> rw [a, b] at HU <;> rw [a, b] <;> clear a b
  all_goals
    go_enter Try.func29, Try.ntmps29
    go_wp2_with fail
    refine (HU.out _).mono ?_
    rintro e w1 ⟨rfl, x1⟩
    have k0 := (SR.out.ext x1).cell0
    have k1 := (SR.out.ext x1).cell1
    have k2 := (SR.out.ext x1).frozen 0
    have k3 := (SR.out.ext x1).frozen 1
    have k4 := (SR.out.ext x1).lt
    have k5 := Nat.ne_of_lt k4
    have r0 := Lib.hid (fun (a b : Value) (o : Obj) => (((SR.out.ext x1).put2 a b).ext ((Ext.refl _).alloc o)).cell0)
    have r1 := Lib.hid (fun (a b : Value) (o : Obj) => (((SR.out.ext x1).put2 a b).ext ((Ext.refl _).alloc o)).cell1)
    have xx := Lib.hid (fun (a b : Value) (o : Obj) => ((((Ext.refl w).alloc _).trans x1).put2 (g := w.heap.size) (Nat.le_refl _) a b).alloc o)
    go_wp2
    simp [bodyPost, results, Try.results29, go_sem, r0.out, r1.out]
    exact xx.out _ _ _
/-- the transform of a sky as the reference writes it -/
def skyG (s : List Int) : List (Int × Int) := transL (realG s) 1
def tsL (s : List Int) : List (Int × Int) := if svB s then skyG s else []
theorem skyG_length (s : List Int) : (skyG s).length = 16 := transL_length _ _
theorem tsL_length (s : List Int) : (tsL s).length ≤ 16 := by
  unfold tsL
  split
  · rw [skyG_length]; omega
  · simp
theorem realG_GB {s : List Int} (h : svB s = true) : GB 100000 (realG s) := by
  intro k p q hk
  simp only [realG, List.getElem?_map, Option.map_eq_some_iff, Prod.mk.injEq] at hk
  obtain ⟨x, hx, rfl, rfl⟩ := hk
  have := svB_at h hx
  omega
theorem realG_length (s : List Int) : (realG s).length = s.length := by simp [realG]
theorem realG_at {s : List Int} {k : Nat} (h : k < s.length) : (realG s)[k]? = some (at0 s k, 0) := by simp [realG, some_at0 h]
theorem skyG_GB {s : List Int} (h : svB s = true) : GB 1600000 (skyG s) := by
  intro k p q hk
  have hl := lt_of_at hk
  rw [skyG_length] at hl
  unfold skyG at hk
  rw [transL_at hl] at hk
  simp only [Option.some.injEq, Prod.mk.injEq] at hk
  obtain ⟨rfl, rfl⟩ := hk
  have := psum_le (realG_GB h) 1 k 16 (by rw [realG_length, svB_16 h]; omega)
  omega
theorem ex_uv {u v k : Nat} (hu : u < 4) : (u : Int) * ((k : Int) % 4) + (v : Int) * ((k : Int) / 4) = 1 * ex (4 * v + u) k := by
  unfold ex
  have e1 : (4 * v + u) % 4 = u := by omega
  have e2 : (4 * v + u) / 4 = v := by omega
  rw [e1, e2]
  simp
theorem mul3 {u a : Int} (h1 : 0 ≤ u) (h2 : u ≤ 3) (h3 : 0 ≤ a) (h4 : a ≤ 3) : 0 ≤ u * a ∧ u * a ≤ 9 := by
  have := mul_le_of (a := u) (b := a) (M := 3) (K := 3) (by omega) h2 (by omega) h4
  exact ⟨Int.mul_nonneg h1 h3, by omega⟩
set_option maxHeartbeats 2000000 in
theorem specSkyTransform_any (A : Option Addr) (n c : Nat) (xs : List Int) (w : World) (hn : xs.length = n) (hz : n ≤ 1048576) (h : Rd w w.heap.size A n c (ints xs)) :
    Calls Try.prog 19 #[.slice A n c] w (RetSB w 31 (tsL xs).length (pairs (tsL xs)) (svB xs)) := by
  have x0 : Ext w (w.alloc (.cells #[] 31)) := (Ext.refl w).alloc _
  have HC := Lib.hid (specSkyValid_any A n c xs _ hn (by omega) (h.ext x0))
  rcases hv : svB xs with _ | _
  · rw [hv] at HC
    have HE : Hid (tsL xs = []) := by show _ = _; simp [tsL, hv]
    clear hn h hv
    go_enter Try.func19, Try.ntmps19
    go_wp2_with (go_at_call 28; refine HC.out.mono ?_; rintro e w' ⟨rfl, rfl⟩)
    go_ret2
    exact RetSB.nil (by rw [HE.out]; rfl) (by rw [HE.out]; rfl) x0
  rw [hv] at HC
  have HE : Hid (tsL xs = skyG xs) := by show _ = _; simp [tsL, hv]
  obtain rfl : n = 16 := by rw [← hn]; exact svB_16 hv
  obtain ⟨g, off, rfl⟩ := h.addr (by rw [ints_length, hn]; omega)
  have HB := Lib.hid (svB_IB hv)
  have HP := Lib.hid (fun (to k : Nat) (hk : k ≤ 16) => psum_le (realG_GB hv) 1 to k (by rw [realG_length, hn]; exact hk))
  have HA := Lib.hid (fun (k : Nat) (hk : k < 16) => realG_at (s := xs) (k := k) (by rw [hn]; exact hk))
  have HN := Lib.hid hn
  clear hv hn
  go_enter Try.func19, Try.ntmps19
  go_wp2_with (go_at_call 28; refine HC.out.mono ?_; rintro e w' ⟨rfl, rfl⟩)
  go_loopw [4, 5] (fun o i wr => ∃ v : Nat, v ≤ 4 ∧ i = .int .i64 v ∧ wr.ownsRow w.heap.size 31 2 o (4 * v) (pairs ((skyG xs).take (4 * v))) ∧ Ext w wr) (fun _ i _ => 4 - (intOf i).toNat)
  case atStart => exact ⟨0, Nat.zero_le _, rfl, World.ownsRow_lit w #[] 0 (Nat.le_refl _) (by simp [maxLen]) rfl, x0⟩
  case round =>
    clear HC x0
    obtain ⟨v, hv, rfl, ho, he⟩ := hrel
    by_cases hlt : v < 4
    · have hdv : decide ((v : Int) < 4) = true := by simp; omega
      obtain ⟨wo, rfl⟩ : ∃ wo : World, wo = wr := ⟨_, rfl⟩
      go_wp2_with fail
      go_loopw [4, 6] (fun o i wr => ∃ u : Nat, u ≤ 4 ∧ i = .int .i64 u ∧ wr.ownsRow w.heap.size 31 2 o (4 * v + u) (pairs ((skyG xs).take (4 * v + u))) ∧ Ext w wr) (fun _ i _ => 4 - (intOf i).toNat)
      case atStart => exact ⟨0, Nat.zero_le _, rfl, ho, he⟩
      case round =>
        clear ho he
        obtain ⟨u, hu, rfl, ho, he⟩ := hrel
        by_cases hltu : u < 4
        · have hdu : decide ((u : Int) < 4) = true := by simp; omega
          obtain ⟨wi, rfl⟩ : ∃ wi : World, wi = wr := ⟨_, rfl⟩
          go_wp2_with fail
          go_loopw [8] (fun i wr => ∃ k : Nat, k ≤ 16 ∧ i = .int .i64 k ∧ St wr wi.heap.size #[.int .i64 (pre (realG xs) 1 (4 * v + u) k), .int .i64 (pim (realG xs) 1 (4 * v + u) k)] 31 ∧ Chg wi.heap.size (wi.heap.size + 1) wi wr) (fun i _ => 16 - (intOf i).toNat)
          case atStart => exact ⟨0, Nat.zero_le _, rfl, St.new wi _ _, (Chg.refl _ _ _).alloc _⟩
          case round =>
            obtain ⟨k, hk, rfl, hs, hc⟩ := hrel
            by_cases hltk : k < 16
            · have hck := (h.below ((he.more hc he.size).below)).cell (ints_a0 (s := xs) (k := k) (by rw [HN.out]; omega))
              obtain ⟨b1, b2⟩ := HB.out k
              obtain ⟨m1, m2⟩ := mul3 (u := (u : Int)) (a := (k : Int) % 4) (by omega) (by omega) (by omega) (by omega)
              obtain ⟨m3, m4⟩ := mul3 (u := (v : Int)) (a := (k : Int) / 4) (by omega) (by omega) (by omega) (by omega)
              have HX := Lib.hid (ex_uv (u := u) (v := v) (k := k) hltu)
              have HT := Lib.hid (fun (W : World) => l21Term_any (at0 xs k) (1 * ex (4 * v + u) k) W (by omega) (by omega))
              obtain ⟨⟨p1, p2⟩, p3, p4⟩ := HP.out (4 * v + u) k hk
              have ht := term_le (M := 100000) (p := at0 xs k) (q := 0) (1 * ex (4 * v + u) k) (by omega) (by omega)
              obtain ⟨⟨t1, t2⟩, t3, t4⟩ := ht
              have HS1 := Lib.hid (pre_succ (HA.out k hltk) 1 (4 * v + u))
              have HS2 := Lib.hid (pim_succ (HA.out k hltk) 1 (4 * v + u))
              have c0 := hs.cell0
              have c1 := hs.cell1
              go_wp2_with (go_at_call 23; refine (l21Cells_any _).mono ?_; rintro e w' ⟨rfl, rfl⟩)
              rw [HX.out]
              refine (HT.out _).mono ?_
              rintro e w2 ⟨rfl, x2⟩
              clear c0 c1
              have hs2 := hs.ext x2
              have c0 := hs2.cell0
              have c1 := hs2.cell1
              have c2 := hs2.frozen 0
              have c3 := hs2.frozen 1
              have c4 := hs2.lt
              have c5 := Nat.ne_of_lt c4
              have R := Lib.hid (fun (o : Obj) => (hs2.put2 (.int .i64 (pre (realG xs) 1 (4 * v + u) k + tre (at0 xs k) 0 (1 * ex (4 * v + u) k))) (.int .i64 (pim (realG xs) 1 (4 * v + u) k + tim (at0 xs k) 0 (1 * ex (4 * v + u) k)))).ext ((Ext.refl _).alloc o))
              have C := Lib.hid (fun (a b : Value) (o : Obj) => (((hc.trans x2.chg).setCell (p := ⟨wi.heap.size, 0, none⟩) (.inl ⟨Nat.le_refl _, Nat.lt_succ_self _⟩) a).setCell (p := ⟨wi.heap.size, 1, none⟩) (.inl ⟨Nat.le_refl _, Nat.lt_succ_self _⟩) b).alloc o)
              generalize 1 * ex (4 * v + u) k = ee at *
              go_wp2
              go_roundw
              case rel => exact ⟨k + 1, by omega, by go_num, by rw [HS1.out, HS2.out]; exact R.out _, C.out _ _ _⟩
              case measure => simp [intOf]; omega
            · obtain rfl : k = 16 := by omega
              have c0 := hs.cell0
              have c1 := hs.cell1
              have ho2 := own_chg ho hc fun g' hg' => .inl (own_lt ho g' hg')
              have he2 := he.more hc he.size
              have hz2 := he2.size
              have HS := Lib.hid (take_snoc_of (transL_at (g := realG xs) (sg := 1) (k := 4 * v + u) (by omega)))
              clear hs
              go_wp2_with (first
                | (go_at_call 23; refine (l21Cells_any _).mono ?_; rintro e w' ⟨rfl, rfl⟩)
                | (at_builtin; refine wpList_append2 rfl _ _ _ rfl w.heap.size 31 16 G.info Try.underlying23 _ (4 * v + u) _ rfl ho2 (pre (realG xs) 1 (4 * v + u) 16) (pim (realG xs) 1 (4 * v + u) 16) rfl (by omega) (by omega) hz2 ?_; intro v' w' hs' he'))
              go_roundw
              case rel => exact ⟨u + 1, by omega, by go_num, by show World.ownsRow _ _ _ _ _ _ (pairs ((transL (realG xs) 1).take (4 * v + u + 1))); rw [HS.out]; exact hs', he' w he2 (Nat.le_refl _)⟩
              case measure => simp [intOf]; omega
        · obtain rfl : u = 4 := by omega
          go_wp2_with fail
          go_roundw
          case rel => exact ⟨v + 1, by omega, by go_num, ho, he⟩
          case measure => simp [intOf]; omega
    · obtain rfl : v = 4 := by omega
      rw [List.take_of_length_le (by rw [skyG_length]; omega)] at ho
      go_wp2_with fail
      go_ret2
      rw [HE.out, skyG_length]
      exact RetSB.of_own ho he
end Go.Proofs.Ytnpbjfnmmleppaa
