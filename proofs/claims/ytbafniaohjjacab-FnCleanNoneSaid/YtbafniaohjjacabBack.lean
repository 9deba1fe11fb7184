/-
  Contracts of the reference's way back: l21Back, DirtyOf, BeamOf.
-/
import Derived.Test.YtbafniaohjjacabTrans
import Derived.Test.YtbafniaohjjacabGridB
import Derived.StillTailTactics
namespace Go.Proofs.Ytbafniaohjjacab
open Go.RowKit

theorem ex_back {x y k : Nat} (hx : x < 4) : -((x : Int) * ((k : Int) % 4)) - (y : Int) * ((k : Int) / 4) = -1 * ex (4 * y + x) k := by
  rw [← Int.one_mul (ex (4 * y + x) k), ← ex_uv hx]
  omega
theorem ur_mul {M p : Int} (e : Int) (h1 : -M ≤ p) (h2 : p ≤ M) : (-M ≤ p * ur e ∧ p * ur e ≤ M) ∧ (-M ≤ p * ui e ∧ p * ui e ≤ M) := by
  rcases unit_cases e with ⟨a, b⟩ | ⟨a, b⟩ | ⟨a, b⟩ | ⟨a, b⟩ <;> rw [a, b] <;> omega
set_option maxRecDepth 100000 in
set_option maxHeartbeats 2000000 in
theorem l21Back_any (A : Option Addr) (c : Nat) (gs : List (Int × Int)) (x y to : Nat) (w : World) (hn : gs.length = 16) (hx : x < 4) (hy : y < 4) (hto : 4 * y + x = to) (hg : GB 1600000 gs) (h : Rd w w.heap.size A 16 c (pairs gs)) :
    Calls Try.prog 59 #[.slice A 16 c, .int .i64 x, .int .i64 y] w fun e w' => e = .returned (.agg #[.int .i64 (pre gs (-1) to 16), .int .i64 (pim gs (-1) to 16)]) ∧ Ext w w' := by
  have HN := Lib.hid hn
  have HTO := Lib.hid hto
  clear hto
  have HP := Lib.hid (fun (k : Nat) (hk : k ≤ 16) => psum_le hg (-1) to k (by rw [hn]; exact hk))
  obtain ⟨g, off, rfl⟩ := h.addr (by rw [pairs_length, hn]; omega)
  have hgl := h.blk (by rw [pairs_length, hn]; omega)
  have HG := Lib.hid hg
  clear hn hg
  go_enter Try.func59, Try.ntmps59
  go_wp2_with fail
  go_loopw [8] (fun i wr => ∃ k : Nat, k ≤ 16 ∧ i = .int .i64 k ∧ St wr (w.heap.size + 1) #[.int .i64 (pre gs (-1) to k), .int .i64 (pim gs (-1) to k)] 77 ∧ St wr w.heap.size #[.int .i64 0, .int .i64 0] 77 ∧ Ext w wr) (fun i _ => 16 - (intOf i).toNat)
  case atStart =>
    have q := St.new (w.alloc (.cells #[.int .i64 0, .int .i64 0] 77)) #[.int .i64 0, .int .i64 0] 77
    rw [World.size_alloc] at q
    exact ⟨0, Nat.zero_le _, rfl, q, (St.new w _ _).ext ((Ext.refl _).alloc _), ((Ext.refl _).alloc _).alloc _⟩
  case round =>
    obtain ⟨k, hk, rfl, hs, hr, he⟩ := hrel
    by_cases hlt : k < 16
    · obtain ⟨⟨p, q⟩, hpq⟩ := at_of_lt (l := gs) (k := k) (by rw [HN.out]; exact hlt)
      obtain ⟨⟨b1, b2⟩, b3, b4⟩ := HG.out k p q hpq
      obtain ⟨m1, m2⟩ := mul3 (u := (x : Int)) (a := (k : Int) % 4) (by omega) (by omega) (by omega) (by omega)
      obtain ⟨m3, m4⟩ := mul3 (u := (y : Int)) (a := (k : Int) / 4) (by omega) (by omega) (by omega) (by omega)
      have HX := Lib.hid (ex_back (x := x) (y := y) (k := k) hx)
      rw [HTO.out] at HX
      have HU := Lib.hid (fun (W : World) => specGaussUnit_any (-1 * ex to k) W)
      have HF := Lib.hid (fun (W : World) (x : Ext w W) => (h.below x.below).fst hpq)
      have HS := Lib.hid (fun (W : World) (x : Ext w W) => (h.below x.below).snd hpq)
      obtain ⟨⟨p1, p2⟩, p3, p4⟩ := HP.out k hk
      have HS1 := Lib.hid (pre_succ hpq (-1) to)
      have HS2 := Lib.hid (pim_succ hpq (-1) to)
      obtain ⟨⟨u1, u2⟩, u3, u4⟩ := ur_mul (M := 1600000) (-1 * ex to k) b1 b2
      obtain ⟨⟨u5, u6⟩, u7, u8⟩ := ur_mul (M := 1600000) (-1 * ex to k) b3 b4
      clear hpq
      go_wp2_with (go_at_call 47; refine (l21Cells_any _).mono ?_; rintro e w' ⟨rfl, rfl⟩)
      rw [HX.out]
      refine (HU.out _).mono ?_
      rintro e w2 ⟨rfl, x2⟩
      generalize -1 * ex to k = ee at *
      have xa : Ext w2 (w2.alloc (.cells #[.int .i64 (ur ee), .int .i64 (ui ee)] 77)) := (Ext.refl w2).alloc _
      have su := St.new w2 #[.int .i64 (ur ee), .int .i64 (ui ee)] 77
      have E3 := (he.trans x2).trans xa
      have ss := (hs.ext x2).ext xa
      have sr := (hr.ext x2).ext xa
      have g0 := HF.out _ E3
      have g1 := HS.out _ E3
      have n1 : g ≠ w.heap.size + 1 := by omega
      have n2 : w2.heap.size ≠ w.heap.size + 1 := by have := (hs.ext x2).lt; omega
      have h2 : (k : Int) < 16 := by omega
      have h3 : (0 : Int) ≤ (k : Int) := by omega
      go_wp2_with fail
      generalize w2.alloc (.cells #[.int .i64 (ur ee), .int .i64 (ui ee)] 77) = w3 at *
      have c0 := ss.cell0
      have c1 := ss.cell1
      have c2 := ss.frozen 0
      have d0 := su.cell0
      have d1 := su.cell1
      have f1 : IntKind.i64.wrap (p * ur ee) = p * ur ee := IntWalk.i64_in _ (by omega)
      have f2 : IntKind.i64.wrap (pre gs (-1) to k + p * ur ee) = pre gs (-1) to k + p * ur ee := IntWalk.i64_in _ (by omega)
      have f3 : IntKind.i64.wrap (q * ui ee) = q * ui ee := IntWalk.i64_in _ (by omega)
      have f4 : IntKind.i64.wrap (pre gs (-1) to k + p * ur ee - q * ui ee) = pre gs (-1) to k + p * ur ee - q * ui ee := IntWalk.i64_in _ (by omega)
      go_still_tail 21, (by kernel_rfl)
      change wpList _ _ _ _ _ w3.drew
      clear f1 f2 f3 f4 c0 c1 c2 d0 d1 g0 g1
      replace ss : St w3.drew (w.heap.size + 1) #[.int .i64 (pre gs (-1) to k), .int .i64 (pim gs (-1) to k)] 77 := ss
      replace su : St w3.drew w2.heap.size #[.int .i64 (ur ee), .int .i64 (ui ee)] 77 := su
      replace sr : St w3.drew w.heap.size #[.int .i64 0, .int .i64 0] 77 := sr
      replace E3 : Ext w w3.drew := E3.drew
      clear xa
      generalize w3.drew = w4 at *
      have c0 := ss.cell0
      have c2 := ss.frozen 0
      have ss1 := ss.set 0 (.int .i64 (pre gs (-1) to k + p * ur ee - q * ui ee))
      have su1 := su.far (p := ⟨w.heap.size + 1, 0, none⟩) n2 (.int .i64 (pre gs (-1) to k + p * ur ee - q * ui ee))
      have sr1 := sr.far (p := ⟨w.heap.size + 1, 0, none⟩) (by show _ ≠ w.heap.size + 1; omega) (.int .i64 (pre gs (-1) to k + p * ur ee - q * ui ee))
      have E4 := E3.setCell (p := ⟨w.heap.size + 1, 0, none⟩) (by show _ ≤ w.heap.size + 1; omega) (.int .i64 (pre gs (-1) to k + p * ur ee - q * ui ee))
      go_wp2_with fail
      clear c0 c2 ss su sr
      have g0 := HF.out _ E4
      have g1 := HS.out _ E4
      generalize w4.setCell ⟨w.heap.size + 1, 0, none⟩ (.int .i64 (pre gs (-1) to k + p * ur ee - q * ui ee)) = w5 at *
      have c0 := ss1.cell0
      have c1 : w5.cell? ⟨w.heap.size + 1, 1, none⟩ = some (.int .i64 (pim gs (-1) to k)) := ss1.cell 1
      have c2 := ss1.frozen 1
      have d0 := su1.cell0
      have d1 := su1.cell1
      have f1 : IntKind.i64.wrap (p * ui ee) = p * ui ee := IntWalk.i64_in _ (by omega)
      have f2 : IntKind.i64.wrap (pim gs (-1) to k + p * ui ee) = pim gs (-1) to k + p * ui ee := IntWalk.i64_in _ (by omega)
      have f3 : IntKind.i64.wrap (q * ur ee) = q * ur ee := IntWalk.i64_in _ (by omega)
      have f4 : IntKind.i64.wrap (pim gs (-1) to k + p * ui ee + q * ur ee) = pim gs (-1) to k + p * ui ee + q * ur ee := IntWalk.i64_in _ (by omega)
      clear c0
      go_still_tail 21, (by kernel_rfl)
      change wpList _ _ _ _ _ w5.drew
      clear f1 f2 f3 f4 c1 c2 d0 d1 g0 g1
      have e1 : pre gs (-1) to k + p * ur ee - q * ui ee = pre gs (-1) to (k + 1) := by rw [HS1.out]; unfold tre; omega
      have e2 : pim gs (-1) to k + p * ui ee + q * ur ee = pim gs (-1) to (k + 1) := by rw [HS2.out]; unfold tim; omega
      replace ss1 : St w5.drew (w.heap.size + 1) #[(.int .i64 (pre gs (-1) to k + p * ur ee - q * ui ee)), .int .i64 (pim gs (-1) to k)] 77 := ss1
      replace sr1 : St w5.drew w.heap.size #[.int .i64 0, .int .i64 0] 77 := sr1
      replace E4 : Ext w w5.drew := E4.drew
      clear su1
      generalize w5.drew = w6 at *
      have c1 := ss1.cell1
      have c2 := ss1.frozen 1
      have ss2 : St (w6.setCell ⟨w.heap.size + 1, 1, none⟩ (.int .i64 (pim gs (-1) to k + p * ui ee + q * ur ee))) (w.heap.size + 1) #[(.int .i64 (pre gs (-1) to k + p * ur ee - q * ui ee)), (.int .i64 (pim gs (-1) to k + p * ui ee + q * ur ee))] 77 := ss1.set 1 _
      have sr2 := sr1.far (p := ⟨w.heap.size + 1, 1, none⟩) (by show _ ≠ w.heap.size + 1; omega) (.int .i64 (pim gs (-1) to k + p * ui ee + q * ur ee))
      have E5 := E4.setCell (p := ⟨w.heap.size + 1, 1, none⟩) (by show _ ≤ w.heap.size + 1; omega) (.int .i64 (pim gs (-1) to k + p * ui ee + q * ur ee))
      have HT : Hid (St (w6.setCell ⟨w.heap.size + 1, 1, none⟩ (.int .i64 (pim gs (-1) to k + p * ui ee + q * ur ee))) (w.heap.size + 1) #[.int .i64 (pre gs (-1) to (k + 1)), .int .i64 (pim gs (-1) to (k + 1))] 77) := by
        show St _ _ _ _
        rw [← e1, ← e2]
        exact ss2
      clear e1 e2 ss2 ss1 sr1
      go_wp2_with fail
      go_roundw
      case rel => exact ⟨k + 1, by omega, by go_num, HT.out, sr2, E5⟩
      case measure => simp [intOf]; omega
    · obtain rfl : k = 16 := by omega
      have c0 := hs.cell0
      have c1 := hs.cell1
      have d0 := hr.cell0
      have d1 := hr.cell1
      have d2 := hr.frozen 0
      have d3 := hr.frozen 1
      have R := hr.put2 (.int .i64 (pre gs (-1) to 16)) (.int .i64 (pim gs (-1) to 16))
      have r0 := R.cell0
      have r1 := R.cell1
      have xx := he.put2 (g := w.heap.size) (Nat.le_refl _) (.int .i64 (pre gs (-1) to 16)) (.int .i64 (pim gs (-1) to 16))
      clear R
      go_wp2_with (go_at_call 47; refine (l21Cells_any _).mono ?_; rintro e w' ⟨rfl, rfl⟩)
      exact bodyPost_ret (v := .agg #[.int .i64 (pre gs (-1) to 16), .int .i64 (pim gs (-1) to 16)]) (by simp [results, Try.results59, go_sem, r0, r1]) rfl ⟨rfl, xx⟩
theorem maskL_GB {M : Int} (hM : 0 ≤ M) {g : List (Int × Int)} {c : List Bool} (h : GB M g) : GB M (maskL g c) := by
  intro k p q hk
  simp only [maskL, List.getElem?_zipWith] at hk
  rcases hx : g[k]? with _ | x
  · simp [hx] at hk
  · rcases hb : c[k]? with _ | b
    · simp [hx, hb] at hk
    · simp [hx, hb] at hk
      cases b
      · simp at hk; obtain ⟨rfl, rfl⟩ := hk; omega
      · simp at hk; subst hk; exact h k p q hx
/-- the dirty image as the reference writes it -/
def dirtyR (s : List Int) (c : List Bool) : List Int := reals (transL (maskL (skyG s) c) (-1))
theorem dirtyR_length (s : List Int) (c : List Bool) : (dirtyR s c).length = 16 := by simp [dirtyR, reals, transL_length]
theorem dirtyR_at {s : List Int} {c : List Bool} {k : Nat} (h : k < 16) : (dirtyR s c)[k]? = some (pre (maskL (skyG s) c) (-1) k 16) := by simp [dirtyR, reals, transL_at h]
def dokB (s : List Int) (c : List Bool) : Bool := svB s && cvB c && svB (dirtyR s c)
def doL (s : List Int) (c : List Bool) : List Int := if dokB s c then dirtyR s c else []
theorem doL_length (s : List Int) (c : List Bool) : (doL s c).length ≤ 16 := by
  unfold doL
  split
  · rw [dirtyR_length]; omega
  · simp
end Go.Proofs.Ytbafniaohjjacab
