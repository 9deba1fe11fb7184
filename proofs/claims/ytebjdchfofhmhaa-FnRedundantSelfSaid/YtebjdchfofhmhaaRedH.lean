/-
  Contract of RedundantSpread of the reference.
-/
import Derived.Test.YtebjdchfofhmhaaRedG
import Derived.Test.YtebjdchfofhmhaaVisS
import Derived.Test.YtebjdchfofhmhaaPVis
namespace Go.Proofs.Ytebjdchfofhmhaa
open Go.RowKit
set_option linter.unusedSimpArgs false
set_option linter.unusedVariables false

/-- 'append(out, x)', x of two cells: where the row lies then -/
theorem wpList_append2A {P : Program} {w : World} {ops : Array Oper} {rest : List Oper} {o : Oper} {a : Act} {Q : Exit → Act → World → Prop} (hgd : o.guard = none) (s x : Operand) (t : TypeId)
    (ho : o.op = .call { callee := .builtin .append, args := #[s, x], argTypes := #[t, t] })
    (base : Nat) (E : TypeId) (bytes : Nat) (hinfo : (P.info? E).map (fun i => (i.zero, i.size, i.bytes)) = some (some (.agg #[.int .i64 0, .int .i64 0]), 2, bytes)) (ht : P.underlying t = some (.slice E))
    (v : Value) (n : Nat) (l : List (Int × Int)) (hs : a.eval s = v) (hown : w.ownsRow base E 2 v n (pairs l))
    (p q : Int) (b : Nat) (hx : a.eval x = .slice (some ⟨b, 0, none⟩) 1 1) (hb : b = w.heap.size) (hbytes : (n + 1) * bytes ≤ 100000000) (hn : n + 1 ≤ 100000000) (hbase : base ≤ w.heap.size)
    (h : ∀ v' w', w'.ownsRow base E 2 v' (n + 1) (pairs (l ++ [(p, q)])) → w.grownBy w' v.ownBlock → At w v v' → wpList P ops Q rest (a.put o.dst v') w') : wpList P ops Q (o :: rest) a (w.alloc (.cells #[.int .i64 p, .int .i64 q] E)) := by
  obtain ⟨i, hi, hz1, hz2, hz3⟩ := info_parts hinfo
  subst hb
  refine wpList_append_own_at _ hgd s x t ho base E i _ 2 bytes ht hi hz1 hz2 hz3 rfl (by omega) v n (pairs l) hs (hown.alloc _) ⟨w.heap.size, 0, none⟩ 1 1 [.int .i64 p, .int .i64 q] hx rfl ?_ ?_ (by unfold maxLen; omega) (by omega) (by simp; omega) ?_
  · intro j u' hj
    match j, hj with
    | 0, hj => simp at hj; subst hj; simp [Addr.add]
    | 1, hj => simp at hj; subst hj; simp [Addr.add]
  · intro u' hu; simp at hu; rcases hu with rfl | rfl <;> rfl
  · intro v' w' ho' hg _ hat
    refine h v' w' (by rw [pairs_append]; exact ho') ((World.grownBy_alloc w _ _).trans hg) fun g hg' => ?_
    rcases hat with e | e
    · exact .inl (by rw [← e]; exact hg')
    · rw [e] at hg'
      simp at hg'
      exact .inr (by omega)
/-- a row's block lies outside lo .. hi - 1 -/
def Out (lo hi : Nat) (v : Value) : Prop := ∀ g, v.ownBlock = some g → g < lo ∨ hi ≤ g
theorem Out.next {w : World} {lo hi : Nat} {v v' : Value} (h : Out lo hi v) (hat : At w v v') (hz : hi ≤ w.heap.size) : Out lo hi v' := fun g hg => by
  rcases hat g hg with e | e
  · exact h g e
  · exact .inr (by omega)
theorem Sl.grownO {w w' : World} {lo hi n c : Nat} {E : TypeId} {A : Option Addr} {xs : List Value} {v : Value} (s : Sl w lo hi E A n c xs) (hg : w.grownBy w' v.ownBlock) (ho : Out lo hi v) : Sl w' lo hi E A n c xs :=
  ⟨s.1, fun hx => by
    obtain ⟨g, off, cur, e, h1, h2, h3, h4⟩ := s.2 hx
    refine ⟨g, off, cur, e, h1, h2, (hg.block g (lt_of_heap h3) fun e' => ?_).trans h3, h4⟩
    rcases ho g e'.symm with h | h <;> omega⟩
theorem own_neH {w : World} {base : Nat} {E : TypeId} {size n : Nat} {v : Value} {xs : List Value} (h : w.ownsRow base E size v n xs) : ∀ g, v.ownBlock = some g → g ≠ w.heap.size := fun g hg => by have := own_lt h g hg; omega
theorem rsL_succ (l v : VL) {k : Nat} (h : k < nb l.length) : (rsL l v).take (k + 1) = (rsL l v).take k ++ [spv (bvec l) v k] := take_snoc_of (rsL_at h)
theorem rsO_no {l v : VL} (h : rsB l v = false) : rsO l v = [] := by unfold rsO; rw [h]; rfl
theorem rsO_yes {l v : VL} (h : rsB l v = true) : rsO l v = rsL l v := by unfold rsO; rw [h]; rfl
theorem rsO_short (l v : VL) : (rsO l v).length ≤ 21 := by
  unfold rsO
  split
  · next h =>
    have := (rsB_parts h).1.seven
    rw [rsL_length]
    exact nb_le _ (by omega)
  · simp
set_option maxRecDepth 100000 in
set_option maxHeartbeats 400000 in
theorem specSpread_any (A1 A2 : Option Addr) (n1 c1 n2 c2 : Nat) (l v : VL) (w : World) (hl : l.length = n1) (hv : v.length = n2) (z1 : n1 ≤ 1048576) (z2 : n2 ≤ 1048576) (r1 : Rd w w.heap.size A1 n1 c1 (pairs l)) (r2 : Rd w w.heap.size A2 n2 c2 (pairs v)) :
    Calls Try.prog 17 #[.slice A1 n1 c1, .slice A2 n2 c2] w (RetSB w 44 (rsO l v).length (pairs (rsO l v)) (rsB l v)) := by
  have x0 : Ext w (w.alloc (.cells #[] 44)) := (Ext.refl w).alloc _
  have HX0 := Lib.hid x0
  have HAV := Lib.hid (fun W (x : Ext w W) => specArrayValid_any A1 n1 c1 l W hl z1 (r1.ext x))
  have HVV := Lib.hid (fun W (x : Ext w W) => specVisValid_any (n1 : Int) A2 n2 c2 v W hv (by omega) (r2.ext x))
  rcases e1 : arB l with _ | _
  · have HB : Hid (rsB l v = false) := by show _ = _; simp [rsB, e1]
    rw [e1] at HAV
    clear hl hv r1 r2 e1 x0
    go_enter Try.func17, Try.ntmps17
    go_wp2_with fail
    refine (HAV.out _ HX0.out).mono ?_
    rintro e w1 ⟨rfl, x1⟩
    go_wp2
    go_ret2
    rw [HB.out, rsO_no HB.out]
    exact RetSB.nil rfl rfl (HX0.out.trans x1)
  rw [e1] at HAV
  rcases e2 : visB (n1 : Int) v with _ | _
  · have HB : Hid (rsB l v = false) := by show _ = _; simp [rsB, hl, e2]
    rw [e2] at HVV
    clear hl hv r1 r2 e1 e2 x0
    go_enter Try.func17, Try.ntmps17
    go_wp2_with fail
    refine (HAV.out _ HX0.out).mono ?_
    rintro e w1 ⟨rfl, x1⟩
    go_wp2_with fail
    refine (HVV.out _ (HX0.out.trans x1)).mono ?_
    rintro e w2 ⟨rfl, q2, rfl⟩
    go_wp2
    go_ret2
    rw [HB.out, rsO_no HB.out]
    exact RetSB.nil rfl rfl ((HX0.out.trans x1).drewN _)
  rw [e2] at HVV
  have hB : rsB l v = true := by simp [rsB, e1, hl, e2]
  obtain ⟨hA, hvl, hrg⟩ := rsB_parts hB
  have HB := Lib.hid hB
  have hn7 := hA.seven
  have hn2 := hA.two
  rw [hl] at hn7 hn2 hvl
  have hnb := nb_le n1 (by omega)
  have hnp := nb_pos n1 (by omega) hn2
  have HGR := Lib.hid (fun W (x : Ext w W) => specGroups_any A1 n1 c1 l W hl hA (r1.ext x))
  have HVC := Lib.hid (fun W (x : Ext w W) (k : Nat) (hk : k < nb n1) => l17Vector_any A1 n1 c1 l W k hl hA (r1.ext x) hk)
  have HSG := Lib.hid (fun W (i j : Nat) (hi : i < nb n1) (hj : j < nb n1) => l17Sign_any (bvec l i) (bvec l j) W (bvec_in hA (by rw [hl]; exact hi)) (bvec_in hA (by rw [hl]; exact hj)))
  have HGS := Lib.hid (grp_spec (bvec l))
  have HGL : Hid (∀ k, k < nb n1 → (grL l)[k]? = some ((grp (bvec l) k : Nat) : Int)) := fun k h => grL_at (by rw [hl]; exact h)
  have HSU : Hid (∀ k, k < nb n1 → (rsL l v).take (k + 1) = (rsL l v).take k ++ [spv (bvec l) v k]) := fun k h => rsL_succ l v (by rw [hl]; exact h)
  have HRL : Hid ((rsL l v).length = nb n1) := by show _ = _; rw [rsL_length, hl]
  have HRG : Hid (∀ k, k < nb n1 → 1 ≤ vAm v k ∧ vAm v k ≤ 1000000 ∧ 0 ≤ vPh v k ∧ vPh v k < 360) := fun k h => rgB_at hrg (by omega)
  have HRO : Hid (rsO l v = rsL l v) := rsO_yes hB
  have HR2 := Lib.hid r2
  have HN2 : Hid (n2 = nb n1) := by show _ = _; omega
  have HVL := Lib.hid hv
  obtain ⟨gv, ov, rfl⟩ := r2.addr (by rw [pairs_length, hv, HN2.out]; omega)
  clear hl hv r1 r2 e1 e2 x0 hB hA hvl hrg
  rw [HB.out, HRO.out, HRL.out]
  generalize rsL l v = rl at *
  generalize grL l = gl at *
  generalize nb n1 = M at *
  generalize bvec l = f at *
  go_enter Try.func17, Try.ntmps17
  go_wp2_with fail
  refine (HAV.out _ HX0.out).mono ?_
  rintro e w1 ⟨rfl, x1⟩
  go_wp2_with fail
  refine (HVV.out _ (HX0.out.trans x1)).mono ?_
  rintro e w2 ⟨rfl, q2, rfl⟩
  have HX2 : Hid (Ext w (w1.drewN q2)) := (HX0.out.trans x1).drewN _
  have ho2 : (w1.drewN q2).ownsRow w.heap.size 44 2 (.slice (some ⟨w.heap.size, 0, none⟩) 0 0) 0 (pairs (rl.take 0)) := own_ext (World.ownsRow_lit w #[] 0 (Nat.le_refl _) (by simp [maxLen]) rfl) (x1.drewN q2)
  have hz2 := ho2 |> fun h => own_lt h w.heap.size rfl
  clear x1
  go_wp2_with fail
  generalize w1.drewN q2 = w2 at *
  refine (HGR.out _ HX2.out).mono ?_
  rintro e w3 ⟨A3, c3, rfl, s3, x3⟩
  obtain ⟨gg, og, rfl⟩ := s3.rd.addr (by rw [ints_length]; have := lt_of_at (HGL.out 0 (by omega)); omega)
  have ho3 := own_ext ho2 x3
  have hx3 := HX2.out.trans x3
  have hz3 := x3.size
  have hou : Out w2.heap.size w3.heap.size (.slice (some ⟨w.heap.size, 0, none⟩) 0 0) := fun g hg => .inl (by simp [Value.ownBlock] at hg; omega)
  clear ho2 x3
  go_wp2_with fail
  go_loopw [6, 8] (fun o i wr => ∃ k : Nat, k ≤ M ∧ i = .int .i64 k ∧ wr.ownsRow w.heap.size 44 2 o k (pairs (rl.take k)) ∧ Out w2.heap.size w3.heap.size o ∧ Sl wr w2.heap.size w3.heap.size 3 (some ⟨gg, og, none⟩) M c3 (ints gl) ∧ Ext w wr ∧ w3.heap.size ≤ wr.heap.size) (fun _ i _ => M - (intOf i).toNat)
  case atStart => exact ⟨0, Nat.zero_le _, rfl, ho3, hou, s3, hx3, Nat.le_refl _⟩
  case round =>
    clear ho3 hou s3 hx3
    obtain ⟨k, hk, rfl, ho, hou, hs, he, hz⟩ := hrel
    by_cases hlt : k < M
    · have h2 : (k : Int) < (M : Int) := by omega
      have h20 : (0 : Int) ≤ (k : Int) := by omega
      have hgk := (HGS.out k).1
      have hgl := (HGS.out k).2.1
      have HSN := Lib.hid (HSU.out k hlt)
      have HGK := Lib.hid (HGL.out k hlt)
      have hcg := hs.cell (ints_at' HGK.out)
      have hrm := HRG.out (grp f k) (by omega)
      have hv0 := (HR2.out.ext he).fst (some_v (l := v) (k := grp f k) (by rw [HVL.out, HN2.out]; omega))
      have hv1 := (HR2.out.ext he).snd (some_v (l := v) (k := grp f k) (by rw [HVL.out, HN2.out]; omega))
      have HSP : Hid (spv f v k = if f (grp f k) = f k then (vAm v (grp f k), vPh v (grp f k)) else (vAm v (grp f k), (-(vPh v (grp f k))) % 360)) := rfl
      have HS := Lib.hid (fun W => HSG.out W (grp f k) k (by omega) hlt)
      have HV1 := Lib.hid (fun W (x : Ext w W) => HVC.out W x (grp f k) (by omega))
      have HV2 := Lib.hid (fun W (x : Ext w W) => HVC.out W x k hlt)
      have h3 : ((grp f k : Nat) : Int) < (n2 : Int) := by rw [HN2.out]; omega
      have h30 : (0 : Int) ≤ ((grp f k : Nat) : Int) := by omega
      have hns := sg_neg hgl
      clear hgl
      generalize grp f k = m at *
      generalize vAm v m = am at *
      generalize vPh v m = ph at *
      have S3 := St.new wr #[.int .i64 am, .int .i64 ph] 44
      have xb : Ext wr (wr.alloc (.cells #[.int .i64 am, .int .i64 ph] 44)) := (Ext.refl wr).alloc _
      have e4 := he.trans xb
      have o4 := own_ext ho xb
      have s4 := hs.ext xb
      have hcg4 := s4.cell (ints_at' HGK.out)
      have hlo := own_neH ho
      have hz4 := xb.size
      have HO := Lib.hid hou
      have hzr := he.size
      clear ho hou hs he xb
      by_cases hfe : f m = f k
      · have hd : decide (sg (f m) (f k) < 0) = false := by
          rw [decide_eq_false_iff_not, hns]; simpa using hfe
        have HSQ : Hid (spv f v k = (am, ph)) := by show _ = _; rw [HSP.out, if_pos hfe]
        clear hns hfe
        go_wp2_with fail
        generalize wr.alloc (.cells #[.int .i64 am, .int .i64 ph] 44) = w4 at *
        refine (HV1.out _ e4).mono ?_
        rintro e w5 ⟨rfl, x5⟩
        go_wp2_with fail
        refine (HV2.out _ (e4.trans x5)).mono ?_
        rintro e w6 ⟨rfl, x6⟩
        go_wp2_with fail
        refine (HS.out _).mono ?_
        rintro e w7 ⟨rfl, x7⟩
        have X := (x5.trans x6).trans x7
        have S7 := S3.ext X
        have k0 := S7.cell0
        have k1 := S7.cell1
        have o7 := own_ext o4 X
        have s7 := s4.ext X
        have e7 := e4.trans X
        have hz7 := X.size
        clear x5 x6 x7 X S3 o4 s4 e4 S7
        go_wp2_with (at_builtin; refine wpList_append2A (w := w7) rfl _ _ _ rfl w.heap.size 44 16 Vis.info Try.underlying29 _ k _ (by rfl) o7 am ph _ (by rfl) rfl (by omega) (by omega) (by omega) ?_; intro v' w8 o8 hg8 hat8)
        have e8 := e7.grownV o7 hg8 (Nat.le_refl _)
        have s8 := s7.grownO hg8 HO.out
        have ou8 := HO.out.next hat8 (by omega)
        have hz8 := hg8.size
        rw [← HSQ.out, ← HSN.out] at o8
        go_roundw
        case rel => exact ⟨k + 1, by omega, by go_num, o8, ou8, s8, e8, by omega⟩
        case measure => simp [intOf]; omega
      · have hd : decide (sg (f m) (f k) < 0) = true := by
          rw [decide_eq_true_eq, hns]; exact hfe
        have HSQ : Hid (spv f v k = (am, (-ph) % 360)) := by show _ = _; rw [HSP.out, if_neg hfe]
        have f1 : IntKind.i64.wrap (0 - ph) = -ph := by rw [IntWalk.i64_in _ (by omega)]; omega
        clear hns hfe
        go_wp2_with fail
        generalize wr.alloc (.cells #[.int .i64 am, .int .i64 ph] 44) = w4 at *
        refine (HV1.out _ e4).mono ?_
        rintro e w5 ⟨rfl, x5⟩
        go_wp2_with fail
        refine (HV2.out _ (e4.trans x5)).mono ?_
        rintro e w6 ⟨rfl, x6⟩
        go_wp2_with fail
        refine (HS.out _).mono ?_
        rintro e w7 ⟨rfl, x7⟩
        have X := (x5.trans x6).trans x7
        have S7 := S3.ext X
        have k0 := S7.cell0
        have k1 := S7.cell1
        have k2 := S7.frozen 1
        have o7 := own_ext o4 X
        have s7 := s4.ext X
        have e7 := e4.trans X
        have hz7 := X.size
        obtain ⟨U, HU⟩ : ∃ U, Hid (U = (-ph) % 360) := ⟨_, rfl⟩
        have S8 := S7.set 1 (.int .i64 U)
        have o8 := own_far o7 (p := ⟨wr.heap.size, 1, none⟩) hlo (.int .i64 U)
        have s8 := s7.far (p := ⟨wr.heap.size, 1, none⟩) (.inr hz) (.int .i64 U)
        have e8 := e7.setCell (p := ⟨wr.heap.size, 1, none⟩) hzr (.int .i64 U)
        have j0 : (w7.setCell ⟨wr.heap.size, 1, none⟩ (.int .i64 U)).cell? ⟨wr.heap.size, 0, none⟩ = some (.int .i64 am) := S8.cell 0
        have j1 : (w7.setCell ⟨wr.heap.size, 1, none⟩ (.int .i64 U)).cell? ⟨wr.heap.size, 1, none⟩ = some (.int .i64 U) := S8.cell 1
        have hz8 : w7.heap.size = (w7.setCell ⟨wr.heap.size, 1, none⟩ (.int .i64 U)).heap.size := (World.size_setCell _ _ _).symm
        have HJ := Lib.hid (And.intro j0 (And.intro j1 hz8))
        clear x5 x6 x7 X S3 o4 s4 e4 S7 S8 o7 s7 e7 j0 j1 hz8
        go_wp2_with fail
        refine (specPhaseOf_any _ _).mono ?_
        rintro e w' ⟨rfl, rfl⟩
        rw [← HU.out]
        have j0 := HJ.out.1
        have j1 := HJ.out.2.1
        go_wp2_with (at_builtin; refine wpList_append2A (w := w7.setCell ⟨wr.heap.size, 1, none⟩ (.int .i64 U)) rfl _ _ _ rfl w.heap.size 44 16 Vis.info Try.underlying29 _ k _ (by rfl) o8 am U _ (by rfl) (by first | rfl | (simp only [World.size_setCell]; done)) (by omega) (by omega) (by rw [World.size_setCell]; omega) ?_; intro v' w8 o9 hg9 hat9)
        have e9 := e8.grownV o8 hg9 (Nat.le_refl _)
        have s9 := s8.grownO hg9 HO.out
        have ou9 := HO.out.next hat9 (by rw [World.size_setCell]; omega)
        have hz9 := hg9.size
        rw [World.size_setCell] at hz9
        rw [HU.out, ← HSQ.out, ← HSN.out] at o9
        go_roundw
        case rel => exact ⟨k + 1, by omega, by go_num, o9, ou9, s9, e9, by omega⟩
        case measure => simp [intOf]; omega
    · have e : k = M := by omega
      rw [e, List.take_of_length_le (by rw [HRL.out]; exact Nat.le_refl _)] at ho
      obtain ⟨A', c', hv', hs'⟩ := Sl.of_own ho
      subst hv'
      rw [e]
      have hd : decide (M < M) = false := by simp
      clear e ho hou hlt hk
      go_wp2
      go_ret2
      exact ⟨A', c', rfl, hs', he⟩
end Go.Proofs.Ytebjdchfofhmhaa
