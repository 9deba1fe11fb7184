/-
  Contract of GainApply of the program.
-/
import Derived.Test.YtebjdchfofhmhaaHeld3
import Derived.Test.YtebjdchfofhmhaaVisV
import Derived.Test.YtebjdchfofhmhaaFlagI
namespace Go.Proofs.Ytebjdchfofhmhaa
open Go.RowKit Go.Shelf
attribute [local go_sem] Oper.semAt_some
set_option linter.unusedSimpArgs false
set_option linter.unusedVariables false

/-- a visibility with the gains of its antennas applied -/
def gaF (l g : VL) (k : Nat) (p : Nat × Nat) : Int × Int := (vAm l k * vAm g p.1 * vAm g p.2, (vPh l k + vPh g p.2 - vPh g p.1) % 360)
def byAt (f : Nat → Nat × Nat → Int × Int) (ps : List (Nat × Nat)) : VL := (List.range ps.length).map fun k => f k (ps[k]?.getD (0, 0))
theorem byAt_snoc (f : Nat → Nat × Nat → Int × Int) (ps : List (Nat × Nat)) (p : Nat × Nat) : byAt f (ps ++ [p]) = byAt f ps ++ [f ps.length p] := by
  unfold byAt
  rw [List.length_append, List.length_singleton, List.range_succ, List.map_append]
  congr 1
  · refine List.map_congr_left fun k hk => ?_
    rw [List.getElem?_append_left (List.mem_range.1 hk)]
  · simp
theorem byAt_length (f : Nat → Nat × Nat → Int × Int) (ps : List (Nat × Nat)) : (byAt f ps).length = ps.length := by simp [byAt]
theorem byAt_at {f : Nat → Nat × Nat → Int × Int} {ps : List (Nat × Nat)} {k : Nat} {p : Nat × Nat} (h : ps[k]? = some p) : (byAt f ps)[k]? = some (f k p) := by
  have hk := lt_of_at h
  simp only [byAt, List.getElem?_map, List.getElem?_range hk, Option.map_some, h, Option.getD_some]
def gaM (l g : VL) (ps : List (Nat × Nat)) : VL := byAt (gaF l g) ps
def gappB (n : Int) (l g : VL) : Bool := visB n l && gaB n g && visB n (gaM l g (bp n.toNat))
def gappL (n : Int) (l g : VL) : VL := if gappB n l g then gaM l g (bp n.toNat) else []
theorem vals_length {N : Nat} (l : List (BL N)) : (vals l).length = l.length := by simp [vals]
theorem gaM_snoc (l g : VL) {N : Nat} (pre : List (BL N)) (x : BL N) : gaM l g (vals (pre ++ [x])) = gaM l g (vals pre) ++ [gaF l g pre.length x.1] := by rw [vals_snoc, gaM, byAt_snoc, vals_length]; rfl
theorem gaM_length (l g : VL) (ps : List (Nat × Nat)) : (gaM l g ps).length = ps.length := byAt_length _ _
theorem mul_in {a b A B : Int} (h1 : 1 ≤ a) (h2 : a ≤ A) (h3 : 1 ≤ b) (h4 : b ≤ B) : 1 ≤ a * b ∧ a * b ≤ A * B :=
  ⟨by have := Int.mul_le_mul h1 h3 (by omega) (by omega); simpa using this, Int.mul_le_mul h2 h4 (by omega) (by omega)⟩
theorem sl_putObj {w : World} {lo hi D n c : Nat} {E : TypeId} {A : Option Addr} {xs : List Value} {o : Obj} (h : Sl w lo hi E A n c xs) (hK : w.heap[D]? = some (.deferred (some []))) : Sl (w.putObj D o) lo hi E A n c xs :=
  ⟨h.1, fun hx => by
    obtain ⟨g, off, cur, e, h3, h4, h5, h6⟩ := h.2 hx
    refine ⟨g, off, cur, e, h3, h4, (World.putObj_heap_other ?_).trans h5, h6⟩
    rintro rfl
    rw [h5] at hK; cases hK⟩
theorem makes_vis (d : Tmp) (o : Oper) (h1 : o.op = .alloc 44) (h2 : o.dst = some d) (h3 : o.guard = none) : Makes Try.prog o d (.cells #[.int .i64 0, .int .i64 0] 44) := by
  refine ⟨h3, fun a w K Q h => ?_⟩
  obtain ⟨dst, op, ty, pos, after, guard⟩ := o
  simp only at h1 h2 h3
  subst h1 h2 h3
  go_simp
  exact h
/-- the boxes of the arguments, that of the answer and that of the iterator -/
def GainI (N : Nat) (l g : VL) (w : World) (b : Nat) (v1 v2 : Value) (b4 B : Nat) (pre : List (BL N)) (W : World) : Prop :=
  (Ext w W ∧ St W b #[v1] 29) ∧ (St W (b + 1) #[v2] 29 ∧ (∃ v, St W b4 #[v] 29 ∧ W.ownsRow (B + 1) 44 2 v pre.length (pairs (gaM l g (vals pre))))) ∧ St W B #[.int .i64 (N : Int)] 3
theorem gainI_own (N : Nat) (l g : VL) (w : World) (b : Nat) (v1 v2 : Value) (b4 B B0 : Nat) (h : w.heap.size ≤ B0) : OwnFrom B0 (GainI N l g w b v1 v2 b4 B) :=
  ((own_extW h).and (own_st _)).and (((own_st _).and (own_row (fun pre => pre.length) (fun pre => pairs (gaM l g (vals pre))))).and (own_st _))
set_option maxRecDepth 100000 in
set_option maxHeartbeats 4000000 in
theorem gainApply_any (n : Int) (A1 A2 : Option Addr) (n1 c1 n2 c2 : Nat) (l g : VL) (w : World) (hl : l.length = n1) (hg : g.length = n2) (z1 : n1 ≤ 1048576) (z2 : n2 ≤ 1048576) (r1 : Rd w w.heap.size A1 n1 c1 (pairs l)) (r2 : Rd w w.heap.size A2 n2 c2 (pairs g)) :
    Calls Try.prog 28 #[.int .i64 n, .slice A1 n1 c1, .slice A2 n2 c2] w (RetSB w 44 (gappL n l g).length (pairs (gappL n l g)) (gappB n l g)) := by
  obtain ⟨w0, hw0⟩ : ∃ w0, w0 = (w.alloc (.cells #[.slice A1 n1 c1] 29)).alloc (.cells #[.slice A2 n2 c2] 29) := ⟨_, rfl⟩
  have x0 : Ext w w0 := by rw [hw0]; exact ((Ext.refl w).alloc _).alloc _
  have s0 : St w0 w.heap.size #[.slice A1 n1 c1] 29 := by rw [hw0]; exact (St.new w _ _).ext ((Ext.refl _).alloc _)
  have s1 : St w0 (w.heap.size + 1) #[.slice A2 n2 c2] 29 := by
    rw [hw0]; have := St.new (w.alloc (.cells #[.slice A1 n1 c1] 29)) #[.slice A2 n2 c2] 29
    rw [World.size_alloc] at this
    exact this
  have HV1 := Lib.hid (fun (W : World) (x : Ext w W) => visValid_any n A1 n1 c1 l W hl (by omega) (r1.ext x))
  have HV2 := Lib.hid (fun (W : World) (x : Ext w W) => gainsValid_any n A2 n2 c2 g W hg (by omega) (r2.ext x))
  have HW0 := Lib.hid hw0
  have HL := Lib.hid hl
  have HG := Lib.hid hg
  clear hl hg hw0
  refine (callsIn_wide (n := 10)).1 ?_
  refine callsIn_of_wp_marks Try.func28 rfl trivial ?_ rfl
  refine wpIn_wide.2 ?_
  simp only [Try.ntmps28, List.size_toArray, List.length_cons, List.length_nil, Nat.reduceAdd, Nat.reduceSub, Array.replicate_succ, Array.replicate_zero, List.push_toArray, List.append_toArray, List.nil_append, List.cons_append]
  have k0 := s0.one'
  have k1 := s1.one'
  rcases h1 : visB n l with _ | _
  · have H1 := Lib.hid h1
    have HB : Hid (gappB n l g = false) := by show _ = _; simp [gappB, h1]
    have HC : Hid (gappL n l g = []) := by show _ = _; simp [gappL, HB.out]
    clear h1
    go_wp2_with fail
    rw [← HW0.out]
    refine (HV1.out _ x0).mono ?_
    rintro e w1 ⟨rfl, x1⟩
    rw [H1.out]
    go_wp2
    refine marks_ret rfl (results_tmp2 rfl _ _ _) ?_
    rw [HB.out]
    exact RetSB.nil (by rw [HC.out]; rfl) (by rw [HC.out]; rfl) (x0.trans x1)
  have H1 := Lib.hid h1
  go_wp2_with fail
  rw [← HW0.out]
  refine (HV1.out _ x0).mono ?_
  rintro e w1 ⟨rfl, x1⟩
  rw [H1.out]
  replace x1 : Ext w0 w1 := x1
  have y1 := x0.trans x1
  replace s0 := s0.ext x1
  replace s1 := s1.ext x1
  clear k0 k1 x0 x1
  have k0 := s0.one'
  have k1 := s1.one'
  rcases h2 : gaB n g with _ | _
  · have H2 := Lib.hid h2
    have HB : Hid (gappB n l g = false) := by show _ = _; simp [gappB, h2]
    have HC : Hid (gappL n l g = []) := by show _ = _; simp [gappL, HB.out]
    clear h1 h2
    go_wp2_with fail
    refine (HV2.out _ y1).mono ?_
    rintro e w2 ⟨rfl, x2⟩
    rw [H2.out]
    go_wp2
    refine marks_ret rfl (results_tmp2 rfl _ _ _) ?_
    rw [HB.out]
    exact RetSB.nil (by rw [HC.out]; rfl) (by rw [HC.out]; rfl) (y1.trans x2)
  have H2 := Lib.hid h2
  obtain ⟨N, rfl, g1, g2, g3, g4⟩ := visB_parts h1
  obtain ⟨N', e, _, _, g5, g6⟩ := gaB_parts h2
  obtain rfl : N' = N := by omega
  have HG3 := Lib.hid g3
  have HG4 := Lib.hid g4
  have HG5 := Lib.hid g5
  have HG6 := Lib.hid g6
  have HBD : Hid (gappB (N' : Int) l g = visB (N' : Int) (gaM l g (bp N'))) := by show _ = _; simp [gappB, h1, h2]
  clear e h1 h2 g3 g4 g5 g6
  go_wp2_with fail
  refine (HV2.out _ y1).mono ?_
  rintro e w2 ⟨rfl, x2⟩
  rw [H2.out]
  have y2 := y1.trans x2
  replace s0 := s0.ext x2
  replace s1 := s1.ext x2
  clear k0 k1 y1 x2
  have hszs := s1.lt
  have s4 := St.new w2 #[.slice none 0 0] 29
  have x3 : Ext w2 (w2.alloc (.cells #[.slice none 0 0] 29)) := (Ext.refl w2).alloc _
  have y3 := y2.trans x3
  replace s0 := s0.ext x3
  replace s1 := s1.ext x3
  go_wp2_with fail
  refine (bases_any _ _).mono ?_
  rintro e w' ⟨rfl, rfl⟩
  have sB := St.new (w2.alloc (.cells #[.slice none 0 0] 29)) #[.int .i64 (N' : Int)] 3
  rw [World.size_alloc] at sB
  have x4 : Ext (w2.alloc (.cells #[.slice none 0 0] 29)) ((w2.alloc (.cells #[.slice none 0 0] 29)).alloc (.cells #[.int .i64 (N' : Int)] 3)) := (Ext.refl _).alloc _
  have y4 := y3.trans x4
  replace s0 := s0.ext x4
  replace s1 := s1.ext x4
  replace s4 := s4.ext x4
  have hsz := y2.size
  clear x3 x4 y3 y2
  go_wp2_with fail
  generalize ((w2.alloc (.cells #[.slice none 0 0] 29)).alloc (.cells #[.int .i64 (N' : Int)] 3)) = w5 at *
  obtain ⟨ga, oa, rfl⟩ := r1.addr (by rw [pairs_length, HG3.out]; have := nb_pos N' (by omega) g1; omega)
  obtain ⟨gb, ob, rfl⟩ := r2.addr (by rw [pairs_length, HG5.out]; omega)
  have hI0 : GainI N' l g w w.heap.size (.slice (some ⟨ga, oa, none⟩) n1 c1) (.slice (some ⟨gb, ob, none⟩) n2 c2) w2.heap.size (w2.heap.size + 1) [] w5 := ⟨⟨y4, s0⟩, ⟨s1, _, s4, World.ownsRow_nil _ _ _ _⟩, sB⟩
  have hlt := sB.lt
  have hcB := sB.one'
  have hsz5 := y4.size
  clear s0 s1 s4 y4 sB HW0
  refine (wpIn_wide (n := 10)).1 ?_
  refine' wpIn_rangeFunc_ownF rfl (by omega) (gf := 70) (lb := #[.pointer (some ⟨w2.heap.size + 1, 0, none⟩)]) rfl trivial (enters_of Try.func70 (by kernel_rfl) rfl)
    (bases1_stops N' g1 (by omega) _ (by omega) (w2.heap.size + 1) _ hcB hlt) kpB_t (kpB_b hlt) (Below.refl _ _) (fun _ => rfl)
    (GainI N' l g w w.heap.size (.slice (some ⟨ga, oa, none⟩) n1 c1) (.slice (some ⟨gb, ob, none⟩) n2 c2) w2.heap.size (w2.heap.size + 1)) (fun _ _ _ => False)
    (gainI_own _ _ _ _ _ _ _ _ _ _ hsz5) (fun _ => own_false) hI0 _ ?assign ?body ?done ?stop
  case assign =>
    intro l x W K hK
    dsimp only [bEnc]
    gi_wp2
    exact hK
  case body =>
    rintro l0 pre ⟨⟨i, j⟩, hij0, hjN0⟩ W ⟨⟨e1, t0⟩, ⟨t1, v, t4, ho⟩, tB⟩ hpre
    have hij : i < j := hij0
    have hjN : j < N' := hjN0
    obtain ⟨A5, c5, hv5, _⟩ := Sl.of_own ho
    subst hv5
    have hq1 : pre.length < n1 := by have a := HL.out; have b := HG3.out; omega
    have hq1i : (pre.length : Int) < (n1 : Int) := by omega
    have hi2 : i < n2 := by have a := HG.out; have b := HG5.out; omega
    have hj2 : j < n2 := by have a := HG.out; have b := HG5.out; omega
    have hi2i : (i : Int) < (n2 : Int) := by omega
    have hj2i : (j : Int) < (n2 : Int) := by omega
    have rg1 := rgB_at HG4.out (k := pre.length) (by rw [HG3.out]; omega)
    have rg2 := rgB_at HG6.out (k := i) (by rw [HG5.out]; omega)
    have rg3 := rgB_at HG6.out (k := j) (by rw [HG5.out]; omega)
    have HS : Hid (∀ W', Ext W.drew W' → W'.cell? ⟨w.heap.size, 0, none⟩ = some (.slice (some ⟨ga, oa, none⟩) n1 c1) ∧ W'.cell? ⟨w.heap.size + 1, 0, none⟩ = some (.slice (some ⟨gb, ob, none⟩) n2 c2) ∧ W'.cell? ⟨w2.heap.size, 0, none⟩ = some (.slice A5 pre.length c5) ∧ W'.cell? ⟨ga, oa + pre.length * 2, none⟩ = some (.int .i64 (vAm l pre.length)) ∧ W'.cell? ⟨ga, oa + pre.length * 2 + 1, none⟩ = some (.int .i64 (vPh l pre.length)) ∧ W'.cell? ⟨gb, ob + i * 2, none⟩ = some (.int .i64 (vAm g i)) ∧ W'.cell? ⟨gb, ob + i * 2 + 1, none⟩ = some (.int .i64 (vPh g i)) ∧ W'.cell? ⟨gb, ob + j * 2, none⟩ = some (.int .i64 (vAm g j)) ∧ W'.cell? ⟨gb, ob + j * 2 + 1, none⟩ = some (.int .i64 (vPh g j))) := fun W' x => by
      have y := (e1.drew).trans x
      exact ⟨(t0.ext ((Ext.refl W).drew.trans x)).one', (t1.ext ((Ext.refl W).drew.trans x)).one', (t4.ext ((Ext.refl W).drew.trans x)).one', (r1.ext y).fst (some_v (l := l) (by rw [HG3.out]; omega)), (r1.ext y).snd (some_v (l := l) (by rw [HG3.out]; omega)), (r2.ext y).fst (some_v (l := g) (by rw [HG5.out]; omega)), (r2.ext y).snd (some_v (l := g) (by rw [HG5.out]; omega)), (r2.ext y).fst (some_v (l := g) (by rw [HG5.out]; omega)), (r2.ext y).snd (some_v (l := g) (by rw [HG5.out]; omega))⟩
    have HT2 : Hid (Ext w W.drew ∧ St W.drew w.heap.size #[.slice (some ⟨ga, oa, none⟩) n1 c1] 29 ∧ St W.drew (w.heap.size + 1) #[.slice (some ⟨gb, ob, none⟩) n2 c2] 29 ∧ St W.drew w2.heap.size #[.slice A5 pre.length c5] 29 ∧ W.drew.ownsRow (w2.heap.size + 1 + 1) 44 2 (.slice A5 pre.length c5) pre.length (pairs (gaM l g (vals pre))) ∧ St W.drew (w2.heap.size + 1) #[.int .i64 (N' : Int)] 3) := ⟨e1.drew, t0, t1, t4, ho, tB⟩
    have HKO : Hid (KeepsOthers W W.drew ∧ W.drew.heap = W.heap) := ⟨KeepsOthers.drew W, rfl⟩
    have HZ : Hid (W.heap.size = W.drew.heap.size) := rfl
    clear e1 t0 t1 t4 ho tB
    gi_wp2
    refine round_made 13 (fun W' => W'.cell? ⟨w.heap.size, 0, none⟩ = some (.slice (some ⟨ga, oa, none⟩) n1 c1) ∧ W'.cell? ⟨w.heap.size + 1, 0, none⟩ = some (.slice (some ⟨gb, ob, none⟩) n2 c2) ∧ W'.cell? ⟨w2.heap.size, 0, none⟩ = some (.slice A5 pre.length c5) ∧ W'.cell? ⟨ga, oa + pre.length * 2, none⟩ = some (.int .i64 (vAm l pre.length)) ∧ W'.cell? ⟨ga, oa + pre.length * 2 + 1, none⟩ = some (.int .i64 (vPh l pre.length)) ∧ W'.cell? ⟨gb, ob + i * 2, none⟩ = some (.int .i64 (vAm g i)) ∧ W'.cell? ⟨gb, ob + i * 2 + 1, none⟩ = some (.int .i64 (vPh g i)) ∧ W'.cell? ⟨gb, ob + j * 2, none⟩ = some (.int .i64 (vAm g j)) ∧ W'.cell? ⟨gb, ob + j * 2 + 1, none⟩ = some (.int .i64 (vPh g j))) (.cells #[.int .i64 0, .int .i64 0] 44) 11 12 13 (by kernel_rfl) (by kernel_rfl) (by kernel_rfl) (by kernel_rfl) (by kernel_rfl) (by kernel_rfl) (by kernel_rfl) (by kernel_rfl) rfl rfl rfl (makes_vis _ _ rfl rfl rfl) (makes_vis _ _ rfl rfl rfl) (makes_vis _ _ rfl rfl rfl) (by decide) (by decide) (by decide) (by rintro ⟨a, w, h⟩; exact h) (fun _ _ _ _ _ h => h) (HS.out _ (Ext.refl _)) (HS.out _ ((Ext.refl _).alloc _)) (HS.out _ (((Ext.refl _).alloc _).alloc _)) (HS.out _ ((((Ext.refl _).alloc _).alloc _).alloc _)) ?_
    simp only [List.take_succ_cons, List.take_zero, List.drop_succ_cons, List.drop_zero]
    iterate 13
      apply headG_step
      · rfl
      · intro w' hSw
        (try dsimp only at hSw)
        go_simp
        all_goals exact rfl
      simp only [Act.put, List.setIfInBounds_toArray, List.set_cons_zero, List.set_cons_succ]
    intro p q r ap
    rw [HZ.out] at ap
    obtain ⟨sp, sq, sr⟩ := st_three (w := W.drew) (vs := #[.int .i64 0, .int .i64 0]) (T := 44) ap
    have x3 : Ext W.drew (((W.drew.alloc (.cells #[.int .i64 0, .int .i64 0] 44)).alloc (.cells #[.int .i64 0, .int .i64 0] 44)).alloc (.cells #[.int .i64 0, .int .i64 0] 44)) := (((Ext.refl _).alloc _).alloc _).alloc _
    obtain ⟨npq, npr, nqr⟩ := ap.ne
    obtain ⟨gp, gq, gr⟩ := ap.ge
    clear ap
    simp only [Act.put, ptr, List.setIfInBounds_toArray, List.set_cons_zero, List.set_cons_succ]
    generalize (((W.drew.alloc (.cells #[.int .i64 0, .int .i64 0] 44)).alloc (.cells #[.int .i64 0, .int .i64 0] 44)).alloc (.cells #[.int .i64 0, .int .i64 0] 44)) = W3 at *
    refine tail_cons fun K hK => ?_
    have a0 := sp.cell0
    have a1 := sp.cell1
    have f0 := sp.frozen 0
    have f1 := sp.frozen 1
    go_simp
    have x4 := x3.put2 gp (.int .i64 (vAm l pre.length)) (.int .i64 (vPh l pre.length))
    refine hK _ _ (HS.out _ x4) ?_
    have tp := sp.put2 (.int .i64 (vAm l pre.length)) (.int .i64 (vPh l pre.length))
    have tq := (sq.far (p := ⟨p, 0, none⟩) (Ne.symm npq) (.int .i64 (vAm l pre.length))).far (p := ⟨p, 1, none⟩) (Ne.symm npq) (.int .i64 (vPh l pre.length))
    have tr := (sr.far (p := ⟨p, 0, none⟩) (Ne.symm npr) (.int .i64 (vAm l pre.length))).far (p := ⟨p, 1, none⟩) (Ne.symm npr) (.int .i64 (vPh l pre.length))
    clear hK K a0 a1 f0 f1 sp sq sr x3
    generalize ((W3.setCell ⟨p, 0, none⟩ (.int .i64 (vAm l pre.length))).setCell ⟨p, 1, none⟩ (.int .i64 (vPh l pre.length))) = W4 at *
    refine tail_cons fun K hK => ?_
    have a0 := tq.cell0
    have a1 := tq.cell1
    have f0 := tq.frozen 0
    have f1 := tq.frozen 1
    go_simp
    have x5 := x4.put2 gq (.int .i64 (vAm g i)) (.int .i64 (vPh g i))
    refine hK _ _ (HS.out _ x5) ?_
    have uq := tq.put2 (.int .i64 (vAm g i)) (.int .i64 (vPh g i))
    have up := (tp.far (p := ⟨q, 0, none⟩) npq (.int .i64 (vAm g i))).far (p := ⟨q, 1, none⟩) npq (.int .i64 (vPh g i))
    have ur := (tr.far (p := ⟨q, 0, none⟩) (Ne.symm nqr) (.int .i64 (vAm g i))).far (p := ⟨q, 1, none⟩) (Ne.symm nqr) (.int .i64 (vPh g i))
    clear hK K a0 a1 f0 f1 tp tq tr x4
    generalize ((W4.setCell ⟨q, 0, none⟩ (.int .i64 (vAm g i))).setCell ⟨q, 1, none⟩ (.int .i64 (vPh g i))) = W5 at *
    refine tail_last fun K hK => ?_
    have a0 := ur.cell0
    have a1 := ur.cell1
    have f0 := ur.frozen 0
    have f1 := ur.frozen 1
    go_simp
    have x6 := x5.put2 gr (.int .i64 (vAm g j)) (.int .i64 (vPh g j))
    refine hK _ _ ?_
    have vr := ur.put2 (.int .i64 (vAm g j)) (.int .i64 (vPh g j))
    have vp := (up.far (p := ⟨r, 0, none⟩) npr (.int .i64 (vAm g j))).far (p := ⟨r, 1, none⟩) npr (.int .i64 (vPh g j))
    have vq := (uq.far (p := ⟨r, 0, none⟩) nqr (.int .i64 (vAm g j))).far (p := ⟨r, 1, none⟩) nqr (.int .i64 (vPh g j))
    clear hK K a0 a1 f0 f1 up uq ur x5
    generalize ((W5.setCell ⟨r, 0, none⟩ (.int .i64 (vAm g j))).setCell ⟨r, 1, none⟩ (.int .i64 (vPh g j))) = W6 at *
    have HT6 : Hid (Ext w W6 ∧ St W6 w.heap.size #[.slice (some ⟨ga, oa, none⟩) n1 c1] 29 ∧ St W6 (w.heap.size + 1) #[.slice (some ⟨gb, ob, none⟩) n2 c2] 29 ∧ St W6 w2.heap.size #[.slice A5 pre.length c5] 29 ∧ W6.ownsRow (w2.heap.size + 1 + 1) 44 2 (.slice A5 pre.length c5) pre.length (pairs (gaM l g (vals pre))) ∧ St W6 (w2.heap.size + 1) #[.int .i64 (N' : Int)] 3) := ⟨HT2.out.1.trans x6, HT2.out.2.1.ext x6, HT2.out.2.2.1.ext x6, HT2.out.2.2.2.1.ext x6, own_ext HT2.out.2.2.2.2.1 x6, HT2.out.2.2.2.2.2.ext x6⟩
    have HKO6 : Hid (KeepsOthers W W6 ∧ W6.heap[w2.heap.size + 1]? = W.heap[w2.heap.size + 1]?) := ⟨HKO.out.1.trans x6.keeps, (x6.block HT2.out.2.2.2.2.2.lt).trans (by rw [HKO.out.2])⟩
    have HP3 := Lib.hid (And.intro vp (And.intro vq vr))
    have HPO : Hid (∀ g' : Nat, (Value.slice A5 pre.length c5).ownBlock = some g' → g' ≠ p ∧ g' ≠ q ∧ g' ≠ r) := fun g' h => by have := own_lt HT2.out.2.2.2.2.1 g' h; omega
    clear HT2 HKO HS HZ x6 vp vq vr gp gq gr npq npr nqr
    gi_wp2
    have HS8 : Hid (∀ W', Ext W6.drew W' → W'.cell? ⟨w2.heap.size, 0, none⟩ = some (.slice A5 pre.length c5) ∧ W'.cell? ⟨p, 0, none⟩ = some (.int .i64 (vAm l pre.length)) ∧ W'.cell? ⟨p, 1, none⟩ = some (.int .i64 (vPh l pre.length)) ∧ W'.cell? ⟨q, 0, none⟩ = some (.int .i64 (vAm g i)) ∧ W'.cell? ⟨q, 1, none⟩ = some (.int .i64 (vPh g i)) ∧ W'.cell? ⟨r, 0, none⟩ = some (.int .i64 (vAm g j)) ∧ W'.cell? ⟨r, 1, none⟩ = some (.int .i64 (vPh g j))) := fun W' x => by
      have y : Ext W6 W' := (Ext.refl W6).drew.trans x
      exact ⟨(HT6.out.2.2.2.1.ext y).one', (HP3.out.1.ext y).cell0, (HP3.out.1.ext y).cell1, (HP3.out.2.1.ext y).cell0, (HP3.out.2.1.ext y).cell1, (HP3.out.2.2.ext y).cell0, (HP3.out.2.2.ext y).cell1⟩
    obtain ⟨m1, m2⟩ := mul_in rg1.1 rg1.2.1 rg2.1 rg2.2.1
    obtain ⟨m3, m4⟩ := mul_in m1 m2 rg3.1 rg3.2.1
    have f1 : IntKind.i64.wrap (vAm l pre.length * vAm g i) = vAm l pre.length * vAm g i := IntWalk.i64_in _ (by omega)
    have f2 : IntKind.i64.wrap (vAm l pre.length * vAm g i * vAm g j) = vAm l pre.length * vAm g i * vAm g j := IntWalk.i64_in _ (by omega)
    have f3 : IntKind.i64.wrap (vPh l pre.length + vPh g j) = vPh l pre.length + vPh g j := IntWalk.i64_in _ (by omega)
    have f4 : IntKind.i64.wrap (vPh l pre.length + vPh g j - vPh g i) = vPh l pre.length + vPh g j - vPh g i := IntWalk.i64_in _ (by omega)
    have HSN := Lib.hid (gaM_snoc l g pre ⟨(i, j), hij0, hjN0⟩)
    have hnb := nb_le N' (by omega)
    clear m1 m2 m3 m4 rg1 rg2 rg3
    refine round_held 17 (fun W' => W'.cell? ⟨w2.heap.size, 0, none⟩ = some (.slice A5 pre.length c5) ∧ W'.cell? ⟨p, 0, none⟩ = some (.int .i64 (vAm l pre.length)) ∧ W'.cell? ⟨p, 1, none⟩ = some (.int .i64 (vPh l pre.length)) ∧ W'.cell? ⟨q, 0, none⟩ = some (.int .i64 (vAm g i)) ∧ W'.cell? ⟨q, 1, none⟩ = some (.int .i64 (vPh g i)) ∧ W'.cell? ⟨r, 0, none⟩ = some (.int .i64 (vAm g j)) ∧ W'.cell? ⟨r, 1, none⟩ = some (.int .i64 (vPh g j))) (by kernel_rfl) (by kernel_rfl) (by kernel_rfl) (by kernel_rfl) (by kernel_rfl) (by kernel_rfl) (by kernel_rfl) (by rintro ⟨a, w, h⟩; exact h) (fun _ _ _ _ _ h => h) (HS8.out _ (Ext.refl _)) ?_
    simp only [List.take_succ_cons, List.take_zero, List.drop_succ_cons, List.drop_zero]
    iterate 17
      apply headG_step
      · rfl
      · intro w' hSw
        (try dsimp only at hSw)
        go_simp
        all_goals exact rfl
      simp only [Act.put, List.setIfInBounds_toArray, List.set_cons_zero, List.set_cons_succ]
    change TailG _ _ _ _ _ _
    refine tail_cons fun K hK => ?_
    go_simp
    refine (phaseOf_any _ _).mono ?_
    rintro e w' ⟨rfl, rfl⟩
    refine hK _ _ (HS8.out _ (Ext.refl _)) ?_
    clear hK K f1 f2 f3 f4
    have hd6 : Ext W6 W6.drew := (Ext.refl _).drew
    have HT7 : Hid (Ext w W6.drew ∧ St W6.drew w.heap.size #[.slice (some ⟨ga, oa, none⟩) n1 c1] 29 ∧ St W6.drew (w.heap.size + 1) #[.slice (some ⟨gb, ob, none⟩) n2 c2] 29 ∧ St W6.drew w2.heap.size #[.slice A5 pre.length c5] 29 ∧ W6.drew.ownsRow (w2.heap.size + 1 + 1) 44 2 (.slice A5 pre.length c5) pre.length (pairs (gaM l g (vals pre))) ∧ St W6.drew (w2.heap.size + 1) #[.int .i64 (N' : Int)] 3 ∧ (St W6.drew p #[.int .i64 (vAm l pre.length), .int .i64 (vPh l pre.length)] 44 ∧ St W6.drew q #[.int .i64 (vAm g i), .int .i64 (vPh g i)] 44 ∧ St W6.drew r #[.int .i64 (vAm g j), .int .i64 (vPh g j)] 44)) := ⟨HT6.out.1.drew, HT6.out.2.1, HT6.out.2.2.1, HT6.out.2.2.2.1, HT6.out.2.2.2.2.1, HT6.out.2.2.2.2.2, HP3.out⟩
    have HKO7 : Hid (KeepsOthers W W6.drew ∧ W6.drew.heap[w2.heap.size + 1]? = W.heap[w2.heap.size + 1]?) := ⟨HKO6.out.1.trans (KeepsOthers.drew W6), HKO6.out.2⟩
    clear HT6 HP3 HKO6 hd6
    generalize W6.drew = W7 at *
    refine tail_cons fun K hK => ?_
    go_simp
    refine hK _ _ (HS8.out _ (Ext.refl _)) ?_
    clear hK K
    refine tail_cons fun K hK => ?_
    go_simp
    refine hK _ _ (HS8.out _ ((Ext.refl _).alloc _)) ?_
    clear hK K
    obtain ⟨y1, y2, y3, y4, uo, yB, yp, yq, yr⟩ := HT7.out
    have hw7 := yB.lt
    refine tail_cons fun K hK => ?_
    refine wp_append2W (w := W7) _ _ _ rfl (w2.heap.size + 1 + 1) 44 16 Vis.info Try.underlying29 _ pre.length _ (by rfl) uo (vAm l pre.length * vAm g i * vAm g j) ((vPh l pre.length + vPh g j - vPh g i) % 360) _ (by rfl) rfl (by omega) (by omega) (by omega) ?_
    intro v' W8 ho3 hg3 hat3
    obtain ⟨A8, c8, hv8, _⟩ := Sl.of_own ho3
    subst hv8
    have u1 := y2.grown uo hg3 (by omega)
    have u2 := y3.grown uo hg3 (by omega)
    have u4 := y4.grown uo hg3 (by omega)
    have uB := yB.grown uo hg3 (by omega)
    have ue := y1.grownV uo hg3 (by omega)
    have up : St W8 p _ _ := (hg3.block p yp.lt fun e => (HPO.out p e.symm).1 rfl).trans yp
    have uq : St W8 q _ _ := (hg3.block q yq.lt fun e => (HPO.out q e.symm).2.1 rfl).trans yq
    have ur : St W8 r _ _ := (hg3.block r yr.lt fun e => (HPO.out r e.symm).2.2 rfl).trans yr
    have HKO8 : Hid (KeepsOthers W W8 ∧ W8.heap[w2.heap.size + 1]? = W.heap[w2.heap.size + 1]?) := ⟨HKO7.out.1.trans (keeps_grown uo hg3), (hg3.block _ yB.lt fun e => by have := own_base uo _ e.symm; omega).trans HKO7.out.2⟩
    refine hK _ _ ⟨u4.one', up.cell0, up.cell1, uq.cell0, uq.cell1, ur.cell0, ur.cell1⟩ ?_
    have hsn : gaM l g (vals pre) ++ [(vAm l pre.length * vAm g i * vAm g j, (vPh l pre.length + vPh g j - vPh g i) % 360)] = gaM l g (vals (pre ++ [⟨(i, j), hij0, hjN0⟩])) := HSN.out.symm
    rw [hsn] at ho3
    have HX := Lib.hid (And.intro u1 (And.intro u2 (And.intro u4 (And.intro uB (And.intro ue ho3)))))
    have j4 := u4.one'
    have j4f := u4.frozen 0
    clear hK K y1 y2 y3 y4 uo yB yp yq yr hg3 hat3 u1 u2 u4 uB ue up uq ur ho3 hsn HS8 HT7 HKO7
    refine tail_last fun K hK => ?_
    go_simp
    refine hK _ _ ?_
    clear hK K j4 j4f
    obtain ⟨x1, x2, x4, xB, xe, ho3⟩ := HX.out
    gi_wp2
    have tn := x4.set 0 (.slice A8 (pre.length + 1) c8)
    have on := own_far ho3 (p := ⟨w2.heap.size, 0, none⟩) (own_low ho3 (g := w2.heap.size) (by omega)) (.slice A8 (pre.length + 1) c8)
    have hle : pre.length + 1 = (pre ++ [(⟨(i, j), hij0, hjN0⟩ : BL N')]).length := by rw [List.length_append]; rfl
    refine ⟨HKO8.out.1.trans (KeepsOthers.setCell _ _ _), (Below.heap_setCell W8 ⟨w2.heap.size, 0, none⟩ _ _ (by show _ ≠ w2.heap.size; omega)).trans HKO8.out.2, ⟨xe.setCell (p := ⟨w2.heap.size, 0, none⟩) hsz _, x1.far (p := ⟨w2.heap.size, 0, none⟩) (by show _ ≠ w2.heap.size; omega) _⟩, ⟨x2.far (p := ⟨w2.heap.size, 0, none⟩) (by show _ ≠ w2.heap.size; omega) _, _, tn, by rw [← hle]; exact on⟩, xB.far (p := ⟨w2.heap.size, 0, none⟩) (by show _ ≠ w2.heap.size; omega) _⟩
  case done =>
    rintro D xs W hD rfl ⟨⟨e1, t0⟩, ⟨t1, v, t4, ho⟩, tB⟩ hK
    obtain ⟨A5, c5, hv5, s5⟩ := Sl.of_own ho
    subst hv5
    have j4 := t4.one'
    rw [vals_all, allS_length] at s5
    have hlen : (gaM l g (bp N')).length = nb N' := by rw [gaM_length, bp_length N' (by omega)]
    have HLN := Lib.hid hlen
    have hnb := nb_le N' (by omega)
    have hal : (allS N' (by omega : N' < 8)).length = nb N' := allS_length N' (by omega)
    have j5 : W.cell? ⟨w2.heap.size, 0, none⟩ = some (.slice A5 (nb N') c5) := by rw [← hal]; exact j4
    have E := Lib.hid e1
    have HD := Lib.hid hK
    have HS5 := Lib.hid s5
    have T5 : Hid (St W w2.heap.size #[.slice A5 (nb N') c5] 29) := by show St _ _ _ _; rw [← hal]; exact t4
    have hDl := (Array.getElem?_eq_some_iff.1 hK).1
    clear hK e1 t0 t1 t4 tB ho j4 hlen hal s5
    go_wp2_with fail
    refine (visValid_any (N' : Int) A5 (nb N') c5 (gaM l g (bp N')) _ HLN.out (by omega) HS5.out.rd).mono ?_
    rintro e w8 ⟨rfl, x8⟩
    have HD8 : Hid (w8.heap[D]? = some (.deferred (some []))) := (x8.block hDl).trans HD.out
    have s8 := HS5.out.ext x8
    have j8 := (T5.out.ext x8).one'
    have E8 := E.out.trans x8
    rcases e3 : visB (N' : Int) (gaM l g (bp N')) with _ | _
    · have HB : Hid (gappB (N' : Int) l g = false) := by show _ = _; rw [HBD.out, e3]
      have HC : Hid (gappL (N' : Int) l g = []) := by show _ = _; simp [gappL, HB.out]
      clear e3
      go_wp2
      refine marks_one rfl HD8.out (results_tmp2 rfl _ _ _) ?_
      rw [HB.out]
      exact RetSB.nil (by rw [HC.out]; rfl) (by rw [HC.out]; rfl) (E8.putObj (by omega) _)
    · have HB : Hid (gappB (N' : Int) l g = true) := by show _ = _; rw [HBD.out, e3]
      have HC : Hid (gappL (N' : Int) l g = gaM l g (bp N')) := by show _ = _; simp [gappL, HB.out]
      clear e3
      go_wp2
      refine marks_one rfl HD8.out (results_tmp2 rfl _ _ _) ?_
      rw [HB.out, HC.out, HLN.out]
      have x9 := E8.putObj (D := D) (by omega) (.deferred none)
      exact ⟨A5, c5, rfl, ((sl_putObj s8 HD8.out).full).mono (by omega) (Nat.le_refl _), x9⟩
  case stop =>
    rintro D c pre W _ _ h _
    exact h.elim
end Go.Proofs.Ytebjdchfofhmhaa
