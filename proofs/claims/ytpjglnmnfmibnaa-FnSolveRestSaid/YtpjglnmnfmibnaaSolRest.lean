/-
  Contract of SolveRest of the program.
-/
import Derived.Test.YtpjglnmnfmibnaaRangeW
namespace Go.Proofs.Ytpjglnmnfmibnaa
open Go.RowKit Go.Shelf
attribute [local go_sem] Oper.semAt_some
set_option linter.unusedSimpArgs false

theorem St.one {w : World} {g : Nat} {v : Value} {T : TypeId} (h : St w g #[v] T) : w.cell? ⟨g, 0, none⟩ = some v := h.cell 0
theorem phaseNear_s (a b : Int) (w : World) (h1 : 0 ≤ a) (h2 : a < 360) (h3 : 0 ≤ b) (h4 : b < 360) : Calls Try.prog 52 #[.int .i64 a, .int .i64 b] w fun e w' => e = .returned (.int .i64 (near a b)) ∧ w' = w := (phaseNear_any a b w h1 h2 h3 h4).mono fun _ _ h => ⟨h.1, h.2.symm⟩
theorem srF_no {n : Int} {l m : VL} {ph : List Int} (h : srB n l m ph = false) : srF n l m ph = -1 := by simp [srF, h]
/-- the four boxes of the arguments, the one of the rest and that of the iterator -/
def RestI (N : Nat) (l m : VL) (ph : List Int) (w : World) (b : Nat) (v1 v2 v3 : Value) (b4 B : Nat) (pre : List (BL N)) (W : World) : Prop :=
  (Ext w W ∧ St W b #[.int .i64 (N : Int)] 3) ∧ (St W (b + 1) #[v1] 24 ∧ St W (b + 1 + 1) #[v2] 24) ∧ (St W (b + 1 + 1 + 1) #[v3] 36 ∧ St W b4 #[.int .i64 (rstL N l m ph (vals pre))] 3) ∧ St W B #[.int .i64 (N : Int)] 3
theorem restI_own (N : Nat) (l m : VL) (ph : List Int) (w : World) (b : Nat) (v1 v2 v3 : Value) (b4 B B0 : Nat) (h : w.heap.size ≤ B0) : OwnFrom B0 (RestI N l m ph w b v1 v2 v3 b4 B) :=
  ((own_extW h).and (own_st _)).and (((own_st _).and (own_st _)).and (((own_st _).and (own_st (fun pre => #[.int .i64 (rstL N l m ph (vals pre))]))).and (own_st _)))
set_option maxRecDepth 100000 in
set_option maxHeartbeats 4000000 in
theorem solveRest_any (n : Int) (A1 A2 A3 : Option Addr) (n1 c1 n2 c2 n3 c3 : Nat) (l m : VL) (ph : List Int) (w : World) (hl : l.length = n1) (hm : m.length = n2) (hp : ph.length = n3)
    (z1 : n1 ≤ 1048576) (z2 : n2 ≤ 1048576) (z3 : n3 ≤ 1048576) (r1 : Rd w w.heap.size A1 n1 c1 (pairs l)) (r2 : Rd w w.heap.size A2 n2 c2 (pairs m)) (r3 : Rd w w.heap.size A3 n3 c3 (ints ph)) :
    Calls Try.prog 26 #[.int .i64 n, .slice A1 n1 c1, .slice A2 n2 c2, .slice A3 n3 c3] w fun e w' => e = .returned (.int .i64 (srF n l m ph)) ∧ Ext w w' := by
  obtain ⟨w0, hw0⟩ : ∃ w0, w0 = (((w.alloc (.cells #[.int .i64 n] 3)).alloc (.cells #[.slice A1 n1 c1] 24)).alloc (.cells #[.slice A2 n2 c2] 24)).alloc (.cells #[.slice A3 n3 c3] 36) := ⟨_, rfl⟩
  have x0 : Ext w w0 := by rw [hw0]; exact ((((Ext.refl w).alloc _).alloc _).alloc _).alloc _
  have s0 : St w0 w.heap.size #[.int .i64 n] 3 := by rw [hw0]; exact (((St.new w _ _).ext ((Ext.refl _).alloc _)).ext ((Ext.refl _).alloc _)).ext ((Ext.refl _).alloc _)
  have s1 : St w0 (w.heap.size + 1) #[.slice A1 n1 c1] 24 := by
    rw [hw0]; have := St.new (w.alloc (.cells #[.int .i64 n] 3)) #[.slice A1 n1 c1] 24
    rw [World.size_alloc] at this
    exact (this.ext ((Ext.refl _).alloc _)).ext ((Ext.refl _).alloc _)
  have s2 : St w0 (w.heap.size + 1 + 1) #[.slice A2 n2 c2] 24 := by
    rw [hw0]; have := St.new ((w.alloc (.cells #[.int .i64 n] 3)).alloc (.cells #[.slice A1 n1 c1] 24)) #[.slice A2 n2 c2] 24
    rw [World.size_alloc, World.size_alloc] at this
    exact this.ext ((Ext.refl _).alloc _)
  have s3 : St w0 (w.heap.size + 1 + 1 + 1) #[.slice A3 n3 c3] 36 := by
    rw [hw0]; have := St.new (((w.alloc (.cells #[.int .i64 n] 3)).alloc (.cells #[.slice A1 n1 c1] 24)).alloc (.cells #[.slice A2 n2 c2] 24)) #[.slice A3 n3 c3] 36
    rw [World.size_alloc, World.size_alloc, World.size_alloc] at this
    exact this
  have HV1 := Lib.hid (fun (W : World) (x : Ext w W) => visValid_any n A1 n1 c1 l W hl (by omega) (r1.ext x))
  have HV2 := Lib.hid (fun (W : World) (x : Ext w W) => visValid_any n A2 n2 c2 m W hm (by omega) (r2.ext x))
  have HV3 := Lib.hid (fun (W : World) (x : Ext w W) => arePhases_any A3 n3 c3 ph W hp (by omega) (r3.ext x))
  have HW0 := Lib.hid hw0
  have HS : Hid (srB n l m ph = (visB n l && visB n m && decide ((ph.length : Int) = n) && phsB ph)) := rfl
  have HL := Lib.hid hl
  have HM := Lib.hid hm
  have HP := Lib.hid hp
  clear hl hm hp hw0
  refine (callsIn_wide (n := 10)).1 ?_
  refine callsIn_of_wp_marks Try.func26 rfl trivial ?_ rfl
  refine wpIn_wide.2 ?_
  simp only [Try.ntmps26, List.size_toArray, List.length_cons, List.length_nil, Nat.reduceAdd, Nat.reduceSub, Array.replicate_succ, Array.replicate_zero, List.push_toArray, List.append_toArray, List.nil_append, List.cons_append]
  have k0 := s0.one
  have k1 := s1.one
  have k2 := s2.one
  have k3 := s3.one
  rcases h1 : visB n l with _ | _
  · have H1 := Lib.hid h1
    have HF := Lib.hid (srF_no (show srB n l m ph = false by rw [HS.out, h1]; rfl))
    clear h1
    go_wp2_with fail
    rw [← HW0.out]
    refine (HV1.out _ x0).mono ?_
    rintro e w1 ⟨rfl, x1⟩
    rw [H1.out]
    go_wp2
    refine marks_ret rfl (results_tmp rfl _ _ _) ?_
    exact ⟨ret_int HF.out.symm, x0.trans x1⟩
  have H1 := Lib.hid h1
  go_wp2_with fail
  rw [← HW0.out]
  refine (HV1.out _ x0).mono ?_
  rintro e w1 ⟨rfl, x1⟩
  rw [H1.out]
  replace x1 : Ext w0 w1 := x1
  have y1 := x0.trans x1
  replace s0 := s0.ext x1
  replace s1 := s1.ext x1
  replace s2 := s2.ext x1
  replace s3 := s3.ext x1
  clear k0 k1 k2 k3 x0 x1
  have k0 := s0.one
  have k1 := s1.one
  have k2 := s2.one
  have k3 := s3.one
  rcases h2 : visB n m with _ | _
  · have H2 := Lib.hid h2
    have HF := Lib.hid (srF_no (show srB n l m ph = false by rw [HS.out, h1, h2]; rfl))
    clear h1 h2
    go_wp2_with fail
    refine (HV2.out _ y1).mono ?_
    rintro e w2 ⟨rfl, x2⟩
    rw [H2.out]
    go_wp2
    refine marks_ret rfl (results_tmp rfl _ _ _) ?_
    exact ⟨ret_int HF.out.symm, y1.trans x2⟩
  have H2 := Lib.hid h2
  go_wp2_with fail
  refine (HV2.out _ y1).mono ?_
  rintro e w2 ⟨rfl, x2⟩
  rw [H2.out]
  have y2 := y1.trans x2
  replace s0 := s0.ext x2
  replace s1 := s1.ext x2
  replace s2 := s2.ext x2
  replace s3 := s3.ext x2
  clear k0 k1 k2 k3 y1 x2
  have k0 := s0.one
  have k1 := s1.one
  have k2 := s2.one
  have k3 := s3.one
  by_cases h3 : (n3 : Int) = n
  case neg =>
    have h3' : ((n3 : Int) != n) = true := by simpa using h3
    have HF := Lib.hid (srF_no (show srB n l m ph = false by rw [HS.out, h1, h2, HP.out, decide_eq_false h3]; rfl))
    clear h1 h2 h3
    go_wp2
    refine marks_ret rfl (results_tmp rfl _ _ _) ?_
    exact ⟨ret_int HF.out.symm, y2⟩
  have h3' : ((n3 : Int) != n) = false := by simpa using h3
  rcases h4 : phsB ph with _ | _
  · have H4 := Lib.hid h4
    have HF := Lib.hid (srF_no (show srB n l m ph = false by rw [HS.out, h1, h2, h4]; simp))
    clear h1 h2 h3 h4
    go_wp2_with fail
    refine (HV3.out _ y2).mono ?_
    rintro e w' ⟨rfl, rfl⟩
    rw [H4.out]
    go_wp2
    refine marks_ret rfl (results_tmp rfl _ _ _) ?_
    exact ⟨ret_int HF.out.symm, y2⟩
  have H4 := Lib.hid h4
  have HB : Hid (srB n l m ph = true) := by show _ = _; rw [HS.out, h1, h2, HP.out, decide_eq_true h3, h4]; rfl
  obtain ⟨N, rfl, g1, g2, g3, g4⟩ := visB_parts h1
  obtain ⟨N', e, _, _, g5, g6⟩ := visB_parts h2
  obtain rfl : N' = N := by omega
  have HPA := Lib.hid (phsB_at h4)
  have HRL := Lib.hid g4
  have HRM := Lib.hid g6
  have HG3 := Lib.hid g3
  have HG5 := Lib.hid g5
  have h3a : N' ≤ n3 := by omega
  have h3b : n3 ≤ N' := by omega
  clear e h1 h2 h3 h4 g3 g4 g5 g6
  go_wp2_with fail
  refine (HV3.out _ y2).mono ?_
  rintro e w' ⟨rfl, rfl⟩
  rw [H4.out]
  have hszs := s3.lt
  have s4 := St.new w2 #[.int .i64 0] 3
  have x3 : Ext w2 (w2.alloc (.cells #[.int .i64 0] 3)) := (Ext.refl w2).alloc _
  have y3 := y2.trans x3
  replace s0 := s0.ext x3
  replace s1 := s1.ext x3
  replace s2 := s2.ext x3
  replace s3 := s3.ext x3
  clear k0 k1 k2 k3
  have k0 := s0.one
  have HX := Lib.hid h3'
  clear h3'
  go_wp2_with fail
  refine (bases_any _ _).mono ?_
  rintro e w' ⟨rfl, rfl⟩
  have sB := St.new (w2.alloc (.cells #[.int .i64 0] 3)) #[.int .i64 (N' : Int)] 3
  rw [World.size_alloc] at sB
  have x4 : Ext (w2.alloc (.cells #[.int .i64 0] 3)) ((w2.alloc (.cells #[.int .i64 0] 3)).alloc (.cells #[.int .i64 (N' : Int)] 3)) := (Ext.refl _).alloc _
  have y4 := y3.trans x4
  replace s0 := s0.ext x4
  replace s1 := s1.ext x4
  replace s2 := s2.ext x4
  replace s3 := s3.ext x4
  replace s4 := s4.ext x4
  have hsz := y2.size
  clear k0 x3 x4 y3 y2
  go_wp2_with fail
  generalize ((w2.alloc (.cells #[.int .i64 0] 3)).alloc (.cells #[.int .i64 (N' : Int)] 3)) = w5 at *
  obtain ⟨ga, oa, rfl⟩ := r1.addr (by rw [pairs_length, HG3.out]; have := nb_pos N' (by omega) g1; omega)
  obtain ⟨gb, ob, rfl⟩ := r2.addr (by rw [pairs_length, HG5.out]; have := nb_pos N' (by omega) g1; omega)
  obtain ⟨gc, oc, rfl⟩ := r3.addr (by rw [ints_length, HP.out]; omega)
  have hI0 : RestI N' l m ph w w.heap.size (.slice (some ⟨ga, oa, none⟩) n1 c1) (.slice (some ⟨gb, ob, none⟩) n2 c2) (.slice (some ⟨gc, oc, none⟩) n3 c3) w2.heap.size (w2.heap.size + 1) [] w5 := ⟨⟨y4, s0⟩, ⟨s1, s2⟩, ⟨s3, s4⟩, sB⟩
  have hlt := sB.lt
  have hcB := sB.one
  have hsz5 := y4.size
  clear s0 s1 s2 s3 s4 y4 sB HW0
  refine (wpIn_wide (n := 10)).1 ?_
  refine' wpIn_rangeFunc_ownF rfl (by omega) (gf := 60) (lb := #[.pointer (some ⟨w2.heap.size + 1, 0, none⟩)]) rfl trivial (enters_of Try.func60 (by kernel_rfl) rfl)
    (bases1_stops N' g1 (by omega) _ (by omega) (w2.heap.size + 1) _ hcB hlt) kpB_t (kpB_b hlt) (Below.refl _ _) (fun _ => rfl)
    (RestI N' l m ph w w.heap.size (.slice (some ⟨ga, oa, none⟩) n1 c1) (.slice (some ⟨gb, ob, none⟩) n2 c2) (.slice (some ⟨gc, oc, none⟩) n3 c3) w2.heap.size (w2.heap.size + 1)) (fun _ _ _ => False)
    (restI_own _ _ _ _ _ _ _ _ _ _ _ _ hsz5) (fun _ => own_false) hI0 _ ?assign ?body ?done ?stop
  case assign =>
    intro l x W K hK
    dsimp only [bEnc]
    gi_wp2
    exact hK
  case body =>
    rintro l0 pre ⟨⟨i, j⟩, hij0, hjN0⟩ W ⟨⟨e1, t0⟩, ⟨t1, t2⟩, ⟨t3, t4⟩, tB⟩ _
    have hij : i < j := hij0
    have hjN : j < N' := hjN0
    have hq := bIx_lt N' (by omega) i (by omega) j hjN hij
    have hqA : bAt N' i j = bIx N' i j := if_neg (by omega)
    have HSN : Hid (rstL N' l m ph (vals (pre ++ [⟨(i, j), hij0, hjN0⟩])) = mxI (rstL N' l m ph (vals pre)) (near (vPh l (bIx N' i j)) ((vPh m (bIx N' i j) + pAt ph j - pAt ph i) % 360))) := by
      show _ = _
      rw [vals_snoc, rstL_snoc]; rfl
    have hb1 := rgB_at HRL.out (k := bIx N' i j) (by rw [HG3.out]; exact hq)
    have hb2 := rgB_at HRM.out (k := bIx N' i j) (by rw [HG5.out]; exact hq)
    have hp1 := HPA.out i
    have hp2 := HPA.out j
    have d1 := (r1.ext e1).snd (some_v (l := l) (k := bIx N' i j) (by rw [HG3.out]; exact hq))
    have d2 := (r2.ext e1).snd (some_v (l := m) (k := bIx N' i j) (by rw [HG5.out]; exact hq))
    have d3 := (r3.ext e1).cell (ints_at' (some_pAt (l := ph) (k := i) (by rw [HP.out]; omega)))
    have d4 := (r3.ext e1).cell (ints_at' (some_pAt (l := ph) (k := j) (by rw [HP.out]; omega)))
    have j0 := t0.one
    have j1 := t1.one
    have j2 := t2.one
    have j3 := t3.one
    have j4 := t4.one
    have hq1 : bIx N' i j < n1 := by have a := HL.out; have b := HG3.out; omega
    have hq2 : bIx N' i j < n2 := by have a := HM.out; have b := HG5.out; omega
    have hjn : j < n3 := by omega
    have hin : i < n3 := by omega
    have HQA := Lib.hid hqA
    have HE := Lib.hid e1
    have HT : Hid (St W w.heap.size #[.int .i64 (N' : Int)] 3 ∧ St W (w.heap.size + 1) #[.slice (some ⟨ga, oa, none⟩) n1 c1] 24 ∧ St W (w.heap.size + 1 + 1) #[.slice (some ⟨gb, ob, none⟩) n2 c2] 24 ∧ St W (w.heap.size + 1 + 1 + 1) #[.slice (some ⟨gc, oc, none⟩) n3 c3] 36 ∧ St W w2.heap.size #[.int .i64 (rstL N' l m ph (vals pre))] 3 ∧ St W (w2.heap.size + 1) #[.int .i64 (N' : Int)] 3) := ⟨t0, t1, t2, t3, t4, tB⟩
    have j4f := t4.frozen 0
    have hmz : mxI (rstL N' l m ph (vals pre)) (near (vPh l (bIx N' i j)) ((vPh m (bIx N' i j) + pAt ph j - pAt ph i) % 360)) = if rstL N' l m ph (vals pre) < near (vPh l (bIx N' i j)) ((vPh m (bIx N' i j) + pAt ph j - pAt ph i) % 360) then near (vPh l (bIx N' i j)) ((vPh m (bIx N' i j) + pAt ph j - pAt ph i) % 360) else rstL N' l m ph (vals pre) := rfl
    have HMZ := Lib.hid hmz
    clear t0 t1 t2 t3 t4 tB e1 hqA hmz
    have f1 : IntKind.i64.wrap (vPh m (bIx N' i j) + pAt ph j) = vPh m (bIx N' i j) + pAt ph j := IntWalk.i64_in _ (by omega)
    have f2 : IntKind.i64.wrap (vPh m (bIx N' i j) + pAt ph j - pAt ph i) = vPh m (bIx N' i j) + pAt ph j - pAt ph i := IntWalk.i64_in _ (by omega)
    gi_wp2_with (refine ⟨trivial, ?_⟩; gi_at_call 51; refine (CallsIn.inRound l0 (callsIn_wide.2 (baseAt_any N' i j _ (by omega) (by omega) hjN (by omega)))).mono ?_; rintro e w' ⟨rfl, rfl⟩; rw [HQA.out])
    refine round_tail 24 (by kernel_rfl) (by kernel_rfl) (by kernel_rfl) (by rintro ⟨a, w, h⟩; exact h) ?_
    simp only [List.take_succ_cons, List.take_zero, List.drop_succ_cons, List.drop_zero]
    repeat still_step
    still_call (phaseOf_s _ _)
    repeat still_step
    still_call (phaseNear_s _ _ _ (by omega) (by omega) (by omega) (by omega))
    repeat still_step
    try refine wpStill_nil ?_
    change wpList _ _ _ _ _ W.drew
    have yy : Ext W W.drew := (Ext.refl W).drew
    have HT2 : Hid (St W.drew w.heap.size #[.int .i64 (N' : Int)] 3 ∧ St W.drew (w.heap.size + 1) #[.slice (some ⟨ga, oa, none⟩) n1 c1] 24 ∧ St W.drew (w.heap.size + 1 + 1) #[.slice (some ⟨gb, ob, none⟩) n2 c2] 24 ∧ St W.drew (w.heap.size + 1 + 1 + 1) #[.slice (some ⟨gc, oc, none⟩) n3 c3] 36 ∧ St W.drew w2.heap.size #[.int .i64 (rstL N' l m ph (vals pre))] 3 ∧ St W.drew (w2.heap.size + 1) #[.int .i64 (N' : Int)] 3) := HT.out
    have HE2 : Hid (Ext w W.drew) := HE.out.drew
    have HKO : Hid (KeepsOthers W W.drew ∧ W.drew.heap = W.heap) := ⟨KeepsOthers.drew W, rfl⟩
    clear HT HE f1 f2 d1 d2 d3 d4 j0 j1 j2 j3 j4 j4f yy
    generalize hWd : W.drew = W2 at *
    clear hWd
    have j4 := HT2.out.2.2.2.2.1.one
    have j4f := HT2.out.2.2.2.2.1.frozen 0
    rw [← HMZ.out, ← HSN.out]
    go_wp2
    obtain ⟨t0, t1, t2, t3, t4, tB⟩ := HT2.out
    have tn := t4.set 0 (.int .i64 (rstL N' l m ph (vals (pre ++ [⟨(i, j), hij0, hjN0⟩]))))
    refine ⟨HKO.out.1.trans (KeepsOthers.setCell _ _ _), (Below.heap_setCell W2 ⟨w2.heap.size, 0, none⟩ _ _ (by show _ ≠ w2.heap.size; omega)).trans (by rw [HKO.out.2]), ⟨HE2.out.setCell (p := ⟨w2.heap.size, 0, none⟩) hsz _, t0.far (p := ⟨w2.heap.size, 0, none⟩) (by show _ ≠ w2.heap.size; omega) _⟩, ⟨t1.far (p := ⟨w2.heap.size, 0, none⟩) (by show _ ≠ w2.heap.size; omega) _, t2.far (p := ⟨w2.heap.size, 0, none⟩) (by show _ ≠ w2.heap.size; omega) _⟩, ⟨t3.far (p := ⟨w2.heap.size, 0, none⟩) (by show _ ≠ w2.heap.size; omega) _, tn⟩, tB.far (p := ⟨w2.heap.size, 0, none⟩) (by show _ ≠ w2.heap.size; omega) _⟩
  case done =>
    rintro D xs W hD rfl ⟨⟨e1, t0⟩, ⟨t1, t2⟩, ⟨t3, t4⟩, tB⟩ hK
    have j4 := t4.one
    rw [vals_all] at j4
    have HR : Hid (srF (N' : Int) l m ph = rstL N' l m ph (bp N')) := by show _ = _; unfold srF; rw [if_pos HB.out]; rfl
    have E := Lib.hid e1
    have HD := Lib.hid hK
    clear hK e1 t0 t1 t2 t3 t4 tB
    go_wp2
    refine marks_one rfl HD.out (results_tmp rfl _ _ _) ?_
    exact ⟨ret_int HR.out.symm, E.out.putObj (by omega) _⟩
  case stop =>
    rintro D c pre W _ _ h _
    exact h.elim
end Go.Proofs.Ytpjglnmnfmibnaa
