/-
  Contract of CloseBase of the program.
-/
import Derived.Test.YtpjglnmnfmibnaaHeld
import Derived.Test.YtpjglnmnfmibnaaCloseB
import Derived.Test.YtpjglnmnfmibnaaInts
namespace Go.Proofs.Ytpjglnmnfmibnaa
open Go.RowKit Go.Shelf
attribute [local go_sem] Oper.semAt_some
set_option linter.unusedSimpArgs false
set_option linter.unusedVariables false

/-- the closing phase of antenna 0 and two others -/
def tri0 (N : Nat) (l : VL) (p : Nat × Nat) : Int := (vgP N l 0 p.1 + vgP N l p.1 p.2 + vgP N l p.2 0) % 360
def cbOf (N : Nat) (l : VL) (ps : List (Nat × Nat)) : List Int := (ps.filter fun p => decide (0 < p.1)).map (tri0 N l)
def cbB (n : Int) (l : VL) : Bool := visB n l && decide (3 ≤ n)
def cbL (n : Int) (l : VL) : List Int := if cbB n l then cbOf n.toNat l (bp n.toNat) else []
theorem cbOf_skip {N : Nat} {l : VL} {ps : List (Nat × Nat)} {j : Nat} : cbOf N l (ps ++ [(0, j)]) = cbOf N l ps := by simp [cbOf]
theorem cbOf_snoc {N : Nat} {l : VL} {ps : List (Nat × Nat)} {i j : Nat} (h : 0 < i) : cbOf N l (ps ++ [(i, j)]) = cbOf N l ps ++ [tri0 N l (i, j)] := by simp [cbOf, h]
theorem cbOf_le (N : Nat) (l : VL) (ps : List (Nat × Nat)) : (cbOf N l ps).length ≤ ps.length := by
  unfold cbOf
  rw [List.length_map]
  exact List.length_filter_le _ _
theorem cbL_length (n : Int) (l : VL) : (cbL n l).length ≤ 21 := by
  unfold cbL
  split
  · next h =>
    simp only [cbB, Bool.and_eq_true] at h
    obtain ⟨N, rfl, h1, h2, _⟩ := visB_parts h.1
    have := cbOf_le N l (bp N)
    rw [bp_length N (by omega)] at this
    have := nb_le N (by omega)
    simp only [Int.toNat_natCast]
    omega
  · simp
/-- the boxes of the arguments, that of the answer and that of the iterator -/
def BaseI (N : Nat) (l : VL) (w : World) (b : Nat) (v1 : Value) (b4 B : Nat) (pre : List (BL N)) (W : World) : Prop :=
  (Ext w W ∧ St W b #[.int .i64 (N : Int)] 3) ∧ (St W (b + 1) #[v1] 24 ∧ (∃ v, St W b4 #[v] 36 ∧ W.ownsRow (B + 1) 3 1 v (cbOf N l (vals pre)).length (ints (cbOf N l (vals pre))))) ∧ St W B #[.int .i64 (N : Int)] 3
theorem baseI_own (N : Nat) (l : VL) (w : World) (b : Nat) (v1 : Value) (b4 B B0 : Nat) (h : w.heap.size ≤ B0) : OwnFrom B0 (BaseI N l w b v1 b4 B) :=
  ((own_extW h).and (own_st _)).and (((own_st _).and (own_row (fun pre => (cbOf N l (vals pre)).length) (fun pre => ints (cbOf N l (vals pre))))).and (own_st _))
set_option maxRecDepth 100000 in
set_option maxHeartbeats 4000000 in
theorem closeBase_any (n : Int) (A1 : Option Addr) (n1 c1 : Nat) (l : VL) (w : World) (hl : l.length = n1) (z1 : n1 ≤ 1048576) (r1 : Rd w w.heap.size A1 n1 c1 (pairs l)) :
    Calls Try.prog 27 #[.int .i64 n, .slice A1 n1 c1] w (RetSB w 3 (cbL n l).length (ints (cbL n l)) (cbB n l)) := by
  obtain ⟨w0, hw0⟩ : ∃ w0, w0 = (w.alloc (.cells #[.int .i64 n] 3)).alloc (.cells #[.slice A1 n1 c1] 24) := ⟨_, rfl⟩
  have x0 : Ext w w0 := by rw [hw0]; exact ((Ext.refl w).alloc _).alloc _
  have s0 : St w0 w.heap.size #[.int .i64 n] 3 := by rw [hw0]; exact (St.new w _ _).ext ((Ext.refl _).alloc _)
  have s1 : St w0 (w.heap.size + 1) #[.slice A1 n1 c1] 24 := by
    rw [hw0]; have := St.new (w.alloc (.cells #[.int .i64 n] 3)) #[.slice A1 n1 c1] 24
    rw [World.size_alloc] at this
    exact this
  have HV1 := Lib.hid (fun (W : World) (x : Ext w W) => visValid_any n A1 n1 c1 l W hl (by omega) (r1.ext x))
  have HW0 := Lib.hid hw0
  have HL := Lib.hid hl
  have HR1 := Lib.hid r1
  clear hl hw0
  refine (callsIn_wide (n := 10)).1 ?_
  refine callsIn_of_wp_marks Try.func27 rfl trivial ?_ rfl
  refine wpIn_wide.2 ?_
  simp only [Try.ntmps27, List.size_toArray, List.length_cons, List.length_nil, Nat.reduceAdd, Nat.reduceSub, Array.replicate_succ, Array.replicate_zero, List.push_toArray, List.append_toArray, List.nil_append, List.cons_append]
  have k0 := s0.one'
  have k1 := s1.one'
  rcases h1 : visB n l with _ | _
  · have H1 := Lib.hid h1
    have HB : Hid (cbB n l = false) := by show _ = _; simp [cbB, h1]
    have HC : Hid (cbL n l = []) := by show _ = _; simp [cbL, HB.out]
    clear h1
    go_wp2_with fail
    rw [← HW0.out]
    refine (HV1.out _ x0).mono ?_
    rintro e w1 ⟨rfl, x1⟩
    rw [H1.out]
    go_wp2
    refine marks_ret rfl (results_tmp2 rfl _ _ _) ?_
    rw [HB.out]
    exact RetSB.nil (by rw [HC.out]; rfl) (by rw [HC.out]; rfl) (x0.trans x1)
  have H1 := Lib.hid h1
  go_wp2_with fail
  rw [← HW0.out]
  refine (HV1.out _ x0).mono ?_
  rintro e w1 ⟨rfl, x1⟩
  rw [H1.out]
  replace x1 : Ext w0 w1 := x1
  have y1 := x0.trans x1
  replace s0 := s0.ext x1
  replace s1 := s1.ext x1
  clear k0 k1 x0 x1
  have k0 := s0.one'
  have k1 := s1.one'
  obtain ⟨N, rfl, g1, g2, g3, g4⟩ := visB_parts h1
  have HG3 := Lib.hid g3
  have HG4 := Lib.hid g4
  by_cases h3 : 3 ≤ N
  case neg =>
    have hN3 : (N : Int) < 3 := by omega
    have HB : Hid (cbB (N : Int) l = false) := by show _ = _; simp [cbB]; intro _; omega
    have HC : Hid (cbL (N : Int) l = []) := by show _ = _; simp [cbL, HB.out]
    clear h1 g3 g4 h3
    go_wp2
    refine marks_ret rfl (results_tmp2 rfl _ _ _) ?_
    rw [HB.out]
    exact RetSB.nil (by rw [HC.out]; rfl) (by rw [HC.out]; rfl) y1
  have HB : Hid (cbB (N : Int) l = true) := by show _ = _; simp [cbB, h1]; omega
  have HC : Hid (cbL (N : Int) l = cbOf N l (bp N)) := by show _ = _; simp [cbL, HB.out]
  have hN3 : ¬ (N : Int) < 3 := by omega
  clear h1 g3 g4
  have hszs := s1.lt
  have s4 := St.new w1 #[.slice none 0 0] 36
  have x3 : Ext w1 (w1.alloc (.cells #[.slice none 0 0] 36)) := (Ext.refl w1).alloc _
  have y3 := y1.trans x3
  replace s0 := s0.ext x3
  replace s1 := s1.ext x3
  clear k1
  have k2 := s0.one'
  go_wp2_with fail
  refine (bases_any _ _).mono ?_
  rintro e w' ⟨rfl, rfl⟩
  have sB := St.new (w1.alloc (.cells #[.slice none 0 0] 36)) #[.int .i64 (N : Int)] 3
  rw [World.size_alloc] at sB
  have x4 : Ext (w1.alloc (.cells #[.slice none 0 0] 36)) ((w1.alloc (.cells #[.slice none 0 0] 36)).alloc (.cells #[.int .i64 (N : Int)] 3)) := (Ext.refl _).alloc _
  have y4 := y3.trans x4
  replace s0 := s0.ext x4
  replace s1 := s1.ext x4
  replace s4 := s4.ext x4
  have hsz := y1.size
  clear k0 k2 x3 x4 y3 y1
  go_wp2_with fail
  generalize ((w1.alloc (.cells #[.slice none 0 0] 36)).alloc (.cells #[.int .i64 (N : Int)] 3)) = w5 at *
  obtain ⟨ga, oa, rfl⟩ := r1.addr (by rw [pairs_length, HG3.out]; have := nb_pos N (by omega) g1; omega)
  have hI0 : BaseI N l w w.heap.size (.slice (some ⟨ga, oa, none⟩) n1 c1) w1.heap.size (w1.heap.size + 1) [] w5 := ⟨⟨y4, s0⟩, ⟨s1, _, s4, World.ownsRow_nil _ _ _ _⟩, sB⟩
  have hlt := sB.lt
  have hcB := sB.one'
  have hsz5 := y4.size
  clear s0 s1 s4 y4 sB HW0
  refine (wpIn_wide (n := 10)).1 ?_
  refine' wpIn_rangeFunc_ownF rfl (by omega) (gf := 60) (lb := #[.pointer (some ⟨w1.heap.size + 1, 0, none⟩)]) rfl trivial (enters_of Try.func60 (by kernel_rfl) rfl)
    (bases1_stops N g1 (by omega) _ (by omega) (w1.heap.size + 1) _ hcB hlt) kpB_t (kpB_b hlt) (Below.refl _ _) (fun _ => rfl)
    (BaseI N l w w.heap.size (.slice (some ⟨ga, oa, none⟩) n1 c1) w1.heap.size (w1.heap.size + 1)) (fun _ _ _ => False)
    (baseI_own _ _ _ _ _ _ _ _ hsz5) (fun _ => own_false) hI0 _ ?assign ?body ?done ?stop
  case assign =>
    intro l x W K hK
    dsimp only [bEnc]
    gi_wp2
    exact hK
  case body =>
    rintro l0 pre ⟨⟨i, j⟩, hij0, hjN0⟩ W ⟨⟨e1, t0⟩, ⟨t1, v, t4, ho⟩, tB⟩ hpre
    have hij : i < j := hij0
    have hjN : j < N := hjN0
    by_cases hi0 : i = 0
    · subst hi0
      have HE : Hid (cbOf N l (vals (pre ++ [⟨(0, j), hij0, hjN0⟩])) = cbOf N l (vals pre)) := by show _ = _; rw [vals_snoc]; exact cbOf_skip
      gi_wp2
      refine ⟨KeepsOthers.refl _, rfl, ⟨e1, t0⟩, ⟨t1, v, t4, ?_⟩, tB⟩
      rw [HE.out]
      exact ho
    have HE : Hid (cbOf N l (vals (pre ++ [⟨(i, j), hij0, hjN0⟩])) = cbOf N l (vals pre) ++ [tri0 N l (i, j)]) := by show _ = _; rw [vals_snoc]; exact cbOf_snoc (by omega)
    have hi1 : (0 : Int) < (i : Int) := by omega
    have hi2 : 0 < i := by omega
    have HT : Hid (Ext w W ∧ St W w.heap.size #[.int .i64 (N : Int)] 3 ∧ St W (w.heap.size + 1) #[.slice (some ⟨ga, oa, none⟩) n1 c1] 24 ∧ St W w1.heap.size #[v] 36 ∧ W.ownsRow (w1.heap.size + 1 + 1) 3 1 v (cbOf N l (vals pre)).length (ints (cbOf N l (vals pre))) ∧ St W (w1.heap.size + 1) #[.int .i64 (N : Int)] 3) := ⟨e1, t0, t1, t4, ho, tB⟩
    clear e1 t0 t1 t4 ho tB
    gi_wp2
    refine round_held 5 (fun W' => W'.cell? ⟨w.heap.size, 0, none⟩ = some (.int .i64 (N : Int)) ∧ W'.cell? ⟨w.heap.size + 1, 0, none⟩ = some (.slice (some ⟨ga, oa, none⟩) n1 c1) ∧ W'.cell? ⟨w1.heap.size, 0, none⟩ = some v) (by kernel_rfl) (by kernel_rfl) (by kernel_rfl) (by kernel_rfl) (by kernel_rfl) (by kernel_rfl) (by kernel_rfl) (by rintro ⟨a, w, h⟩; exact h) (fun _ _ _ _ _ h => h) ⟨HT.out.2.1.one', HT.out.2.2.1.one', HT.out.2.2.2.1.one'⟩ ?_
    simp only [List.take_succ_cons, List.take_zero, List.drop_succ_cons, List.drop_zero]
    iterate 5
      apply headG_step
      · rfl
      · intro w' hSw
        (try dsimp only at hSw)
        go_simp
        all_goals exact rfl
      simp only [Act.put, List.setIfInBounds_toArray, List.set_cons_zero, List.set_cons_succ]
    change TailG _ _ _ _ _ _
    have HT2 : Hid (Ext w W.drew ∧ St W.drew w.heap.size #[.int .i64 (N : Int)] 3 ∧ St W.drew (w.heap.size + 1) #[.slice (some ⟨ga, oa, none⟩) n1 c1] 24 ∧ St W.drew w1.heap.size #[v] 36 ∧ W.drew.ownsRow (w1.heap.size + 1 + 1) 3 1 v (cbOf N l (vals pre)).length (ints (cbOf N l (vals pre))) ∧ St W.drew (w1.heap.size + 1) #[.int .i64 (N : Int)] 3) := ⟨HT.out.1.drew, HT.out.2⟩
    have HKO : Hid (KeepsOthers W W.drew ∧ W.drew.heap = W.heap) := ⟨KeepsOthers.drew W, rfl⟩
    clear HT
    generalize hWd : W.drew = Wd at *
    clear hWd
    obtain ⟨e1, t0, t1, t4, ho, tB⟩ := HT2.out
    have q1 : Ext Wd (Wd.alloc (.cells #[.int .i64 0, .int .i64 (i : Int), .int .i64 (j : Int)] 3)) := (Ext.refl _).alloc _
    have sl1 : Sl (Wd.alloc (.cells #[.int .i64 0, .int .i64 (i : Int), .int .i64 (j : Int)] 3)) Wd.heap.size (Wd.heap.size + 1) 3 (some ⟨Wd.heap.size, 0, none⟩) 3 3 (ints (qs [0, i, j])) := Sl.new Wd 3 _ 3 3 (Nat.le_refl _)
    have HSL := Lib.hid sl1
    have r0 := t0.ext q1
    have r1' := t1.ext q1
    have r4 := t4.ext q1
    have ro := own_ext ho q1
    have rB := tB.ext q1
    have re := e1.trans q1
    have HRD := Lib.hid (HR1.out.ext re)
    have HC1 : Hid (∀ W', Ext (Wd.alloc (.cells #[.int .i64 0, .int .i64 (i : Int), .int .i64 (j : Int)] 3)) W' → W'.cell? ⟨w.heap.size, 0, none⟩ = some (.int .i64 (N : Int)) ∧ W'.cell? ⟨w.heap.size + 1, 0, none⟩ = some (.slice (some ⟨ga, oa, none⟩) n1 c1) ∧ W'.cell? ⟨w1.heap.size, 0, none⟩ = some v) := fun W' x => ⟨(r0.ext x).one', (r1'.ext x).one', (r4.ext x).one'⟩
    refine tail_cons fun K hK => ?_
    clear sl1
    go_simp
    refine hK _ _ (HC1.out _ (Ext.refl _)) ?_
    clear hK K
    refine tail_cons fun K hK => ?_
    go_simp
    refine (loopPhase_any N _ _ n1 c1 3 3 l [0, i, j] _ (by omega) HG3.out (by rw [← HL.out]; exact HG3.out) HG4.out rfl (by omega) (by omega) ?_ ?_ HRD.out HSL.out.rd).mono ?_
    · intro k hk
      match k, hk with
      | 0, _ => show 0 < N; omega
      | 1, _ => show i < N; omega
      | 2, _ => exact hjN
    · intro k hk
      match k, hk with
      | 0, _ => show 0 ≠ i; omega
      | 1, _ => show i ≠ j; omega
      | 2, _ => show j ≠ 0; omega
    rintro e w2 ⟨rfl, x2⟩
    have HTR : Hid (lpS N l [0, i, j] 3 % 360 = tri0 N l (i, j)) := by show _ = _; simp [lpS, nAt, tri0]
    rw [HTR.out]
    refine hK _ _ (HC1.out _ x2) ?_
    clear hK K
    have HC2 : Hid (∀ W', Ext w2 W' → W'.cell? ⟨w.heap.size, 0, none⟩ = some (.int .i64 (N : Int)) ∧ W'.cell? ⟨w.heap.size + 1, 0, none⟩ = some (.slice (some ⟨ga, oa, none⟩) n1 c1) ∧ W'.cell? ⟨w1.heap.size, 0, none⟩ = some v) := fun W' x => HC1.out _ (x2.trans x)
    have u0 := r0.ext x2
    have u1 := r1'.ext x2
    have u4 := r4.ext x2
    have uo := own_ext ro x2
    have uB := rB.ext x2
    have ue := re.trans x2
    have KK : Hid (KeepsOthers Wd w2 ∧ w2.heap[w1.heap.size + 1]? = Wd.heap[w1.heap.size + 1]?) := ⟨(q1.trans x2).keeps, (q1.trans x2).block tB.lt⟩
    have hw2 := uB.lt
    clear HC1 r0 r1' r4 ro rB re HRD HSL x2 q1 e1 t0 t1 t4 ho tB
    have HU := Lib.hid (And.intro u0 (And.intro u1 (And.intro u4 (And.intro uo (And.intro uB ue)))))
    clear u0 u1 u4 uB ue
    refine tail_cons fun K hK => ?_
    go_simp
    refine hK _ _ (HC2.out _ ((Ext.refl _).alloc _)) ?_
    clear hK K
    have hnb := nb_le N (by omega)
    have hpl : (cbOf N l (vals pre)).length ≤ 21 := by
      have a := cbOf_le N l (vals pre)
      have b : (vals pre).length = pre.length := by simp [vals]
      omega
    refine tail_cons fun K hK => ?_
    refine wp_append1W (w := w2) _ _ _ rfl (w1.heap.size + 1 + 1) 3 (.int .i64 0) 8 I.infoInt Try.underlying36 rfl _ (cbOf N l (vals pre)).length _ (by rfl) uo (.int .i64 (tri0 N l (i, j))) _ (by rfl) rfl rfl (by omega) (by omega) (by omega) ?_
    intro v' w3 ho3 hg3 hat3
    obtain ⟨A3, c3, hv3, _⟩ := Sl.of_own ho3
    subst hv3
    obtain ⟨u0, u1, u4, _, uB, ue⟩ := HU.out
    have x0 := u0.grown uo hg3 (by omega)
    have x1 := u1.grown uo hg3 (by omega)
    have x4 := u4.grown uo hg3 (by omega)
    have xB := uB.grown uo hg3 (by omega)
    have xe := ue.grownV uo hg3 (by omega)
    have HKK : Hid (KeepsOthers Wd w3 ∧ w3.heap[w1.heap.size + 1]? = Wd.heap[w1.heap.size + 1]?) := ⟨KK.out.1.trans (keeps_grown uo hg3), (hg3.block _ uB.lt fun e => by have := own_base uo _ e.symm; omega).trans KK.out.2⟩
    refine hK _ _ ⟨x0.one', x1.one', x4.one'⟩ ?_
    clear hK K u0 u1 u4 uB ue hg3 hat3 uo HC2 HU KK
    rw [ints_snoc, ← HE.out] at ho3
    have hle : (cbOf N l (vals pre)).length + 1 = (cbOf N l (vals (pre ++ [⟨(i, j), hij0, hjN0⟩]))).length := by rw [HE.out, List.length_append]; rfl
    rw [hle] at ho3
    have HLE := Lib.hid hle
    clear hle
    have HX := Lib.hid (And.intro x0 (And.intro x1 (And.intro x4 (And.intro xB (And.intro xe ho3)))))
    have j4 := x4.one'
    have j4f := x4.frozen 0
    clear x0 x1 x4 xB xe ho3 hpl
    refine tail_last fun K hK => ?_
    go_simp
    refine hK _ _ ?_
    clear hK K j4 j4f
    obtain ⟨x0, x1, x4, xB, xe, ho3⟩ := HX.out
    gi_wp2
    rw [HLE.out]
    have tn := x4.set 0 (.slice A3 (cbOf N l (vals (pre ++ [⟨(i, j), hij0, hjN0⟩]))).length c3)
    have on := own_far ho3 (p := ⟨w1.heap.size, 0, none⟩) (own_low ho3 (g := w1.heap.size) (by omega)) (.slice A3 (cbOf N l (vals (pre ++ [⟨(i, j), hij0, hjN0⟩]))).length c3)
    refine ⟨HKO.out.1.trans (HKK.out.1.trans (KeepsOthers.setCell _ _ _)), (Below.heap_setCell w3 ⟨w1.heap.size, 0, none⟩ _ _ (by show _ ≠ w1.heap.size; omega)).trans (HKK.out.2.trans (by rw [HKO.out.2])), ⟨xe.setCell (p := ⟨w1.heap.size, 0, none⟩) hsz _, x0.far (p := ⟨w1.heap.size, 0, none⟩) (by show _ ≠ w1.heap.size; omega) _⟩, ⟨x1.far (p := ⟨w1.heap.size, 0, none⟩) (by show _ ≠ w1.heap.size; omega) _, _, tn, on⟩, xB.far (p := ⟨w1.heap.size, 0, none⟩) (by show _ ≠ w1.heap.size; omega) _⟩
  case done =>
    rintro D xs W hD rfl ⟨⟨e1, t0⟩, ⟨t1, v, t4, ho⟩, tB⟩ hK
    have j4 := t4.one'
    rw [vals_all] at ho
    have E := Lib.hid e1
    have HD := Lib.hid hK
    have HO := Lib.hid ho
    clear hK e1 t0 t1 t4 tB ho
    go_wp2
    refine marks_one rfl HD.out (results_tmp2 rfl _ _ _) ?_
    rw [HB.out, HC.out]
    have hk' := E.out.putObj (D := D) (by omega) (.deferred none)
    exact RetSB.of_own (size := 1) (own_mono (own_putObj HO.out HD.out) (by omega)) hk'
  case stop =>
    rintro D c pre W _ _ h _
    exact h.elim
end Go.Proofs.Ytpjglnmnfmibnaa
