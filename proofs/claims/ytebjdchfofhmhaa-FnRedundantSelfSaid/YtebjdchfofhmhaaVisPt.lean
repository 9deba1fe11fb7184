/-
  Contracts of DelayOf, DelayBase, DelayPhase, VisPoint of the program, at one direction and one amplitude.
-/
import Derived.Test.YtebjdchfofhmhaaRedL
namespace Go.Proofs.Ytebjdchfofhmhaa
open Go.RowKit Go.Shelf
attribute [local go_sem] Oper.semAt_some
set_option linter.unusedSimpArgs false
set_option linter.unusedVariables false

def dly (l : VL) (i : Nat) : Int := vAm l i * 5 + vPh l i * (-7)
set_option maxRecDepth 100000 in
set_option maxHeartbeats 400000 in
theorem delayOf_any (A : Option Addr) (n c : Nat) (l : VL) (w : World) (i : Nat) (hn : l.length = n) (hA : Arr l) (r : Rd w w.heap.size A n c (pairs l)) (hi : i < n) :
    Calls Try.prog 78 #[.slice A n c, .int .i64 (i : Int), .agg #[.int .i64 5, .int .i64 (-7)]] w fun e w' => e = .returned (.tuple #[.int .i64 (dly l i), .bool true]) ∧ Ext w w' := by
  have hn7 := hA.seven
  rw [hn] at hn7
  have HAV := Lib.hid (fun W (x : Ext w W) => arrayValid_any A n c l W hn (by omega) (r.ext x))
  rw [hA.yes] at HAV
  obtain ⟨b1, b2, b3, b4⟩ := hA.in_ (j := i) (by omega)
  have hxy := some_v (l := l) (k := i) (by omega)
  obtain ⟨g, off, rfl⟩ := r.addr (by rw [pairs_length, hn]; omega)
  have HR := Lib.hid r
  have HXY := Lib.hid hxy
  have HD : Hid (dly l i = vAm l i * 5 + vPh l i * (-7)) := rfl
  have x0 : Ext w (w.alloc (.cells #[.int .i64 5, .int .i64 (-7)] 49)) := (Ext.refl w).alloc _
  have S0 := St.new w #[.int .i64 5, .int .i64 (-7)] 49
  have hi1 : (i : Int) < (n : Int) := by omega
  have hi0 : (0 : Int) ≤ (i : Int) := by omega
  generalize vAm l i = x at *
  generalize vPh l i = y at *
  have f1 : IntKind.i64.wrap (x * 5) = x * 5 := IntWalk.i64_in _ (by omega)
  have f2 : IntKind.i64.wrap (y * (-7)) = y * (-7) := IntWalk.i64_in _ (by omega)
  have f3 : IntKind.i64.wrap (x * 5 + y * (-7)) = x * 5 + y * (-7) := IntWalk.i64_in _ (by omega)
  clear hn hA r hxy
  go_enter Try.func78, Try.ntmps78
  go_wp2_with fail
  generalize w.alloc (.cells #[.int .i64 5, .int .i64 (-7)] 49) = w0 at *
  refine (HAV.out _ x0).mono ?_
  rintro e w1 ⟨rfl, x1⟩
  have E1 := x0.trans x1
  replace S0 := S0.ext x1
  clear x0 x1
  have k0 := S0.cell0
  have k1 := S0.cell1
  go_wp2_with fail
  refine (isAnt_yes hi _).mono ?_
  rintro e w2 ⟨rfl, rfl⟩
  go_wp2_with fail
  refine (isPlace_any 5 (-7) _).mono ?_
  rintro e w3 ⟨rfl, x3⟩
  rw [show plB (5, -7) = true from by decide]
  have E3 := E1.trans x3
  replace S0 := S0.ext x3
  clear k0 k1 x3 E1
  have k0 := S0.cell0
  have k1 := S0.cell1
  have c0 := (HR.out.ext E3).fst HXY.out
  have c1 := (HR.out.ext E3).snd HXY.out
  go_wp2_with fail
  refine wp_region_quiet_lit (by kernel_rfl) (by kernel_rfl) ?_
  iterate 19 (go_big_quiet_step (fail))
  refine wpQuiet_nil ?_
  rintro _ ⟨nq, rfl⟩
  clear f1 f2 f3
  go_wp2
  go_ret2
  exact ⟨by rw [HD.out]; rfl, E3.drewN nq⟩
theorem delayBase_any (A : Option Addr) (n c : Nat) (l : VL) (w : World) (i j : Nat) (hn : l.length = n) (hA : Arr l) (r : Rd w w.heap.size A n c (pairs l)) (hi : i < n) (hj : j < n) :
    Calls Try.prog 73 #[.slice A n c, .int .i64 (i : Int), .int .i64 (j : Int), .agg #[.int .i64 5, .int .i64 (-7)]] w fun e w' => e = .returned (.tuple #[.int .i64 (dot (vec l i j) (5, -7)), .bool true]) ∧ Ext w w' := by
  have HD := Lib.hid (fun W (x : Ext w W) (k : Nat) (hk : k < n) => delayOf_any A n c l W k hn hA (r.ext x) hk)
  obtain ⟨b1, b2, b3, b4⟩ := hA.in_ (j := i) (by omega)
  obtain ⟨b5, b6, b7, b8⟩ := hA.in_ (j := j) (by omega)
  have h1 : dot (vec l i j) (5, -7) = dly l j - dly l i := by
    unfold dot vec dly
    simp only
    omega
  have h2 : -100000 ≤ dly l i ∧ dly l i ≤ 100000 := by unfold dly; omega
  have h3 : -100000 ≤ dly l j ∧ dly l j ≤ 100000 := by unfold dly; omega
  rw [h1]
  have x0 : Ext w (w.alloc (.cells #[.int .i64 5, .int .i64 (-7)] 49)) := (Ext.refl w).alloc _
  have S0 := St.new w #[.int .i64 5, .int .i64 (-7)] 49
  have HI := Lib.hid (fun W (x : Ext w W) => HD.out W x i hi)
  have HJ := Lib.hid (fun W (x : Ext w W) => HD.out W x j hj)
  clear hn hA r b1 b2 b3 b4 b5 b6 b7 b8 h1 HD
  generalize dly l i = p at *
  generalize dly l j = q at *
  have f1 : IntKind.i64.wrap (q - p) = q - p := IntWalk.i64_in _ (by omega)
  have k0 := S0.cell0
  have k1 := S0.cell1
  go_enter Try.func73, Try.ntmps73
  go_wp2_with fail
  generalize w.alloc (.cells #[.int .i64 5, .int .i64 (-7)] 49) = w0 at *
  refine (HI.out _ x0).mono ?_
  rintro e w1 ⟨rfl, x1⟩
  have E1 := x0.trans x1
  replace S0 := S0.ext x1
  clear x0 x1 k0 k1
  have k0 := S0.cell0
  have k1 := S0.cell1
  go_wp2_with fail
  refine (HJ.out _ E1).mono ?_
  rintro e w2 ⟨rfl, x2⟩
  go_wp2
  go_ret2
  exact ⟨rfl, E1.trans x2⟩
theorem delayPhase_any (A : Option Addr) (n c : Nat) (l : VL) (w : World) (i j : Nat) (hn : l.length = n) (hA : Arr l) (r : Rd w w.heap.size A n c (pairs l)) (hi : i < n) (hj : j < n) :
    Calls Try.prog 54 #[.slice A n c, .int .i64 (i : Int), .int .i64 (j : Int), .agg #[.int .i64 5, .int .i64 (-7)]] w fun e w' => e = .returned (.tuple #[.int .i64 (dot (vec l i j) (5, -7) % 360), .bool true]) ∧ Ext w w' := by
  have HB := Lib.hid (fun W (x : Ext w W) => delayBase_any A n c l W i j hn hA (r.ext x) hi hj)
  have x0 : Ext w (w.alloc (.cells #[.int .i64 5, .int .i64 (-7)] 49)) := (Ext.refl w).alloc _
  have S0 := St.new w #[.int .i64 5, .int .i64 (-7)] 49
  clear hn hA r
  generalize dot (vec l i j) (5, -7) = p at *
  have k0 := S0.cell0
  have k1 := S0.cell1
  go_enter Try.func54, Try.ntmps54
  go_wp2_with fail
  generalize w.alloc (.cells #[.int .i64 5, .int .i64 (-7)] 49) = w0 at *
  refine (HB.out _ x0).mono ?_
  rintro e w1 ⟨rfl, x1⟩
  have E1 := x0.trans x1
  clear x0 x1 k0 k1 S0
  go_wp2_with fail
  refine (phaseOf_any _ _).mono ?_
  rintro e w2 ⟨rfl, rfl⟩
  go_wp2
  go_ret2
  exact ⟨rfl, E1⟩

/-! ### the point source -/
def vpM (l : VL) (ps : List (Nat × Nat)) : VL := ps.map fun p => (3, dot (vec l p.1 p.2) (5, -7) % 360)
theorem vpM_snoc (l : VL) {n : Nat} (pre : List (BL n)) (x : BL n) : vpM l (vals (pre ++ [x])) = vpM l (vals pre) ++ [(3, dot (vec l x.1.1 x.1.2) (5, -7) % 360)] := by rw [vals_snoc]; simp [vpM]
theorem vpM_all (l : VL) (h : l.length < 8) : vpM l (bp l.length) = vpL l (5, -7) 3 := by
  unfold vpM vpL
  apply List.ext_getElem?
  intro k
  by_cases hk : k < nb l.length
  · rw [List.getElem?_map, bp_pr h hk, List.getElem?_map, List.getElem?_range hk]
    rfl
  · rw [List.getElem?_eq_none (by rw [List.length_map, bp_length _ h]; omega), List.getElem?_eq_none (by rw [List.length_map, List.length_range]; omega)]
theorem wpListIn_append2A {F : Fence} {nF : Nat} {P : Program} {w : World} {ops : Array Oper} {rest : List Oper} {o : Oper} {a : Act} {Q : Exit → Act → World → Prop} (hgd : o.guard = none) (s x : Operand) (t : TypeId)
    (ho : o.op = .call { callee := .builtin .append, args := #[s, x], argTypes := #[t, t] })
    (base : Nat) (E : TypeId) (bytes : Nat) (hinfo : (P.info? E).map (fun i => (i.zero, i.size, i.bytes)) = some (some (.agg #[.int .i64 0, .int .i64 0]), 2, bytes)) (ht : P.underlying t = some (.slice E))
    (v : Value) (n : Nat) (l : List (Int × Int)) (hs : a.eval s = v) (hown : w.ownsRow base E 2 v n (pairs l))
    (p q : Int) (b : Nat) (hx : a.eval x = .slice (some ⟨b, 0, none⟩) 1 1) (hb : b = w.heap.size) (hbytes : (n + 1) * bytes ≤ 100000000) (hn : n + 1 ≤ 100000000) (hbase : base ≤ w.heap.size)
    (h : ∀ v' w', w'.ownsRow base E 2 v' (n + 1) (pairs (l ++ [(p, q)])) → w.grownBy w' v.ownBlock → At w v v' → wpListIn F nF P ops Q rest (a.put o.dst v') w') : wpListIn F nF P ops Q (o :: rest) a (w.alloc (.cells #[.int .i64 p, .int .i64 q] E)) := by
  obtain ⟨i, hi, hz1, hz2, hz3⟩ := info_parts hinfo
  subst hb
  refine wpListIn_append_own_at _ hgd s x t ho base E i _ 2 bytes ht hi hz1 hz2 hz3 rfl (by omega) v n (pairs l) hs (hown.alloc _) ⟨w.heap.size, 0, none⟩ 1 1 [.int .i64 p, .int .i64 q] hx rfl ?_ ?_ (by unfold maxLen; omega) (by omega) (by simp; omega) ?_
  · intro j u' hj
    match j, hj with
    | 0, hj => simp at hj; subst hj; simp [Addr.add]
    | 1, hj => simp at hj; subst hj; simp [Addr.add]
  · intro u' hu; simp at hu; rcases hu with rfl | rfl <;> rfl
  · intro v' w' ho' hg _ hat
    refine h v' w' (by rw [pairs_append]; exact ho') ((World.grownBy_alloc w _ _).trans hg) fun g hg' => ?_
    rcases hat with e | e
    · exact .inl (by rw [← e]; exact hg')
    · rw [e] at hg'
      simp at hg'
      exact .inr (by omega)
/-- the boxes of the arguments, of the answer, and the iterator's variable -/
def PtI (n : Nat) (l : VL) (w : World) (b0 : Nat) (v1 : Value) (bo B : Nat) (pre : List (BL n)) (W : World) : Prop :=
  (Ext w W ∧ St W b0 #[v1] 27) ∧ ((St W (b0 + 1) #[.int .i64 5, .int .i64 (-7)] 49 ∧ St W (b0 + 1 + 1) #[.int .i64 3] 3) ∧ (∃ v, St W bo #[v] 29 ∧ W.ownsRow (B + 1) 44 2 v pre.length (pairs (vpM l (vals pre))))) ∧ St W B #[.int .i64 (n : Int)] 3
theorem ptI_own (n : Nat) (l : VL) (w : World) (b0 : Nat) (v1 : Value) (bo B B0 : Nat) (h : w.heap.size ≤ B0) : OwnFrom B0 (PtI n l w b0 v1 bo B) :=
  ((own_extW h).and (own_st _)).and ((((own_st _).and (own_st _)).and (own_row (fun pre => pre.length) (fun pre => pairs (vpM l (vals pre))))).and (own_st _))
set_option maxRecDepth 100000 in
set_option maxHeartbeats 1000000 in
theorem visPoint_any (A : Option Addr) (n c : Nat) (l : VL) (w : World) (hn : l.length = n) (hA : Arr l) (r : Rd w w.heap.size A n c (pairs l)) :
    Calls Try.prog 26 #[.slice A n c, .agg #[.int .i64 5, .int .i64 (-7)], .int .i64 3] w (RetSB w 44 (nb n) (pairs (vpL l (5, -7) 3)) true) := by
  have hn2 := hA.two
  have hn7 := hA.seven
  have HN := Lib.hid hn
  have HAV := Lib.hid (fun W (x : Ext w W) => arrayValid_any A n c l W hn (by omega) (r.ext x))
  rw [hA.yes] at HAV
  have HDP := Lib.hid (fun W (x : Ext w W) (i j : Nat) (hi : i < n) (hj : j < n) => delayPhase_any A n c l W i j hn hA (r.ext x) hi hj)
  have HVA : Hid (vpM l (bp n) = vpL l (5, -7) 3) := by show _ = _; rw [← hn]; exact vpM_all l (by omega)
  rw [hn] at hn2 hn7
  have s0 := St.new w #[.slice A n c] 27
  have x0 : Ext w (w.alloc (.cells #[.slice A n c] 27)) := (Ext.refl w).alloc _
  have s1 := St.new (w.alloc (.cells #[.slice A n c] 27)) #[.int .i64 5, .int .i64 (-7)] 49
  have x1 : Ext (w.alloc (.cells #[.slice A n c] 27)) ((w.alloc (.cells #[.slice A n c] 27)).alloc (.cells #[.int .i64 5, .int .i64 (-7)] 49)) := (Ext.refl _).alloc _
  have s2 := St.new ((w.alloc (.cells #[.slice A n c] 27)).alloc (.cells #[.int .i64 5, .int .i64 (-7)] 49)) #[.int .i64 3] 3
  have x2 : Ext ((w.alloc (.cells #[.slice A n c] 27)).alloc (.cells #[.int .i64 5, .int .i64 (-7)] 49)) (((w.alloc (.cells #[.slice A n c] 27)).alloc (.cells #[.int .i64 5, .int .i64 (-7)] 49)).alloc (.cells #[.int .i64 3] 3)) := (Ext.refl _).alloc _
  simp only [World.size_alloc] at s1 s2
  replace s0 := (s0.ext x1).ext x2
  replace s1 := s1.ext x2
  have y0 := (x0.trans x1).trans x2
  clear x0 x1 x2 hn r hA
  have k0 := s0.one'
  refine (callsIn_wide (n := 10)).1 ?_
  refine callsIn_of_wp_marks Try.func26 rfl trivial ?_ rfl
  refine wpIn_wide.2 ?_
  simp only [Try.ntmps26, List.size_toArray, List.length_cons, List.length_nil, Nat.reduceAdd, Nat.reduceSub, Array.replicate_succ, Array.replicate_zero, List.push_toArray, List.append_toArray, List.nil_append, List.cons_append]
  go_wp2_with fail
  generalize ((w.alloc (.cells #[.slice A n c] 27)).alloc (.cells #[.int .i64 5, .int .i64 (-7)] 49)).alloc (.cells #[.int .i64 3] 3) = w0 at *
  refine (HAV.out _ y0).mono ?_
  rintro e w1 ⟨rfl, x1⟩
  have y1 := y0.trans x1
  replace s0 := s0.ext x1
  replace s1 := s1.ext x1
  replace s2 := s2.ext x1
  clear k0 y0 x1
  have k0 := s1.cell0
  have k1 := s1.cell1
  go_wp2_with fail
  refine (isPlace_any 5 (-7) _).mono ?_
  rintro e w2 ⟨rfl, x2⟩
  rw [show plB (5, -7) = true from by decide]
  have y2 := y1.trans x2
  replace s0 := s0.ext x2
  replace s1 := s1.ext x2
  replace s2 := s2.ext x2
  clear k0 k1 y1 x2
  have k2 := s2.one'
  have hsz := y2.size
  have hs2 := s2.lt
  have s3 := St.new w2 #[.slice none 0 0] 29
  have x3 : Ext w2 (w2.alloc (.cells #[.slice none 0 0] 29)) := (Ext.refl w2).alloc _
  have sB := St.new (w2.alloc (.cells #[.slice none 0 0] 29)) #[.int .i64 (n : Int)] 3
  have x4 : Ext (w2.alloc (.cells #[.slice none 0 0] 29)) ((w2.alloc (.cells #[.slice none 0 0] 29)).alloc (.cells #[.int .i64 (n : Int)] 3)) := (Ext.refl _).alloc _
  rw [World.size_alloc] at sB
  have y4 := (y2.trans x3).trans x4
  have k3 := (s0.ext x3).one'
  have k4 := s0.one'
  replace s0 := (s0.ext x3).ext x4
  replace s1 := (s1.ext x3).ext x4
  replace s2 := (s2.ext x3).ext x4
  replace s3 := s3.ext x4
  have HZ := Lib.hid (And.intro y4 (And.intro s0 (And.intro s1 (And.intro s2 (And.intro s3 sB)))))
  clear x3 x4 y4 y2 s0 s1 s2 s3 sB
  go_wp2_with fail
  refine (bases_any _ _).mono ?_
  rintro e w' ⟨rfl, rfl⟩
  clear k2 k3 k4
  go_wp2_with fail
  generalize (w2.alloc (.cells #[.slice none 0 0] 29)).alloc (.cells #[.int .i64 (n : Int)] 3) = w5 at *
  generalize w2.heap.size = bo at *
  obtain ⟨y5, s0, s1, s2, s3, sB⟩ := HZ.out
  have hI0 : PtI n l w w.heap.size (.slice A n c) bo (bo + 1) [] w5 := ⟨⟨y5, s0⟩, ⟨⟨s1, s2⟩, _, s3, World.ownsRow_nil _ _ _ _⟩, sB⟩
  have hlt := sB.lt
  have hcB := sB.one'
  have hsz5 := y5.size
  clear s0 s1 s2 s3 y5 sB HZ
  refine (wpIn_wide (n := 10)).1 ?_
  refine' wpIn_rangeFunc_ownF rfl (by omega) (gf := 70) (lb := #[.pointer (some ⟨bo + 1, 0, none⟩)]) rfl trivial (enters_of Try.func70 (by kernel_rfl) rfl)
    (bases1_stops n hn2 (by omega) _ (by omega) (bo + 1) _ hcB hlt) kpB_t (kpB_b hlt) (Below.refl _ _) (fun _ => rfl)
    (PtI n l w w.heap.size (.slice A n c) bo (bo + 1)) (fun _ _ _ => False)
    (ptI_own _ _ _ _ _ _ _ _ hsz5) (fun _ => own_false) hI0 _ ?assign ?body ?done ?stop
  case assign =>
    intro l x W K hK
    dsimp only [bEnc]
    gi_wp2
    exact hK
  case body =>
    rintro l0 pre ⟨⟨i, j⟩, hij0, hjN0⟩ W ⟨⟨e1, t0⟩, ⟨⟨t1, t2⟩, v, t3, ho⟩, tB⟩ hpre
    have hij : i < j := hij0
    have hjN : j < n := hjN0
    have hiN : i < n := by omega
    obtain ⟨A5, c5, hv5, _⟩ := Sl.of_own ho
    subst hv5
    have hnb := nb_le n (by omega)
    have hDP := HDP.out W e1 i j hiN hjN
    have HSN := Lib.hid (vpM_snoc l pre ⟨(i, j), hij0, hjN0⟩)
    have j0 := t0.one'
    have j1 := t1.cell0
    have j2 := t1.cell1
    have HVX : Hid (vpM l (vals (pre ++ [(⟨(i, j), hij0, hjN0⟩ : BL n)])) = vpM l (vals pre) ++ [(3, dot (vec l i j) (5, -7) % 360)]) := HSN.out
    clear HSN
    generalize dot (vec l i j) (5, -7) % 360 = ph at *
    gi_wp2_with fail
    refine ⟨trivial, CallsIn.inRound l0 (callsIn_wide.2 (hDP.mono ?_))⟩
    rintro e W1 ⟨rfl, xv⟩
    have e2 := e1.trans xv
    have q0 := t0.ext xv
    have q1 := t1.ext xv
    have q2 := t2.ext xv
    have q3 := t3.ext xv
    have qB := tB.ext xv
    have qo := own_ext ho xv
    have HKO : Hid (KeepsOthers W W1 ∧ W1.heap[bo + 1]? = W.heap[bo + 1]?) := ⟨xv.keeps, xv.block tB.lt⟩
    clear e1 t0 t1 t2 t3 tB ho xv hDP j0 j1 j2
    have zW1 := qB.lt
    have j3 := q3.one'
    have j4 := q2.one'
    have f3 := q3.frozen 0
    gi_wp2_with (gi_at_builtin; refine wpListIn_append2A (w := W1) rfl _ _ _ rfl (bo + 1 + 1) 44 16 Vis.info Try.underlying29 _ pre.length _ (by rfl) qo 3 ph _ (by rfl) rfl (by omega) (by omega) (by omega) ?_; intro v' w8 o8 hg8 hat8; obtain ⟨A8, c8, hv8, _⟩ := Sl.of_own o8; subst hv8; have q8 := q3.grown qo hg8 (by omega); have j8 := q8.one'; have f8 := q8.frozen 0)
    have u0 := q0.grown qo hg8 (by omega)
    have u1 := q1.grown qo hg8 (by omega)
    have u2 := q2.grown qo hg8 (by omega)
    have uB := qB.grown qo hg8 (by omega)
    have ue := e2.grownV qo hg8 (by omega)
    rw [← HVX.out] at o8
    have hle : pre.length + 1 = (pre ++ [(⟨(i, j), hij0, hjN0⟩ : BL n)]).length := by rw [List.length_append]; rfl
    refine ⟨(HKO.out.1.trans (keeps_grown qo hg8)).trans (KeepsOthers.setCell _ _ _), (Below.heap_setCell w8 ⟨bo, 0, none⟩ _ _ (by show _ ≠ bo; omega)).trans ((hg8.block _ qB.lt fun e => by have := own_base qo _ e.symm; omega).trans HKO.out.2),
      ⟨ue.setCell (p := ⟨bo, 0, none⟩) (by show _ ≤ bo; omega) _, u0.far (p := ⟨bo, 0, none⟩) (by show _ ≠ bo; omega) _⟩,
      ⟨⟨u1.far (p := ⟨bo, 0, none⟩) (by show _ ≠ bo; omega) _, u2.far (p := ⟨bo, 0, none⟩) (by show _ ≠ bo; omega) _⟩, _, q8.set 0 _, ?_⟩, uB.far (p := ⟨bo, 0, none⟩) (by show _ ≠ bo; omega) _⟩
    rw [← hle]
    exact own_far o8 (p := ⟨bo, 0, none⟩) (own_low o8 (g := bo) (by omega)) _
  case done =>
    rintro Dd xs W hD rfl ⟨⟨e1, t0⟩, ⟨⟨t1, t2⟩, v, t3, ho⟩, tB⟩ hK
    obtain ⟨A5, c5, hv5, s5⟩ := Sl.of_own ho
    subst hv5
    have j3 := t3.one'
    rw [vals_all, allS_length, HVA.out] at s5
    rw [allS_length] at j3
    have E := Lib.hid e1
    have HD := Lib.hid hK
    have HS5 := Lib.hid s5
    clear hK e1 t0 t1 t2 t3 tB ho s5
    go_wp2
    refine marks_one rfl HD.out (results_tmp2 rfl _ _ _) ?_
    exact ⟨A5, c5, rfl, ((sl_putObj HS5.out HD.out).full).mono (by omega) (Nat.le_refl _), E.out.putObj (by omega) _⟩
  case stop =>
    rintro D c pre W _ _ h _
    exact h.elim
end Go.Proofs.Ytebjdchfofhmhaa
