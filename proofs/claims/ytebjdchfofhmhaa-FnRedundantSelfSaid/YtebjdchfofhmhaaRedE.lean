/-
  Contracts of isAnt, BaseIndex, BasePair, baseVector of the program.
-/
import Derived.Test.YtebjdchfofhmhaaRedD
import Derived.Test.YtebjdchfofhmhaaFlagI
import Derived.BigQuiet
namespace Go.Proofs.Ytebjdchfofhmhaa
open Go.RowKit Go.Shelf
attribute [local go_sem] Oper.semAt_some
set_option linter.unusedSimpArgs false
set_option linter.unusedVariables false

theorem isAnt_r (n a : Int) (w : World) : Calls Try.prog 79 #[.int .i64 n, .int .i64 a] w fun e w' => e = .returned (.bool (decide (0 ≤ a ∧ a < n))) ∧ w = w' := by
  by_cases h : 0 ≤ a
  · by_cases h2 : a < n
    · go_enter Try.func79, Try.ntmps79
      go_wp2
      go_ret
      exact ⟨ret_bool (by simp [h, h2]), rfl⟩
    · go_enter Try.func79, Try.ntmps79
      go_wp2
      go_ret
      exact ⟨ret_bool (by simp [h, h2]), rfl⟩
  · go_enter Try.func79, Try.ntmps79
    go_wp2
    go_ret
    exact ⟨ret_bool (by simp [h]; intro _; omega), rfl⟩
theorem isAnt_yes {N i : Nat} (h : i < N) (w : World) : Calls Try.prog 79 #[.int .i64 (N : Int), .int .i64 (i : Int)] w fun e w' => e = .returned (.bool true) ∧ w = w' := by
  have := isAnt_r (N : Int) (i : Int) w
  rwa [show decide (0 ≤ (i : Int) ∧ (i : Int) < (N : Int)) = true by simp; omega] at this
theorem isMany_yes {N : Nat} (h1 : 2 ≤ N) (h2 : N < 8) (w : World) : Calls Try.prog 50 #[.int .i64 (N : Int)] w fun e w' => e = .returned (.bool true) ∧ w = w' := by
  have := isMany_any (N : Int) w
  rwa [mn_nat h1 (by omega)] at this
theorem baseIndex_any (N i j : Nat) (w : World) (h1 : 2 ≤ N) (h2 : N < 8) (hij : i < j) (hj : j < N) :
    Calls Try.prog 76 #[.int .i64 (N : Int), .int .i64 (i : Int), .int .i64 (j : Int)] w fun e w' => e = .returned (.int .i64 ((bIx N i j : Nat) : Int)) ∧ w = w' := by
  have H1 := Lib.hid (fun W => isMany_yes h1 h2 W)
  have H2 := Lib.hid (fun W => isAnt_yes (N := N) (i := i) (by omega) W)
  have H3 := Lib.hid (fun W => isAnt_yes (N := N) (i := j) hj W)
  have H4 : Hid (∀ W, Calls Try.prog 80 #[.int .i64 (N : Int), .int .i64 (i : Int), .int .i64 (j : Int)] W fun e w' => e = .returned (.int .i64 ((bIx N i j : Nat) : Int)) ∧ W = w') := fun W => by
    have := baseAt_any N i j W h2 (by omega) hj (by omega)
    rwa [show bAt N i j = bIx N i j from if_neg (by omega)] at this
  have hne : ((i : Int) == (j : Int)) = false := by simp; omega
  have hne2 : ¬ ((i : Int) = (j : Int)) := by omega
  go_enter Try.func76, Try.ntmps76
  go_wp2_with fail
  refine (H1.out _).mono ?_
  rintro e w' ⟨rfl, rfl⟩
  go_wp2_with fail
  refine (H2.out _).mono ?_
  rintro e w' ⟨rfl, rfl⟩
  go_wp2_with fail
  refine (H3.out _).mono ?_
  rintro e w' ⟨rfl, rfl⟩
  go_wp2_with fail
  refine (H4.out _).mono ?_
  rintro e w' ⟨rfl, rfl⟩
  go_wp2
  go_ret
  exact ⟨rfl, rfl⟩
/-- in the loop over all baselines: none so far has the number -/
def PairR (N at' : Nat) (w : World) (b0 b1 b2 b3 b4 B : Nat) (pre : List (BL N)) (W : World) : Prop :=
  (Ext w W ∧ St W b0 #[.int .i64 (N : Int)] 3) ∧ (St W b1 #[.int .i64 (at' : Int)] 3 ∧ St W b2 #[.int .i64 0] 3) ∧ (St W b3 #[.int .i64 0] 3 ∧ St W b4 #[.bool false] 4) ∧ St W B #[.int .i64 (N : Int)] 3 ∧ (∀ p ∈ vals pre, bIx N p.1 p.2 ≠ at')
theorem pairR_own (N at' : Nat) (w : World) (b0 b1 b2 b3 b4 B B0 : Nat) (h : w.heap.size ≤ B0) : OwnFrom B0 (PairR N at' w b0 b1 b2 b3 b4 B) :=
  ((own_extW h).and (own_st _)).and (((own_st _).and (own_st _)).and (((own_st _).and (own_st _)).and ((own_st _).and own_pure)))
/-- behind the return: the pair is laid in the results -/
def PairX (N at' : Nat) (w : World) (b2 b3 b4 : Nat) (c : Code) (_ : List (BL N)) (W : World) : Prop :=
  c = .ret ∧ (Ext w W ∧ (St W b2 #[.int .i64 ((pr N at').1 : Int)] 3 ∧ (St W b3 #[.int .i64 ((pr N at').2 : Int)] 3 ∧ St W b4 #[.bool true] 4)))
theorem pairX_own (N at' : Nat) (w : World) (b2 b3 b4 B0 : Nat) (h : w.heap.size ≤ B0) (c : Code) : OwnFrom B0 (PairX N at' w b2 b3 b4 c) :=
  own_pure.and ((own_extW h).and ((own_st _).and ((own_st _).and (own_st _))))
set_option maxRecDepth 100000 in
set_option maxHeartbeats 1000000 in
theorem basePair_any (N k : Nat) (w : World) (h1 : 2 ≤ N) (h2 : N < 8) (hk : k < nb N) :
    Calls Try.prog 67 #[.int .i64 (N : Int), .int .i64 (k : Int)] w fun e w' => e = .returned (.tuple #[.int .i64 ((pr N k).1 : Int), .int .i64 ((pr N k).2 : Int), .bool true]) ∧ Ext w w' := by
  have HK := Lib.hid hk
  have y1 : Ext w (w.alloc (.cells #[.int .i64 (N : Int)] 3)) := (Ext.refl _).alloc _
  have s0 := St.new w #[.int .i64 (N : Int)] 3
  have s1 := St.new (w.alloc (.cells #[.int .i64 (N : Int)] 3)) #[.int .i64 (k : Int)] 3
  have x2 : Ext (w.alloc (.cells #[.int .i64 (N : Int)] 3)) ((w.alloc (.cells #[.int .i64 (N : Int)] 3)).alloc (.cells #[.int .i64 (k : Int)] 3)) := (Ext.refl _).alloc _
  have s2 := St.new ((w.alloc (.cells #[.int .i64 (N : Int)] 3)).alloc (.cells #[.int .i64 (k : Int)] 3)) #[.int .i64 0] 3
  have x3 : Ext ((w.alloc (.cells #[.int .i64 (N : Int)] 3)).alloc (.cells #[.int .i64 (k : Int)] 3)) (((w.alloc (.cells #[.int .i64 (N : Int)] 3)).alloc (.cells #[.int .i64 (k : Int)] 3)).alloc (.cells #[.int .i64 0] 3)) := (Ext.refl _).alloc _
  have s3 := St.new (((w.alloc (.cells #[.int .i64 (N : Int)] 3)).alloc (.cells #[.int .i64 (k : Int)] 3)).alloc (.cells #[.int .i64 0] 3)) #[.int .i64 0] 3
  have x4 : Ext (((w.alloc (.cells #[.int .i64 (N : Int)] 3)).alloc (.cells #[.int .i64 (k : Int)] 3)).alloc (.cells #[.int .i64 0] 3)) ((((w.alloc (.cells #[.int .i64 (N : Int)] 3)).alloc (.cells #[.int .i64 (k : Int)] 3)).alloc (.cells #[.int .i64 0] 3)).alloc (.cells #[.int .i64 0] 3)) := (Ext.refl _).alloc _
  have s4 := St.new ((((w.alloc (.cells #[.int .i64 (N : Int)] 3)).alloc (.cells #[.int .i64 (k : Int)] 3)).alloc (.cells #[.int .i64 0] 3)).alloc (.cells #[.int .i64 0] 3)) #[.bool false] 4
  have x5 : Ext ((((w.alloc (.cells #[.int .i64 (N : Int)] 3)).alloc (.cells #[.int .i64 (k : Int)] 3)).alloc (.cells #[.int .i64 0] 3)).alloc (.cells #[.int .i64 0] 3)) (((((w.alloc (.cells #[.int .i64 (N : Int)] 3)).alloc (.cells #[.int .i64 (k : Int)] 3)).alloc (.cells #[.int .i64 0] 3)).alloc (.cells #[.int .i64 0] 3)).alloc (.cells #[.bool false] 4)) := (Ext.refl _).alloc _
  replace s0 := (((s0.ext x2).ext x3).ext x4).ext x5
  replace s1 := ((s1.ext x3).ext x4).ext x5
  replace s2 := (s2.ext x4).ext x5
  replace s3 := s3.ext x5
  have X0 := (((y1.trans x2).trans x3).trans x4).trans x5
  simp only [World.size_alloc] at s1 s2 s3 s4
  clear y1 x2 x3 x4 x5 hk
  refine (callsIn_wide (n := 10)).1 ?_
  refine callsIn_of_wp_marks Try.func67 rfl trivial ?_ rfl
  refine wpIn_wide.2 ?_
  simp only [Try.ntmps67, List.size_toArray, List.length_cons, List.length_nil, Nat.reduceAdd, Nat.reduceSub, Array.replicate_succ, Array.replicate_zero, List.push_toArray, List.append_toArray, List.nil_append, List.cons_append]
  go_wp2_with fail
  generalize (((((w.alloc (.cells #[.int .i64 (N : Int)] 3)).alloc (.cells #[.int .i64 (k : Int)] 3)).alloc (.cells #[.int .i64 0] 3)).alloc (.cells #[.int .i64 0] 3)).alloc (.cells #[.bool false] 4)) = w0 at *
  obtain ⟨b0, hb0⟩ : ∃ b, b = w.heap.size := ⟨_, rfl⟩
  have HB0 := Lib.hid hb0
  rw [← hb0] at s0 s1 s2 s3 s4 ⊢
  clear hb0
  refine (bases_any _ _).mono ?_
  rintro e w' ⟨rfl, rfl⟩
  have sB := St.new w0 #[.int .i64 (N : Int)] 3
  have x6 : Ext w0 (w0.alloc (.cells #[.int .i64 (N : Int)] 3)) := (Ext.refl _).alloc _
  have hI0 : PairR N k w b0 (b0 + 1) (b0 + 1 + 1) (b0 + 1 + 1 + 1) (b0 + 1 + 1 + 1 + 1) w0.heap.size [] (w0.alloc (.cells #[.int .i64 (N : Int)] 3)) := ⟨⟨X0.trans x6, s0.ext x6⟩, ⟨s1.ext x6, s2.ext x6⟩, ⟨s3.ext x6, s4.ext x6⟩, sB, fun p hp => by simp [vals] at hp⟩
  have hlt := sB.lt
  have hcB := sB.one'
  have hsz5 := (X0.trans x6).size
  have hsz0 := X0.size
  clear s0 s1 s2 s3 s4 sB x6 X0
  go_wp2_with fail
  generalize (w0.alloc (.cells #[.int .i64 (N : Int)] 3)) = w5 at *
  refine (wpIn_wide (n := 10)).1 ?_
  refine' wpIn_rangeFunc_ownF rfl (by omega) (gf := 70) (lb := #[.pointer (some ⟨w0.heap.size, 0, none⟩)]) rfl trivial (enters_of Try.func70 (by kernel_rfl) rfl)
    (bases1_stops N h1 h2 _ (by omega) w0.heap.size _ hcB hlt) kpB_t (kpB_b hlt) (Below.refl _ _) (fun _ => rfl)
    (PairR N k w b0 (b0 + 1) (b0 + 1 + 1) (b0 + 1 + 1 + 1) (b0 + 1 + 1 + 1 + 1) w0.heap.size) (PairX N k w (b0 + 1 + 1) (b0 + 1 + 1 + 1) (b0 + 1 + 1 + 1 + 1))
    (pairR_own _ _ _ _ _ _ _ _ _ _ hsz5) (fun c => pairX_own _ _ _ _ _ _ _ hsz5 c) hI0 _ ?assign ?body ?done ?stop
  case assign =>
    intro l x W K hK
    dsimp only [bEnc]
    gi_wp2
    exact hK
  case body =>
    rintro l0 pre ⟨⟨i, j⟩, hij0, hjN0⟩ W ⟨⟨e1, t0⟩, ⟨t1, t2⟩, ⟨t3, t4⟩, tB, hpre⟩ _
    have hij : i < j := hij0
    have hjN : j < N := hjN0
    have HBI := Lib.hid (fun W => baseIndex_any N i j W h1 h2 hij hjN)
    have HPR : Hid (pr N (bIx N i j) = (i, j)) := pr_at h2 hij hjN
    have HVS : Hid (vals (pre ++ [(⟨(i, j), hij0, hjN0⟩ : BL N)]) = vals pre ++ [(i, j)]) := vals_snoc _ _
    have HPE := Lib.hid hpre
    obtain ⟨q, hqe⟩ : ∃ q, q = bIx N i j := ⟨_, rfl⟩
    have HQ := Lib.hid hqe
    rw [← hqe] at HBI HPR
    have j0 := t0.one'
    have j1 := t1.one'
    have HT : Hid ((Ext w W ∧ St W b0 #[.int .i64 (N : Int)] 3) ∧ (St W (b0 + 1) #[.int .i64 (k : Int)] 3 ∧ St W (b0 + 1 + 1) #[.int .i64 0] 3) ∧ (St W (b0 + 1 + 1 + 1) #[.int .i64 0] 3 ∧ St W (b0 + 1 + 1 + 1 + 1) #[.bool false] 4) ∧ St W w0.heap.size #[.int .i64 (N : Int)] 3) := ⟨⟨e1, t0⟩, ⟨t1, t2⟩, ⟨t3, t4⟩, tB⟩
    clear e1 t0 t1 t2 t3 t4 tB hpre hqe
    by_cases hqk : q = k
    · have hb : ((q : Int) == (k : Int)) = true := by simp; omega
      have HQK := Lib.hid hqk
      clear hqk
      gi_wp2
      refine round_quiet (by kernel_rfl) (by kernel_rfl) (by kernel_rfl) (by rintro ⟨a, w, h⟩; exact h) ?_
      repeat (go_big_quiet_step (first | (go_at_call 76; exact quiet_same (HBI.out _))))
      refine wpQuiet_nil ?_
      rintro _ ⟨nq, rfl⟩
      have xq : Ext W (W.drewN nq) := (Ext.refl W).drewN nq
      obtain ⟨⟨e1, t0⟩, ⟨t1, t2⟩, ⟨t3, t4⟩, tB⟩ := HT.out
      replace e1 := e1.trans xq
      replace t2 := t2.ext xq
      replace t3 := t3.ext xq
      replace t4 := t4.ext xq
      have HKO : Hid (KeepsOthers W (W.drewN nq)) := xq.keeps
      clear t0 t1 tB xq HT HBI j0 j1
      generalize W.drewN nq = W1 at *
      have c2 := t2.one'
      have c3 := t3.one'
      have c4 := t4.one'
      have f2 := t2.frozen 0
      have f3 := t3.frozen 0
      have f4 := t4.frozen 0
      have hb0 := HB0.out
      have z2 := ((t2.set 0 (.int .i64 (i : Int))).far (p := ⟨b0 + 1 + 1 + 1, 0, none⟩) (by show b0 + 1 + 1 ≠ b0 + 1 + 1 + 1; omega) (.int .i64 (j : Int))).far (p := ⟨b0 + 1 + 1 + 1 + 1, 0, none⟩) (by show b0 + 1 + 1 ≠ b0 + 1 + 1 + 1 + 1; omega) (.bool true)
      have z3 := ((t3.far (p := ⟨b0 + 1 + 1, 0, none⟩) (by show b0 + 1 + 1 + 1 ≠ b0 + 1 + 1; omega) (.int .i64 (i : Int))).set 0 (.int .i64 (j : Int))).far (p := ⟨b0 + 1 + 1 + 1 + 1, 0, none⟩) (by show b0 + 1 + 1 + 1 ≠ b0 + 1 + 1 + 1 + 1; omega) (.bool true)
      have z4 := ((t4.far (p := ⟨b0 + 1 + 1, 0, none⟩) (by show b0 + 1 + 1 + 1 + 1 ≠ b0 + 1 + 1; omega) (.int .i64 (i : Int))).far (p := ⟨b0 + 1 + 1 + 1, 0, none⟩) (by show b0 + 1 + 1 + 1 + 1 ≠ b0 + 1 + 1 + 1; omega) (.int .i64 (j : Int))).set 0 (.bool true)
      have ze := ((e1.setCell (p := ⟨b0 + 1 + 1, 0, none⟩) (by show _ ≤ b0 + 1 + 1; omega) (.int .i64 (i : Int))).setCell (p := ⟨b0 + 1 + 1 + 1, 0, none⟩) (by show _ ≤ b0 + 1 + 1 + 1; omega) (.int .i64 (j : Int))).setCell (p := ⟨b0 + 1 + 1 + 1 + 1, 0, none⟩) (by show _ ≤ b0 + 1 + 1 + 1 + 1; omega) (.bool true)
      have HZ := Lib.hid (And.intro ze (And.intro z2 (And.intro z3 z4)))
      have HPK : Hid (pr N k = (i, j)) := by show _ = _; rw [← HQK.out]; exact HPR.out
      clear e1 t2 t3 t4 z2 z3 z4 ze hb0
      gi_wp2
      refine ⟨HKO.out.trans ((KeepsOthers.setCell _ _ _).trans ((KeepsOthers.setCell _ _ _).trans (KeepsOthers.setCell _ _ _))), rfl, ?_⟩
      rw [HPK.out]
      exact HZ.out
    · have hb : ((q : Int) == (k : Int)) = false := by simp; omega
      have HQK := Lib.hid hqk
      clear hqk
      gi_wp2
      refine round_quiet (by kernel_rfl) (by kernel_rfl) (by kernel_rfl) (by rintro ⟨a, w, h⟩; exact h) ?_
      repeat (go_big_quiet_step (first | (go_at_call 76; exact quiet_same (HBI.out _))))
      refine wpQuiet_nil ?_
      rintro _ ⟨nq, rfl⟩
      gi_wp2
      have xq : Ext W (W.drewN nq) := (Ext.refl W).drewN nq
      obtain ⟨⟨e1, t0⟩, ⟨t1, t2⟩, ⟨t3, t4⟩, tB⟩ := HT.out
      refine ⟨xq.keeps, rfl, ⟨e1.trans xq, t0⟩, ⟨t1, t2⟩, ⟨t3, t4⟩, tB, fun p hp => ?_⟩
      rw [HVS.out, List.mem_append, List.mem_singleton] at hp
      rcases hp with hp | rfl
      · exact HPE.out p hp
      · show bIx N i j ≠ k
        rw [← HQ.out]; exact HQK.out
  case done =>
    rintro D xs W hD rfl ⟨_, _, _, _, hpre⟩ hK
    rw [vals_all] at hpre
    have hm := List.mem_of_getElem? (bp_pr h2 HK.out)
    exact absurd (pr_in h2 HK.out).2.2 (hpre _ hm)
  case stop =>
    rintro D c pre W hD _ ⟨rfl, e1, t2, t3, t4⟩ hK
    have y2 := (t2.putObj (o := .deferred none) hK).one'
    have y3 := (t3.putObj (o := .deferred none) hK).one'
    have y4 := (t4.putObj (o := .deferred none) hK).one'
    have ye := e1.putObj (D := D) (by omega) (.deferred none)
    have HD := Lib.hid hK
    clear hK t2 t3 t4 e1
    refine (wpIn_wide (n := 10)).2 ?_
    go_wp2
    refine marks_one (v := .tuple #[.int .i64 ((pr N k).1 : Int), .int .i64 ((pr N k).2 : Int), .bool true]) rfl HD.out (by simp [results, Try.results67, go_sem, y2, y3, y4]) ?_
    exact ⟨rfl, ye⟩
end Go.Proofs.Ytebjdchfofhmhaa
