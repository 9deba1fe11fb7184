/-
  Contract of GainRemove of the program, where every amplitude can be divided.
-/
import Derived.Test.YtpjglnmnfmibnaaGainI
namespace Go.Proofs.Ytpjglnmnfmibnaa
open Go.RowKit Go.Shelf
attribute [local go_sem] Oper.semAt_some
set_option linter.unusedSimpArgs false
set_option linter.unusedVariables false

/-- a visibility with the gains of its antennas removed -/
def grF (l g : VL) (k : Nat) (p : Nat × Nat) : Int × Int := (vAm l k / (vAm g p.1 * vAm g p.2), (vPh l k + vPh g p.1 - vPh g p.2) % 360)
def grM (l g : VL) (ps : List (Nat × Nat)) : VL := byAt (grF l g) ps
theorem grM_snoc (l g : VL) {N : Nat} (pre : List (BL N)) (x : BL N) : grM l g (vals (pre ++ [x])) = grM l g (vals pre) ++ [grF l g pre.length x.1] := by rw [vals_snoc, grM, byAt_snoc, vals_length]; rfl
theorem grM_length (l g : VL) (ps : List (Nat × Nat)) : (grM l g ps).length = ps.length := byAt_length _ _
def goesB (l g : VL) (k : Nat) (p : Nat × Nat) : Prop := vAm l k % (vAm g p.1 * vAm g p.2) = 0
theorem vals_take {N : Nat} (hN : N < 8) {pre : List (BL N)} (h : ∃ t, pre = (allS N hN).take t) {k : Nat} {p : Nat × Nat} (hk : (vals pre)[k]? = some p) : (bp N)[k]? = some p := by
  obtain ⟨t, rfl⟩ := h
  rw [← vals_all N hN]
  unfold vals at hk ⊢
  rw [List.map_take, List.getElem?_take] at hk
  split at hk
  · exact hk
  · cases hk
set_option maxHeartbeats 2000000 in
theorem bases1_stopsP (N : Nat) (h1 : 2 ≤ N) (h2 : N < 8) (n : Nat) (hn : 1 ≤ n) (B : Nat) (w : World) (hB : w.cell? ⟨B, 0, none⟩ = some (.int .i64 (N : Int))) (hBl : B < w.heap.size) :
    SeqStopsK Fence.wide n Try.prog 60 #[.pointer (some ⟨B, 0, none⟩)] bEnc (KpB B) (fun xs => xs = allS N h2) (fun pre => ∃ t, pre = (allS N h2).take t) (nb N) w := fun l J Jx W hW hJ hJx hY h0 => by
  refine callsIn_of_wp Try.func60 rfl trivial ?_ rfl
  simp only [Try.ntmps60, List.size_toArray, List.length_cons, List.length_nil, Nat.reduceAdd, Nat.reduceSub, Array.replicate_succ, Array.replicate_zero, List.push_toArray, List.append_toArray, List.nil_append, List.cons_append]
  have hc : W.cell? ⟨B, 0, none⟩ = some (.int .i64 (N : Int)) := (hW.cell (p := ⟨B, 0, none⟩) hBl).trans hB
  have HM := Lib.hid (mn_nat h1 (by omega))
  gi_wp2
  gi_loopw [3] (fun i wr => ∃ k : Nat, k ≤ N ∧ i = .int .i64 k ∧ J ((allS N h2).take (row N k)) wr ∧ wr.heap[B]? = W.heap[B]?) (fun i _ => N - (intOf i).toNat)
  case atStart => exact ⟨0, Nat.zero_le _, rfl, by rw [row_zero]; exact h0, rfl⟩
  case round =>
    obtain ⟨k, hk, rfl, hj, hb⟩ := hrel
    have hcr : wr.cell? ⟨B, 0, none⟩ = some (.int .i64 (N : Int)) := (World.cell?_of_block (w := W) hb).trans hc
    by_cases hlt : k < N
    · gi_wp2_with (refine ⟨trivial, ?_⟩; gi_at_call 39; refine (callsIn_wide.2 (isMany_any _ _)).mono ?_; rintro e w' ⟨rfl, rfl⟩; rw [HM.out])
      gi_loopw [4] (fun j wr2 => ∃ m : Nat, k + 1 ≤ m ∧ m ≤ N ∧ j = .int .i64 m ∧ J ((allS N h2).take (bIx N k m)) wr2 ∧ wr2.heap[B]? = W.heap[B]?) (fun j _ => N - (intOf j).toNat)
      case atStart => exact ⟨k + 1, Nat.le_refl _, by omega, by go_num, by rw [bIx_first]; exact hj, hb⟩
      case round =>
        obtain ⟨m, hm1, hm2, rfl, hj2, hb2⟩ := hrel
        have hcr2 : wr.cell? ⟨B, 0, none⟩ = some (.int .i64 (N : Int)) := (World.cell?_of_block (w := W) hb2).trans hc
        by_cases hlt2 : m < N
        · obtain ⟨fn, tmps, assign, body, hy, hR⟩ := hY ((allS N h2).take (bIx N k m)) ⟨(k, m), by omega, hlt2⟩ wr hj2 (by rw [List.length_take, allS_length]; have := bIx_lt N h2 k hlt m hlt2 (by omega); omega)
          dsimp only [bEnc] at hy
          gi_wp2
          refine hR.mono ?_
          rintro e W3 (⟨rfl, hJ3, hk3⟩ | ⟨rfl, hJx3⟩)
          · rw [← allS_take h2 (by omega) hlt2] at hJ3
            gi_wp2
            go_roundw
            case rel => exact ⟨m + 1, by omega, by omega, by go_num, by rw [bIx_succ (by omega)]; exact hJ3, Eq.trans hk3 hb2⟩
            case measure => simp [intOf]; omega
          · gi_wp2
            refine bodyPost_ret (results_none rfl _ _ _) rfl ?_
            exact ⟨⟨_, rfl⟩, .inr ⟨_, ⟨_, (allS_take h2 (by omega) hlt2).symm⟩, hJx3⟩⟩
        · obtain rfl : m = N := by omega
          rw [bIx_last h2 hlt] at hj2
          gi_wp2
          go_roundw
          case rel => exact ⟨k + 1, by omega, by go_num, hj2, hb2⟩
          case measure => simp [intOf]; omega
    · have e : k = N := by omega
      rw [e, allS_end] at hj
      have hd : decide (k < N) = false := by simpa using hlt
      clear e
      gi_wp2
      refine ⟨trivial, ?_⟩
      gi_wp2
      go_end0
      exact ⟨⟨_, rfl⟩, .inl ⟨_, rfl, hj⟩⟩
/-- the boxes of the arguments, the results, that of the answer and that of the iterator -/
def GainJ (N : Nat) (l g : VL) (w : World) (b b1 b2 b3 : Nat) (v1 v2 : Value) (b4 B : Nat) (pre : List (BL N)) (W : World) : Prop :=
  (Ext w W ∧ St W b #[v1] 24) ∧ (St W b1 #[v2] 24 ∧ (∃ v, St W b4 #[v] 24 ∧ W.ownsRow (B + 1) 47 2 v pre.length (pairs (grM l g (vals pre))))) ∧ St W B #[.int .i64 (N : Int)] 3 ∧ (St W b2 #[.slice none 0 0] 24 ∧ St W b3 #[.bool false] 4)
theorem gainJ_own (N : Nat) (l g : VL) (w : World) (b b1 b2 b3 : Nat) (v1 v2 : Value) (b4 B B0 : Nat) (h : w.heap.size ≤ B0) : OwnFrom B0 (GainJ N l g w b b1 b2 b3 v1 v2 b4 B) :=
  ((own_extW h).and (own_st _)).and (((own_st _).and (own_row (fun pre => pre.length) (fun pre => pairs (grM l g (vals pre))))).and ((own_st _).and ((own_st _).and (own_st _))))
/-- behind an early return: one amplitude could not be divided -/
def GainX (N : Nat) (l g : VL) (c : Code) (pre : List (BL N)) (_ : World) : Prop := c = .ret ∧ ∃ k p, (vals pre)[k]? = some p ∧ ¬ goesB l g k p
set_option maxRecDepth 100000 in
set_option maxHeartbeats 4000000 in
theorem gainRemove_ok (N : Nat) (A1 A2 : Option Addr) (n1 c1 n2 c2 : Nat) (l g : VL) (w : World) (h1 : visB (N : Int) l = true) (h2 : gaB (N : Int) g = true) (hdiv : ∀ k p, (bp N)[k]? = some p → goesB l g k p) (hl : l.length = n1) (hg : g.length = n2) (z1 : n1 ≤ 1048576) (z2 : n2 ≤ 1048576) (r1 : Rd w w.heap.size A1 n1 c1 (pairs l)) (r2 : Rd w w.heap.size A2 n2 c2 (pairs g)) :
    Calls Try.prog 19 #[.int .i64 (N : Int), .slice A1 n1 c1, .slice A2 n2 c2] w (RetSB w 47 (nb N) (pairs (grM l g (bp N))) true) := by
  obtain ⟨N', e, g1, g2, g3, g4⟩ := visB_parts h1
  obtain rfl : N' = N := by omega
  obtain ⟨N'', e', _, _, g5, g6⟩ := gaB_parts h2
  obtain rfl : N'' = N' := by omega
  have HV1 := Lib.hid (fun (W : World) (x : Ext w W) => visValid_any (N'' : Int) A1 n1 c1 l W hl (by omega) (r1.ext x))
  have HV2 := Lib.hid (fun (W : World) (x : Ext w W) => gainsValid_any (N'' : Int) A2 n2 c2 g W hg (by omega) (r2.ext x))
  rw [h1] at HV1
  rw [h2] at HV2
  have HL := Lib.hid hl
  have HG := Lib.hid hg
  have HG3 := Lib.hid g3
  have HG4 := Lib.hid g4
  have HG5 := Lib.hid g5
  have HG6 := Lib.hid g6
  have HDIV := Lib.hid hdiv
  obtain ⟨ga, oa, rfl⟩ := r1.addr (by rw [pairs_length, HG3.out]; have := nb_pos N'' (by omega) g1; omega)
  obtain ⟨gb, ob, rfl⟩ := r2.addr (by rw [pairs_length, HG5.out]; omega)
  clear hl hg e e' h1 h2 g3 g4 g5 g6 hdiv
  refine (callsIn_wide (n := 10)).1 ?_
  refine callsIn_of_wp_marks Try.func19 rfl trivial ?_ rfl
  refine wpIn_wide.2 ?_
  simp only [Try.ntmps19, List.size_toArray, List.length_cons, List.length_nil, Nat.reduceAdd, Nat.reduceSub, Array.replicate_succ, Array.replicate_zero, List.push_toArray, List.append_toArray, List.nil_append, List.cons_append]
  have q0 : St (w.alloc (.cells #[.slice (some ⟨ga, oa, none⟩) n1 c1] 24)) (w.heap.size) #[.slice (some ⟨ga, oa, none⟩) n1 c1] 24 := by
    have h := St.new w #[.slice (some ⟨ga, oa, none⟩) n1 c1] 24
    (try simp only [World.size_alloc] at h)
    exact h
  have x0 : Ext w (w.alloc (.cells #[.slice (some ⟨ga, oa, none⟩) n1 c1] 24)) := (Ext.refl _).alloc _
  have q1 : St ((w.alloc (.cells #[.slice (some ⟨ga, oa, none⟩) n1 c1] 24)).alloc (.cells #[.slice (some ⟨gb, ob, none⟩) n2 c2] 24)) (w.heap.size + 1) #[.slice (some ⟨gb, ob, none⟩) n2 c2] 24 := by
    have h := St.new (w.alloc (.cells #[.slice (some ⟨ga, oa, none⟩) n1 c1] 24)) #[.slice (some ⟨gb, ob, none⟩) n2 c2] 24
    (try simp only [World.size_alloc] at h)
    exact h
  have x1 : Ext (w.alloc (.cells #[.slice (some ⟨ga, oa, none⟩) n1 c1] 24)) ((w.alloc (.cells #[.slice (some ⟨ga, oa, none⟩) n1 c1] 24)).alloc (.cells #[.slice (some ⟨gb, ob, none⟩) n2 c2] 24)) := (Ext.refl _).alloc _
  have q2 : St (((w.alloc (.cells #[.slice (some ⟨ga, oa, none⟩) n1 c1] 24)).alloc (.cells #[.slice (some ⟨gb, ob, none⟩) n2 c2] 24)).alloc (.cells #[.slice none 0 0] 24)) (w.heap.size + 1 + 1) #[.slice none 0 0] 24 := by
    have h := St.new ((w.alloc (.cells #[.slice (some ⟨ga, oa, none⟩) n1 c1] 24)).alloc (.cells #[.slice (some ⟨gb, ob, none⟩) n2 c2] 24)) #[.slice none 0 0] 24
    (try simp only [World.size_alloc] at h)
    exact h
  have x2 : Ext ((w.alloc (.cells #[.slice (some ⟨ga, oa, none⟩) n1 c1] 24)).alloc (.cells #[.slice (some ⟨gb, ob, none⟩) n2 c2] 24)) (((w.alloc (.cells #[.slice (some ⟨ga, oa, none⟩) n1 c1] 24)).alloc (.cells #[.slice (some ⟨gb, ob, none⟩) n2 c2] 24)).alloc (.cells #[.slice none 0 0] 24)) := (Ext.refl _).alloc _
  have q3 : St ((((w.alloc (.cells #[.slice (some ⟨ga, oa, none⟩) n1 c1] 24)).alloc (.cells #[.slice (some ⟨gb, ob, none⟩) n2 c2] 24)).alloc (.cells #[.slice none 0 0] 24)).alloc (.cells #[.bool false] 4)) (w.heap.size + 1 + 1 + 1) #[.bool false] 4 := by
    have h := St.new (((w.alloc (.cells #[.slice (some ⟨ga, oa, none⟩) n1 c1] 24)).alloc (.cells #[.slice (some ⟨gb, ob, none⟩) n2 c2] 24)).alloc (.cells #[.slice none 0 0] 24)) #[.bool false] 4
    (try simp only [World.size_alloc] at h)
    exact h
  have x3 : Ext (((w.alloc (.cells #[.slice (some ⟨ga, oa, none⟩) n1 c1] 24)).alloc (.cells #[.slice (some ⟨gb, ob, none⟩) n2 c2] 24)).alloc (.cells #[.slice none 0 0] 24)) ((((w.alloc (.cells #[.slice (some ⟨ga, oa, none⟩) n1 c1] 24)).alloc (.cells #[.slice (some ⟨gb, ob, none⟩) n2 c2] 24)).alloc (.cells #[.slice none 0 0] 24)).alloc (.cells #[.bool false] 4)) := (Ext.refl _).alloc _
  replace q0 := ((q0.ext x1).ext x2).ext x3
  replace q1 := (q1.ext x2).ext x3
  replace q2 := q2.ext x3
  have X := ((x0.trans x1).trans x2).trans x3
  clear x0 x1 x2 x3
  obtain ⟨b1, hb1⟩ : ∃ x, x = w.heap.size + 1 := ⟨_, rfl⟩
  obtain ⟨b2, hb2⟩ : ∃ x, x = w.heap.size + 1 + 1 := ⟨_, rfl⟩
  obtain ⟨b3, hb3⟩ : ∃ x, x = w.heap.size + 1 + 1 + 1 := ⟨_, rfl⟩
  have HB := Lib.hid (And.intro hb1 (And.intro hb2 hb3))
  rw [← hb1] at q1
  rw [← hb2] at q2
  rw [← hb3] at q3
  have k0 := q0.one'
  have k1 := q1.one'
  obtain ⟨W0, hW0⟩ : ∃ W0, W0 = ((((w.alloc (.cells #[.slice (some ⟨ga, oa, none⟩) n1 c1] 24)).alloc (.cells #[.slice (some ⟨gb, ob, none⟩) n2 c2] 24)).alloc (.cells #[.slice none 0 0] 24)).alloc (.cells #[.bool false] 4)) := ⟨_, rfl⟩
  have HW0 := Lib.hid hW0
  rw [← hW0] at q0 q1 q2 q3 X k0 k1
  clear hW0
  have lt1 : w.heap.size < b1 := by omega
  have lt2 : b1 < b2 := by omega
  have lt3 : b2 < b3 := by omega
  clear hb1 hb2 hb3
  go_wp2_with fail
  rw [← HW0.out, ← HB.out.2.2, ← HB.out.2.1, ← HB.out.1]
  refine (HV1.out _ X).mono ?_
  rintro e w1 ⟨rfl, x1⟩
  replace x1 : Ext W0 w1 := x1
  have y1 := X.trans x1
  replace q0 := q0.ext x1
  replace q1 := q1.ext x1
  replace q2 := q2.ext x1
  replace q3 := q3.ext x1
  clear k0 k1 x1 X
  have k0 := q0.one'
  have k1 := q1.one'
  go_wp2_with fail
  refine (HV2.out _ y1).mono ?_
  rintro e w2 ⟨rfl, x2⟩
  have y2 := y1.trans x2
  replace s0 := q0.ext x2
  replace s1 := q1.ext x2
  replace q2 := q2.ext x2
  replace q3 := q3.ext x2
  clear k0 k1 y1 x2 q0 q1
  have hszs := q3.lt
  have s4 := St.new w2 #[.slice none 0 0] 24
  have x3 : Ext w2 (w2.alloc (.cells #[.slice none 0 0] 24)) := (Ext.refl w2).alloc _
  have y3 := y2.trans x3
  replace s0 := s0.ext x3
  replace s1 := s1.ext x3
  replace q2 := q2.ext x3
  replace q3 := q3.ext x3
  go_wp2_with fail
  refine (bases_any _ _).mono ?_
  rintro e w' ⟨rfl, rfl⟩
  have sB := St.new (w2.alloc (.cells #[.slice none 0 0] 24)) #[.int .i64 (N'' : Int)] 3
  rw [World.size_alloc] at sB
  have x4 : Ext (w2.alloc (.cells #[.slice none 0 0] 24)) ((w2.alloc (.cells #[.slice none 0 0] 24)).alloc (.cells #[.int .i64 (N'' : Int)] 3)) := (Ext.refl _).alloc _
  have y4 := y3.trans x4
  replace s0 := s0.ext x4
  replace s1 := s1.ext x4
  replace s4 := s4.ext x4
  replace q2 := q2.ext x4
  replace q3 := q3.ext x4
  have hsz := y2.size
  clear x3 x4 y3 y2
  go_wp2_with fail
  generalize ((w2.alloc (.cells #[.slice none 0 0] 24)).alloc (.cells #[.int .i64 (N'' : Int)] 3)) = w5 at *
  have hI0 : GainJ N'' l g w w.heap.size b1 b2 b3 (.slice (some ⟨ga, oa, none⟩) n1 c1) (.slice (some ⟨gb, ob, none⟩) n2 c2) w2.heap.size (w2.heap.size + 1) [] w5 := ⟨⟨y4, s0⟩, ⟨s1, _, s4, World.ownsRow_nil _ _ _ _⟩, sB, q2, q3⟩
  have hlt := sB.lt
  have hcB := sB.one'
  have hsz5 := y4.size
  clear s0 s1 s4 y4 sB HW0 q2 q3
  refine (wpIn_wide (n := 10)).1 ?_
  refine' wpIn_rangeFunc_ownF rfl (by omega) (gf := 60) (lb := #[.pointer (some ⟨w2.heap.size + 1, 0, none⟩)]) rfl trivial (enters_of Try.func60 (by kernel_rfl) rfl)
    (bases1_stopsP N'' g1 (by omega) _ (by omega) (w2.heap.size + 1) _ hcB hlt) kpB_t (kpB_b hlt) (Below.refl _ _) (fun _ => rfl)
    (GainJ N'' l g w w.heap.size b1 b2 b3 (.slice (some ⟨ga, oa, none⟩) n1 c1) (.slice (some ⟨gb, ob, none⟩) n2 c2) w2.heap.size (w2.heap.size + 1)) (GainX N'' l g)
    (gainJ_own _ _ _ _ _ _ _ _ _ _ _ _ _ hsz5) (fun _ => own_pure) hI0 _ ?assign ?body ?done ?stop
  case assign =>
    intro l x W K hK
    dsimp only [bEnc]
    gi_wp2
    exact hK
  case body =>
    rintro l0 pre ⟨⟨i, j⟩, hij0, hjN0⟩ W ⟨⟨e1, t0⟩, ⟨t1, v, t4, ho⟩, tB, u2, u3⟩ hpre
    have hij : i < j := hij0
    have hjN : j < N'' := hjN0
    obtain ⟨A5, c5, hv5, _⟩ := Sl.of_own ho
    subst hv5
    have hq1 : pre.length < n1 := by have a := HL.out; have b := HG3.out; omega
    have hq1i : (pre.length : Int) < (n1 : Int) := by omega
    have hi2 : i < n2 := by have a := HG.out; have b := HG5.out; omega
    have hj2 : j < n2 := by have a := HG.out; have b := HG5.out; omega
    have hi2i : (i : Int) < (n2 : Int) := by omega
    have hj2i : (j : Int) < (n2 : Int) := by omega
    have rg1 := rgB_at HG4.out (k := pre.length) (by rw [HG3.out]; omega)
    have rg2 := rgB_at HG6.out (k := i) (by rw [HG5.out]; omega)
    have rg3 := rgB_at HG6.out (k := j) (by rw [HG5.out]; omega)
    have HS : Hid (∀ W', Ext W.drew W' → W'.cell? ⟨w.heap.size, 0, none⟩ = some (.slice (some ⟨ga, oa, none⟩) n1 c1) ∧ W'.cell? ⟨b1, 0, none⟩ = some (.slice (some ⟨gb, ob, none⟩) n2 c2) ∧ W'.cell? ⟨w2.heap.size, 0, none⟩ = some (.slice A5 pre.length c5) ∧ W'.cell? ⟨ga, oa + pre.length * 2, none⟩ = some (.int .i64 (vAm l pre.length)) ∧ W'.cell? ⟨ga, oa + pre.length * 2 + 1, none⟩ = some (.int .i64 (vPh l pre.length)) ∧ W'.cell? ⟨gb, ob + i * 2, none⟩ = some (.int .i64 (vAm g i)) ∧ W'.cell? ⟨gb, ob + i * 2 + 1, none⟩ = some (.int .i64 (vPh g i)) ∧ W'.cell? ⟨gb, ob + j * 2, none⟩ = some (.int .i64 (vAm g j)) ∧ W'.cell? ⟨gb, ob + j * 2 + 1, none⟩ = some (.int .i64 (vPh g j))) := fun W' x => by
      have y := (e1.drew).trans x
      exact ⟨(t0.ext ((Ext.refl W).drew.trans x)).one', (t1.ext ((Ext.refl W).drew.trans x)).one', (t4.ext ((Ext.refl W).drew.trans x)).one', (r1.ext y).fst (some_v (l := l) (by rw [HG3.out]; omega)), (r1.ext y).snd (some_v (l := l) (by rw [HG3.out]; omega)), (r2.ext y).fst (some_v (l := g) (by rw [HG5.out]; omega)), (r2.ext y).snd (some_v (l := g) (by rw [HG5.out]; omega)), (r2.ext y).fst (some_v (l := g) (by rw [HG5.out]; omega)), (r2.ext y).snd (some_v (l := g) (by rw [HG5.out]; omega))⟩
    have HT2 : Hid (Ext w W.drew ∧ St W.drew w.heap.size #[.slice (some ⟨ga, oa, none⟩) n1 c1] 24 ∧ St W.drew b1 #[.slice (some ⟨gb, ob, none⟩) n2 c2] 24 ∧ St W.drew w2.heap.size #[.slice A5 pre.length c5] 24 ∧ W.drew.ownsRow (w2.heap.size + 1 + 1) 47 2 (.slice A5 pre.length c5) pre.length (pairs (grM l g (vals pre))) ∧ St W.drew (w2.heap.size + 1) #[.int .i64 (N'' : Int)] 3 ∧ St W.drew b2 #[.slice none 0 0] 24 ∧ St W.drew b3 #[.bool false] 4) := ⟨e1.drew, t0, t1, t4, ho, tB, u2, u3⟩
    have HKO : Hid (KeepsOthers W W.drew ∧ W.drew.heap = W.heap) := ⟨KeepsOthers.drew W, rfl⟩
    have HZ : Hid (W.heap.size = W.drew.heap.size) := rfl
    clear e1 t0 t1 t4 ho tB u2 u3
    gi_wp2
    refine round_made 13 (fun W' => W'.cell? ⟨w.heap.size, 0, none⟩ = some (.slice (some ⟨ga, oa, none⟩) n1 c1) ∧ W'.cell? ⟨b1, 0, none⟩ = some (.slice (some ⟨gb, ob, none⟩) n2 c2) ∧ W'.cell? ⟨w2.heap.size, 0, none⟩ = some (.slice A5 pre.length c5) ∧ W'.cell? ⟨ga, oa + pre.length * 2, none⟩ = some (.int .i64 (vAm l pre.length)) ∧ W'.cell? ⟨ga, oa + pre.length * 2 + 1, none⟩ = some (.int .i64 (vPh l pre.length)) ∧ W'.cell? ⟨gb, ob + i * 2, none⟩ = some (.int .i64 (vAm g i)) ∧ W'.cell? ⟨gb, ob + i * 2 + 1, none⟩ = some (.int .i64 (vPh g i)) ∧ W'.cell? ⟨gb, ob + j * 2, none⟩ = some (.int .i64 (vAm g j)) ∧ W'.cell? ⟨gb, ob + j * 2 + 1, none⟩ = some (.int .i64 (vPh g j))) (.cells #[.int .i64 0, .int .i64 0] 47) 11 12 13 (by kernel_rfl) (by kernel_rfl) (by kernel_rfl) (by kernel_rfl) (by kernel_rfl) (by kernel_rfl) (by kernel_rfl) (by kernel_rfl) rfl rfl rfl (makes_vis _ _ rfl rfl rfl) (makes_vis _ _ rfl rfl rfl) (makes_vis _ _ rfl rfl rfl) (by decide) (by decide) (by decide) (by rintro ⟨a, w, h⟩; exact h) (fun _ _ _ _ _ h => h) (HS.out _ (Ext.refl _)) (HS.out _ ((Ext.refl _).alloc _)) (HS.out _ (((Ext.refl _).alloc _).alloc _)) (HS.out _ ((((Ext.refl _).alloc _).alloc _).alloc _)) ?_
    simp only [List.take_succ_cons, List.take_zero, List.drop_succ_cons, List.drop_zero]
    iterate 13
      apply headG_step
      · rfl
      · intro w' hSw
        (try dsimp only at hSw)
        go_simp
        all_goals exact rfl
      simp only [Act.put, List.setIfInBounds_toArray, List.set_cons_zero, List.set_cons_succ]
    intro p q r ap
    rw [HZ.out] at ap
    obtain ⟨sp, sq, sr⟩ := st_three (w := W.drew) (vs := #[.int .i64 0, .int .i64 0]) (T := 47) ap
    have x3 : Ext W.drew (((W.drew.alloc (.cells #[.int .i64 0, .int .i64 0] 47)).alloc (.cells #[.int .i64 0, .int .i64 0] 47)).alloc (.cells #[.int .i64 0, .int .i64 0] 47)) := (((Ext.refl _).alloc _).alloc _).alloc _
    obtain ⟨npq, npr, nqr⟩ := ap.ne
    obtain ⟨gp, gq, gr⟩ := ap.ge
    clear ap
    simp only [Act.put, ptr, List.setIfInBounds_toArray, List.set_cons_zero, List.set_cons_succ]
    generalize (((W.drew.alloc (.cells #[.int .i64 0, .int .i64 0] 47)).alloc (.cells #[.int .i64 0, .int .i64 0] 47)).alloc (.cells #[.int .i64 0, .int .i64 0] 47)) = W3 at *
    refine tail_cons fun K hK => ?_
    have a0 := sp.cell0
    have a1 := sp.cell1
    have f0 := sp.frozen 0
    have f1 := sp.frozen 1
    go_simp
    have x4 := x3.put2 gp (.int .i64 (vAm l pre.length)) (.int .i64 (vPh l pre.length))
    refine hK _ _ (HS.out _ x4) ?_
    have tp := sp.put2 (.int .i64 (vAm l pre.length)) (.int .i64 (vPh l pre.length))
    have tq := (sq.far (p := ⟨p, 0, none⟩) (Ne.symm npq) (.int .i64 (vAm l pre.length))).far (p := ⟨p, 1, none⟩) (Ne.symm npq) (.int .i64 (vPh l pre.length))
    have tr := (sr.far (p := ⟨p, 0, none⟩) (Ne.symm npr) (.int .i64 (vAm l pre.length))).far (p := ⟨p, 1, none⟩) (Ne.symm npr) (.int .i64 (vPh l pre.length))
    clear hK K a0 a1 f0 f1 sp sq sr x3
    generalize ((W3.setCell ⟨p, 0, none⟩ (.int .i64 (vAm l pre.length))).setCell ⟨p, 1, none⟩ (.int .i64 (vPh l pre.length))) = W4 at *
    refine tail_cons fun K hK => ?_
    have a0 := tq.cell0
    have a1 := tq.cell1
    have f0 := tq.frozen 0
    have f1 := tq.frozen 1
    go_simp
    have x5 := x4.put2 gq (.int .i64 (vAm g i)) (.int .i64 (vPh g i))
    refine hK _ _ (HS.out _ x5) ?_
    have uq := tq.put2 (.int .i64 (vAm g i)) (.int .i64 (vPh g i))
    have up := (tp.far (p := ⟨q, 0, none⟩) npq (.int .i64 (vAm g i))).far (p := ⟨q, 1, none⟩) npq (.int .i64 (vPh g i))
    have ur := (tr.far (p := ⟨q, 0, none⟩) (Ne.symm nqr) (.int .i64 (vAm g i))).far (p := ⟨q, 1, none⟩) (Ne.symm nqr) (.int .i64 (vPh g i))
    clear hK K a0 a1 f0 f1 tp tq tr x4
    generalize ((W4.setCell ⟨q, 0, none⟩ (.int .i64 (vAm g i))).setCell ⟨q, 1, none⟩ (.int .i64 (vPh g i))) = W5 at *
    refine tail_last fun K hK => ?_
    have a0 := ur.cell0
    have a1 := ur.cell1
    have f0 := ur.frozen 0
    have f1 := ur.frozen 1
    go_simp
    have x6 := x5.put2 gr (.int .i64 (vAm g j)) (.int .i64 (vPh g j))
    refine hK _ _ ?_
    have vr := ur.put2 (.int .i64 (vAm g j)) (.int .i64 (vPh g j))
    have vp := (up.far (p := ⟨r, 0, none⟩) npr (.int .i64 (vAm g j))).far (p := ⟨r, 1, none⟩) npr (.int .i64 (vPh g j))
    have vq := (uq.far (p := ⟨r, 0, none⟩) nqr (.int .i64 (vAm g j))).far (p := ⟨r, 1, none⟩) nqr (.int .i64 (vPh g j))
    clear hK K a0 a1 f0 f1 up uq ur x5
    generalize ((W5.setCell ⟨r, 0, none⟩ (.int .i64 (vAm g j))).setCell ⟨r, 1, none⟩ (.int .i64 (vPh g j))) = W6 at *
    have HT6 : Hid (Ext w W6 ∧ St W6 w.heap.size #[.slice (some ⟨ga, oa, none⟩) n1 c1] 24 ∧ St W6 b1 #[.slice (some ⟨gb, ob, none⟩) n2 c2] 24 ∧ St W6 w2.heap.size #[.slice A5 pre.length c5] 24 ∧ W6.ownsRow (w2.heap.size + 1 + 1) 47 2 (.slice A5 pre.length c5) pre.length (pairs (grM l g (vals pre))) ∧ St W6 (w2.heap.size + 1) #[.int .i64 (N'' : Int)] 3 ∧ St W6 b2 #[.slice none 0 0] 24 ∧ St W6 b3 #[.bool false] 4) := ⟨HT2.out.1.trans x6, HT2.out.2.1.ext x6, HT2.out.2.2.1.ext x6, HT2.out.2.2.2.1.ext x6, own_ext HT2.out.2.2.2.2.1 x6, HT2.out.2.2.2.2.2.1.ext x6, HT2.out.2.2.2.2.2.2.1.ext x6, HT2.out.2.2.2.2.2.2.2.ext x6⟩
    have HKO6 : Hid (KeepsOthers W W6 ∧ W6.heap[w2.heap.size + 1]? = W.heap[w2.heap.size + 1]?) := ⟨HKO.out.1.trans x6.keeps, (x6.block HT2.out.2.2.2.2.2.1.lt).trans (by rw [HKO.out.2])⟩
    have HP3 := Lib.hid (And.intro vp (And.intro vq vr))
    have HPO : Hid (∀ g' : Nat, (Value.slice A5 pre.length c5).ownBlock = some g' → g' ≠ p ∧ g' ≠ q ∧ g' ≠ r) := fun g' h => by have := own_lt HT2.out.2.2.2.2.1 g' h; omega
    clear HT2 HKO HS HZ x6 vp vq vr gp gq gr npq npr nqr
    obtain ⟨m1, m2⟩ := mul_in rg2.1 rg2.2.1 rg3.1 rg3.2.1
    have f1 : IntKind.i64.wrap (vAm g i * vAm g j) = vAm g i * vAm g j := IntWalk.i64_in _ (by omega)
    have hpz : (vAm g i * vAm g j == 0) = false := by simp only [beq_eq_false_iff_ne, ne_eq]; omega
    have hpz2 : ¬ vAm g i * vAm g j = 0 := by omega
    have hqr := Int.ediv_nonneg (show 0 ≤ vAm l pre.length by omega) (show 0 ≤ vAm g i * vAm g j by omega)
    have hqs := Int.ediv_le_self (vAm g i * vAm g j) (show 0 ≤ vAm l pre.length by omega)
    have t1 : (vAm l pre.length).tmod (vAm g i * vAm g j) = vAm l pre.length % (vAm g i * vAm g j) := Int.tmod_eq_emod_of_nonneg (by omega)
    have t2 : (vAm l pre.length).tdiv (vAm g i * vAm g j) = vAm l pre.length / (vAm g i * vAm g j) := Int.tdiv_eq_ediv_of_nonneg (by omega)
    have t3 : IntKind.i64.wrap (vAm l pre.length / (vAm g i * vAm g j)) = vAm l pre.length / (vAm g i * vAm g j) := IntWalk.i64_in _ (by omega)
    have j1 := HP3.out.1.cell0
    have j2 := HP3.out.2.1.cell0
    have j3 := HP3.out.2.2.cell0
    have HBADX : Hid (¬ goesB l g pre.length (i, j) → ∃ k p, (vals (pre ++ [(⟨(i, j), hij0, hjN0⟩ : BL N'')]))[k]? = some p ∧ ¬ goesB l g k p) := fun h => ⟨pre.length, (i, j), by rw [vals_snoc, ← vals_length pre, List.getElem?_concat_length], h⟩
    by_cases g0 : vAm l pre.length % (vAm g i * vAm g j) = 0
    case neg =>
      have g0' : (vAm l pre.length % (vAm g i * vAm g j) != 0) = true := by simpa using g0
      have HNO := Lib.hid (HBADX.out g0)
      have c2 := HT6.out.2.2.2.2.2.2.1.one'
      have c3 := HT6.out.2.2.2.2.2.2.2.one'
      have f2 := HT6.out.2.2.2.2.2.2.1.frozen 0
      have f3 := HT6.out.2.2.2.2.2.2.2.frozen 0
      have hne : b2 ≠ b3 := by omega
      have c4 := (HT6.out.2.2.2.2.2.2.2.far (p := ⟨b2, 0, none⟩) (Ne.symm hne) (.slice none 0 0)).one'
      have f4 := (HT6.out.2.2.2.2.2.2.2.far (p := ⟨b2, 0, none⟩) (Ne.symm hne) (.slice none 0 0)).frozen 0
      clear g0 HBADX
      gi_wp2
      exact ⟨HKO6.out.1.trans ((KeepsOthers.setCell _ _ _).trans (KeepsOthers.setCell _ _ _)), rfl, HNO.out⟩
    have g0' : (vAm l pre.length % (vAm g i * vAm g j) != 0) = false := by simpa using g0
    clear HBADX g0
    gi_wp2
    have HS8 : Hid (∀ W', Ext W6.drew W' → W'.cell? ⟨w2.heap.size, 0, none⟩ = some (.slice A5 pre.length c5) ∧ W'.cell? ⟨p, 0, none⟩ = some (.int .i64 (vAm l pre.length)) ∧ W'.cell? ⟨p, 1, none⟩ = some (.int .i64 (vPh l pre.length)) ∧ W'.cell? ⟨q, 0, none⟩ = some (.int .i64 (vAm g i)) ∧ W'.cell? ⟨q, 1, none⟩ = some (.int .i64 (vPh g i)) ∧ W'.cell? ⟨r, 0, none⟩ = some (.int .i64 (vAm g j)) ∧ W'.cell? ⟨r, 1, none⟩ = some (.int .i64 (vPh g j))) := fun W' x => by
      have y : Ext W6 W' := (Ext.refl W6).drew.trans x
      exact ⟨(HT6.out.2.2.2.1.ext y).one', (HP3.out.1.ext y).cell0, (HP3.out.1.ext y).cell1, (HP3.out.2.1.ext y).cell0, (HP3.out.2.1.ext y).cell1, (HP3.out.2.2.ext y).cell0, (HP3.out.2.2.ext y).cell1⟩
    have f3 : IntKind.i64.wrap (vPh l pre.length + vPh g i) = vPh l pre.length + vPh g i := IntWalk.i64_in _ (by omega)
    have f4 : IntKind.i64.wrap (vPh l pre.length + vPh g i - vPh g j) = vPh l pre.length + vPh g i - vPh g j := IntWalk.i64_in _ (by omega)
    have HSN := Lib.hid (grM_snoc l g pre ⟨(i, j), hij0, hjN0⟩)
    have hnb := nb_le N'' (by omega)
    clear m1 m2 rg1 rg2 rg3 j1 j2 j3
    refine round_held 17 (fun W' => W'.cell? ⟨w2.heap.size, 0, none⟩ = some (.slice A5 pre.length c5) ∧ W'.cell? ⟨p, 0, none⟩ = some (.int .i64 (vAm l pre.length)) ∧ W'.cell? ⟨p, 1, none⟩ = some (.int .i64 (vPh l pre.length)) ∧ W'.cell? ⟨q, 0, none⟩ = some (.int .i64 (vAm g i)) ∧ W'.cell? ⟨q, 1, none⟩ = some (.int .i64 (vPh g i)) ∧ W'.cell? ⟨r, 0, none⟩ = some (.int .i64 (vAm g j)) ∧ W'.cell? ⟨r, 1, none⟩ = some (.int .i64 (vPh g j))) (by kernel_rfl) (by kernel_rfl) (by kernel_rfl) (by kernel_rfl) (by kernel_rfl) (by kernel_rfl) (by kernel_rfl) (by rintro ⟨a, w, h⟩; exact h) (fun _ _ _ _ _ h => h) (HS8.out _ (Ext.refl _)) ?_
    simp only [List.take_succ_cons, List.take_zero, List.drop_succ_cons, List.drop_zero]
    iterate 17
      apply headG_step
      · rfl
      · intro w' hSw
        (try dsimp only at hSw)
        go_simp
        all_goals exact rfl
      simp only [Act.put, List.setIfInBounds_toArray, List.set_cons_zero, List.set_cons_succ]
    change TailG _ _ _ _ _ _
    refine tail_cons fun K hK => ?_
    go_simp
    refine (phaseOf_any _ _).mono ?_
    rintro e w' ⟨rfl, rfl⟩
    refine hK _ _ (HS8.out _ (Ext.refl _)) ?_
    clear hK K f1 f3 f4 t1 t2 t3
    have hd6 : Ext W6 W6.drew := (Ext.refl _).drew
    have HT7 : Hid (Ext w W6.drew ∧ St W6.drew w.heap.size #[.slice (some ⟨ga, oa, none⟩) n1 c1] 24 ∧ St W6.drew b1 #[.slice (some ⟨gb, ob, none⟩) n2 c2] 24 ∧ St W6.drew w2.heap.size #[.slice A5 pre.length c5] 24 ∧ W6.drew.ownsRow (w2.heap.size + 1 + 1) 47 2 (.slice A5 pre.length c5) pre.length (pairs (grM l g (vals pre))) ∧ St W6.drew (w2.heap.size + 1) #[.int .i64 (N'' : Int)] 3 ∧ (St W6.drew b2 #[.slice none 0 0] 24 ∧ St W6.drew b3 #[.bool false] 4) ∧ (St W6.drew p #[.int .i64 (vAm l pre.length), .int .i64 (vPh l pre.length)] 47 ∧ St W6.drew q #[.int .i64 (vAm g i), .int .i64 (vPh g i)] 47 ∧ St W6.drew r #[.int .i64 (vAm g j), .int .i64 (vPh g j)] 47)) := ⟨HT6.out.1.drew, HT6.out.2.1, HT6.out.2.2.1, HT6.out.2.2.2.1, HT6.out.2.2.2.2.1, HT6.out.2.2.2.2.2.1, HT6.out.2.2.2.2.2.2, HP3.out⟩
    have HKO7 : Hid (KeepsOthers W W6.drew ∧ W6.drew.heap[w2.heap.size + 1]? = W.heap[w2.heap.size + 1]?) := ⟨HKO6.out.1.trans (KeepsOthers.drew W6), HKO6.out.2⟩
    clear HT6 HP3 HKO6 hd6
    generalize W6.drew = W7 at *
    refine tail_cons fun K hK => ?_
    go_simp
    refine hK _ _ (HS8.out _ (Ext.refl _)) ?_
    clear hK K
    refine tail_cons fun K hK => ?_
    go_simp
    refine hK _ _ (HS8.out _ ((Ext.refl _).alloc _)) ?_
    clear hK K
    obtain ⟨y1, y2, y3, y4, uo, yB, ⟨z2, z3⟩, yp, yq, yr⟩ := HT7.out
    have hw7 := yB.lt
    refine tail_cons fun K hK => ?_
    refine wp_append2W (w := W7) _ _ _ rfl (w2.heap.size + 1 + 1) 47 16 Vis.info Try.underlying24 _ pre.length _ (by rfl) uo (vAm l pre.length / (vAm g i * vAm g j)) ((vPh l pre.length + vPh g i - vPh g j) % 360) _ (by rfl) rfl (by omega) (by omega) (by omega) ?_
    intro v' W8 ho3 hg3 hat3
    obtain ⟨A8, c8, hv8, _⟩ := Sl.of_own ho3
    subst hv8
    have u1 := y2.grown uo hg3 (by omega)
    have u2 := y3.grown uo hg3 (by omega)
    have u4 := y4.grown uo hg3 (by omega)
    have uB := yB.grown uo hg3 (by omega)
    have v2 := z2.grown uo hg3 (by omega)
    have v3 := z3.grown uo hg3 (by omega)
    have ue := y1.grownV uo hg3 (by omega)
    have up : St W8 p _ _ := (hg3.block p yp.lt fun e => (HPO.out p e.symm).1 rfl).trans yp
    have uq : St W8 q _ _ := (hg3.block q yq.lt fun e => (HPO.out q e.symm).2.1 rfl).trans yq
    have ur : St W8 r _ _ := (hg3.block r yr.lt fun e => (HPO.out r e.symm).2.2 rfl).trans yr
    have HKO8 : Hid (KeepsOthers W W8 ∧ W8.heap[w2.heap.size + 1]? = W.heap[w2.heap.size + 1]?) := ⟨HKO7.out.1.trans (keeps_grown uo hg3), (hg3.block _ yB.lt fun e => by have := own_base uo _ e.symm; omega).trans HKO7.out.2⟩
    refine hK _ _ ⟨u4.one', up.cell0, up.cell1, uq.cell0, uq.cell1, ur.cell0, ur.cell1⟩ ?_
    have hsn : grM l g (vals pre) ++ [(vAm l pre.length / (vAm g i * vAm g j), (vPh l pre.length + vPh g i - vPh g j) % 360)] = grM l g (vals (pre ++ [⟨(i, j), hij0, hjN0⟩])) := HSN.out.symm
    rw [hsn] at ho3
    have HX := Lib.hid (And.intro u1 (And.intro u2 (And.intro u4 (And.intro uB (And.intro ue (And.intro ho3 (And.intro v2 v3)))))))
    have j4 := u4.one'
    have j4f := u4.frozen 0
    clear hK K y1 y2 y3 y4 uo yB z2 z3 v2 v3 yp yq yr hg3 hat3 u1 u2 u4 uB ue up uq ur ho3 hsn HS8 HT7 HKO7
    refine tail_last fun K hK => ?_
    go_simp
    refine hK _ _ ?_
    clear hK K j4 j4f
    obtain ⟨x1, x2, x4, xB, xe, ho3, v2, v3⟩ := HX.out
    gi_wp2
    have tn := x4.set 0 (.slice A8 (pre.length + 1) c8)
    have on := own_far ho3 (p := ⟨w2.heap.size, 0, none⟩) (own_low ho3 (g := w2.heap.size) (by omega)) (.slice A8 (pre.length + 1) c8)
    have hle : pre.length + 1 = (pre ++ [(⟨(i, j), hij0, hjN0⟩ : BL N'')]).length := by rw [List.length_append]; rfl
    refine ⟨HKO8.out.1.trans (KeepsOthers.setCell _ _ _), (Below.heap_setCell W8 ⟨w2.heap.size, 0, none⟩ _ _ (by show _ ≠ w2.heap.size; omega)).trans HKO8.out.2, ⟨xe.setCell (p := ⟨w2.heap.size, 0, none⟩) hsz _, x1.far (p := ⟨w2.heap.size, 0, none⟩) (by show _ ≠ w2.heap.size; omega) _⟩, ⟨x2.far (p := ⟨w2.heap.size, 0, none⟩) (by show _ ≠ w2.heap.size; omega) _, _, tn, by rw [← hle]; exact on⟩, xB.far (p := ⟨w2.heap.size, 0, none⟩) (by show _ ≠ w2.heap.size; omega) _, v2.far (p := ⟨w2.heap.size, 0, none⟩) (by show _ ≠ w2.heap.size; omega) _, v3.far (p := ⟨w2.heap.size, 0, none⟩) (by show _ ≠ w2.heap.size; omega) _⟩
  case done =>
    rintro D xs W hD rfl ⟨⟨e1, t0⟩, ⟨t1, v, t4, ho⟩, tB, u2, u3⟩ hK
    obtain ⟨A5, c5, hv5, s5⟩ := Sl.of_own ho
    subst hv5
    have j4 := t4.one'
    rw [vals_all, allS_length] at s5
    rw [allS_length] at j4
    have hne : b2 ≠ b3 := by omega
    have c3 := u2.one'
    have c4 := u3.one'
    have f3 := u2.frozen 0
    have f4 := u3.frozen 0
    have z3 := (u2.set 0 (.slice A5 (nb N'') c5)).far (p := ⟨b3, 0, none⟩) hne (.bool true)
    have c5' := (u3.far (p := ⟨b2, 0, none⟩) (Ne.symm hne) (.slice A5 (nb N'') c5)).one'
    have f5 := (u3.far (p := ⟨b2, 0, none⟩) (Ne.symm hne) (.slice A5 (nb N'') c5)).frozen 0
    have z4 := (u3.far (p := ⟨b2, 0, none⟩) (Ne.symm hne) (.slice A5 (nb N'') c5)).set 0 (.bool true)
    have zs := (s5.far (p := ⟨b2, 0, none⟩) (.inl (by show b2 < _; omega)) (.slice A5 (nb N'') c5)).far (p := ⟨b3, 0, none⟩) (.inl (by show b3 < _; omega)) (.bool true)
    have ze := (e1.setCell (p := ⟨b2, 0, none⟩) (by show _ ≤ b2; omega) (.slice A5 (nb N'') c5)).setCell (p := ⟨b3, 0, none⟩) (by show _ ≤ b3; omega) (.bool true)
    have hK2 : ((W.setCell ⟨b2, 0, none⟩ (.slice A5 (nb N'') c5)).setCell ⟨b3, 0, none⟩ (.bool true)).heap[D]? = some (.deferred (some [])) := by
      have hD3 : D ≠ b2 := fun e => by subst e; have h : W.heap[D]? = some (.cells _ _ (0, 0)) := u2; rw [hK] at h; cases h
      have hD4 : D ≠ b3 := fun e => by subst e; have h : W.heap[D]? = some (.cells _ _ (0, 0)) := u3; rw [hK] at h; cases h
      exact (Below.heap_setCell _ ⟨b3, 0, none⟩ _ _ hD4).trans ((Below.heap_setCell _ ⟨b2, 0, none⟩ _ _ hD3).trans hK)
    have HZ := Lib.hid (And.intro ze (And.intro z3 (And.intro z4 (And.intro zs hK2))))
    clear hK e1 t0 t1 t4 tB u2 u3 ho z3 z4 zs ze hK2 s5
    go_wp2
    generalize ((W.setCell ⟨b2, 0, none⟩ (.slice A5 (nb N'') c5)).setCell ⟨b3, 0, none⟩ (.bool true)) = W9 at *
    obtain ⟨ze, z3, z4, zs, hK2⟩ := HZ.out
    have y3 := (z3.putObj (o := .deferred none) hK2).one'
    have y4 := (z4.putObj (o := .deferred none) hK2).one'
    refine marks_one (v := .tuple #[.slice A5 (nb N'') c5, .bool true]) rfl hK2 (by simp [results, Try.results19, go_sem, y3, y4]) ?_
    exact ⟨A5, c5, rfl, ((sl_putObj zs hK2).full).mono (by omega) (Nat.le_refl _), ze.putObj (D := D) (by omega) (.deferred none)⟩
  case stop =>
    rintro D c pre W _ hsp ⟨rfl, k, p, hk, hno⟩ _
    exact absurd (HDIV.out k p (vals_take _ hsp hk)) hno
end Go.Proofs.Ytpjglnmnfmibnaa
