/-
  Contract of FlagLinked of the program.
-/
import Derived.Test.YtpjglnmnfmibnabHeldS
import Derived.Test.YtpjglnmnfmibnabLinkP
import Derived.Test.YtpjglnmnfmibnabFlagS
namespace Go.Proofs.Ytpjglnmnfmibnab
open Go.RowKit Go.Shelf
attribute [local go_sem] Oper.semAt_some
set_option linter.unusedSimpArgs false
set_option linter.unusedVariables false

def aI (l : List Int) : Array Value := (ints l).toArray
theorem aI_at {l : List Int} {k : Nat} {x : Int} (h : l[k]? = some x) : (aI l)[k]? = some (.int .i64 x) := by
  unfold aI
  rw [List.getElem?_toArray]
  exact ints_at' h
theorem aI_set (l : List Int) (k : Nat) (x : Int) : (aI l).setIfInBounds k (.int .i64 x) = aI (l.set k x) := by
  simp [aI, ints]
theorem aI_made (n : Nat) : madeCells #[.int .i64 0] n = aI (List.replicate n 0) := by
  apply Array.toList_inj.1
  rw [toList_madeCells_one]
  simp [aI, ints]
/-- the antennas so far given the number of themselves -/
def idL (N k : Nat) : List Int := (List.range N).map fun v => if v < k then (v : Int) else 0
theorem idL_length (N k : Nat) : (idL N k).length = N := by simp [idL]
theorem idL_at {N k v : Nat} (h : v < N) : (idL N k)[v]? = some (if v < k then (v : Int) else 0) := by simp [idL, h]
theorem idL_zero (N : Nat) : idL N 0 = List.replicate N 0 := by
  apply List.ext_getElem?
  intro v
  by_cases h : v < N
  · rw [idL_at h]; simp [h]
  · rw [List.getElem?_eq_none (by rw [idL_length]; omega), List.getElem?_eq_none (by simp; omega)]
theorem idL_succ {N k : Nat} (h : k < N) : (idL N k).set k (k : Int) = idL N (k + 1) := by
  apply List.ext_getElem?
  intro v
  by_cases hv : v < N
  · by_cases e : v = k
    · subst e
      rw [List.getElem?_set_self (by rw [idL_length]; exact h), idL_at hv, if_pos (by omega)]
    · rw [List.getElem?_set_ne (Ne.symm e), idL_at hv, idL_at hv]
      by_cases h2 : v < k
      · rw [if_pos h2, if_pos (by omega)]
      · rw [if_neg h2, if_neg (by omega)]
  · rw [List.getElem?_eq_none (by rw [List.length_set, idL_length]; omega), List.getElem?_eq_none (by rw [idL_length]; omega)]
theorem idL_end (N : Nat) (fl : List Bool) : idL N N = flL N fl [] := by
  apply List.ext_getElem?
  intro v
  by_cases h : v < N
  · rw [idL_at h, flL_at h, if_pos h]; rfl
  · rw [List.getElem?_eq_none (by rw [idL_length]; omega), List.getElem?_eq_none (by rw [flL_length]; omega)]
/-- two groups joined, the first k antennas -/
def jnL (N : Nat) (f : Nat → Nat) (i j k : Nat) : List Int := (List.range N).map fun v => if v < k then ((fJ f i j v : Nat) : Int) else ((f v : Nat) : Int)
theorem jnL_length (N : Nat) (f : Nat → Nat) (i j k : Nat) : (jnL N f i j k).length = N := by simp [jnL]
theorem jnL_at {N : Nat} {f : Nat → Nat} {i j k v : Nat} (h : v < N) : (jnL N f i j k)[v]? = some (if v < k then ((fJ f i j v : Nat) : Int) else ((f v : Nat) : Int)) := by simp [jnL, h]
theorem jnL_zero (N : Nat) (fl : List Bool) (ps : List (Nat × Nat)) (i j : Nat) : jnL N (flF N fl ps) i j 0 = flL N fl ps := by
  apply List.ext_getElem?
  intro v
  by_cases h : v < N
  · rw [jnL_at h, flL_at h, if_neg (by omega)]
  · rw [List.getElem?_eq_none (by rw [jnL_length]; omega), List.getElem?_eq_none (by rw [flL_length]; omega)]
theorem jnL_end (N : Nat) (fl : List Bool) (ps : List (Nat × Nat)) (p : Nat × Nat) (hb : bAt0 fl (bIx N p.1 p.2) = false) : jnL N (flF N fl ps) p.1 p.2 N = flL N fl (ps ++ [p]) := by
  apply List.ext_getElem?
  intro v
  by_cases h : v < N
  · rw [jnL_at h, flL_at h, if_pos h, flF_snoc, hb]; rfl
  · rw [List.getElem?_eq_none (by rw [jnL_length]; omega), List.getElem?_eq_none (by rw [flL_length]; omega)]
theorem jnL_set {N : Nat} {f : Nat → Nat} {i j k : Nat} (h : k < N) (e : f k = max (f i) (f j)) : (jnL N f i j k).set k ((min (f i) (f j) : Nat) : Int) = jnL N f i j (k + 1) := by
  apply List.ext_getElem?
  intro v
  by_cases hv : v < N
  · by_cases e2 : v = k
    · subst e2
      rw [List.getElem?_set_self (by rw [jnL_length]; exact h), jnL_at hv, if_pos (by omega)]
      unfold fJ
      rw [if_pos e]
    · rw [List.getElem?_set_ne (Ne.symm e2), jnL_at hv, jnL_at hv]
      by_cases h2 : v < k
      · rw [if_pos h2, if_pos (by omega)]
      · rw [if_neg h2, if_neg (by omega)]
  · rw [List.getElem?_eq_none (by rw [List.length_set, jnL_length]; omega), List.getElem?_eq_none (by rw [jnL_length]; omega)]
theorem jnL_keep {N : Nat} {f : Nat → Nat} {i j k : Nat} (h : k < N) (e : f k ≠ max (f i) (f j)) : jnL N f i j k = jnL N f i j (k + 1) := by
  apply List.ext_getElem?
  intro v
  by_cases hv : v < N
  · rw [jnL_at hv, jnL_at hv]
    by_cases e2 : v = k
    · subst e2
      rw [if_neg (by omega), if_pos (by omega)]
      unfold fJ
      rw [if_neg e]
    · by_cases h2 : v < k
      · rw [if_pos h2, if_pos (by omega)]
      · rw [if_neg h2, if_neg (by omega)]
  · rw [List.getElem?_eq_none (by rw [jnL_length]; omega), List.getElem?_eq_none (by rw [jnL_length]; omega)]
/-- in the loop over all baselines -/
def LinkR (N : Nat) (fl : List Bool) (w : World) (v1 : Value) (g B : Nat) (pre : List (BL N)) (W : World) : Prop :=
  (Ext w W ∧ St W w.heap.size #[.int .i64 (N : Int)] 3) ∧ (St W (w.heap.size + 1) #[v1] 35 ∧ St W (g + 1) #[.slice (some ⟨g, 0, none⟩) N N] 38) ∧ (St W g (aI (flL N fl (vals pre))) 3 ∧ St W B #[.int .i64 (N : Int)] 3)
theorem linkR_own (N : Nat) (fl : List Bool) (w : World) (v1 : Value) (g B B0 : Nat) (h : w.heap.size ≤ B0) : OwnFrom B0 (LinkR N fl w v1 g B) :=
  ((own_extW h).and (own_st _)).and (((own_st _).and (own_st _)).and ((own_st _).and (own_st _)))
theorem flagLinked_bad (N : Nat) (A3 : Option Addr) (n3 c3 : Nat) (w : World) (h1 : 2 ≤ N) (h2 : N ≤ 7) (hb : n3 ≠ nb N) :
    Calls Try.prog 20 #[.int .i64 (N : Int), .slice A3 n3 c3] w fun e w' => e = .returned (.slice none 0 0) ∧ Ext w w' := by
  have HMN := Lib.hid (fun (W : World) => isMany_any (N : Int) W)
  have HBM := Lib.hid (fun (W : World) => baseMany_any (N : Int) W)
  rw [mn_nat h1 h2] at HMN
  rw [nbI_nat h1 h2] at HBM
  have hb' : ((n3 : Int) != (nb N : Int)) = true := by simp; omega
  have s0 := (St.new w #[.int .i64 (N : Int)] 3).ext ((Ext.refl _).alloc (.cells #[.slice A3 n3 c3] 35))
  have s1 := St.new (w.alloc (.cells #[.int .i64 (N : Int)] 3)) #[.slice A3 n3 c3] 35
  rw [World.size_alloc] at s1
  have k0 := s0.one'
  have k1 := s1.one'
  refine (callsIn_wide (n := 10)).1 ?_
  refine callsIn_of_wp_marks Try.func20 rfl trivial ?_ rfl
  refine wpIn_wide.2 ?_
  simp only [Try.ntmps20, List.size_toArray, List.length_cons, List.length_nil, Nat.reduceAdd, Nat.reduceSub, Array.replicate_succ, Array.replicate_zero, List.push_toArray, List.append_toArray, List.nil_append, List.cons_append]
  go_wp2
  go_quiet (first | (go_at_call 48; exact quiet_same (HMN.out _)) | (go_at_call 40; exact quiet_same (HBM.out _)))
  go_wp2
  refine marks_ret rfl (results_tmp rfl _ _ _) ?_
  exact ⟨rfl, (((Ext.refl w).alloc _).alloc _).drewN nq⟩
set_option maxRecDepth 100000 in
set_option maxHeartbeats 4000000 in
theorem flagLinked_any (N : Nat) (A3 : Option Addr) (n3 c3 : Nat) (fl : List Bool) (w : World) (h1 : 2 ≤ N) (h2 : N ≤ 7) (hf : fl.length = n3) (hb : n3 = nb N) (r3 : Rd w w.heap.size A3 n3 c3 (bools fl)) :
    Calls Try.prog 20 #[.int .i64 (N : Int), .slice A3 n3 c3] w (RetS w 3 N (ints (flL N fl (bp N)))) := by
  have HMN := Lib.hid (fun (W : World) => isMany_any (N : Int) W)
  have HBM := Lib.hid (fun (W : World) => baseMany_any (N : Int) W)
  rw [mn_nat h1 h2] at HMN
  rw [nbI_nat h1 h2] at HBM
  have HF := Lib.hid hf
  have HNB := Lib.hid hb
  have hb' : ((n3 : Int) != (nb N : Int)) = false := by simp; omega
  obtain ⟨gf, of, rfl⟩ := r3.addr (by rw [bools_length, hf, hb]; have := nb_pos N (by omega) h1; omega)
  have s0 := (St.new w #[.int .i64 (N : Int)] 3).ext ((Ext.refl _).alloc (.cells #[.slice (some ⟨gf, of, none⟩) n3 c3] 35))
  have s1 := St.new (w.alloc (.cells #[.int .i64 (N : Int)] 3)) #[.slice (some ⟨gf, of, none⟩) n3 c3] 35
  rw [World.size_alloc] at s1
  have X : Ext w ((w.alloc (.cells #[.int .i64 (N : Int)] 3)).alloc (.cells #[.slice (some ⟨gf, of, none⟩) n3 c3] 35)) := ((Ext.refl w).alloc _).alloc _
  have k0 := s0.one'
  have k1 := s1.one'
  clear hf hb
  refine (callsIn_wide (n := 10)).1 ?_
  refine callsIn_of_wp_marks Try.func20 rfl trivial ?_ rfl
  refine wpIn_wide.2 ?_
  simp only [Try.ntmps20, List.size_toArray, List.length_cons, List.length_nil, Nat.reduceAdd, Nat.reduceSub, Array.replicate_succ, Array.replicate_zero, List.push_toArray, List.append_toArray, List.nil_append, List.cons_append]
  go_wp2
  go_quiet (first | (go_at_call 48; exact quiet_same (HMN.out _)) | (go_at_call 40; exact quiet_same (HBM.out _)))
  generalize hW : ((w.alloc (.cells #[.int .i64 (N : Int)] 3)).alloc (.cells #[.slice (some ⟨gf, of, none⟩) n3 c3] 35)).drewN nq = W1
  have X1 : Ext w W1 := by rw [← hW]; exact X.drewN nq
  have u0 : St W1 w.heap.size #[.int .i64 (N : Int)] 3 := by rw [← hW]; exact s0
  have u1 : St W1 (w.heap.size + 1) #[.slice (some ⟨gf, of, none⟩) n3 c3] 35 := by rw [← hW]; exact s1
  clear hW s0 s1 X k0 k1
  have k0 := u0.one'
  have k1 := u1.one'
  have hmk := makeIntsN N (by omega)
  have hsz1 := u1.lt
  have zW1 := X1.size
  have y1 : Ext W1 (W1.alloc (.cells (madeCells #[.int .i64 0] N) 3)) := (Ext.refl W1).alloc _
  have y2 : Ext (W1.alloc (.cells (madeCells #[.int .i64 0] N) 3)) ((W1.alloc (.cells (madeCells #[.int .i64 0] N) 3)).alloc (.cells #[.slice (some ⟨W1.heap.size, 0, none⟩) N N] 38)) := (Ext.refl _).alloc _
  have v0 := (u0.ext y1).ext y2
  have v1 := (u1.ext y1).ext y2
  have v2 := (St.new W1 (madeCells #[.int .i64 0] N) 3).ext y2
  have v3 := St.new (W1.alloc (.cells (madeCells #[.int .i64 0] N) 3)) #[.slice (some ⟨W1.heap.size, 0, none⟩) N N] 38
  rw [World.size_alloc] at v3
  have X2 := (X1.trans y1).trans y2
  go_wp2_with fail
  generalize (W1.alloc (.cells (madeCells #[.int .i64 0] N) 3)).alloc (.cells #[.slice (some ⟨W1.heap.size, 0, none⟩) N N] 38) = W2 at *
  obtain ⟨g, hg⟩ : ∃ g, g = W1.heap.size := ⟨_, rfl⟩
  rw [← hg] at v2 v3 zW1 hsz1 ⊢
  rw [aI_made, ← idL_zero] at v2
  clear u0 u1 X1 y1 y2 k0 k1 hmk hg
  go_loopw [26] (fun i wr => ∃ k : Nat, k ≤ N ∧ i = .int .i64 (k : Int) ∧ Hid (St wr w.heap.size #[.int .i64 (N : Int)] 3 ∧ St wr (w.heap.size + 1) #[.slice (some ⟨gf, of, none⟩) n3 c3] 35) ∧ St wr (g + 1) #[.slice (some ⟨g, 0, none⟩) N N] 38 ∧ St wr g (aI (idL N k)) 3 ∧ Ext w wr) (fun i _ => N - (intOf i).toNat)
  case atStart => exact ⟨0, Nat.zero_le _, rfl, ⟨v0, v1⟩, v3, v2, X2⟩
  case round =>
    clear v0 v1 v2 v3 X2
    obtain ⟨k, hk, rfl, hu, v3, v2, he⟩ := hrel
    by_cases hlt : k < N
    · have h3 : (k : Int) < (N : Int) := by omega
      have h4 : (0 : Int) ≤ (k : Int) := by omega
      have j3 := v3.one'
      have j2 : wr.cell? ⟨g, k, none⟩ = some _ := (v2.cell k).trans (aI_at (idL_at hlt))
      have f2 := v2.frozen k
      have hidk : idL N (k + 1) = _ := (idL_succ hlt).symm
      have HN1 : Hid (St (wr.setCell ⟨g, k, none⟩ (.int .i64 (k : Int))) w.heap.size #[.int .i64 (N : Int)] 3 ∧ St (wr.setCell ⟨g, k, none⟩ (.int .i64 (k : Int))) (w.heap.size + 1) #[.slice (some ⟨gf, of, none⟩) n3 c3] 35) := ⟨hu.out.1.far (p := ⟨g, k, none⟩) (by show _ ≠ g; omega) _, hu.out.2.far (p := ⟨g, k, none⟩) (by show _ ≠ g; omega) _⟩
      have HN3 := Lib.hid (v3.far (p := ⟨g, k, none⟩) (by show _ ≠ g; omega) (.int .i64 (k : Int)))
      have HN2 := Lib.hid (v2.set k (.int .i64 (k : Int)))
      have HNE := Lib.hid (he.setCell (p := ⟨g, k, none⟩) (by show _ ≤ g; omega) (.int .i64 (k : Int)))
      rw [aI_set, idL_succ hlt] at HN2
      clear hidk hu v2 v3 he
      go_wp2
      go_roundw
      case rel => exact ⟨k + 1, by omega, by go_num, HN1.out, HN3.out, HN2.out, HNE.out⟩
      case measure => simp [intOf]; omega
    · have e : k = N := by omega
      rw [e, idL_end N fl] at v2
      rw [e]
      have hd : decide (N < N) = false := by simp
      clear e hlt hk
      have j0 := hu.out.1.one'
      go_wp2_with fail
      refine (bases_any _ _).mono ?_
      rintro e w' ⟨rfl, rfl⟩
      have sB := St.new wr #[.int .i64 (N : Int)] 3
      have x4 : Ext wr (wr.alloc (.cells #[.int .i64 (N : Int)] 3)) := (Ext.refl _).alloc _
      have hszr := he.size
      have hg1 := v3.lt
      have hI0 : LinkR N fl w (.slice (some ⟨gf, of, none⟩) n3 c3) g wr.heap.size [] (wr.alloc (.cells #[.int .i64 (N : Int)] 3)) := ⟨⟨he.trans x4, hu.out.1.ext x4⟩, ⟨hu.out.2.ext x4, v3.ext x4⟩, ⟨v2.ext x4, sB⟩⟩
      have hlt := sB.lt
      have hcB := sB.one'
      have hsz5 := (he.trans x4).size
      clear hu v2 v3 he sB x4 j0
      go_wp2_with fail
      generalize (wr.alloc (.cells #[.int .i64 (N : Int)] 3)) = w5 at *
      refine (wpIn_wide (n := 10)).1 ?_
      refine' wpIn_rangeFunc_ownF rfl (by omega) (gf := 71) (lb := #[.pointer (some ⟨wr.heap.size, 0, none⟩)]) rfl trivial (enters_of Try.func71 (by kernel_rfl) rfl)
        (bases1_stops N h1 (by omega) _ (by omega) wr.heap.size _ hcB hlt) kpB_t (kpB_b hlt) (Below.refl _ _) (fun _ => rfl)
        (LinkR N fl w (.slice (some ⟨gf, of, none⟩) n3 c3) g wr.heap.size) (fun _ _ _ => False)
        (linkR_own _ _ _ _ _ _ _ hsz5) (fun _ => own_false) hI0 _ ?assign ?body ?done ?stop
      case assign =>
        intro l x W K hK
        dsimp only [bEnc]
        gi_wp2
        exact hK
      case body =>
        rintro l0 pre ⟨⟨i, j⟩, hij0, hjN0⟩ W ⟨⟨e1, t0⟩, ⟨t1, t3⟩, ⟨t2, tB⟩⟩ _
        have hij : i < j := hij0
        have hjN : j < N := hjN0
        have hiN : i < N := by omega
        have hq := bIx_lt N (by omega) i hiN j hjN hij
        have hqA : bAt N i j = bIx N i j := if_neg (by omega)
        have HBA : Hid (∀ W, Calls Try.prog 43 #[.int .i64 (N : Int), .int .i64 (i : Int), .int .i64 (j : Int)] W fun e w' => e = .returned (.int .i64 ((bIx N i j : Nat) : Int)) ∧ W = w') := fun W => by
          have := baseAt_any N i j W (by omega) hiN hjN (by omega)
          rw [hqA] at this
          exact this
        have hq1 : bIx N i j < n3 := by rw [HNB.out]; exact hq
        have HSS : Hid (∀ W', Ext W.drew W' → W'.cell? ⟨w.heap.size, 0, none⟩ = some (.int .i64 (N : Int)) ∧ W'.cell? ⟨w.heap.size + 1, 0, none⟩ = some (.slice (some ⟨gf, of, none⟩) n3 c3) ∧ W'.cell? ⟨gf, of + bIx N i j, none⟩ = some (.bool (bAt0 fl (bIx N i j)))) := fun W' x => by
          have y : Ext W W' := (Ext.refl W).drew.trans x
          exact ⟨(t0.ext y).one', (t1.ext y).one', (r3.ext (e1.trans y)).cell (bools_at (some_bAt0 (by rw [HF.out]; exact hq1)))⟩
        have HT : Hid (LinkR N fl w (.slice (some ⟨gf, of, none⟩) n3 c3) g wr.heap.size pre W.drew) := ⟨⟨e1.drew, t0⟩, ⟨t1, t3⟩, ⟨t2, tB⟩⟩
        have HKO : Hid (KeepsOthers W W.drew ∧ W.drew.heap[wr.heap.size]? = W.heap[wr.heap.size]?) := ⟨KeepsOthers.drew W, rfl⟩
        have HSN := Lib.hid (flF_snoc N fl (vals pre) (i, j))
        have HVS : Hid (vals (pre ++ [(⟨(i, j), hij0, hjN0⟩ : BL N)]) = vals pre ++ [(i, j)]) := vals_snoc _ _
        obtain ⟨q, hqe⟩ : ∃ q, q = bIx N i j := ⟨_, rfl⟩
        have HQ := Lib.hid hqe
        rw [← hqe] at HBA hq hq1 HSS
        obtain ⟨bad, hbad⟩ : ∃ b, bAt0 fl q = b := ⟨_, rfl⟩
        rw [hbad] at HSS
        have HBD := Lib.hid hbad
        have hq1i : (q : Int) < (n3 : Int) := by omega
        have hq0i : (0 : Int) ≤ (q : Int) := by omega
        clear e1 t0 t1 t2 t3 tB hq hqA hqe hbad
        gi_wp2
        refine round_heldS 4 (fun W' => W'.cell? ⟨w.heap.size, 0, none⟩ = some (.int .i64 (N : Int)) ∧ W'.cell? ⟨w.heap.size + 1, 0, none⟩ = some (.slice (some ⟨gf, of, none⟩) n3 c3) ∧ W'.cell? ⟨gf, of + q, none⟩ = some (.bool bad)) (by kernel_rfl) (by kernel_rfl) (by kernel_rfl) (by kernel_rfl) (by kernel_rfl) (by kernel_rfl) (by rintro ⟨a, w, h⟩; exact h) (fun _ _ _ _ _ h => h) (HSS.out _ (Ext.refl _)) ?_
        simp only [List.take_succ_cons, List.take_zero, List.drop_succ_cons, List.drop_zero]
        iterate 4
          apply headG_step
          · rfl
          · intro w' hSw
            (try dsimp only at hSw)
            go_simp
            all_goals exact rfl
          simp only [Act.put, List.setIfInBounds_toArray, List.set_cons_zero, List.set_cons_succ]
        change TailS _ _ _ _ _ _
        have hcs := HSS.out _ (Ext.refl _)
        generalize W.drew = W2 at *
        refine tailS_cons fun K hK => ?_
        go_simp
        refine (HBA.out _).mono ?_
        rintro e w' ⟨rfl, rfl⟩
        refine hK _ _ hcs ?_
        clear hK K
        refine tailS_cons fun K hK => ?_
        go_simp
        refine hK _ _ hcs ?_
        clear hK K
        refine tailS_cons fun K hK => ?_
        go_simp
        refine hK _ _ hcs ?_
        clear hK K
        refine tailS_nil ?_
        cases bad
        case true =>
          have HFL : Hid (flL N fl (vals (pre ++ [(⟨(i, j), hij0, hjN0⟩ : BL N)])) = flL N fl (vals pre)) := by
            show _ = _
            unfold flL
            rw [HVS.out, HSN.out, if_pos (by rw [← HQ.out]; exact HBD.out)]
          gi_wp2
          obtain ⟨h1, h2, h3, h4⟩ := HT.out
          refine ⟨HKO.out.1, HKO.out.2, h1, h2, ?_, h4⟩
          rw [HFL.out]
          exact h3
        case false =>
          have hfi := flF_lt (fl := fl) (ps := vals pre) hiN
          have hfj := flF_lt (fl := fl) (ps := vals pre) hjN
          have HFE : Hid (flL N fl (vals (pre ++ [(⟨(i, j), hij0, hjN0⟩ : BL N)])) = jnL N (flF N fl (vals pre)) i j N) := by
            show _ = _
            rw [HVS.out]
            exact (jnL_end N fl (vals pre) (i, j) (by rw [← HQ.out]; exact HBD.out)).symm
          have HCU : Hid (∀ v, v < N → (aI (flL N fl (vals pre)))[v]? = some (.int .i64 ((flF N fl (vals pre) v : Nat) : Int))) := fun v hv => aI_at (flL_at hv)
          have HT2 : Hid (Ext w W2 ∧ St W2 w.heap.size #[.int .i64 (N : Int)] 3 ∧ St W2 (w.heap.size + 1) #[.slice (some ⟨gf, of, none⟩) n3 c3] 35 ∧ St W2 (g + 1) #[.slice (some ⟨g, 0, none⟩) N N] 38 ∧ St W2 g (aI (jnL N (flF N fl (vals pre)) i j 0)) 3 ∧ St W2 wr.heap.size #[.int .i64 (N : Int)] 3) := by
            show _ ∧ _
            rw [jnL_zero]
            exact ⟨HT.out.1.1, HT.out.1.2, HT.out.2.1.1, HT.out.2.1.2, HT.out.2.2.1, HT.out.2.2.2⟩
          have hii : (i : Int) < (N : Int) := by omega
          have hji : (j : Int) < (N : Int) := by omega
          have hi0i : (0 : Int) ≤ (i : Int) := by omega
          have hj0i : (0 : Int) ≤ (j : Int) := by omega
          have HS3 : Hid (∀ W', Ext W2 W' → W'.cell? ⟨g + 1, 0, none⟩ = some (.slice (some ⟨g, 0, none⟩) N N) ∧ W'.cell? ⟨g, i, none⟩ = some (.int .i64 ((flF N fl (vals pre) i : Nat) : Int)) ∧ W'.cell? ⟨g, j, none⟩ = some (.int .i64 ((flF N fl (vals pre) j : Nat) : Int))) := fun W' x =>
            ⟨(HT.out.2.1.2.ext x).one', ((HT.out.2.2.1.ext x).cell i).trans (HCU.out i hiN), ((HT.out.2.2.1.ext x).cell j).trans (HCU.out j hjN)⟩
          generalize flF N fl (vals pre) = f at *
          clear HT HSN HSS HBA HBD HVS hcs
          gi_wp2
          refine round_reads (fun W' => W'.cell? ⟨g + 1, 0, none⟩ = some (.slice (some ⟨g, 0, none⟩) N N) ∧ W'.cell? ⟨g, i, none⟩ = some (.int .i64 ((f i : Nat) : Int)) ∧ W'.cell? ⟨g, j, none⟩ = some (.int .i64 ((f j : Nat) : Int))) (by kernel_rfl) (by kernel_rfl) (by kernel_rfl) (by kernel_rfl) (by kernel_rfl) (by rintro ⟨a, w, h⟩; exact h) (fun _ _ _ _ _ h => h) (HS3.out _ (Ext.refl _).drew) ?_
          iterate 20
            apply headG_step
            · rfl
            · intro w' hSw
              (try dsimp only at hSw)
              go_simp
              all_goals exact rfl
            simp only [Act.put, List.setIfInBounds_toArray, List.set_cons_zero, List.set_cons_succ]
          refine headG_done ?_
          have eLo : (if f j < f i then ((f j : Nat) : Int) else ((f i : Nat) : Int)) = ((min (f i) (f j) : Nat) : Int) := by split <;> omega
          have eHi : (if f i < f j then ((f j : Nat) : Int) else ((f i : Nat) : Int)) = ((max (f i) (f j) : Nat) : Int) := by split <;> omega
          rw [eLo, eHi]
          have HT3 : Hid (Ext w W2.drew ∧ St W2.drew w.heap.size #[.int .i64 (N : Int)] 3 ∧ St W2.drew (w.heap.size + 1) #[.slice (some ⟨gf, of, none⟩) n3 c3] 35 ∧ St W2.drew (g + 1) #[.slice (some ⟨g, 0, none⟩) N N] 38 ∧ St W2.drew g (aI (jnL N f i j 0)) 3 ∧ St W2.drew wr.heap.size #[.int .i64 (N : Int)] 3) := ⟨HT2.out.1.drew, HT2.out.2⟩
          have HKO3 : Hid (KeepsOthers W W2.drew ∧ W2.drew.heap[wr.heap.size]? = W.heap[wr.heap.size]?) := ⟨HKO.out.1.trans (KeepsOthers.drew W2), HKO.out.2⟩
          have HJS : Hid (∀ t, t < N → f t = max (f i) (f j) → (jnL N f i j t).set t ((min (f i) (f j) : Nat) : Int) = jnL N f i j (t + 1)) := fun t h e => jnL_set h e
          have HJK : Hid (∀ t, t < N → f t ≠ max (f i) (f j) → jnL N f i j t = jnL N f i j (t + 1)) := fun t h e => jnL_keep h e
          generalize min (f i) (f j) = lo at *
          generalize max (f i) (f j) = hi at *
          clear eLo eHi HT2 HKO HS3 HCU hfi hfj
          generalize W2.drew = W3 at *
          have j5 := HT3.out.2.2.2.1.one'
          gi_wp2
          gi_loopw [65] (fun iv wq => ∃ t : Nat, t ≤ N ∧ iv = .int .i64 (t : Int) ∧ Hid (Ext w wq ∧ St wq w.heap.size #[.int .i64 (N : Int)] 3 ∧ St wq (w.heap.size + 1) #[.slice (some ⟨gf, of, none⟩) n3 c3] 35 ∧ St wq wr.heap.size #[.int .i64 (N : Int)] 3) ∧ St wq (g + 1) #[.slice (some ⟨g, 0, none⟩) N N] 38 ∧ St wq g (aI (jnL N f i j t)) 3 ∧ Hid (KeepsOthers W wq ∧ wq.heap[wr.heap.size]? = W.heap[wr.heap.size]?)) (fun iv _ => N - (intOf iv).toNat)
          case atStart => exact ⟨0, Nat.zero_le _, rfl, ⟨HT3.out.1, HT3.out.2.1, HT3.out.2.2.1, HT3.out.2.2.2.2.2⟩, HT3.out.2.2.2.1, HT3.out.2.2.2.2.1, HKO3.out⟩
          case round =>
            clear HT3 HKO3 j5
            obtain ⟨t, ht, rfl, hu, v3, v2, hko⟩ := hrel
            by_cases hlt2 : t < N
            · have h3 : (t : Int) < (N : Int) := by omega
              have h4 : (0 : Int) ≤ (t : Int) := by omega
              have j5 := v3.one'
              have j2 := (v2.cell t).trans (aI_at (jnL_at hlt2))
              rw [if_neg (Nat.lt_irrefl _)] at j2
              have f2 := v2.frozen t
              by_cases hft : f t = hi
              · have hft' : ((f t : Int) == (hi : Int)) = true := by simp [hft]
                have HN1 : Hid (Ext w (World.setCell _ ⟨g, t, none⟩ (.int .i64 (lo : Int))) ∧ _ ∧ _ ∧ _) := ⟨hu.out.1.setCell (p := ⟨g, t, none⟩) (by show _ ≤ g; omega) (.int .i64 (lo : Int)), hu.out.2.1.far (p := ⟨g, t, none⟩) (by show _ ≠ g; omega) (.int .i64 (lo : Int)), hu.out.2.2.1.far (p := ⟨g, t, none⟩) (by show _ ≠ g; omega) (.int .i64 (lo : Int)), hu.out.2.2.2.far (p := ⟨g, t, none⟩) (by show _ ≠ g; omega) (.int .i64 (lo : Int))⟩
                have HN3 := Lib.hid (v3.far (p := ⟨g, t, none⟩) (by show _ ≠ g; omega) (.int .i64 (lo : Int)))
                have HN2 := Lib.hid (v2.set t (.int .i64 (lo : Int)))
                rw [aI_set, HJS.out t hlt2 hft] at HN2
                have HNK : Hid (KeepsOthers W (World.setCell _ ⟨g, t, none⟩ (.int .i64 (lo : Int))) ∧ _) := ⟨hko.out.1.trans (KeepsOthers.setCell _ _ _), (Below.heap_setCell _ ⟨g, t, none⟩ (.int .i64 (lo : Int)) _ (by show _ ≠ g; omega)).trans hko.out.2⟩
                clear hu v2 v3 hko hft
                gi_wp2
                go_roundw
                case rel => exact ⟨t + 1, by omega, by go_num, HN1.out, HN3.out, HN2.out, HNK.out⟩
                case measure => simp [intOf]; omega
              · have hft' : ((f t : Int) == (hi : Int)) = false := by simp; omega
                have HV2 := Lib.hid v2
                rw [HJK.out t hlt2 hft] at HV2
                have hft2 : ¬ ((f t : Int) = (hi : Int)) := by omega
                clear v2 hft
                gi_wp2
                go_roundw
                case rel => exact ⟨t + 1, by omega, by go_num, hu.out, v3, HV2.out, hko.out⟩
                case measure => simp [intOf]; omega
            · have e : t = N := by omega
              rw [e] at v2
              rw [e]
              have hd : decide (N < N) = false := by simp
              clear e hlt2 ht
              gi_wp2
              refine ⟨hko.out.1, hko.out.2, ⟨hu.out.1, hu.out.2.1⟩, ⟨hu.out.2.2.1, v3⟩, ?_, hu.out.2.2.2⟩
              rw [HFE.out]
              exact v2
      case done =>
        rintro D xs W hD rfl ⟨⟨e1, t0⟩, ⟨t1, t3⟩, ⟨t2, tB⟩⟩ hK
        rw [vals_all] at t2
        have j5 := t3.one'
        have HZ := Lib.hid (And.intro e1 (And.intro t2 hK))
        clear e1 t0 t1 t2 t3 tB hK
        go_wp2
        obtain ⟨e1, t2, hK⟩ := HZ.out
        refine marks_one rfl hK (results_tmp rfl _ _ _) ?_
        refine ⟨_, _, rfl, ⟨Nat.le_refl _, fun _ => ⟨g, 0, _, rfl, by omega, ?_, t2.putObj hK, fun t u hu => ?_⟩⟩, e1.putObj (by omega) _⟩
        · have := t2.lt; simpa using this
        · simpa [aI] using hu
      case stop =>
        rintro D c pre W _ _ h _
        exact h.elim
end Go.Proofs.Ytpjglnmnfmibnab
