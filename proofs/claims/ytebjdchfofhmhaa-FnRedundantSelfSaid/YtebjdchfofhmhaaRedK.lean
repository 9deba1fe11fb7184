/-
  Contract of RedundantGroups of the program: a map from vectors to the first baselines that have them, in a loop over all baselines.
-/
import Derived.Test.YtebjdchfofhmhaaRedJ
import Derived.Test.YtebjdchfofhmhaaPick
import Derived.Maps.OwnIn
namespace Go.Proofs.Ytebjdchfofhmhaa
open Go.RowKit Go.Shelf Go.Maps
attribute [local go_sem] Oper.semAt_some
set_option linter.unusedSimpArgs false
set_option linter.unusedVariables false

theorem own_map {β : Type} {B b : Nat} (hb : b < B) (f : β → Nat) (p : β → DataW Unit → Prop) : OwnFrom B (fun s W => ∃ D, W.ownsMap Try.prog 49 (plainElem (H := Unit) Try.prog 3) b (f s) D ∧ p s D) := fun s W W' row hs hg hr => by
  obtain ⟨D, h1, h2⟩ := hs
  exact ⟨D, h1.kept hg (fun e => by have := (hr b e.symm).1; omega), h2⟩
theorem map_ext {w w' : World} {b k : Nat} {D : DataW Unit} (h : w.ownsMap Try.prog 49 (plainElem (H := Unit) Try.prog 3) b k D) (x : Ext w w') : w'.ownsMap Try.prog 49 (plainElem (H := Unit) Try.prog 3) b k D := by
  have hlt := h.lt
  obtain ⟨es, clock, hb, r⟩ := h
  exact ⟨es, clock, (x.block hlt).trans hb, r⟩
theorem map_far {w : World} {b k : Nat} {D : DataW Unit} (h : w.ownsMap Try.prog 49 (plainElem (H := Unit) Try.prog 3) b k D) {p : Addr} (hp : p.block ≠ b) (u : Value) : (w.setCell p u).ownsMap Try.prog 49 (plainElem (H := Unit) Try.prog 3) b k D := by
  obtain ⟨es, clock, hb, r⟩ := h
  exact ⟨es, clock, (Below.heap_setCell w p u b (Ne.symm hp)).trans hb, r⟩
theorem wpListIn_append1A {F : Fence} {nF : Nat} {P : Program} {w : World} {ops : Array Oper} {rest : List Oper} {o : Oper} {a : Act} {Q : Exit → Act → World → Prop} (hgd : o.guard = none) (s x : Operand) (t : TypeId)
    (ho : o.op = .call { callee := .builtin .append, args := #[s, x], argTypes := #[t, t] })
    (base : Nat) (E : TypeId) (z : Value) (bytes : Nat) (hinfo : (P.info? E).map (fun i => (i.zero, i.size, i.bytes)) = some (some z, 1, bytes)) (ht : P.underlying t = some (.slice E)) (hz : z.cells.size = 1)
    (v : Value) (n : Nat) (xs : List Value) (hs : a.eval s = v) (hown : w.ownsRow base E 1 v n xs)
    (u : Value) (b : Nat) (hx : a.eval x = .slice (some ⟨b, 0, none⟩) 1 1) (hb : b = w.heap.size) (h1 : u.oneCell' = true) (hbytes : (n + 1) * bytes ≤ 100000000) (hn : n + 1 ≤ 100000000) (hbase : base ≤ w.heap.size)
    (h : ∀ v' w', w'.ownsRow base E 1 v' (n + 1) (xs ++ [u]) → w.grownBy w' v.ownBlock → At w v v' → wpListIn F nF P ops Q rest (a.put o.dst v') w') : wpListIn F nF P ops Q (o :: rest) a (w.alloc (.cells #[u] E)) := by
  obtain ⟨i, hi, hz1, hz2, hz3⟩ := info_parts hinfo
  subst hb
  refine wpListIn_append_own_at _ hgd s x t ho base E i z 1 bytes ht hi hz1 hz2 hz3 hz (by omega) v n xs hs (hown.alloc _) ⟨w.heap.size, 0, none⟩ 1 1 [u] hx rfl ?_ ?_ (by unfold maxLen; omega) (by omega) (by simp; omega) ?_
  · intro j u' hj
    match j, hj with
    | 0, hj => simp at hj; subst hj; simp [Addr.add]
  · intro u' hu; simp at hu; subst hu; exact h1
  · intro v' w' ho' hg _ hat
    refine h v' w' ho' ((World.grownBy_alloc w _ _).trans hg) fun g hg' => ?_
    rcases hat with e | e
    · exact .inl (by rw [← e]; exact hg')
    · rw [e] at hg'
      simp at hg'
      exact .inr (by omega)
/-- the boxes of the argument, the groups so far, the map, the iterator's variable -/
def GrpI (n : Nat) (l : VL) (w : World) (b0 : Nat) (v1 : Value) (bo B : Nat) (pre : List (BL n)) (W : World) : Prop :=
  (Ext w W ∧ St W b0 #[v1] 27) ∧ ((∃ v, St W bo #[v] 41 ∧ W.ownsRow (B + 1) 3 1 v pre.length (ints (gsL l (vals pre)))) ∧ (St W (bo + 1 + 1) #[.map (some (bo + 1))] 69 ∧ ∃ D, W.ownsMap Try.prog 49 (plainElem (H := Unit) Try.prog 3) (bo + 1) (pre.length * 2) D ∧ MI l (vals pre) D)) ∧ St W B #[.int .i64 (n : Int)] 3
theorem grpI_own (n : Nat) (l : VL) (w : World) (b0 : Nat) (v1 : Value) (bo B B0 : Nat) (h : w.heap.size ≤ B0) (h2 : bo + 1 < B0) : OwnFrom B0 (GrpI n l w b0 v1 bo B) :=
  ((own_extW h).and (own_st _)).and (((own_row (fun pre => pre.length) (fun pre => ints (gsL l (vals pre)))).and ((own_st _).and (own_map h2 (fun pre => pre.length * 2) (fun pre D => MI l (vals pre) D)))).and (own_st _))
theorem zeroInt (w : World) : (zeroValue 3).run Try.prog w = .ok (.int .i64 0) w := by kernel_rfl
theorem grp_close {n : Nat} {l : VL} {w W w7 w8 : World} {v1 : Value} {bo z5 k c5 c8 : Nat} {A5 A8 : Option Addr} {pre : List (BL n)} {x : BL n} {D : DataW Unit} (hb0 : w.heap.size < bo)
    (e : Ext w w7) (q0 : St w7 w.heap.size #[v1] 27) (q3 : St w7 bo #[.slice A5 pre.length c5] 41) (q4 : St w7 (bo + 1 + 1) #[.map (some (bo + 1))] 69)
    (qo : w7.ownsRow (bo + 1 + 1 + 1 + 1) 3 1 (.slice A5 pre.length c5) pre.length (ints (gsL l (vals pre)))) (qm : w7.ownsMap Try.prog 49 (plainElem (H := Unit) Try.prog 3) (bo + 1) k D) (hk : k ≤ (pre.length + 1) * 2)
    (hmi : MI l (vals (pre ++ [x])) D) (qB : St w7 (bo + 1 + 1 + 1) #[.int .i64 (n : Int)] 3) (HKO : KeepsFrom z5 W w7 ∧ w7.heap[bo + 1 + 1 + 1]? = W.heap[bo + 1 + 1 + 1]?)
    (hg8 : w7.grownBy w8 (Value.slice A5 pre.length c5).ownBlock) (o8 : w8.ownsRow (bo + 1 + 1 + 1 + 1) 3 1 (.slice A8 (pre.length + 1) c8) (pre.length + 1) (ints (gsL l (vals (pre ++ [x]))))) :
    KeepsFrom z5 W (w8.setCell ⟨bo, 0, none⟩ (.slice A8 (pre.length + 1) c8)) ∧ KpB (bo + 1 + 1 + 1) W (w8.setCell ⟨bo, 0, none⟩ (.slice A8 (pre.length + 1) c8)) ∧ GrpI n l w w.heap.size v1 bo (bo + 1 + 1 + 1) (pre ++ [x]) (w8.setCell ⟨bo, 0, none⟩ (.slice A8 (pre.length + 1) c8)) := by
  have u0 := q0.grown qo hg8 (by omega)
  have u3 := q3.grown qo hg8 (by omega)
  have u4 := q4.grown qo hg8 (by omega)
  have uB := qB.grown qo hg8 (by omega)
  have ue := e.grownV qo hg8 (by omega)
  have um := qm.kept hg8 (fun e => by have := own_base qo _ e.symm; omega)
  have hle : pre.length + 1 = (pre ++ [x]).length := by rw [List.length_append]; rfl
  refine ⟨(HKO.1.trans ((keeps_grown qo hg8).from _)).trans ((KeepsOthers.setCell _ _ _).from _), (Below.heap_setCell w8 ⟨bo, 0, none⟩ _ _ (by show _ ≠ bo; omega)).trans ((hg8.block _ qB.lt fun e => by have := own_base qo _ e.symm; omega).trans HKO.2),
    ⟨ue.setCell (p := ⟨bo, 0, none⟩) (by show _ ≤ bo; omega) _, u0.far (p := ⟨bo, 0, none⟩) (by show _ ≠ bo; omega) _⟩,
    ⟨⟨_, u3.set 0 _, ?_⟩, u4.far (p := ⟨bo, 0, none⟩) (by show _ ≠ bo; omega) _, D, ?_, hmi⟩, uB.far (p := ⟨bo, 0, none⟩) (by show _ ≠ bo; omega) _⟩
  · rw [← hle]
    exact own_far o8 (p := ⟨bo, 0, none⟩) (own_low o8 (g := bo) (by omega)) _
  · rw [← hle]
    exact (map_far um (p := ⟨bo, 0, none⟩) (by show bo ≠ _; omega) _).mono hk
theorem St.turn {w w' : World} {g b : Nat} {vs : Array Value} {T : TypeId} (s : St w g vs T) (h : w.grownBy w' (some b)) (hb : g ≠ b) : St w' g vs T :=
  (h.block g s.lt fun e => by cases e; omega).trans s
theorem own_low' {w : World} {base b : Nat} {E : TypeId} {size n : Nat} {v : Value} {xs : List Value} (h : w.ownsRow base E size v n xs) (hb : b < base) : v.ownBlock = none ∨ v.ownBlock ≠ some b := by
  cases hv : v.ownBlock with
  | none => exact .inl rfl
  | some g => exact .inr fun e => by have := own_base h g hv; cases e; omega
theorem wp_mapUpdate_own {H : Type} {P : Program} {w : World} {o : Oper} {a : Act} {K : Act → World → Prop} {Q : Exit → Act → World → Prop}
    (m x v : Operand) (t : TypeId) (hop : o.op = Op.mapUpdate t m x v)
    (k e : TypeId) (Ky : Keyed P k) (ht : P.underlying t = some (.map k e)) (R : Value → Option (DataW H × List MemPlace)) (b n : Nat) (D : DataW H)
    (hm : a.eval m = .map (some b)) (hown : w.ownsMap P k R b n D) (hn : n < maxLen) (key val : Value) (kl : Lit) (hx : a.eval x = key) (hv : a.eval v = val) (hkey : keyOf P k key = some kl)
    (d : DataW H) (ps : List MemPlace) (hval : R val = some (d, ps))
    (hK : ∀ w', w'.ownsMap P k R b (n + 1) (D.put kl d) → w.grownBy w' (some b) → K (a.put o.dst undef) w') : o.wp P a w K Q := by
  obtain ⟨w', hrun, r1, r2⟩ := hown.update Ky ht hn hkey hval
  unfold Oper.wp
  simp [execOp, hop, hm, hx, hv, hrun, Result.andThen]
  exact hK w' r1 r2
theorem atI {x : DataW Unit} {m : Nat} {c : Int} (h : x = dI m) (h' : x = .lit (.int .i64 c)) : c = (m : Int) := by
  rw [h] at h'
  simp [dI] at h'
  exact h'.symm
set_option maxRecDepth 100000 in
set_option maxHeartbeats 1000000 in
theorem redundantGroups_any (A : Option Addr) (n c : Nat) (l : VL) (w : World) (hn : l.length = n) (hA : Arr l) (r : Rd w w.heap.size A n c (pairs l)) :
    Calls Try.prog 24 #[.slice A n c] w (RetS w 3 (nb n) (ints (grL l))) := by
  have hn2 := hA.two
  have hn7 := hA.seven
  have HN := Lib.hid hn
  have HR := Lib.hid r
  have HAR := Lib.hid hA
  have HAV := Lib.hid (fun W (x : Ext w W) => arrayValid_any A n c l W hn (by omega) (r.ext x))
  rw [hA.yes] at HAV
  have HVV : Hid (∀ (W : World) (i j : Nat), Ext w W → i < n → j < n → Calls Try.prog 48 #[.slice A n c, .int .i64 (i : Int), .int .i64 (j : Int)] W fun e w' => e = .returned (pv (vec l i j)) ∧ Ext W w') := fun W i j x hi hj =>
    vector_any A n c l W i j hn (by omega) (r.ext x) hi hj (hA.in_ (by omega)) (hA.in_ (by omega))
  have HIN : Hid (∀ i j, i < n → j < n → InR (vec l i j)) := fun i j hi hj => by
    have h1 := hA.in_ (j := i) (by omega)
    have h2 := hA.in_ (j := j) (by omega)
    unfold InR vec
    simp only
    omega
  rw [hn] at hn2 hn7
  have s0 := St.new w #[.slice A n c] 27
  have x0 : Ext w (w.alloc (.cells #[.slice A n c] 27)) := (Ext.refl w).alloc _
  have k0 := s0.one'
  have hmm := @run_makeMap Try.prog
  clear hn r hA
  refine (callsIn_wide (n := 10)).1 ?_
  refine callsIn_of_wp_marks Try.func24 rfl trivial ?_ rfl
  refine wpIn_wide.2 ?_
  simp only [Try.ntmps24, List.size_toArray, List.length_cons, List.length_nil, Nat.reduceAdd, Nat.reduceSub, Array.replicate_succ, Array.replicate_zero, List.push_toArray, List.append_toArray, List.nil_append, List.cons_append]
  go_wp2_with fail
  generalize w.alloc (.cells #[.slice A n c] 27) = w0 at *
  refine (HAV.out _ x0).mono ?_
  rintro e w1 ⟨rfl, x1⟩
  have y1 := x0.trans x1
  replace s0 := s0.ext x1
  clear k0 x0 x1
  have k0 := s0.one'
  have hsz := y1.size
  have hs0 := s0.lt
  have s3 := St.new w1 #[.slice none 0 0] 41
  have x2 : Ext w1 (w1.alloc (.cells #[.slice none 0 0] 41)) := (Ext.refl w1).alloc _
  have m0 := World.ownsMap_made (w1.alloc (.cells #[.slice none 0 0] 41)) Try.prog 49 (plainElem (H := Unit) Try.prog 3)
  have x3 : Ext (w1.alloc (.cells #[.slice none 0 0] 41)) ((w1.alloc (.cells #[.slice none 0 0] 41)).alloc (.map #[] 0)) := (Ext.refl _).alloc _
  have s4 := St.new ((w1.alloc (.cells #[.slice none 0 0] 41)).alloc (.map #[] 0)) #[.map (some (w1.heap.size + 1))] 69
  have x4 : Ext ((w1.alloc (.cells #[.slice none 0 0] 41)).alloc (.map #[] 0)) (((w1.alloc (.cells #[.slice none 0 0] 41)).alloc (.map #[] 0)).alloc (.cells #[.map (some (w1.heap.size + 1))] 69)) := (Ext.refl _).alloc _
  have sB := St.new (((w1.alloc (.cells #[.slice none 0 0] 41)).alloc (.map #[] 0)).alloc (.cells #[.map (some (w1.heap.size + 1))] 69)) #[.int .i64 (n : Int)] 3
  have x5 : Ext (((w1.alloc (.cells #[.slice none 0 0] 41)).alloc (.map #[] 0)).alloc (.cells #[.map (some (w1.heap.size + 1))] 69)) ((((w1.alloc (.cells #[.slice none 0 0] 41)).alloc (.map #[] 0)).alloc (.cells #[.map (some (w1.heap.size + 1))] 69)).alloc (.cells #[.int .i64 (n : Int)] 3)) := (Ext.refl _).alloc _
  simp only [World.size_alloc] at m0 s4 sB
  have y5 := (((y1.trans x2).trans x3).trans x4).trans x5
  have k1 := (((s0.ext x2).ext x3).ext x4).one'
  replace s0 := (((s0.ext x2).ext x3).ext x4).ext x5
  replace s3 := ((s3.ext x3).ext x4).ext x5
  replace m0 := map_ext (map_ext m0 x4) x5
  replace s4 := s4.ext x5
  have HZ := Lib.hid (And.intro y5 (And.intro s0 (And.intro s3 (And.intro m0 (And.intro s4 sB)))))
  clear x2 x3 x4 x5 y5 y1 s0 s3 m0 s4 sB
  go_wp2_with fail
  refine (bases_any _ _).mono ?_
  rintro e w' ⟨rfl, rfl⟩
  clear k0 k1
  go_wp2_with fail
  generalize ((((w1.alloc (.cells #[.slice none 0 0] 41)).alloc (.map #[] 0)).alloc (.cells #[.map (some (w1.heap.size + 1))] 69)).alloc (.cells #[.int .i64 (n : Int)] 3)) = w5 at *
  generalize w1.heap.size = bo at *
  obtain ⟨y5, s0, s3, m0, s4, sB⟩ := HZ.out
  have hI0 : GrpI n l w w.heap.size (.slice A n c) bo (bo + 1 + 1 + 1) [] w5 := ⟨⟨y5, s0⟩, ⟨⟨_, s3, World.ownsRow_nil _ _ _ _⟩, s4, _, m0, mi_start l⟩, sB⟩
  have hlt := sB.lt
  have hcB := sB.one'
  have hsz5 := y5.size
  clear s0 s3 m0 s4 y5 sB HZ hmm
  refine (wpIn_wide (n := 10)).1 ?_
  refine' wpIn_rangeFunc_ownG rfl (by omega) (gf := 70) (lb := #[.pointer (some ⟨bo + 1 + 1 + 1, 0, none⟩)]) rfl trivial (enters_of Try.func70 (by kernel_rfl) rfl)
    (bases1_stops n hn2 (by omega) _ (by omega) (bo + 1 + 1 + 1) _ hcB hlt) kpB_t (kpB_b hlt) (Below.refl _ _) (fun _ => rfl)
    (GrpI n l w w.heap.size (.slice A n c) bo (bo + 1 + 1 + 1)) (fun _ _ _ => False)
    (grpI_own _ _ _ _ _ _ _ _ hsz5 (by omega)) (fun _ => own_false) hI0 _ ?assign ?body ?done ?stop
  case assign =>
    intro l x W K hK
    dsimp only [bEnc]
    gi_wp2
    exact hK
  case body =>
    rintro l0 pre ⟨⟨i, j⟩, hij0, hjN0⟩ W ⟨⟨e1, t0⟩, ⟨⟨v, t3, ho⟩, t4, D, hm, hmi⟩, tB⟩ hpre
    have hij : i < j := hij0
    have hjN : j < n := hjN0
    have hiN : i < n := by omega
    obtain ⟨A5, c5, hv5, _⟩ := Sl.of_own ho
    subst hv5
    have hnb := nb_le n (by omega)
    have hVV := HVV.out W i j e1 hiN hjN
    have hin := HIN.out i j hiN hjN
    have HGS := Lib.hid (gsL_snoc l (vals pre) (i, j))
    have HVS : Hid (vals (pre ++ [(⟨(i, j), hij0, hjN0⟩ : BL n)]) = vals pre ++ [(i, j)]) := vals_snoc _ _
    have HVL : Hid ((vals pre).length = pre.length) := by show _ = _; simp [vals]
    have HMO : Hid (∀ m, leS l (vals pre) (vec l i j) = some m → MI l (vals pre ++ [(i, j)]) D) := fun m e => mi_old hmi e
    have HMN : Hid (leS l (vals pre) (vec l i j) = none → MI l (vals pre ++ [(i, j)]) ((D.put (kL (vec l i j)) (dI (vals pre).length)).put (kL (ngv (vec l i j))) (dI (vals pre).length))) := fun e => mi_new hmi hin e
    have HAT := Lib.hid (hmi.at_ _ hin)
    obtain ⟨⟨a, b⟩, hab⟩ : ∃ u, vec l i j = u := ⟨_, rfl⟩
    rw [hab] at hVV hin HMO HMN HAT HGS
    obtain ⟨le, hle⟩ : ∃ u, leS l (vals pre) (a, b) = u := ⟨_, rfl⟩
    have hle' : leS l (vals pre) (vec l (i, j).1 (i, j).2) = le := by show leS l (vals pre) (vec l i j) = le; rw [hab]; exact hle
    rw [hle] at HMO HMN HAT HGS
    have hkey := key_some hin
    have HKO : Hid (KeepsFrom w5.heap.size W W ∧ W.heap[bo + 1 + 1 + 1]? = W.heap[bo + 1 + 1 + 1]?) := ⟨KeepsFrom.refl _ _, rfl⟩
    unfold pv at hVV hkey
    have j0 := t0.one'
    clear hmi hab hle hle'
    gi_wp2_with fail
    refine ⟨trivial, CallsIn.inRound l0 (callsIn_wide.2 (hVV.mono ?_))⟩
    rintro e W1 ⟨rfl, xv⟩
    have e2 := e1.trans xv
    have q0 := t0.ext xv
    have q3 := t3.ext xv
    have q4 := t4.ext xv
    have qB := tB.ext xv
    have qo := own_ext ho xv
    have qm := map_ext hm xv
    replace HKO : Hid (KeepsFrom w5.heap.size W W1 ∧ W1.heap[bo + 1 + 1 + 1]? = W.heap[bo + 1 + 1 + 1]?) := ⟨xv.keeps.from _, xv.block tB.lt⟩
    clear e1 t0 t3 t4 tB ho hm xv hVV j0
    have zW1 := qB.lt
    have sp := St.new W1 #[.int .i64 a, .int .i64 b] 49
    have xa : Ext W1 (W1.alloc (.cells #[.int .i64 a, .int .i64 b] 49)) := (Ext.refl _).alloc _
    replace e2 := e2.trans xa
    replace q0 := q0.ext xa
    replace q3 := q3.ext xa
    replace q4 := q4.ext xa
    replace qo := own_ext qo xa
    replace qm := map_ext qm xa
    replace HKO : Hid (KeepsFrom w5.heap.size W (W1.alloc (.cells #[.int .i64 a, .int .i64 b] 49)) ∧ (W1.alloc (.cells #[.int .i64 a, .int .i64 b] 49)).heap[bo + 1 + 1 + 1]? = W.heap[bo + 1 + 1 + 1]?) := ⟨HKO.out.1.trans (xa.keeps.from _), (xa.block qB.lt).trans HKO.out.2⟩
    replace qB := qB.ext xa
    clear xa
    have jm := q4.one'
    have ja := sp.cell0
    have jb := sp.cell1
    have j3 := q3.one'
    have f3 := q3.frozen 0
    have hz2 := qB.lt
    obtain ⟨HAH, HAA⟩ := HAT
    rcases le with _ | m
    case some =>
      have HM := Lib.hid (HMO.out m rfl)
      have HA := Lib.hid (HAA m rfl)
      have HH : Hid (Maps.has D (kL (a, b)) = true) := HAH
      clear HMO HMN HAH HAA
      gi_wp2_with (first
        | (gi_at_lookup; refine wpListIn_lookup_own_ok_int _ rfl _ _ 69 rfl 49 3 .i64 antLaw Try.underlying69 Try.underlying3 (zeroInt _) (bo + 1) (pre.length * 2) D (by rfl) qm _ (kL (a, b)) (by rfl) hkey ?_; intro cc hat hwc; rw [HH.out]; obtain rfl : cc = (m : Int) := atI HA.out hat; clear hat hwc jm; generalize hW2 : W1.alloc (.cells #[.int .i64 a, .int .i64 b] 49) = W2 at *; clear hW2)
        | (gi_at_builtin; refine wpListIn_append1A (w := W2) rfl _ _ _ rfl (bo + 1 + 1 + 1 + 1) 3 (.int .i64 0) 8 I.infoInt Try.underlying41 rfl _ pre.length _ (by rfl) qo (.int .i64 (m : Int)) _ (by rfl) rfl rfl (by omega) (by omega) (by omega) ?_; intro v' w8 o8 hg8 hat8; obtain ⟨A8, c8, hv8, _⟩ := Sl.of_own o8; subst hv8; have q8 := q3.grown qo hg8 (by omega); have j8 := q8.one'; have f8 := q8.frozen 0))
      rw [ints_snoc] at o8
      have hgs : gsL l (vals pre) ++ [(m : Int)] = gsL l (vals (pre ++ [(⟨(i, j), hij0, hjN0⟩ : BL n)])) := by rw [HVS.out, HGS.out]; rfl
      rw [hgs] at o8
      exact grp_close hs0 e2 q0 q3 q4 qo qm (by omega) (by rw [HVS.out]; exact HM.out) qB HKO.out hg8 o8
    case none =>
      have HM := Lib.hid (HMN rfl)
      have HH : Hid (Maps.has D (kL (a, b)) = false) := HAH
      clear HMO HMN HAH HAA
      gi_wp2_with (first
        | (gi_at_lookup; refine wpListIn_lookup_own_ok_int _ rfl _ _ 69 rfl 49 3 .i64 antLaw Try.underlying69 Try.underlying3 (zeroInt _) (bo + 1) (pre.length * 2) D (by rfl) qm _ (kL (a, b)) (by rfl) hkey ?_; intro cc hat hwc; rw [HH.out]; clear hat hwc jm; generalize hW2 : W1.alloc (.cells #[.int .i64 a, .int .i64 b] 49) = W2 at *; clear hW2))
      have hp2 := sp.lt
      generalize W1.heap.size = p at *
      have HC : Hid (∀ W', Ext W2.drew W' → W'.cell? ⟨bo + 1 + 1, 0, none⟩ = some (.map (some (bo + 1))) ∧ W'.cell? ⟨p, 0, none⟩ = some (.int .i64 a) ∧ W'.cell? ⟨p, 1, none⟩ = some (.int .i64 b)) := fun W' x => by
        have y : Ext W2 W' := (Ext.refl W2).drew.trans x
        exact ⟨(q4.ext y).one', (sp.ext y).cell0, (sp.ext y).cell1⟩
      refine round_pick [0, 1, 2, 3, 5, 6] [4, 7, 8] (fun W' => W'.cell? ⟨bo + 1 + 1, 0, none⟩ = some (.map (some (bo + 1))) ∧ W'.cell? ⟨p, 0, none⟩ = some (.int .i64 a) ∧ W'.cell? ⟨p, 1, none⟩ = some (.int .i64 b)) (by kernel_rfl) (by kernel_rfl) (by kernel_rfl) (by kernel_rfl) (by kernel_rfl) (by kernel_rfl) (by kernel_rfl) (by kernel_rfl) (by kernel_rfl) (by rintro ⟨a, w, h⟩; exact h) (fun _ _ _ _ _ h => h) (HC.out _ (Ext.refl _)) ?_
      iterate 6
        apply headG_step
        · rfl
        · intro w' hSw
          (try dsimp only at hSw)
          go_simp
          all_goals exact rfl
        simp only [Act.put, List.setIfInBounds_toArray, List.set_cons_zero, List.set_cons_succ]
      change TailG _ _ _ _ _ _
      simp only [pick, List.filterMap_cons, List.filterMap_nil, List.getElem?_cons_succ, List.getElem?_cons_zero]
      refine tail_cons fun K hK => ?_
      go_simp
      refine (antOpp_any a b _ hin.1 hin.2.1 hin.2.2.1 hin.2.2.2).mono ?_
      rintro e W3 ⟨rfl, x3⟩
      refine hK _ _ (HC.out _ x3) ?_
      have y3 : Ext W2 W3 := (Ext.refl W2).drew.trans x3
      replace e2 := e2.trans y3
      replace q0 := q0.ext y3
      replace q3 := q3.ext y3
      replace q4 := q4.ext y3
      replace qo := own_ext qo y3
      replace qm := map_ext qm y3
      replace sp := sp.ext y3
      replace HKO : Hid (KeepsFrom w5.heap.size W W3 ∧ W3.heap[bo + 1 + 1 + 1]? = W.heap[bo + 1 + 1 + 1]?) := ⟨HKO.out.1.trans (y3.keeps.from _), (y3.block qB.lt).trans HKO.out.2⟩
      replace qB := qB.ext y3
      clear hK K HC x3 y3 ja jb j3 f3 hz2 hp2
      have hkey2 := key_some (ngv_in hin)
      unfold pv ngv at hkey2
      simp only at hkey2
      have wfp : (Lit.int .i64 (pre.length : Int)).wf = true := WalkArith.wf_i64 (by omega)
      refine tail_cons fun K hK => ?_
      refine wp_mapUpdate_own _ _ _ 69 rfl 49 3 antLaw Try.underlying69 _ (bo + 1) (pre.length * 2) D (by rfl) qm (by unfold maxLen; omega) _ _ (kL (a, b)) (by rfl) (by rfl) hkey (dI pre.length) [] (plainElem_int Try.underlying3 wfp) ?_
      intro W4 m4 g4
      replace e2 := e2.grown g4 (fun g e => by cases e; omega)
      replace q0 := q0.turn g4 (by omega)
      replace q3 := q3.turn g4 (by omega)
      replace q4 := q4.turn g4 (by omega)
      replace qo := qo.kept g4 (own_low' qo (by omega))
      replace sp := sp.turn g4 (by omega)
      replace HKO : Hid (KeepsFrom w5.heap.size W W4 ∧ W4.heap[bo + 1 + 1 + 1]? = W.heap[bo + 1 + 1 + 1]?) := ⟨HKO.out.1.trans (KeepsFrom.of_grownBy g4 (fun j e => by cases e; omega)), (g4.block _ qB.lt (fun e => by cases e)).trans HKO.out.2⟩
      replace qB := qB.turn g4 (by omega)
      refine hK _ _ ⟨q4.one', sp.cell0, sp.cell1⟩ ?_
      clear hK K g4 qm
      refine tail_last fun K hK => ?_
      refine wp_mapUpdate_own _ _ _ 69 rfl 49 3 antLaw Try.underlying69 _ (bo + 1) (pre.length * 2 + 1) _ (by rfl) m4 (by unfold maxLen; omega) _ _ (kL (ngv (a, b))) (by rfl) (by rfl) hkey2 (dI pre.length) [] (plainElem_int Try.underlying3 wfp) ?_
      intro W5 m5 g5
      replace e2 := e2.grown g5 (fun g e => by cases e; omega)
      replace q0 := q0.turn g5 (by omega)
      replace q3 := q3.turn g5 (by omega)
      replace q4 := q4.turn g5 (by omega)
      replace qo := qo.kept g5 (own_low' qo (by omega))
      replace HKO : Hid (KeepsFrom w5.heap.size W W5 ∧ W5.heap[bo + 1 + 1 + 1]? = W.heap[bo + 1 + 1 + 1]?) := ⟨HKO.out.1.trans (KeepsFrom.of_grownBy g5 (fun j e => by cases e; omega)), (g5.block _ qB.lt (fun e => by cases e)).trans HKO.out.2⟩
      replace qB := qB.turn g5 (by omega)
      refine hK _ _ ?_
      have j3 := q3.one'
      have hz5 := qB.lt
      have HM5 := Lib.hid m5
      clear hK K g5 m4 m5 sp hkey hkey2 hin
      gi_wp2_with (first
        | (gi_at_builtin; refine wpListIn_append1A (w := W5) rfl _ _ _ rfl (bo + 1 + 1 + 1 + 1) 3 (.int .i64 0) 8 I.infoInt Try.underlying41 rfl _ pre.length _ (by rfl) qo (.int .i64 (pre.length : Int)) _ (by rfl) rfl rfl (by omega) (by omega) (by omega) ?_; intro v' w8 o8 hg8 hat8; obtain ⟨A8, c8, hv8, _⟩ := Sl.of_own o8; subst hv8; have q8 := q3.grown qo hg8 (by omega); have j8 := q8.one'; have f8 := q8.frozen 0))
      rw [ints_snoc] at o8
      have hgs : gsL l (vals pre) ++ [(pre.length : Int)] = gsL l (vals (pre ++ [(⟨(i, j), hij0, hjN0⟩ : BL n)])) := by rw [HVS.out, HGS.out, HVL.out]; rfl
      rw [hgs] at o8
      exact grp_close hs0 e2 q0 q3 q4 qo HM5.out (by omega) (by rw [HVS.out]; have := HM.out; rw [HVL.out] at this; exact this) qB HKO.out hg8 o8
  case done =>
    rintro Dd xs W hD rfl ⟨⟨e1, t0⟩, ⟨⟨v, t3, ho⟩, t4, D, hm, hmi⟩, tB⟩ hK
    obtain ⟨A5, c5, hv5, s5⟩ := Sl.of_own ho
    subst hv5
    have j3 := t3.one'
    have hgs : gsL l (bp n) = grL l := by have := gsL_bp l (by rw [HN.out]; omega); rw [HN.out] at this; exact this
    rw [vals_all, allS_length, hgs] at s5
    rw [allS_length] at j3
    have E := Lib.hid e1
    have HD := Lib.hid hK
    have HS5 := Lib.hid s5
    clear hK e1 t0 t3 t4 hm hmi tB ho s5 hgs
    go_wp2
    refine marks_one rfl HD.out (results_tmp rfl _ _ _) ?_
    exact ⟨A5, c5, rfl, ((sl_putObj HS5.out HD.out).full).mono (by omega) (Nat.le_refl _), E.out.putObj (by omega) _⟩
  case stop =>
    rintro D c pre W _ _ h _
    exact h.elim
end Go.Proofs.Ytebjdchfofhmhaa
