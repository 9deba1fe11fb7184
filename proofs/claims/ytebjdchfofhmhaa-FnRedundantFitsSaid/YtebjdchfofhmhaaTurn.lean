/-
  Contracts of slices.Clone on antennas and of ArrayTurn.
-/
import Derived.Test.YtebjdchfofhmhaaDrawA
import Derived.Test.YtebjdchfofhmhaaRedB
namespace Go.Proofs.Ytebjdchfofhmhaa
open Go.RowKit
set_option linter.unusedSimpArgs false
set_option linter.unusedVariables false

set_option maxHeartbeats 400000 in
theorem cloneA_any (A : Option Addr) (n c : Nat) (l : VL) (w : World) (hn : l.length = n) (h0 : 0 < n) (hz : n ≤ 1000) (h : Rd w w.heap.size A n c (pairs l)) :
    Calls Try.prog 58 #[.slice A n c] w (RetS w 49 n (pairs l)) := by
  obtain ⟨g, off, rfl⟩ := h.addr (by rw [pairs_length, hn]; omega)
  have HL : Hid ((pairs l).length = n * 2) := by show _ = _; rw [pairs_length, hn]
  clear hn
  have q22 : ∀ (w : World) (a : Option Addr) (n c n' c' : Nat), (binOp .eql 27 (.slice a n c) (.slice none n' c')).run Try.prog w = .ok (.bool a.isNone) w := fun w a n c n' c' => Lib.run_eql_slice_nil w _ _ a n c n' c' Try.underlying27
  go_enter Try.func58, Try.ntmps58
  go_wp2_with (at_builtin; refine wpList_appendS (w := w.alloc (.cells #[] 49)) rfl _ _ _ rfl w.heap.size 49 (.agg #[.int .i64 0, .int .i64 0]) 2 16 Ant.info Try.underlying27 rfl (by omega) _ 0 [] rfl (World.ownsRow_lit w #[] 0 (Nat.le_refl _) (by simp [maxLen]) rfl) g off n c (pairs l) rfl HL.out ((h.alloc (Nat.le_refl _) _).mono (by simp)) (pairs_one l) (by omega) (by omega) (by simp) ?_; intro v' w' hs' he')
  go_ret
  simp only [Nat.zero_add, List.nil_append] at hs'
  exact RetS.of_own hs' (he' w ((Ext.refl w).alloc _) (Nat.le_refl _))
/-- the first j places turned -/
theorem over_rot {l : VL} {j : Nat} {x : Int × Int} (h : l[j]? = some x) : (over (l.map rot) l j)[j]? = some x ∧ (over (l.map rot) l j).set j (rot x) = over (l.map rot) l (j + 1) := by
  have hl : (l.map rot).length = l.length := by simp
  exact ⟨by rw [over_at hl (Nat.le_refl _), h], over_set (by rw [List.getElem?_map, h]; rfl) hl⟩
set_option maxRecDepth 100000 in
set_option maxHeartbeats 400000 in
theorem arrayTurn_any (A : Option Addr) (n c K : Nat) (l : VL) (w : World) (hn : l.length = n) (hA : Arr l) (hK : K ≤ 3) (r : Rd w w.heap.size A n c (pairs l)) :
    Calls Try.prog 29 #[.slice A n c, .int .i64 (K : Int)] w (RetSB w 49 n (pairs (trn K l)) true) := by
  have hn2 := hA.two
  have hn7 := hA.seven
  rw [hn] at hn2 hn7
  have HAV := Lib.hid (fun W (x : Ext w W) => arrayValid_any A n c l W hn (by omega) (r.ext x))
  rw [hA.yes] at HAV
  have HCL := Lib.hid (fun W (x : Ext w W) => cloneA_any A n c l W hn (by omega) (by omega) (r.ext x))
  have HLN : Hid (∀ q, (trn q l).length = n) := fun q => by rw [trn_length, hn]
  have HIN : Hid (∀ (q j : Nat) (x : Int × Int), (trn q l)[j]? = some x → -1000 ≤ x.1 ∧ x.1 ≤ 1000 ∧ -1000 ≤ x.2 ∧ x.2 ≤ 1000) := fun q j x h => by
    have := (trn_arr hA q).in_ (lt_of_at h)
    rw [show vAm (trn q l) j = x.1 from congrArg Prod.fst (vAt_of h), show vPh (trn q l) j = x.2 from congrArg Prod.snd (vAt_of h)] at this
    exact this
  have hk0 : ¬ (K : Int) < 0 := by omega
  have hk3 : ¬ (3 : Int) < (K : Int) := by omega
  clear hn hA r
  go_enter Try.func29, Try.ntmps29
  go_wp2_with fail
  refine (HAV.out _ (Ext.refl _)).mono ?_
  rintro e w1 ⟨rfl, x1⟩
  go_wp2_with fail
  refine (HCL.out _ x1).mono ?_
  rintro e w2 ⟨A2, c2, rfl, s2, x2⟩
  obtain ⟨g, off, ea, hg1, hg2, hg3⟩ := s2.addr (by rw [pairs_length]; have := HLN.out 0; simp only [trn] at this; omega)
  obtain rfl := ea
  have E2 := x1.trans x2
  have hw1 := x1.size
  have hw2 := x2.size
  clear x1 x2
  go_wp2_with fail
  go_loopw [23] (fun i wr => ∃ q : Nat, q ≤ K ∧ i = .int .i64 q ∧ Sl wr w1.heap.size w2.heap.size 49 (some ⟨g, off, none⟩) n c2 (pairs (trn q l)) ∧ Ext w wr ∧ w2.heap.size ≤ wr.heap.size) (fun i _ => K - (intOf i).toNat)
  case atStart => exact ⟨0, Nat.zero_le _, rfl, s2, E2, Nat.le_refl _⟩
  case round =>
    clear s2 E2
    obtain ⟨q, hq, rfl, s, e, hz⟩ := hrel
    by_cases hlt : q < K
    · have h1 : (q : Int) < (K : Int) := by omega
      have HIQ := Lib.hid (HIN.out q)
      have HLQ := Lib.hid (HLN.out q)
      have HTS : Hid (trn (q + 1) l = (trn q l).map rot) := rfl
      generalize trn q l = L at *
      go_wp2_with fail
      go_loopw [27] (fun i wr => ∃ j : Nat, j ≤ n ∧ i = .int .i64 j ∧ Sl wr w1.heap.size w2.heap.size 49 (some ⟨g, off, none⟩) n c2 (pairs (over (L.map rot) L j)) ∧ Ext w wr ∧ w2.heap.size ≤ wr.heap.size) (fun i _ => n - (intOf i).toNat)
      case atStart => exact ⟨0, Nat.zero_le _, rfl, by rw [over_zero]; exact s, e, hz⟩
      case round =>
        clear s e hz
        obtain ⟨j, hj, rfl, s, e, hz⟩ := hrel
        by_cases hlt2 : j < n
        · have h2 : (j : Int) < (n : Int) := by omega
          have h20 : (0 : Int) ≤ (j : Int) := by omega
          obtain ⟨⟨x, y⟩, hxy⟩ := at_of_lt (l := L) (k := j) (by rw [HLQ.out]; exact hlt2)
          obtain ⟨o1, o2⟩ := over_rot hxy
          obtain ⟨b1, b2, b3, b4⟩ := HIQ.out j _ hxy
          simp only at b1 b2 b3 b4
          have f1 : IntKind.i64.wrap (-y) = -y := IntWalk.i64_in _ (by omega)
          have c0 := s.fst o1
          have c1 := s.snd o1
          have s' := s.ext ((Ext.refl wr).alloc (.cells #[.int .i64 x, .int .i64 y] 49))
          have hlen : 0 < (pairs (over (L.map rot) L j)).length := by rw [pairs_length]; have := lt_of_at o1; omega
          have a0 := s'.fst o1
          have z0 := s'.frozen hlen (off + j * 2)
          have t1 := s'.setF o1 (-y)
          have hs1 : ((over (L.map rot) L j).set j (-y, y))[j]? = some (-y, y) := List.getElem?_set_self (lt_of_at o1)
          have a1 := t1.snd hs1
          have z1 := t1.frozen (by rw [pairs_length, List.length_set]; have := lt_of_at o1; omega) (off + j * 2 + 1)
          have t2' := t1.setS hs1 x
          rw [List.set_set, show ((-y, x) : Int × Int) = rot (x, y) from rfl, o2] at t2'
          have e' := ((e.alloc (.cells #[.int .i64 x, .int .i64 y] 49)).setCell (p := ⟨g, off + j * 2, none⟩) (by show _ ≤ g; omega) (.int .i64 (-y))).setCell (p := ⟨g, off + j * 2 + 1, none⟩) (by show _ ≤ g; omega) (.int .i64 x)
          have HZ := Lib.hid (And.intro t2' e')
          clear s s' t1 t2' e e' o1 o2 hxy hs1 hlen
          go_wp2
          go_roundw
          case rel => exact ⟨j + 1, by omega, by go_num, HZ.out.1, HZ.out.2, by simp only [World.size_alloc, World.size_setCell]; omega⟩
          case measure => simp [intOf]; omega
        · have hjn : j = n := by omega
          rw [hjn, over_end (by rw [List.length_map]; exact HLQ.out) HLQ.out, ← HTS.out] at s
          have hd : decide (j < n) = false := by simpa using hlt2
          clear hjn
          go_wp2
          go_roundw
          case rel => exact ⟨q + 1, by omega, by go_num, s, e, hz⟩
          case measure => simp [intOf]; omega
    · have hqk : q = K := by omega
      rw [hqk] at s
      have hd : decide (q < K) = false := by simpa using hlt
      clear hqk
      go_wp2
      go_ret2
      exact ⟨_, c2, rfl, s.full.mono hw1 (Nat.le_refl _), e⟩
end Go.Proofs.Ytebjdchfofhmhaa
