/-
  The contract of CleanRun of the reference.
-/
import Derived.Test.YtbafniaohjjacabCleanRun
namespace Go.Proofs.Ytbafniaohjjacab
open Go.RowKit

theorem heap_kept {W W' : World} {lo hi H : Nat} {x : Obj} (c : Chg lo hi W W') (hc : H < lo ∨ hi ≤ H) (h : W.heap[H]? = some x) : W'.heap[H]? = some x := heap_keep c h hc
theorem RetCIBO.no {w w' : World} {E : TypeId} {m l b : List Int} {k : Int} (h : crB m l b k = false) (x : Ext w w') : RetCIBO w E (crM m l b k) (crL m l b k) (crN m l b k) (crB m l b k) (.returned (.tuple #[.agg #[.slice none 0 0, .slice none 0 0], .int .i64 0, .bool false])) w' := by
  rw [h]
  exact RetCIBO.nil (by simp [crM, h]) (by simp [crL, h]) (by simp [crN, h]) x
set_option maxHeartbeats 2000000 in
theorem specCleanRun_own (A B D : Option Addr) (n c m d p q : Nat) (xs ys bs : List Int) (many : Int) (w : World) (h1 : xs.length = n) (h2 : ys.length = m) (h3 : bs.length = p) (z1 : n ≤ 1048576) (z2 : m ≤ 1048576) (z3 : p ≤ 1048576)
    (r1 : Rd w w.heap.size A n c (ints xs)) (r2 : Rd w w.heap.size B m d (ints ys)) (r3 : Rd w w.heap.size D p q (ints bs)) :
    Calls Try.prog 13 #[.agg #[.slice A n c, .slice B m d], .slice D p q, .int .i64 many] w (RetCIBO w 3 (crM xs ys bs many) (crL xs ys bs many) (crN xs ys bs many) (crB xs ys bs many)) := by
  have x0 : Ext w ((w.alloc (.cells #[.slice A n c, .slice B m d] 25)).alloc (.cells #[.slice none 0 0, .slice none 0 0] 25)) := ((Ext.refl w).alloc _).alloc _
  have HC := Lib.hid (l24Valid_any A B n c m d xs ys _ h1 h2 z1 z2 (r1.ext x0) (r2.ext x0))
  have HD := Lib.hid (fun (W : World) (x : Ext w W) => specSkyValid_any D p q bs W h3 (by omega) (r3.ext x))
  have HI := Lib.hid (fun (W : World) => l6In_any many 0 200 W)
  have S1 := Lib.hid ((St.new w #[.slice A n c, .slice B m d] 25).ext ((Ext.refl _).alloc (.cells #[.slice none 0 0, .slice none 0 0] 25)))
  have S2 := Lib.hid (St.new (w.alloc (.cells #[.slice A n c, .slice B m d] 25)) #[.slice none 0 0, .slice none 0 0] 25)
  rw [World.size_alloc] at S2
  rcases hv : (svB xs && svB ys) with _ | _
  · rw [hv] at HC
    have HB : Hid (crB xs ys bs many = false) := by show _ = _; simp only [crB, hv, Bool.false_and]
    clear h1 h2 h3 r1 r2 r3 hv
    go_enter Try.func13, Try.ntmps13
    go_wp2_with fail
    refine HC.out.mono ?_
    rintro e w1 ⟨rfl, x1⟩
    have T := S2.out.ext x1
    have k0 := T.cell0
    have k1 := T.cell1
    have k2 := T.frozen 0
    have k3 := T.frozen 1
    have R := T.put2 (.slice none 0 0) (.slice none 0 0)
    have r0 := R.cell0
    have r1 := R.cell1
    have xx := (x0.trans x1).put2 (g := w.heap.size + 1) (by omega) (.slice none 0 0) (.slice none 0 0)
    clear T R
    go_wp2
    exact bodyPost_ret (v := .tuple #[.agg #[.slice none 0 0, .slice none 0 0], .int .i64 0, .bool false]) (by simp [results, Try.results13, go_sem, r0, r1]) rfl (RetCIBO.no HB.out xx)
  rw [hv] at HC
  rcases hb : svB bs with _ | _
  · rw [hb] at HD
    have HB : Hid (crB xs ys bs many = false) := by show _ = _; simp [crB, hb]
    clear h1 h2 h3 r1 r2 r3 hv hb
    go_enter Try.func13, Try.ntmps13
    go_wp2_with fail
    refine HC.out.mono ?_
    rintro e w1 ⟨rfl, x1⟩
    go_wp2_with fail
    refine (HD.out _ (x0.trans x1)).mono ?_
    rintro e w_ ⟨rfl, rfl⟩
    have T := S2.out.ext x1
    have k0 := T.cell0
    have k1 := T.cell1
    have k2 := T.frozen 0
    have k3 := T.frozen 1
    have R := T.put2 (.slice none 0 0) (.slice none 0 0)
    have r0 := R.cell0
    have r1 := R.cell1
    have xx := (x0.trans x1).put2 (g := w.heap.size + 1) (by omega) (.slice none 0 0) (.slice none 0 0)
    clear T R
    go_wp2
    exact bodyPost_ret (v := .tuple #[.agg #[.slice none 0 0, .slice none 0 0], .int .i64 0, .bool false]) (by simp [results, Try.results13, go_sem, r0, r1]) rfl (RetCIBO.no HB.out xx)
  rw [hb] at HD
  by_cases hm : 0 ≤ many ∧ many ≤ 200
  case neg =>
    have hd : decide (0 ≤ many ∧ many ≤ 200) = false := by simpa using hm
    rw [hd] at HI
    have HB : Hid (crB xs ys bs many = false) := crB_range hm
    clear h1 h2 h3 r1 r2 r3 hv hb hm hd
    go_enter Try.func13, Try.ntmps13
    go_wp2_with fail
    refine HC.out.mono ?_
    rintro e w1 ⟨rfl, x1⟩
    go_wp2_with fail
    refine (HD.out _ (x0.trans x1)).mono ?_
    rintro e w_ ⟨rfl, rfl⟩
    go_wp2_with fail
    refine (HI.out _).mono ?_
    rintro e w_ ⟨rfl, rfl⟩
    have T := S2.out.ext x1
    have k0 := T.cell0
    have k1 := T.cell1
    have k2 := T.frozen 0
    have k3 := T.frozen 1
    have R := T.put2 (.slice none 0 0) (.slice none 0 0)
    have r0 := R.cell0
    have r1 := R.cell1
    have xx := (x0.trans x1).put2 (g := w.heap.size + 1) (by omega) (.slice none 0 0) (.slice none 0 0)
    clear T R
    go_wp2
    exact bodyPost_ret (v := .tuple #[.agg #[.slice none 0 0, .slice none 0 0], .int .i64 0, .bool false]) (by simp [results, Try.results13, go_sem, r0, r1]) rfl (RetCIBO.no HB.out xx)
  have hd : decide (0 ≤ many ∧ many ≤ 200) = true := by simpa using hm
  rw [hd] at HI
  have hm0 : ¬ many < 0 := by omega
  have hm1 : ¬ 200 < many := by omega
  clear hd hm
  obtain ⟨K, rfl⟩ := Int.eq_ofNat_of_zero_le (show 0 ≤ many by omega)
  have hp := hv
  simp only [Bool.and_eq_true] at hp
  have hB : crB xs ys bs K = true := by simp only [crB, hp.1, hp.2, hb, Bool.true_and, Bool.and_eq_true, decide_eq_true_eq]; omega
  obtain rfl : n = 16 := by rw [← h1]; exact svB_16 hp.1
  obtain rfl : m = 16 := by rw [← h2]; exact svB_16 hp.2
  obtain rfl : p = 16 := by rw [← h3]; exact svB_16 hb
  obtain ⟨ga, offa, rfl⟩ := r1.addr (by rw [ints_length, h1]; omega)
  obtain ⟨gb, offb, rfl⟩ := r2.addr (by rw [ints_length, h2]; omega)
  have HR1 := Lib.hid (fun (W : World) (x : Ext w W) => r1.ext x)
  have HR2 := Lib.hid (fun (W : World) (x : Ext w W) => r2.ext x)
  have HLn1 : Hid ((ints xs).length = 16 * 1) := by show _ = _; rw [ints_length, h1]
  have HLn2 : Hid ((ints ys).length = 16 * 1) := by show _ = _; rw [ints_length, h2]
  have HR3 := Lib.hid (fun (W : World) (x : Ext w W) => r3.ext x)
  have H3 := Lib.hid h3
  have HLY := Lib.hid h2
  have HV1 := Lib.hid hp.1
  have HV2 := Lib.hid hp.2
  have HBB := Lib.hid hB
  have hK1 : K ≤ 200 := by omega
  rw [hB]
  clear h1 h2 h3 r1 r2 r3 hv hb hp hB hm0 hm1
  go_enter Try.func13, Try.ntmps13
  go_wp2_with fail
  refine HC.out.mono ?_
  rintro e w1 ⟨rfl, x1⟩
  go_wp2_with fail
  refine (HD.out _ (x0.trans x1)).mono ?_
  rintro e w_ ⟨rfl, rfl⟩
  go_wp2_with fail
  refine (HI.out _).mono ?_
  rintro e w_ ⟨rfl, rfl⟩
  have E1 := x0.trans x1
  have SB := Lib.hid (S1.out.ext x1)
  have SR := Lib.hid (S2.out.ext x1)
  have k0 := SB.out.cell0
  have k1 := SB.out.cell1
  have z1 := E1.size
  have zr := SR.out.lt
  clear HC HD S1 S2 x0 x1
  go_wp2_with fail
  have tok1 : True := trivial
  go_cut [9] (fun v wx => RunAt true w 25 xs ys v wx)
  case first =>
    go_region_held3 (fun w' => w'.cell? ⟨w.heap.size, 0, none⟩ = some (.slice (some ⟨ga, offa, none⟩) 16 c) ∧ w'.cell? ⟨w.heap.size, 1, none⟩ = some (.slice (some ⟨gb, offb, none⟩) 16 d)) (exact ⟨(SB.out.ext (by repeat (first | (with_reducible exact Ext.refl _) | (with_reducible assumption) | (with_reducible refine Ext.drew ?_) | (with_reducible refine Ext.alloc ?_ _) | (with_reducible refine Ext.setCell ?_ (by first | omega | (simp; done) | (simp; omega)) _)))).cell0, (SB.out.ext (by repeat (first | (with_reducible exact Ext.refl _) | (with_reducible assumption) | (with_reducible refine Ext.drew ?_) | (with_reducible refine Ext.alloc ?_ _) | (with_reducible refine Ext.setCell ?_ (by first | omega | (simp; done) | (simp; omega)) _)))).cell1⟩)
      (first
        | (have _t := tok1; refine step_appE (by rfl) _ _ _ (by rfl) 3 (.int .i64 0) 8 I.infoInt Try.underlying23 rfl _ (by rfl) (by (repeat (first | ((refine heap_new ?_); (first | rfl | (simp; done))) | (with_reducible refine heap_old ?_) | (with_reducible refine heap_drew ?_) | ((with_reducible refine heap_kept ch3 ?_ ?_); (focus ((try simp only [World.size_alloc, World.size_drew]); omega))) | ((with_reducible refine heap_kept ch4 ?_ ?_); (focus ((try simp only [World.size_alloc, World.size_drew]); omega)))))) ga offa 16 c (ints xs) (by rfl) HLn1.out (HR1.out _ (E1.trans (by repeat (first | (with_reducible exact Ext.refl _) | (with_reducible assumption) | (with_reducible refine Ext.drew ?_) | (with_reducible refine Ext.alloc ?_ _))))) (ints_one xs) (by omega) (by omega) (by omega) ?_; intro g3 c3 w3 s3 hg3 hl3 ch3 ow3; clear tok1 _t; have E3 : Ext w1 w3 := Ext.more (by repeat (first | (with_reducible exact Ext.refl _) | (with_reducible assumption) | (with_reducible refine Ext.drew ?_) | (with_reducible refine Ext.alloc ?_ _))) ch3 (by (try simp only [World.size_alloc, World.size_drew]); omega); have z3 := ch3.size; (try simp only [World.size_alloc, World.size_drew] at z3 hg3))
        | (refine step_appE (by rfl) _ _ _ (by rfl) 3 (.int .i64 0) 8 I.infoInt Try.underlying23 rfl _ (by rfl) (by (repeat (first | ((refine heap_new ?_); (first | rfl | (simp; done))) | (with_reducible refine heap_old ?_) | (with_reducible refine heap_drew ?_) | ((with_reducible refine heap_kept ch3 ?_ ?_); (focus ((try simp only [World.size_alloc, World.size_drew]); omega))) | ((with_reducible refine heap_kept ch4 ?_ ?_); (focus ((try simp only [World.size_alloc, World.size_drew]); omega)))))) gb offb 16 d (ints ys) (by rfl) HLn2.out (HR2.out _ (E1.trans (by repeat (first | (with_reducible exact Ext.refl _) | (with_reducible assumption) | (with_reducible refine Ext.drew ?_) | (with_reducible refine Ext.alloc ?_ _))))) (ints_one ys) (by omega) (by omega) (by omega) ?_; intro g4 c4 w4 s4 hg4 hl4 ch4 ow4; have E4 : Ext w1 w4 := Ext.more (by repeat (first | (with_reducible exact Ext.refl _) | (with_reducible assumption) | (with_reducible refine Ext.drew ?_) | (with_reducible refine Ext.alloc ?_ _))) ch4 (by (try simp only [World.size_alloc, World.size_drew]); omega); have z4 := ch4.size; (try simp only [World.size_alloc] at z4 hg4); (try (refine cutP (P := St w4 (w1.heap.size) #[.slice none 0 0, .slice none 0 0] 25) ?_ ?_; (focus ((show w4.heap[(w1.heap.size)]? = some (.cells #[.slice none 0 0, .slice none 0 0] 25 (0, 0))); (repeat (first | ((refine heap_new ?_); (first | rfl | (simp; done))) | (with_reducible refine heap_old ?_) | (with_reducible refine heap_drew ?_) | ((with_reducible refine heap_kept ch3 ?_ ?_); (focus ((try simp only [World.size_alloc, World.size_drew]); omega))) | ((with_reducible refine heap_kept ch4 ?_ ?_); (focus ((try simp only [World.size_alloc, World.size_drew]); omega))))); done)); intro q; have q0 := q.cell0; have q1 := q.cell1; have q2 := q.frozen 0; have q3 := q.frozen 1; have q4 := q.lt; have q5 := Nat.ne_of_lt q4; have Q := Lib.hid q; clear q)); (try (refine cutP (P := St w4 (w1.heap.size + 1) #[.slice none 0 0, .slice none 0 0] 25) ?_ ?_; (focus ((show w4.heap[(w1.heap.size + 1)]? = some (.cells #[.slice none 0 0, .slice none 0 0] 25 (0, 0))); (repeat (first | ((refine heap_new ?_); (first | rfl | (simp; done))) | (with_reducible refine heap_old ?_) | (with_reducible refine heap_drew ?_) | ((with_reducible refine heap_kept ch3 ?_ ?_); (focus ((try simp only [World.size_alloc, World.size_drew]); omega))) | ((with_reducible refine heap_kept ch4 ?_ ?_); (focus ((try simp only [World.size_alloc, World.size_drew]); omega))))); done)); intro q; have q0 := q.cell0; have q1 := q.cell1; have q2 := q.frozen 0; have q3 := q.frozen 1; have q4 := q.lt; have q5 := Nat.ne_of_lt q4; have Q := Lib.hid q; clear q)); (try (refine cutP (P := St w4 (w1.heap.size + 1 + 1) #[.slice none 0 0, .slice none 0 0] 25) ?_ ?_; (focus ((show w4.heap[(w1.heap.size + 1 + 1)]? = some (.cells #[.slice none 0 0, .slice none 0 0] 25 (0, 0))); (repeat (first | ((refine heap_new ?_); (first | rfl | (simp; done))) | (with_reducible refine heap_old ?_) | (with_reducible refine heap_drew ?_) | ((with_reducible refine heap_kept ch3 ?_ ?_); (focus ((try simp only [World.size_alloc, World.size_drew]); omega))) | ((with_reducible refine heap_kept ch4 ?_ ?_); (focus ((try simp only [World.size_alloc, World.size_drew]); omega))))); done)); intro q; have q0 := q.cell0; have q1 := q.cell1; have q2 := q.frozen 0; have q3 := q.frozen 1; have q4 := q.lt; have q5 := Nat.ne_of_lt q4; have Q := Lib.hid q; clear q)); (try (refine cutP (P := St w4 (w3.heap.size) #[.slice none 0 0, .slice none 0 0] 25) ?_ ?_; (focus ((show w4.heap[(w3.heap.size)]? = some (.cells #[.slice none 0 0, .slice none 0 0] 25 (0, 0))); (repeat (first | ((refine heap_new ?_); (first | rfl | (simp; done))) | (with_reducible refine heap_old ?_) | (with_reducible refine heap_drew ?_) | ((with_reducible refine heap_kept ch3 ?_ ?_); (focus ((try simp only [World.size_alloc, World.size_drew]); omega))) | ((with_reducible refine heap_kept ch4 ?_ ?_); (focus ((try simp only [World.size_alloc, World.size_drew]); omega))))); done)); intro q; have q0 := q.cell0; have q1 := q.cell1; have q2 := q.frozen 0; have q3 := q.frozen 1; have q4 := q.lt; have q5 := Nat.ne_of_lt q4; have Q := Lib.hid q; clear q)); (try (refine cutP (P := St w4 (w3.heap.size + 1) #[.slice none 0 0, .slice none 0 0] 25) ?_ ?_; (focus ((show w4.heap[(w3.heap.size + 1)]? = some (.cells #[.slice none 0 0, .slice none 0 0] 25 (0, 0))); (repeat (first | ((refine heap_new ?_); (first | rfl | (simp; done))) | (with_reducible refine heap_old ?_) | (with_reducible refine heap_drew ?_) | ((with_reducible refine heap_kept ch3 ?_ ?_); (focus ((try simp only [World.size_alloc, World.size_drew]); omega))) | ((with_reducible refine heap_kept ch4 ?_ ?_); (focus ((try simp only [World.size_alloc, World.size_drew]); omega))))); done)); intro q; have q0 := q.cell0; have q1 := q.cell1; have q2 := q.frozen 0; have q3 := q.frozen 1; have q4 := q.lt; have q5 := Nat.ne_of_lt q4; have Q := Lib.hid q; clear q))))
    all_goals go_wp2_with fail
    all_goals go_meet
    all_goals first
      | exact ⟨_, rfl, run_put Q.out (SR.out.ext E4) ((s3.ext (by repeat (first | (with_reducible exact Ext.refl _) | (with_reducible assumption) | (with_reducible refine Ext.drew ?_) | (with_reducible refine Ext.alloc ?_ _)))).chg ch4 (by omega)) s4 (E1.trans E4) (by omega) (by omega) (by omega) (by omega) (by omega) (by omega) (by omega) (by omega) HLY.out (fun _ => ⟨_, ow4⟩)⟩
      | exact ⟨_, rfl, run_new (SR.out.ext E4) ((s3.ext (by repeat (first | (with_reducible exact Ext.refl _) | (with_reducible assumption) | (with_reducible refine Ext.drew ?_) | (with_reducible refine Ext.alloc ?_ _)))).chg ch4 (by omega)) s4 (E1.trans E4) (by omega) (by omega) (by omega) (by omega) (by omega) HLY.out (fun _ => ⟨_, ow4⟩)⟩
  case rest =>
    obtain ⟨g, rfl, hrun⟩ := hcut
    clear k0 k1
    go_wp2_with fail
    go_loopw [10] (fun i wr => ∃ k : Nat, k ≤ K ∧ i = .int .i64 k ∧ Hid (goes bs (xs, ys) k) ∧ Run true w 25 g (itC bs k (xs, ys)).1 (itC bs k (xs, ys)).2 wr) (fun i _ => K - (intOf i).toNat)
    case atStart => exact ⟨0, Nat.zero_le _, rfl, fun i hi => by omega, hrun⟩
    case round =>
      clear hrun
      obtain ⟨k, hk, rfl, hgo, A6, c6, B6, d6, l1, i1, l2, i2, Sg, SR2, s6, t6, o1, o2, o3, o4, o5, o6, o7, o8, E6, OW⟩ := hrel
      have OWH := Lib.hid (OW rfl)
      clear OW
      have hl := len16 HV1.out HV2.out hgo.out
      by_cases hlt : k < K
      · have kc0 := Sg.cell0
        have kc1 := Sg.cell1
        have HCS := Lib.hid (specCleanStep_own A6 B6 D 16 c6 16 d6 16 q (itC bs k (xs, ys)).1 (itC bs k (xs, ys)).2 bs wr hl.1 hl.2 H3.out (by omega) (by omega) (by omega) s6.rd t6.rd (HR3.out _ E6))
        have HL := Lib.hid hl
        clear hl
        go_wp2_with fail
        refine HCS.out.mono ?_
        rintro e w7 ⟨A7, c7, B7, d7, rfl, t7, x7, ow7⟩
        clear kc0 kc1
        have Sg7 := Sg.ext x7
        have SR7 := SR2.ext x7
        have kg0 := Sg7.cell0
        have kg1 := Sg7.cell1
        have kg2 := Sg7.frozen 0
        have kg3 := Sg7.frozen 1
        have kg4 := Sg7.lt
        have kg5 := Nat.ne_of_lt kg4
        have kr0 := SR7.cell0
        have kr1 := SR7.cell1
        have kr2 := SR7.frozen 0
        have kr3 := SR7.frozen 1
        have kr4 := SR7.lt
        have kr5 := Nat.ne_of_lt kr4
        have z7 := x7.size
        rcases hst : stB (itC bs k (xs, ys)).1 (itC bs k (xs, ys)).2 bs with _ | _
        · have HEND := Lib.hid (run_end HBB.out hk hgo.out (fun _ => hst))
          clear hst
          have r0 := fun (o : Obj) => ((SR7.put2 (.slice A6 16 c6) (.slice B6 16 d6)).ext ((Ext.refl _).alloc o)).cell0
          have r1 := fun (o : Obj) => ((SR7.put2 (.slice A6 16 c6) (.slice B6 16 d6)).ext ((Ext.refl _).alloc o)).cell1
          have HR0 := Lib.hid r0
          have HR1 := Lib.hid r1
          clear r0 r1
          have xx := fun (o : Obj) => ((E6.trans x7).put2 (g := w.heap.size + 1) (by omega) (.slice A6 16 c6) (.slice B6 16 d6)).alloc o
          have TT := fun (o : Obj) => ((Two.of (lo := w.heap.size + 1 + 1) (hi := w7.heap.size) (s6.ext x7) (t6.ext x7) o1 (by omega) (by omega) (by omega) (by omega)).put2 (g := w.heap.size + 1) (by omega) (.slice A6 16 c6) (.slice B6 16 d6)).ext ((Ext.refl _).alloc o)
          have HXX := Lib.hid xx
          have HTT := Lib.hid TT
          clear xx TT
          go_wp2
          refine bodyPost_ret (v := .tuple #[.agg #[.slice A6 16 c6, .slice B6 16 d6], .int .i64 k, .bool true]) (by simp [results, Try.results13, go_sem, HR0.out, HR1.out]) rfl ?_
          obtain ⟨e1, e2, e3⟩ := HEND.out
          exact RetCIBO.mk' e1.symm e2.symm e3.symm HL.out.1.symm HL.out.2.symm (HTT.out _) (by omega) (by simp) (HXX.out _) (own_ext (own_put2 (own_ext OWH.out x7) (own_low OWH.out (by omega)) _ _) ((Ext.refl _).alloc _)) (by omega)
        · have HST := Lib.hid hst
          clear hst
          have e1 : csM (itC bs k (xs, ys)).1 (itC bs k (xs, ys)).2 bs = (itC bs (k + 1) (xs, ys)).1 := by simp [csM, HST.out, itC, nxC]
          have e2 : csL (itC bs k (xs, ys)).1 (itC bs k (xs, ys)).2 bs = (itC bs (k + 1) (xs, ys)).2 := by simp [csL, HST.out, itC, nxC]
          have hgo2 : goes bs (xs, ys) (k + 1) := goes_succ hgo.out HST.out
          have hl2 := len16 HV1.out HV2.out hgo2
          rw [e1, e2, hl2.1, hl2.2] at t7
          rw [e1, e2, hl2.1, hl2.2]
          have HGO2 := Lib.hid hgo2
          have HLY2 := Lib.hid hl2.2
          rw [e2, hl2.2] at ow7
          have OWN7 : true = true → ∃ base, w7.ownsRow base 3 1 (.slice B7 16 d7) 16 (ints (itC bs (k + 1) (xs, ys)).2) := fun _ => ⟨_, ow7⟩
          clear e1 e2 hl2 hgo2
          obtain ⟨j1, m1, j2, m2, a1, a2, a3, a4, ap, p7, v7⟩ := t7
          have gl := Sg.lt
          have rl := SR2.lt
          have RN := Lib.hid (fun (o : Obj) => (run_put (w := w) Sg7 SR7 p7 v7 (E6.trans x7) ap a2 a4 (.inl (by omega)) (.inl (by omega)) (by omega) (by omega) o8 HLY2.out OWN7).ext ((Ext.refl _).alloc o))
          go_wp2
          go_roundw
          case rel => exact ⟨k + 1, by omega, by go_num, HGO2.out, RN.out _⟩
          case measure => simp [intOf]; omega
      · obtain rfl : k = K := by omega
        have HEND := Lib.hid (run_end HBB.out hk hgo.out (fun h => by omega))
        have HL := Lib.hid hl
        clear hl
        have kg0 := Sg.cell0
        have kg1 := Sg.cell1
        have kr0 := SR2.cell0
        have kr1 := SR2.cell1
        have kr2 := SR2.frozen 0
        have kr3 := SR2.frozen 1
        have R := SR2.put2 (.slice A6 16 c6) (.slice B6 16 d6)
        have r0 := R.cell0
        have r1 := R.cell1
        have xx := E6.put2 (g := w.heap.size + 1) (by omega) (.slice A6 16 c6) (.slice B6 16 d6)
        have TT := (Two.of (lo := w.heap.size + 1 + 1) (hi := wr.heap.size) s6 t6 o1 (by omega) (by omega) (by omega) (by omega)).put2 (g := w.heap.size + 1) (by omega) (.slice A6 16 c6) (.slice B6 16 d6)
        clear R
        go_wp2
        refine bodyPost_ret (v := .tuple #[.agg #[.slice A6 16 c6, .slice B6 16 d6], .int .i64 k, .bool true]) (by simp [results, Try.results13, go_sem, r0, r1]) rfl ?_
        obtain ⟨e1, e2, e3⟩ := HEND.out
        exact RetCIBO.mk' e1.symm e2.symm e3.symm HL.out.1.symm HL.out.2.symm TT (by omega) (by simp) xx (own_put2 OWH.out (own_low OWH.out (by omega)) _ _) (by omega)
theorem specCleanRun_any (A B D : Option Addr) (n c m d p q : Nat) (xs ys bs : List Int) (many : Int) (w : World) (h1 : xs.length = n) (h2 : ys.length = m) (h3 : bs.length = p) (z1 : n ≤ 1048576) (z2 : m ≤ 1048576) (z3 : p ≤ 1048576)
    (r1 : Rd w w.heap.size A n c (ints xs)) (r2 : Rd w w.heap.size B m d (ints ys)) (r3 : Rd w w.heap.size D p q (ints bs)) :
    Calls Try.prog 13 #[.agg #[.slice A n c, .slice B m d], .slice D p q, .int .i64 many] w (RetCIB w 3 (crM xs ys bs many) (crL xs ys bs many) (crN xs ys bs many) (crB xs ys bs many)) := (specCleanRun_own A B D n c m d p q xs ys bs many w h1 h2 h3 z1 z2 z3 r1 r2 r3).mono fun _ _ h => h.cib
end Go.Proofs.Ytbafniaohjjacab
