import Derived.Test.YtenfomejccfkgaaKFnExactCountRefs4
import Derived.Test.YtenfomejccfkgaaKFnExactCountRefs15
namespace Go.Proofs.Ytenfomejccfkgaa.X
open Go.RowKit Go.Proofs.YtenfomejccfkgaaW.PrintWords Go.Proofs.YtenfomejccfkgaaW.PrintLast Go.Proofs.YtenfomejccfkgaaW.PrintMore
attribute [local go_sem] qaC qaD qaE qay qaz qaO qaP qas qat qaA qaB
set_option linter.unusedVariables false
set_option linter.unusedSimpArgs false
mutual
def qaq.l0 : Nat → List Int → List Bool → Int → List (S56) → Option (List Bool × Bool)
 | 0, _, _, _, _ => none
 | k + 1, x1, x6, x7, x438000 => if x7 < (x1.length : Int) then (if 0 ≤ x7 then ((qci.f x438000 (rd x1 x7)).bind fun bt442 => (if bt442.2.2 = true then (qaq.l1 k x1 x6 x7 bt442.2.1 0 x438000) else (some (x6, false)))) else (none)) else (some (x6, true))
def qaq.l1 : Nat → List Int → List Bool → Int → List Bool → Int → List (S56) → Option (List Bool × Bool)
 | 0, _, _, _, _, _, _ => none
 | k + 1, x1, x6, x7, x9, x11, x438000 => if x11 < 50 then (if 0 ≤ x11 then (if x11 < (x6.length : Int) then (if rdOf false x6 x11 = true then (qaq.l1 k x1 (x6.set (x11 : Int).toNat true) x7 x9 (wrap64 (x11 + 1)) x438000) else (if x11 < (x9.length : Int) then (qaq.l1 k x1 (x6.set (x11 : Int).toNat (rdOf false x9 x11)) x7 x9 (wrap64 (x11 + 1)) x438000) else (none))) else (none)) else (none)) else (qaq.l0 k x1 x6 (wrap64 (x7 + 1)) x438000)
end
def qaq.f (k : Nat) (l0_0 : List (S56)) (l1 : List Int) : Option (List Bool × Bool) := if 50 ≤ 281474976710656 then (qaq.l0 k l1 (List.replicate 50 false) 0 l0_0) else (none)
theorem qaq.qbm : ∀ k, (∀ y0 y1 y2 y3, LeO (qaq.l0 k y0 y1 y2 y3) (qaq.l0 (k + 1) y0 y1 y2 y3)) ∧ (∀ y0 y1 y2 y3 y4 y5, LeO (qaq.l1 k y0 y1 y2 y3 y4 y5) (qaq.l1 (k + 1) y0 y1 y2 y3 y4 y5))
 | 0 => ⟨fun _ _ _ _ r h => by simp [qaq.l0] at h, fun _ _ _ _ _ _ r h => by simp [qaq.l1] at h⟩
 | k + 1 => by
  obtain ⟨ih0, ih1⟩ := qaq.qbm k
  refine ⟨?_, ?_⟩
  ·intro y0 y1 y2 y3
   unfold qaq.l0
   repeat' first
   | (with_reducible exact ih0 _ _ _ _)
   | (with_reducible exact ih1 _ _ _ _ _ _)
   | (with_reducible exact LeO.refl _)
   | (with_reducible exact LeO.none _)
   | (with_reducible refine LeO.ite ?_ ?_)
   | (with_reducible refine LeO.bind ?_ (fun _ => ?_))
   | exact ih0 _ _ _ _
   | exact ih1 _ _ _ _ _ _
   | exact LeO.none _
   | refine LeO.ite ?_ ?_
   | refine LeO.bind ?_ (fun _ => ?_)
  ·intro y0 y1 y2 y3 y4 y5
   unfold qaq.l1
   repeat' first
   | (with_reducible exact ih0 _ _ _ _)
   | (with_reducible exact ih1 _ _ _ _ _ _)
   | (with_reducible exact LeO.refl _)
   | (with_reducible exact LeO.none _)
   | (with_reducible refine LeO.ite ?_ ?_)
   | (with_reducible refine LeO.bind ?_ (fun _ => ?_))
   | exact ih0 _ _ _ _
   | exact ih1 _ _ _ _ _ _
   | exact LeO.none _
   | refine LeO.ite ?_ ?_
   | refine LeO.bind ?_ (fun _ => ?_)
theorem qaq.mono : ∀ a0 a1 k, LeO (qaq.f k a0 a1) (qaq.f (k + 1) a0 a1) := by
 intro a0 a1 k
 obtain ⟨ih0, ih1⟩ := qaq.qbm k
 unfold qaq.f
 repeat' first
   | (with_reducible exact ih0 _ _ _ _)
   | (with_reducible exact ih1 _ _ _ _ _ _)
   | (with_reducible exact LeO.refl _)
   | (with_reducible exact LeO.none _)
   | (with_reducible refine LeO.ite ?_ ?_)
   | (with_reducible refine LeO.bind ?_ (fun _ => ?_))
   | exact ih0 _ _ _ _
   | exact ih1 _ _ _ _ _ _
   | exact LeO.none _
   | refine LeO.ite ?_ ?_
   | refine LeO.bind ?_ (fun _ => ?_)
def qaq.T5 : Bool × List (List Nat × List Nat) := (true, [([], []), ([], []), ([], []), ([1, 2], [1, 2]), ([3], [3]), ([0, 4], [0, 4]), ([5], [5]), ([6], [6]), ([6], [6]), ([6], [6]), ([7, 5, 0, 1, 2, 3, 4, 5, 6, 7], [7]), ([8, 10, 0, 1, 2, 3, 4, 5, 6, 7, 8, 10], [8]), ([9, 11, 0, 1, 2, 3, 4, 5, 6, 7, 8, 9, 10, 11], [9])])
def qaq.B5 : List Nat := [0, 0, 0, 6, 14, 31, 63, 127, 127, 127, 255, 1535, 4095]
theorem qaq.tab5 : rtab .any (opsOf Try.f87 5) = qaq.T5 := by kernel_rfl
theorem qaq.bits5 : qbX qaq.T5.2 qaq.B5 = true := by kernel_rfl
set_option maxHeartbeats 8000000 in
set_option maxRecDepth 100000 in
theorem qaq.calls (k : Nat) (A0_0 : Option Addr) (c0_0 : Nat) (l0_0 : List (S56)) (A1 : Option Addr) (c1 : Nat) (l1 : List Int) (r1 : List Bool) (r2 : Bool) (w : World) (hr0_0 : Kd.C k56 w A0_0 l0_0.length l0_0) (hc0_0 : l0_0.length ≤ c0_0) (hr1 : Kd.C (Kd.int .i64) w A1 l1.length l1) (hc1 : l1.length ≤ c1) (h : qaq.f k l0_0 l1 = some (r1, r2)) :
  Calls Try.prog 87 #[.agg #[.slice A0_0 l0_0.length c0_0], .slice A1 l1.length c1] w fun e w' => ∃ v0_ : Value, e = .returned (.tuple #[v0_, .bool r2]) ∧ Kd.R Kd.bool 4 w' w.heap.size (fun _ => True) v0_ r1 ∧ Below w.heap.size w w' := by
 have hu29 := Try.underlying29
 have HR0_0 := Aside0.mk hr0_0
 have HC0_0 := Aside0.mk hc0_0
 clear hr0_0 hc0_0
 have HR1 := Aside0.mk hr1
 have HC1 := Aside0.mk hc1
 clear hr1 hc1
 have HB := Aside0.mk (Below.refl w.heap.size w)
 have H : (if 50 ≤ 281474976710656 then (qaq.l0 k l1 (List.replicate 50 false) 0 l0_0) else (none)) = some (r1, r2) := h
 clear h
 by_cases c3 : 50 ≤ 281474976710656
 ·rw [if_pos c3] at H
  have c3b0 := eq_true c3
  have c3b1 : decide (50 ≤ 281474976710656) = true := decide_eq_true c3
  clear c3
  obtain ⟨y438, hy438⟩ : ∃ y_ : List Bool, y_ = (List.replicate 50 false) := ⟨_, rfl⟩
  replace H : (qaq.l0 k l1 y438 0 l0_0) = some (r1, r2) := by first | (rw [hy438]; with_reducible exact H) | (have H2_ := (Option.bind_some _ _).symm.trans H; rw [hy438]; with_reducible exact H2_) | (have H2_ := (Option.bind_some _ _).symm.trans H; with_reducible exact H2_) | with_reducible exact H | (rw [hy438]; exact H) | exact H
  have Ny438 := Aside0.mk hy438
  clear hy438
  have H' := Aside0.mk H
  clear H
  go_enter Try.func87, Try.ntmps87
  go_wp2_with (first | ((with_reducible refine qaQ (N := 2) rfl ?_); refine qaL ?hg (N := 2) ?hd (cs := #[.slice A0_0 l0_0.length c0_0]) (t := 29) ?hr ?_; (case hd => rfl); (case hg => rfl); (case hr => first | (go_simp; done) | (go_simp; rfl)); intro gb437 hg w4 hbox hb; have n0_ := Aside0.mk (qai (by repeat (first | (with_reducible first | exact HB.out | apply qab | apply qaa | apply qac) | exact HB.out)) hb); have n1_ := Aside0.mk (hbox); have n2_ := Aside0.mk ((by rw [hg]; exact (qaj (by repeat (first | (with_reducible first | exact HB.out | apply qab | apply qaa | apply qac) | exact HB.out))) : w.heap.size ≤ gb437)); have n3_ := Aside0.mk ((by rw [hg]; exact (qaj (by repeat (first | (with_reducible first | exact HB.out | apply qab | apply qaa | apply qac) | exact HB.out))) : w.heap.size ≤ gb437)); clear HB; have HB := n0_; have BK437 := n1_; have GW437 := n2_; have GE437 := n3_; clear n0_ n1_ n2_ n3_; clear hb hbox hg) | ((with_reducible refine qaQ (N := 12) rfl ?_); refine Kd.qdL Kd.bool _ 4 rfl (N := 12) rfl 89 _ _ rfl 50 rfl rfl Try.underlying89 (.bool false) 1 info4 rfl (by decide) (by omega) false (ok := fun _ => True) (okp := fun _ => True) rfl (fun _ hk => hk) trivial (by omega) (by omega) (Below.refl _ _) (Nat.le_refl _) ?_; intro v439 w5 ho6 hb hg_ hnew_; clear hg_ hnew_; (first | rw [← Ny438.out] at ho6 | (simp only [Int.reduceToNat] at ho6; rw [← Ny438.out] at ho6)); have n0_ := Aside0.mk (Kd.qby ho6 (qaj (by repeat (first | (with_reducible first | exact HB.out | apply qab | apply qaa | apply qac | refine qaf ?_ GE437.out) | exact HB.out)))); have n1_ := Aside0.mk (qar (g := gb437) (o := .cells #[.slice A0_0 l0_0.length c0_0] 29 (0, 0)) (by (with_reducible repeat (first | refine qan ?_ _ | refine qao ?_ | refine qak ?_ _)); exact BK437.out) hb); have n2_ := Aside0.mk (qai (by repeat (first | (with_reducible first | exact HB.out | apply qab | apply qaa | apply qac | refine qaf ?_ GE437.out) | exact HB.out)) hb); clear BK437; clear HB; have HO440 := n0_; have BK437 := n1_; have HB := n2_; clear n0_ n1_ n2_; clear hb ho6))
  go_loopg [7] k (fun kq v7 w' => ∃ (x6_1 : List Bool) (x7_1 : Int), v7 = .int .i64 x7_1 ∧ Aside0 (qaq.l0 kq l1 x6_1 x7_1 l0_0 = some (r1, r2)) ∧ Aside0 (kq ≤ k) ∧ Aside0 (Kd.R Kd.bool 4 w' w.heap.size (fun _ => True) v439 x6_1) ∧ Aside0 (w'.heap[gb437]? = some (.cells #[(.slice A0_0 l0_0.length c0_0)] 29 (0, 0))) ∧ Aside0 (Below w.heap.size w w'))
  case atStart => exact ⟨(y438), (0), (by first | rfl | (simp; done) | (simp [*]; done)), H', ⟨Nat.le_refl _⟩, ⟨by (with_reducible repeat (first | apply Kd.qa3 | apply Kd.qa8 | apply Kd.qbi)); exact HO440.out⟩, ⟨by (with_reducible repeat (first | refine qan ?_ _ | refine qao ?_ | refine qak ?_ _)); exact BK437.out⟩, ⟨by repeat (first | (with_reducible first | exact HB.out | apply qab | apply qaa | apply qac | refine qaf ?_ GE437.out) | exact HB.out)⟩⟩
  case round =>
   clear H'
   try clear c1
   try clear p2
   try clear c3
   try clear c3b0
   try clear c3b1
   obtain ⟨x6_1, x7_1, rfl, HA, HK1, HO_6, BK437, HB⟩ := hrel
   cases gk with
   | zero => exact absurd HA.out (by simp [qaq.l0])
   | succ k1 =>
    have H := HA.out
    clear HA
    simp only [qaq.l0] at H
    by_cases c7 : x7_1 < (l1.length : Int)
    ·rw [if_pos c7] at H
     have c7b0 : decide (x7_1 < (l1.length : Int)) = true := decide_eq_true c7
     clear c7
     by_cases c8 : 0 ≤ x7_1
     ·rw [if_pos c8] at H
      have c8b0 : decide (0 ≤ x7_1) = true := decide_eq_true c8
      clear c8
      replace H := Option.bind_eq_some_iff.mp H
      obtain ⟨⟨t442, t445, t448⟩, A90, H⟩ := H
      replace H : (if t448 = true then (qaq.l1 k1 l1 x6_1 x7_1 t445 0 l0_0) else (some (x6_1, false))) = some (r1, r2) := H
      have A9 := Aside0.mk A90
      clear A90
      by_cases c10 : t448 = true
      ·subst c10
       have H1 : (qaq.l1 k1 l1 x6_1 x7_1 t445 0 l0_0) = some (r1, r2) := by rw [if_pos rfl] at H; exact H
       clear H
       have H := H1
       clear H1
       have H' := Aside0.mk H
       clear H
       try go_wp2
       have n0_ := Aside0.mk (Kd.qbi HO_6.out)
       have n1_ := Aside0.mk (qao BK437.out)
       have n2_ := Aside0.mk (qac HB.out)
       clear HO_6
       clear BK437
       clear HB
       have HO_6 := n0_
       have BK437 := n1_
       have HB := n2_
       clear n0_ n1_ n2_
       have p441 : 0 ≤ (x7_1 : Int) := of_decide_eq_true (by first | (with_reducible assumption) | assumption)
       have q441 : x7_1 < (l1.length : Int) := of_decide_eq_true (by first | (with_reducible assumption) | assumption)
       obtain ⟨ad441, e441, hx441_0⟩ := Kd.qbS HR1.out x7_1 p441 q441
       have hw441_0 := hx441_0
       cases e441
       replace hx441_0 := (HB.out.cell (World.block_lt_of_cell? w _ hx441_0)).trans hx441_0
       replace p441 := eq_true p441
       replace q441 := eq_true q441
       refine qcz (n := 13) (S := fun w' => w'.cell? ⟨gb437, 0, none⟩ = some (.slice A0_0 l0_0.length c0_0) ∧ w'.cell? (ad441.add (x7_1).toNat) = some (.int .i64 (rd l1 x7_1))) (ds := []) #[false, false, false, false, false, false, false, false, false, false, false, false, false] (by kernel_rfl) rfl rfl ⟨(qae BK437.out 0).trans rfl, ((HB.out.cell (World.block_lt_of_cell? w _ hw441_0)).trans hw441_0)⟩ (fun hHeld => ?_); refine qbU qaq.tab5 qaq.bits5 (fun HT_ HW_ => ?_)
       generalize wr.drew = w11 at HO_6 BK437 HB hx441_0 hHeld ⊢
       refine qcj (i := 1) (N := some 21) (v := ?_) (a' := ?_) #[false, true, false, false, false, false, false, false, false, false, false, false, false] rfl rfl (qbN HT_.out (by kernel_rfl)) (fun _ _ _ h => h) (Or.inl ⟨by rfl, ?_⟩) ?_ ?_
       rotate_left
       ·intro w'
        go_simp
        with_reducible rfl
       rotate_left
       ·simp only [Act.put, List.setIfInBounds_toArray, List.set_cons_zero, List.set_cons_succ, qaS, qbT]
        rfl
       refine qcj (i := 2) (N := some 22) (v := ?_) (a' := ?_) #[false, true, true, false, false, false, false, false, false, false, false, false, false] rfl rfl (qbN HT_.out (by kernel_rfl)) (fun _ _ _ h => h) (Or.inl ⟨by rfl, ?_⟩) ?_ ?_
       rotate_left
       ·intro w'
        go_simp
        with_reducible rfl
       rotate_left
       ·simp only [Act.put, List.setIfInBounds_toArray, List.set_cons_zero, List.set_cons_succ, qaS, qbT]
        rfl
       refine qcj (i := 3) (N := some 23) (v := ?_) (a' := ?_) #[false, true, true, true, false, false, false, false, false, false, false, false, false] rfl rfl (qbN HT_.out (by kernel_rfl)) (fun _ _ _ h => h) (Or.inl ⟨by rfl, ?_⟩) ?_ ?_
       rotate_left
       ·intro w'
        go_simp
        with_reducible rfl
       rotate_left
       ·simp only [Act.put, List.setIfInBounds_toArray, List.set_cons_zero, List.set_cons_succ, qaS, qbT]
        rfl
       refine qeY (i := 0) (N := some 20) (v := ?_) (a' := ?_) #[true, true, true, true, false, false, false, false, false, false, false, false, false] rfl rfl (qcM HT_.out HW_.out (by kernel_rfl)) (fun _ _ _ h => h) (Or.inl ⟨by rfl, ?_⟩) hHeld ?_ ?_
       rotate_left
       ·rintro w' ⟨s0, s1⟩
        go_simp
        with_reducible rfl
       rotate_left
       ·simp only [Act.put, List.setIfInBounds_toArray, List.set_cons_zero, List.set_cons_succ, qaS, qbT]
        rfl
       refine qeY (i := 4) (N := some 24) (v := ?_) (a' := ?_) #[true, true, true, true, true, false, false, false, false, false, false, false, false] rfl rfl (qcM HT_.out HW_.out (by kernel_rfl)) (fun _ _ _ h => h) (Or.inl ⟨by rfl, ?_⟩) hHeld ?_ ?_
       rotate_left
       ·rintro w' ⟨s0, s1⟩
        go_simp
        with_reducible rfl
       rotate_left
       ·simp only [Act.put, List.setIfInBounds_toArray, List.set_cons_zero, List.set_cons_succ, qaS, qbT]
        rfl
       refine one_ (i := 5) (N := some 25) #[true, true, true, true, true, true, false, false, false, false, false, false, false] rfl rfl (qgk HT_.out (by kernel_rfl)) (by decide) (fun K hK => ?_)
       refine qgw Try.func61 (by kernel_rfl) rfl #[.agg #[.slice A0_0 l0_0.length c0_0], .int .i64 (rd l1 x7_1)] (by rfl) rfl rfl (by (try simp only [List.map_toArray, List.map_cons, List.map_nil]); first | done | rfl | (simp only [List.length_drop, List.length_take]; rfl)) ?_
       with_reducible refine (qci.calls _ _ l0_0 (rd l1 x7_1) t442 t445 true _ ?side1 ?side2 A9.out).mono ?_
       (case side1 => repeat (first | exact (Kd.qav HR0_0.out HB.out) | (with_reducible refine Kd.qaM ?_ _) | (with_reducible refine Kd.qaN ?_ _) | (with_reducible refine Kd.qa2 ?_)))
       (case side2 => exact HC0_0.out)
       rintro e w12 ⟨v443, v446, rfl, ho0, ho1, hb⟩
       refine ⟨_, rfl, ?_⟩
       have n0_ := Aside0.mk (Kd.qgh (by (with_reducible repeat (first | apply Kd.qa3 | apply Kd.qa8 | apply Kd.qbi)); exact HO_6.out) (Kd.qeP ho1) hb)
       have n1_ := Aside0.mk (Kd.qby ho0 (qaj (by repeat (first | (with_reducible first | exact HB.out | apply qab | apply qaa | apply qac | refine qaf ?_ GE437.out) | exact HB.out))))
       have n2_ := Aside0.mk (Kd.qby (Kd.R_new' ho1 (Kd.R_lt (by (with_reducible repeat (first | apply Kd.qa3 | apply Kd.qa8 | apply Kd.qbi)); exact HO_6.out))) (qaj (by repeat (first | (with_reducible first | exact HB.out | apply qab | apply qaa | apply qac | refine qaf ?_ GE437.out) | exact HB.out))))
       have n3_ := Aside0.mk (qar (g := gb437) (o := .cells #[.slice A0_0 l0_0.length c0_0] 29 (0, 0)) (by (with_reducible repeat (first | refine qan ?_ _ | refine qao ?_ | refine qak ?_ _)); exact BK437.out) hb)
       have n4_ := Aside0.mk (qai (by repeat (first | (with_reducible first | exact HB.out | apply qab | apply qaa | apply qac | refine qaf ?_ GE437.out) | exact HB.out)) hb)
       clear HO_6
       clear BK437
       clear HB
       have HO_6 := n0_
       have HO444 := n1_
       have HO447 := n2_
       have BK437 := n3_
       have HB := n4_
       clear n0_ n1_ n2_ n3_ n4_
       (try clear hb)
       (try clear hb2)
       (try clear hk)
       (try clear hi)
       (try clear ho0)
       (try clear ho1)
       refine hK.out _ _ ⟨(qae BK437.out 0).trans rfl, ((HB.out.cell (World.block_lt_of_cell? w _ hw441_0)).trans hw441_0)⟩ (fun hHeld => ?_)
       clear hK K
       refine norm_ (a' := ?_) ?_ ?_
       rotate_left
       ·show Act.put _ (some 25) _ = _
        simp only [Act.put, List.setIfInBounds_toArray, List.set_cons_zero, List.set_cons_succ, qaS, qbT]
        rfl
       refine qcj (i := 6) (N := some 19) (v := ?_) (a' := ?_) #[true, true, true, true, true, true, true, false, false, false, false, false, false] rfl rfl (qbN HT_.out (by kernel_rfl)) (fun _ _ _ h => h) (Or.inl ⟨by rfl, ?_⟩) ?_ ?_
       rotate_left
       ·intro w'
        go_simp
        with_reducible rfl
       rotate_left
       ·simp only [Act.put, List.setIfInBounds_toArray, List.set_cons_zero, List.set_cons_succ, qaS, qbT]
        rfl
       refine qcj (i := 7) (N := some 26) (v := ?_) (a' := ?_) #[true, true, true, true, true, true, true, true, false, false, false, false, false] rfl rfl (qbN HT_.out (by kernel_rfl)) (fun _ _ _ h => h) (Or.inl ⟨by rfl, ?_⟩) ?_ ?_
       rotate_left
       ·intro w'
        go_simp
        with_reducible rfl
       rotate_left
       ·simp only [Act.put, List.setIfInBounds_toArray, List.set_cons_zero, List.set_cons_succ, qaS, qbT]
        rfl
       refine qcj (i := 8) (N := some 27) (v := ?_) (a' := ?_) #[true, true, true, true, true, true, true, true, true, false, false, false, false] rfl rfl (qbN HT_.out (by kernel_rfl)) (fun _ _ _ h => h) (Or.inl ⟨by rfl, ?_⟩) ?_ ?_
       rotate_left
       ·intro w'
        go_simp
        with_reducible rfl
       rotate_left
       ·simp only [Act.put, List.setIfInBounds_toArray, List.set_cons_zero, List.set_cons_succ, qaS, qbT]
        rfl
       refine qcj (i := 9) (N := some 28) (v := ?_) (a' := ?_) #[true, true, true, true, true, true, true, true, true, true, false, false, false] rfl rfl (qbN HT_.out (by kernel_rfl)) (fun _ _ _ h => h) (Or.inl ⟨by rfl, ?_⟩) ?_ ?_
       rotate_left
       ·intro w'
        go_simp
        with_reducible rfl
       rotate_left
       ·simp only [Act.put, List.setIfInBounds_toArray, List.set_cons_zero, List.set_cons_succ, qaS, qbT]
        rfl
       refine qcj (i := 10) (N := some 8) (v := ?_) (a' := ?_) #[true, true, true, true, true, true, true, true, true, true, true, false, false] rfl rfl (qbN HT_.out (by kernel_rfl)) (fun _ _ _ h => h) (Or.inl ⟨by rfl, ?_⟩) ?_ ?_
       rotate_left
       ·intro w'
        go_simp
        with_reducible rfl
       rotate_left
       ·simp only [Act.put, List.setIfInBounds_toArray, List.set_cons_zero, List.set_cons_succ, qaS, qbT]
        rfl
       refine qcj (i := 11) (N := some 9) (v := ?_) (a' := ?_) #[true, true, true, true, true, true, true, true, true, true, true, true, false] rfl rfl (qbN HT_.out (by kernel_rfl)) (fun _ _ _ h => h) (Or.inl ⟨by rfl, ?_⟩) ?_ ?_
       rotate_left
       ·intro w'
        go_simp
        with_reducible rfl
       rotate_left
       ·simp only [Act.put, List.setIfInBounds_toArray, List.set_cons_zero, List.set_cons_succ, qaS, qbT]
        rfl
       refine qcj (i := 12) (N := some 10) (v := ?_) (a' := ?_) #[true, true, true, true, true, true, true, true, true, true, true, true, true] rfl rfl (qbN HT_.out (by kernel_rfl)) (fun _ _ _ h => h) (Or.inl ⟨by rfl, ?_⟩) ?_ ?_
       rotate_left
       ·intro w'
        go_simp
        with_reducible rfl
       rotate_left
       ·simp only [Act.put, List.setIfInBounds_toArray, List.set_cons_zero, List.set_cons_succ, qaS, qbT]
        rfl
       refine done_ (qe4 HT_.out (by kernel_rfl)) ?_
       try go_wp2
       go_loopg [11] k1 (fun kq v11 w' => ∃ (x6_2 : List Bool) (x11_2 : Int), v11 = .int .i64 x11_2 ∧ Aside0 (qaq.l1 kq l1 x6_2 x7_1 t445 x11_2 l0_0 = some (r1, r2)) ∧ Aside0 (kq ≤ k1) ∧ Aside0 (Kd.R Kd.bool 4 w' w.heap.size (fun k_ => some k_ ≠ (v446 : Value).ownBlock) v439 x6_2) ∧ Aside0 (Kd.R Kd.bool 4 w' w.heap.size (fun k_ => some k_ ≠ (v439 : Value).ownBlock) v446 t445) ∧ Aside0 (w'.heap[gb437]? = some (.cells #[(.slice A0_0 l0_0.length c0_0)] 29 (0, 0))) ∧ Aside0 (Below w.heap.size w w'))
       case atStart => exact ⟨(x6_1), (0), (by first | rfl | (simp; done) | (simp [*]; done)), H', ⟨Nat.le_refl _⟩, ⟨by (with_reducible repeat (first | apply Kd.qa3 | apply Kd.qa8 | apply Kd.qbi)); exact Kd.qbv HO_6.out (fun _ hk => hk.2)⟩, ⟨by (with_reducible repeat (first | apply Kd.qa3 | apply Kd.qa8 | apply Kd.qbi)); exact Kd.qbv HO447.out (fun _ hk => hk.2)⟩, ⟨by (with_reducible repeat (first | refine qan ?_ _ | refine qao ?_ | refine qak ?_ _)); exact BK437.out⟩, ⟨by repeat (first | (with_reducible first | exact HB.out | apply qab | apply qaa | apply qac | refine qaf ?_ GE437.out) | exact HB.out)⟩⟩
       case round =>
        clear H'
        try clear c1
        try clear p2
        try clear c3
        try clear c3b0
        try clear c3b1
        try clear p4
        try clear q4
        try clear hx4
        try clear c6
        try clear c7
        try clear c7b0
        try clear c8
        try clear c8b0
        try clear c10
        try clear hx441_0
        try clear p2
        try clear p441
        try clear q441
        obtain ⟨x6_2, x11_2, rfl, HA, HK2, HO_6, HO_9, BK437, HB⟩ := hrel
        cases gk with
        | zero => exact absurd HA.out (by simp [qaq.l1])
        | succ k2 =>
         have H := HA.out
         clear HA
         simp only [qaq.l1] at H
         by_cases c13 : x11_2 < 50
         ·rw [if_pos c13] at H
          have c13b0 : decide (x11_2 < 50) = true := decide_eq_true c13
          clear c13
          by_cases c14 : 0 ≤ x11_2
          ·rw [if_pos c14] at H
           have c14b0 : decide (0 ≤ x11_2) = true := decide_eq_true c14
           clear c14
           by_cases c15 : x11_2 < (x6_2.length : Int)
           ·rw [if_pos c15] at H
            have c15b0 : decide (x11_2 < (x6_2.length : Int)) = true := decide_eq_true c15
            clear c15
            obtain ⟨bq16, hbq16⟩ : ∃ b_ : Bool, b_ = (rdOf false x6_2 x11_2) := ⟨_, rfl⟩
            replace H : (if bq16 = true then (qaq.l1 k2 l1 (x6_2.set (x11_2 : Int).toNat true) x7_1 t445 (wrap64 (x11_2 + 1)) l0_0) else (if x11_2 < (t445.length : Int) then (qaq.l1 k2 l1 (x6_2.set (x11_2 : Int).toNat (rdOf false t445 x11_2)) x7_1 t445 (wrap64 (x11_2 + 1)) l0_0) else (none))) = some (r1, r2) := by rw [← hbq16] at H; exact H
            have Nbq16 := Aside0.mk hbq16
            clear hbq16
            by_cases c17 : bq16 = true
            ·subst c17
             have H1 : (qaq.l1 k2 l1 (x6_2.set (x11_2 : Int).toNat true) x7_1 t445 (wrap64 (x11_2 + 1)) l0_0) = some (r1, r2) := by rw [if_pos rfl] at H; exact H
             clear H
             have H := H1
             clear H1
             obtain ⟨y450, hy450⟩ : ∃ y_ : List Bool, y_ = (x6_2.set (x11_2 : Int).toNat true) := ⟨_, rfl⟩
             replace H : (qaq.l1 k2 l1 y450 x7_1 t445 (wrap64 (x11_2 + 1)) l0_0) = some (r1, r2) := by first | (rw [hy450]; with_reducible exact H) | (have H2_ := (Option.bind_some _ _).symm.trans H; rw [hy450]; with_reducible exact H2_) | (have H2_ := (Option.bind_some _ _).symm.trans H; with_reducible exact H2_) | with_reducible exact H | (rw [hy450]; exact H) | exact H
             have Ny450 := Aside0.mk hy450
             clear hy450
             have H' := Aside0.mk H
             clear H
             obtain ⟨Ao19, co19, eo19⟩ := Kd.qbW HO_6.out
             subst eo19
             have p449 : 0 ≤ (x11_2 : Int) := of_decide_eq_true (by first | (with_reducible assumption) | assumption)
             have q449 : x11_2 < (x6_2.length : Int) := of_decide_eq_true (by first | (with_reducible assumption) | assumption)
             obtain ⟨ad449, e449, hx449_0⟩ := Kd.qc0 (Kd.qbe HO_6.out).2.2 x11_2 p449 q449
             (try rw [← Nbq16.out] at hx449_0)
             cases e449
             replace p449 := eq_true p449
             replace q449 := eq_true q449
             have p18 : 0 ≤ (x11_2 : Int) := of_decide_eq_true (by first | (with_reducible assumption) | assumption)
             have q18 : (x11_2 : Int) < ((x6_2.length : Int) : Int) := of_decide_eq_true (by first | (with_reducible assumption) | assumption)
             obtain ⟨go18, co18, eo18, gb18, gl18, cl18, HG18⟩ := Kd.qce HO_6.out (by omega)
             (first | cases eo18 | (injection eo18 with ea_ en_ ec_; (first | subst ea_ | (injection ea_ with ea_; subst ea_)); subst ec_; clear en_))
             have GB18 := Aside0.mk gb18
             have GG18 := Aside0.mk HG18
             clear gb18 gl18 HG18
             (first | simp only [add_plain] at hx449_0 | skip)
             obtain ⟨hx18_0, hf18_0⟩ := Kd.qca false HO_6.out (x11_2 : Int) p18 q18
             replace p18 := eq_true p18
             replace q18 := eq_true q18
             have HP20 := Kd.qdi HO_6.out (x11_2 : Int) true
             go_wp2_with (first | ((with_reducible refine qbM (t := 4) (p := 48) rfl ?_); refine qbF (t := 4) (p := 48) (v := ?vo_w21) (w1 := (wr.setCell ⟨go18, (x11_2 : Int).toNat, none⟩ (.bool true))) ?hg ?ho ?hn ?hr ?_; (case ho => rfl); (case hg => rfl); (case hn => rfl); (case hr => first | (go_simp; done) | (go_simp; rfl)); intro w21 hw; have hg : wr.grownBy w21 (some go18) := (by rw [hw]; exact HP20.2); have hp_ : Kd.R Kd.bool 4 w21 w.heap.size (fun k_ => some k_ ≠ (v446 : Value).ownBlock) (.slice (some ⟨go18, 0, none⟩) x6_2.length co19) y450 := (by rw [hw, Ny450.out]; exact HP20.1); clear HP20; have n0_ := Aside0.mk (hp_); have n1_ := Aside0.mk (Kd.qgU (v := (.slice (some ⟨go18, 0, none⟩) x6_2.length co19)) (v1 := (.slice (some ⟨go18, 0, none⟩) x6_2.length co19)) (ok := (fun _ => True)) (by (with_reducible repeat (first | apply Kd.qa3 | apply Kd.qa8 | apply Kd.qbi)); exact Kd.qbv HO_9.out (fun _ hk => ⟨trivial, hk⟩)) hg (.inl rfl)); have n2_ := Aside0.mk (qbR (g := gb437) (o := .cells #[.slice A0_0 l0_0.length c0_0] 29 (0, 0)) (by (with_reducible repeat (first | refine qan ?_ _ | refine qao ?_ | refine qak ?_ _)); exact BK437.out) hg (Kd.R_ne HO_6.out BK437.out (by decide))); have n3_ := Aside0.mk ((by rw [hw]; exact qaf (HB.out) GB18.out : Below w.heap.size w w21)); clear HO_6; clear HO_9; clear BK437; clear HB; have HO_6 := n0_; have HO_9 := n1_; have BK437 := n2_; have HB := n3_; clear n0_ n1_ n2_ n3_; clear hg hw hp_))
             go_roundg k2
             case measure => have := HK1.out; have := HK2.out; omega
             case rel => exact ⟨(y450), (wrap64 (x11_2 + 1)), (by first | rfl | (simp; done) | (simp [*]; done)), H', ⟨by have := HK1.out; have := HK2.out; omega⟩, ⟨by (with_reducible repeat (first | apply Kd.qa3 | apply Kd.qa8 | apply Kd.qbi)); exact HO_6.out⟩, ⟨by (with_reducible repeat (first | apply Kd.qa3 | apply Kd.qa8 | apply Kd.qbi)); exact Kd.qbv HO_9.out (fun _ hk => hk.2)⟩, ⟨by (with_reducible repeat (first | refine qan ?_ _ | refine qao ?_ | refine qak ?_ _)); exact BK437.out⟩, ⟨by repeat (first | (with_reducible first | exact HB.out | apply qab | apply qaa | apply qac | refine qaf ?_ GE437.out) | exact HB.out)⟩⟩
            ·replace c17 := Bool.eq_false_iff.mpr c17
             subst c17
             have H1 : (if x11_2 < (t445.length : Int) then (qaq.l1 k2 l1 (x6_2.set (x11_2 : Int).toNat (rdOf false t445 x11_2)) x7_1 t445 (wrap64 (x11_2 + 1)) l0_0) else (none)) = some (r1, r2) := by rw [if_neg (show ¬ (false = true) by decide)] at H; exact H
             clear H
             have H := H1
             clear H1
             by_cases c22 : x11_2 < (t445.length : Int)
             ·rw [if_pos c22] at H
              have c22b0 : decide (x11_2 < (t445.length : Int)) = true := decide_eq_true c22
              clear c22
              obtain ⟨y452, hy452⟩ : ∃ y_ : List Bool, y_ = (x6_2.set (x11_2 : Int).toNat (rdOf false t445 x11_2)) := ⟨_, rfl⟩
              replace H : (qaq.l1 k2 l1 y452 x7_1 t445 (wrap64 (x11_2 + 1)) l0_0) = some (r1, r2) := by first | (rw [hy452]; with_reducible exact H) | (have H2_ := (Option.bind_some _ _).symm.trans H; rw [hy452]; with_reducible exact H2_) | (have H2_ := (Option.bind_some _ _).symm.trans H; with_reducible exact H2_) | with_reducible exact H | (rw [hy452]; exact H) | exact H
              have Ny452 := Aside0.mk hy452
              clear hy452
              have H' := Aside0.mk H
              clear H
              obtain ⟨Ao24, co24, eo24⟩ := Kd.qbW HO_6.out
              subst eo24
              have p449 : 0 ≤ (x11_2 : Int) := of_decide_eq_true (by first | (with_reducible assumption) | assumption)
              have q449 : x11_2 < (x6_2.length : Int) := of_decide_eq_true (by first | (with_reducible assumption) | assumption)
              obtain ⟨ad449, e449, hx449_0⟩ := Kd.qc0 (Kd.qbe HO_6.out).2.2 x11_2 p449 q449
              (try rw [← Nbq16.out] at hx449_0)
              cases e449
              replace p449 := eq_true p449
              replace q449 := eq_true q449
              obtain ⟨Ao25, co25, eo25⟩ := Kd.qbW HO_9.out
              subst eo25
              have p451 : 0 ≤ (x11_2 : Int) := of_decide_eq_true (by first | (with_reducible assumption) | assumption)
              have q451 : x11_2 < (t445.length : Int) := of_decide_eq_true (by first | (with_reducible assumption) | assumption)
              obtain ⟨ad451, e451, hx451_0⟩ := Kd.qc0 (Kd.qbe HO_9.out).2.2 x11_2 p451 q451
              (try rw [← Nbq16.out] at hx451_0)
              cases e451
              replace p451 := eq_true p451
              replace q451 := eq_true q451
              have p23 : 0 ≤ (x11_2 : Int) := of_decide_eq_true (by first | (with_reducible assumption) | assumption)
              have q23 : (x11_2 : Int) < ((x6_2.length : Int) : Int) := of_decide_eq_true (by first | (with_reducible assumption) | assumption)
              obtain ⟨go23, co23, eo23, gb23, gl23, cl23, HG23⟩ := Kd.qce HO_6.out (by omega)
              (first | cases eo23 | (injection eo23 with ea_ en_ ec_; (first | subst ea_ | (injection ea_ with ea_; subst ea_)); subst ec_; clear en_))
              have GB23 := Aside0.mk gb23
              have GG23 := Aside0.mk HG23
              clear gb23 gl23 HG23
              (first | simp only [add_plain] at hx449_0 | skip)
              obtain ⟨hx23_0, hf23_0⟩ := Kd.qca false HO_6.out (x11_2 : Int) p23 q23
              replace p23 := eq_true p23
              replace q23 := eq_true q23
              have HP26 := Kd.qdi HO_6.out (x11_2 : Int) (rdOf false t445 x11_2)
              go_wp2_with (first | ((with_reducible refine qbM (t := 4) (p := 48) rfl ?_); refine qbF (t := 4) (p := 48) (v := ?vo_w27) (w1 := (wr.setCell ⟨go23, (x11_2 : Int).toNat, none⟩ (.bool (rdOf false t445 x11_2)))) ?hg ?ho ?hn ?hr ?_; (case ho => rfl); (case hg => rfl); (case hn => rfl); (case hr => first | (go_simp; done) | (go_simp; rfl)); intro w27 hw; have hg : wr.grownBy w27 (some go23) := (by rw [hw]; exact HP26.2); have hp_ : Kd.R Kd.bool 4 w27 w.heap.size (fun k_ => some k_ ≠ (.slice (some ad451) t445.length co25 : Value).ownBlock) (.slice (some ⟨go23, 0, none⟩) x6_2.length co24) y452 := (by rw [hw, Ny452.out]; exact HP26.1); clear HP26; have n0_ := Aside0.mk (hp_); have n1_ := Aside0.mk (Kd.qgU (v := (.slice (some ⟨go23, 0, none⟩) x6_2.length co24)) (v1 := (.slice (some ⟨go23, 0, none⟩) x6_2.length co24)) (ok := (fun _ => True)) (by (with_reducible repeat (first | apply Kd.qa3 | apply Kd.qa8 | apply Kd.qbi)); exact Kd.qbv HO_9.out (fun _ hk => ⟨trivial, hk⟩)) hg (.inl rfl)); have n2_ := Aside0.mk (qbR (g := gb437) (o := .cells #[.slice A0_0 l0_0.length c0_0] 29 (0, 0)) (by (with_reducible repeat (first | refine qan ?_ _ | refine qao ?_ | refine qak ?_ _)); exact BK437.out) hg (Kd.R_ne HO_6.out BK437.out (by decide))); have n3_ := Aside0.mk ((by rw [hw]; exact qaf (HB.out) GB23.out : Below w.heap.size w w27)); clear HO_6; clear HO_9; clear BK437; clear HB; have HO_6 := n0_; have HO_9 := n1_; have BK437 := n2_; have HB := n3_; clear n0_ n1_ n2_ n3_; clear hg hw hp_))
              go_roundg k2
              case measure => have := HK1.out; have := HK2.out; omega
              case rel => exact ⟨(y452), (wrap64 (x11_2 + 1)), (by first | rfl | (simp; done) | (simp [*]; done)), H', ⟨by have := HK1.out; have := HK2.out; omega⟩, ⟨by (with_reducible repeat (first | apply Kd.qa3 | apply Kd.qa8 | apply Kd.qbi)); exact HO_6.out⟩, ⟨by (with_reducible repeat (first | apply Kd.qa3 | apply Kd.qa8 | apply Kd.qbi)); exact Kd.qbv HO_9.out (fun _ hk => hk.2)⟩, ⟨by (with_reducible repeat (first | refine qan ?_ _ | refine qao ?_ | refine qak ?_ _)); exact BK437.out⟩, ⟨by repeat (first | (with_reducible first | exact HB.out | apply qab | apply qaa | apply qac | refine qaf ?_ GE437.out) | exact HB.out)⟩⟩
             ·rw [if_neg c22] at H
              exact absurd H (by simp)
           ·rw [if_neg c15] at H
            exact absurd H (by simp)
          ·rw [if_neg c14] at H
           exact absurd H (by simp)
         ·rw [if_neg c13] at H
          have c13b0 : decide (x11_2 < 50) = false := decide_eq_false c13
          clear c13
          have H' := Aside0.mk H
          clear H
          go_wp2
          go_roundg k2
          case measure => have := HK1.out; have := HK2.out; omega
          case rel => exact ⟨(x6_2), (wrap64 (x7_1 + 1)), (by first | rfl | (simp; done) | (simp [*]; done)), H', ⟨by have := HK1.out; have := HK2.out; omega⟩, ⟨by (with_reducible repeat (first | apply Kd.qa3 | apply Kd.qa8 | apply Kd.qbi)); exact Kd.qbv HO_6.out (fun _ hk => trivial)⟩, ⟨by (with_reducible repeat (first | refine qan ?_ _ | refine qao ?_ | refine qak ?_ _)); exact BK437.out⟩, ⟨by repeat (first | (with_reducible first | exact HB.out | apply qab | apply qaa | apply qac | refine qaf ?_ GE437.out) | exact HB.out)⟩⟩
      ·replace c10 := Bool.eq_false_iff.mpr c10
       subst c10
       have H1 : (some (x6_1, false)) = some (r1, r2) := by rw [if_neg (show ¬ (false = true) by decide)] at H; exact H
       clear H
       have H := H1
       clear H1
       simp only [Option.some.injEq, Prod.mk.injEq] at H
       obtain ⟨rfl, rfl⟩ := H
       try go_wp2
       have n0_ := Aside0.mk (Kd.qbi HO_6.out)
       have n1_ := Aside0.mk (qao BK437.out)
       have n2_ := Aside0.mk (qac HB.out)
       clear HO_6
       clear BK437
       clear HB
       have HO_6 := n0_
       have BK437 := n1_
       have HB := n2_
       clear n0_ n1_ n2_
       have p441 : 0 ≤ (x7_1 : Int) := of_decide_eq_true (by first | (with_reducible assumption) | assumption)
       have q441 : x7_1 < (l1.length : Int) := of_decide_eq_true (by first | (with_reducible assumption) | assumption)
       obtain ⟨ad441, e441, hx441_0⟩ := Kd.qbS HR1.out x7_1 p441 q441
       have hw441_0 := hx441_0
       cases e441
       replace hx441_0 := (HB.out.cell (World.block_lt_of_cell? w _ hx441_0)).trans hx441_0
       replace p441 := eq_true p441
       replace q441 := eq_true q441
       refine qcz (n := 13) (S := fun w' => w'.cell? ⟨gb437, 0, none⟩ = some (.slice A0_0 l0_0.length c0_0) ∧ w'.cell? (ad441.add (x7_1).toNat) = some (.int .i64 (rd l1 x7_1))) (ds := []) #[false, false, false, false, false, false, false, false, false, false, false, false, false] (by kernel_rfl) rfl rfl ⟨(qae BK437.out 0).trans rfl, ((HB.out.cell (World.block_lt_of_cell? w _ hw441_0)).trans hw441_0)⟩ (fun hHeld => ?_); refine qbU qaq.tab5 qaq.bits5 (fun HT_ HW_ => ?_)
       generalize wr.drew = w28 at HO_6 BK437 HB hx441_0 hHeld ⊢
       refine qcj (i := 1) (N := some 21) (v := ?_) (a' := ?_) #[false, true, false, false, false, false, false, false, false, false, false, false, false] rfl rfl (qbN HT_.out (by kernel_rfl)) (fun _ _ _ h => h) (Or.inl ⟨by rfl, ?_⟩) ?_ ?_
       rotate_left
       ·intro w'
        go_simp
        with_reducible rfl
       rotate_left
       ·simp only [Act.put, List.setIfInBounds_toArray, List.set_cons_zero, List.set_cons_succ, qaS, qbT]
        rfl
       refine qcj (i := 2) (N := some 22) (v := ?_) (a' := ?_) #[false, true, true, false, false, false, false, false, false, false, false, false, false] rfl rfl (qbN HT_.out (by kernel_rfl)) (fun _ _ _ h => h) (Or.inl ⟨by rfl, ?_⟩) ?_ ?_
       rotate_left
       ·intro w'
        go_simp
        with_reducible rfl
       rotate_left
       ·simp only [Act.put, List.setIfInBounds_toArray, List.set_cons_zero, List.set_cons_succ, qaS, qbT]
        rfl
       refine qcj (i := 3) (N := some 23) (v := ?_) (a' := ?_) #[false, true, true, true, false, false, false, false, false, false, false, false, false] rfl rfl (qbN HT_.out (by kernel_rfl)) (fun _ _ _ h => h) (Or.inl ⟨by rfl, ?_⟩) ?_ ?_
       rotate_left
       ·intro w'
        go_simp
        with_reducible rfl
       rotate_left
       ·simp only [Act.put, List.setIfInBounds_toArray, List.set_cons_zero, List.set_cons_succ, qaS, qbT]
        rfl
       refine qeY (i := 0) (N := some 20) (v := ?_) (a' := ?_) #[true, true, true, true, false, false, false, false, false, false, false, false, false] rfl rfl (qcM HT_.out HW_.out (by kernel_rfl)) (fun _ _ _ h => h) (Or.inl ⟨by rfl, ?_⟩) hHeld ?_ ?_
       rotate_left
       ·rintro w' ⟨s0, s1⟩
        go_simp
        with_reducible rfl
       rotate_left
       ·simp only [Act.put, List.setIfInBounds_toArray, List.set_cons_zero, List.set_cons_succ, qaS, qbT]
        rfl
       refine qeY (i := 4) (N := some 24) (v := ?_) (a' := ?_) #[true, true, true, true, true, false, false, false, false, false, false, false, false] rfl rfl (qcM HT_.out HW_.out (by kernel_rfl)) (fun _ _ _ h => h) (Or.inl ⟨by rfl, ?_⟩) hHeld ?_ ?_
       rotate_left
       ·rintro w' ⟨s0, s1⟩
        go_simp
        with_reducible rfl
       rotate_left
       ·simp only [Act.put, List.setIfInBounds_toArray, List.set_cons_zero, List.set_cons_succ, qaS, qbT]
        rfl
       refine one_ (i := 5) (N := some 25) #[true, true, true, true, true, true, false, false, false, false, false, false, false] rfl rfl (qgk HT_.out (by kernel_rfl)) (by decide) (fun K hK => ?_)
       refine qgw Try.func61 (by kernel_rfl) rfl #[.agg #[.slice A0_0 l0_0.length c0_0], .int .i64 (rd l1 x7_1)] (by rfl) rfl rfl (by (try simp only [List.map_toArray, List.map_cons, List.map_nil]); first | done | rfl | (simp only [List.length_drop, List.length_take]; rfl)) ?_
       with_reducible refine (qci.calls _ _ l0_0 (rd l1 x7_1) t442 t445 false _ ?side1 ?side2 A9.out).mono ?_
       (case side1 => repeat (first | exact (Kd.qav HR0_0.out HB.out) | (with_reducible refine Kd.qaM ?_ _) | (with_reducible refine Kd.qaN ?_ _) | (with_reducible refine Kd.qa2 ?_)))
       (case side2 => exact HC0_0.out)
       rintro e w29 ⟨v443, v446, rfl, ho0, ho1, hb⟩
       refine ⟨_, rfl, ?_⟩
       have n0_ := Aside0.mk (Kd.qgh (by (with_reducible repeat (first | apply Kd.qa3 | apply Kd.qa8 | apply Kd.qbi)); exact HO_6.out) (Kd.qeP ho1) hb)
       have n1_ := Aside0.mk (Kd.qby ho0 (qaj (by repeat (first | (with_reducible first | exact HB.out | apply qab | apply qaa | apply qac | refine qaf ?_ GE437.out) | exact HB.out))))
       have n2_ := Aside0.mk (Kd.qby (Kd.R_new' ho1 (Kd.R_lt (by (with_reducible repeat (first | apply Kd.qa3 | apply Kd.qa8 | apply Kd.qbi)); exact HO_6.out))) (qaj (by repeat (first | (with_reducible first | exact HB.out | apply qab | apply qaa | apply qac | refine qaf ?_ GE437.out) | exact HB.out))))
       have n3_ := Aside0.mk (qar (g := gb437) (o := .cells #[.slice A0_0 l0_0.length c0_0] 29 (0, 0)) (by (with_reducible repeat (first | refine qan ?_ _ | refine qao ?_ | refine qak ?_ _)); exact BK437.out) hb)
       have n4_ := Aside0.mk (qai (by repeat (first | (with_reducible first | exact HB.out | apply qab | apply qaa | apply qac | refine qaf ?_ GE437.out) | exact HB.out)) hb)
       clear HO_6
       clear BK437
       clear HB
       have HO_6 := n0_
       have HO444 := n1_
       have HO447 := n2_
       have BK437 := n3_
       have HB := n4_
       clear n0_ n1_ n2_ n3_ n4_
       (try clear hb)
       (try clear hb2)
       (try clear hk)
       (try clear hi)
       (try clear ho0)
       (try clear ho1)
       refine hK.out _ _ ⟨(qae BK437.out 0).trans rfl, ((HB.out.cell (World.block_lt_of_cell? w _ hw441_0)).trans hw441_0)⟩ (fun hHeld => ?_)
       clear hK K
       refine norm_ (a' := ?_) ?_ ?_
       rotate_left
       ·show Act.put _ (some 25) _ = _
        simp only [Act.put, List.setIfInBounds_toArray, List.set_cons_zero, List.set_cons_succ, qaS, qbT]
        rfl
       refine qcj (i := 6) (N := some 19) (v := ?_) (a' := ?_) #[true, true, true, true, true, true, true, false, false, false, false, false, false] rfl rfl (qbN HT_.out (by kernel_rfl)) (fun _ _ _ h => h) (Or.inl ⟨by rfl, ?_⟩) ?_ ?_
       rotate_left
       ·intro w'
        go_simp
        with_reducible rfl
       rotate_left
       ·simp only [Act.put, List.setIfInBounds_toArray, List.set_cons_zero, List.set_cons_succ, qaS, qbT]
        rfl
       refine qcj (i := 7) (N := some 26) (v := ?_) (a' := ?_) #[true, true, true, true, true, true, true, true, false, false, false, false, false] rfl rfl (qbN HT_.out (by kernel_rfl)) (fun _ _ _ h => h) (Or.inl ⟨by rfl, ?_⟩) ?_ ?_
       rotate_left
       ·intro w'
        go_simp
        with_reducible rfl
       rotate_left
       ·simp only [Act.put, List.setIfInBounds_toArray, List.set_cons_zero, List.set_cons_succ, qaS, qbT]
        rfl
       refine qcj (i := 8) (N := some 27) (v := ?_) (a' := ?_) #[true, true, true, true, true, true, true, true, true, false, false, false, false] rfl rfl (qbN HT_.out (by kernel_rfl)) (fun _ _ _ h => h) (Or.inl ⟨by rfl, ?_⟩) ?_ ?_
       rotate_left
       ·intro w'
        go_simp
        with_reducible rfl
       rotate_left
       ·simp only [Act.put, List.setIfInBounds_toArray, List.set_cons_zero, List.set_cons_succ, qaS, qbT]
        rfl
       refine qcj (i := 9) (N := some 28) (v := ?_) (a' := ?_) #[true, true, true, true, true, true, true, true, true, true, false, false, false] rfl rfl (qbN HT_.out (by kernel_rfl)) (fun _ _ _ h => h) (Or.inl ⟨by rfl, ?_⟩) ?_ ?_
       rotate_left
       ·intro w'
        go_simp
        with_reducible rfl
       rotate_left
       ·simp only [Act.put, List.setIfInBounds_toArray, List.set_cons_zero, List.set_cons_succ, qaS, qbT]
        rfl
       refine qcj (i := 10) (N := some 8) (v := ?_) (a' := ?_) #[true, true, true, true, true, true, true, true, true, true, true, false, false] rfl rfl (qbN HT_.out (by kernel_rfl)) (fun _ _ _ h => h) (Or.inl ⟨by rfl, ?_⟩) ?_ ?_
       rotate_left
       ·intro w'
        go_simp
        with_reducible rfl
       rotate_left
       ·simp only [Act.put, List.setIfInBounds_toArray, List.set_cons_zero, List.set_cons_succ, qaS, qbT]
        rfl
       refine qcj (i := 11) (N := some 9) (v := ?_) (a' := ?_) #[true, true, true, true, true, true, true, true, true, true, true, true, false] rfl rfl (qbN HT_.out (by kernel_rfl)) (fun _ _ _ h => h) (Or.inl ⟨by rfl, ?_⟩) ?_ ?_
       rotate_left
       ·intro w'
        go_simp
        with_reducible rfl
       rotate_left
       ·simp only [Act.put, List.setIfInBounds_toArray, List.set_cons_zero, List.set_cons_succ, qaS, qbT]
        rfl
       refine qcj (i := 12) (N := some 10) (v := ?_) (a' := ?_) #[true, true, true, true, true, true, true, true, true, true, true, true, true] rfl rfl (qbN HT_.out (by kernel_rfl)) (fun _ _ _ h => h) (Or.inl ⟨by rfl, ?_⟩) ?_ ?_
       rotate_left
       ·intro w'
        go_simp
        with_reducible rfl
       rotate_left
       ·simp only [Act.put, List.setIfInBounds_toArray, List.set_cons_zero, List.set_cons_succ, qaS, qbT]
        rfl
       refine done_ (qe4 HT_.out (by kernel_rfl)) ?_
       try go_wp2
       go_ret2
       exact ⟨_, by first | rfl | (simp [qal, qam] <;> rfl) | (simp [*, qal, qam] <;> rfl), by (with_reducible repeat (first | apply Kd.qa3 | apply Kd.qa8 | apply Kd.qbi)); exact Kd.qbv HO_6.out (fun _ hk => trivial), by repeat (first | (with_reducible first | exact HB.out | apply qab | apply qaa | apply qac | refine qaf ?_ GE437.out) | exact HB.out)⟩
     ·rw [if_neg c8] at H
      exact absurd H (by simp)
    ·rw [if_neg c7] at H
     have c7b0 : decide (x7_1 < (l1.length : Int)) = false := decide_eq_false c7
     clear c7
     simp only [Option.some.injEq, Prod.mk.injEq] at H
     obtain ⟨rfl, rfl⟩ := H
     go_wp2
     go_ret2
     exact ⟨_, by first | rfl | (simp [qal, qam] <;> rfl) | (simp [*, qal, qam] <;> rfl), by (with_reducible repeat (first | apply Kd.qa3 | apply Kd.qa8 | apply Kd.qbi)); exact HO_6.out, by repeat (first | (with_reducible first | exact HB.out | apply qab | apply qaa | apply qac | refine qaf ?_ GE437.out) | exact HB.out)⟩
 ·rw [if_neg c3] at H
  exact absurd H (by simp)
end Go.Proofs.Ytenfomejccfkgaa.X
