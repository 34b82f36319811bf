import Derived.Test.YtenfomejccfkgaaKFnExactTreePages4
import Derived.Test.YtenfomejccfkgaaKFnExactTreePages12
import Derived.Test.YtenfomejccfkgaaKFnExactTreePages15
import Derived.Test.YtenfomejccfkgaaKFnExactTreePages24
import Derived.Test.YtenfomejccfkgaaKFnExactTreePages26
import Derived.Test.YtenfomejccfkgaaKFnExactTreePages27
namespace Go.Proofs.Ytenfomejccfkgaa.X
open Go.RowKit Go.Proofs.YtenfomejccfkgaaW.PrintWords Go.Proofs.YtenfomejccfkgaaW.PrintLast Go.Proofs.YtenfomejccfkgaaW.PrintMore
attribute [local go_sem] qaE qaF qaG qay qaz qaP qaQ qas qat qaA qaB
set_option linter.unusedVariables false
set_option linter.unusedSimpArgs false
def qaN.l0 : Nat → List Int → List Bool → Int → Int → Option (List Int × Int)
 | 0, _, _, _, _ => none
 | k + 1, x6, x17, x18, x19 => if x19 < x18 then (if 0 ≤ x19 then (if x19 < (x17.length : Int) then (if rdOf false x17 x19 = true then (if x6.length < 17592186044416 then (qaN.l0 k (x6 ++ [x19]) x17 x18 (wrap64 (x19 + 1))) else (none)) else (qaN.l0 k x6 x17 x18 (wrap64 (x19 + 1)))) else (none)) else (none)) else (some (x6, 0))
def qaN.f (k : Nat) (l0_0 : List (S56)) (a1 : Int) : Option (List Int × Int) := (qbO.f l0_0 a1).bind fun t351 => (if t351 = true then ((qbT.f l0_0 (([a1] : List Int))).bind fun t358 => (qaN.l0 k (([] : List Int)) t358 (t358.length : Int) 0)) else (some (([] : List Int), 1)))
theorem qaN.qbk : ∀ k, (∀ y0 y1 y2 y3, LeO (qaN.l0 k y0 y1 y2 y3) (qaN.l0 (k + 1) y0 y1 y2 y3))
 | 0 => fun _ _ _ _ r h => by simp [qaN.l0] at h
 | k + 1 => by
  have ih0 := qaN.qbk k
  ·intro y0 y1 y2 y3
   unfold qaN.l0
   repeat' first
   | (with_reducible exact ih0 _ _ _ _)
   | (with_reducible exact LeO.refl _)
   | (with_reducible exact LeO.none _)
   | (with_reducible refine LeO.ite ?_ ?_)
   | (with_reducible refine LeO.bind ?_ (fun _ => ?_))
   | exact ih0 _ _ _ _
   | exact LeO.none _
   | refine LeO.ite ?_ ?_
   | refine LeO.bind ?_ (fun _ => ?_)
theorem qaN.mono : ∀ a0 a1 k, LeO (qaN.f k a0 a1) (qaN.f (k + 1) a0 a1) := by
 intro a0 a1 k
 have ih0 := qaN.qbk k
 unfold qaN.f
 repeat' first
   | (with_reducible exact ih0 _ _ _ _)
   | (with_reducible exact LeO.refl _)
   | (with_reducible exact LeO.none _)
   | (with_reducible refine LeO.ite ?_ ?_)
   | (with_reducible refine LeO.bind ?_ (fun _ => ?_))
   | exact ih0 _ _ _ _
   | exact LeO.none _
   | refine LeO.ite ?_ ?_
   | refine LeO.bind ?_ (fun _ => ?_)
set_option maxHeartbeats 8000000 in
set_option maxRecDepth 100000 in
theorem qaN.calls (k : Nat) (A0_0 : Option Addr) (c0_0 : Nat) (l0_0 : List (S56)) (a1 : Int) (r1 : List Int) (r2 : Int) (w : World) (hr0_0 : Kd.C k56 w A0_0 l0_0.length l0_0) (hc0_0 : l0_0.length ≤ c0_0) (h : qaN.f k l0_0 a1 = some (r1, r2)) :
  Calls Try.prog 27 #[.agg #[.slice A0_0 l0_0.length c0_0], .int .i64 a1] w fun e w' => ∃ v0_ : Value, e = .returned (.tuple #[v0_, .int .i64 r2]) ∧ Kd.R (Kd.int .i64) 3 w' w.heap.size (fun _ => True) v0_ r1 ∧ Below w.heap.size w w' := by
 have hu29 := Try.underlying29
 have HR0_0 := Aside0.mk hr0_0
 have HC0_0 := Aside0.mk hc0_0
 clear hr0_0 hc0_0
 have HB := Aside0.mk (Below.refl w.heap.size w)
 have H : ((qbO.f l0_0 a1).bind fun t351 => (if t351 = true then ((qbT.f l0_0 (([a1] : List Int))).bind fun t358 => (qaN.l0 k (([] : List Int)) t358 (t358.length : Int) 0)) else (some (([] : List Int), 1)))) = some (r1, r2) := h
 clear h
 replace H := Option.bind_eq_some_iff.mp H
 obtain ⟨t351, A30, H⟩ := H
 replace H : (if t351 = true then ((qbT.f l0_0 (([a1] : List Int))).bind fun t358 => (qaN.l0 k (([] : List Int)) t358 (t358.length : Int) 0)) else (some (([] : List Int), 1))) = some (r1, r2) := H
 have A3 := Aside0.mk A30
 clear A30
 by_cases c4 : t351 = true
 ·subst c4
  have H1 : ((qbT.f l0_0 (([a1] : List Int))).bind fun t358 => (qaN.l0 k (([] : List Int)) t358 (t358.length : Int) 0)) = some (r1, r2) := by rw [if_pos rfl] at H; exact H
  clear H
  have H := H1
  clear H1
  obtain ⟨y352, hy352⟩ : ∃ y_ : List Int, y_ = (([] : List Int)) := ⟨_, rfl⟩
  replace H : ((qbT.f l0_0 (([a1] : List Int))).bind fun t358 => (qaN.l0 k y352 t358 (t358.length : Int) 0)) = some (r1, r2) := by first | (rw [hy352]; with_reducible exact H) | (have H2_ := (Option.bind_some _ _).symm.trans H; rw [hy352]; with_reducible exact H2_) | (have H2_ := (Option.bind_some _ _).symm.trans H; with_reducible exact H2_) | with_reducible exact H | (rw [hy352]; exact H) | exact H
  have Ny352 := Aside0.mk hy352
  clear hy352
  obtain ⟨y355, hy355⟩ : ∃ y_ : List Int, y_ = (([a1] : List Int)) := ⟨_, rfl⟩
  replace H : ((qbT.f l0_0 y355).bind fun t358 => (qaN.l0 k y352 t358 (t358.length : Int) 0)) = some (r1, r2) := by first | (rw [hy355]; with_reducible exact H) | (have H2_ := (Option.bind_some _ _).symm.trans H; rw [hy355]; with_reducible exact H2_) | (have H2_ := (Option.bind_some _ _).symm.trans H; with_reducible exact H2_) | with_reducible exact H | (rw [hy355]; exact H) | exact H
  have Ny355 := Aside0.mk hy355
  clear hy355
  replace H := Option.bind_eq_some_iff.mp H
  obtain ⟨t358, A50, H⟩ := H
  replace H : (qaN.l0 k y352 t358 (t358.length : Int) 0) = some (r1, r2) := H
  have A5 := Aside0.mk A50
  clear A50
  have H' := Aside0.mk H
  clear H
  go_enter Try.func27, Try.ntmps27
  go_wp2_with (first | ((with_reducible refine qaL (N := 2) rfl ?_); refine qaK ?hg (N := 2) ?hd (cs := #[.slice A0_0 l0_0.length c0_0]) (t := 29) ?hr ?_; (case hd => rfl); (case hg => rfl); (case hr => first | (go_simp; done) | (go_simp; rfl)); intro gb350 hg w6 hbox hb; have n0_ := Aside0.mk (qai (by repeat (first | (with_reducible first | exact HB.out | apply qab | apply qaa | apply qac) | exact HB.out)) hb); have n1_ := Aside0.mk (hbox); have n2_ := Aside0.mk ((by rw [hg]; exact (qaj (by repeat (first | (with_reducible first | exact HB.out | apply qab | apply qaa | apply qac) | exact HB.out))) : w.heap.size ≤ gb350)); have n3_ := Aside0.mk ((by rw [hg]; exact (qaj (by repeat (first | (with_reducible first | exact HB.out | apply qab | apply qaa | apply qac) | exact HB.out))) : w.heap.size ≤ gb350)); clear HB; have HB := n0_; have BK350 := n1_; have GW350 := n2_; have GE350 := n3_; clear n0_ n1_ n2_ n3_; clear hb hbox hg; have hcz7_0 : w6.cell? ⟨gb350, 0, none⟩ = some (.slice A0_0 l0_0.length c0_0) := (qae BK350.out 0).trans rfl; have hfz7_0 := qad BK350.out 0) | ((with_reducible refine qap (f := 16) rfl ?_); refine qa9 (some 11) rfl rfl Try.func16 (by kernel_rfl) rfl #[.agg #[.slice A0_0 l0_0.length c0_0], .int .i64 a1] rfl (by (try simp only [List.map_toArray, List.map_cons, List.map_nil]); first | done | rfl | (simp only [List.length_drop, List.length_take]; rfl)) ?_; (with_reducible refine (qbO.calls _ _ l0_0 a1 true _ ?side1 ?side2 A3.out).mono ?_); (case side1 => repeat (first | exact (Kd.qaw HR0_0.out HB.out) | (with_reducible refine Kd.qaI ?_ _) | (with_reducible refine Kd.qaJ ?_ _) | (with_reducible refine Kd.qaX ?_))); (case side2 => exact HC0_0.out); rintro e w8 ⟨rfl, hb⟩; refine ⟨_, rfl, ?_⟩; have n0_ := Aside0.mk (qar (g := gb350) (o := .cells #[.slice A0_0 l0_0.length c0_0] 29 (0, 0)) (by (with_reducible repeat (first | refine qan ?_ _ | refine qao ?_ | refine qam ?_ _)); exact BK350.out) hb); have n1_ := Aside0.mk (qai (by repeat (first | (with_reducible first | exact HB.out | apply qab | apply qaa | apply qac | refine qaf ?_ GE350.out) | exact HB.out)) hb); clear BK350; clear HB; have BK350 := n0_; have HB := n1_; clear n0_ n1_; (try clear hb); (try clear hb2); (try clear hk); (try clear hi)) | ((with_reducible refine qaL (N := 13) rfl ?_); refine Kd.qgi (Kd.int .i64) _ 3 ?hg (N := 13) ?hd (xs := ([] : List Int)) (inner := []) (ok := fun _ => True) (okp := fun _ => True) ?hr ?hp (fun _ hk => hk) trivial (Below.refl _ _) (Nat.le_refl _) (by simp) ?_; (case hd => rfl); (case hg => rfl); (case hr => first | (go_simp; done) | (go_simp; rfl)); (case hp => exact (Reps.none _ _)); intro v353 w9 ho10 hb hg_ hnew_; clear hg_ hnew_; (first | rw [← Ny352.out] at ho10 | (simp only [Int.reduceToNat] at ho10; rw [← Ny352.out] at ho10)); have n0_ := Aside0.mk (Kd.qbA ho10 (qaj (by repeat (first | (with_reducible first | exact HB.out | apply qab | apply qaa | apply qac | refine qaf ?_ GE350.out) | exact HB.out)))); have n1_ := Aside0.mk (qar (g := gb350) (o := .cells #[.slice A0_0 l0_0.length c0_0] 29 (0, 0)) (by (with_reducible repeat (first | refine qan ?_ _ | refine qao ?_ | refine qam ?_ _)); exact BK350.out) hb); have n2_ := Aside0.mk (qai (by repeat (first | (with_reducible first | exact HB.out | apply qab | apply qaa | apply qac | refine qaf ?_ GE350.out) | exact HB.out)) hb); clear BK350; clear HB; have HO354 := n0_; have BK350 := n1_; have HB := n2_; clear n0_ n1_ n2_; clear hb ho10; have hcz11_0 : w9.cell? ⟨gb350, 0, none⟩ = some (.slice A0_0 l0_0.length c0_0) := (qae BK350.out 0).trans rfl; have hfz11_0 := qad BK350.out 0) | ((with_reducible refine qaL (N := 16) rfl ?_); refine Kd.qgi (Kd.int .i64) _ 3 ?hg (N := 16) ?hd (xs := ([a1] : List Int)) (inner := [.int .i64 a1]) (ok := fun _ => True) (okp := fun _ => True) ?hr ?hp (fun _ hk => hk) trivial (Below.refl _ _) (Nat.le_refl _) (by simp) ?_; (case hd => rfl); (case hg => rfl); (case hr => first | (go_simp; done) | (go_simp; rfl)); (case hp => exact (Reps.one (show Kd.M (Kd.int .i64) _ _ _ a1 [.int .i64 a1] from rfl) (Reps.none _ _))); intro v356 w12 ho13 hb hg_ hnew_; clear hg_ hnew_; (first | rw [← Ny355.out] at ho13 | (simp only [Int.reduceToNat] at ho13; rw [← Ny355.out] at ho13)); have n0_ := Aside0.mk (Kd.R_elder' (by (with_reducible repeat (first | apply Kd.qbg | apply Kd.qbj | apply Kd.qbl)); exact HO354.out) (Kd.qfi ho13) hb); have n1_ := Aside0.mk (Kd.qbA (Kd.R_new' ho13 (Kd.R_lt (by (with_reducible repeat (first | apply Kd.qbg | apply Kd.qbj | apply Kd.qbl)); exact HO354.out))) (qaj (by repeat (first | (with_reducible first | exact HB.out | apply qab | apply qaa | apply qac | refine qaf ?_ GE350.out) | exact HB.out)))); have n2_ := Aside0.mk (qar (g := gb350) (o := .cells #[.slice A0_0 l0_0.length c0_0] 29 (0, 0)) (by (with_reducible repeat (first | refine qan ?_ _ | refine qao ?_ | refine qam ?_ _)); exact BK350.out) hb); have n3_ := Aside0.mk (qai (by repeat (first | (with_reducible first | exact HB.out | apply qab | apply qaa | apply qac | refine qaf ?_ GE350.out) | exact HB.out)) hb); clear HO354; clear BK350; clear HB; have HO354 := n0_; have HO357 := n1_; have BK350 := n2_; have HB := n3_; clear n0_ n1_ n2_ n3_; clear hb ho13; obtain ⟨Ao14, co14, eo14⟩ := Kd.qb0 HO357.out; subst eo14) | ((with_reducible refine qap (f := 73) rfl ?_); refine qa9 (some 17) rfl rfl Try.func73 (by kernel_rfl) rfl #[.agg #[.slice A0_0 l0_0.length c0_0], .slice Ao14 y355.length co14] rfl (by (try simp only [List.map_toArray, List.map_cons, List.map_nil]); first | done | rfl | (simp only [List.length_drop, List.length_take]; rfl)) ?_; (with_reducible refine (qbT.calls _ _ l0_0 _ _ y355 t358 _ ?side1 ?side2 ?side3 ?side4 A5.out).mono ?_); (case side1 => repeat (first | exact (Kd.qaw HR0_0.out HB.out) | (with_reducible refine Kd.qaI ?_ _) | (with_reducible refine Kd.qaJ ?_ _) | (with_reducible refine Kd.qaX ?_))); (case side2 => exact HC0_0.out); (case side3 => repeat (first | exact (Kd.qbi HO357.out).2.2 | (with_reducible refine Kd.qaI ?_ _) | (with_reducible refine Kd.qaJ ?_ _) | (with_reducible refine Kd.qaX ?_))); (case side4 => exact (Kd.qbi HO357.out).2.1); rintro e w15 ⟨v359, rfl, ho0, hb⟩; refine ⟨_, rfl, ?_⟩; have n0_ := Aside0.mk (Kd.qbr (by (with_reducible repeat (first | apply Kd.qbg | apply Kd.qbj | apply Kd.qbl)); exact HO354.out) hb); have n1_ := Aside0.mk (Kd.qbr (by (with_reducible repeat (first | apply Kd.qbg | apply Kd.qbj | apply Kd.qbl)); exact HO357.out) hb); have n2_ := Aside0.mk (Kd.qbA ho0 (qaj (by repeat (first | (with_reducible first | exact HB.out | apply qab | apply qaa | apply qac | refine qaf ?_ GE350.out) | exact HB.out)))); have n3_ := Aside0.mk (qar (g := gb350) (o := .cells #[.slice A0_0 l0_0.length c0_0] 29 (0, 0)) (by (with_reducible repeat (first | refine qan ?_ _ | refine qao ?_ | refine qam ?_ _)); exact BK350.out) hb); have n4_ := Aside0.mk (qai (by repeat (first | (with_reducible first | exact HB.out | apply qab | apply qaa | apply qac | refine qaf ?_ GE350.out) | exact HB.out)) hb); clear HO354; clear HO357; clear BK350; clear HB; have HO354 := n0_; have HO357 := n1_; have HO360 := n2_; have BK350 := n3_; have HB := n4_; clear n0_ n1_ n2_ n3_ n4_; (try clear hb); (try clear hb2); (try clear hk); (try clear hi); (try clear ho0); obtain ⟨Ao16, co16, eo16⟩ := Kd.qb0 HO360.out; subst eo16))
  go_loopg [6, 19] k (fun kq v6 v19 w' => ∃ (x6_1 : List Int) (x19_1 : Int), v19 = .int .i64 x19_1 ∧ Aside0 (qaN.l0 kq x6_1 t358 (t358.length : Int) x19_1 = some (r1, r2)) ∧ Aside0 (kq ≤ k) ∧ Aside0 (Kd.R (Kd.int .i64) 3 w' w.heap.size (fun _ => True) v6 x6_1) ∧ Aside0 (Kd.R Kd.bool 4 w' w.heap.size (fun _ => True) (.slice Ao16 t358.length co16) t358) ∧ Aside0 (w'.heap[gb350]? = some (.cells #[(.slice A0_0 l0_0.length c0_0)] 29 (0, 0))) ∧ Aside0 (Below w.heap.size w w'))
  case atStart => exact ⟨(y352), (0), (by first | rfl | (simp; done) | (simp [*]; done)), H', ⟨Nat.le_refl _⟩, ⟨by (with_reducible repeat (first | apply Kd.qbg | apply Kd.qbj | apply Kd.qbl)); exact Kd.qbJ HO354.out (fun _ hk => trivial)⟩, ⟨by (with_reducible repeat (first | apply Kd.qbg | apply Kd.qbj | apply Kd.qbl)); exact HO360.out⟩, ⟨by (with_reducible repeat (first | refine qan ?_ _ | refine qao ?_ | refine qam ?_ _)); exact BK350.out⟩, ⟨by repeat (first | (with_reducible first | exact HB.out | apply qab | apply qaa | apply qac | refine qaf ?_ GE350.out) | exact HB.out)⟩⟩
  case round =>
   clear H'
   try clear c1
   try clear c2
   try clear p2
   try clear c4
   try clear c7
   try clear c16
   try clear hcz11_0
   try clear hcz7_0
   try clear hfz11_0
   try clear hfz7_0
   obtain ⟨x6_1, x19_1, rfl, HA, HK1, HO_6, HO_17, BK350, HB⟩ := hrel
   cases gk with
   | zero => exact absurd HA.out (by simp [qaN.l0])
   | succ k1 =>
    have H := HA.out
    clear HA
    simp only [qaN.l0] at H
    by_cases c17 : x19_1 < (t358.length : Int)
    ·rw [if_pos c17] at H
     have c17b0 : decide (x19_1 < (t358.length : Int)) = true := decide_eq_true c17
     clear c17
     by_cases c18 : 0 ≤ x19_1
     ·rw [if_pos c18] at H
      have c18b0 : decide (0 ≤ x19_1) = true := decide_eq_true c18
      clear c18
      by_cases c19 : x19_1 < (t358.length : Int)
      ·rw [if_pos c19] at H
       have c19b0 : decide (x19_1 < (t358.length : Int)) = true := decide_eq_true c19
       clear c19
       obtain ⟨bq20, hbq20⟩ : ∃ b_ : Bool, b_ = (rdOf false t358 x19_1) := ⟨_, rfl⟩
       replace H : (if bq20 = true then (if x6_1.length < 17592186044416 then (qaN.l0 k1 (x6_1 ++ [x19_1]) t358 (t358.length : Int) (wrap64 (x19_1 + 1))) else (none)) else (qaN.l0 k1 x6_1 t358 (t358.length : Int) (wrap64 (x19_1 + 1)))) = some (r1, r2) := by rw [← hbq20] at H; exact H
       have Nbq20 := Aside0.mk hbq20
       clear hbq20
       by_cases c21 : bq20 = true
       ·subst c21
        have H1 : (if x6_1.length < 17592186044416 then (qaN.l0 k1 (x6_1 ++ [x19_1]) t358 (t358.length : Int) (wrap64 (x19_1 + 1))) else (none)) = some (r1, r2) := by rw [if_pos rfl] at H; exact H
        clear H
        have H := H1
        clear H1
        by_cases c22 : x6_1.length < 17592186044416
        ·rw [if_pos c22] at H
         have LMc22 := Aside0.mk c22
         clear c22
         obtain ⟨y362, hy362⟩ : ∃ y_ : List Int, y_ = (x6_1 ++ [x19_1]) := ⟨_, rfl⟩
         replace H : (qaN.l0 k1 y362 t358 (t358.length : Int) (wrap64 (x19_1 + 1))) = some (r1, r2) := by first | (rw [hy362]; with_reducible exact H) | (have H2_ := (Option.bind_some _ _).symm.trans H; rw [hy362]; with_reducible exact H2_) | (have H2_ := (Option.bind_some _ _).symm.trans H; with_reducible exact H2_) | with_reducible exact H | (rw [hy362]; exact H) | exact H
         have Ny362 := Aside0.mk hy362
         clear hy362
         have H' := Aside0.mk H
         clear H
         have p361 : 0 ≤ (x19_1 : Int) := of_decide_eq_true (by first | (with_reducible assumption) | assumption)
         have q361 : x19_1 < (t358.length : Int) := of_decide_eq_true (by first | (with_reducible assumption) | assumption)
         obtain ⟨ad361, e361, hx361_0⟩ := Kd.qeS (Kd.qbi HO_17.out).2.2 x19_1 p361 q361
         (try rw [← Nbq20.out] at hx361_0)
         cases e361
         replace p361 := eq_true p361
         replace q361 := eq_true q361
         go_wp2_with (first | ((with_reducible refine qdQ (b := .append) (xs := #[.tmp 25, .tmp 27]) rfl ?_); at_builtin; refine Kd.qf4 (Kd.int .i64) (w0 := w) w.heap.size rfl (.tmp 25) (.tmp 27) 42 3 (.int .i64 0) 8 rfl Try.underlying42 info3 rfl (by decide) (by omega) u6 x6_1 x19_1 [.int .i64 x19_1] (fun _ => True) (fun _ => False) rfl rfl ?aP (fun _ hk => hk.elim) ?aF ?aO ?aB ?aS ?aL ?_; (case aP => exact rfl); (case aB => exact (by repeat (first | (with_reducible first | exact HB.out | apply qab | apply qaa | apply qac | refine qaf ?_ GE350.out) | exact HB.out))); (case aF => exact (fun _ _ => trivial)); (case aO => exact (by (with_reducible repeat (first | apply Kd.qbg | apply Kd.qbj | apply Kd.qbl)); exact HO_6.out)); (case aS => exact (qaj (by repeat (first | (with_reducible first | exact HB.out | apply qab | apply qaa | apply qac | refine qaf ?_ GE350.out) | exact HB.out)))); (case aL => have := LMc22.out; omega); intro v363 w23 ho hb hg hat; rw [← Ny362.out] at ho; have n0_ := Aside0.mk (Kd.qgD (by (with_reducible repeat (first | apply Kd.qbg | apply Kd.qbj | apply Kd.qbl)); exact HO_17.out) (Kd.qdY (by (with_reducible repeat (first | apply Kd.qbg | apply Kd.qbj | apply Kd.qbl)); exact HO_6.out)) (by decide) hg); have n1_ := Aside0.mk (qb4 (g := gb350) (o := .cells #[.slice A0_0 l0_0.length c0_0] 29 (0, 0)) (by (with_reducible repeat (first | refine qan ?_ _ | refine qao ?_ | refine qam ?_ _)); exact BK350.out) hg (Kd.R_ne HO_6.out BK350.out (by decide))); have n2_ := Aside0.mk (hb); have n3_ := Aside0.mk (ho); clear HO_17; clear BK350; clear HB; clear HO_6; have HO_17 := n0_; have BK350 := n1_; have HB := n2_; have HO364 := n3_; clear n0_ n1_ n2_ n3_; clear ho hb hg hat))
         go_roundg k1
         case measure => have := HK1.out; omega
         case rel => exact ⟨(y362), (wrap64 (x19_1 + 1)), (by first | rfl | (simp; done) | (simp [*]; done)), H', ⟨by have := HK1.out; omega⟩, ⟨by (with_reducible repeat (first | apply Kd.qbg | apply Kd.qbj | apply Kd.qbl)); exact HO364.out⟩, ⟨by (with_reducible repeat (first | apply Kd.qbg | apply Kd.qbj | apply Kd.qbl)); exact HO_17.out⟩, ⟨by (with_reducible repeat (first | refine qan ?_ _ | refine qao ?_ | refine qam ?_ _)); exact BK350.out⟩, ⟨by repeat (first | (with_reducible first | exact HB.out | apply qab | apply qaa | apply qac | refine qaf ?_ GE350.out) | exact HB.out)⟩⟩
        ·rw [if_neg c22] at H
         exact absurd H (by simp)
       ·replace c21 := Bool.eq_false_iff.mpr c21
        subst c21
        have H1 : (qaN.l0 k1 x6_1 t358 (t358.length : Int) (wrap64 (x19_1 + 1))) = some (r1, r2) := by rw [if_neg (show ¬ (false = true) by decide)] at H; exact H
        clear H
        have H := H1
        clear H1
        have H' := Aside0.mk H
        clear H
        have p361 : 0 ≤ (x19_1 : Int) := of_decide_eq_true (by first | (with_reducible assumption) | assumption)
        have q361 : x19_1 < (t358.length : Int) := of_decide_eq_true (by first | (with_reducible assumption) | assumption)
        obtain ⟨ad361, e361, hx361_0⟩ := Kd.qeS (Kd.qbi HO_17.out).2.2 x19_1 p361 q361
        (try rw [← Nbq20.out] at hx361_0)
        cases e361
        replace p361 := eq_true p361
        replace q361 := eq_true q361
        go_wp2
        go_roundg k1
        case measure => have := HK1.out; omega
        case rel => exact ⟨(x6_1), (wrap64 (x19_1 + 1)), (by first | rfl | (simp; done) | (simp [*]; done)), H', ⟨by have := HK1.out; omega⟩, ⟨by (with_reducible repeat (first | apply Kd.qbg | apply Kd.qbj | apply Kd.qbl)); exact HO_6.out⟩, ⟨by (with_reducible repeat (first | apply Kd.qbg | apply Kd.qbj | apply Kd.qbl)); exact HO_17.out⟩, ⟨by (with_reducible repeat (first | refine qan ?_ _ | refine qao ?_ | refine qam ?_ _)); exact BK350.out⟩, ⟨by repeat (first | (with_reducible first | exact HB.out | apply qab | apply qaa | apply qac | refine qaf ?_ GE350.out) | exact HB.out)⟩⟩
      ·rw [if_neg c19] at H
       exact absurd H (by simp)
     ·rw [if_neg c18] at H
      exact absurd H (by simp)
    ·rw [if_neg c17] at H
     have c17b0 : decide (x19_1 < (t358.length : Int)) = false := decide_eq_false c17
     clear c17
     simp only [Option.some.injEq, Prod.mk.injEq] at H
     obtain ⟨rfl, rfl⟩ := H
     go_wp2
     go_ret2
     exact ⟨_, by first | rfl | (simp [qak, qal] <;> rfl) | (simp [*, qak, qal] <;> rfl), by (with_reducible repeat (first | apply Kd.qbg | apply Kd.qbj | apply Kd.qbl)); exact HO_6.out, by repeat (first | (with_reducible first | exact HB.out | apply qab | apply qaa | apply qac | refine qaf ?_ GE350.out) | exact HB.out)⟩
 ·replace c4 := Bool.eq_false_iff.mpr c4
  subst c4
  have H1 : (some (([] : List Int), 1)) = some (r1, r2) := by rw [if_neg (show ¬ (false = true) by decide)] at H; exact H
  clear H
  have H := H1
  clear H1
  simp only [Option.some.injEq, Prod.mk.injEq] at H
  obtain ⟨rfl, rfl⟩ := H
  go_enter Try.func27, Try.ntmps27
  go_wp2_with (first | ((with_reducible refine qaL (N := 2) rfl ?_); refine qaK ?hg (N := 2) ?hd (cs := #[.slice A0_0 l0_0.length c0_0]) (t := 29) ?hr ?_; (case hd => rfl); (case hg => rfl); (case hr => first | (go_simp; done) | (go_simp; rfl)); intro gb350 hg w24 hbox hb; have n0_ := Aside0.mk (qai (by repeat (first | (with_reducible first | exact HB.out | apply qab | apply qaa | apply qac) | exact HB.out)) hb); have n1_ := Aside0.mk (hbox); have n2_ := Aside0.mk ((by rw [hg]; exact (qaj (by repeat (first | (with_reducible first | exact HB.out | apply qab | apply qaa | apply qac) | exact HB.out))) : w.heap.size ≤ gb350)); have n3_ := Aside0.mk ((by rw [hg]; exact (qaj (by repeat (first | (with_reducible first | exact HB.out | apply qab | apply qaa | apply qac) | exact HB.out))) : w.heap.size ≤ gb350)); clear HB; have HB := n0_; have BK350 := n1_; have GW350 := n2_; have GE350 := n3_; clear n0_ n1_ n2_ n3_; clear hb hbox hg; have hcz25_0 : w24.cell? ⟨gb350, 0, none⟩ = some (.slice A0_0 l0_0.length c0_0) := (qae BK350.out 0).trans rfl; have hfz25_0 := qad BK350.out 0) | ((with_reducible refine qap (f := 16) rfl ?_); refine qa9 (some 11) rfl rfl Try.func16 (by kernel_rfl) rfl #[.agg #[.slice A0_0 l0_0.length c0_0], .int .i64 a1] rfl (by (try simp only [List.map_toArray, List.map_cons, List.map_nil]); first | done | rfl | (simp only [List.length_drop, List.length_take]; rfl)) ?_; (with_reducible refine (qbO.calls _ _ l0_0 a1 false _ ?side1 ?side2 A3.out).mono ?_); (case side1 => repeat (first | exact (Kd.qaw HR0_0.out HB.out) | (with_reducible refine Kd.qaI ?_ _) | (with_reducible refine Kd.qaJ ?_ _) | (with_reducible refine Kd.qaX ?_))); (case side2 => exact HC0_0.out); rintro e w26 ⟨rfl, hb⟩; refine ⟨_, rfl, ?_⟩; have n0_ := Aside0.mk (qar (g := gb350) (o := .cells #[.slice A0_0 l0_0.length c0_0] 29 (0, 0)) (by (with_reducible repeat (first | refine qan ?_ _ | refine qao ?_ | refine qam ?_ _)); exact BK350.out) hb); have n1_ := Aside0.mk (qai (by repeat (first | (with_reducible first | exact HB.out | apply qab | apply qaa | apply qac | refine qaf ?_ GE350.out) | exact HB.out)) hb); clear BK350; clear HB; have BK350 := n0_; have HB := n1_; clear n0_ n1_; (try clear hb); (try clear hb2); (try clear hk); (try clear hi)))
  go_ret2
  exact ⟨_, by first | rfl | (simp [qak, qal] <;> rfl) | (simp [*, qak, qal] <;> rfl), by first | exact Kd.qeQ _ _ _ _ _ | exact Kd.N_nil _ _ _ _ _ | exact Kd.V_nil _ _ _ _ _ | exact Kd.Q_nil _ _ _ _ _ | exact Kd.S_nil _ _ _ _ _, by repeat (first | (with_reducible first | exact HB.out | apply qab | apply qaa | apply qac | refine qaf ?_ GE350.out) | exact HB.out)⟩
end Go.Proofs.Ytenfomejccfkgaa.X
namespace Go.Proofs.Ytenfomejccfkgaa.X
open Go.RowKit Go.Proofs.YtenfomejccfkgaaW.PrintWords Go.Proofs.YtenfomejccfkgaaW.PrintLast Go.Proofs.YtenfomejccfkgaaW.PrintMore
attribute [local go_sem] qaE qaF qaG qay qaz qaP qaQ qas qat qaA qaB
set_option linter.unusedVariables false
set_option linter.unusedSimpArgs false
def qcr (s : List Bool) : Nat → Nat → List Int
 | _, 0 => []
 | i, d + 1 => if rdOf false s (i : Int) = true then (i : Int) :: qcr s (i + 1) d else qcr s (i + 1) d
theorem qgu (s : List Bool) : ∀ d i, (qcr s i d).length ≤ d := by
 intro d
 induction d with
 | zero => intro i; exact Nat.le_refl _
 | succ d ih =>
  intro i
  have := ih (i + 1)
  unfold qcr
  split
  ·rw [List.length_cons]; omega
  ·omega
theorem qg9 (s : List Bool) : ∀ d i, i + d = 50 → qcr (orW noneW s) i d = qcr s i d := by
 intro d
 induction d with
 | zero => intro i _; rfl
 | succ d ih =>
  intro i h
  have e0 : rdOf false noneW (i : Int) = false := by
   rw [qdh (l := noneW) (by show i < (List.replicate 50 false).length; rw [List.length_replicate]; omega)]
   exact List.getElem_replicate ..
  have e : rdOf false (orW noneW s) (i : Int) = rdOf false s (i : Int) := by
   unfold orW
   rw [qdw noneW s 50 i (by omega), e0, decide_eq_true (show i < 50 by omega), Bool.true_and, Bool.false_or]
  rw [qcr, qcr, e, ih (i + 1) (by omega)]
def qdy (ns : List S56) (root : Int) : List Int × Int := if (walkR ns root).2.2 = true then (qcr (walkR ns root).2.1 0 50, 0) else ([], 1)
theorem qgv (ns : List S56) (root : Int) : (qdy ns root).1.length ≤ 60 := by
 unfold qdy
 split
 ·have := qgu (walkR ns root).2.1 50 0
  simp only
  omega
 ·simp
theorem qha (i : Nat) (h : i < 1000000) : wrap64 ((i : Int) + 1) = ((i + 1 : Nat) : Int) := by unfold wrap64; omega
theorem qeq (s : List Bool) (hs : s.length = 50) : ∀ d i (x : List Int), i + d = 50 → x.length ≤ i → Ev (fun k => qaR.l0 k s x (i : Int)) (x ++ qcr s i d, 0) := by
 intro d
 induction d with
 | zero =>
  intro i x h hx
  refine Ev.succ ?_
  simp only [qaR.l0]
  exact Ev.neg (by omega) (Ev.is (by simp [qcr]))
 | succ d ih =>
  intro i x h hx
  refine Ev.succ ?_
  simp only [qaR.l0, qha i (by omega)]
  refine Ev.pos (by omega) (Ev.pos (by omega) (Ev.pos (by omega) ?_))
  cases hb : rdOf false s (i : Int) with
  | true =>
   refine Ev.pos rfl (Ev.pos (by omega) (Ev.same (ih (i + 1) (x ++ [(i : Int)]) (by omega) (by rw [List.length_append]; simp; omega)) ?_))
   rw [qcr, if_pos hb]
   simp
  | false =>
   refine Ev.neg (by simp) (Ev.same (ih (i + 1) x (by omega) (by omega)) ?_)
   rw [qcr, if_neg (by rw [hb]; simp)]
theorem qer (s : List Bool) (hs : s.length = 50) : ∀ d i (x : List Int), i + d = 50 → x.length ≤ i → Ev (fun k => qaN.l0 k x s (s.length : Int) (i : Int)) (x ++ qcr s i d, 0) := by
 intro d
 induction d with
 | zero =>
  intro i x h hx
  refine Ev.succ ?_
  simp only [qaN.l0]
  exact Ev.neg (by omega) (Ev.is (by simp [qcr]))
 | succ d ih =>
  intro i x h hx
  refine Ev.succ ?_
  simp only [qaN.l0, qha i (by omega)]
  refine Ev.pos (by omega) (Ev.pos (by omega) (Ev.pos (by omega) ?_))
  cases hb : rdOf false s (i : Int) with
  | true =>
   refine Ev.pos rfl (Ev.pos (by omega) (Ev.same (ih (i + 1) (x ++ [(i : Int)]) (by omega) (by rw [List.length_append]; simp; omega)) ?_))
   rw [qcr, if_pos hb]
   simp
  | false =>
   refine Ev.neg (by simp) (Ev.same (ih (i + 1) x (by omega) (by omega)) ?_)
   rw [qcr, if_neg (by rw [hb]; simp)]
theorem qdJ {ns : List S56} (root : Int) (h : qcB ns = true) : Ev (fun k => qaR.f k ns root) (qdy ns root) := by
 unfold qaR.f
 refine Ev.bindk (qg8 root h) ?_
 cases hk : (walkR ns root).2.2 with
 | false => exact Ev.neg (by simp) (Ev.is (by simp [qdy, hk]))
 | true => exact Ev.pos rfl (Ev.same (qeq _ (qei ns root) 50 0 [] (by omega) (by simp)) (by simp [qdy, hk]))
theorem qdK {ns : List S56} (root : Int) (h : qcB ns = true) : Ev (fun k => qaN.f k ns root) (qdy ns root) := by
 unfold qaN.f
 refine Ev.bindk (qf3 root h) ?_
 cases hk : (walkR ns root).2.2 with
 | false => exact Ev.neg (by simp) (Ev.is (by simp [qdy, hk]))
 | true =>
  have hp : qbT.f ns [root] = some (orW noneW (walkR ns root).2.1) := by
   unfold qbT.f
   rw [if_pos ⟨h, by simp, fun r hr => by rw [List.mem_singleton.1 hr]; exact hk⟩]
   rfl
  refine Ev.pos rfl (Ev.bindk hp ?_)
  refine Ev.same (qer _ (qcv _ _ _) 50 0 [] (by omega) (by simp)) ?_
  show ([] ++ qcr (orW noneW (walkR ns root).2.1) 0 50, (0 : Int)) = _
  rw [qg9 _ 50 0 (by omega)]
  simp [qdy, hk]
end Go.Proofs.Ytenfomejccfkgaa.X
namespace Go.Proofs.Ytenfomejccfkgaa.X
open Go.RowKit Go.Proofs.YtenfomejccfkgaaW.PrintWords Go.Proofs.YtenfomejccfkgaaW.PrintLast Go.Proofs.YtenfomejccfkgaaW.PrintMore
attribute [local go_sem] qaE qaF qaG qay qaz qaP qaQ qas qat qaA qaB
set_option linter.unusedVariables false
set_option linter.unusedSimpArgs false
def qbb.l0 : Nat → List Int → Int → Int → Option (Int)
 | 0, _, _, _ => none
 | k + 1, x0, x1, x5 => if x5 < (x0.length : Int) then (if 0 ≤ x5 then (if (rd x0 x5) = x1 then (qbb.l0 k x0 (wrap64 (x1 + 1)) (wrap64 (x5 + 1))) else (some (-1))) else (none)) else (some x1)
def qbb.f (k : Nat) (l0 : List Int) (a1 : Int) : Option (Int) := qbb.l0 k l0 a1 0
theorem qbb.qbk : ∀ k, (∀ y0 y1 y2, LeO (qbb.l0 k y0 y1 y2) (qbb.l0 (k + 1) y0 y1 y2))
 | 0 => fun _ _ _ r h => by simp [qbb.l0] at h
 | k + 1 => by
  have ih0 := qbb.qbk k
  ·intro y0 y1 y2
   unfold qbb.l0
   repeat' first
   | (with_reducible exact ih0 _ _ _)
   | (with_reducible exact LeO.refl _)
   | (with_reducible exact LeO.none _)
   | (with_reducible refine LeO.ite ?_ ?_)
   | (with_reducible refine LeO.bind ?_ (fun _ => ?_))
   | exact ih0 _ _ _
   | exact LeO.none _
   | refine LeO.ite ?_ ?_
   | refine LeO.bind ?_ (fun _ => ?_)
theorem qbb.mono : ∀ a0 a1 k, LeO (qbb.f k a0 a1) (qbb.f (k + 1) a0 a1) := by
 intro a0 a1 k
 have ih0 := qbb.qbk k
 unfold qbb.f
 repeat' first
   | (with_reducible exact ih0 _ _ _)
   | (with_reducible exact LeO.refl _)
   | (with_reducible exact LeO.none _)
   | (with_reducible refine LeO.ite ?_ ?_)
   | (with_reducible refine LeO.bind ?_ (fun _ => ?_))
   | exact ih0 _ _ _
   | exact LeO.none _
   | refine LeO.ite ?_ ?_
   | refine LeO.bind ?_ (fun _ => ?_)
set_option maxHeartbeats 8000000 in
set_option maxRecDepth 100000 in
theorem qbb.calls (k : Nat) (A0 : Option Addr) (c0 : Nat) (l0 : List Int) (a1 : Int) (r : Int) (w : World) (hr0 : Kd.C (Kd.int .i64) w A0 l0.length l0) (hc0 : l0.length ≤ c0) (h : qbb.f k l0 a1 = some r) :
  Calls Try.prog 30 #[.slice A0 l0.length c0, .int .i64 a1] w fun e w' => e = .returned (.int .i64 r) ∧ qbf w w' := by
 have HR0 := Aside0.mk hr0
 have HC0 := Aside0.mk hc0
 clear hr0 hc0
 have H : (qbb.l0 k l0 a1 0) = some r := h
 clear h
 have H' := Aside0.mk H
 clear H
 go_enter Try.func30, Try.ntmps30
 go_wp2
 go_loopg [1, 5] k (fun kq v1 v5 w' => ∃ (x1_1 : Int) (x5_1 : Int), v1 = .int .i64 x1_1 ∧ v5 = .int .i64 x5_1 ∧ Aside0 (qbb.l0 kq l0 x1_1 x5_1 = some r) ∧ Aside0 (kq ≤ k) ∧ qbf w w')
 case atStart => exact ⟨(a1), (0), (by first | rfl | (simp; done) | (simp [*]; done)), (by first | rfl | (simp; done) | (simp [*]; done)), H', ⟨Nat.le_refl _⟩, by repeat (first | exact qbf.refl _ | apply qbf.step)⟩
 case round =>
  clear H'
  try clear p2
  obtain ⟨x1_1, x5_1, rfl, rfl, HA, HK1, ⟨m1, rfl⟩⟩ := hrel
  cases gk with
  | zero => exact absurd HA.out (by simp [qbb.l0])
  | succ k1 =>
   have H := HA.out
   clear HA
   simp only [qbb.l0] at H
   by_cases c3 : x5_1 < (l0.length : Int)
   ·rw [if_pos c3] at H
    have c3b0 : decide (x5_1 < (l0.length : Int)) = true := decide_eq_true c3
    clear c3
    by_cases c4 : 0 ≤ x5_1
    ·rw [if_pos c4] at H
     have c4b0 : decide (0 ≤ x5_1) = true := decide_eq_true c4
     clear c4
     by_cases c5 : (rd l0 x5_1) = x1_1
     ·rw [if_pos c5] at H
      have c5b0 : ((rd l0 x5_1) == x1_1) = true := beq_iff_eq.mpr c5
      have c5b1 : ((rd l0 x5_1) != x1_1) = false := bne_eq_false_iff_eq.mpr c5
      clear c5
      have H' := Aside0.mk H
      clear H
      have p365 : 0 ≤ (x5_1 : Int) := of_decide_eq_true (by first | (with_reducible assumption) | assumption)
      have q365 : x5_1 < (l0.length : Int) := of_decide_eq_true (by first | (with_reducible assumption) | assumption)
      obtain ⟨ad365, e365, hx365_0⟩ := Kd.qcp HR0.out x5_1 p365 q365
      cases e365
      replace p365 := eq_true p365
      replace q365 := eq_true q365
      go_wp2
      go_roundg k1
      case measure => have := HK1.out; omega
      case rel => exact ⟨(wrap64 (x1_1 + 1)), (wrap64 (x5_1 + 1)), (by first | rfl | (simp; done) | (simp [*]; done)), (by first | rfl | (simp; done) | (simp [*]; done)), H', ⟨by have := HK1.out; omega⟩, by repeat (first | exact qbf.refl _ | apply qbf.step)⟩
     ·rw [if_neg c5] at H
      have c5b0 : ((rd l0 x5_1) == x1_1) = false := beq_eq_false_iff_ne.mpr c5
      have c5b1 : ((rd l0 x5_1) != x1_1) = true := bne_iff_ne.mpr c5
      obtain rfl := Option.some.inj H
      have p365 : 0 ≤ (x5_1 : Int) := of_decide_eq_true (by first | (with_reducible assumption) | assumption)
      have q365 : x5_1 < (l0.length : Int) := of_decide_eq_true (by first | (with_reducible assumption) | assumption)
      obtain ⟨ad365, e365, hx365_0⟩ := Kd.qcp HR0.out x5_1 p365 q365
      cases e365
      replace p365 := eq_true p365
      replace q365 := eq_true q365
      go_wp2
      go_ret
      exact ⟨by first | rfl | (simp; done) | (simp [*]; done), by repeat (first | exact qbf.refl _ | apply qbf.step)⟩
    ·rw [if_neg c4] at H
     exact absurd H (by simp)
   ·rw [if_neg c3] at H
    have c3b0 : decide (x5_1 < (l0.length : Int)) = false := decide_eq_false c3
    clear c3
    obtain rfl := Option.some.inj H
    go_wp2
    go_ret
    exact ⟨by first | rfl | (simp; done) | (simp [*]; done), by repeat (first | exact qbf.refl _ | apply qbf.step)⟩
end Go.Proofs.Ytenfomejccfkgaa.X
namespace Go.Proofs.Ytenfomejccfkgaa.X
open Go.RowKit Go.Proofs.YtenfomejccfkgaaW.PrintWords Go.Proofs.YtenfomejccfkgaaW.PrintLast Go.Proofs.YtenfomejccfkgaaW.PrintMore
attribute [local go_sem] qaE qaF qaG qay qaz qaP qaQ qas qat qaA qaB
set_option linter.unusedVariables false
set_option linter.unusedSimpArgs false
theorem qeF (rest : List Int) : ∀ (pre : List Int) (m : Int), 0 ≤ m → m + 1 * (rest.length : Int) ≤ 4611686018427387904 → (pre ++ rest).length ≤ 9223372036854775807 →
  Ev (fun k => qbb.l0 k (pre ++ qb8 rest m) m ((pre.length : Nat) : Int)) (m + 1 * (rest.length : Int)) := by
 induction rest with
 | nil =>
  intro pre m h0 h1 hl
  refine Ev.succ ?_
  simp only [qbb.l0]
  exact Ev.neg (by simp [qb8]) (Ev.is (by simp))
 | cons x rest ih =>
  intro pre m h0 h1 hl
  simp only [qb8, List.length_cons] at h1 ⊢
  have hlt : ((pre.length : Nat) : Int) < ((pre ++ ((m)) :: qb8 rest (m + 1)).length : Int) := by simp; omega
  have hwp : wrap64 (((pre.length : Nat) : Int) + 1) = (((pre ++ [((m))]).length : Nat) : Int) := by rw [← qbR]; exact qb2 (by simp at hl; omega)
  have hrd : rd (pre ++ ((m)) :: qb8 rest (m + 1)) ((pre.length : Nat) : Int) = ((m)) := by simp [rd, List.getD_eq_getElem?_getD]
  have w1 : wrap64 (m + 1) = m + 1 := (qct (by omega) (by omega)).trans (by omega)
  have hi := ih (pre ++ [((m))]) (m + 1) (by omega) (by omega) (by simpa using hl)
  have e3 : pre ++ ((m)) :: qb8 rest (m + 1) = (pre ++ [((m))]) ++ qb8 rest (m + 1) := by simp
  rw [← e3] at hi
  refine Ev.succ ?_
  simp only [qbb.l0, hrd, hwp, w1]
  refine Ev.pos hlt (Ev.pos (by omega) ?_)
  repeat (first | refine Ev.bind (mt_ev (by omega)) ?_ | refine Ev.pos trivial ?_ | refine Ev.pos rfl ?_ | refine Ev.neg (by simp) ?_)
  exact Ev.same hi (by omega)
theorem qhb (l : List Int) (m : Int) (h0 : 0 ≤ m) (h1 : m + 1 * (l.length : Int) ≤ 4611686018427387904) (hl : l.length ≤ 9223372036854775807) : Ev (fun k => qbb.f k (qb8 l m) m) (m + 1 * (l.length : Int)) := by
 unfold qbb.f
 have h := qeF l [] m h0 h1 (by simpa using hl)
 simpa using h
end Go.Proofs.Ytenfomejccfkgaa.X
namespace Go.Proofs.Ytenfomejccfkgaa.X
open Go.RowKit Go.Proofs.YtenfomejccfkgaaW.PrintWords Go.Proofs.YtenfomejccfkgaaW.PrintLast Go.Proofs.YtenfomejccfkgaaW.PrintMore
attribute [local go_sem] qaE qaF qaG qay qaz qaP qaQ qas qat qaA qaB
set_option linter.unusedVariables false
set_option linter.unusedSimpArgs false
def qbY.f (l0 : List Int) (a1 : Int) : Option (Int) := if (wrap64 (a1 - (l0.length : Int))) < 0 then (some (-1)) else (some (wrap64 (a1 - (l0.length : Int))))
set_option maxHeartbeats 8000000 in
set_option maxRecDepth 100000 in
theorem qbY.calls (A0 : Option Addr) (c0 : Nat) (l0 : List Int) (a1 : Int) (r : Int) (w : World) (hr0 : Kd.C (Kd.int .i64) w A0 l0.length l0) (hc0 : l0.length ≤ c0) (h : qbY.f l0 a1 = some r) :
  Calls Try.prog 76 #[.slice A0 l0.length c0, .int .i64 a1] w fun e w' => e = .returned (.int .i64 r) ∧ qbf w w' := by
 have HR0 := Aside0.mk hr0
 have HC0 := Aside0.mk hc0
 clear hr0 hc0
 have H : (if (wrap64 (a1 - (l0.length : Int))) < 0 then (some (-1)) else (some (wrap64 (a1 - (l0.length : Int))))) = some r := h
 clear h
 by_cases c3 : (wrap64 (a1 - (l0.length : Int))) < 0
 ·rw [if_pos c3] at H
  have c3b0 : decide ((wrap64 (a1 - (l0.length : Int))) < 0) = true := decide_eq_true c3
  clear c3
  obtain rfl := Option.some.inj H
  go_enter Try.func76, Try.ntmps76
  go_wp2
  go_ret
  exact ⟨by first | rfl | (simp; done) | (simp [*]; done), by repeat (first | exact qbf.refl _ | apply qbf.step)⟩
 ·rw [if_neg c3] at H
  have c3b0 : decide ((wrap64 (a1 - (l0.length : Int))) < 0) = false := decide_eq_false c3
  clear c3
  obtain rfl := Option.some.inj H
  go_enter Try.func76, Try.ntmps76
  go_wp2
  go_ret
  exact ⟨by first | rfl | (simp; done) | (simp [*]; done), by repeat (first | exact qbf.refl _ | apply qbf.step)⟩
end Go.Proofs.Ytenfomejccfkgaa.X
namespace Go.Proofs.Ytenfomejccfkgaa.X
open Go.RowKit Go.Proofs.YtenfomejccfkgaaW.PrintWords Go.Proofs.YtenfomejccfkgaaW.PrintLast Go.Proofs.YtenfomejccfkgaaW.PrintMore
attribute [local go_sem] qaE qaF qaG qay qaz qaP qaQ qas qat qaA qaB
set_option linter.unusedVariables false
set_option linter.unusedSimpArgs false
theorem sz_IntS (l : List Int) (hw : l.length ≤ maxLen) (B left : Int) (h0 : 0 ≤ left) (h1 : left ≤ B) (hB : B ≤ 1048576) : ∃ r, Ev (fun k => qbY.f l left) r ∧ (0 ≤ r → r ≤ left ∧ (l.length : Int) ≤ B) := by
 have hl := Nat.le_trans hw qcK
 unfold qbY.f
 have e : wrap64 (left - (l.length : Int)) = left - (l.length : Int) := qct (by omega) (by omega)
 simp only [e]
 by_cases c : left - (l.length : Int) < 0
 ·exact ⟨-1, Ev.pos c (Ev.is rfl), fun h => by omega⟩
 ·exact ⟨left - (l.length : Int), Ev.neg c (Ev.is rfl), fun _ => ⟨by omega, by omega⟩⟩
end Go.Proofs.Ytenfomejccfkgaa.X
namespace Go.Proofs.Ytenfomejccfkgaa.X
open Go.RowKit Go.Proofs.YtenfomejccfkgaaW.PrintWords Go.Proofs.YtenfomejccfkgaaW.PrintLast Go.Proofs.YtenfomejccfkgaaW.PrintMore
attribute [local go_sem] qaE qaF qaG qay qaz qaP qaQ qas qat qaA qaB
set_option linter.unusedVariables false
set_option linter.unusedSimpArgs false
def qci.f (a0_0 : ByteArray) (a0_1 : ByteArray) (a1 : Int) : Option (Int) := if (wrap64 (a1 - (a0_0.size : Int))) < 0 then (some (-1)) else (if (wrap64 ((wrap64 (a1 - (a0_0.size : Int))) - (a0_1.size : Int))) < 0 then (some (-1)) else (some (wrap64 ((wrap64 (a1 - (a0_0.size : Int))) - (a0_1.size : Int)))))
set_option maxHeartbeats 8000000 in
set_option maxRecDepth 100000 in
theorem qci.calls (a0_0 : ByteArray) (a0_1 : ByteArray) (a1 : Int) (r : Int) (w : World) (h : qci.f a0_0 a0_1 a1 = some r) :
  Calls Try.prog 124 #[.agg #[.string a0_0, .string a0_1], .int .i64 a1] w fun e w' => e = .returned (.int .i64 r) ∧ Below w.heap.size w w' := by
 have hu159 := Try.underlying159
 have HB := Aside0.mk (Below.refl w.heap.size w)
 have H : (if (wrap64 (a1 - (a0_0.size : Int))) < 0 then (some (-1)) else (if (wrap64 ((wrap64 (a1 - (a0_0.size : Int))) - (a0_1.size : Int))) < 0 then (some (-1)) else (some (wrap64 ((wrap64 (a1 - (a0_0.size : Int))) - (a0_1.size : Int)))))) = some r := h
 clear h
 by_cases c3 : (wrap64 (a1 - (a0_0.size : Int))) < 0
 ·rw [if_pos c3] at H
  have c3b0 : decide ((wrap64 (a1 - (a0_0.size : Int))) < 0) = true := decide_eq_true c3
  clear c3
  obtain rfl := Option.some.inj H
  go_enter Try.func124, Try.ntmps124
  go_wp2_with (first | ((with_reducible refine qaL (N := 2) rfl ?_); refine qaK ?hg (N := 2) ?hd (cs := #[.string a0_0, .string a0_1]) (t := 159) ?hr ?_; (case hd => rfl); (case hg => rfl); (case hr => first | (go_simp; done) | (go_simp; rfl)); intro gb101 hg w4 hbox hb; have n0_ := Aside0.mk (qai (by repeat (first | (with_reducible first | exact HB.out | apply qab | apply qaa | apply qac) | exact HB.out)) hb); have n1_ := Aside0.mk (hbox); have n2_ := Aside0.mk ((by rw [hg]; exact (qaj (by repeat (first | (with_reducible first | exact HB.out | apply qab | apply qaa | apply qac) | exact HB.out))) : w.heap.size ≤ gb101)); have n3_ := Aside0.mk ((by rw [hg]; exact (qaj (by repeat (first | (with_reducible first | exact HB.out | apply qab | apply qaa | apply qac) | exact HB.out))) : w.heap.size ≤ gb101)); clear HB; have HB := n0_; have BK101 := n1_; have GW101 := n2_; have GE101 := n3_; clear n0_ n1_ n2_ n3_; clear hb hbox hg; have hcz5_0 : w4.cell? ⟨gb101, 0, none⟩ = some (.string a0_0) := (qae BK101.out 0).trans rfl; have hcz5_1 : w4.cell? ⟨gb101, 1, none⟩ = some (.string a0_1) := (qae BK101.out 1).trans rfl; have hfz5_0 := qad BK101.out 0; have hfz5_1 := qad BK101.out 1))
  go_ret
  exact ⟨by first | rfl | (simp [qak, qal] <;> rfl) | (simp [*, qak, qal] <;> rfl), by repeat (first | (with_reducible first | exact HB.out | apply qab | apply qaa | apply qac | refine qaf ?_ GE101.out) | exact HB.out)⟩
 ·rw [if_neg c3] at H
  have c3b0 : decide ((wrap64 (a1 - (a0_0.size : Int))) < 0) = false := decide_eq_false c3
  clear c3
  by_cases c6 : (wrap64 ((wrap64 (a1 - (a0_0.size : Int))) - (a0_1.size : Int))) < 0
  ·rw [if_pos c6] at H
   have c6b0 : decide ((wrap64 ((wrap64 (a1 - (a0_0.size : Int))) - (a0_1.size : Int))) < 0) = true := decide_eq_true c6
   clear c6
   obtain rfl := Option.some.inj H
   go_enter Try.func124, Try.ntmps124
   go_wp2_with (first | ((with_reducible refine qaL (N := 2) rfl ?_); refine qaK ?hg (N := 2) ?hd (cs := #[.string a0_0, .string a0_1]) (t := 159) ?hr ?_; (case hd => rfl); (case hg => rfl); (case hr => first | (go_simp; done) | (go_simp; rfl)); intro gb101 hg w7 hbox hb; have n0_ := Aside0.mk (qai (by repeat (first | (with_reducible first | exact HB.out | apply qab | apply qaa | apply qac) | exact HB.out)) hb); have n1_ := Aside0.mk (hbox); have n2_ := Aside0.mk ((by rw [hg]; exact (qaj (by repeat (first | (with_reducible first | exact HB.out | apply qab | apply qaa | apply qac) | exact HB.out))) : w.heap.size ≤ gb101)); have n3_ := Aside0.mk ((by rw [hg]; exact (qaj (by repeat (first | (with_reducible first | exact HB.out | apply qab | apply qaa | apply qac) | exact HB.out))) : w.heap.size ≤ gb101)); clear HB; have HB := n0_; have BK101 := n1_; have GW101 := n2_; have GE101 := n3_; clear n0_ n1_ n2_ n3_; clear hb hbox hg; have hcz8_0 : w7.cell? ⟨gb101, 0, none⟩ = some (.string a0_0) := (qae BK101.out 0).trans rfl; have hcz8_1 : w7.cell? ⟨gb101, 1, none⟩ = some (.string a0_1) := (qae BK101.out 1).trans rfl; have hfz8_0 := qad BK101.out 0; have hfz8_1 := qad BK101.out 1))
   go_ret
   exact ⟨by first | rfl | (simp [qak, qal] <;> rfl) | (simp [*, qak, qal] <;> rfl), by repeat (first | (with_reducible first | exact HB.out | apply qab | apply qaa | apply qac | refine qaf ?_ GE101.out) | exact HB.out)⟩
  ·rw [if_neg c6] at H
   have c6b0 : decide ((wrap64 ((wrap64 (a1 - (a0_0.size : Int))) - (a0_1.size : Int))) < 0) = false := decide_eq_false c6
   clear c6
   obtain rfl := Option.some.inj H
   go_enter Try.func124, Try.ntmps124
   go_wp2_with (first | ((with_reducible refine qaL (N := 2) rfl ?_); refine qaK ?hg (N := 2) ?hd (cs := #[.string a0_0, .string a0_1]) (t := 159) ?hr ?_; (case hd => rfl); (case hg => rfl); (case hr => first | (go_simp; done) | (go_simp; rfl)); intro gb101 hg w9 hbox hb; have n0_ := Aside0.mk (qai (by repeat (first | (with_reducible first | exact HB.out | apply qab | apply qaa | apply qac) | exact HB.out)) hb); have n1_ := Aside0.mk (hbox); have n2_ := Aside0.mk ((by rw [hg]; exact (qaj (by repeat (first | (with_reducible first | exact HB.out | apply qab | apply qaa | apply qac) | exact HB.out))) : w.heap.size ≤ gb101)); have n3_ := Aside0.mk ((by rw [hg]; exact (qaj (by repeat (first | (with_reducible first | exact HB.out | apply qab | apply qaa | apply qac) | exact HB.out))) : w.heap.size ≤ gb101)); clear HB; have HB := n0_; have BK101 := n1_; have GW101 := n2_; have GE101 := n3_; clear n0_ n1_ n2_ n3_; clear hb hbox hg; have hcz10_0 : w9.cell? ⟨gb101, 0, none⟩ = some (.string a0_0) := (qae BK101.out 0).trans rfl; have hcz10_1 : w9.cell? ⟨gb101, 1, none⟩ = some (.string a0_1) := (qae BK101.out 1).trans rfl; have hfz10_0 := qad BK101.out 0; have hfz10_1 := qad BK101.out 1))
   go_ret
   exact ⟨by first | rfl | (simp [qak, qal] <;> rfl) | (simp [*, qak, qal] <;> rfl), by repeat (first | (with_reducible first | exact HB.out | apply qab | apply qaa | apply qac | refine qaf ?_ GE101.out) | exact HB.out)⟩
end Go.Proofs.Ytenfomejccfkgaa.X
