import Derived.Test.YtenfomejccfkgaaKFnExactTreePairs4
import Derived.Test.YtenfomejccfkgaaKFnExactTreePairs5
import Derived.Test.YtenfomejccfkgaaKFnExactTreePairs6
import Derived.Test.YtenfomejccfkgaaKFnExactTreePairs12
import Derived.Test.YtenfomejccfkgaaKFnExactTreePairs15
import Derived.Test.YtenfomejccfkgaaKFnExactTreePairs23
import Derived.Test.YtenfomejccfkgaaKFnExactTreePairs24
namespace Go.Proofs.Ytenfomejccfkgaa.X
open Go.RowKit Go.Proofs.YtenfomejccfkgaaW.PrintWords Go.Proofs.YtenfomejccfkgaaW.PrintLast Go.Proofs.YtenfomejccfkgaaW.PrintMore
attribute [local go_sem] qaI qaJ qaK qaE qaF qaT qaU qav qaw qaG qaH
set_option linter.unusedVariables false
set_option linter.unusedSimpArgs false
def qb3.f (l0_0 : List (S56)) (a1 : Int) : Option ((List (S99)) × Int) := (qbs.f l0_0 a1).bind fun bt256 => (if bt256.2.2 = true then (some (bt256.1, 0)) else (some ((([] : List (S99))), 1)))
set_option maxHeartbeats 8000000 in
set_option maxRecDepth 100000 in
theorem qb3.calls (A0_0 : Option Addr) (c0_0 : Nat) (l0_0 : List (S56)) (a1 : Int) (r1 : List (S99)) (r2 : Int) (w : World) (hr0_0 : Kd.C k56 w A0_0 l0_0.length l0_0) (hc0_0 : l0_0.length ≤ c0_0) (h : qb3.f l0_0 a1 = some (r1, r2)) :
  Calls Try.prog 18 #[.agg #[.slice A0_0 l0_0.length c0_0], .int .i64 a1] w fun e w' => ∃ v0_ : Value, e = .returned (.tuple #[v0_, .int .i64 r2]) ∧ Kd.R k99 99 w' w.heap.size (fun _ => True) v0_ r1 ∧ Below w.heap.size w w' := by
 have hu29 := Try.underlying29
 have HR0_0 := Aside0.mk hr0_0
 have HC0_0 := Aside0.mk hc0_0
 clear hr0_0 hc0_0
 have HB := Aside0.mk (Below.refl w.heap.size w)
 have H : ((qbs.f l0_0 a1).bind fun bt256 => (if bt256.2.2 = true then (some (bt256.1, 0)) else (some ((([] : List (S99))), 1)))) = some (r1, r2) := h
 clear h
 replace H := Option.bind_eq_some_iff.mp H
 obtain ⟨⟨t256, t259, t262⟩, A30, H⟩ := H
 replace H : (if t262 = true then (some (t256, 0)) else (some ((([] : List (S99))), 1))) = some (r1, r2) := H
 have A3 := Aside0.mk A30
 clear A30
 by_cases c4 : t262 = true
 ·subst c4
  have H1 : (some (t256, 0)) = some (r1, r2) := by rw [if_pos rfl] at H; exact H
  clear H
  have H := H1
  clear H1
  simp only [Option.some.injEq, Prod.mk.injEq] at H
  obtain ⟨rfl, rfl⟩ := H
  go_enter Try.func18, Try.ntmps18
  go_wp2_with (first | ((with_reducible refine qaQ (N := 2) rfl ?_); refine qaP ?hg (N := 2) ?hd (cs := #[.slice A0_0 l0_0.length c0_0]) (t := 29) ?hr ?_; (case hd => rfl); (case hg => rfl); (case hr => first | (go_simp; done) | (go_simp; rfl)); intro gb255 hg w5 hbox hb; have n0_ := Aside0.mk (qai (by repeat (first | (with_reducible first | exact HB.out | apply qab | apply qaa | apply qac) | exact HB.out)) hb); have n1_ := Aside0.mk (hbox); have n2_ := Aside0.mk ((by rw [hg]; exact (qal (by repeat (first | (with_reducible first | exact HB.out | apply qab | apply qaa | apply qac) | exact HB.out))) : w.heap.size ≤ gb255)); have n3_ := Aside0.mk ((by rw [hg]; exact (qal (by repeat (first | (with_reducible first | exact HB.out | apply qab | apply qaa | apply qac) | exact HB.out))) : w.heap.size ≤ gb255)); clear HB; have HB := n0_; have BK255 := n1_; have GW255 := n2_; have GE255 := n3_; clear n0_ n1_ n2_ n3_; clear hb hbox hg; have hcz6_0 : w5.cell? ⟨gb255, 0, none⟩ = some (.slice A0_0 l0_0.length c0_0) := (qag BK255.out 0).trans rfl; have hfz6_0 := qad BK255.out 0) | ((with_reducible refine qaq (f := 61) rfl ?_); refine qa7 (some 12) rfl rfl Try.func61 (by kernel_rfl) rfl #[.agg #[.slice A0_0 l0_0.length c0_0], .int .i64 a1] rfl (by (try simp only [List.map_toArray, List.map_cons, List.map_nil]); first | done | rfl | (simp only [List.length_drop, List.length_take]; rfl)) ?_; (with_reducible refine (qbs.calls _ _ l0_0 a1 t256 t259 true _ ?side1 ?side2 A3.out).mono ?_); (case side1 => repeat (first | exact (Kd.qaA HR0_0.out HB.out) | (with_reducible refine Kd.qaL ?_ _) | (with_reducible refine Kd.qaM ?_ _) | (with_reducible refine Kd.qaY ?_))); (case side2 => exact HC0_0.out); rintro e w7 ⟨v257, v260, rfl, ho0, ho1, hb⟩; refine ⟨_, rfl, ?_⟩; have n0_ := Aside0.mk (Kd.qbD ho0 (qal (by repeat (first | (with_reducible first | exact HB.out | apply qab | apply qaa | apply qac | refine qah ?_ GE255.out) | exact HB.out)))); have n1_ := Aside0.mk (Kd.qbD ho1 (qal (by repeat (first | (with_reducible first | exact HB.out | apply qab | apply qaa | apply qac | refine qah ?_ GE255.out) | exact HB.out)))); have n2_ := Aside0.mk (qau (g := gb255) (o := .cells #[.slice A0_0 l0_0.length c0_0] 29 (0, 0)) (by (with_reducible repeat (first | refine qan ?_ _ | refine qao ?_ | refine qam ?_ _)); exact BK255.out) hb); have n3_ := Aside0.mk (qai (by repeat (first | (with_reducible first | exact HB.out | apply qab | apply qaa | apply qac | refine qah ?_ GE255.out) | exact HB.out)) hb); clear BK255; clear HB; have HO258 := n0_; have HO261 := n1_; have BK255 := n2_; have HB := n3_; clear n0_ n1_ n2_ n3_; (try clear hb); (try clear hb2); (try clear hk); (try clear hi); (try clear ho0); (try clear ho1)))
  go_ret2
  exact ⟨_, by first | rfl | (simp [qaj, qak] <;> rfl) | (simp [*, qaj, qak] <;> rfl), by (with_reducible repeat (first | apply Kd.qbo | apply Kd.qbx | apply Kd.qbC)); exact HO258.out, by repeat (first | (with_reducible first | exact HB.out | apply qab | apply qaa | apply qac | refine qah ?_ GE255.out) | exact HB.out)⟩
 ·replace c4 := Bool.eq_false_iff.mpr c4
  subst c4
  have H1 : (some ((([] : List (S99))), 1)) = some (r1, r2) := by rw [if_neg (show ¬ (false = true) by decide)] at H; exact H
  clear H
  have H := H1
  clear H1
  obtain ⟨y263, hy263⟩ : ∃ y_ : List (S99), y_ = (([] : List (S99))) := ⟨_, rfl⟩
  replace H : (some (y263, 1)) = some (r1, r2) := by first | (rw [hy263]; with_reducible exact H) | (have H2_ := (Option.bind_some _ _).symm.trans H; rw [hy263]; with_reducible exact H2_) | (have H2_ := (Option.bind_some _ _).symm.trans H; with_reducible exact H2_) | with_reducible exact H | (rw [hy263]; exact H) | exact H
  have Ny263 := Aside0.mk hy263
  clear hy263
  simp only [Option.some.injEq, Prod.mk.injEq] at H
  obtain ⟨rfl, rfl⟩ := H
  go_enter Try.func18, Try.ntmps18
  go_wp2_with (first | ((with_reducible refine qaQ (N := 2) rfl ?_); refine qaP ?hg (N := 2) ?hd (cs := #[.slice A0_0 l0_0.length c0_0]) (t := 29) ?hr ?_; (case hd => rfl); (case hg => rfl); (case hr => first | (go_simp; done) | (go_simp; rfl)); intro gb255 hg w8 hbox hb; have n0_ := Aside0.mk (qai (by repeat (first | (with_reducible first | exact HB.out | apply qab | apply qaa | apply qac) | exact HB.out)) hb); have n1_ := Aside0.mk (hbox); have n2_ := Aside0.mk ((by rw [hg]; exact (qal (by repeat (first | (with_reducible first | exact HB.out | apply qab | apply qaa | apply qac) | exact HB.out))) : w.heap.size ≤ gb255)); have n3_ := Aside0.mk ((by rw [hg]; exact (qal (by repeat (first | (with_reducible first | exact HB.out | apply qab | apply qaa | apply qac) | exact HB.out))) : w.heap.size ≤ gb255)); clear HB; have HB := n0_; have BK255 := n1_; have GW255 := n2_; have GE255 := n3_; clear n0_ n1_ n2_ n3_; clear hb hbox hg; have hcz9_0 : w8.cell? ⟨gb255, 0, none⟩ = some (.slice A0_0 l0_0.length c0_0) := (qag BK255.out 0).trans rfl; have hfz9_0 := qad BK255.out 0) | ((with_reducible refine qaq (f := 61) rfl ?_); refine qa7 (some 12) rfl rfl Try.func61 (by kernel_rfl) rfl #[.agg #[.slice A0_0 l0_0.length c0_0], .int .i64 a1] rfl (by (try simp only [List.map_toArray, List.map_cons, List.map_nil]); first | done | rfl | (simp only [List.length_drop, List.length_take]; rfl)) ?_; (with_reducible refine (qbs.calls _ _ l0_0 a1 t256 t259 false _ ?side1 ?side2 A3.out).mono ?_); (case side1 => repeat (first | exact (Kd.qaA HR0_0.out HB.out) | (with_reducible refine Kd.qaL ?_ _) | (with_reducible refine Kd.qaM ?_ _) | (with_reducible refine Kd.qaY ?_))); (case side2 => exact HC0_0.out); rintro e w10 ⟨v257, v260, rfl, ho0, ho1, hb⟩; refine ⟨_, rfl, ?_⟩; have n0_ := Aside0.mk (Kd.qbD ho0 (qal (by repeat (first | (with_reducible first | exact HB.out | apply qab | apply qaa | apply qac | refine qah ?_ GE255.out) | exact HB.out)))); have n1_ := Aside0.mk (Kd.qbD ho1 (qal (by repeat (first | (with_reducible first | exact HB.out | apply qab | apply qaa | apply qac | refine qah ?_ GE255.out) | exact HB.out)))); have n2_ := Aside0.mk (qau (g := gb255) (o := .cells #[.slice A0_0 l0_0.length c0_0] 29 (0, 0)) (by (with_reducible repeat (first | refine qan ?_ _ | refine qao ?_ | refine qam ?_ _)); exact BK255.out) hb); have n3_ := Aside0.mk (qai (by repeat (first | (with_reducible first | exact HB.out | apply qab | apply qaa | apply qac | refine qah ?_ GE255.out) | exact HB.out)) hb); clear BK255; clear HB; have HO258 := n0_; have HO261 := n1_; have BK255 := n2_; have HB := n3_; clear n0_ n1_ n2_ n3_; (try clear hb); (try clear hb2); (try clear hk); (try clear hi); (try clear ho0); (try clear ho1)) | ((with_reducible refine qaQ (N := 18) rfl ?_); refine Kd.R_lit k99 _ 99 ?hg (N := 18) ?hd (xs := ([] : List (S99))) (inner := []) (ok := fun _ => True) (okp := fun _ => True) ?hr ?hp (fun _ hk => hk) trivial (Below.refl _ _) (Nat.le_refl _) (by simp) ?_; (case hd => rfl); (case hg => rfl); (case hr => first | (go_simp; done) | (go_simp; rfl)); (case hp => exact (Reps.none _ _)); intro v264 w11 ho12 hb hg_ hnew_; clear hg_ hnew_; (first | rw [← Ny263.out] at ho12 | (simp only [Int.reduceToNat] at ho12; rw [← Ny263.out] at ho12)); have n0_ := Aside0.mk (Kd.R_elder' (by (with_reducible repeat (first | apply Kd.qbo | apply Kd.qbx | apply Kd.qbC)); exact HO258.out) (Kd.qe8 ho12) hb); have n1_ := Aside0.mk (Kd.qbw (by (with_reducible repeat (first | apply Kd.qbo | apply Kd.qbx | apply Kd.qbC)); exact HO261.out) hb); have n2_ := Aside0.mk (Kd.qbD (Kd.R_new' ho12 (Kd.R_lt (by (with_reducible repeat (first | apply Kd.qbo | apply Kd.qbx | apply Kd.qbC)); exact HO258.out))) (qal (by repeat (first | (with_reducible first | exact HB.out | apply qab | apply qaa | apply qac | refine qah ?_ GE255.out) | exact HB.out)))); have n3_ := Aside0.mk (qau (g := gb255) (o := .cells #[.slice A0_0 l0_0.length c0_0] 29 (0, 0)) (by (with_reducible repeat (first | refine qan ?_ _ | refine qao ?_ | refine qam ?_ _)); exact BK255.out) hb); have n4_ := Aside0.mk (qai (by repeat (first | (with_reducible first | exact HB.out | apply qab | apply qaa | apply qac | refine qah ?_ GE255.out) | exact HB.out)) hb); clear HO258; clear HO261; clear BK255; clear HB; have HO258 := n0_; have HO261 := n1_; have HO265 := n2_; have BK255 := n3_; have HB := n4_; clear n0_ n1_ n2_ n3_ n4_; clear hb ho12))
  go_ret2
  exact ⟨_, by first | rfl | (simp [qaj, qak] <;> rfl) | (simp [*, qaj, qak] <;> rfl), by (with_reducible repeat (first | apply Kd.qbo | apply Kd.qbx | apply Kd.qbC)); exact Kd.qbK HO265.out (fun _ hk => trivial), by repeat (first | (with_reducible first | exact HB.out | apply qab | apply qaa | apply qac | refine qah ?_ GE255.out) | exact HB.out)⟩
end Go.Proofs.Ytenfomejccfkgaa.X
namespace Go.Proofs.Ytenfomejccfkgaa.X
open Go.RowKit Go.Proofs.YtenfomejccfkgaaW.PrintWords Go.Proofs.YtenfomejccfkgaaW.PrintLast Go.Proofs.YtenfomejccfkgaaW.PrintMore
attribute [local go_sem] qaI qaJ qaK qaE qaF qaT qaU qav qaw qaG qaH
set_option linter.unusedVariables false
set_option linter.unusedSimpArgs false
def qbX.f (l0_0 : List (S56)) (a1 : Int) : Option ((List (S99)) × Int) := (qbO.f l0_0 a1).bind fun t267 => (if t267 = true then ((qbm.f l0_0 a1).bind fun t268 => (some (t268, 0))) else (some (([] : List (S99)), 1)))
set_option maxHeartbeats 8000000 in
set_option maxRecDepth 100000 in
theorem qbX.calls (A0_0 : Option Addr) (c0_0 : Nat) (l0_0 : List (S56)) (a1 : Int) (r1 : List (S99)) (r2 : Int) (w : World) (hr0_0 : Kd.C k56 w A0_0 l0_0.length l0_0) (hc0_0 : l0_0.length ≤ c0_0) (h : qbX.f l0_0 a1 = some (r1, r2)) :
  Calls Try.prog 19 #[.agg #[.slice A0_0 l0_0.length c0_0], .int .i64 a1] w fun e w' => ∃ v0_ : Value, e = .returned (.tuple #[v0_, .int .i64 r2]) ∧ Kd.R k99 99 w' w.heap.size (fun _ => True) v0_ r1 ∧ Below w.heap.size w w' := by
 have hu29 := Try.underlying29
 have HR0_0 := Aside0.mk hr0_0
 have HC0_0 := Aside0.mk hc0_0
 clear hr0_0 hc0_0
 have HB := Aside0.mk (Below.refl w.heap.size w)
 have H : ((qbO.f l0_0 a1).bind fun t267 => (if t267 = true then ((qbm.f l0_0 a1).bind fun t268 => (some (t268, 0))) else (some (([] : List (S99)), 1)))) = some (r1, r2) := h
 clear h
 replace H := Option.bind_eq_some_iff.mp H
 obtain ⟨t267, A30, H⟩ := H
 replace H : (if t267 = true then ((qbm.f l0_0 a1).bind fun t268 => (some (t268, 0))) else (some (([] : List (S99)), 1))) = some (r1, r2) := H
 have A3 := Aside0.mk A30
 clear A30
 by_cases c4 : t267 = true
 ·subst c4
  have H1 : ((qbm.f l0_0 a1).bind fun t268 => (some (t268, 0))) = some (r1, r2) := by rw [if_pos rfl] at H; exact H
  clear H
  have H := H1
  clear H1
  replace H := Option.bind_eq_some_iff.mp H
  obtain ⟨t268, A50, H⟩ := H
  replace H : (some (t268, 0)) = some (r1, r2) := H
  have A5 := Aside0.mk A50
  clear A50
  simp only [Option.some.injEq, Prod.mk.injEq] at H
  obtain ⟨rfl, rfl⟩ := H
  go_enter Try.func19, Try.ntmps19
  go_wp2_with (first | ((with_reducible refine qaQ (N := 2) rfl ?_); refine qaP ?hg (N := 2) ?hd (cs := #[.slice A0_0 l0_0.length c0_0]) (t := 29) ?hr ?_; (case hd => rfl); (case hg => rfl); (case hr => first | (go_simp; done) | (go_simp; rfl)); intro gb266 hg w6 hbox hb; have n0_ := Aside0.mk (qai (by repeat (first | (with_reducible first | exact HB.out | apply qab | apply qaa | apply qac) | exact HB.out)) hb); have n1_ := Aside0.mk (hbox); have n2_ := Aside0.mk ((by rw [hg]; exact (qal (by repeat (first | (with_reducible first | exact HB.out | apply qab | apply qaa | apply qac) | exact HB.out))) : w.heap.size ≤ gb266)); have n3_ := Aside0.mk ((by rw [hg]; exact (qal (by repeat (first | (with_reducible first | exact HB.out | apply qab | apply qaa | apply qac) | exact HB.out))) : w.heap.size ≤ gb266)); clear HB; have HB := n0_; have BK266 := n1_; have GW266 := n2_; have GE266 := n3_; clear n0_ n1_ n2_ n3_; clear hb hbox hg; have hcz7_0 : w6.cell? ⟨gb266, 0, none⟩ = some (.slice A0_0 l0_0.length c0_0) := (qag BK266.out 0).trans rfl; have hfz7_0 := qad BK266.out 0) | ((with_reducible refine qaq (f := 16) rfl ?_); refine qa7 (some 8) rfl rfl Try.func16 (by kernel_rfl) rfl #[.agg #[.slice A0_0 l0_0.length c0_0], .int .i64 a1] rfl (by (try simp only [List.map_toArray, List.map_cons, List.map_nil]); first | done | rfl | (simp only [List.length_drop, List.length_take]; rfl)) ?_; (with_reducible refine (qbO.calls _ _ l0_0 a1 true _ ?side1 ?side2 A3.out).mono ?_); (case side1 => repeat (first | exact (Kd.qaA HR0_0.out HB.out) | (with_reducible refine Kd.qaL ?_ _) | (with_reducible refine Kd.qaM ?_ _) | (with_reducible refine Kd.qaY ?_))); (case side2 => exact HC0_0.out); rintro e w8 ⟨rfl, hb⟩; refine ⟨_, rfl, ?_⟩; have n0_ := Aside0.mk (qau (g := gb266) (o := .cells #[.slice A0_0 l0_0.length c0_0] 29 (0, 0)) (by (with_reducible repeat (first | refine qan ?_ _ | refine qao ?_ | refine qam ?_ _)); exact BK266.out) hb); have n1_ := Aside0.mk (qai (by repeat (first | (with_reducible first | exact HB.out | apply qab | apply qaa | apply qac | refine qah ?_ GE266.out) | exact HB.out)) hb); clear BK266; clear HB; have BK266 := n0_; have HB := n1_; clear n0_ n1_; (try clear hb); (try clear hb2); (try clear hk); (try clear hi); have hcz9_0 : w8.cell? ⟨gb266, 0, none⟩ = some (.slice A0_0 l0_0.length c0_0) := (qag BK266.out 0).trans rfl; have hfz9_0 := qad BK266.out 0) | ((with_reducible refine qaq (f := 65) rfl ?_); refine qa7 (some 12) rfl rfl Try.func65 (by kernel_rfl) rfl #[.agg #[.slice A0_0 l0_0.length c0_0], .int .i64 a1] rfl (by (try simp only [List.map_toArray, List.map_cons, List.map_nil]); first | done | rfl | (simp only [List.length_drop, List.length_take]; rfl)) ?_; (with_reducible refine (qbm.calls _ _ l0_0 a1 t268 _ ?side1 ?side2 A5.out).mono ?_); (case side1 => repeat (first | exact (Kd.qaA HR0_0.out HB.out) | (with_reducible refine Kd.qaL ?_ _) | (with_reducible refine Kd.qaM ?_ _) | (with_reducible refine Kd.qaY ?_))); (case side2 => exact HC0_0.out); rintro e w10 ⟨v269, rfl, ho0, hb⟩; refine ⟨_, rfl, ?_⟩; have n0_ := Aside0.mk (Kd.qbD ho0 (qal (by repeat (first | (with_reducible first | exact HB.out | apply qab | apply qaa | apply qac | refine qah ?_ GE266.out) | exact HB.out)))); have n1_ := Aside0.mk (qau (g := gb266) (o := .cells #[.slice A0_0 l0_0.length c0_0] 29 (0, 0)) (by (with_reducible repeat (first | refine qan ?_ _ | refine qao ?_ | refine qam ?_ _)); exact BK266.out) hb); have n2_ := Aside0.mk (qai (by repeat (first | (with_reducible first | exact HB.out | apply qab | apply qaa | apply qac | refine qah ?_ GE266.out) | exact HB.out)) hb); clear BK266; clear HB; have HO270 := n0_; have BK266 := n1_; have HB := n2_; clear n0_ n1_ n2_; (try clear hb); (try clear hb2); (try clear hk); (try clear hi); (try clear ho0)))
  go_ret2
  exact ⟨_, by first | rfl | (simp [qaj, qak] <;> rfl) | (simp [*, qaj, qak] <;> rfl), by (with_reducible repeat (first | apply Kd.qbo | apply Kd.qbx | apply Kd.qbC)); exact HO270.out, by repeat (first | (with_reducible first | exact HB.out | apply qab | apply qaa | apply qac | refine qah ?_ GE266.out) | exact HB.out)⟩
 ·replace c4 := Bool.eq_false_iff.mpr c4
  subst c4
  have H1 : (some (([] : List (S99)), 1)) = some (r1, r2) := by rw [if_neg (show ¬ (false = true) by decide)] at H; exact H
  clear H
  have H := H1
  clear H1
  simp only [Option.some.injEq, Prod.mk.injEq] at H
  obtain ⟨rfl, rfl⟩ := H
  go_enter Try.func19, Try.ntmps19
  go_wp2_with (first | ((with_reducible refine qaQ (N := 2) rfl ?_); refine qaP ?hg (N := 2) ?hd (cs := #[.slice A0_0 l0_0.length c0_0]) (t := 29) ?hr ?_; (case hd => rfl); (case hg => rfl); (case hr => first | (go_simp; done) | (go_simp; rfl)); intro gb266 hg w11 hbox hb; have n0_ := Aside0.mk (qai (by repeat (first | (with_reducible first | exact HB.out | apply qab | apply qaa | apply qac) | exact HB.out)) hb); have n1_ := Aside0.mk (hbox); have n2_ := Aside0.mk ((by rw [hg]; exact (qal (by repeat (first | (with_reducible first | exact HB.out | apply qab | apply qaa | apply qac) | exact HB.out))) : w.heap.size ≤ gb266)); have n3_ := Aside0.mk ((by rw [hg]; exact (qal (by repeat (first | (with_reducible first | exact HB.out | apply qab | apply qaa | apply qac) | exact HB.out))) : w.heap.size ≤ gb266)); clear HB; have HB := n0_; have BK266 := n1_; have GW266 := n2_; have GE266 := n3_; clear n0_ n1_ n2_ n3_; clear hb hbox hg; have hcz12_0 : w11.cell? ⟨gb266, 0, none⟩ = some (.slice A0_0 l0_0.length c0_0) := (qag BK266.out 0).trans rfl; have hfz12_0 := qad BK266.out 0) | ((with_reducible refine qaq (f := 16) rfl ?_); refine qa7 (some 8) rfl rfl Try.func16 (by kernel_rfl) rfl #[.agg #[.slice A0_0 l0_0.length c0_0], .int .i64 a1] rfl (by (try simp only [List.map_toArray, List.map_cons, List.map_nil]); first | done | rfl | (simp only [List.length_drop, List.length_take]; rfl)) ?_; (with_reducible refine (qbO.calls _ _ l0_0 a1 false _ ?side1 ?side2 A3.out).mono ?_); (case side1 => repeat (first | exact (Kd.qaA HR0_0.out HB.out) | (with_reducible refine Kd.qaL ?_ _) | (with_reducible refine Kd.qaM ?_ _) | (with_reducible refine Kd.qaY ?_))); (case side2 => exact HC0_0.out); rintro e w13 ⟨rfl, hb⟩; refine ⟨_, rfl, ?_⟩; have n0_ := Aside0.mk (qau (g := gb266) (o := .cells #[.slice A0_0 l0_0.length c0_0] 29 (0, 0)) (by (with_reducible repeat (first | refine qan ?_ _ | refine qao ?_ | refine qam ?_ _)); exact BK266.out) hb); have n1_ := Aside0.mk (qai (by repeat (first | (with_reducible first | exact HB.out | apply qab | apply qaa | apply qac | refine qah ?_ GE266.out) | exact HB.out)) hb); clear BK266; clear HB; have BK266 := n0_; have HB := n1_; clear n0_ n1_; (try clear hb); (try clear hb2); (try clear hk); (try clear hi)))
  go_ret2
  exact ⟨_, by first | rfl | (simp [qaj, qak] <;> rfl) | (simp [*, qaj, qak] <;> rfl), by first | exact Kd.qeG _ _ _ _ _ | exact Kd.N_nil _ _ _ _ _ | exact Kd.V_nil _ _ _ _ _ | exact Kd.Q_nil _ _ _ _ _ | exact Kd.S_nil _ _ _ _ _, by repeat (first | (with_reducible first | exact HB.out | apply qab | apply qaa | apply qac | refine qah ?_ GE266.out) | exact HB.out)⟩
end Go.Proofs.Ytenfomejccfkgaa.X
namespace Go.Proofs.Ytenfomejccfkgaa.X
open Go.RowKit Go.Proofs.YtenfomejccfkgaaW.PrintWords Go.Proofs.YtenfomejccfkgaaW.PrintLast Go.Proofs.YtenfomejccfkgaaW.PrintMore
attribute [local go_sem] qaI qaJ qaK qaE qaF qaT qaU qav qaw qaG qaH
set_option linter.unusedVariables false
set_option linter.unusedSimpArgs false
def qef (ns : List S56) (root : Int) : List S99 × Int := if (walkR ns root).2.2 = true then ((walkR ns root).1, 0) else ([], 1)
theorem qgk (ns : List S56) (root : Int) : (qef ns root).1.length ≤ 60 := by
 unfold qef
 split
 ·rename_i h
  exact qgP h
 ·simp
theorem qdC {ns : List S56} (root : Int) (h : qcJ ns = true) : qb3.f ns root = some (qef ns root) := by
 unfold qb3.f qef
 rw [qgW root h]
 simp only [Option.bind_some]
 split <;> rfl
theorem qdD {ns : List S56} (root : Int) (h : qcJ ns = true) : qbX.f ns root = some (qef ns root) := by
 unfold qbX.f qef
 rw [qfT root h]
 simp only [Option.bind_some]
 cases hk : (walkR ns root).2.2 with
 | false => simp
 | true => simp [qeZ h hk]
end Go.Proofs.Ytenfomejccfkgaa.X
namespace Go.Proofs.Ytenfomejccfkgaa.X
open Go.RowKit Go.Proofs.YtenfomejccfkgaaW.PrintWords Go.Proofs.YtenfomejccfkgaaW.PrintLast Go.Proofs.YtenfomejccfkgaaW.PrintMore
attribute [local go_sem] qaI qaJ qaK qaE qaF qaT qaU qav qaw qaG qaH
set_option linter.unusedVariables false
set_option linter.unusedSimpArgs false
def qaO.l0 : Nat → List (S99) → Int → Int → Option (Int)
 | 0, _, _, _ => none
 | k + 1, x0, x1, x5 => if x5 < (x0.length : Int) then (if 0 ≤ x5 then ((qax.f k x1).bind fun t283 => (if ((qat x0 x5).f0).toList = t283.toList then ((qax.f k (wrap64 (x1 + 1))).bind fun t285 => (if ((qat x0 x5).f1).toList = t285.toList then (qaO.l0 k x0 (wrap64 ((wrap64 (x1 + 1)) + 1)) (wrap64 (x5 + 1))) else (some (-1)))) else (some (-1)))) else (none)) else (some x1)
def qaO.f (k : Nat) (l0 : List (S99)) (a1 : Int) : Option (Int) := qaO.l0 k l0 a1 0
theorem qaO.qbi : ∀ k, (∀ y0 y1 y2, LeO (qaO.l0 k y0 y1 y2) (qaO.l0 (k + 1) y0 y1 y2))
 | 0 => fun _ _ _ r h => by simp [qaO.l0] at h
 | k + 1 => by
  have ih0 := qaO.qbi k
  ·intro y0 y1 y2
   unfold qaO.l0
   repeat' first
   | (with_reducible exact ih0 _ _ _)
   | (with_reducible exact qax.mono _ _)
   | (with_reducible exact LeO.refl _)
   | (with_reducible exact LeO.none _)
   | (with_reducible refine LeO.ite ?_ ?_)
   | (with_reducible refine LeO.bind ?_ (fun _ => ?_))
   | exact ih0 _ _ _
   | exact qax.mono _ _
   | exact LeO.none _
   | refine LeO.ite ?_ ?_
   | refine LeO.bind ?_ (fun _ => ?_)
theorem qaO.mono : ∀ a0 a1 k, LeO (qaO.f k a0 a1) (qaO.f (k + 1) a0 a1) := by
 intro a0 a1 k
 have ih0 := qaO.qbi k
 unfold qaO.f
 repeat' first
   | (with_reducible exact ih0 _ _ _)
   | (with_reducible exact qax.mono _ _)
   | (with_reducible exact LeO.refl _)
   | (with_reducible exact LeO.none _)
   | (with_reducible refine LeO.ite ?_ ?_)
   | (with_reducible refine LeO.bind ?_ (fun _ => ?_))
   | exact ih0 _ _ _
   | exact qax.mono _ _
   | exact LeO.none _
   | refine LeO.ite ?_ ?_
   | refine LeO.bind ?_ (fun _ => ?_)
def qaO.T4 : Bool × List (List Nat × List Nat) := (true, [([], []), ([], []), ([0, 1], [0, 1]), ([2], [2]), ([3], [3]), ([], []), ([5], [5]), ([4, 6], [4, 6])])
def qaO.B4 : List Nat := [0, 0, 3, 7, 15, 0, 32, 127]
theorem qaO.tab4 : rtab .any (opsOf Try.f23 4) = qaO.T4 := by kernel_rfl
theorem qaO.bits4 : qbT qaO.T4.2 qaO.B4 = true := by kernel_rfl
def qaO.T7 : Bool × List (List Nat × List Nat) := (true, [([], []), ([], []), ([0, 1], [0, 1]), ([2], [2]), ([3], [3]), ([], []), ([5], [5]), ([4, 6], [4, 6])])
def qaO.B7 : List Nat := [0, 0, 3, 7, 15, 0, 32, 127]
theorem qaO.tab7 : rtab .any (opsOf Try.f23 7) = qaO.T7 := by kernel_rfl
theorem qaO.bits7 : qbT qaO.T7.2 qaO.B7 = true := by kernel_rfl
set_option maxHeartbeats 8000000 in
set_option maxRecDepth 100000 in
theorem qaO.calls (k : Nat) (A0 : Option Addr) (c0 : Nat) (l0 : List (S99)) (a1 : Int) (r : Int) (w : World) (hr0 : Kd.C k99 w A0 l0.length l0) (hc0 : l0.length ≤ c0) (h : qaO.f k l0 a1 = some r) :
  Calls Try.prog 23 #[.slice A0 l0.length c0, .int .i64 a1] w fun e w' => e = .returned (.int .i64 r) ∧ Below w.heap.size w w' := by
 have HR0 := Aside0.mk hr0
 have HC0 := Aside0.mk hc0
 clear hr0 hc0
 have HB := Aside0.mk (Below.refl w.heap.size w)
 have H : (qaO.l0 k l0 a1 0) = some r := h
 clear h
 have H' := Aside0.mk H
 clear H
 go_enter Try.func23, Try.ntmps23
 go_wp2
 go_loopg [1, 5] k (fun kq v1 v5 w' => ∃ (x1_1 : Int) (x5_1 : Int), v1 = .int .i64 x1_1 ∧ v5 = .int .i64 x5_1 ∧ Aside0 (qaO.l0 kq l0 x1_1 x5_1 = some r) ∧ Aside0 (kq ≤ k) ∧ Aside0 (Below w.heap.size w w'))
 case atStart => exact ⟨(a1), (0), (by first | rfl | (simp; done) | (simp [*]; done)), (by first | rfl | (simp; done) | (simp [*]; done)), H', ⟨Nat.le_refl _⟩, ⟨by repeat (first | (with_reducible first | exact HB.out | apply qab | apply qaa | apply qac) | exact HB.out)⟩⟩
 case round =>
  clear H'
  try clear c2
  try clear p2
  obtain ⟨x1_1, x5_1, rfl, rfl, HA, HK1, HB⟩ := hrel
  cases gk with
  | zero => exact absurd HA.out (by simp [qaO.l0])
  | succ k1 =>
   have H := HA.out
   clear HA
   simp only [qaO.l0] at H
   by_cases c3 : x5_1 < (l0.length : Int)
   ·rw [if_pos c3] at H
    have c3b0 : decide (x5_1 < (l0.length : Int)) = true := decide_eq_true c3
    clear c3
    by_cases c4 : 0 ≤ x5_1
    ·rw [if_pos c4] at H
     have c4b0 : decide (0 ≤ x5_1) = true := decide_eq_true c4
     clear c4
     replace H := Option.bind_eq_some_iff.mp H
     obtain ⟨t283, A50, H⟩ := H
     replace H : (if ((qat l0 x5_1).f0).toList = t283.toList then ((qax.f k1 (wrap64 (x1_1 + 1))).bind fun t285 => (if ((qat l0 x5_1).f1).toList = t285.toList then (qaO.l0 k1 l0 (wrap64 ((wrap64 (x1_1 + 1)) + 1)) (wrap64 (x5_1 + 1))) else (some (-1)))) else (some (-1))) = some r := H
     have A5 := Aside0.mk A50
     clear A50
     by_cases c6 : ((qat l0 x5_1).f0).toList = t283.toList
     ·rw [if_pos c6] at H
      have c6b0 : (((qat l0 x5_1).f0).toList == t283.toList) = true := beq_iff_eq.mpr c6
      have c6b1 : (((qat l0 x5_1).f0).toList != t283.toList) = false := bne_eq_false_iff_eq.mpr c6
      clear c6
      replace H := Option.bind_eq_some_iff.mp H
      obtain ⟨t285, A70, H⟩ := H
      replace H : (if ((qat l0 x5_1).f1).toList = t285.toList then (qaO.l0 k1 l0 (wrap64 ((wrap64 (x1_1 + 1)) + 1)) (wrap64 (x5_1 + 1))) else (some (-1))) = some r := H
      have A7 := Aside0.mk A70
      clear A70
      by_cases c8 : ((qat l0 x5_1).f1).toList = t285.toList
      ·rw [if_pos c8] at H
       have c8b0 : (((qat l0 x5_1).f1).toList == t285.toList) = true := beq_iff_eq.mpr c8
       have c8b1 : (((qat l0 x5_1).f1).toList != t285.toList) = false := bne_eq_false_iff_eq.mpr c8
       clear c8
       have H' := Aside0.mk H
       clear H
       try go_wp2
       have n0_ := Aside0.mk (qac HB.out)
       clear HB
       have HB := n0_
       clear n0_
       have p282 : 0 ≤ (x5_1 : Int) := of_decide_eq_true (by first | (with_reducible assumption) | assumption)
       have q282 : x5_1 < (l0.length : Int) := of_decide_eq_true (by first | (with_reducible assumption) | assumption)
       obtain ⟨ad282, e282, hx282_0, hx282_1⟩ := qbS HR0.out x5_1 p282 q282
       have hw282_1 := hx282_1
       have hw282_0 := hx282_0
       cases e282
       replace hx282_0 := (HB.out.cell (World.block_lt_of_cell? w _ hx282_0)).trans hx282_0
       replace hx282_1 := (HB.out.cell (World.block_lt_of_cell? w _ hx282_1)).trans hx282_1
       replace p282 := eq_true p282
       replace q282 := eq_true q282
       refine qbe (by kernel_rfl) (by kernel_rfl) ?_
       have hL0_ := Aside0.mk (show wr.drew.cell? (ad282.add ((x5_1).toNat * 2)) = some (.string ((qat l0 x5_1).f0)) from ((HB.out.cell (World.block_lt_of_cell? w _ hw282_0)).trans hw282_0))
       have hL1_ := Aside0.mk (show wr.drew.cell? ⟨(ad282.add ((x5_1).toNat * 2)).block, (ad282.add ((x5_1).toNat * 2)).off + 1, none⟩ = some (.string ((qat l0 x5_1).f1)) from ((HB.out.cell (World.block_lt_of_cell? w _ hw282_1)).trans hw282_1))
       generalize wr.drew = w9 at HB hx282_0 hx282_1 hL0_ hL1_ ⊢
       clear hx282_0 hx282_1
       have hL0 := fun (p_ : Later w9) => Later.cell p_ hL0_.out
       have hL1 := fun (p_ : Later w9) => Later.cell p_ hL1_.out
       clear hL0_ hL1_
       repeat (first | go_big_quiet_step ((first | (go_at_call 68; exact Calls.qbv (qax.calls k1 x1_1 t283 _ A5.out)))) | quiet_step ((first | (go_at_call 68; exact Calls.qbv (qax.calls k1 x1_1 t283 _ A5.out)))))
       refine wpQuiet_nil ?_
       rintro w10 ⟨⟨wq_, hbL⟩, hq_⟩
       have hq2_ : w10 = wq_ := hq_
       clear hq_
       subst hq2_
       clear hL0 hL1
       have nHB_ := Aside0.mk (qai HB.out hbL)
       clear HB
       have HB := nHB_
       clear nHB_
       clear hbL
       try go_wp2
       have n0_ := Aside0.mk (qac HB.out)
       clear HB
       have HB := n0_
       clear n0_
       have p284 : 0 ≤ (x5_1 : Int) := of_decide_eq_true (by first | (with_reducible assumption) | assumption)
       have q284 : x5_1 < (l0.length : Int) := of_decide_eq_true (by first | (with_reducible assumption) | assumption)
       obtain ⟨ad284, e284, hx284_0, hx284_1⟩ := qbS HR0.out x5_1 p284 q284
       have hw284_1 := hx284_1
       have hw284_0 := hx284_0
       obtain rfl : ad282 = ad284 := (by injection e284)
       replace hx284_0 := (HB.out.cell (World.block_lt_of_cell? w _ hx284_0)).trans hx284_0
       replace hx284_1 := (HB.out.cell (World.block_lt_of_cell? w _ hx284_1)).trans hx284_1
       replace p284 := eq_true p284
       replace q284 := eq_true q284
       refine qbe (by kernel_rfl) (by kernel_rfl) ?_
       have hL0_ := Aside0.mk (show w10.drew.cell? (ad282.add ((x5_1).toNat * 2)) = some (.string ((qat l0 x5_1).f0)) from ((HB.out.cell (World.block_lt_of_cell? w _ hw284_0)).trans hw284_0))
       have hL1_ := Aside0.mk (show w10.drew.cell? ⟨(ad282.add ((x5_1).toNat * 2)).block, (ad282.add ((x5_1).toNat * 2)).off + 1, none⟩ = some (.string ((qat l0 x5_1).f1)) from ((HB.out.cell (World.block_lt_of_cell? w _ hw284_1)).trans hw284_1))
       generalize w10.drew = w11 at HB hx284_0 hx284_1 hL0_ hL1_ ⊢
       clear hx284_0 hx284_1
       have hL0 := fun (p_ : Later w11) => Later.cell p_ hL0_.out
       have hL1 := fun (p_ : Later w11) => Later.cell p_ hL1_.out
       clear hL0_ hL1_
       repeat (first | go_big_quiet_step ((first | (go_at_call 68; exact Calls.qbv (qax.calls k1 (wrap64 (x1_1 + 1)) t285 _ A7.out)))) | quiet_step ((first | (go_at_call 68; exact Calls.qbv (qax.calls k1 (wrap64 (x1_1 + 1)) t285 _ A7.out)))))
       refine wpQuiet_nil ?_
       rintro w12 ⟨⟨wq_, hbL⟩, hq_⟩
       have hq2_ : w12 = wq_ := hq_
       clear hq_
       subst hq2_
       clear hL0 hL1
       have nHB_ := Aside0.mk (qai HB.out hbL)
       clear HB
       have HB := nHB_
       clear nHB_
       clear hbL
       try go_wp2
       go_roundg k1
       case measure => have := HK1.out; omega
       case rel => exact ⟨(wrap64 ((wrap64 (x1_1 + 1)) + 1)), (wrap64 (x5_1 + 1)), (by first | rfl | (simp; done) | (simp [*]; done)), (by first | rfl | (simp; done) | (simp [*]; done)), H', ⟨by have := HK1.out; omega⟩, ⟨by repeat (first | (with_reducible first | exact HB.out | apply qab | apply qaa | apply qac) | exact HB.out)⟩⟩
      ·rw [if_neg c8] at H
       have c8b0 : (((qat l0 x5_1).f1).toList == t285.toList) = false := beq_eq_false_iff_ne.mpr c8
       have c8b1 : (((qat l0 x5_1).f1).toList != t285.toList) = true := bne_iff_ne.mpr c8
       obtain rfl := Option.some.inj H
       try go_wp2
       have n0_ := Aside0.mk (qac HB.out)
       clear HB
       have HB := n0_
       clear n0_
       have p282 : 0 ≤ (x5_1 : Int) := of_decide_eq_true (by first | (with_reducible assumption) | assumption)
       have q282 : x5_1 < (l0.length : Int) := of_decide_eq_true (by first | (with_reducible assumption) | assumption)
       obtain ⟨ad282, e282, hx282_0, hx282_1⟩ := qbS HR0.out x5_1 p282 q282
       have hw282_1 := hx282_1
       have hw282_0 := hx282_0
       cases e282
       replace hx282_0 := (HB.out.cell (World.block_lt_of_cell? w _ hx282_0)).trans hx282_0
       replace hx282_1 := (HB.out.cell (World.block_lt_of_cell? w _ hx282_1)).trans hx282_1
       replace p282 := eq_true p282
       replace q282 := eq_true q282
       refine qbe (by kernel_rfl) (by kernel_rfl) ?_
       have hL0_ := Aside0.mk (show wr.drew.cell? (ad282.add ((x5_1).toNat * 2)) = some (.string ((qat l0 x5_1).f0)) from ((HB.out.cell (World.block_lt_of_cell? w _ hw282_0)).trans hw282_0))
       have hL1_ := Aside0.mk (show wr.drew.cell? ⟨(ad282.add ((x5_1).toNat * 2)).block, (ad282.add ((x5_1).toNat * 2)).off + 1, none⟩ = some (.string ((qat l0 x5_1).f1)) from ((HB.out.cell (World.block_lt_of_cell? w _ hw282_1)).trans hw282_1))
       generalize wr.drew = w13 at HB hx282_0 hx282_1 hL0_ hL1_ ⊢
       clear hx282_0 hx282_1
       have hL0 := fun (p_ : Later w13) => Later.cell p_ hL0_.out
       have hL1 := fun (p_ : Later w13) => Later.cell p_ hL1_.out
       clear hL0_ hL1_
       repeat (first | go_big_quiet_step ((first | (go_at_call 68; exact Calls.qbv (qax.calls k1 x1_1 t283 _ A5.out)))) | quiet_step ((first | (go_at_call 68; exact Calls.qbv (qax.calls k1 x1_1 t283 _ A5.out)))))
       refine wpQuiet_nil ?_
       rintro w14 ⟨⟨wq_, hbL⟩, hq_⟩
       have hq2_ : w14 = wq_ := hq_
       clear hq_
       subst hq2_
       clear hL0 hL1
       have nHB_ := Aside0.mk (qai HB.out hbL)
       clear HB
       have HB := nHB_
       clear nHB_
       clear hbL
       try go_wp2
       have n0_ := Aside0.mk (qac HB.out)
       clear HB
       have HB := n0_
       clear n0_
       have p284 : 0 ≤ (x5_1 : Int) := of_decide_eq_true (by first | (with_reducible assumption) | assumption)
       have q284 : x5_1 < (l0.length : Int) := of_decide_eq_true (by first | (with_reducible assumption) | assumption)
       obtain ⟨ad284, e284, hx284_0, hx284_1⟩ := qbS HR0.out x5_1 p284 q284
       have hw284_1 := hx284_1
       have hw284_0 := hx284_0
       obtain rfl : ad282 = ad284 := (by injection e284)
       replace hx284_0 := (HB.out.cell (World.block_lt_of_cell? w _ hx284_0)).trans hx284_0
       replace hx284_1 := (HB.out.cell (World.block_lt_of_cell? w _ hx284_1)).trans hx284_1
       replace p284 := eq_true p284
       replace q284 := eq_true q284
       refine qbe (by kernel_rfl) (by kernel_rfl) ?_
       have hL0_ := Aside0.mk (show w14.drew.cell? (ad282.add ((x5_1).toNat * 2)) = some (.string ((qat l0 x5_1).f0)) from ((HB.out.cell (World.block_lt_of_cell? w _ hw284_0)).trans hw284_0))
       have hL1_ := Aside0.mk (show w14.drew.cell? ⟨(ad282.add ((x5_1).toNat * 2)).block, (ad282.add ((x5_1).toNat * 2)).off + 1, none⟩ = some (.string ((qat l0 x5_1).f1)) from ((HB.out.cell (World.block_lt_of_cell? w _ hw284_1)).trans hw284_1))
       generalize w14.drew = w15 at HB hx284_0 hx284_1 hL0_ hL1_ ⊢
       clear hx284_0 hx284_1
       have hL0 := fun (p_ : Later w15) => Later.cell p_ hL0_.out
       have hL1 := fun (p_ : Later w15) => Later.cell p_ hL1_.out
       clear hL0_ hL1_
       repeat (first | go_big_quiet_step ((first | (go_at_call 68; exact Calls.qbv (qax.calls k1 (wrap64 (x1_1 + 1)) t285 _ A7.out)))) | quiet_step ((first | (go_at_call 68; exact Calls.qbv (qax.calls k1 (wrap64 (x1_1 + 1)) t285 _ A7.out)))))
       refine wpQuiet_nil ?_
       rintro w16 ⟨⟨wq_, hbL⟩, hq_⟩
       have hq2_ : w16 = wq_ := hq_
       clear hq_
       subst hq2_
       clear hL0 hL1
       have nHB_ := Aside0.mk (qai HB.out hbL)
       clear HB
       have HB := nHB_
       clear nHB_
       clear hbL
       try go_wp2
       go_ret
       exact ⟨by first | rfl | (simp [qaj, qak] <;> rfl) | (simp [*, qaj, qak] <;> rfl), by repeat (first | (with_reducible first | exact HB.out | apply qab | apply qaa | apply qac) | exact HB.out)⟩
     ·rw [if_neg c6] at H
      have c6b0 : (((qat l0 x5_1).f0).toList == t283.toList) = false := beq_eq_false_iff_ne.mpr c6
      have c6b1 : (((qat l0 x5_1).f0).toList != t283.toList) = true := bne_iff_ne.mpr c6
      obtain rfl := Option.some.inj H
      try go_wp2
      have n0_ := Aside0.mk (qac HB.out)
      clear HB
      have HB := n0_
      clear n0_
      have p282 : 0 ≤ (x5_1 : Int) := of_decide_eq_true (by first | (with_reducible assumption) | assumption)
      have q282 : x5_1 < (l0.length : Int) := of_decide_eq_true (by first | (with_reducible assumption) | assumption)
      obtain ⟨ad282, e282, hx282_0, hx282_1⟩ := qbS HR0.out x5_1 p282 q282
      have hw282_1 := hx282_1
      have hw282_0 := hx282_0
      cases e282
      replace hx282_0 := (HB.out.cell (World.block_lt_of_cell? w _ hx282_0)).trans hx282_0
      replace hx282_1 := (HB.out.cell (World.block_lt_of_cell? w _ hx282_1)).trans hx282_1
      replace p282 := eq_true p282
      replace q282 := eq_true q282
      refine qbe (by kernel_rfl) (by kernel_rfl) ?_
      have hL0_ := Aside0.mk (show wr.drew.cell? (ad282.add ((x5_1).toNat * 2)) = some (.string ((qat l0 x5_1).f0)) from ((HB.out.cell (World.block_lt_of_cell? w _ hw282_0)).trans hw282_0))
      have hL1_ := Aside0.mk (show wr.drew.cell? ⟨(ad282.add ((x5_1).toNat * 2)).block, (ad282.add ((x5_1).toNat * 2)).off + 1, none⟩ = some (.string ((qat l0 x5_1).f1)) from ((HB.out.cell (World.block_lt_of_cell? w _ hw282_1)).trans hw282_1))
      generalize wr.drew = w17 at HB hx282_0 hx282_1 hL0_ hL1_ ⊢
      clear hx282_0 hx282_1
      have hL0 := fun (p_ : Later w17) => Later.cell p_ hL0_.out
      have hL1 := fun (p_ : Later w17) => Later.cell p_ hL1_.out
      clear hL0_ hL1_
      repeat (first | go_big_quiet_step ((first | (go_at_call 68; exact Calls.qbv (qax.calls k1 x1_1 t283 _ A5.out)))) | quiet_step ((first | (go_at_call 68; exact Calls.qbv (qax.calls k1 x1_1 t283 _ A5.out)))))
      refine wpQuiet_nil ?_
      rintro w18 ⟨⟨wq_, hbL⟩, hq_⟩
      have hq2_ : w18 = wq_ := hq_
      clear hq_
      subst hq2_
      clear hL0 hL1
      have nHB_ := Aside0.mk (qai HB.out hbL)
      clear HB
      have HB := nHB_
      clear nHB_
      clear hbL
      try go_wp2
      go_ret
      exact ⟨by first | rfl | (simp [qaj, qak] <;> rfl) | (simp [*, qaj, qak] <;> rfl), by repeat (first | (with_reducible first | exact HB.out | apply qab | apply qaa | apply qac) | exact HB.out)⟩
    ·rw [if_neg c4] at H
     exact absurd H (by simp)
   ·rw [if_neg c3] at H
    have c3b0 : decide (x5_1 < (l0.length : Int)) = false := decide_eq_false c3
    clear c3
    obtain rfl := Option.some.inj H
    go_wp2
    go_ret
    exact ⟨by first | rfl | (simp [qaj, qak] <;> rfl) | (simp [*, qaj, qak] <;> rfl), by repeat (first | (with_reducible first | exact HB.out | apply qab | apply qaa | apply qac) | exact HB.out)⟩
end Go.Proofs.Ytenfomejccfkgaa.X
namespace Go.Proofs.Ytenfomejccfkgaa.X
open Go.RowKit Go.Proofs.YtenfomejccfkgaaW.PrintWords Go.Proofs.YtenfomejccfkgaaW.PrintLast Go.Proofs.YtenfomejccfkgaaW.PrintMore
attribute [local go_sem] qaI qaJ qaK qaE qaF qaT qaU qav qaw qaG qaH
set_option linter.unusedVariables false
set_option linter.unusedSimpArgs false
theorem qeg (rest : List S99) : ∀ (pre : List S99) (m : Int), 0 ≤ m → m + 2 * (rest.length : Int) ≤ 4611686018427387904 → (pre ++ rest).length ≤ 9223372036854775807 →
  Ev (fun k => qaO.l0 k (pre ++ qbU rest m) m ((pre.length : Nat) : Int)) (m + 2 * (rest.length : Int)) := by
 induction rest with
 | nil =>
  intro pre m h0 h1 hl
  refine Ev.succ ?_
  simp only [qaO.l0]
  exact Ev.neg (by simp [qbU]) (Ev.is (by simp))
 | cons x rest ih =>
  intro pre m h0 h1 hl
  simp only [qbU, List.length_cons] at h1 ⊢
  have hlt : ((pre.length : Nat) : Int) < ((pre ++ (⟨mt m, mt (m + 1)⟩ : S99) :: qbU rest (m + 2)).length : Int) := by simp; omega
  have hwp : wrap64 (((pre.length : Nat) : Int) + 1) = (((pre ++ [(⟨mt m, mt (m + 1)⟩ : S99)]).length : Nat) : Int) := by rw [← qbR]; exact qb1 (by simp at hl; omega)
  have hrd : qat (pre ++ (⟨mt m, mt (m + 1)⟩ : S99) :: qbU rest (m + 2)) ((pre.length : Nat) : Int) = (⟨mt m, mt (m + 1)⟩ : S99) := by simp [qat, List.getD_eq_getElem?_getD]
  have w1 : wrap64 (m + 1) = m + 1 := (qcq (by omega) (by omega)).trans (by omega)
  have w2 : wrap64 ((m + 1) + 1) = m + 2 := (qcq (by omega) (by omega)).trans (by omega)
  have hi := ih (pre ++ [(⟨mt m, mt (m + 1)⟩ : S99)]) (m + 2) (by omega) (by omega) (by simpa using hl)
  have e3 : pre ++ (⟨mt m, mt (m + 1)⟩ : S99) :: qbU rest (m + 2) = (pre ++ [(⟨mt m, mt (m + 1)⟩ : S99)]) ++ qbU rest (m + 2) := by simp
  rw [← e3] at hi
  refine Ev.succ ?_
  simp only [qaO.l0, hrd, hwp, w1, w2]
  refine Ev.pos hlt (Ev.pos (by omega) ?_)
  repeat (first | refine Ev.bind (mt_ev (by omega)) ?_ | refine Ev.pos trivial ?_ | refine Ev.pos rfl ?_ | refine Ev.neg (by simp) ?_)
  exact Ev.same hi (by omega)
theorem qgl (l : List S99) (m : Int) (h0 : 0 ≤ m) (h1 : m + 2 * (l.length : Int) ≤ 4611686018427387904) (hl : l.length ≤ 9223372036854775807) : Ev (fun k => qaO.f k (qbU l m) m) (m + 2 * (l.length : Int)) := by
 unfold qaO.f
 have h := qeg l [] m h0 h1 (by simpa using hl)
 simpa using h
end Go.Proofs.Ytenfomejccfkgaa.X
namespace Go.Proofs.Ytenfomejccfkgaa.X
open Go.RowKit Go.Proofs.YtenfomejccfkgaaW.PrintWords Go.Proofs.YtenfomejccfkgaaW.PrintLast Go.Proofs.YtenfomejccfkgaaW.PrintMore
attribute [local go_sem] qaI qaJ qaK qaE qaF qaT qaU qav qaw qaG qaH
set_option linter.unusedVariables false
set_option linter.unusedSimpArgs false
def qbY.f (l0 : List Int) (a1 : Int) : Option (Int) := if (wrap64 (a1 - (l0.length : Int))) < 0 then (some (-1)) else (some (wrap64 (a1 - (l0.length : Int))))
set_option maxHeartbeats 8000000 in
set_option maxRecDepth 100000 in
theorem qbY.calls (A0 : Option Addr) (c0 : Nat) (l0 : List Int) (a1 : Int) (r : Int) (w : World) (hr0 : Kd.C (Kd.int .i64) w A0 l0.length l0) (hc0 : l0.length ≤ c0) (h : qbY.f l0 a1 = some r) :
  Calls Try.prog 76 #[.slice A0 l0.length c0, .int .i64 a1] w fun e w' => e = .returned (.int .i64 r) ∧ qbf w w' := by
 have HR0 := Aside0.mk hr0
 have HC0 := Aside0.mk hc0
 clear hr0 hc0
 have H : (if (wrap64 (a1 - (l0.length : Int))) < 0 then (some (-1)) else (some (wrap64 (a1 - (l0.length : Int))))) = some r := h
 clear h
 by_cases c3 : (wrap64 (a1 - (l0.length : Int))) < 0
 ·rw [if_pos c3] at H
  have c3b0 : decide ((wrap64 (a1 - (l0.length : Int))) < 0) = true := decide_eq_true c3
  clear c3
  obtain rfl := Option.some.inj H
  go_enter Try.func76, Try.ntmps76
  go_wp2
  go_ret
  exact ⟨by first | rfl | (simp; done) | (simp [*]; done), by repeat (first | exact qbf.refl _ | apply qbf.step)⟩
 ·rw [if_neg c3] at H
  have c3b0 : decide ((wrap64 (a1 - (l0.length : Int))) < 0) = false := decide_eq_false c3
  clear c3
  obtain rfl := Option.some.inj H
  go_enter Try.func76, Try.ntmps76
  go_wp2
  go_ret
  exact ⟨by first | rfl | (simp; done) | (simp [*]; done), by repeat (first | exact qbf.refl _ | apply qbf.step)⟩
end Go.Proofs.Ytenfomejccfkgaa.X
namespace Go.Proofs.Ytenfomejccfkgaa.X
open Go.RowKit Go.Proofs.YtenfomejccfkgaaW.PrintWords Go.Proofs.YtenfomejccfkgaaW.PrintLast Go.Proofs.YtenfomejccfkgaaW.PrintMore
attribute [local go_sem] qaI qaJ qaK qaE qaF qaT qaU qav qaw qaG qaH
set_option linter.unusedVariables false
set_option linter.unusedSimpArgs false
theorem sz_IntS (l : List Int) (hw : l.length ≤ maxLen) (B left : Int) (h0 : 0 ≤ left) (h1 : left ≤ B) (hB : B ≤ 1048576) : ∃ r, Ev (fun k => qbY.f l left) r ∧ (0 ≤ r → r ≤ left ∧ (l.length : Int) ≤ B) := by
 have hl := Nat.le_trans hw qcH
 unfold qbY.f
 have e : wrap64 (left - (l.length : Int)) = left - (l.length : Int) := qcq (by omega) (by omega)
 simp only [e]
 by_cases c : left - (l.length : Int) < 0
 ·exact ⟨-1, Ev.pos c (Ev.is rfl), fun h => by omega⟩
 ·exact ⟨left - (l.length : Int), Ev.neg c (Ev.is rfl), fun _ => ⟨by omega, by omega⟩⟩
end Go.Proofs.Ytenfomejccfkgaa.X
