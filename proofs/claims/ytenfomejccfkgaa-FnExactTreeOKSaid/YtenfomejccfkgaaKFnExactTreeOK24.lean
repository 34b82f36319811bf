import Derived.Test.YtenfomejccfkgaaKFnExactTreeOK4
import Derived.Test.YtenfomejccfkgaaKFnExactTreeOK15
import Derived.Test.YtenfomejccfkgaaKFnExactTreeOK18
import Derived.Test.YtenfomejccfkgaaKFnExactTreeOK21
import Derived.Test.YtenfomejccfkgaaKFnExactTreeOK23
namespace Go.Proofs.Ytenfomejccfkgaa.X
open Go.RowKit Go.Proofs.YtenfomejccfkgaaW.PrintWords Go.Proofs.YtenfomejccfkgaaW.PrintLast Go.Proofs.YtenfomejccfkgaaW.PrintMore
attribute [local go_sem] qaN qaO qaP qaJ qaK qaX qaY qaD qaE qaL qaM
set_option linter.unusedVariables false
set_option linter.unusedSimpArgs false
def qbe.f (k : Nat) (l0_0 : List (S50)) (a1 : Int) : Option (Bool) := (qbx.f k l0_0 1048576).bind fun t241 => (if t241 < 0 then (some true) else ((qa9.f k l0_0).bind fun t242 => ((qbP.f t242 a1).bind fun t245 => ((qa9.f k l0_0).bind fun t246 => ((qbs.f t246 a1).bind fun t250 => (if (t250 != t245) = true then (some false) else ((qa9.f k l0_0).bind fun t251 => ((qbn.f k t246 t251).bind fun t254 => (if t254 = true then (some true) else (some false))))))))))
theorem qbe.mono : ∀ a0 a1 k, LeO (qbe.f k a0 a1) (qbe.f (k + 1) a0 a1) := by
 intro a0 a1 k
 unfold qbe.f
 repeat' first
   | (with_reducible exact qbn.mono _ _ _)
   | (with_reducible exact qbx.mono _ _ _)
   | (with_reducible exact qa9.mono _ _)
   | (with_reducible exact LeO.refl _)
   | (with_reducible exact LeO.none _)
   | (with_reducible refine LeO.ite ?_ ?_)
   | (with_reducible refine LeO.bind ?_ (fun _ => ?_))
   | exact qbn.mono _ _ _
   | exact qbx.mono _ _ _
   | exact qa9.mono _ _
   | exact LeO.none _
   | refine LeO.ite ?_ ?_
   | refine LeO.bind ?_ (fun _ => ?_)
set_option maxHeartbeats 8000000 in
set_option maxRecDepth 100000 in
theorem qbe.calls (k : Nat) (A0_0 : Option Addr) (c0_0 : Nat) (l0_0 : List (S50)) (a1 : Int) (r : Bool) (w : World) (hr0_0 : Kd.C k50 w A0_0 l0_0.length l0_0) (hc0_0 : l0_0.length ≤ c0_0) (h : qbe.f k l0_0 a1 = some r) :
  Calls Try.prog 3 #[.agg #[.slice A0_0 l0_0.length c0_0], .int .i64 a1] w fun e w' => e = .returned (.bool r) ∧ Below w.heap.size w w' := by
 have hu24 := Try.underlying24
 have hu29 := Try.underlying29
 have HR0_0 := Aside0.mk hr0_0
 have HC0_0 := Aside0.mk hc0_0
 clear hr0_0 hc0_0
 have HB := Aside0.mk (Below.refl w.heap.size w)
 have H : ((qbx.f k l0_0 1048576).bind fun t241 => (if t241 < 0 then (some true) else ((qa9.f k l0_0).bind fun t242 => ((qbP.f t242 a1).bind fun t245 => ((qa9.f k l0_0).bind fun t246 => ((qbs.f t246 a1).bind fun t250 => (if (t250 != t245) = true then (some false) else ((qa9.f k l0_0).bind fun t251 => ((qbn.f k t246 t251).bind fun t254 => (if t254 = true then (some true) else (some false))))))))))) = some r := h
 clear h
 replace H := Option.bind_eq_some_iff.mp H
 obtain ⟨t241, A30, H⟩ := H
 replace H : (if t241 < 0 then (some true) else ((qa9.f k l0_0).bind fun t242 => ((qbP.f t242 a1).bind fun t245 => ((qa9.f k l0_0).bind fun t246 => ((qbs.f t246 a1).bind fun t250 => (if (t250 != t245) = true then (some false) else ((qa9.f k l0_0).bind fun t251 => ((qbn.f k t246 t251).bind fun t254 => (if t254 = true then (some true) else (some false)))))))))) = some r := H
 have A3 := Aside0.mk A30
 clear A30
 by_cases c4 : t241 < 0
 ·rw [if_pos c4] at H
  have c4b0 : decide (t241 < 0) = true := decide_eq_true c4
  clear c4
  obtain rfl := Option.some.inj H
  go_enter Try.func3, Try.ntmps3
  go_wp2_with (first | ((with_reducible refine qaI (N := 2) rfl ?_); refine qaG ?hg (N := 2) ?hd (cs := #[.slice A0_0 l0_0.length c0_0]) (t := 24) ?hr ?_; (case hd => rfl); (case hg => rfl); (case hr => first | (go_simp; done) | (go_simp; rfl)); intro gb240 hg w5 hbox hb; have n0_ := Aside0.mk (qaj (by repeat (first | (with_reducible first | exact HB.out | apply qab | apply qaa | apply qac) | exact HB.out)) hb); have n1_ := Aside0.mk (hbox); have n2_ := Aside0.mk ((by rw [hg]; exact (qak (by repeat (first | (with_reducible first | exact HB.out | apply qab | apply qaa | apply qac) | exact HB.out))) : w.heap.size ≤ gb240)); have n3_ := Aside0.mk ((by rw [hg]; exact (qak (by repeat (first | (with_reducible first | exact HB.out | apply qab | apply qaa | apply qac) | exact HB.out))) : w.heap.size ≤ gb240)); clear HB; have HB := n0_; have BK240 := n1_; have GW240 := n2_; have GE240 := n3_; clear n0_ n1_ n2_ n3_; clear hb hbox hg; have hcz6_0 : w5.cell? ⟨gb240, 0, none⟩ = some (.slice A0_0 l0_0.length c0_0) := (qah BK240.out 0).trans rfl; have hfz6_0 := qad BK240.out 0) | ((with_reducible refine qaq (f := 13) rfl ?_); refine qa0 (some 11) rfl rfl Try.func13 (by kernel_rfl) rfl #[.agg #[.slice A0_0 l0_0.length c0_0], .int .i64 1048576] rfl (by (try simp only [List.map_toArray, List.map_cons, List.map_nil]); first | done | rfl | (simp only [List.length_drop, List.length_take]; rfl)) ?_; (with_reducible refine (qbx.calls k _ _ l0_0 1048576 t241 _ ?side1 ?side2 A3.out).mono ?_); (case side1 => repeat (first | exact (Kd.qax HR0_0.out HB.out) | (with_reducible refine Kd.qaz ?_ _) | (with_reducible refine Kd.qaA ?_ _) | (with_reducible refine Kd.qaQ ?_))); (case side2 => exact HC0_0.out); rintro e w7 ⟨rfl, hb⟩; refine ⟨_, rfl, ?_⟩; have n0_ := Aside0.mk (qau (g := gb240) (o := .cells #[.slice A0_0 l0_0.length c0_0] 24 (0, 0)) (by (with_reducible repeat (first | refine qao ?_ _ | refine qap ?_ | refine qal ?_ _)); exact BK240.out) hb); have n1_ := Aside0.mk (qaj (by repeat (first | (with_reducible first | exact HB.out | apply qab | apply qaa | apply qac | refine qai ?_ GE240.out) | exact HB.out)) hb); clear BK240; clear HB; have BK240 := n0_; have HB := n1_; clear n0_ n1_; (try clear hb); (try clear hb2); (try clear hk); (try clear hi)))
  go_ret
  exact ⟨by first | rfl | (simp [qam, qan] <;> rfl) | (simp [*, qam, qan] <;> rfl), by repeat (first | (with_reducible first | exact HB.out | apply qab | apply qaa | apply qac | refine qai ?_ GE240.out) | exact HB.out)⟩
 ·rw [if_neg c4] at H
  have c4b0 : decide (t241 < 0) = false := decide_eq_false c4
  clear c4
  replace H := Option.bind_eq_some_iff.mp H
  obtain ⟨t242, A80, H⟩ := H
  replace H : ((qbP.f t242 a1).bind fun t245 => ((qa9.f k l0_0).bind fun t246 => ((qbs.f t246 a1).bind fun t250 => (if (t250 != t245) = true then (some false) else ((qa9.f k l0_0).bind fun t251 => ((qbn.f k t246 t251).bind fun t254 => (if t254 = true then (some true) else (some false)))))))) = some r := H
  have A8 := Aside0.mk A80
  clear A80
  replace H := Option.bind_eq_some_iff.mp H
  obtain ⟨t245, A90, H⟩ := H
  replace H : ((qa9.f k l0_0).bind fun t246 => ((qbs.f t246 a1).bind fun t250 => (if (t250 != t245) = true then (some false) else ((qa9.f k l0_0).bind fun t251 => ((qbn.f k t246 t251).bind fun t254 => (if t254 = true then (some true) else (some false))))))) = some r := H
  have A9 := Aside0.mk A90
  clear A90
  replace H := Option.bind_eq_some_iff.mp H
  obtain ⟨t246, A100, H⟩ := H
  replace H : ((qbs.f t246 a1).bind fun t250 => (if (t250 != t245) = true then (some false) else ((qa9.f k l0_0).bind fun t251 => ((qbn.f k t246 t251).bind fun t254 => (if t254 = true then (some true) else (some false)))))) = some r := H
  have A10 := Aside0.mk A100
  clear A100
  replace H := Option.bind_eq_some_iff.mp H
  obtain ⟨t250, A110, H⟩ := H
  replace H : (if (t250 != t245) = true then (some false) else ((qa9.f k l0_0).bind fun t251 => ((qbn.f k t246 t251).bind fun t254 => (if t254 = true then (some true) else (some false))))) = some r := H
  have A11 := Aside0.mk A110
  clear A110
  by_cases c12 : (t250 != t245) = true
  ·rw [if_pos c12] at H
   have c12b0 : (t250 != t245) = true := c12
   (try (have c12b1 : decide (t250 = t245) = false := by simpa using c12))
   (try (have c12b2 : (t250 == t245) = false := by simpa using c12))
   (try (have c12b3 : ¬ (t250 = t245) := by simpa using c12))
   clear c12
   obtain rfl := Option.some.inj H
   go_enter Try.func3, Try.ntmps3
   go_wp2_with (first | ((with_reducible refine qaI (N := 2) rfl ?_); refine qaG ?hg (N := 2) ?hd (cs := #[.slice A0_0 l0_0.length c0_0]) (t := 24) ?hr ?_; (case hd => rfl); (case hg => rfl); (case hr => first | (go_simp; done) | (go_simp; rfl)); intro gb240 hg w13 hbox hb; have n0_ := Aside0.mk (qaj (by repeat (first | (with_reducible first | exact HB.out | apply qab | apply qaa | apply qac) | exact HB.out)) hb); have n1_ := Aside0.mk (hbox); have n2_ := Aside0.mk ((by rw [hg]; exact (qak (by repeat (first | (with_reducible first | exact HB.out | apply qab | apply qaa | apply qac) | exact HB.out))) : w.heap.size ≤ gb240)); have n3_ := Aside0.mk ((by rw [hg]; exact (qak (by repeat (first | (with_reducible first | exact HB.out | apply qab | apply qaa | apply qac) | exact HB.out))) : w.heap.size ≤ gb240)); clear HB; have HB := n0_; have BK240 := n1_; have GW240 := n2_; have GE240 := n3_; clear n0_ n1_ n2_ n3_; clear hb hbox hg; have hcz14_0 : w13.cell? ⟨gb240, 0, none⟩ = some (.slice A0_0 l0_0.length c0_0) := (qah BK240.out 0).trans rfl; have hfz14_0 := qad BK240.out 0) | ((with_reducible refine qaq (f := 13) rfl ?_); refine qa0 (some 11) rfl rfl Try.func13 (by kernel_rfl) rfl #[.agg #[.slice A0_0 l0_0.length c0_0], .int .i64 1048576] rfl (by (try simp only [List.map_toArray, List.map_cons, List.map_nil]); first | done | rfl | (simp only [List.length_drop, List.length_take]; rfl)) ?_; (with_reducible refine (qbx.calls k _ _ l0_0 1048576 t241 _ ?side1 ?side2 A3.out).mono ?_); (case side1 => repeat (first | exact (Kd.qax HR0_0.out HB.out) | (with_reducible refine Kd.qaz ?_ _) | (with_reducible refine Kd.qaA ?_ _) | (with_reducible refine Kd.qaQ ?_))); (case side2 => exact HC0_0.out); rintro e w15 ⟨rfl, hb⟩; refine ⟨_, rfl, ?_⟩; have n0_ := Aside0.mk (qau (g := gb240) (o := .cells #[.slice A0_0 l0_0.length c0_0] 24 (0, 0)) (by (with_reducible repeat (first | refine qao ?_ _ | refine qap ?_ | refine qal ?_ _)); exact BK240.out) hb); have n1_ := Aside0.mk (qaj (by repeat (first | (with_reducible first | exact HB.out | apply qab | apply qaa | apply qac | refine qai ?_ GE240.out) | exact HB.out)) hb); clear BK240; clear HB; have BK240 := n0_; have HB := n1_; clear n0_ n1_; (try clear hb); (try clear hb2); (try clear hk); (try clear hi); have hcz16_0 : w15.cell? ⟨gb240, 0, none⟩ = some (.slice A0_0 l0_0.length c0_0) := (qah BK240.out 0).trans rfl; have hfz16_0 := qad BK240.out 0) | ((with_reducible refine qaq (f := 15) rfl ?_); refine qa0 (some 15) rfl rfl Try.func15 (by kernel_rfl) rfl #[.agg #[.slice A0_0 l0_0.length c0_0]] rfl (by (try simp only [List.map_toArray, List.map_cons, List.map_nil]); first | done | rfl | (simp only [List.length_drop, List.length_take]; rfl)) ?_; (with_reducible refine (qa9.calls k _ _ l0_0 t242 _ ?side1 ?side2 A8.out).mono ?_); (case side1 => repeat (first | exact (Kd.qax HR0_0.out HB.out) | (with_reducible refine Kd.qaz ?_ _) | (with_reducible refine Kd.qaA ?_ _) | (with_reducible refine Kd.qaQ ?_))); (case side2 => exact HC0_0.out); rintro e w17 ⟨v243, rfl, ho0, hb⟩; refine ⟨_, rfl, ?_⟩; have n0_ := Aside0.mk (Kd.qcD ho0 (qak (by repeat (first | (with_reducible first | exact HB.out | apply qab | apply qaa | apply qac | refine qai ?_ GE240.out) | exact HB.out)))); have n1_ := Aside0.mk (qau (g := gb240) (o := .cells #[.slice A0_0 l0_0.length c0_0] 24 (0, 0)) (by (with_reducible repeat (first | refine qao ?_ _ | refine qap ?_ | refine qal ?_ _)); exact BK240.out) hb); have n2_ := Aside0.mk (qaj (by repeat (first | (with_reducible first | exact HB.out | apply qab | apply qaa | apply qac | refine qai ?_ GE240.out) | exact HB.out)) hb); clear BK240; clear HB; have HO244 := n0_; have BK240 := n1_; have HB := n2_; clear n0_ n1_ n2_; (try clear hb); (try clear hb2); (try clear hk); (try clear hi); (try clear ho0); obtain ⟨Ao18, co18, eo18⟩ := Kd.qcN HO244.out; subst eo18) | ((with_reducible refine qaq (f := 14) rfl ?_); refine qa0 (some 17) rfl rfl Try.func14 (by kernel_rfl) rfl #[.agg #[.slice Ao18 t242.length co18], .int .i64 a1] rfl (by (try simp only [List.map_toArray, List.map_cons, List.map_nil]); first | done | rfl | (simp only [List.length_drop, List.length_take]; rfl)) ?_; (with_reducible refine (qbP.calls _ _ t242 a1 t245 _ ?side1 ?side2 A9.out).mono ?_); (case side1 => repeat (first | exact (Kd.qbH HO244.out).2.2 | (with_reducible refine Kd.qaz ?_ _) | (with_reducible refine Kd.qaA ?_ _) | (with_reducible refine Kd.qaQ ?_))); (case side2 => exact (Kd.qbH HO244.out).2.1); rintro e w19 ⟨rfl, hb⟩; refine ⟨_, rfl, ?_⟩; have n0_ := Aside0.mk (Kd.qbL (by (with_reducible repeat (first | apply Kd.qbk | apply Kd.qbl | apply Kd.qbw)); exact HO244.out) hb); have n1_ := Aside0.mk (qau (g := gb240) (o := .cells #[.slice A0_0 l0_0.length c0_0] 24 (0, 0)) (by (with_reducible repeat (first | refine qao ?_ _ | refine qap ?_ | refine qal ?_ _)); exact BK240.out) hb); have n2_ := Aside0.mk (qaj (by repeat (first | (with_reducible first | exact HB.out | apply qab | apply qaa | apply qac | refine qai ?_ GE240.out) | exact HB.out)) hb); clear HO244; clear BK240; clear HB; have HO244 := n0_; have BK240 := n1_; have HB := n2_; clear n0_ n1_ n2_; (try clear hb); (try clear hb2); (try clear hk); (try clear hi); have hcz20_0 : w19.cell? ⟨gb240, 0, none⟩ = some (.slice A0_0 l0_0.length c0_0) := (qah BK240.out 0).trans rfl; have hfz20_0 := qad BK240.out 0) | ((with_reducible refine qaq (f := 15) rfl ?_); refine qa0 (some 19) rfl rfl Try.func15 (by kernel_rfl) rfl #[.agg #[.slice A0_0 l0_0.length c0_0]] rfl (by (try simp only [List.map_toArray, List.map_cons, List.map_nil]); first | done | rfl | (simp only [List.length_drop, List.length_take]; rfl)) ?_; (with_reducible refine (qa9.calls k _ _ l0_0 t246 _ ?side1 ?side2 A10.out).mono ?_); (case side1 => repeat (first | exact (Kd.qax HR0_0.out HB.out) | (with_reducible refine Kd.qaz ?_ _) | (with_reducible refine Kd.qaA ?_ _) | (with_reducible refine Kd.qaQ ?_))); (case side2 => exact HC0_0.out); rintro e w21 ⟨v247, rfl, ho0, hb⟩; refine ⟨_, rfl, ?_⟩; have n0_ := Aside0.mk (Kd.qcM (by (with_reducible repeat (first | apply Kd.qbk | apply Kd.qbl | apply Kd.qbw)); exact HO244.out) (Kd.qdH ho0) hb); have n1_ := Aside0.mk (Kd.qcD (Kd.qdI ho0 (Kd.S_lt (by (with_reducible repeat (first | apply Kd.qbk | apply Kd.qbl | apply Kd.qbw)); exact HO244.out))) (qak (by repeat (first | (with_reducible first | exact HB.out | apply qab | apply qaa | apply qac | refine qai ?_ GE240.out) | exact HB.out)))); have n2_ := Aside0.mk (qau (g := gb240) (o := .cells #[.slice A0_0 l0_0.length c0_0] 24 (0, 0)) (by (with_reducible repeat (first | refine qao ?_ _ | refine qap ?_ | refine qal ?_ _)); exact BK240.out) hb); have n3_ := Aside0.mk (qaj (by repeat (first | (with_reducible first | exact HB.out | apply qab | apply qaa | apply qac | refine qai ?_ GE240.out) | exact HB.out)) hb); clear HO244; clear BK240; clear HB; have HO244 := n0_; have HO248 := n1_; have BK240 := n2_; have HB := n3_; clear n0_ n1_ n2_ n3_; (try clear hb); (try clear hb2); (try clear hk); (try clear hi); (try clear ho0)) | ((with_reducible refine qaI (N := 7) rfl ?_); refine qaG ?hg (N := 7) ?hd (cs := #[.slice none 0 0]) (t := 29) ?hr ?_; (case hd => rfl); (case hg => rfl); (case hr => first | (go_simp; done) | (go_simp; rfl)); intro gb249 hg w22 hbox hb; have n0_ := Aside0.mk (Kd.qbL (by (with_reducible repeat (first | apply Kd.qbk | apply Kd.qbl | apply Kd.qbw)); exact HO244.out) hb); have n1_ := Aside0.mk (Kd.qbL (by (with_reducible repeat (first | apply Kd.qbk | apply Kd.qbl | apply Kd.qbw)); exact HO248.out) hb); have n2_ := Aside0.mk (qau (g := gb240) (o := .cells #[.slice A0_0 l0_0.length c0_0] 24 (0, 0)) (by (with_reducible repeat (first | refine qao ?_ _ | refine qap ?_ | refine qal ?_ _)); exact BK240.out) hb); have n3_ := Aside0.mk (qaj (by repeat (first | (with_reducible first | exact HB.out | apply qab | apply qaa | apply qac | refine qai ?_ GE240.out) | exact HB.out)) hb); have n4_ := Aside0.mk (hbox); have n5_ := Aside0.mk ((by rw [hg]; exact (qak (by repeat (first | (with_reducible first | exact HB.out | apply qab | apply qaa | apply qac | refine qai ?_ GE240.out) | exact HB.out))) : w.heap.size ≤ gb249)); have n6_ := Aside0.mk ((by rw [hg]; exact (qak (by repeat (first | (with_reducible first | exact HB.out | apply qab | apply qaa | apply qac | refine qai ?_ GE240.out) | exact HB.out))) : w.heap.size ≤ gb249)); have n7_ := Aside0.mk ((by rw [hg]; exact Nat.ne_of_lt (qbj (g := gb240) (o := .cells #[.slice A0_0 l0_0.length c0_0] 24 (0, 0)) (by (with_reducible repeat (first | refine qao ?_ _ | refine qap ?_ | refine qal ?_ _)); exact BK240.out)) : gb240 ≠ gb249)); have n8_ := Aside0.mk ((by rw [hg]; exact Nat.ne_of_gt (qbj (g := gb240) (o := .cells #[.slice A0_0 l0_0.length c0_0] 24 (0, 0)) (by (with_reducible repeat (first | refine qao ?_ _ | refine qap ?_ | refine qal ?_ _)); exact BK240.out)) : gb249 ≠ gb240)); clear HO244; clear HO248; clear BK240; clear HB; have HO244 := n0_; have HO248 := n1_; have BK240 := n2_; have HB := n3_; have BK249 := n4_; have GW249 := n5_; have GE249 := n6_; have NB240_249 := n7_; have NB249_240 := n8_; clear n0_ n1_ n2_ n3_ n4_ n5_ n6_ n7_ n8_; clear hb hbox hg; obtain ⟨Ao23, co23, eo23⟩ := Kd.qcN HO248.out; subst eo23; have hnb24 := NB249_240.out; have hnc24 := NB240_249.out; have hcz25_0 : w22.cell? ⟨gb249, 0, none⟩ = some (.slice none 0 0) := (qah BK249.out 0).trans rfl; have hfz25_0 := qad BK249.out 0) | ((with_reducible refine qaq (f := 16) rfl ?_); refine qa0 (some 22) rfl rfl Try.func16 (by kernel_rfl) rfl #[.agg #[.slice Ao23 t246.length co23], .int .i64 a1] rfl (by (try simp only [List.map_toArray, List.map_cons, List.map_nil]); first | done | rfl | (simp only [List.length_drop, List.length_take]; rfl)) ?_; (with_reducible refine (qbs.calls _ _ t246 a1 t250 _ ?side1 ?side2 A11.out).mono ?_); (case side1 => refine (Kd.qbH (e := 56) (base := w.heap.size) (ok := fun k_ => (True ∧ some k_ ≠ (.slice Ao18 t242.length co18 : Value).ownBlock)) (n := t246.length) (c := co23) ?_).2.2; exact (by (with_reducible repeat (first | apply Kd.qbk | apply Kd.qbl | apply Kd.qbw)); exact (Kd.qcp (Kd.qdG (p := ⟨gb249, 0, none⟩) (Kd.qcu HO248.out BK249.out (by decide)) (fun _ hk => hk.2) (.slice Ao23 t246.length co23)) (fun _ h_ => h_.1)))); (case side2 => exact (Kd.qbH HO248.out).2.1); rintro e w26 ⟨rfl, hb⟩; refine ⟨_, rfl, ?_⟩; have n0_ := Aside0.mk (Kd.qbL (by (with_reducible repeat (first | apply Kd.qbk | apply Kd.qbl | apply Kd.qbw)); exact (Kd.qcp (Kd.qdG (p := ⟨gb249, 0, none⟩) (Kd.qcu HO244.out BK249.out (by decide)) (fun _ hk => hk.2) (.slice Ao23 t246.length co23)) (fun _ h_ => h_.1))) hb); have n1_ := Aside0.mk (Kd.qbL (by (with_reducible repeat (first | apply Kd.qbk | apply Kd.qbl | apply Kd.qbw)); exact (Kd.qcp (Kd.qdG (p := ⟨gb249, 0, none⟩) (Kd.qcu HO248.out BK249.out (by decide)) (fun _ hk => hk.2) (.slice Ao23 t246.length co23)) (fun _ h_ => h_.1))) hb); have n2_ := Aside0.mk (qau (g := gb240) (o := .cells #[.slice A0_0 l0_0.length c0_0] 24 (0, 0)) (by (with_reducible repeat (first | refine qao ?_ _ | refine qap ?_ | refine qal ?_ _)); refine qbU ?_ NB240_249.out _; (with_reducible repeat (first | refine qao ?_ _ | refine qap ?_ | refine qal ?_ _)); exact BK240.out) hb); have n3_ := Aside0.mk (qau (g := gb249) (o := .cells #[.slice Ao23 t246.length co23] 29 (0, 0)) (by (with_reducible repeat (first | refine qao ?_ _ | refine qap ?_ | refine qal ?_ _)); refine qbR (cs := #[.slice none 0 0]) ?_ 0 _ rfl; (with_reducible repeat (first | refine qao ?_ _ | refine qap ?_ | refine qal ?_ _)); exact BK249.out) hb); have n4_ := Aside0.mk (qaj (by repeat (first | (with_reducible first | exact HB.out | apply qab | apply qaa | apply qac | refine qai ?_ GE240.out | refine qai ?_ GE249.out) | exact HB.out)) hb); clear HO244; clear HO248; clear BK240; clear BK249; clear HB; have HO244 := n0_; have HO248 := n1_; have BK240 := n2_; have BK249 := n3_; have HB := n4_; clear n0_ n1_ n2_ n3_ n4_; (try clear hb); (try clear hb2); (try clear hk); (try clear hi)))
   go_ret
   exact ⟨by first | rfl | (simp [qam, qan] <;> rfl) | (simp [*, qam, qan] <;> rfl), by repeat (first | (with_reducible first | exact HB.out | apply qab | apply qaa | apply qac | refine qai ?_ GE240.out | refine qai ?_ GE249.out) | exact HB.out)⟩
  ·rw [if_neg c12] at H
   have c12b0 : (t250 != t245) = false := by simpa using c12
   (try (have c12b1 : decide (t250 = t245) = true := by simpa using c12))
   (try (have c12b2 : (t250 == t245) = true := by simpa using c12))
   clear c12
   replace H := Option.bind_eq_some_iff.mp H
   obtain ⟨t251, A270, H⟩ := H
   replace H : ((qbn.f k t246 t251).bind fun t254 => (if t254 = true then (some true) else (some false))) = some r := H
   have A27 := Aside0.mk A270
   clear A270
   replace H := Option.bind_eq_some_iff.mp H
   obtain ⟨t254, A280, H⟩ := H
   replace H : (if t254 = true then (some true) else (some false)) = some r := H
   have A28 := Aside0.mk A280
   clear A280
   by_cases c29 : t254 = true
   ·subst c29
    have H1 : (some true) = some r := by rw [if_pos rfl] at H; exact H
    clear H
    have H := H1
    clear H1
    obtain rfl := Option.some.inj H
    go_enter Try.func3, Try.ntmps3
    try go_wp2_with (first | ((with_reducible refine qaI (N := 2) rfl ?_); refine qaG ?hg (N := 2) ?hd (cs := #[.slice A0_0 l0_0.length c0_0]) (t := 24) ?hr ?_; (case hd => rfl); (case hg => rfl); (case hr => first | (go_simp; done) | (go_simp; rfl)); intro gb240 hg w30 hbox hb; have n0_ := Aside0.mk (qaj (by repeat (first | (with_reducible first | exact HB.out | apply qab | apply qaa | apply qac) | exact HB.out)) hb); have n1_ := Aside0.mk (hbox); have n2_ := Aside0.mk ((by rw [hg]; exact (qak (by repeat (first | (with_reducible first | exact HB.out | apply qab | apply qaa | apply qac) | exact HB.out))) : w.heap.size ≤ gb240)); have n3_ := Aside0.mk ((by rw [hg]; exact (qak (by repeat (first | (with_reducible first | exact HB.out | apply qab | apply qaa | apply qac) | exact HB.out))) : w.heap.size ≤ gb240)); clear HB; have HB := n0_; have BK240 := n1_; have GW240 := n2_; have GE240 := n3_; clear n0_ n1_ n2_ n3_; clear hb hbox hg; have hcz31_0 : w30.cell? ⟨gb240, 0, none⟩ = some (.slice A0_0 l0_0.length c0_0) := (qah BK240.out 0).trans rfl; have hfz31_0 := qad BK240.out 0) | ((with_reducible refine qaq (f := 13) rfl ?_); refine qa0 (some 11) rfl rfl Try.func13 (by kernel_rfl) rfl #[.agg #[.slice A0_0 l0_0.length c0_0], .int .i64 1048576] rfl (by (try simp only [List.map_toArray, List.map_cons, List.map_nil]); first | done | rfl | (simp only [List.length_drop, List.length_take]; rfl)) ?_; (with_reducible refine (qbx.calls k _ _ l0_0 1048576 t241 _ ?side1 ?side2 A3.out).mono ?_); (case side1 => repeat (first | exact (Kd.qax HR0_0.out HB.out) | (with_reducible refine Kd.qaz ?_ _) | (with_reducible refine Kd.qaA ?_ _) | (with_reducible refine Kd.qaQ ?_))); (case side2 => exact HC0_0.out); rintro e w32 ⟨rfl, hb⟩; refine ⟨_, rfl, ?_⟩; have n0_ := Aside0.mk (qau (g := gb240) (o := .cells #[.slice A0_0 l0_0.length c0_0] 24 (0, 0)) (by (with_reducible repeat (first | refine qao ?_ _ | refine qap ?_ | refine qal ?_ _)); exact BK240.out) hb); have n1_ := Aside0.mk (qaj (by repeat (first | (with_reducible first | exact HB.out | apply qab | apply qaa | apply qac | refine qai ?_ GE240.out) | exact HB.out)) hb); clear BK240; clear HB; have BK240 := n0_; have HB := n1_; clear n0_ n1_; (try clear hb); (try clear hb2); (try clear hk); (try clear hi); have hcz33_0 : w32.cell? ⟨gb240, 0, none⟩ = some (.slice A0_0 l0_0.length c0_0) := (qah BK240.out 0).trans rfl; have hfz33_0 := qad BK240.out 0) | ((with_reducible refine qaq (f := 15) rfl ?_); refine qa0 (some 15) rfl rfl Try.func15 (by kernel_rfl) rfl #[.agg #[.slice A0_0 l0_0.length c0_0]] rfl (by (try simp only [List.map_toArray, List.map_cons, List.map_nil]); first | done | rfl | (simp only [List.length_drop, List.length_take]; rfl)) ?_; (with_reducible refine (qa9.calls k _ _ l0_0 t242 _ ?side1 ?side2 A8.out).mono ?_); (case side1 => repeat (first | exact (Kd.qax HR0_0.out HB.out) | (with_reducible refine Kd.qaz ?_ _) | (with_reducible refine Kd.qaA ?_ _) | (with_reducible refine Kd.qaQ ?_))); (case side2 => exact HC0_0.out); rintro e w34 ⟨v243, rfl, ho0, hb⟩; refine ⟨_, rfl, ?_⟩; have n0_ := Aside0.mk (Kd.qcD ho0 (qak (by repeat (first | (with_reducible first | exact HB.out | apply qab | apply qaa | apply qac | refine qai ?_ GE240.out) | exact HB.out)))); have n1_ := Aside0.mk (qau (g := gb240) (o := .cells #[.slice A0_0 l0_0.length c0_0] 24 (0, 0)) (by (with_reducible repeat (first | refine qao ?_ _ | refine qap ?_ | refine qal ?_ _)); exact BK240.out) hb); have n2_ := Aside0.mk (qaj (by repeat (first | (with_reducible first | exact HB.out | apply qab | apply qaa | apply qac | refine qai ?_ GE240.out) | exact HB.out)) hb); clear BK240; clear HB; have HO244 := n0_; have BK240 := n1_; have HB := n2_; clear n0_ n1_ n2_; (try clear hb); (try clear hb2); (try clear hk); (try clear hi); (try clear ho0); obtain ⟨Ao35, co35, eo35⟩ := Kd.qcN HO244.out; subst eo35) | ((with_reducible refine qaq (f := 14) rfl ?_); refine qa0 (some 17) rfl rfl Try.func14 (by kernel_rfl) rfl #[.agg #[.slice Ao35 t242.length co35], .int .i64 a1] rfl (by (try simp only [List.map_toArray, List.map_cons, List.map_nil]); first | done | rfl | (simp only [List.length_drop, List.length_take]; rfl)) ?_; (with_reducible refine (qbP.calls _ _ t242 a1 t245 _ ?side1 ?side2 A9.out).mono ?_); (case side1 => repeat (first | exact (Kd.qbH HO244.out).2.2 | (with_reducible refine Kd.qaz ?_ _) | (with_reducible refine Kd.qaA ?_ _) | (with_reducible refine Kd.qaQ ?_))); (case side2 => exact (Kd.qbH HO244.out).2.1); rintro e w36 ⟨rfl, hb⟩; refine ⟨_, rfl, ?_⟩; have n0_ := Aside0.mk (Kd.qbL (by (with_reducible repeat (first | apply Kd.qbk | apply Kd.qbl | apply Kd.qbw)); exact HO244.out) hb); have n1_ := Aside0.mk (qau (g := gb240) (o := .cells #[.slice A0_0 l0_0.length c0_0] 24 (0, 0)) (by (with_reducible repeat (first | refine qao ?_ _ | refine qap ?_ | refine qal ?_ _)); exact BK240.out) hb); have n2_ := Aside0.mk (qaj (by repeat (first | (with_reducible first | exact HB.out | apply qab | apply qaa | apply qac | refine qai ?_ GE240.out) | exact HB.out)) hb); clear HO244; clear BK240; clear HB; have HO244 := n0_; have BK240 := n1_; have HB := n2_; clear n0_ n1_ n2_; (try clear hb); (try clear hb2); (try clear hk); (try clear hi); have hcz37_0 : w36.cell? ⟨gb240, 0, none⟩ = some (.slice A0_0 l0_0.length c0_0) := (qah BK240.out 0).trans rfl; have hfz37_0 := qad BK240.out 0) | ((with_reducible refine qaq (f := 15) rfl ?_); refine qa0 (some 19) rfl rfl Try.func15 (by kernel_rfl) rfl #[.agg #[.slice A0_0 l0_0.length c0_0]] rfl (by (try simp only [List.map_toArray, List.map_cons, List.map_nil]); first | done | rfl | (simp only [List.length_drop, List.length_take]; rfl)) ?_; (with_reducible refine (qa9.calls k _ _ l0_0 t246 _ ?side1 ?side2 A10.out).mono ?_); (case side1 => repeat (first | exact (Kd.qax HR0_0.out HB.out) | (with_reducible refine Kd.qaz ?_ _) | (with_reducible refine Kd.qaA ?_ _) | (with_reducible refine Kd.qaQ ?_))); (case side2 => exact HC0_0.out); rintro e w38 ⟨v247, rfl, ho0, hb⟩; refine ⟨_, rfl, ?_⟩; have n0_ := Aside0.mk (Kd.qcM (by (with_reducible repeat (first | apply Kd.qbk | apply Kd.qbl | apply Kd.qbw)); exact HO244.out) (Kd.qdH ho0) hb); have n1_ := Aside0.mk (Kd.qcD (Kd.qdI ho0 (Kd.S_lt (by (with_reducible repeat (first | apply Kd.qbk | apply Kd.qbl | apply Kd.qbw)); exact HO244.out))) (qak (by repeat (first | (with_reducible first | exact HB.out | apply qab | apply qaa | apply qac | refine qai ?_ GE240.out) | exact HB.out)))); have n2_ := Aside0.mk (qau (g := gb240) (o := .cells #[.slice A0_0 l0_0.length c0_0] 24 (0, 0)) (by (with_reducible repeat (first | refine qao ?_ _ | refine qap ?_ | refine qal ?_ _)); exact BK240.out) hb); have n3_ := Aside0.mk (qaj (by repeat (first | (with_reducible first | exact HB.out | apply qab | apply qaa | apply qac | refine qai ?_ GE240.out) | exact HB.out)) hb); clear HO244; clear BK240; clear HB; have HO244 := n0_; have HO248 := n1_; have BK240 := n2_; have HB := n3_; clear n0_ n1_ n2_ n3_; (try clear hb); (try clear hb2); (try clear hk); (try clear hi); (try clear ho0)) | ((with_reducible refine qaI (N := 7) rfl ?_); refine qaG ?hg (N := 7) ?hd (cs := #[.slice none 0 0]) (t := 29) ?hr ?_; (case hd => rfl); (case hg => rfl); (case hr => first | (go_simp; done) | (go_simp; rfl)); intro gb249 hg w39 hbox hb; have n0_ := Aside0.mk (Kd.qbL (by (with_reducible repeat (first | apply Kd.qbk | apply Kd.qbl | apply Kd.qbw)); exact HO244.out) hb); have n1_ := Aside0.mk (Kd.qbL (by (with_reducible repeat (first | apply Kd.qbk | apply Kd.qbl | apply Kd.qbw)); exact HO248.out) hb); have n2_ := Aside0.mk (qau (g := gb240) (o := .cells #[.slice A0_0 l0_0.length c0_0] 24 (0, 0)) (by (with_reducible repeat (first | refine qao ?_ _ | refine qap ?_ | refine qal ?_ _)); exact BK240.out) hb); have n3_ := Aside0.mk (qaj (by repeat (first | (with_reducible first | exact HB.out | apply qab | apply qaa | apply qac | refine qai ?_ GE240.out) | exact HB.out)) hb); have n4_ := Aside0.mk (hbox); have n5_ := Aside0.mk ((by rw [hg]; exact (qak (by repeat (first | (with_reducible first | exact HB.out | apply qab | apply qaa | apply qac | refine qai ?_ GE240.out) | exact HB.out))) : w.heap.size ≤ gb249)); have n6_ := Aside0.mk ((by rw [hg]; exact (qak (by repeat (first | (with_reducible first | exact HB.out | apply qab | apply qaa | apply qac | refine qai ?_ GE240.out) | exact HB.out))) : w.heap.size ≤ gb249)); have n7_ := Aside0.mk ((by rw [hg]; exact Nat.ne_of_lt (qbj (g := gb240) (o := .cells #[.slice A0_0 l0_0.length c0_0] 24 (0, 0)) (by (with_reducible repeat (first | refine qao ?_ _ | refine qap ?_ | refine qal ?_ _)); exact BK240.out)) : gb240 ≠ gb249)); have n8_ := Aside0.mk ((by rw [hg]; exact Nat.ne_of_gt (qbj (g := gb240) (o := .cells #[.slice A0_0 l0_0.length c0_0] 24 (0, 0)) (by (with_reducible repeat (first | refine qao ?_ _ | refine qap ?_ | refine qal ?_ _)); exact BK240.out)) : gb249 ≠ gb240)); clear HO244; clear HO248; clear BK240; clear HB; have HO244 := n0_; have HO248 := n1_; have BK240 := n2_; have HB := n3_; have BK249 := n4_; have GW249 := n5_; have GE249 := n6_; have NB240_249 := n7_; have NB249_240 := n8_; clear n0_ n1_ n2_ n3_ n4_ n5_ n6_ n7_ n8_; clear hb hbox hg; obtain ⟨Ao40, co40, eo40⟩ := Kd.qcN HO248.out; subst eo40; have hnb41 := NB249_240.out; have hnc41 := NB240_249.out; have hcz42_0 : w39.cell? ⟨gb249, 0, none⟩ = some (.slice none 0 0) := (qah BK249.out 0).trans rfl; have hfz42_0 := qad BK249.out 0) | ((with_reducible refine qaq (f := 16) rfl ?_); refine qa0 (some 22) rfl rfl Try.func16 (by kernel_rfl) rfl #[.agg #[.slice Ao40 t246.length co40], .int .i64 a1] rfl (by (try simp only [List.map_toArray, List.map_cons, List.map_nil]); first | done | rfl | (simp only [List.length_drop, List.length_take]; rfl)) ?_; (with_reducible refine (qbs.calls _ _ t246 a1 t250 _ ?side1 ?side2 A11.out).mono ?_); (case side1 => refine (Kd.qbH (e := 56) (base := w.heap.size) (ok := fun k_ => (True ∧ some k_ ≠ (.slice Ao35 t242.length co35 : Value).ownBlock)) (n := t246.length) (c := co40) ?_).2.2; exact (by (with_reducible repeat (first | apply Kd.qbk | apply Kd.qbl | apply Kd.qbw)); exact (Kd.qcp (Kd.qdG (p := ⟨gb249, 0, none⟩) (Kd.qcu HO248.out BK249.out (by decide)) (fun _ hk => hk.2) (.slice Ao40 t246.length co40)) (fun _ h_ => h_.1)))); (case side2 => exact (Kd.qbH HO248.out).2.1); rintro e w43 ⟨rfl, hb⟩; refine ⟨_, rfl, ?_⟩; have n0_ := Aside0.mk (Kd.qbL (by (with_reducible repeat (first | apply Kd.qbk | apply Kd.qbl | apply Kd.qbw)); exact (Kd.qcp (Kd.qdG (p := ⟨gb249, 0, none⟩) (Kd.qcu HO244.out BK249.out (by decide)) (fun _ hk => hk.2) (.slice Ao40 t246.length co40)) (fun _ h_ => h_.1))) hb); have n1_ := Aside0.mk (Kd.qbL (by (with_reducible repeat (first | apply Kd.qbk | apply Kd.qbl | apply Kd.qbw)); exact (Kd.qcp (Kd.qdG (p := ⟨gb249, 0, none⟩) (Kd.qcu HO248.out BK249.out (by decide)) (fun _ hk => hk.2) (.slice Ao40 t246.length co40)) (fun _ h_ => h_.1))) hb); have n2_ := Aside0.mk (qau (g := gb240) (o := .cells #[.slice A0_0 l0_0.length c0_0] 24 (0, 0)) (by (with_reducible repeat (first | refine qao ?_ _ | refine qap ?_ | refine qal ?_ _)); refine qbU ?_ NB240_249.out _; (with_reducible repeat (first | refine qao ?_ _ | refine qap ?_ | refine qal ?_ _)); exact BK240.out) hb); have n3_ := Aside0.mk (qau (g := gb249) (o := .cells #[.slice Ao40 t246.length co40] 29 (0, 0)) (by (with_reducible repeat (first | refine qao ?_ _ | refine qap ?_ | refine qal ?_ _)); refine qbR (cs := #[.slice none 0 0]) ?_ 0 _ rfl; (with_reducible repeat (first | refine qao ?_ _ | refine qap ?_ | refine qal ?_ _)); exact BK249.out) hb); have n4_ := Aside0.mk (qaj (by repeat (first | (with_reducible first | exact HB.out | apply qab | apply qaa | apply qac | refine qai ?_ GE240.out | refine qai ?_ GE249.out) | exact HB.out)) hb); clear HO244; clear HO248; clear BK240; clear BK249; clear HB; have HO244 := n0_; have HO248 := n1_; have BK240 := n2_; have BK249 := n3_; have HB := n4_; clear n0_ n1_ n2_ n3_ n4_; (try clear hb); (try clear hb2); (try clear hk); (try clear hi)))
    have n0_ := Aside0.mk (Kd.qbw HO244.out)
    have n1_ := Aside0.mk (Kd.qbw HO248.out)
    have n2_ := Aside0.mk (qap BK240.out)
    have n3_ := Aside0.mk (qap BK249.out)
    have n4_ := Aside0.mk (qac HB.out)
    clear HO244
    clear HO248
    clear BK240
    clear BK249
    clear HB
    have HO244 := n0_
    have HO248 := n1_
    have BK240 := n2_
    have BK249 := n3_
    have HB := n4_
    clear n0_ n1_ n2_ n3_ n4_
    refine qce (n := 5) (S := fun w' => w'.cell? ⟨gb249, 0, none⟩ = some (.slice Ao40 t246.length co40) ∧ w'.cell? ⟨gb240, 0, none⟩ = some (.slice A0_0 l0_0.length c0_0)) (ds := []) #[false, false, false, false, false] (by kernel_rfl) rfl rfl ⟨(qah BK249.out 0).trans rfl, (qah BK240.out 0).trans rfl⟩ (fun hHeld => ?_)
    generalize w43.drew = w44 at HO244 HO248 BK240 BK249 HB hHeld ⊢
    refine qdX (i := 0) (N := some 26) (v := ?_) (a' := ?_) #[true, false, false, false, false] rfl rfl (by kernel_rfl) (fun _ _ _ h => h) (Or.inl ⟨by rfl, ?_⟩) hHeld ?_ ?_
    rotate_left
    ·rintro w' ⟨s0, s1⟩
     go_simp
     with_reducible rfl
    rotate_left
    ·simp only [Act.put, List.setIfInBounds_toArray, List.set_cons_zero, List.set_cons_succ, qav, qb3]
     rfl
    refine qdX (i := 1) (N := some 27) (v := ?_) (a' := ?_) #[true, true, false, false, false] rfl rfl (by kernel_rfl) (fun _ _ _ h => h) (Or.inl ⟨by rfl, ?_⟩) hHeld ?_ ?_
    rotate_left
    ·rintro w' ⟨s0, s1⟩
     go_simp
     with_reducible rfl
    rotate_left
    ·simp only [Act.put, List.setIfInBounds_toArray, List.set_cons_zero, List.set_cons_succ, qav, qb3]
     rfl
    refine one_ (i := 2) (N := some 28) #[true, true, true, false, false] rfl rfl (by kernel_rfl) (by decide) (fun K hK => ?_)
    refine qeh Try.func15 (by kernel_rfl) rfl #[.agg #[.slice A0_0 l0_0.length c0_0]] (by rfl) rfl rfl (by (try simp only [List.map_toArray, List.map_cons, List.map_nil]); first | done | rfl | (simp only [List.length_drop, List.length_take]; rfl)) ?_
    with_reducible refine (qa9.calls k _ _ l0_0 t251 _ ?side1 ?side2 A27.out).mono ?_
    (case side1 => repeat (first | exact (Kd.qax HR0_0.out HB.out) | (with_reducible refine Kd.qaz ?_ _) | (with_reducible refine Kd.qaA ?_ _) | (with_reducible refine Kd.qaQ ?_)))
    (case side2 => exact HC0_0.out)
    rintro e w45 ⟨v252, rfl, ho0, hb⟩
    refine ⟨_, rfl, ?_⟩
    have n0_ := Aside0.mk (Kd.qcM (by (with_reducible repeat (first | apply Kd.qbk | apply Kd.qbl | apply Kd.qbw)); exact HO244.out) (Kd.qdH ho0) hb)
    have n1_ := Aside0.mk (Kd.qcM (by (with_reducible repeat (first | apply Kd.qbk | apply Kd.qbl | apply Kd.qbw)); exact HO248.out) (Kd.qdH ho0) hb)
    have n2_ := Aside0.mk (Kd.qcD (Kd.qdI (Kd.qdI ho0 (Kd.S_lt (by (with_reducible repeat (first | apply Kd.qbk | apply Kd.qbl | apply Kd.qbw)); exact HO244.out))) (Kd.S_lt (by (with_reducible repeat (first | apply Kd.qbk | apply Kd.qbl | apply Kd.qbw)); exact HO248.out))) (qak (by repeat (first | (with_reducible first | exact HB.out | apply qab | apply qaa | apply qac | refine qai ?_ GE240.out | refine qai ?_ GE249.out) | exact HB.out))))
    have n3_ := Aside0.mk (qau (g := gb240) (o := .cells #[.slice A0_0 l0_0.length c0_0] 24 (0, 0)) (by (with_reducible repeat (first | refine qao ?_ _ | refine qap ?_ | refine qal ?_ _)); exact BK240.out) hb)
    have n4_ := Aside0.mk (qau (g := gb249) (o := .cells #[.slice Ao40 t246.length co40] 29 (0, 0)) (by (with_reducible repeat (first | refine qao ?_ _ | refine qap ?_ | refine qal ?_ _)); exact BK249.out) hb)
    have n5_ := Aside0.mk (qaj (by repeat (first | (with_reducible first | exact HB.out | apply qab | apply qaa | apply qac | refine qai ?_ GE240.out | refine qai ?_ GE249.out) | exact HB.out)) hb)
    clear HO244
    clear HO248
    clear BK240
    clear BK249
    clear HB
    have HO244 := n0_
    have HO248 := n1_
    have HO253 := n2_
    have BK240 := n3_
    have BK249 := n4_
    have HB := n5_
    clear n0_ n1_ n2_ n3_ n4_ n5_
    (try clear hb)
    (try clear hb2)
    (try clear hk)
    (try clear hi)
    (try clear ho0)
    obtain ⟨Ao46, co46, eo46⟩ := Kd.qcN HO253.out
    (first | subst eo46 | (injection eo46 with f1_ f2_ f3_; have f4_ := f1_.symm; have f5_ := f3_.symm; clear f1_ f2_ f3_; subst f4_; subst f5_))
    refine hK.out _ _ ⟨(qah BK249.out 0).trans rfl, (qah BK240.out 0).trans rfl⟩ (fun hHeld => ?_)
    clear hK K
    refine qft (a' := ?_) ?_ ?_
    rotate_left
    ·show Act.put _ (some 28) _ = _
     simp only [Act.put, List.setIfInBounds_toArray, List.set_cons_zero, List.set_cons_succ, qav, qb3]
     rfl
    refine one_ (i := 3) (N := some 29) #[true, true, true, true, false] rfl rfl (by kernel_rfl) (by decide) (fun K hK => ?_)
    refine qeh Try.func17 (by kernel_rfl) rfl #[.agg #[.slice Ao40 t246.length co40], .agg #[.slice Ao46 t251.length co46]] (by rfl) rfl rfl (by (try simp only [List.map_toArray, List.map_cons, List.map_nil]); first | done | rfl | (simp only [List.length_drop, List.length_take]; rfl)) ?_
    with_reducible refine (qbn.calls k _ _ t246 _ _ t251 true _ ?side1 ?side2 ?side3 ?side4 A28.out).mono ?_
    (case side1 => repeat (first | exact (Kd.qbH HO248.out).2.2 | (with_reducible refine Kd.qaz ?_ _) | (with_reducible refine Kd.qaA ?_ _) | (with_reducible refine Kd.qaQ ?_)))
    (case side2 => exact (Kd.qbH HO248.out).2.1)
    (case side3 => repeat (first | exact (Kd.qbH HO253.out).2.2 | (with_reducible refine Kd.qaz ?_ _) | (with_reducible refine Kd.qaA ?_ _) | (with_reducible refine Kd.qaQ ?_)))
    (case side4 => exact (Kd.qbH HO253.out).2.1)
    rintro e w47 ⟨rfl, hb⟩
    refine ⟨_, rfl, ?_⟩
    have n0_ := Aside0.mk (Kd.qbL (by (with_reducible repeat (first | apply Kd.qbk | apply Kd.qbl | apply Kd.qbw)); exact HO244.out) hb)
    have n1_ := Aside0.mk (Kd.qbL (by (with_reducible repeat (first | apply Kd.qbk | apply Kd.qbl | apply Kd.qbw)); exact HO248.out) hb)
    have n2_ := Aside0.mk (Kd.qbL (by (with_reducible repeat (first | apply Kd.qbk | apply Kd.qbl | apply Kd.qbw)); exact HO253.out) hb)
    have n3_ := Aside0.mk (qau (g := gb240) (o := .cells #[.slice A0_0 l0_0.length c0_0] 24 (0, 0)) (by (with_reducible repeat (first | refine qao ?_ _ | refine qap ?_ | refine qal ?_ _)); exact BK240.out) hb)
    have n4_ := Aside0.mk (qau (g := gb249) (o := .cells #[.slice Ao40 t246.length co40] 29 (0, 0)) (by (with_reducible repeat (first | refine qao ?_ _ | refine qap ?_ | refine qal ?_ _)); exact BK249.out) hb)
    have n5_ := Aside0.mk (qaj (by repeat (first | (with_reducible first | exact HB.out | apply qab | apply qaa | apply qac | refine qai ?_ GE240.out | refine qai ?_ GE249.out) | exact HB.out)) hb)
    clear HO244
    clear HO248
    clear HO253
    clear BK240
    clear BK249
    clear HB
    have HO244 := n0_
    have HO248 := n1_
    have HO253 := n2_
    have BK240 := n3_
    have BK249 := n4_
    have HB := n5_
    clear n0_ n1_ n2_ n3_ n4_ n5_
    (try clear hb)
    (try clear hb2)
    (try clear hk)
    (try clear hi)
    refine hK.out _ _ ⟨(qah BK249.out 0).trans rfl, (qah BK240.out 0).trans rfl⟩ (fun hHeld => ?_)
    clear hK K
    refine qft (a' := ?_) ?_ ?_
    rotate_left
    ·show Act.put _ (some 29) _ = _
     simp only [Act.put, List.setIfInBounds_toArray, List.set_cons_zero, List.set_cons_succ, qav, qb3]
     rfl
    refine qc0 (i := 4) (N := some 30) (v := ?_) (a' := ?_) #[true, true, true, true, true] rfl rfl (by kernel_rfl) (fun _ _ _ h => h) (Or.inl ⟨by rfl, ?_⟩) ?_ ?_
    rotate_left
    ·intro w'
     go_simp
     with_reducible rfl
    rotate_left
    ·simp only [Act.put, List.setIfInBounds_toArray, List.set_cons_zero, List.set_cons_succ, qav, qb3]
     rfl
    refine done_ (by kernel_rfl) ?_
    try go_wp2
    go_ret
    exact ⟨by first | rfl | (simp [qam, qan] <;> rfl) | (simp [*, qam, qan] <;> rfl), by repeat (first | (with_reducible first | exact HB.out | apply qab | apply qaa | apply qac | refine qai ?_ GE240.out | refine qai ?_ GE249.out) | exact HB.out)⟩
   ·replace c29 := Bool.eq_false_iff.mpr c29
    subst c29
    have H1 : (some false) = some r := by rw [if_neg (show ¬ (false = true) by decide)] at H; exact H
    clear H
    have H := H1
    clear H1
    obtain rfl := Option.some.inj H
    go_enter Try.func3, Try.ntmps3
    try go_wp2_with (first | ((with_reducible refine qaI (N := 2) rfl ?_); refine qaG ?hg (N := 2) ?hd (cs := #[.slice A0_0 l0_0.length c0_0]) (t := 24) ?hr ?_; (case hd => rfl); (case hg => rfl); (case hr => first | (go_simp; done) | (go_simp; rfl)); intro gb240 hg w48 hbox hb; have n0_ := Aside0.mk (qaj (by repeat (first | (with_reducible first | exact HB.out | apply qab | apply qaa | apply qac) | exact HB.out)) hb); have n1_ := Aside0.mk (hbox); have n2_ := Aside0.mk ((by rw [hg]; exact (qak (by repeat (first | (with_reducible first | exact HB.out | apply qab | apply qaa | apply qac) | exact HB.out))) : w.heap.size ≤ gb240)); have n3_ := Aside0.mk ((by rw [hg]; exact (qak (by repeat (first | (with_reducible first | exact HB.out | apply qab | apply qaa | apply qac) | exact HB.out))) : w.heap.size ≤ gb240)); clear HB; have HB := n0_; have BK240 := n1_; have GW240 := n2_; have GE240 := n3_; clear n0_ n1_ n2_ n3_; clear hb hbox hg; have hcz49_0 : w48.cell? ⟨gb240, 0, none⟩ = some (.slice A0_0 l0_0.length c0_0) := (qah BK240.out 0).trans rfl; have hfz49_0 := qad BK240.out 0) | ((with_reducible refine qaq (f := 13) rfl ?_); refine qa0 (some 11) rfl rfl Try.func13 (by kernel_rfl) rfl #[.agg #[.slice A0_0 l0_0.length c0_0], .int .i64 1048576] rfl (by (try simp only [List.map_toArray, List.map_cons, List.map_nil]); first | done | rfl | (simp only [List.length_drop, List.length_take]; rfl)) ?_; (with_reducible refine (qbx.calls k _ _ l0_0 1048576 t241 _ ?side1 ?side2 A3.out).mono ?_); (case side1 => repeat (first | exact (Kd.qax HR0_0.out HB.out) | (with_reducible refine Kd.qaz ?_ _) | (with_reducible refine Kd.qaA ?_ _) | (with_reducible refine Kd.qaQ ?_))); (case side2 => exact HC0_0.out); rintro e w50 ⟨rfl, hb⟩; refine ⟨_, rfl, ?_⟩; have n0_ := Aside0.mk (qau (g := gb240) (o := .cells #[.slice A0_0 l0_0.length c0_0] 24 (0, 0)) (by (with_reducible repeat (first | refine qao ?_ _ | refine qap ?_ | refine qal ?_ _)); exact BK240.out) hb); have n1_ := Aside0.mk (qaj (by repeat (first | (with_reducible first | exact HB.out | apply qab | apply qaa | apply qac | refine qai ?_ GE240.out) | exact HB.out)) hb); clear BK240; clear HB; have BK240 := n0_; have HB := n1_; clear n0_ n1_; (try clear hb); (try clear hb2); (try clear hk); (try clear hi); have hcz51_0 : w50.cell? ⟨gb240, 0, none⟩ = some (.slice A0_0 l0_0.length c0_0) := (qah BK240.out 0).trans rfl; have hfz51_0 := qad BK240.out 0) | ((with_reducible refine qaq (f := 15) rfl ?_); refine qa0 (some 15) rfl rfl Try.func15 (by kernel_rfl) rfl #[.agg #[.slice A0_0 l0_0.length c0_0]] rfl (by (try simp only [List.map_toArray, List.map_cons, List.map_nil]); first | done | rfl | (simp only [List.length_drop, List.length_take]; rfl)) ?_; (with_reducible refine (qa9.calls k _ _ l0_0 t242 _ ?side1 ?side2 A8.out).mono ?_); (case side1 => repeat (first | exact (Kd.qax HR0_0.out HB.out) | (with_reducible refine Kd.qaz ?_ _) | (with_reducible refine Kd.qaA ?_ _) | (with_reducible refine Kd.qaQ ?_))); (case side2 => exact HC0_0.out); rintro e w52 ⟨v243, rfl, ho0, hb⟩; refine ⟨_, rfl, ?_⟩; have n0_ := Aside0.mk (Kd.qcD ho0 (qak (by repeat (first | (with_reducible first | exact HB.out | apply qab | apply qaa | apply qac | refine qai ?_ GE240.out) | exact HB.out)))); have n1_ := Aside0.mk (qau (g := gb240) (o := .cells #[.slice A0_0 l0_0.length c0_0] 24 (0, 0)) (by (with_reducible repeat (first | refine qao ?_ _ | refine qap ?_ | refine qal ?_ _)); exact BK240.out) hb); have n2_ := Aside0.mk (qaj (by repeat (first | (with_reducible first | exact HB.out | apply qab | apply qaa | apply qac | refine qai ?_ GE240.out) | exact HB.out)) hb); clear BK240; clear HB; have HO244 := n0_; have BK240 := n1_; have HB := n2_; clear n0_ n1_ n2_; (try clear hb); (try clear hb2); (try clear hk); (try clear hi); (try clear ho0); obtain ⟨Ao53, co53, eo53⟩ := Kd.qcN HO244.out; subst eo53) | ((with_reducible refine qaq (f := 14) rfl ?_); refine qa0 (some 17) rfl rfl Try.func14 (by kernel_rfl) rfl #[.agg #[.slice Ao53 t242.length co53], .int .i64 a1] rfl (by (try simp only [List.map_toArray, List.map_cons, List.map_nil]); first | done | rfl | (simp only [List.length_drop, List.length_take]; rfl)) ?_; (with_reducible refine (qbP.calls _ _ t242 a1 t245 _ ?side1 ?side2 A9.out).mono ?_); (case side1 => repeat (first | exact (Kd.qbH HO244.out).2.2 | (with_reducible refine Kd.qaz ?_ _) | (with_reducible refine Kd.qaA ?_ _) | (with_reducible refine Kd.qaQ ?_))); (case side2 => exact (Kd.qbH HO244.out).2.1); rintro e w54 ⟨rfl, hb⟩; refine ⟨_, rfl, ?_⟩; have n0_ := Aside0.mk (Kd.qbL (by (with_reducible repeat (first | apply Kd.qbk | apply Kd.qbl | apply Kd.qbw)); exact HO244.out) hb); have n1_ := Aside0.mk (qau (g := gb240) (o := .cells #[.slice A0_0 l0_0.length c0_0] 24 (0, 0)) (by (with_reducible repeat (first | refine qao ?_ _ | refine qap ?_ | refine qal ?_ _)); exact BK240.out) hb); have n2_ := Aside0.mk (qaj (by repeat (first | (with_reducible first | exact HB.out | apply qab | apply qaa | apply qac | refine qai ?_ GE240.out) | exact HB.out)) hb); clear HO244; clear BK240; clear HB; have HO244 := n0_; have BK240 := n1_; have HB := n2_; clear n0_ n1_ n2_; (try clear hb); (try clear hb2); (try clear hk); (try clear hi); have hcz55_0 : w54.cell? ⟨gb240, 0, none⟩ = some (.slice A0_0 l0_0.length c0_0) := (qah BK240.out 0).trans rfl; have hfz55_0 := qad BK240.out 0) | ((with_reducible refine qaq (f := 15) rfl ?_); refine qa0 (some 19) rfl rfl Try.func15 (by kernel_rfl) rfl #[.agg #[.slice A0_0 l0_0.length c0_0]] rfl (by (try simp only [List.map_toArray, List.map_cons, List.map_nil]); first | done | rfl | (simp only [List.length_drop, List.length_take]; rfl)) ?_; (with_reducible refine (qa9.calls k _ _ l0_0 t246 _ ?side1 ?side2 A10.out).mono ?_); (case side1 => repeat (first | exact (Kd.qax HR0_0.out HB.out) | (with_reducible refine Kd.qaz ?_ _) | (with_reducible refine Kd.qaA ?_ _) | (with_reducible refine Kd.qaQ ?_))); (case side2 => exact HC0_0.out); rintro e w56 ⟨v247, rfl, ho0, hb⟩; refine ⟨_, rfl, ?_⟩; have n0_ := Aside0.mk (Kd.qcM (by (with_reducible repeat (first | apply Kd.qbk | apply Kd.qbl | apply Kd.qbw)); exact HO244.out) (Kd.qdH ho0) hb); have n1_ := Aside0.mk (Kd.qcD (Kd.qdI ho0 (Kd.S_lt (by (with_reducible repeat (first | apply Kd.qbk | apply Kd.qbl | apply Kd.qbw)); exact HO244.out))) (qak (by repeat (first | (with_reducible first | exact HB.out | apply qab | apply qaa | apply qac | refine qai ?_ GE240.out) | exact HB.out)))); have n2_ := Aside0.mk (qau (g := gb240) (o := .cells #[.slice A0_0 l0_0.length c0_0] 24 (0, 0)) (by (with_reducible repeat (first | refine qao ?_ _ | refine qap ?_ | refine qal ?_ _)); exact BK240.out) hb); have n3_ := Aside0.mk (qaj (by repeat (first | (with_reducible first | exact HB.out | apply qab | apply qaa | apply qac | refine qai ?_ GE240.out) | exact HB.out)) hb); clear HO244; clear BK240; clear HB; have HO244 := n0_; have HO248 := n1_; have BK240 := n2_; have HB := n3_; clear n0_ n1_ n2_ n3_; (try clear hb); (try clear hb2); (try clear hk); (try clear hi); (try clear ho0)) | ((with_reducible refine qaI (N := 7) rfl ?_); refine qaG ?hg (N := 7) ?hd (cs := #[.slice none 0 0]) (t := 29) ?hr ?_; (case hd => rfl); (case hg => rfl); (case hr => first | (go_simp; done) | (go_simp; rfl)); intro gb249 hg w57 hbox hb; have n0_ := Aside0.mk (Kd.qbL (by (with_reducible repeat (first | apply Kd.qbk | apply Kd.qbl | apply Kd.qbw)); exact HO244.out) hb); have n1_ := Aside0.mk (Kd.qbL (by (with_reducible repeat (first | apply Kd.qbk | apply Kd.qbl | apply Kd.qbw)); exact HO248.out) hb); have n2_ := Aside0.mk (qau (g := gb240) (o := .cells #[.slice A0_0 l0_0.length c0_0] 24 (0, 0)) (by (with_reducible repeat (first | refine qao ?_ _ | refine qap ?_ | refine qal ?_ _)); exact BK240.out) hb); have n3_ := Aside0.mk (qaj (by repeat (first | (with_reducible first | exact HB.out | apply qab | apply qaa | apply qac | refine qai ?_ GE240.out) | exact HB.out)) hb); have n4_ := Aside0.mk (hbox); have n5_ := Aside0.mk ((by rw [hg]; exact (qak (by repeat (first | (with_reducible first | exact HB.out | apply qab | apply qaa | apply qac | refine qai ?_ GE240.out) | exact HB.out))) : w.heap.size ≤ gb249)); have n6_ := Aside0.mk ((by rw [hg]; exact (qak (by repeat (first | (with_reducible first | exact HB.out | apply qab | apply qaa | apply qac | refine qai ?_ GE240.out) | exact HB.out))) : w.heap.size ≤ gb249)); have n7_ := Aside0.mk ((by rw [hg]; exact Nat.ne_of_lt (qbj (g := gb240) (o := .cells #[.slice A0_0 l0_0.length c0_0] 24 (0, 0)) (by (with_reducible repeat (first | refine qao ?_ _ | refine qap ?_ | refine qal ?_ _)); exact BK240.out)) : gb240 ≠ gb249)); have n8_ := Aside0.mk ((by rw [hg]; exact Nat.ne_of_gt (qbj (g := gb240) (o := .cells #[.slice A0_0 l0_0.length c0_0] 24 (0, 0)) (by (with_reducible repeat (first | refine qao ?_ _ | refine qap ?_ | refine qal ?_ _)); exact BK240.out)) : gb249 ≠ gb240)); clear HO244; clear HO248; clear BK240; clear HB; have HO244 := n0_; have HO248 := n1_; have BK240 := n2_; have HB := n3_; have BK249 := n4_; have GW249 := n5_; have GE249 := n6_; have NB240_249 := n7_; have NB249_240 := n8_; clear n0_ n1_ n2_ n3_ n4_ n5_ n6_ n7_ n8_; clear hb hbox hg; obtain ⟨Ao58, co58, eo58⟩ := Kd.qcN HO248.out; subst eo58; have hnb59 := NB249_240.out; have hnc59 := NB240_249.out; have hcz60_0 : w57.cell? ⟨gb249, 0, none⟩ = some (.slice none 0 0) := (qah BK249.out 0).trans rfl; have hfz60_0 := qad BK249.out 0) | ((with_reducible refine qaq (f := 16) rfl ?_); refine qa0 (some 22) rfl rfl Try.func16 (by kernel_rfl) rfl #[.agg #[.slice Ao58 t246.length co58], .int .i64 a1] rfl (by (try simp only [List.map_toArray, List.map_cons, List.map_nil]); first | done | rfl | (simp only [List.length_drop, List.length_take]; rfl)) ?_; (with_reducible refine (qbs.calls _ _ t246 a1 t250 _ ?side1 ?side2 A11.out).mono ?_); (case side1 => refine (Kd.qbH (e := 56) (base := w.heap.size) (ok := fun k_ => (True ∧ some k_ ≠ (.slice Ao53 t242.length co53 : Value).ownBlock)) (n := t246.length) (c := co58) ?_).2.2; exact (by (with_reducible repeat (first | apply Kd.qbk | apply Kd.qbl | apply Kd.qbw)); exact (Kd.qcp (Kd.qdG (p := ⟨gb249, 0, none⟩) (Kd.qcu HO248.out BK249.out (by decide)) (fun _ hk => hk.2) (.slice Ao58 t246.length co58)) (fun _ h_ => h_.1)))); (case side2 => exact (Kd.qbH HO248.out).2.1); rintro e w61 ⟨rfl, hb⟩; refine ⟨_, rfl, ?_⟩; have n0_ := Aside0.mk (Kd.qbL (by (with_reducible repeat (first | apply Kd.qbk | apply Kd.qbl | apply Kd.qbw)); exact (Kd.qcp (Kd.qdG (p := ⟨gb249, 0, none⟩) (Kd.qcu HO244.out BK249.out (by decide)) (fun _ hk => hk.2) (.slice Ao58 t246.length co58)) (fun _ h_ => h_.1))) hb); have n1_ := Aside0.mk (Kd.qbL (by (with_reducible repeat (first | apply Kd.qbk | apply Kd.qbl | apply Kd.qbw)); exact (Kd.qcp (Kd.qdG (p := ⟨gb249, 0, none⟩) (Kd.qcu HO248.out BK249.out (by decide)) (fun _ hk => hk.2) (.slice Ao58 t246.length co58)) (fun _ h_ => h_.1))) hb); have n2_ := Aside0.mk (qau (g := gb240) (o := .cells #[.slice A0_0 l0_0.length c0_0] 24 (0, 0)) (by (with_reducible repeat (first | refine qao ?_ _ | refine qap ?_ | refine qal ?_ _)); refine qbU ?_ NB240_249.out _; (with_reducible repeat (first | refine qao ?_ _ | refine qap ?_ | refine qal ?_ _)); exact BK240.out) hb); have n3_ := Aside0.mk (qau (g := gb249) (o := .cells #[.slice Ao58 t246.length co58] 29 (0, 0)) (by (with_reducible repeat (first | refine qao ?_ _ | refine qap ?_ | refine qal ?_ _)); refine qbR (cs := #[.slice none 0 0]) ?_ 0 _ rfl; (with_reducible repeat (first | refine qao ?_ _ | refine qap ?_ | refine qal ?_ _)); exact BK249.out) hb); have n4_ := Aside0.mk (qaj (by repeat (first | (with_reducible first | exact HB.out | apply qab | apply qaa | apply qac | refine qai ?_ GE240.out | refine qai ?_ GE249.out) | exact HB.out)) hb); clear HO244; clear HO248; clear BK240; clear BK249; clear HB; have HO244 := n0_; have HO248 := n1_; have BK240 := n2_; have BK249 := n3_; have HB := n4_; clear n0_ n1_ n2_ n3_ n4_; (try clear hb); (try clear hb2); (try clear hk); (try clear hi)))
    have n0_ := Aside0.mk (Kd.qbw HO244.out)
    have n1_ := Aside0.mk (Kd.qbw HO248.out)
    have n2_ := Aside0.mk (qap BK240.out)
    have n3_ := Aside0.mk (qap BK249.out)
    have n4_ := Aside0.mk (qac HB.out)
    clear HO244
    clear HO248
    clear BK240
    clear BK249
    clear HB
    have HO244 := n0_
    have HO248 := n1_
    have BK240 := n2_
    have BK249 := n3_
    have HB := n4_
    clear n0_ n1_ n2_ n3_ n4_
    refine qce (n := 5) (S := fun w' => w'.cell? ⟨gb249, 0, none⟩ = some (.slice Ao58 t246.length co58) ∧ w'.cell? ⟨gb240, 0, none⟩ = some (.slice A0_0 l0_0.length c0_0)) (ds := []) #[false, false, false, false, false] (by kernel_rfl) rfl rfl ⟨(qah BK249.out 0).trans rfl, (qah BK240.out 0).trans rfl⟩ (fun hHeld => ?_)
    generalize w61.drew = w62 at HO244 HO248 BK240 BK249 HB hHeld ⊢
    refine qdX (i := 0) (N := some 26) (v := ?_) (a' := ?_) #[true, false, false, false, false] rfl rfl (by kernel_rfl) (fun _ _ _ h => h) (Or.inl ⟨by rfl, ?_⟩) hHeld ?_ ?_
    rotate_left
    ·rintro w' ⟨s0, s1⟩
     go_simp
     with_reducible rfl
    rotate_left
    ·simp only [Act.put, List.setIfInBounds_toArray, List.set_cons_zero, List.set_cons_succ, qav, qb3]
     rfl
    refine qdX (i := 1) (N := some 27) (v := ?_) (a' := ?_) #[true, true, false, false, false] rfl rfl (by kernel_rfl) (fun _ _ _ h => h) (Or.inl ⟨by rfl, ?_⟩) hHeld ?_ ?_
    rotate_left
    ·rintro w' ⟨s0, s1⟩
     go_simp
     with_reducible rfl
    rotate_left
    ·simp only [Act.put, List.setIfInBounds_toArray, List.set_cons_zero, List.set_cons_succ, qav, qb3]
     rfl
    refine one_ (i := 2) (N := some 28) #[true, true, true, false, false] rfl rfl (by kernel_rfl) (by decide) (fun K hK => ?_)
    refine qeh Try.func15 (by kernel_rfl) rfl #[.agg #[.slice A0_0 l0_0.length c0_0]] (by rfl) rfl rfl (by (try simp only [List.map_toArray, List.map_cons, List.map_nil]); first | done | rfl | (simp only [List.length_drop, List.length_take]; rfl)) ?_
    with_reducible refine (qa9.calls k _ _ l0_0 t251 _ ?side1 ?side2 A27.out).mono ?_
    (case side1 => repeat (first | exact (Kd.qax HR0_0.out HB.out) | (with_reducible refine Kd.qaz ?_ _) | (with_reducible refine Kd.qaA ?_ _) | (with_reducible refine Kd.qaQ ?_)))
    (case side2 => exact HC0_0.out)
    rintro e w63 ⟨v252, rfl, ho0, hb⟩
    refine ⟨_, rfl, ?_⟩
    have n0_ := Aside0.mk (Kd.qcM (by (with_reducible repeat (first | apply Kd.qbk | apply Kd.qbl | apply Kd.qbw)); exact HO244.out) (Kd.qdH ho0) hb)
    have n1_ := Aside0.mk (Kd.qcM (by (with_reducible repeat (first | apply Kd.qbk | apply Kd.qbl | apply Kd.qbw)); exact HO248.out) (Kd.qdH ho0) hb)
    have n2_ := Aside0.mk (Kd.qcD (Kd.qdI (Kd.qdI ho0 (Kd.S_lt (by (with_reducible repeat (first | apply Kd.qbk | apply Kd.qbl | apply Kd.qbw)); exact HO244.out))) (Kd.S_lt (by (with_reducible repeat (first | apply Kd.qbk | apply Kd.qbl | apply Kd.qbw)); exact HO248.out))) (qak (by repeat (first | (with_reducible first | exact HB.out | apply qab | apply qaa | apply qac | refine qai ?_ GE240.out | refine qai ?_ GE249.out) | exact HB.out))))
    have n3_ := Aside0.mk (qau (g := gb240) (o := .cells #[.slice A0_0 l0_0.length c0_0] 24 (0, 0)) (by (with_reducible repeat (first | refine qao ?_ _ | refine qap ?_ | refine qal ?_ _)); exact BK240.out) hb)
    have n4_ := Aside0.mk (qau (g := gb249) (o := .cells #[.slice Ao58 t246.length co58] 29 (0, 0)) (by (with_reducible repeat (first | refine qao ?_ _ | refine qap ?_ | refine qal ?_ _)); exact BK249.out) hb)
    have n5_ := Aside0.mk (qaj (by repeat (first | (with_reducible first | exact HB.out | apply qab | apply qaa | apply qac | refine qai ?_ GE240.out | refine qai ?_ GE249.out) | exact HB.out)) hb)
    clear HO244
    clear HO248
    clear BK240
    clear BK249
    clear HB
    have HO244 := n0_
    have HO248 := n1_
    have HO253 := n2_
    have BK240 := n3_
    have BK249 := n4_
    have HB := n5_
    clear n0_ n1_ n2_ n3_ n4_ n5_
    (try clear hb)
    (try clear hb2)
    (try clear hk)
    (try clear hi)
    (try clear ho0)
    obtain ⟨Ao64, co64, eo64⟩ := Kd.qcN HO253.out
    (first | subst eo64 | (injection eo64 with f1_ f2_ f3_; have f4_ := f1_.symm; have f5_ := f3_.symm; clear f1_ f2_ f3_; subst f4_; subst f5_))
    refine hK.out _ _ ⟨(qah BK249.out 0).trans rfl, (qah BK240.out 0).trans rfl⟩ (fun hHeld => ?_)
    clear hK K
    refine qft (a' := ?_) ?_ ?_
    rotate_left
    ·show Act.put _ (some 28) _ = _
     simp only [Act.put, List.setIfInBounds_toArray, List.set_cons_zero, List.set_cons_succ, qav, qb3]
     rfl
    refine one_ (i := 3) (N := some 29) #[true, true, true, true, false] rfl rfl (by kernel_rfl) (by decide) (fun K hK => ?_)
    refine qeh Try.func17 (by kernel_rfl) rfl #[.agg #[.slice Ao58 t246.length co58], .agg #[.slice Ao64 t251.length co64]] (by rfl) rfl rfl (by (try simp only [List.map_toArray, List.map_cons, List.map_nil]); first | done | rfl | (simp only [List.length_drop, List.length_take]; rfl)) ?_
    with_reducible refine (qbn.calls k _ _ t246 _ _ t251 false _ ?side1 ?side2 ?side3 ?side4 A28.out).mono ?_
    (case side1 => repeat (first | exact (Kd.qbH HO248.out).2.2 | (with_reducible refine Kd.qaz ?_ _) | (with_reducible refine Kd.qaA ?_ _) | (with_reducible refine Kd.qaQ ?_)))
    (case side2 => exact (Kd.qbH HO248.out).2.1)
    (case side3 => repeat (first | exact (Kd.qbH HO253.out).2.2 | (with_reducible refine Kd.qaz ?_ _) | (with_reducible refine Kd.qaA ?_ _) | (with_reducible refine Kd.qaQ ?_)))
    (case side4 => exact (Kd.qbH HO253.out).2.1)
    rintro e w65 ⟨rfl, hb⟩
    refine ⟨_, rfl, ?_⟩
    have n0_ := Aside0.mk (Kd.qbL (by (with_reducible repeat (first | apply Kd.qbk | apply Kd.qbl | apply Kd.qbw)); exact HO244.out) hb)
    have n1_ := Aside0.mk (Kd.qbL (by (with_reducible repeat (first | apply Kd.qbk | apply Kd.qbl | apply Kd.qbw)); exact HO248.out) hb)
    have n2_ := Aside0.mk (Kd.qbL (by (with_reducible repeat (first | apply Kd.qbk | apply Kd.qbl | apply Kd.qbw)); exact HO253.out) hb)
    have n3_ := Aside0.mk (qau (g := gb240) (o := .cells #[.slice A0_0 l0_0.length c0_0] 24 (0, 0)) (by (with_reducible repeat (first | refine qao ?_ _ | refine qap ?_ | refine qal ?_ _)); exact BK240.out) hb)
    have n4_ := Aside0.mk (qau (g := gb249) (o := .cells #[.slice Ao58 t246.length co58] 29 (0, 0)) (by (with_reducible repeat (first | refine qao ?_ _ | refine qap ?_ | refine qal ?_ _)); exact BK249.out) hb)
    have n5_ := Aside0.mk (qaj (by repeat (first | (with_reducible first | exact HB.out | apply qab | apply qaa | apply qac | refine qai ?_ GE240.out | refine qai ?_ GE249.out) | exact HB.out)) hb)
    clear HO244
    clear HO248
    clear HO253
    clear BK240
    clear BK249
    clear HB
    have HO244 := n0_
    have HO248 := n1_
    have HO253 := n2_
    have BK240 := n3_
    have BK249 := n4_
    have HB := n5_
    clear n0_ n1_ n2_ n3_ n4_ n5_
    (try clear hb)
    (try clear hb2)
    (try clear hk)
    (try clear hi)
    refine hK.out _ _ ⟨(qah BK249.out 0).trans rfl, (qah BK240.out 0).trans rfl⟩ (fun hHeld => ?_)
    clear hK K
    refine qft (a' := ?_) ?_ ?_
    rotate_left
    ·show Act.put _ (some 29) _ = _
     simp only [Act.put, List.setIfInBounds_toArray, List.set_cons_zero, List.set_cons_succ, qav, qb3]
     rfl
    refine qc0 (i := 4) (N := some 30) (v := ?_) (a' := ?_) #[true, true, true, true, true] rfl rfl (by kernel_rfl) (fun _ _ _ h => h) (Or.inl ⟨by rfl, ?_⟩) ?_ ?_
    rotate_left
    ·intro w'
     go_simp
     with_reducible rfl
    rotate_left
    ·simp only [Act.put, List.setIfInBounds_toArray, List.set_cons_zero, List.set_cons_succ, qav, qb3]
     rfl
    refine done_ (by kernel_rfl) ?_
    try go_wp2
    go_ret
    exact ⟨by first | rfl | (simp [qam, qan] <;> rfl) | (simp [*, qam, qan] <;> rfl), by repeat (first | (with_reducible first | exact HB.out | apply qab | apply qaa | apply qac | refine qai ?_ GE240.out | refine qai ?_ GE249.out) | exact HB.out)⟩
end Go.Proofs.Ytenfomejccfkgaa.X
