import Derived.Test.YtenfomejccfkgaaKFnExactTreeGet4
import Derived.Test.YtenfomejccfkgaaKFnExactTreeGet7
import Derived.Test.YtenfomejccfkgaaKFnExactTreeGet10
import Derived.Test.YtenfomejccfkgaaKFnExactTreeGet21
import Derived.Test.YtenfomejccfkgaaKFnExactTreeGet23
import Derived.Test.YtenfomejccfkgaaKFnExactTreeGet25
namespace Go.Proofs.Ytenfomejccfkgaa.X
open Go.RowKit Go.Proofs.YtenfomejccfkgaaW.PrintWords Go.Proofs.YtenfomejccfkgaaW.PrintLast Go.Proofs.YtenfomejccfkgaaW.PrintMore
attribute [local go_sem] qaN qaO qaP qaJ qaK qaZ qa0 qaE qaF qaL qaM
set_option linter.unusedVariables false
set_option linter.unusedSimpArgs false
def qav.j0 : Nat → Bool → List (S50) → List (S56) → Option (Bool)
 | 0, _, _, _ => none
 | k + 1, x45, x316000, x326000 => if x45 = true then (some false) else ((qbd.f k x316000).bind fun t328 => ((qbv.f k x326000 t328).bind fun t331 => (if t331 = true then (some true) else (some false))))
def qav.f (k : Nat) (l0_0 : List (S50)) (a1 : Int) (a2 : ByteArray) : Option (Bool) := if (a2.size : Int) > 1048576 then (some true) else ((qbw.f k l0_0 1048576).bind fun t316 => (if t316 < 0 then (some true) else ((qbd.f k l0_0).bind fun t317 => ((qbp.f k t317 a1 a2).bind fun bt320 => ((qbd.f k l0_0).bind fun t322 => ((qbj.f k t322 a1 a2).bind fun bt326 => (if bt326.1.toList = bt320.1.toList then (qav.j0 k (bt326.2 != bt320.2) l0_0 t322) else (qav.j0 k true l0_0 t322))))))))
theorem qav.qbo : ∀ k, (∀ y0 y1 y2, LeO (qav.j0 k y0 y1 y2) (qav.j0 (k + 1) y0 y1 y2))
 | 0 => fun _ _ _ r h => by simp [qav.j0] at h
 | k + 1 => by
  have ih0 := qav.qbo k
  ·intro y0 y1 y2
   unfold qav.j0
   repeat' first
   | (with_reducible exact ih0 _ _ _)
   | (with_reducible exact qbj.mono _ _ _ _)
   | (with_reducible exact qbv.mono _ _ _)
   | (with_reducible exact qbw.mono _ _ _)
   | (with_reducible exact qbd.mono _ _)
   | (with_reducible exact qbp.mono _ _ _ _)
   | (with_reducible exact LeO.refl _)
   | (with_reducible exact LeO.none _)
   | (with_reducible refine LeO.ite ?_ ?_)
   | (with_reducible refine LeO.bind ?_ (fun _ => ?_))
   | exact ih0 _ _ _
   | exact qbj.mono _ _ _ _
   | exact qbv.mono _ _ _
   | exact qbw.mono _ _ _
   | exact qbd.mono _ _
   | exact qbp.mono _ _ _ _
   | exact LeO.none _
   | refine LeO.ite ?_ ?_
   | refine LeO.bind ?_ (fun _ => ?_)
theorem qav.mono : ∀ a0 a1 a2 k, LeO (qav.f k a0 a1 a2) (qav.f (k + 1) a0 a1 a2) := by
 intro a0 a1 a2 k
 have ih0 := qav.qbo k
 unfold qav.f
 repeat' first
   | (with_reducible exact ih0 _ _ _)
   | (with_reducible exact qbj.mono _ _ _ _)
   | (with_reducible exact qbv.mono _ _ _)
   | (with_reducible exact qbw.mono _ _ _)
   | (with_reducible exact qbd.mono _ _)
   | (with_reducible exact qbp.mono _ _ _ _)
   | (with_reducible exact LeO.refl _)
   | (with_reducible exact LeO.none _)
   | (with_reducible refine LeO.ite ?_ ?_)
   | (with_reducible refine LeO.bind ?_ (fun _ => ?_))
   | exact ih0 _ _ _
   | exact qbj.mono _ _ _ _
   | exact qbv.mono _ _ _
   | exact qbw.mono _ _ _
   | exact qbd.mono _ _
   | exact qbp.mono _ _ _ _
   | exact LeO.none _
   | refine LeO.ite ?_ ?_
   | refine LeO.bind ?_ (fun _ => ?_)
set_option maxHeartbeats 8000000 in
set_option maxRecDepth 100000 in
theorem qav.calls (k : Nat) (A0_0 : Option Addr) (c0_0 : Nat) (l0_0 : List (S50)) (a1 : Int) (a2 : ByteArray) (r : Bool) (w : World) (hr0_0 : Kd.C k50 w A0_0 l0_0.length l0_0) (hc0_0 : l0_0.length ≤ c0_0) (h : qav.f k l0_0 a1 a2 = some r) :
  Calls Try.prog 5 #[.agg #[.slice A0_0 l0_0.length c0_0], .int .i64 a1, .string a2] w fun e w' => e = .returned (.bool r) ∧ Below w.heap.size w w' := by
 have hu24 := Try.underlying24
 have hu29 := Try.underlying29
 have HR0_0 := Aside0.mk hr0_0
 have HC0_0 := Aside0.mk hc0_0
 clear hr0_0 hc0_0
 have HB := Aside0.mk (Below.refl w.heap.size w)
 have H : (if (a2.size : Int) > 1048576 then (some true) else ((qbw.f k l0_0 1048576).bind fun t316 => (if t316 < 0 then (some true) else ((qbd.f k l0_0).bind fun t317 => ((qbp.f k t317 a1 a2).bind fun bt320 => ((qbd.f k l0_0).bind fun t322 => ((qbj.f k t322 a1 a2).bind fun bt326 => (if bt326.1.toList = bt320.1.toList then (qav.j0 k (bt326.2 != bt320.2) l0_0 t322) else (qav.j0 k true l0_0 t322))))))))) = some r := h
 clear h
 by_cases c4 : (a2.size : Int) > 1048576
 ·rw [if_pos c4] at H
  have c4b0 : decide (1048576 < (a2.size : Int)) = true := decide_eq_true c4
  have c4b1 : decide (1048576 < a2.size) = true := decide_eq_true (by omega)
  clear c4
  obtain rfl := Option.some.inj H
  go_enter Try.func5, Try.ntmps5
  go_wp2_with (first | ((with_reducible refine qaQ (N := 3) rfl ?_); refine qaI ?hg (N := 3) ?hd (cs := #[.slice A0_0 l0_0.length c0_0]) (t := 24) ?hr ?_; (case hd => rfl); (case hg => rfl); (case hr => first | (go_simp; done) | (go_simp; rfl)); intro gb315 hg w5 hbox hb; have n0_ := Aside0.mk (qaj (by repeat (first | (with_reducible first | exact HB.out | apply qab | apply qaa | apply qac) | exact HB.out)) hb); have n1_ := Aside0.mk (hbox); have n2_ := Aside0.mk ((by rw [hg]; exact (qak (by repeat (first | (with_reducible first | exact HB.out | apply qab | apply qaa | apply qac) | exact HB.out))) : w.heap.size ≤ gb315)); have n3_ := Aside0.mk ((by rw [hg]; exact (qak (by repeat (first | (with_reducible first | exact HB.out | apply qab | apply qaa | apply qac) | exact HB.out))) : w.heap.size ≤ gb315)); clear HB; have HB := n0_; have BK315 := n1_; have GW315 := n2_; have GE315 := n3_; clear n0_ n1_ n2_ n3_; clear hb hbox hg))
  go_ret
  exact ⟨by first | rfl | (simp [qal, qam] <;> rfl) | (simp [*, qal, qam] <;> rfl), by repeat (first | (with_reducible first | exact HB.out | apply qab | apply qaa | apply qac | refine qai ?_ GE315.out) | exact HB.out)⟩
 ·rw [if_neg c4] at H
  have c4b0 : decide (1048576 < (a2.size : Int)) = false := decide_eq_false c4
  have c4b1 : decide (1048576 < a2.size) = false := decide_eq_false (by omega)
  clear c4
  replace H := Option.bind_eq_some_iff.mp H
  obtain ⟨t316, A60, H⟩ := H
  replace H : (if t316 < 0 then (some true) else ((qbd.f k l0_0).bind fun t317 => ((qbp.f k t317 a1 a2).bind fun bt320 => ((qbd.f k l0_0).bind fun t322 => ((qbj.f k t322 a1 a2).bind fun bt326 => (if bt326.1.toList = bt320.1.toList then (qav.j0 k (bt326.2 != bt320.2) l0_0 t322) else (qav.j0 k true l0_0 t322))))))) = some r := H
  have A6 := Aside0.mk A60
  clear A60
  by_cases c7 : t316 < 0
  ·rw [if_pos c7] at H
   have c7b0 : decide (t316 < 0) = true := decide_eq_true c7
   clear c7
   obtain rfl := Option.some.inj H
   go_enter Try.func5, Try.ntmps5
   go_wp2_with (first | ((with_reducible refine qaQ (N := 3) rfl ?_); refine qaI ?hg (N := 3) ?hd (cs := #[.slice A0_0 l0_0.length c0_0]) (t := 24) ?hr ?_; (case hd => rfl); (case hg => rfl); (case hr => first | (go_simp; done) | (go_simp; rfl)); intro gb315 hg w8 hbox hb; have n0_ := Aside0.mk (qaj (by repeat (first | (with_reducible first | exact HB.out | apply qab | apply qaa | apply qac) | exact HB.out)) hb); have n1_ := Aside0.mk (hbox); have n2_ := Aside0.mk ((by rw [hg]; exact (qak (by repeat (first | (with_reducible first | exact HB.out | apply qab | apply qaa | apply qac) | exact HB.out))) : w.heap.size ≤ gb315)); have n3_ := Aside0.mk ((by rw [hg]; exact (qak (by repeat (first | (with_reducible first | exact HB.out | apply qab | apply qaa | apply qac) | exact HB.out))) : w.heap.size ≤ gb315)); clear HB; have HB := n0_; have BK315 := n1_; have GW315 := n2_; have GE315 := n3_; clear n0_ n1_ n2_ n3_; clear hb hbox hg; have hcz9_0 : w8.cell? ⟨gb315, 0, none⟩ = some (.slice A0_0 l0_0.length c0_0) := (qah BK315.out 0).trans rfl; have hfz9_0 := qad BK315.out 0) | ((with_reducible refine qas (f := 13) rfl ?_); refine qa5 (some 18) rfl rfl Try.func13 (by kernel_rfl) rfl #[.agg #[.slice A0_0 l0_0.length c0_0], .int .i64 1048576] rfl (by (try simp only [List.map_toArray, List.map_cons, List.map_nil]); first | done | rfl | (simp only [List.length_drop, List.length_take]; rfl)) ?_; (with_reducible refine (qbw.calls k _ _ l0_0 1048576 t316 _ ?side1 ?side2 A6.out).mono ?_); (case side1 => repeat (first | exact (Kd.qaz HR0_0.out HB.out) | (with_reducible refine Kd.qaB ?_ _) | (with_reducible refine Kd.qaC ?_ _) | (with_reducible refine Kd.qaT ?_))); (case side2 => exact HC0_0.out); rintro e w10 ⟨rfl, hb⟩; refine ⟨_, rfl, ?_⟩; have n0_ := Aside0.mk (qaw (g := gb315) (o := .cells #[.slice A0_0 l0_0.length c0_0] 24 (0, 0)) (by (with_reducible repeat (first | refine qao ?_ _ | refine qap ?_ | refine qan ?_ _)); exact BK315.out) hb); have n1_ := Aside0.mk (qaj (by repeat (first | (with_reducible first | exact HB.out | apply qab | apply qaa | apply qac | refine qai ?_ GE315.out) | exact HB.out)) hb); clear BK315; clear HB; have BK315 := n0_; have HB := n1_; clear n0_ n1_; (try clear hb); (try clear hb2); (try clear hk); (try clear hi)))
   go_ret
   exact ⟨by first | rfl | (simp [qal, qam] <;> rfl) | (simp [*, qal, qam] <;> rfl), by repeat (first | (with_reducible first | exact HB.out | apply qab | apply qaa | apply qac | refine qai ?_ GE315.out) | exact HB.out)⟩
  ·rw [if_neg c7] at H
   have c7b0 : decide (t316 < 0) = false := decide_eq_false c7
   clear c7
   replace H := Option.bind_eq_some_iff.mp H
   obtain ⟨t317, A110, H⟩ := H
   replace H : ((qbp.f k t317 a1 a2).bind fun bt320 => ((qbd.f k l0_0).bind fun t322 => ((qbj.f k t322 a1 a2).bind fun bt326 => (if bt326.1.toList = bt320.1.toList then (qav.j0 k (bt326.2 != bt320.2) l0_0 t322) else (qav.j0 k true l0_0 t322))))) = some r := H
   have A11 := Aside0.mk A110
   clear A110
   replace H := Option.bind_eq_some_iff.mp H
   obtain ⟨⟨t320, t321⟩, A120, H⟩ := H
   replace H : ((qbd.f k l0_0).bind fun t322 => ((qbj.f k t322 a1 a2).bind fun bt326 => (if bt326.1.toList = t320.toList then (qav.j0 k (bt326.2 != t321) l0_0 t322) else (qav.j0 k true l0_0 t322)))) = some r := H
   have A12 := Aside0.mk A120
   clear A120
   replace H := Option.bind_eq_some_iff.mp H
   obtain ⟨t322, A130, H⟩ := H
   replace H : ((qbj.f k t322 a1 a2).bind fun bt326 => (if bt326.1.toList = t320.toList then (qav.j0 k (bt326.2 != t321) l0_0 t322) else (qav.j0 k true l0_0 t322))) = some r := H
   have A13 := Aside0.mk A130
   clear A130
   replace H := Option.bind_eq_some_iff.mp H
   obtain ⟨⟨t326, t327⟩, A140, H⟩ := H
   replace H : (if t326.toList = t320.toList then (qav.j0 k (t327 != t321) l0_0 t322) else (qav.j0 k true l0_0 t322)) = some r := H
   have A14 := Aside0.mk A140
   clear A140
   have HC15 := Aside0.mk H
   clear H
   go_enter Try.func5, Try.ntmps5
   go_upto_region 10 with (first | ((with_reducible refine qaQ (N := 3) rfl ?_); refine qaI ?hg (N := 3) ?hd (cs := #[.slice A0_0 l0_0.length c0_0]) (t := 24) ?hr ?_; (case hd => rfl); (case hg => rfl); (case hr => first | (go_simp; done) | (go_simp; rfl)); intro gb315 hg w16 hbox hb; have n0_ := Aside0.mk (qaj (by repeat (first | (with_reducible first | exact HB.out | apply qab | apply qaa | apply qac) | exact HB.out)) hb); have n1_ := Aside0.mk (hbox); have n2_ := Aside0.mk ((by rw [hg]; exact (qak (by repeat (first | (with_reducible first | exact HB.out | apply qab | apply qaa | apply qac) | exact HB.out))) : w.heap.size ≤ gb315)); have n3_ := Aside0.mk ((by rw [hg]; exact (qak (by repeat (first | (with_reducible first | exact HB.out | apply qab | apply qaa | apply qac) | exact HB.out))) : w.heap.size ≤ gb315)); clear HB; have HB := n0_; have BK315 := n1_; have GW315 := n2_; have GE315 := n3_; clear n0_ n1_ n2_ n3_; clear hb hbox hg; have hcz17_0 : w16.cell? ⟨gb315, 0, none⟩ = some (.slice A0_0 l0_0.length c0_0) := (qah BK315.out 0).trans rfl; have hfz17_0 := qad BK315.out 0) | ((with_reducible refine qas (f := 13) rfl ?_); refine qa5 (some 18) rfl rfl Try.func13 (by kernel_rfl) rfl #[.agg #[.slice A0_0 l0_0.length c0_0], .int .i64 1048576] rfl (by (try simp only [List.map_toArray, List.map_cons, List.map_nil]); first | done | rfl | (simp only [List.length_drop, List.length_take]; rfl)) ?_; (with_reducible refine (qbw.calls k _ _ l0_0 1048576 t316 _ ?side1 ?side2 A6.out).mono ?_); (case side1 => repeat (first | exact (Kd.qaz HR0_0.out HB.out) | (with_reducible refine Kd.qaB ?_ _) | (with_reducible refine Kd.qaC ?_ _) | (with_reducible refine Kd.qaT ?_))); (case side2 => exact HC0_0.out); rintro e w18 ⟨rfl, hb⟩; refine ⟨_, rfl, ?_⟩; have n0_ := Aside0.mk (qaw (g := gb315) (o := .cells #[.slice A0_0 l0_0.length c0_0] 24 (0, 0)) (by (with_reducible repeat (first | refine qao ?_ _ | refine qap ?_ | refine qan ?_ _)); exact BK315.out) hb); have n1_ := Aside0.mk (qaj (by repeat (first | (with_reducible first | exact HB.out | apply qab | apply qaa | apply qac | refine qai ?_ GE315.out) | exact HB.out)) hb); clear BK315; clear HB; have BK315 := n0_; have HB := n1_; clear n0_ n1_; (try clear hb); (try clear hb2); (try clear hk); (try clear hi); have hcz19_0 : w18.cell? ⟨gb315, 0, none⟩ = some (.slice A0_0 l0_0.length c0_0) := (qah BK315.out 0).trans rfl; have hfz19_0 := qad BK315.out 0) | ((with_reducible refine qas (f := 15) rfl ?_); refine qa5 (some 23) rfl rfl Try.func15 (by kernel_rfl) rfl #[.agg #[.slice A0_0 l0_0.length c0_0]] rfl (by (try simp only [List.map_toArray, List.map_cons, List.map_nil]); first | done | rfl | (simp only [List.length_drop, List.length_take]; rfl)) ?_; (with_reducible refine (qbd.calls k _ _ l0_0 t317 _ ?side1 ?side2 A11.out).mono ?_); (case side1 => repeat (first | exact (Kd.qaz HR0_0.out HB.out) | (with_reducible refine Kd.qaB ?_ _) | (with_reducible refine Kd.qaC ?_ _) | (with_reducible refine Kd.qaT ?_))); (case side2 => exact HC0_0.out); rintro e w20 ⟨v318, rfl, ho0, hb⟩; refine ⟨_, rfl, ?_⟩; have n0_ := Aside0.mk (Kd.qdi ho0 (qak (by repeat (first | (with_reducible first | exact HB.out | apply qab | apply qaa | apply qac | refine qai ?_ GE315.out) | exact HB.out)))); have n1_ := Aside0.mk (qaw (g := gb315) (o := .cells #[.slice A0_0 l0_0.length c0_0] 24 (0, 0)) (by (with_reducible repeat (first | refine qao ?_ _ | refine qap ?_ | refine qan ?_ _)); exact BK315.out) hb); have n2_ := Aside0.mk (qaj (by repeat (first | (with_reducible first | exact HB.out | apply qab | apply qaa | apply qac | refine qai ?_ GE315.out) | exact HB.out)) hb); clear BK315; clear HB; have HO319 := n0_; have BK315 := n1_; have HB := n2_; clear n0_ n1_ n2_; (try clear hb); (try clear hb2); (try clear hk); (try clear hi); (try clear ho0); obtain ⟨Ao21, co21, eo21⟩ := Kd.qdF HO319.out; subst eo21) | ((with_reducible refine qas (f := 24) rfl ?_); refine qa5 (some 26) rfl rfl Try.func24 (by kernel_rfl) rfl #[.agg #[.slice Ao21 t317.length co21], .int .i64 a1, .string a2] rfl (by (try simp only [List.map_toArray, List.map_cons, List.map_nil]); first | done | rfl | (simp only [List.length_drop, List.length_take]; rfl)) ?_; (with_reducible refine (qbp.calls k _ _ t317 a1 a2 t320 t321 _ ?side1 ?side2 A12.out).mono ?_); (case side1 => repeat (first | exact (Kd.qb4 HO319.out).2.2 | (with_reducible refine Kd.qaB ?_ _) | (with_reducible refine Kd.qaC ?_ _) | (with_reducible refine Kd.qaT ?_))); (case side2 => exact (Kd.qb4 HO319.out).2.1); rintro e w22 ⟨rfl, hb⟩; refine ⟨_, rfl, ?_⟩; have n0_ := Aside0.mk (Kd.qch (by (with_reducible repeat (first | apply Kd.qbK | apply Kd.qbL | apply Kd.qbT)); exact HO319.out) hb); have n1_ := Aside0.mk (qaw (g := gb315) (o := .cells #[.slice A0_0 l0_0.length c0_0] 24 (0, 0)) (by (with_reducible repeat (first | refine qao ?_ _ | refine qap ?_ | refine qan ?_ _)); exact BK315.out) hb); have n2_ := Aside0.mk (qaj (by repeat (first | (with_reducible first | exact HB.out | apply qab | apply qaa | apply qac | refine qai ?_ GE315.out) | exact HB.out)) hb); clear HO319; clear BK315; clear HB; have HO319 := n0_; have BK315 := n1_; have HB := n2_; clear n0_ n1_ n2_; (try clear hb); (try clear hb2); (try clear hk); (try clear hi); have hcz23_0 : w22.cell? ⟨gb315, 0, none⟩ = some (.slice A0_0 l0_0.length c0_0) := (qah BK315.out 0).trans rfl; have hfz23_0 := qad BK315.out 0) | ((with_reducible refine qas (f := 15) rfl ?_); refine qa5 (some 30) rfl rfl Try.func15 (by kernel_rfl) rfl #[.agg #[.slice A0_0 l0_0.length c0_0]] rfl (by (try simp only [List.map_toArray, List.map_cons, List.map_nil]); first | done | rfl | (simp only [List.length_drop, List.length_take]; rfl)) ?_; (with_reducible refine (qbd.calls k _ _ l0_0 t322 _ ?side1 ?side2 A13.out).mono ?_); (case side1 => repeat (first | exact (Kd.qaz HR0_0.out HB.out) | (with_reducible refine Kd.qaB ?_ _) | (with_reducible refine Kd.qaC ?_ _) | (with_reducible refine Kd.qaT ?_))); (case side2 => exact HC0_0.out); rintro e w24 ⟨v323, rfl, ho0, hb⟩; refine ⟨_, rfl, ?_⟩; have n0_ := Aside0.mk (Kd.qeh (by (with_reducible repeat (first | apply Kd.qbK | apply Kd.qbL | apply Kd.qbT)); exact HO319.out) (Kd.qfW ho0) hb); have n1_ := Aside0.mk (Kd.qdi (Kd.qfX ho0 (Kd.S_lt (by (with_reducible repeat (first | apply Kd.qbK | apply Kd.qbL | apply Kd.qbT)); exact HO319.out))) (qak (by repeat (first | (with_reducible first | exact HB.out | apply qab | apply qaa | apply qac | refine qai ?_ GE315.out) | exact HB.out)))); have n2_ := Aside0.mk (qaw (g := gb315) (o := .cells #[.slice A0_0 l0_0.length c0_0] 24 (0, 0)) (by (with_reducible repeat (first | refine qao ?_ _ | refine qap ?_ | refine qan ?_ _)); exact BK315.out) hb); have n3_ := Aside0.mk (qaj (by repeat (first | (with_reducible first | exact HB.out | apply qab | apply qaa | apply qac | refine qai ?_ GE315.out) | exact HB.out)) hb); clear HO319; clear BK315; clear HB; have HO319 := n0_; have HO324 := n1_; have BK315 := n2_; have HB := n3_; clear n0_ n1_ n2_ n3_; (try clear hb); (try clear hb2); (try clear hk); (try clear hi); (try clear ho0)) | ((with_reducible refine qaQ (N := 10) rfl ?_); refine qaI ?hg (N := 10) ?hd (cs := #[.slice none 0 0]) (t := 29) ?hr ?_; (case hd => rfl); (case hg => rfl); (case hr => first | (go_simp; done) | (go_simp; rfl)); intro gb325 hg w25 hbox hb; have n0_ := Aside0.mk (Kd.qch (by (with_reducible repeat (first | apply Kd.qbK | apply Kd.qbL | apply Kd.qbT)); exact HO319.out) hb); have n1_ := Aside0.mk (Kd.qch (by (with_reducible repeat (first | apply Kd.qbK | apply Kd.qbL | apply Kd.qbT)); exact HO324.out) hb); have n2_ := Aside0.mk (qaw (g := gb315) (o := .cells #[.slice A0_0 l0_0.length c0_0] 24 (0, 0)) (by (with_reducible repeat (first | refine qao ?_ _ | refine qap ?_ | refine qan ?_ _)); exact BK315.out) hb); have n3_ := Aside0.mk (qaj (by repeat (first | (with_reducible first | exact HB.out | apply qab | apply qaa | apply qac | refine qai ?_ GE315.out) | exact HB.out)) hb); have n4_ := Aside0.mk (hbox); have n5_ := Aside0.mk ((by rw [hg]; exact (qak (by repeat (first | (with_reducible first | exact HB.out | apply qab | apply qaa | apply qac | refine qai ?_ GE315.out) | exact HB.out))) : w.heap.size ≤ gb325)); have n6_ := Aside0.mk ((by rw [hg]; exact (qak (by repeat (first | (with_reducible first | exact HB.out | apply qab | apply qaa | apply qac | refine qai ?_ GE315.out) | exact HB.out))) : w.heap.size ≤ gb325)); have n7_ := Aside0.mk ((by rw [hg]; exact Nat.ne_of_lt (qbm (g := gb315) (o := .cells #[.slice A0_0 l0_0.length c0_0] 24 (0, 0)) (by (with_reducible repeat (first | refine qao ?_ _ | refine qap ?_ | refine qan ?_ _)); exact BK315.out)) : gb315 ≠ gb325)); have n8_ := Aside0.mk ((by rw [hg]; exact Nat.ne_of_gt (qbm (g := gb315) (o := .cells #[.slice A0_0 l0_0.length c0_0] 24 (0, 0)) (by (with_reducible repeat (first | refine qao ?_ _ | refine qap ?_ | refine qan ?_ _)); exact BK315.out)) : gb325 ≠ gb315)); clear HO319; clear HO324; clear BK315; clear HB; have HO319 := n0_; have HO324 := n1_; have BK315 := n2_; have HB := n3_; have BK325 := n4_; have GW325 := n5_; have GE325 := n6_; have NB315_325 := n7_; have NB325_315 := n8_; clear n0_ n1_ n2_ n3_ n4_ n5_ n6_ n7_ n8_; clear hb hbox hg; obtain ⟨Ao26, co26, eo26⟩ := Kd.qdF HO324.out; subst eo26; have hnb27 := NB325_315.out; have hnc27 := NB315_325.out; have hcz28_0 : w25.cell? ⟨gb325, 0, none⟩ = some (.slice none 0 0) := (qah BK325.out 0).trans rfl; have hfz28_0 := qad BK325.out 0) | ((with_reducible refine qas (f := 25) rfl ?_); refine qa5 (some 35) rfl rfl Try.func25 (by kernel_rfl) rfl #[.agg #[.slice Ao26 t322.length co26], .int .i64 a1, .string a2] rfl (by (try simp only [List.map_toArray, List.map_cons, List.map_nil]); first | done | rfl | (simp only [List.length_drop, List.length_take]; rfl)) ?_; (with_reducible refine (qbj.calls k _ _ t322 a1 a2 t326 t327 _ ?side1 ?side2 A14.out).mono ?_); (case side1 => refine (Kd.qb4 (e := 56) (base := w.heap.size) (ok := fun k_ => (True ∧ some k_ ≠ (.slice Ao21 t317.length co21 : Value).ownBlock)) (n := t322.length) (c := co26) ?_).2.2; exact (by (with_reducible repeat (first | apply Kd.qbK | apply Kd.qbL | apply Kd.qbT)); exact (Kd.qcO (Kd.qfV (p := ⟨gb325, 0, none⟩) (Kd.qdE HO324.out BK325.out (by decide)) (fun _ hk => hk.2) (.slice Ao26 t322.length co26)) (fun _ h_ => h_.1)))); (case side2 => exact (Kd.qb4 HO324.out).2.1); rintro e w29 ⟨rfl, hb⟩; refine ⟨_, rfl, ?_⟩; have n0_ := Aside0.mk (Kd.qch (by (with_reducible repeat (first | apply Kd.qbK | apply Kd.qbL | apply Kd.qbT)); exact (Kd.qcO (Kd.qfV (p := ⟨gb325, 0, none⟩) (Kd.qdE HO319.out BK325.out (by decide)) (fun _ hk => hk.2) (.slice Ao26 t322.length co26)) (fun _ h_ => h_.1))) hb); have n1_ := Aside0.mk (Kd.qch (by (with_reducible repeat (first | apply Kd.qbK | apply Kd.qbL | apply Kd.qbT)); exact (Kd.qcO (Kd.qfV (p := ⟨gb325, 0, none⟩) (Kd.qdE HO324.out BK325.out (by decide)) (fun _ hk => hk.2) (.slice Ao26 t322.length co26)) (fun _ h_ => h_.1))) hb); have n2_ := Aside0.mk (qaw (g := gb315) (o := .cells #[.slice A0_0 l0_0.length c0_0] 24 (0, 0)) (by (with_reducible repeat (first | refine qao ?_ _ | refine qap ?_ | refine qan ?_ _)); refine qb0 ?_ NB315_325.out _; (with_reducible repeat (first | refine qao ?_ _ | refine qap ?_ | refine qan ?_ _)); exact BK315.out) hb); have n3_ := Aside0.mk (qaw (g := gb325) (o := .cells #[.slice Ao26 t322.length co26] 29 (0, 0)) (by (with_reducible repeat (first | refine qao ?_ _ | refine qap ?_ | refine qan ?_ _)); refine qbU (cs := #[.slice none 0 0]) ?_ 0 _ rfl; (with_reducible repeat (first | refine qao ?_ _ | refine qap ?_ | refine qan ?_ _)); exact BK325.out) hb); have n4_ := Aside0.mk (qaj (by repeat (first | (with_reducible first | exact HB.out | apply qab | apply qaa | apply qac | refine qai ?_ GE315.out | refine qai ?_ GE325.out) | exact HB.out)) hb); clear HO319; clear HO324; clear BK315; clear BK325; clear HB; have HO319 := n0_; have HO324 := n1_; have BK315 := n2_; have BK325 := n3_; have HB := n4_; clear n0_ n1_ n2_ n3_ n4_; (try clear hb); (try clear hb2); (try clear hk); (try clear hi)))
   (try simp only [Act.put, List.setIfInBounds_toArray, List.set_cons_zero, List.set_cons_succ])
   go_cut [45] (fun v45 wc => ∃ (kq : Nat) (x45_14 : Bool), v45 = .bool x45_14 ∧ Aside0 (qav.j0 kq x45_14 l0_0 t322 = some r) ∧ Aside0 (kq ≤ k) ∧ Aside0 (Kd.S k56 56 wc w.heap.size (fun _ => True) (.slice Ao26 t322.length co26) t322) ∧ Aside0 (wc.heap[gb315]? = some (.cells #[(.slice A0_0 l0_0.length c0_0)] 24 (0, 0))) ∧ Aside0 (wc.heap[gb325]? = some (.cells #[(.slice Ao26 t322.length co26)] 29 (0, 0))) ∧ Aside0 (Below w.heap.size w wc))
   case first =>
    have H := HC15.out
    clear HC15
    by_cases c30 : t326.toList = t320.toList
    ·rw [if_pos c30] at H
     have c30b0 : (t326.toList == t320.toList) = true := beq_iff_eq.mpr c30
     have c30b1 : (t326.toList != t320.toList) = false := bne_eq_false_iff_eq.mpr c30
     clear c30
     (first | rw [c30b0] | (simp only [qau, qbZ]; rw [c30b0]) | skip)
     have H' := Aside0.mk H
     clear H
     go_wp2
     go_meet
     case rel => exact ⟨_, ((t327 != t321)), (by first | rfl | (simp; done) | (simp [*]; done)), H', ⟨by first | omega | exact Nat.le_refl _⟩, ⟨by (with_reducible repeat (first | apply Kd.qbK | apply Kd.qbL | apply Kd.qbT)); exact Kd.qcO HO324.out (fun _ hk => trivial)⟩, ⟨by (with_reducible repeat (first | refine qao ?_ _ | refine qap ?_ | refine qan ?_ _)); exact BK315.out⟩, ⟨by (with_reducible repeat (first | refine qao ?_ _ | refine qap ?_ | refine qan ?_ _)); exact BK325.out⟩, ⟨by repeat (first | (with_reducible first | exact HB.out | apply qab | apply qaa | apply qac | refine qai ?_ GE315.out | refine qai ?_ GE325.out) | exact HB.out)⟩⟩
    ·rw [if_neg c30] at H
     have c30b0 : (t326.toList == t320.toList) = false := beq_eq_false_iff_ne.mpr c30
     have c30b1 : (t326.toList != t320.toList) = true := bne_iff_ne.mpr c30
     (first | rw [c30b0] | (simp only [qau, qbZ]; rw [c30b0]) | skip)
     have H' := Aside0.mk H
     clear H
     go_wp2
     go_meet
     case rel => exact ⟨_, (true), (by first | rfl | (simp; done) | (simp [*]; done)), H', ⟨by first | omega | exact Nat.le_refl _⟩, ⟨by (with_reducible repeat (first | apply Kd.qbK | apply Kd.qbL | apply Kd.qbT)); exact Kd.qcO HO324.out (fun _ hk => trivial)⟩, ⟨by (with_reducible repeat (first | refine qao ?_ _ | refine qap ?_ | refine qan ?_ _)); exact BK315.out⟩, ⟨by (with_reducible repeat (first | refine qao ?_ _ | refine qap ?_ | refine qan ?_ _)); exact BK325.out⟩, ⟨by repeat (first | (with_reducible first | exact HB.out | apply qab | apply qaa | apply qac | refine qai ?_ GE315.out | refine qai ?_ GE325.out) | exact HB.out)⟩⟩
   case rest =>
    clear HC15
    try clear c1
    try clear c2
    try clear p2
    try clear c3
    try clear c4
    try clear c4b0
    try clear c4b1
    try clear c5
    try clear c7
    try clear c7b0
    try clear c13
    try clear c15
    try clear c24
    try clear c25
    try clear c27
    try clear c30
    try clear c30b0
    try clear c30b1
    try clear hcz17_0
    try clear hcz19_0
    try clear hcz23_0
    try clear hcz28_0
    try clear hcz9_0
    try clear hfz17_0
    try clear hfz19_0
    try clear hfz23_0
    try clear hfz28_0
    try clear hfz9_0
    obtain ⟨kq, x45_14, rfl, HA, HJ14, HO_326000, BK315, BK325, HB⟩ := hcut
    cases kq with
    | zero => exact absurd HA.out (by simp [qav.j0])
    | succ kj14 =>
     have H := HA.out
     clear HA
     simp only [qav.j0] at H
     by_cases c31 : x45_14 = true
     ·subst c31
      have H1 : (some false) = some r := by rw [if_pos rfl] at H; exact H
      clear H
      have H := H1
      clear H1
      obtain rfl := Option.some.inj H
      go_wp2
      go_ret
      exact ⟨by first | rfl | (simp [qal, qam] <;> rfl) | (simp [*, qal, qam] <;> rfl), by repeat (first | (with_reducible first | exact HB.out | apply qab | apply qaa | apply qac | refine qai ?_ GE315.out | refine qai ?_ GE325.out) | exact HB.out)⟩
     ·replace c31 := Bool.eq_false_iff.mpr c31
      subst c31
      have H1 : ((qbd.f kj14 l0_0).bind fun t328 => ((qbv.f kj14 t322 t328).bind fun t331 => (if t331 = true then (some true) else (some false)))) = some r := by rw [if_neg (show ¬ (false = true) by decide)] at H; exact H
      clear H
      have H := H1
      clear H1
      replace H := Option.bind_eq_some_iff.mp H
      obtain ⟨t328, A320, H⟩ := H
      replace H : ((qbv.f kj14 t322 t328).bind fun t331 => (if t331 = true then (some true) else (some false))) = some r := H
      have A32 := Aside0.mk A320
      clear A320
      replace H := Option.bind_eq_some_iff.mp H
      obtain ⟨t331, A330, H⟩ := H
      replace H : (if t331 = true then (some true) else (some false)) = some r := H
      have A33 := Aside0.mk A330
      clear A330
      by_cases c34 : t331 = true
      ·subst c34
       have H1 : (some true) = some r := by rw [if_pos rfl] at H; exact H
       clear H
       have H := H1
       clear H1
       obtain rfl := Option.some.inj H
       try go_wp2
       have n0_ := Aside0.mk (Kd.qbT HO_326000.out)
       have n1_ := Aside0.mk (qap BK315.out)
       have n2_ := Aside0.mk (qap BK325.out)
       have n3_ := Aside0.mk (qac HB.out)
       clear HO_326000
       clear BK315
       clear BK325
       clear HB
       have HO_326000 := n0_
       have BK315 := n1_
       have BK325 := n2_
       have HB := n3_
       clear n0_ n1_ n2_ n3_
       refine qce (n := 5) (S := fun w' => w'.cell? ⟨gb325, 0, none⟩ = some (.slice Ao26 t322.length co26) ∧ w'.cell? ⟨gb315, 0, none⟩ = some (.slice A0_0 l0_0.length c0_0)) (ds := []) #[false, false, false, false, false] (by kernel_rfl) rfl rfl ⟨(qah BK325.out 0).trans rfl, (qah BK315.out 0).trans rfl⟩ (fun hHeld => ?_)
       generalize wc.drew = w35 at HO_326000 BK315 BK325 HB hHeld ⊢
       refine qdV (i := 0) (N := some 46) (v := ?_) (a' := ?_) #[true, false, false, false, false] rfl rfl (by kernel_rfl) (fun _ _ _ h => h) (Or.inl ⟨by rfl, ?_⟩) hHeld ?_ ?_
       rotate_left
       ·rintro w' ⟨s0, s1⟩
        go_simp
        with_reducible rfl
       rotate_left
       ·simp only [Act.put, List.setIfInBounds_toArray, List.set_cons_zero, List.set_cons_succ, qau, qbZ]
        rfl
       refine qdV (i := 1) (N := some 47) (v := ?_) (a' := ?_) #[true, true, false, false, false] rfl rfl (by kernel_rfl) (fun _ _ _ h => h) (Or.inl ⟨by rfl, ?_⟩) hHeld ?_ ?_
       rotate_left
       ·rintro w' ⟨s0, s1⟩
        go_simp
        with_reducible rfl
       rotate_left
       ·simp only [Act.put, List.setIfInBounds_toArray, List.set_cons_zero, List.set_cons_succ, qau, qbZ]
        rfl
       refine one_ (i := 2) (N := some 48) #[true, true, true, false, false] rfl rfl (by kernel_rfl) (by decide) (fun K hK => ?_)
       refine qef Try.func15 (by kernel_rfl) rfl #[.agg #[.slice A0_0 l0_0.length c0_0]] (by rfl) rfl rfl (by (try simp only [List.map_toArray, List.map_cons, List.map_nil]); first | done | rfl | (simp only [List.length_drop, List.length_take]; rfl)) ?_
       with_reducible refine (qbd.calls kj14 _ _ l0_0 t328 _ ?side1 ?side2 A32.out).mono ?_
       (case side1 => repeat (first | exact (Kd.qaz HR0_0.out HB.out) | (with_reducible refine Kd.qaB ?_ _) | (with_reducible refine Kd.qaC ?_ _) | (with_reducible refine Kd.qaT ?_)))
       (case side2 => exact HC0_0.out)
       rintro e w36 ⟨v329, rfl, ho0, hb⟩
       refine ⟨_, rfl, ?_⟩
       have n0_ := Aside0.mk (Kd.qeh (by (with_reducible repeat (first | apply Kd.qbK | apply Kd.qbL | apply Kd.qbT)); exact HO_326000.out) (Kd.qfW ho0) hb)
       have n1_ := Aside0.mk (Kd.qdi (Kd.qfX ho0 (Kd.S_lt (by (with_reducible repeat (first | apply Kd.qbK | apply Kd.qbL | apply Kd.qbT)); exact HO_326000.out))) (qak (by repeat (first | (with_reducible first | exact HB.out | apply qab | apply qaa | apply qac | refine qai ?_ GE315.out | refine qai ?_ GE325.out) | exact HB.out))))
       have n2_ := Aside0.mk (qaw (g := gb315) (o := .cells #[.slice A0_0 l0_0.length c0_0] 24 (0, 0)) (by (with_reducible repeat (first | refine qao ?_ _ | refine qap ?_ | refine qan ?_ _)); exact BK315.out) hb)
       have n3_ := Aside0.mk (qaw (g := gb325) (o := .cells #[.slice Ao26 t322.length co26] 29 (0, 0)) (by (with_reducible repeat (first | refine qao ?_ _ | refine qap ?_ | refine qan ?_ _)); exact BK325.out) hb)
       have n4_ := Aside0.mk (qaj (by repeat (first | (with_reducible first | exact HB.out | apply qab | apply qaa | apply qac | refine qai ?_ GE315.out | refine qai ?_ GE325.out) | exact HB.out)) hb)
       clear HO_326000
       clear BK315
       clear BK325
       clear HB
       have HO_326000 := n0_
       have HO330 := n1_
       have BK315 := n2_
       have BK325 := n3_
       have HB := n4_
       clear n0_ n1_ n2_ n3_ n4_
       (try clear hb)
       (try clear hb2)
       (try clear hk)
       (try clear hi)
       (try clear ho0)
       obtain ⟨Ao37, co37, eo37⟩ := Kd.qdF HO330.out
       (first | subst eo37 | (injection eo37 with f1_ f2_ f3_; have f4_ := f1_.symm; have f5_ := f3_.symm; clear f1_ f2_ f3_; subst f4_; subst f5_))
       refine hK.out _ _ ⟨(qah BK325.out 0).trans rfl, (qah BK315.out 0).trans rfl⟩ (fun hHeld => ?_)
       clear hK K
       refine qfy (a' := ?_) ?_ ?_
       rotate_left
       ·show Act.put _ (some 48) _ = _
        simp only [Act.put, List.setIfInBounds_toArray, List.set_cons_zero, List.set_cons_succ, qau, qbZ]
        rfl
       refine one_ (i := 3) (N := some 49) #[true, true, true, true, false] rfl rfl (by kernel_rfl) (by decide) (fun K hK => ?_)
       refine qef Try.func17 (by kernel_rfl) rfl #[.agg #[.slice Ao26 t322.length co26], .agg #[.slice Ao37 t328.length co37]] (by rfl) rfl rfl (by (try simp only [List.map_toArray, List.map_cons, List.map_nil]); first | done | rfl | (simp only [List.length_drop, List.length_take]; rfl)) ?_
       with_reducible refine (qbv.calls kj14 _ _ t322 _ _ t328 true _ ?side1 ?side2 ?side3 ?side4 A33.out).mono ?_
       (case side1 => repeat (first | exact (Kd.qb4 HO_326000.out).2.2 | (with_reducible refine Kd.qaB ?_ _) | (with_reducible refine Kd.qaC ?_ _) | (with_reducible refine Kd.qaT ?_)))
       (case side2 => exact (Kd.qb4 HO_326000.out).2.1)
       (case side3 => repeat (first | exact (Kd.qb4 HO330.out).2.2 | (with_reducible refine Kd.qaB ?_ _) | (with_reducible refine Kd.qaC ?_ _) | (with_reducible refine Kd.qaT ?_)))
       (case side4 => exact (Kd.qb4 HO330.out).2.1)
       rintro e w38 ⟨rfl, hb⟩
       refine ⟨_, rfl, ?_⟩
       have n0_ := Aside0.mk (Kd.qch (by (with_reducible repeat (first | apply Kd.qbK | apply Kd.qbL | apply Kd.qbT)); exact HO_326000.out) hb)
       have n1_ := Aside0.mk (Kd.qch (by (with_reducible repeat (first | apply Kd.qbK | apply Kd.qbL | apply Kd.qbT)); exact HO330.out) hb)
       have n2_ := Aside0.mk (qaw (g := gb315) (o := .cells #[.slice A0_0 l0_0.length c0_0] 24 (0, 0)) (by (with_reducible repeat (first | refine qao ?_ _ | refine qap ?_ | refine qan ?_ _)); exact BK315.out) hb)
       have n3_ := Aside0.mk (qaw (g := gb325) (o := .cells #[.slice Ao26 t322.length co26] 29 (0, 0)) (by (with_reducible repeat (first | refine qao ?_ _ | refine qap ?_ | refine qan ?_ _)); exact BK325.out) hb)
       have n4_ := Aside0.mk (qaj (by repeat (first | (with_reducible first | exact HB.out | apply qab | apply qaa | apply qac | refine qai ?_ GE315.out | refine qai ?_ GE325.out) | exact HB.out)) hb)
       clear HO_326000
       clear HO330
       clear BK315
       clear BK325
       clear HB
       have HO_326000 := n0_
       have HO330 := n1_
       have BK315 := n2_
       have BK325 := n3_
       have HB := n4_
       clear n0_ n1_ n2_ n3_ n4_
       (try clear hb)
       (try clear hb2)
       (try clear hk)
       (try clear hi)
       refine hK.out _ _ ⟨(qah BK325.out 0).trans rfl, (qah BK315.out 0).trans rfl⟩ (fun hHeld => ?_)
       clear hK K
       refine qfy (a' := ?_) ?_ ?_
       rotate_left
       ·show Act.put _ (some 49) _ = _
        simp only [Act.put, List.setIfInBounds_toArray, List.set_cons_zero, List.set_cons_succ, qau, qbZ]
        rfl
       refine qcV (i := 4) (N := some 50) (v := ?_) (a' := ?_) #[true, true, true, true, true] rfl rfl (by kernel_rfl) (fun _ _ _ h => h) (Or.inl ⟨by rfl, ?_⟩) ?_ ?_
       rotate_left
       ·intro w'
        go_simp
        with_reducible rfl
       rotate_left
       ·simp only [Act.put, List.setIfInBounds_toArray, List.set_cons_zero, List.set_cons_succ, qau, qbZ]
        rfl
       refine done_ (by kernel_rfl) ?_
       try go_wp2
       go_ret
       exact ⟨by first | rfl | (simp [qal, qam] <;> rfl) | (simp [*, qal, qam] <;> rfl), by repeat (first | (with_reducible first | exact HB.out | apply qab | apply qaa | apply qac | refine qai ?_ GE315.out | refine qai ?_ GE325.out) | exact HB.out)⟩
      ·replace c34 := Bool.eq_false_iff.mpr c34
       subst c34
       have H1 : (some false) = some r := by rw [if_neg (show ¬ (false = true) by decide)] at H; exact H
       clear H
       have H := H1
       clear H1
       obtain rfl := Option.some.inj H
       try go_wp2
       have n0_ := Aside0.mk (Kd.qbT HO_326000.out)
       have n1_ := Aside0.mk (qap BK315.out)
       have n2_ := Aside0.mk (qap BK325.out)
       have n3_ := Aside0.mk (qac HB.out)
       clear HO_326000
       clear BK315
       clear BK325
       clear HB
       have HO_326000 := n0_
       have BK315 := n1_
       have BK325 := n2_
       have HB := n3_
       clear n0_ n1_ n2_ n3_
       refine qce (n := 5) (S := fun w' => w'.cell? ⟨gb325, 0, none⟩ = some (.slice Ao26 t322.length co26) ∧ w'.cell? ⟨gb315, 0, none⟩ = some (.slice A0_0 l0_0.length c0_0)) (ds := []) #[false, false, false, false, false] (by kernel_rfl) rfl rfl ⟨(qah BK325.out 0).trans rfl, (qah BK315.out 0).trans rfl⟩ (fun hHeld => ?_)
       generalize wc.drew = w39 at HO_326000 BK315 BK325 HB hHeld ⊢
       refine qdV (i := 0) (N := some 46) (v := ?_) (a' := ?_) #[true, false, false, false, false] rfl rfl (by kernel_rfl) (fun _ _ _ h => h) (Or.inl ⟨by rfl, ?_⟩) hHeld ?_ ?_
       rotate_left
       ·rintro w' ⟨s0, s1⟩
        go_simp
        with_reducible rfl
       rotate_left
       ·simp only [Act.put, List.setIfInBounds_toArray, List.set_cons_zero, List.set_cons_succ, qau, qbZ]
        rfl
       refine qdV (i := 1) (N := some 47) (v := ?_) (a' := ?_) #[true, true, false, false, false] rfl rfl (by kernel_rfl) (fun _ _ _ h => h) (Or.inl ⟨by rfl, ?_⟩) hHeld ?_ ?_
       rotate_left
       ·rintro w' ⟨s0, s1⟩
        go_simp
        with_reducible rfl
       rotate_left
       ·simp only [Act.put, List.setIfInBounds_toArray, List.set_cons_zero, List.set_cons_succ, qau, qbZ]
        rfl
       refine one_ (i := 2) (N := some 48) #[true, true, true, false, false] rfl rfl (by kernel_rfl) (by decide) (fun K hK => ?_)
       refine qef Try.func15 (by kernel_rfl) rfl #[.agg #[.slice A0_0 l0_0.length c0_0]] (by rfl) rfl rfl (by (try simp only [List.map_toArray, List.map_cons, List.map_nil]); first | done | rfl | (simp only [List.length_drop, List.length_take]; rfl)) ?_
       with_reducible refine (qbd.calls kj14 _ _ l0_0 t328 _ ?side1 ?side2 A32.out).mono ?_
       (case side1 => repeat (first | exact (Kd.qaz HR0_0.out HB.out) | (with_reducible refine Kd.qaB ?_ _) | (with_reducible refine Kd.qaC ?_ _) | (with_reducible refine Kd.qaT ?_)))
       (case side2 => exact HC0_0.out)
       rintro e w40 ⟨v329, rfl, ho0, hb⟩
       refine ⟨_, rfl, ?_⟩
       have n0_ := Aside0.mk (Kd.qeh (by (with_reducible repeat (first | apply Kd.qbK | apply Kd.qbL | apply Kd.qbT)); exact HO_326000.out) (Kd.qfW ho0) hb)
       have n1_ := Aside0.mk (Kd.qdi (Kd.qfX ho0 (Kd.S_lt (by (with_reducible repeat (first | apply Kd.qbK | apply Kd.qbL | apply Kd.qbT)); exact HO_326000.out))) (qak (by repeat (first | (with_reducible first | exact HB.out | apply qab | apply qaa | apply qac | refine qai ?_ GE315.out | refine qai ?_ GE325.out) | exact HB.out))))
       have n2_ := Aside0.mk (qaw (g := gb315) (o := .cells #[.slice A0_0 l0_0.length c0_0] 24 (0, 0)) (by (with_reducible repeat (first | refine qao ?_ _ | refine qap ?_ | refine qan ?_ _)); exact BK315.out) hb)
       have n3_ := Aside0.mk (qaw (g := gb325) (o := .cells #[.slice Ao26 t322.length co26] 29 (0, 0)) (by (with_reducible repeat (first | refine qao ?_ _ | refine qap ?_ | refine qan ?_ _)); exact BK325.out) hb)
       have n4_ := Aside0.mk (qaj (by repeat (first | (with_reducible first | exact HB.out | apply qab | apply qaa | apply qac | refine qai ?_ GE315.out | refine qai ?_ GE325.out) | exact HB.out)) hb)
       clear HO_326000
       clear BK315
       clear BK325
       clear HB
       have HO_326000 := n0_
       have HO330 := n1_
       have BK315 := n2_
       have BK325 := n3_
       have HB := n4_
       clear n0_ n1_ n2_ n3_ n4_
       (try clear hb)
       (try clear hb2)
       (try clear hk)
       (try clear hi)
       (try clear ho0)
       obtain ⟨Ao41, co41, eo41⟩ := Kd.qdF HO330.out
       (first | subst eo41 | (injection eo41 with f1_ f2_ f3_; have f4_ := f1_.symm; have f5_ := f3_.symm; clear f1_ f2_ f3_; subst f4_; subst f5_))
       refine hK.out _ _ ⟨(qah BK325.out 0).trans rfl, (qah BK315.out 0).trans rfl⟩ (fun hHeld => ?_)
       clear hK K
       refine qfy (a' := ?_) ?_ ?_
       rotate_left
       ·show Act.put _ (some 48) _ = _
        simp only [Act.put, List.setIfInBounds_toArray, List.set_cons_zero, List.set_cons_succ, qau, qbZ]
        rfl
       refine one_ (i := 3) (N := some 49) #[true, true, true, true, false] rfl rfl (by kernel_rfl) (by decide) (fun K hK => ?_)
       refine qef Try.func17 (by kernel_rfl) rfl #[.agg #[.slice Ao26 t322.length co26], .agg #[.slice Ao41 t328.length co41]] (by rfl) rfl rfl (by (try simp only [List.map_toArray, List.map_cons, List.map_nil]); first | done | rfl | (simp only [List.length_drop, List.length_take]; rfl)) ?_
       with_reducible refine (qbv.calls kj14 _ _ t322 _ _ t328 false _ ?side1 ?side2 ?side3 ?side4 A33.out).mono ?_
       (case side1 => repeat (first | exact (Kd.qb4 HO_326000.out).2.2 | (with_reducible refine Kd.qaB ?_ _) | (with_reducible refine Kd.qaC ?_ _) | (with_reducible refine Kd.qaT ?_)))
       (case side2 => exact (Kd.qb4 HO_326000.out).2.1)
       (case side3 => repeat (first | exact (Kd.qb4 HO330.out).2.2 | (with_reducible refine Kd.qaB ?_ _) | (with_reducible refine Kd.qaC ?_ _) | (with_reducible refine Kd.qaT ?_)))
       (case side4 => exact (Kd.qb4 HO330.out).2.1)
       rintro e w42 ⟨rfl, hb⟩
       refine ⟨_, rfl, ?_⟩
       have n0_ := Aside0.mk (Kd.qch (by (with_reducible repeat (first | apply Kd.qbK | apply Kd.qbL | apply Kd.qbT)); exact HO_326000.out) hb)
       have n1_ := Aside0.mk (Kd.qch (by (with_reducible repeat (first | apply Kd.qbK | apply Kd.qbL | apply Kd.qbT)); exact HO330.out) hb)
       have n2_ := Aside0.mk (qaw (g := gb315) (o := .cells #[.slice A0_0 l0_0.length c0_0] 24 (0, 0)) (by (with_reducible repeat (first | refine qao ?_ _ | refine qap ?_ | refine qan ?_ _)); exact BK315.out) hb)
       have n3_ := Aside0.mk (qaw (g := gb325) (o := .cells #[.slice Ao26 t322.length co26] 29 (0, 0)) (by (with_reducible repeat (first | refine qao ?_ _ | refine qap ?_ | refine qan ?_ _)); exact BK325.out) hb)
       have n4_ := Aside0.mk (qaj (by repeat (first | (with_reducible first | exact HB.out | apply qab | apply qaa | apply qac | refine qai ?_ GE315.out | refine qai ?_ GE325.out) | exact HB.out)) hb)
       clear HO_326000
       clear HO330
       clear BK315
       clear BK325
       clear HB
       have HO_326000 := n0_
       have HO330 := n1_
       have BK315 := n2_
       have BK325 := n3_
       have HB := n4_
       clear n0_ n1_ n2_ n3_ n4_
       (try clear hb)
       (try clear hb2)
       (try clear hk)
       (try clear hi)
       refine hK.out _ _ ⟨(qah BK325.out 0).trans rfl, (qah BK315.out 0).trans rfl⟩ (fun hHeld => ?_)
       clear hK K
       refine qfy (a' := ?_) ?_ ?_
       rotate_left
       ·show Act.put _ (some 49) _ = _
        simp only [Act.put, List.setIfInBounds_toArray, List.set_cons_zero, List.set_cons_succ, qau, qbZ]
        rfl
       refine qcV (i := 4) (N := some 50) (v := ?_) (a' := ?_) #[true, true, true, true, true] rfl rfl (by kernel_rfl) (fun _ _ _ h => h) (Or.inl ⟨by rfl, ?_⟩) ?_ ?_
       rotate_left
       ·intro w'
        go_simp
        with_reducible rfl
       rotate_left
       ·simp only [Act.put, List.setIfInBounds_toArray, List.set_cons_zero, List.set_cons_succ, qau, qbZ]
        rfl
       refine done_ (by kernel_rfl) ?_
       try go_wp2
       go_ret
       exact ⟨by first | rfl | (simp [qal, qam] <;> rfl) | (simp [*, qal, qam] <;> rfl), by repeat (first | (with_reducible first | exact HB.out | apply qab | apply qaa | apply qac | refine qai ?_ GE315.out | refine qai ?_ GE325.out) | exact HB.out)⟩
end Go.Proofs.Ytenfomejccfkgaa.X
namespace Go.Proofs.Ytenfomejccfkgaa.X
open Go.RowKit Go.Proofs.YtenfomejccfkgaaW.PrintWords Go.Proofs.YtenfomejccfkgaaW.PrintLast Go.Proofs.YtenfomejccfkgaaW.PrintMore
attribute [local go_sem] qaN qaO qaP qaJ qaK qaZ qa0 qaE qaF qaL qaM
set_option linter.unusedVariables false
set_option linter.unusedSimpArgs false
theorem opens4 : Opens Try.prog 4 Kd.bool (fun _ => True) := Opens.bool_ Try.underlying4 (by kernel_rfl)
theorem qgf : Opens Try.prog 9 Kd.string (fun x => x.size ≤ maxLen) := Opens.string_ Try.underlying9 (by kernel_rfl)
def wf159 (x : S159) : Prop := x.f0.size ≤ maxLen ∧ x.f1.size ≤ maxLen
set_option maxRecDepth 100000 in
theorem opens159 : Opens Try.prog 159 k159 wf159 := by
 refine ⟨by kernel_rfl, fun {H enc w base spare held fuel cs x} h => ?_⟩
 obtain ⟨xs, n, _, _, hl, hlen, hf⟩ := DataW.trod_struct Try.underlying159 h
 have hl' : cs.length = 2 := hl.trans (by kernel_rfl)
 match cs, hl', xs, hlen with
 | [c0, c1], _, [y0, y1], _ =>
  obtain ⟨v0, g0, w0⟩ := qgf.2 (by simpa [show Try.prog.cellsOf 9 = 1 from by kernel_rfl] using hf 0 _ rfl)
  obtain ⟨v1, g1, w1⟩ := qgf.2 (by simpa [show Try.prog.cellsOf 9 = 1 from by kernel_rfl] using hf 1 _ rfl)
  exact ⟨(⟨v0, v1⟩ : S159), ⟨[c0], [c1], rfl, g0, g1⟩, ⟨w0, w1⟩⟩
def wfL159 (xs : List (S159)) : Prop := xs.length ≤ maxLen ∧ ∀ x ∈ xs, wf159 x
theorem opens47 : Opens Try.prog 47 (Kd.slice 159 k159) wfL159 := Opens.qew Try.underlying47 (by kernel_rfl) opens159
def wfL9 (xs : List ByteArray) : Prop := xs.length ≤ maxLen ∧ ∀ x ∈ xs, x.size ≤ maxLen
theorem opens48 : Opens Try.prog 48 (Kd.slice 9 Kd.string) wfL9 := Opens.qew Try.underlying48 (by kernel_rfl) qgf
theorem opens3 : Opens Try.prog 3 (Kd.int .i64) (fun x => (Lit.int .i64 x).wf = true) := Opens.int_ Try.underlying3 (by kernel_rfl)
def wfL3 (xs : List Int) : Prop := xs.length ≤ maxLen ∧ ∀ x ∈ xs, (Lit.int .i64 x).wf = true
theorem opens42 : Opens Try.prog 42 (Kd.slice 3 (Kd.int .i64)) wfL3 := Opens.qew Try.underlying42 (by kernel_rfl) opens3
def wf50 (x : S50) : Prop := True ∧ wfL159 x.f1 ∧ wfL9 x.f2 ∧ wfL3 x.f3
set_option maxRecDepth 100000 in
theorem opens50 : Opens Try.prog 50 k50 wf50 := by
 refine ⟨by kernel_rfl, fun {H enc w base spare held fuel cs x} h => ?_⟩
 obtain ⟨xs, n, _, _, hl, hlen, hf⟩ := DataW.trod_struct Try.underlying50 h
 have hl' : cs.length = 4 := hl.trans (by kernel_rfl)
 match cs, hl', xs, hlen with
 | [c0, c1, c2, c3], _, [y0, y1, y2, y3], _ =>
  obtain ⟨v0, g0, w0⟩ := opens4.2 (by simpa [show Try.prog.cellsOf 4 = 1 from by kernel_rfl] using hf 0 _ rfl)
  obtain ⟨v1, g1, w1⟩ := opens47.2 (by simpa [show Try.prog.cellsOf 47 = 1 from by kernel_rfl] using hf 1 _ rfl)
  obtain ⟨v2, g2, w2⟩ := opens48.2 (by simpa [show Try.prog.cellsOf 48 = 1 from by kernel_rfl] using hf 2 _ rfl)
  obtain ⟨v3, g3, w3⟩ := opens42.2 (by simpa [show Try.prog.cellsOf 42 = 1 from by kernel_rfl] using hf 3 _ rfl)
  exact ⟨(⟨v0, v1, v2, v3⟩ : S50), ⟨[c0], [c1, c2, c3], rfl, g0, ⟨[c1], [c2, c3], rfl, g1, ⟨[c2], [c3], rfl, g2, g3⟩⟩⟩, ⟨w0, w1, w2, w3⟩⟩
def wfL50 (xs : List (S50)) : Prop := xs.length ≤ maxLen ∧ ∀ x ∈ xs, wf50 x
theorem opens22 : Opens Try.prog 22 (Kd.slice 50 k50) wfL50 := Opens.qew Try.underlying22 (by kernel_rfl) opens50
def wf24 (x : S24) : Prop := wfL50 x.f0
set_option maxRecDepth 100000 in
theorem opens24 : Opens Try.prog 24 k24 wf24 := by
 refine ⟨by kernel_rfl, fun {H enc w base spare held fuel cs x} h => ?_⟩
 obtain ⟨xs, n, _, _, hl, hlen, hf⟩ := DataW.trod_struct Try.underlying24 h
 have hl' : cs.length = 1 := hl.trans (by kernel_rfl)
 match cs, hl', xs, hlen with
 | [c0], _, [y0], _ =>
  obtain ⟨v0, g0, w0⟩ := opens22.2 (by simpa [show Try.prog.cellsOf 22 = 1 from by kernel_rfl] using hf 0 _ rfl)
  exact ⟨(⟨v0⟩ : S24), g0, w0⟩
def qav.Pure : Prop := ∀ (l0_0 : List (S50)) (a1 : Int) (a2 : ByteArray), (wfL50 l0_0) → ((Lit.int .i64 a1).wf = true) → (a2.size ≤ maxLen) → a2.size ≤ 140737488351232 → ∃ k, qav.f k l0_0 a1 a2 = some true
end Go.Proofs.Ytenfomejccfkgaa.X
