import Derived.Test.YtenfomejccfkgaaKFnExactCountRefs4
import Derived.Test.YtenfomejccfkgaaKFnExactCountRefs6
import Derived.Test.YtenfomejccfkgaaKFnExactCountRefs7
import Derived.Test.YtenfomejccfkgaaKFnExactCountRefs10
namespace Go.Proofs.Ytenfomejccfkgaa.X
open Go.RowKit Go.Proofs.YtenfomejccfkgaaW.PrintWords Go.Proofs.YtenfomejccfkgaaW.PrintLast Go.Proofs.YtenfomejccfkgaaW.PrintMore
attribute [local go_sem] qaC qaD qaE qay qaz qaO qaP qas qat qaA qaB
set_option linter.unusedVariables false
set_option linter.unusedSimpArgs false
mutual
def qaH.j0 : Nat → Bool → Bool → List (S99) → List ByteArray → List Int → Option (Bool)
 | 0, _, _, _, _, _ => none
 | k + 1, x49, x207000, x207001, x207002, x207003 => if x49 = true then (some false) else (qaH.l0 k x207002 (x207002.length : Int) 0 x207000 x207001 x207002 x207003)
def qaH.l0 : Nat → List ByteArray → Int → Int → Bool → List (S99) → List ByteArray → List Int → Option (Bool)
 | 0, _, _, _, _, _, _, _ => none
 | k + 1, x51, x52, x53, x207000, x207001, x207002, x207003 => if x53 < x52 then (if 0 ≤ x53 then (if x53 < (x51.length : Int) then ((qbO.f (rdOf ByteArray.empty x51 x53)).bind fun t212 => (if t212 = true then (if x53 < (x207003.length : Int) then ((qbg.f (rd x207003 x53) 0 49).bind fun t214 => (if t214 = true then (if x53 > 0 then (if 0 ≤ (wrap64 (x53 - 1)) then (if (wrap64 (x53 - 1)) < (x207002.length : Int) then (if ((Op.bytesLess ((rdOf ByteArray.empty x207002 (wrap64 (x53 - 1))).toList) ((rdOf ByteArray.empty x51 x53).toList)) = true) then (qaH.l0 k x51 x52 (wrap64 (x53 + 1)) x207000 x207001 x207002 x207003) else (some false)) else (none)) else (none)) else (qaH.l0 k x51 x52 (wrap64 (x53 + 1)) x207000 x207001 x207002 x207003)) else (some false))) else (none)) else (some false))) else (none)) else (none)) else (some true)
end
def qaH.f (k : Nat) (a0_0 : Bool) (l0_1 : List (S99)) (l0_2 : List ByteArray) (l0_3 : List Int) : Option (Bool) := (qbs.f a0_0 l0_1 l0_2 l0_3).bind fun t207 => (if t207 = true then (some true) else (if a0_0 = true then ((qbg.f (l0_1.length : Int) 1 3).bind fun t208 => (if t208 = true then ((qap.f k l0_1).bind fun t209 => (if t209 = true then (if (l0_2.length : Int) = 0 then (some ((l0_3.length : Int) == 0)) else (some false)) else (some false))) else (some false))) else (if (l0_1.length : Int) > 0 then (qaH.j0 k true a0_0 l0_1 l0_2 l0_3) else ((qbg.f (l0_3.length : Int) 1 4).bind fun t210 => (if t210 = true then (qaH.j0 k ((l0_2.length : Int) != (l0_3.length : Int)) a0_0 l0_1 l0_2 l0_3) else (qaH.j0 k true a0_0 l0_1 l0_2 l0_3))))))
theorem qaH.qbm : ∀ k, (∀ y0 y1 y2 y3 y4, LeO (qaH.j0 k y0 y1 y2 y3 y4) (qaH.j0 (k + 1) y0 y1 y2 y3 y4)) ∧ (∀ y0 y1 y2 y3 y4 y5 y6, LeO (qaH.l0 k y0 y1 y2 y3 y4 y5 y6) (qaH.l0 (k + 1) y0 y1 y2 y3 y4 y5 y6))
 | 0 => ⟨fun _ _ _ _ _ r h => by simp [qaH.j0] at h, fun _ _ _ _ _ _ _ r h => by simp [qaH.l0] at h⟩
 | k + 1 => by
  obtain ⟨ih0, ih1⟩ := qaH.qbm k
  refine ⟨?_, ?_⟩
  ·intro y0 y1 y2 y3 y4
   unfold qaH.j0
   repeat' first
   | (with_reducible exact ih0 _ _ _ _ _)
   | (with_reducible exact ih1 _ _ _ _ _ _ _)
   | (with_reducible exact qap.mono _ _)
   | (with_reducible exact LeO.refl _)
   | (with_reducible exact LeO.none _)
   | (with_reducible refine LeO.ite ?_ ?_)
   | (with_reducible refine LeO.bind ?_ (fun _ => ?_))
   | exact ih0 _ _ _ _ _
   | exact ih1 _ _ _ _ _ _ _
   | exact qap.mono _ _
   | exact LeO.none _
   | refine LeO.ite ?_ ?_
   | refine LeO.bind ?_ (fun _ => ?_)
  ·intro y0 y1 y2 y3 y4 y5 y6
   unfold qaH.l0
   repeat' first
   | (with_reducible exact ih0 _ _ _ _ _)
   | (with_reducible exact ih1 _ _ _ _ _ _ _)
   | (with_reducible exact qap.mono _ _)
   | (with_reducible exact LeO.refl _)
   | (with_reducible exact LeO.none _)
   | (with_reducible refine LeO.ite ?_ ?_)
   | (with_reducible refine LeO.bind ?_ (fun _ => ?_))
   | exact ih0 _ _ _ _ _
   | exact ih1 _ _ _ _ _ _ _
   | exact qap.mono _ _
   | exact LeO.none _
   | refine LeO.ite ?_ ?_
   | refine LeO.bind ?_ (fun _ => ?_)
theorem qaH.mono : ∀ a0 a1 a2 a3 k, LeO (qaH.f k a0 a1 a2 a3) (qaH.f (k + 1) a0 a1 a2 a3) := by
 intro a0 a1 a2 a3 k
 obtain ⟨ih0, ih1⟩ := qaH.qbm k
 unfold qaH.f
 repeat' first
   | (with_reducible exact ih0 _ _ _ _ _)
   | (with_reducible exact ih1 _ _ _ _ _ _ _)
   | (with_reducible exact qap.mono _ _)
   | (with_reducible exact LeO.refl _)
   | (with_reducible exact LeO.none _)
   | (with_reducible refine LeO.ite ?_ ?_)
   | (with_reducible refine LeO.bind ?_ (fun _ => ?_))
   | exact ih0 _ _ _ _ _
   | exact ih1 _ _ _ _ _ _ _
   | exact qap.mono _ _
   | exact LeO.none _
   | refine LeO.ite ?_ ?_
   | refine LeO.bind ?_ (fun _ => ?_)
set_option maxHeartbeats 8000000 in
set_option maxRecDepth 100000 in
theorem qaH.calls (k : Nat) (a0_0 : Bool) (A0_1 : Option Addr) (c0_1 : Nat) (l0_1 : List (S99)) (A0_2 : Option Addr) (c0_2 : Nat) (l0_2 : List ByteArray) (A0_3 : Option Addr) (c0_3 : Nat) (l0_3 : List Int) (r : Bool) (w : World) (hr0_1 : Kd.C k99 w A0_1 l0_1.length l0_1) (hc0_1 : l0_1.length ≤ c0_1) (hr0_2 : Kd.C Kd.string w A0_2 l0_2.length l0_2) (hc0_2 : l0_2.length ≤ c0_2) (hr0_3 : Kd.C (Kd.int .i64) w A0_3 l0_3.length l0_3) (hc0_3 : l0_3.length ≤ c0_3) (h : qaH.f k a0_0 l0_1 l0_2 l0_3 = some r) :
  Calls Try.prog 82 #[.agg #[.bool a0_0, .slice A0_1 l0_1.length c0_1, .slice A0_2 l0_2.length c0_2, .slice A0_3 l0_3.length c0_3]] w fun e w' => e = .returned (.bool r) ∧ Below w.heap.size w w' := by
 have hu56 := Try.underlying56
 have HR0_1 := Aside0.mk hr0_1
 have HC0_1 := Aside0.mk hc0_1
 clear hr0_1 hc0_1
 have HR0_2 := Aside0.mk hr0_2
 have HC0_2 := Aside0.mk hc0_2
 clear hr0_2 hc0_2
 have HR0_3 := Aside0.mk hr0_3
 have HC0_3 := Aside0.mk hc0_3
 clear hr0_3 hc0_3
 have HB := Aside0.mk (Below.refl w.heap.size w)
 have H : ((qbs.f a0_0 l0_1 l0_2 l0_3).bind fun t207 => (if t207 = true then (some true) else (if a0_0 = true then ((qbg.f (l0_1.length : Int) 1 3).bind fun t208 => (if t208 = true then ((qap.f k l0_1).bind fun t209 => (if t209 = true then (if (l0_2.length : Int) = 0 then (some ((l0_3.length : Int) == 0)) else (some false)) else (some false))) else (some false))) else (if (l0_1.length : Int) > 0 then (qaH.j0 k true a0_0 l0_1 l0_2 l0_3) else ((qbg.f (l0_3.length : Int) 1 4).bind fun t210 => (if t210 = true then (qaH.j0 k ((l0_2.length : Int) != (l0_3.length : Int)) a0_0 l0_1 l0_2 l0_3) else (qaH.j0 k true a0_0 l0_1 l0_2 l0_3))))))) = some r := h
 clear h
 replace H := Option.bind_eq_some_iff.mp H
 obtain ⟨t207, A20, H⟩ := H
 replace H : (if t207 = true then (some true) else (if a0_0 = true then ((qbg.f (l0_1.length : Int) 1 3).bind fun t208 => (if t208 = true then ((qap.f k l0_1).bind fun t209 => (if t209 = true then (if (l0_2.length : Int) = 0 then (some ((l0_3.length : Int) == 0)) else (some false)) else (some false))) else (some false))) else (if (l0_1.length : Int) > 0 then (qaH.j0 k true a0_0 l0_1 l0_2 l0_3) else ((qbg.f (l0_3.length : Int) 1 4).bind fun t210 => (if t210 = true then (qaH.j0 k ((l0_2.length : Int) != (l0_3.length : Int)) a0_0 l0_1 l0_2 l0_3) else (qaH.j0 k true a0_0 l0_1 l0_2 l0_3)))))) = some r := H
 have A2 := Aside0.mk A20
 clear A20
 by_cases c3 : t207 = true
 ·subst c3
  have H1 : (some true) = some r := by rw [if_pos rfl] at H; exact H
  clear H
  have H := H1
  clear H1
  obtain rfl := Option.some.inj H
  go_enter Try.func82, Try.ntmps82
  go_wp2_with (first | ((with_reducible refine qaQ (N := 1) rfl ?_); (try (refine qbo (by rfl) ?_; dsimp only)); refine qaL ?hg (N := 1) ?hd (cs := #[.bool a0_0, .slice A0_1 l0_1.length c0_1, .slice A0_2 l0_2.length c0_2, .slice A0_3 l0_3.length c0_3]) (t := 56) ?hr ?_; (case hd => rfl); (case hg => rfl); (case hr => first | (go_simp; done) | (go_simp; rfl)); intro gb206 hg w4 hbox hb; have n0_ := Aside0.mk (qai (by repeat (first | (with_reducible first | exact HB.out | apply qab | apply qaa | apply qac) | exact HB.out)) hb); have n1_ := Aside0.mk (hbox); have n2_ := Aside0.mk ((by rw [hg]; exact (qaj (by repeat (first | (with_reducible first | exact HB.out | apply qab | apply qaa | apply qac) | exact HB.out))) : w.heap.size ≤ gb206)); have n3_ := Aside0.mk ((by rw [hg]; exact (qaj (by repeat (first | (with_reducible first | exact HB.out | apply qab | apply qaa | apply qac) | exact HB.out))) : w.heap.size ≤ gb206)); clear HB; have HB := n0_; have BK206 := n1_; have GW206 := n2_; have GE206 := n3_; clear n0_ n1_ n2_ n3_; clear hb hbox hg; have hcz5_0 : w4.cell? ⟨gb206, 0, none⟩ = some (.bool a0_0) := (qae BK206.out 0).trans rfl; have hcz5_1 : w4.cell? ⟨gb206, 1, none⟩ = some (.slice A0_1 l0_1.length c0_1) := (qae BK206.out 1).trans rfl; have hcz5_2 : w4.cell? ⟨gb206, 2, none⟩ = some (.slice A0_2 l0_2.length c0_2) := (qae BK206.out 2).trans rfl; have hcz5_3 : w4.cell? ⟨gb206, 3, none⟩ = some (.slice A0_3 l0_3.length c0_3) := (qae BK206.out 3).trans rfl; have hfz5_0 := qad BK206.out 0; have hfz5_1 := qad BK206.out 1; have hfz5_2 := qad BK206.out 2; have hfz5_3 := qad BK206.out 3) | ((with_reducible refine qax (f := 83) rfl ?_); refine qbl (some 6) rfl rfl Try.func83 (by kernel_rfl) rfl #[.agg #[.bool a0_0, .slice A0_1 l0_1.length c0_1, .slice A0_2 l0_2.length c0_2, .slice A0_3 l0_3.length c0_3]] rfl (by (try simp only [List.map_toArray, List.map_cons, List.map_nil]); first | done | rfl | (simp only [List.length_drop, List.length_take]; rfl)) ?_; (with_reducible refine (qbs.calls a0_0 _ _ l0_1 _ _ l0_2 _ _ l0_3 true _ ?side1 ?side2 ?side3 ?side4 ?side5 ?side6 A2.out).mono ?_); (case side1 => repeat (first | exact (Kd.qav HR0_1.out HB.out) | (with_reducible refine Kd.qaM ?_ _) | (with_reducible refine Kd.qaN ?_ _) | (with_reducible refine Kd.qa2 ?_))); (case side2 => exact HC0_1.out); (case side3 => repeat (first | exact (Kd.qav HR0_2.out HB.out) | (with_reducible refine Kd.qaM ?_ _) | (with_reducible refine Kd.qaN ?_ _) | (with_reducible refine Kd.qa2 ?_))); (case side4 => exact HC0_2.out); (case side5 => repeat (first | exact (Kd.qav HR0_3.out HB.out) | (with_reducible refine Kd.qaM ?_ _) | (with_reducible refine Kd.qaN ?_ _) | (with_reducible refine Kd.qa2 ?_))); (case side6 => exact HC0_3.out); rintro e w6 ⟨rfl, hb⟩; refine ⟨_, rfl, ?_⟩; have n0_ := Aside0.mk (qar (g := gb206) (o := .cells #[.bool a0_0, .slice A0_1 l0_1.length c0_1, .slice A0_2 l0_2.length c0_2, .slice A0_3 l0_3.length c0_3] 56 (0, 0)) (by (with_reducible repeat (first | refine qan ?_ _ | refine qao ?_ | refine qak ?_ _)); exact BK206.out) hb); have n1_ := Aside0.mk (qai (by repeat (first | (with_reducible first | exact HB.out | apply qab | apply qaa | apply qac | refine qaf ?_ GE206.out) | exact HB.out)) hb); clear BK206; clear HB; have BK206 := n0_; have HB := n1_; clear n0_ n1_; (try clear hb); (try clear hb2); (try clear hk); (try clear hi)))
  go_ret
  exact ⟨by first | rfl | (simp [qal, qam] <;> rfl) | (simp [*, qal, qam] <;> rfl), by repeat (first | (with_reducible first | exact HB.out | apply qab | apply qaa | apply qac | refine qaf ?_ GE206.out) | exact HB.out)⟩
 ·replace c3 := Bool.eq_false_iff.mpr c3
  subst c3
  have H1 : (if a0_0 = true then ((qbg.f (l0_1.length : Int) 1 3).bind fun t208 => (if t208 = true then ((qap.f k l0_1).bind fun t209 => (if t209 = true then (if (l0_2.length : Int) = 0 then (some ((l0_3.length : Int) == 0)) else (some false)) else (some false))) else (some false))) else (if (l0_1.length : Int) > 0 then (qaH.j0 k true a0_0 l0_1 l0_2 l0_3) else ((qbg.f (l0_3.length : Int) 1 4).bind fun t210 => (if t210 = true then (qaH.j0 k ((l0_2.length : Int) != (l0_3.length : Int)) a0_0 l0_1 l0_2 l0_3) else (qaH.j0 k true a0_0 l0_1 l0_2 l0_3))))) = some r := by rw [if_neg (show ¬ (false = true) by decide)] at H; exact H
  clear H
  have H := H1
  clear H1
  by_cases c7 : a0_0 = true
  ·subst c7
   have H1 : ((qbg.f (l0_1.length : Int) 1 3).bind fun t208 => (if t208 = true then ((qap.f k l0_1).bind fun t209 => (if t209 = true then (if (l0_2.length : Int) = 0 then (some ((l0_3.length : Int) == 0)) else (some false)) else (some false))) else (some false))) = some r := by rw [if_pos rfl] at H; exact H
   clear H
   have H := H1
   clear H1
   replace H := Option.bind_eq_some_iff.mp H
   obtain ⟨t208, A80, H⟩ := H
   replace H : (if t208 = true then ((qap.f k l0_1).bind fun t209 => (if t209 = true then (if (l0_2.length : Int) = 0 then (some ((l0_3.length : Int) == 0)) else (some false)) else (some false))) else (some false)) = some r := H
   have A8 := Aside0.mk A80
   clear A80
   by_cases c9 : t208 = true
   ·subst c9
    have H1 : ((qap.f k l0_1).bind fun t209 => (if t209 = true then (if (l0_2.length : Int) = 0 then (some ((l0_3.length : Int) == 0)) else (some false)) else (some false))) = some r := by rw [if_pos rfl] at H; exact H
    clear H
    have H := H1
    clear H1
    replace H := Option.bind_eq_some_iff.mp H
    obtain ⟨t209, A100, H⟩ := H
    replace H : (if t209 = true then (if (l0_2.length : Int) = 0 then (some ((l0_3.length : Int) == 0)) else (some false)) else (some false)) = some r := H
    have A10 := Aside0.mk A100
    clear A100
    by_cases c11 : t209 = true
    ·subst c11
     have H1 : (if (l0_2.length : Int) = 0 then (some ((l0_3.length : Int) == 0)) else (some false)) = some r := by rw [if_pos rfl] at H; exact H
     clear H
     have H := H1
     clear H1
     by_cases c12 : (l0_2.length : Int) = 0
     ·rw [if_pos c12] at H
      have c12b0 : ((l0_2.length : Int) == 0) = true := beq_iff_eq.mpr c12
      have c12b1 : ((l0_2.length : Int) != 0) = false := bne_eq_false_iff_eq.mpr c12
      clear c12
      obtain rfl := Option.some.inj H
      go_enter Try.func82, Try.ntmps82
      go_wp2_with (first | ((with_reducible refine qaQ (N := 1) rfl ?_); (try (refine qbo (by rfl) ?_; dsimp only)); refine qaL ?hg (N := 1) ?hd (cs := #[.bool true, .slice A0_1 l0_1.length c0_1, .slice A0_2 l0_2.length c0_2, .slice A0_3 l0_3.length c0_3]) (t := 56) ?hr ?_; (case hd => rfl); (case hg => rfl); (case hr => first | (go_simp; done) | (go_simp; rfl)); intro gb206 hg w13 hbox hb; have n0_ := Aside0.mk (qai (by repeat (first | (with_reducible first | exact HB.out | apply qab | apply qaa | apply qac) | exact HB.out)) hb); have n1_ := Aside0.mk (hbox); have n2_ := Aside0.mk ((by rw [hg]; exact (qaj (by repeat (first | (with_reducible first | exact HB.out | apply qab | apply qaa | apply qac) | exact HB.out))) : w.heap.size ≤ gb206)); have n3_ := Aside0.mk ((by rw [hg]; exact (qaj (by repeat (first | (with_reducible first | exact HB.out | apply qab | apply qaa | apply qac) | exact HB.out))) : w.heap.size ≤ gb206)); clear HB; have HB := n0_; have BK206 := n1_; have GW206 := n2_; have GE206 := n3_; clear n0_ n1_ n2_ n3_; clear hb hbox hg; have hcz14_0 : w13.cell? ⟨gb206, 0, none⟩ = some (.bool true) := (qae BK206.out 0).trans rfl; have hcz14_1 : w13.cell? ⟨gb206, 1, none⟩ = some (.slice A0_1 l0_1.length c0_1) := (qae BK206.out 1).trans rfl; have hcz14_2 : w13.cell? ⟨gb206, 2, none⟩ = some (.slice A0_2 l0_2.length c0_2) := (qae BK206.out 2).trans rfl; have hcz14_3 : w13.cell? ⟨gb206, 3, none⟩ = some (.slice A0_3 l0_3.length c0_3) := (qae BK206.out 3).trans rfl; have hfz14_0 := qad BK206.out 0; have hfz14_1 := qad BK206.out 1; have hfz14_2 := qad BK206.out 2; have hfz14_3 := qad BK206.out 3) | ((with_reducible refine qax (f := 83) rfl ?_); refine qbl (some 6) rfl rfl Try.func83 (by kernel_rfl) rfl #[.agg #[.bool true, .slice A0_1 l0_1.length c0_1, .slice A0_2 l0_2.length c0_2, .slice A0_3 l0_3.length c0_3]] rfl (by (try simp only [List.map_toArray, List.map_cons, List.map_nil]); first | done | rfl | (simp only [List.length_drop, List.length_take]; rfl)) ?_; (with_reducible refine (qbs.calls true _ _ l0_1 _ _ l0_2 _ _ l0_3 false _ ?side1 ?side2 ?side3 ?side4 ?side5 ?side6 A2.out).mono ?_); (case side1 => repeat (first | exact (Kd.qav HR0_1.out HB.out) | (with_reducible refine Kd.qaM ?_ _) | (with_reducible refine Kd.qaN ?_ _) | (with_reducible refine Kd.qa2 ?_))); (case side2 => exact HC0_1.out); (case side3 => repeat (first | exact (Kd.qav HR0_2.out HB.out) | (with_reducible refine Kd.qaM ?_ _) | (with_reducible refine Kd.qaN ?_ _) | (with_reducible refine Kd.qa2 ?_))); (case side4 => exact HC0_2.out); (case side5 => repeat (first | exact (Kd.qav HR0_3.out HB.out) | (with_reducible refine Kd.qaM ?_ _) | (with_reducible refine Kd.qaN ?_ _) | (with_reducible refine Kd.qa2 ?_))); (case side6 => exact HC0_3.out); rintro e w15 ⟨rfl, hb⟩; refine ⟨_, rfl, ?_⟩; have n0_ := Aside0.mk (qar (g := gb206) (o := .cells #[.bool true, .slice A0_1 l0_1.length c0_1, .slice A0_2 l0_2.length c0_2, .slice A0_3 l0_3.length c0_3] 56 (0, 0)) (by (with_reducible repeat (first | refine qan ?_ _ | refine qao ?_ | refine qak ?_ _)); exact BK206.out) hb); have n1_ := Aside0.mk (qai (by repeat (first | (with_reducible first | exact HB.out | apply qab | apply qaa | apply qac | refine qaf ?_ GE206.out) | exact HB.out)) hb); clear BK206; clear HB; have BK206 := n0_; have HB := n1_; clear n0_ n1_; (try clear hb); (try clear hb2); (try clear hk); (try clear hi); have hcz16_0 : w15.cell? ⟨gb206, 0, none⟩ = some (.bool true) := (qae BK206.out 0).trans rfl; have hcz16_1 : w15.cell? ⟨gb206, 1, none⟩ = some (.slice A0_1 l0_1.length c0_1) := (qae BK206.out 1).trans rfl; have hcz16_2 : w15.cell? ⟨gb206, 2, none⟩ = some (.slice A0_2 l0_2.length c0_2) := (qae BK206.out 2).trans rfl; have hcz16_3 : w15.cell? ⟨gb206, 3, none⟩ = some (.slice A0_3 l0_3.length c0_3) := (qae BK206.out 3).trans rfl; have hfz16_0 := qad BK206.out 0; have hfz16_1 := qad BK206.out 1; have hfz16_2 := qad BK206.out 2; have hfz16_3 := qad BK206.out 3) | ((with_reducible refine qax (f := 120) rfl ?_); refine qbl (some 12) rfl rfl Try.func120 (by kernel_rfl) rfl #[.int .i64 (l0_1.length : Int), .int .i64 1, .int .i64 3] rfl (by (try simp only [List.map_toArray, List.map_cons, List.map_nil]); first | done | rfl | (simp only [List.length_drop, List.length_take]; rfl)) ?_; (with_reducible refine (qbg.calls (l0_1.length : Int) 1 3 true _ A8.out).mono ?_); rintro e w' ⟨rfl, ⟨nd, rfl⟩⟩; refine ⟨_, rfl, ?_⟩) | (go_at_call 129; (with_reducible refine (qap.calls k _ _ l0_1 true _ ?side1 ?side2 A10.out).mono ?_); (case side1 => repeat (first | exact (Kd.qav HR0_1.out (by repeat (first | (with_reducible first | exact HB.out | apply qab | apply qaa | apply qac | refine qaf ?_ GE206.out) | exact HB.out))) | (with_reducible refine Kd.qaM ?_ _) | (with_reducible refine Kd.qaN ?_ _) | (with_reducible refine Kd.qa2 ?_))); (case side2 => exact HC0_1.out); rintro e w17 ⟨rfl, hb⟩; have n0_ := Aside0.mk (qar (g := gb206) (o := .cells #[.bool true, .slice A0_1 l0_1.length c0_1, .slice A0_2 l0_2.length c0_2, .slice A0_3 l0_3.length c0_3] 56 (0, 0)) (by (with_reducible repeat (first | refine qan ?_ _ | refine qao ?_ | refine qak ?_ _)); exact BK206.out) hb); have n1_ := Aside0.mk (qai (by repeat (first | (with_reducible first | exact HB.out | apply qab | apply qaa | apply qac | refine qaf ?_ GE206.out) | exact HB.out)) hb); clear BK206; clear HB; have BK206 := n0_; have HB := n1_; clear n0_ n1_; (try clear hb); (try clear hb2); (try clear hk); (try clear hi); have hcz18_0 : w17.cell? ⟨gb206, 0, none⟩ = some (.bool true) := (qae BK206.out 0).trans rfl; have hcz18_1 : w17.cell? ⟨gb206, 1, none⟩ = some (.slice A0_1 l0_1.length c0_1) := (qae BK206.out 1).trans rfl; have hcz18_2 : w17.cell? ⟨gb206, 2, none⟩ = some (.slice A0_2 l0_2.length c0_2) := (qae BK206.out 2).trans rfl; have hcz18_3 : w17.cell? ⟨gb206, 3, none⟩ = some (.slice A0_3 l0_3.length c0_3) := (qae BK206.out 3).trans rfl; have hfz18_0 := qad BK206.out 0; have hfz18_1 := qad BK206.out 1; have hfz18_2 := qad BK206.out 2; have hfz18_3 := qad BK206.out 3))
      go_ret
      exact ⟨by first | rfl | (simp [qal, qam] <;> rfl) | (simp [*, qal, qam] <;> rfl), by repeat (first | (with_reducible first | exact HB.out | apply qab | apply qaa | apply qac | refine qaf ?_ GE206.out) | exact HB.out)⟩
     ·rw [if_neg c12] at H
      have c12b0 : ((l0_2.length : Int) == 0) = false := beq_eq_false_iff_ne.mpr c12
      have c12b1 : ((l0_2.length : Int) != 0) = true := bne_iff_ne.mpr c12
      have c12b2 : ¬ (l0_2 = []) := fun h_ => c12 (by rw [h_]; rfl)
      obtain rfl := Option.some.inj H
      go_enter Try.func82, Try.ntmps82
      go_wp2_with (first | ((with_reducible refine qaQ (N := 1) rfl ?_); (try (refine qbo (by rfl) ?_; dsimp only)); refine qaL ?hg (N := 1) ?hd (cs := #[.bool true, .slice A0_1 l0_1.length c0_1, .slice A0_2 l0_2.length c0_2, .slice A0_3 l0_3.length c0_3]) (t := 56) ?hr ?_; (case hd => rfl); (case hg => rfl); (case hr => first | (go_simp; done) | (go_simp; rfl)); intro gb206 hg w19 hbox hb; have n0_ := Aside0.mk (qai (by repeat (first | (with_reducible first | exact HB.out | apply qab | apply qaa | apply qac) | exact HB.out)) hb); have n1_ := Aside0.mk (hbox); have n2_ := Aside0.mk ((by rw [hg]; exact (qaj (by repeat (first | (with_reducible first | exact HB.out | apply qab | apply qaa | apply qac) | exact HB.out))) : w.heap.size ≤ gb206)); have n3_ := Aside0.mk ((by rw [hg]; exact (qaj (by repeat (first | (with_reducible first | exact HB.out | apply qab | apply qaa | apply qac) | exact HB.out))) : w.heap.size ≤ gb206)); clear HB; have HB := n0_; have BK206 := n1_; have GW206 := n2_; have GE206 := n3_; clear n0_ n1_ n2_ n3_; clear hb hbox hg; have hcz20_0 : w19.cell? ⟨gb206, 0, none⟩ = some (.bool true) := (qae BK206.out 0).trans rfl; have hcz20_1 : w19.cell? ⟨gb206, 1, none⟩ = some (.slice A0_1 l0_1.length c0_1) := (qae BK206.out 1).trans rfl; have hcz20_2 : w19.cell? ⟨gb206, 2, none⟩ = some (.slice A0_2 l0_2.length c0_2) := (qae BK206.out 2).trans rfl; have hcz20_3 : w19.cell? ⟨gb206, 3, none⟩ = some (.slice A0_3 l0_3.length c0_3) := (qae BK206.out 3).trans rfl; have hfz20_0 := qad BK206.out 0; have hfz20_1 := qad BK206.out 1; have hfz20_2 := qad BK206.out 2; have hfz20_3 := qad BK206.out 3) | ((with_reducible refine qax (f := 83) rfl ?_); refine qbl (some 6) rfl rfl Try.func83 (by kernel_rfl) rfl #[.agg #[.bool true, .slice A0_1 l0_1.length c0_1, .slice A0_2 l0_2.length c0_2, .slice A0_3 l0_3.length c0_3]] rfl (by (try simp only [List.map_toArray, List.map_cons, List.map_nil]); first | done | rfl | (simp only [List.length_drop, List.length_take]; rfl)) ?_; (with_reducible refine (qbs.calls true _ _ l0_1 _ _ l0_2 _ _ l0_3 false _ ?side1 ?side2 ?side3 ?side4 ?side5 ?side6 A2.out).mono ?_); (case side1 => repeat (first | exact (Kd.qav HR0_1.out HB.out) | (with_reducible refine Kd.qaM ?_ _) | (with_reducible refine Kd.qaN ?_ _) | (with_reducible refine Kd.qa2 ?_))); (case side2 => exact HC0_1.out); (case side3 => repeat (first | exact (Kd.qav HR0_2.out HB.out) | (with_reducible refine Kd.qaM ?_ _) | (with_reducible refine Kd.qaN ?_ _) | (with_reducible refine Kd.qa2 ?_))); (case side4 => exact HC0_2.out); (case side5 => repeat (first | exact (Kd.qav HR0_3.out HB.out) | (with_reducible refine Kd.qaM ?_ _) | (with_reducible refine Kd.qaN ?_ _) | (with_reducible refine Kd.qa2 ?_))); (case side6 => exact HC0_3.out); rintro e w21 ⟨rfl, hb⟩; refine ⟨_, rfl, ?_⟩; have n0_ := Aside0.mk (qar (g := gb206) (o := .cells #[.bool true, .slice A0_1 l0_1.length c0_1, .slice A0_2 l0_2.length c0_2, .slice A0_3 l0_3.length c0_3] 56 (0, 0)) (by (with_reducible repeat (first | refine qan ?_ _ | refine qao ?_ | refine qak ?_ _)); exact BK206.out) hb); have n1_ := Aside0.mk (qai (by repeat (first | (with_reducible first | exact HB.out | apply qab | apply qaa | apply qac | refine qaf ?_ GE206.out) | exact HB.out)) hb); clear BK206; clear HB; have BK206 := n0_; have HB := n1_; clear n0_ n1_; (try clear hb); (try clear hb2); (try clear hk); (try clear hi); have hcz22_0 : w21.cell? ⟨gb206, 0, none⟩ = some (.bool true) := (qae BK206.out 0).trans rfl; have hcz22_1 : w21.cell? ⟨gb206, 1, none⟩ = some (.slice A0_1 l0_1.length c0_1) := (qae BK206.out 1).trans rfl; have hcz22_2 : w21.cell? ⟨gb206, 2, none⟩ = some (.slice A0_2 l0_2.length c0_2) := (qae BK206.out 2).trans rfl; have hcz22_3 : w21.cell? ⟨gb206, 3, none⟩ = some (.slice A0_3 l0_3.length c0_3) := (qae BK206.out 3).trans rfl; have hfz22_0 := qad BK206.out 0; have hfz22_1 := qad BK206.out 1; have hfz22_2 := qad BK206.out 2; have hfz22_3 := qad BK206.out 3) | ((with_reducible refine qax (f := 120) rfl ?_); refine qbl (some 12) rfl rfl Try.func120 (by kernel_rfl) rfl #[.int .i64 (l0_1.length : Int), .int .i64 1, .int .i64 3] rfl (by (try simp only [List.map_toArray, List.map_cons, List.map_nil]); first | done | rfl | (simp only [List.length_drop, List.length_take]; rfl)) ?_; (with_reducible refine (qbg.calls (l0_1.length : Int) 1 3 true _ A8.out).mono ?_); rintro e w' ⟨rfl, ⟨nd, rfl⟩⟩; refine ⟨_, rfl, ?_⟩) | (go_at_call 129; (with_reducible refine (qap.calls k _ _ l0_1 true _ ?side1 ?side2 A10.out).mono ?_); (case side1 => repeat (first | exact (Kd.qav HR0_1.out (by repeat (first | (with_reducible first | exact HB.out | apply qab | apply qaa | apply qac | refine qaf ?_ GE206.out) | exact HB.out))) | (with_reducible refine Kd.qaM ?_ _) | (with_reducible refine Kd.qaN ?_ _) | (with_reducible refine Kd.qa2 ?_))); (case side2 => exact HC0_1.out); rintro e w23 ⟨rfl, hb⟩; have n0_ := Aside0.mk (qar (g := gb206) (o := .cells #[.bool true, .slice A0_1 l0_1.length c0_1, .slice A0_2 l0_2.length c0_2, .slice A0_3 l0_3.length c0_3] 56 (0, 0)) (by (with_reducible repeat (first | refine qan ?_ _ | refine qao ?_ | refine qak ?_ _)); exact BK206.out) hb); have n1_ := Aside0.mk (qai (by repeat (first | (with_reducible first | exact HB.out | apply qab | apply qaa | apply qac | refine qaf ?_ GE206.out) | exact HB.out)) hb); clear BK206; clear HB; have BK206 := n0_; have HB := n1_; clear n0_ n1_; (try clear hb); (try clear hb2); (try clear hk); (try clear hi); have hcz24_0 : w23.cell? ⟨gb206, 0, none⟩ = some (.bool true) := (qae BK206.out 0).trans rfl; have hcz24_1 : w23.cell? ⟨gb206, 1, none⟩ = some (.slice A0_1 l0_1.length c0_1) := (qae BK206.out 1).trans rfl; have hcz24_2 : w23.cell? ⟨gb206, 2, none⟩ = some (.slice A0_2 l0_2.length c0_2) := (qae BK206.out 2).trans rfl; have hcz24_3 : w23.cell? ⟨gb206, 3, none⟩ = some (.slice A0_3 l0_3.length c0_3) := (qae BK206.out 3).trans rfl; have hfz24_0 := qad BK206.out 0; have hfz24_1 := qad BK206.out 1; have hfz24_2 := qad BK206.out 2; have hfz24_3 := qad BK206.out 3))
      go_ret
      exact ⟨by first | rfl | (simp [qal, qam] <;> rfl) | (simp [*, qal, qam] <;> rfl), by repeat (first | (with_reducible first | exact HB.out | apply qab | apply qaa | apply qac | refine qaf ?_ GE206.out) | exact HB.out)⟩
    ·replace c11 := Bool.eq_false_iff.mpr c11
     subst c11
     have H1 : (some false) = some r := by rw [if_neg (show ¬ (false = true) by decide)] at H; exact H
     clear H
     have H := H1
     clear H1
     obtain rfl := Option.some.inj H
     go_enter Try.func82, Try.ntmps82
     go_wp2_with (first | ((with_reducible refine qaQ (N := 1) rfl ?_); (try (refine qbo (by rfl) ?_; dsimp only)); refine qaL ?hg (N := 1) ?hd (cs := #[.bool true, .slice A0_1 l0_1.length c0_1, .slice A0_2 l0_2.length c0_2, .slice A0_3 l0_3.length c0_3]) (t := 56) ?hr ?_; (case hd => rfl); (case hg => rfl); (case hr => first | (go_simp; done) | (go_simp; rfl)); intro gb206 hg w25 hbox hb; have n0_ := Aside0.mk (qai (by repeat (first | (with_reducible first | exact HB.out | apply qab | apply qaa | apply qac) | exact HB.out)) hb); have n1_ := Aside0.mk (hbox); have n2_ := Aside0.mk ((by rw [hg]; exact (qaj (by repeat (first | (with_reducible first | exact HB.out | apply qab | apply qaa | apply qac) | exact HB.out))) : w.heap.size ≤ gb206)); have n3_ := Aside0.mk ((by rw [hg]; exact (qaj (by repeat (first | (with_reducible first | exact HB.out | apply qab | apply qaa | apply qac) | exact HB.out))) : w.heap.size ≤ gb206)); clear HB; have HB := n0_; have BK206 := n1_; have GW206 := n2_; have GE206 := n3_; clear n0_ n1_ n2_ n3_; clear hb hbox hg; have hcz26_0 : w25.cell? ⟨gb206, 0, none⟩ = some (.bool true) := (qae BK206.out 0).trans rfl; have hcz26_1 : w25.cell? ⟨gb206, 1, none⟩ = some (.slice A0_1 l0_1.length c0_1) := (qae BK206.out 1).trans rfl; have hcz26_2 : w25.cell? ⟨gb206, 2, none⟩ = some (.slice A0_2 l0_2.length c0_2) := (qae BK206.out 2).trans rfl; have hcz26_3 : w25.cell? ⟨gb206, 3, none⟩ = some (.slice A0_3 l0_3.length c0_3) := (qae BK206.out 3).trans rfl; have hfz26_0 := qad BK206.out 0; have hfz26_1 := qad BK206.out 1; have hfz26_2 := qad BK206.out 2; have hfz26_3 := qad BK206.out 3) | ((with_reducible refine qax (f := 83) rfl ?_); refine qbl (some 6) rfl rfl Try.func83 (by kernel_rfl) rfl #[.agg #[.bool true, .slice A0_1 l0_1.length c0_1, .slice A0_2 l0_2.length c0_2, .slice A0_3 l0_3.length c0_3]] rfl (by (try simp only [List.map_toArray, List.map_cons, List.map_nil]); first | done | rfl | (simp only [List.length_drop, List.length_take]; rfl)) ?_; (with_reducible refine (qbs.calls true _ _ l0_1 _ _ l0_2 _ _ l0_3 false _ ?side1 ?side2 ?side3 ?side4 ?side5 ?side6 A2.out).mono ?_); (case side1 => repeat (first | exact (Kd.qav HR0_1.out HB.out) | (with_reducible refine Kd.qaM ?_ _) | (with_reducible refine Kd.qaN ?_ _) | (with_reducible refine Kd.qa2 ?_))); (case side2 => exact HC0_1.out); (case side3 => repeat (first | exact (Kd.qav HR0_2.out HB.out) | (with_reducible refine Kd.qaM ?_ _) | (with_reducible refine Kd.qaN ?_ _) | (with_reducible refine Kd.qa2 ?_))); (case side4 => exact HC0_2.out); (case side5 => repeat (first | exact (Kd.qav HR0_3.out HB.out) | (with_reducible refine Kd.qaM ?_ _) | (with_reducible refine Kd.qaN ?_ _) | (with_reducible refine Kd.qa2 ?_))); (case side6 => exact HC0_3.out); rintro e w27 ⟨rfl, hb⟩; refine ⟨_, rfl, ?_⟩; have n0_ := Aside0.mk (qar (g := gb206) (o := .cells #[.bool true, .slice A0_1 l0_1.length c0_1, .slice A0_2 l0_2.length c0_2, .slice A0_3 l0_3.length c0_3] 56 (0, 0)) (by (with_reducible repeat (first | refine qan ?_ _ | refine qao ?_ | refine qak ?_ _)); exact BK206.out) hb); have n1_ := Aside0.mk (qai (by repeat (first | (with_reducible first | exact HB.out | apply qab | apply qaa | apply qac | refine qaf ?_ GE206.out) | exact HB.out)) hb); clear BK206; clear HB; have BK206 := n0_; have HB := n1_; clear n0_ n1_; (try clear hb); (try clear hb2); (try clear hk); (try clear hi); have hcz28_0 : w27.cell? ⟨gb206, 0, none⟩ = some (.bool true) := (qae BK206.out 0).trans rfl; have hcz28_1 : w27.cell? ⟨gb206, 1, none⟩ = some (.slice A0_1 l0_1.length c0_1) := (qae BK206.out 1).trans rfl; have hcz28_2 : w27.cell? ⟨gb206, 2, none⟩ = some (.slice A0_2 l0_2.length c0_2) := (qae BK206.out 2).trans rfl; have hcz28_3 : w27.cell? ⟨gb206, 3, none⟩ = some (.slice A0_3 l0_3.length c0_3) := (qae BK206.out 3).trans rfl; have hfz28_0 := qad BK206.out 0; have hfz28_1 := qad BK206.out 1; have hfz28_2 := qad BK206.out 2; have hfz28_3 := qad BK206.out 3) | ((with_reducible refine qax (f := 120) rfl ?_); refine qbl (some 12) rfl rfl Try.func120 (by kernel_rfl) rfl #[.int .i64 (l0_1.length : Int), .int .i64 1, .int .i64 3] rfl (by (try simp only [List.map_toArray, List.map_cons, List.map_nil]); first | done | rfl | (simp only [List.length_drop, List.length_take]; rfl)) ?_; (with_reducible refine (qbg.calls (l0_1.length : Int) 1 3 true _ A8.out).mono ?_); rintro e w' ⟨rfl, ⟨nd, rfl⟩⟩; refine ⟨_, rfl, ?_⟩) | (go_at_call 129; (with_reducible refine (qap.calls k _ _ l0_1 false _ ?side1 ?side2 A10.out).mono ?_); (case side1 => repeat (first | exact (Kd.qav HR0_1.out (by repeat (first | (with_reducible first | exact HB.out | apply qab | apply qaa | apply qac | refine qaf ?_ GE206.out) | exact HB.out))) | (with_reducible refine Kd.qaM ?_ _) | (with_reducible refine Kd.qaN ?_ _) | (with_reducible refine Kd.qa2 ?_))); (case side2 => exact HC0_1.out); rintro e w29 ⟨rfl, hb⟩; have n0_ := Aside0.mk (qar (g := gb206) (o := .cells #[.bool true, .slice A0_1 l0_1.length c0_1, .slice A0_2 l0_2.length c0_2, .slice A0_3 l0_3.length c0_3] 56 (0, 0)) (by (with_reducible repeat (first | refine qan ?_ _ | refine qao ?_ | refine qak ?_ _)); exact BK206.out) hb); have n1_ := Aside0.mk (qai (by repeat (first | (with_reducible first | exact HB.out | apply qab | apply qaa | apply qac | refine qaf ?_ GE206.out) | exact HB.out)) hb); clear BK206; clear HB; have BK206 := n0_; have HB := n1_; clear n0_ n1_; (try clear hb); (try clear hb2); (try clear hk); (try clear hi)))
     go_ret
     exact ⟨by first | rfl | (simp [qal, qam] <;> rfl) | (simp [*, qal, qam] <;> rfl), by repeat (first | (with_reducible first | exact HB.out | apply qab | apply qaa | apply qac | refine qaf ?_ GE206.out) | exact HB.out)⟩
   ·replace c9 := Bool.eq_false_iff.mpr c9
    subst c9
    have H1 : (some false) = some r := by rw [if_neg (show ¬ (false = true) by decide)] at H; exact H
    clear H
    have H := H1
    clear H1
    obtain rfl := Option.some.inj H
    go_enter Try.func82, Try.ntmps82
    go_wp2_with (first | ((with_reducible refine qaQ (N := 1) rfl ?_); (try (refine qbo (by rfl) ?_; dsimp only)); refine qaL ?hg (N := 1) ?hd (cs := #[.bool true, .slice A0_1 l0_1.length c0_1, .slice A0_2 l0_2.length c0_2, .slice A0_3 l0_3.length c0_3]) (t := 56) ?hr ?_; (case hd => rfl); (case hg => rfl); (case hr => first | (go_simp; done) | (go_simp; rfl)); intro gb206 hg w30 hbox hb; have n0_ := Aside0.mk (qai (by repeat (first | (with_reducible first | exact HB.out | apply qab | apply qaa | apply qac) | exact HB.out)) hb); have n1_ := Aside0.mk (hbox); have n2_ := Aside0.mk ((by rw [hg]; exact (qaj (by repeat (first | (with_reducible first | exact HB.out | apply qab | apply qaa | apply qac) | exact HB.out))) : w.heap.size ≤ gb206)); have n3_ := Aside0.mk ((by rw [hg]; exact (qaj (by repeat (first | (with_reducible first | exact HB.out | apply qab | apply qaa | apply qac) | exact HB.out))) : w.heap.size ≤ gb206)); clear HB; have HB := n0_; have BK206 := n1_; have GW206 := n2_; have GE206 := n3_; clear n0_ n1_ n2_ n3_; clear hb hbox hg; have hcz31_0 : w30.cell? ⟨gb206, 0, none⟩ = some (.bool true) := (qae BK206.out 0).trans rfl; have hcz31_1 : w30.cell? ⟨gb206, 1, none⟩ = some (.slice A0_1 l0_1.length c0_1) := (qae BK206.out 1).trans rfl; have hcz31_2 : w30.cell? ⟨gb206, 2, none⟩ = some (.slice A0_2 l0_2.length c0_2) := (qae BK206.out 2).trans rfl; have hcz31_3 : w30.cell? ⟨gb206, 3, none⟩ = some (.slice A0_3 l0_3.length c0_3) := (qae BK206.out 3).trans rfl; have hfz31_0 := qad BK206.out 0; have hfz31_1 := qad BK206.out 1; have hfz31_2 := qad BK206.out 2; have hfz31_3 := qad BK206.out 3) | ((with_reducible refine qax (f := 83) rfl ?_); refine qbl (some 6) rfl rfl Try.func83 (by kernel_rfl) rfl #[.agg #[.bool true, .slice A0_1 l0_1.length c0_1, .slice A0_2 l0_2.length c0_2, .slice A0_3 l0_3.length c0_3]] rfl (by (try simp only [List.map_toArray, List.map_cons, List.map_nil]); first | done | rfl | (simp only [List.length_drop, List.length_take]; rfl)) ?_; (with_reducible refine (qbs.calls true _ _ l0_1 _ _ l0_2 _ _ l0_3 false _ ?side1 ?side2 ?side3 ?side4 ?side5 ?side6 A2.out).mono ?_); (case side1 => repeat (first | exact (Kd.qav HR0_1.out HB.out) | (with_reducible refine Kd.qaM ?_ _) | (with_reducible refine Kd.qaN ?_ _) | (with_reducible refine Kd.qa2 ?_))); (case side2 => exact HC0_1.out); (case side3 => repeat (first | exact (Kd.qav HR0_2.out HB.out) | (with_reducible refine Kd.qaM ?_ _) | (with_reducible refine Kd.qaN ?_ _) | (with_reducible refine Kd.qa2 ?_))); (case side4 => exact HC0_2.out); (case side5 => repeat (first | exact (Kd.qav HR0_3.out HB.out) | (with_reducible refine Kd.qaM ?_ _) | (with_reducible refine Kd.qaN ?_ _) | (with_reducible refine Kd.qa2 ?_))); (case side6 => exact HC0_3.out); rintro e w32 ⟨rfl, hb⟩; refine ⟨_, rfl, ?_⟩; have n0_ := Aside0.mk (qar (g := gb206) (o := .cells #[.bool true, .slice A0_1 l0_1.length c0_1, .slice A0_2 l0_2.length c0_2, .slice A0_3 l0_3.length c0_3] 56 (0, 0)) (by (with_reducible repeat (first | refine qan ?_ _ | refine qao ?_ | refine qak ?_ _)); exact BK206.out) hb); have n1_ := Aside0.mk (qai (by repeat (first | (with_reducible first | exact HB.out | apply qab | apply qaa | apply qac | refine qaf ?_ GE206.out) | exact HB.out)) hb); clear BK206; clear HB; have BK206 := n0_; have HB := n1_; clear n0_ n1_; (try clear hb); (try clear hb2); (try clear hk); (try clear hi); have hcz33_0 : w32.cell? ⟨gb206, 0, none⟩ = some (.bool true) := (qae BK206.out 0).trans rfl; have hcz33_1 : w32.cell? ⟨gb206, 1, none⟩ = some (.slice A0_1 l0_1.length c0_1) := (qae BK206.out 1).trans rfl; have hcz33_2 : w32.cell? ⟨gb206, 2, none⟩ = some (.slice A0_2 l0_2.length c0_2) := (qae BK206.out 2).trans rfl; have hcz33_3 : w32.cell? ⟨gb206, 3, none⟩ = some (.slice A0_3 l0_3.length c0_3) := (qae BK206.out 3).trans rfl; have hfz33_0 := qad BK206.out 0; have hfz33_1 := qad BK206.out 1; have hfz33_2 := qad BK206.out 2; have hfz33_3 := qad BK206.out 3) | ((with_reducible refine qax (f := 120) rfl ?_); refine qbl (some 12) rfl rfl Try.func120 (by kernel_rfl) rfl #[.int .i64 (l0_1.length : Int), .int .i64 1, .int .i64 3] rfl (by (try simp only [List.map_toArray, List.map_cons, List.map_nil]); first | done | rfl | (simp only [List.length_drop, List.length_take]; rfl)) ?_; (with_reducible refine (qbg.calls (l0_1.length : Int) 1 3 false _ A8.out).mono ?_); rintro e w' ⟨rfl, ⟨nd, rfl⟩⟩; refine ⟨_, rfl, ?_⟩))
    go_ret
    exact ⟨by first | rfl | (simp [qal, qam] <;> rfl) | (simp [*, qal, qam] <;> rfl), by repeat (first | (with_reducible first | exact HB.out | apply qab | apply qaa | apply qac | refine qaf ?_ GE206.out) | exact HB.out)⟩
  ·replace c7 := Bool.eq_false_iff.mpr c7
   subst c7
   have H1 : (if (l0_1.length : Int) > 0 then (qaH.j0 k true false l0_1 l0_2 l0_3) else ((qbg.f (l0_3.length : Int) 1 4).bind fun t210 => (if t210 = true then (qaH.j0 k ((l0_2.length : Int) != (l0_3.length : Int)) false l0_1 l0_2 l0_3) else (qaH.j0 k true false l0_1 l0_2 l0_3)))) = some r := by rw [if_neg (show ¬ (false = true) by decide)] at H; exact H
   clear H
   have H := H1
   clear H1
   have HC34 := Aside0.mk H
   clear H
   go_enter Try.func82, Try.ntmps82
   go_upto_region 5 with (first | ((with_reducible refine qaQ (N := 1) rfl ?_); (try (refine qbo (by rfl) ?_; dsimp only)); refine qaL ?hg (N := 1) ?hd (cs := #[.bool false, .slice A0_1 l0_1.length c0_1, .slice A0_2 l0_2.length c0_2, .slice A0_3 l0_3.length c0_3]) (t := 56) ?hr ?_; (case hd => rfl); (case hg => rfl); (case hr => first | (go_simp; done) | (go_simp; rfl)); intro gb206 hg w35 hbox hb; have n0_ := Aside0.mk (qai (by repeat (first | (with_reducible first | exact HB.out | apply qab | apply qaa | apply qac) | exact HB.out)) hb); have n1_ := Aside0.mk (hbox); have n2_ := Aside0.mk ((by rw [hg]; exact (qaj (by repeat (first | (with_reducible first | exact HB.out | apply qab | apply qaa | apply qac) | exact HB.out))) : w.heap.size ≤ gb206)); have n3_ := Aside0.mk ((by rw [hg]; exact (qaj (by repeat (first | (with_reducible first | exact HB.out | apply qab | apply qaa | apply qac) | exact HB.out))) : w.heap.size ≤ gb206)); clear HB; have HB := n0_; have BK206 := n1_; have GW206 := n2_; have GE206 := n3_; clear n0_ n1_ n2_ n3_; clear hb hbox hg; have hcz36_0 : w35.cell? ⟨gb206, 0, none⟩ = some (.bool false) := (qae BK206.out 0).trans rfl; have hcz36_1 : w35.cell? ⟨gb206, 1, none⟩ = some (.slice A0_1 l0_1.length c0_1) := (qae BK206.out 1).trans rfl; have hcz36_2 : w35.cell? ⟨gb206, 2, none⟩ = some (.slice A0_2 l0_2.length c0_2) := (qae BK206.out 2).trans rfl; have hcz36_3 : w35.cell? ⟨gb206, 3, none⟩ = some (.slice A0_3 l0_3.length c0_3) := (qae BK206.out 3).trans rfl; have hfz36_0 := qad BK206.out 0; have hfz36_1 := qad BK206.out 1; have hfz36_2 := qad BK206.out 2; have hfz36_3 := qad BK206.out 3) | ((with_reducible refine qax (f := 83) rfl ?_); refine qbl (some 6) rfl rfl Try.func83 (by kernel_rfl) rfl #[.agg #[.bool false, .slice A0_1 l0_1.length c0_1, .slice A0_2 l0_2.length c0_2, .slice A0_3 l0_3.length c0_3]] rfl (by (try simp only [List.map_toArray, List.map_cons, List.map_nil]); first | done | rfl | (simp only [List.length_drop, List.length_take]; rfl)) ?_; (with_reducible refine (qbs.calls false _ _ l0_1 _ _ l0_2 _ _ l0_3 false _ ?side1 ?side2 ?side3 ?side4 ?side5 ?side6 A2.out).mono ?_); (case side1 => repeat (first | exact (Kd.qav HR0_1.out HB.out) | (with_reducible refine Kd.qaM ?_ _) | (with_reducible refine Kd.qaN ?_ _) | (with_reducible refine Kd.qa2 ?_))); (case side2 => exact HC0_1.out); (case side3 => repeat (first | exact (Kd.qav HR0_2.out HB.out) | (with_reducible refine Kd.qaM ?_ _) | (with_reducible refine Kd.qaN ?_ _) | (with_reducible refine Kd.qa2 ?_))); (case side4 => exact HC0_2.out); (case side5 => repeat (first | exact (Kd.qav HR0_3.out HB.out) | (with_reducible refine Kd.qaM ?_ _) | (with_reducible refine Kd.qaN ?_ _) | (with_reducible refine Kd.qa2 ?_))); (case side6 => exact HC0_3.out); rintro e w37 ⟨rfl, hb⟩; refine ⟨_, rfl, ?_⟩; have n0_ := Aside0.mk (qar (g := gb206) (o := .cells #[.bool false, .slice A0_1 l0_1.length c0_1, .slice A0_2 l0_2.length c0_2, .slice A0_3 l0_3.length c0_3] 56 (0, 0)) (by (with_reducible repeat (first | refine qan ?_ _ | refine qao ?_ | refine qak ?_ _)); exact BK206.out) hb); have n1_ := Aside0.mk (qai (by repeat (first | (with_reducible first | exact HB.out | apply qab | apply qaa | apply qac | refine qaf ?_ GE206.out) | exact HB.out)) hb); clear BK206; clear HB; have BK206 := n0_; have HB := n1_; clear n0_ n1_; (try clear hb); (try clear hb2); (try clear hk); (try clear hi); have hcz38_0 : w37.cell? ⟨gb206, 0, none⟩ = some (.bool false) := (qae BK206.out 0).trans rfl; have hcz38_1 : w37.cell? ⟨gb206, 1, none⟩ = some (.slice A0_1 l0_1.length c0_1) := (qae BK206.out 1).trans rfl; have hcz38_2 : w37.cell? ⟨gb206, 2, none⟩ = some (.slice A0_2 l0_2.length c0_2) := (qae BK206.out 2).trans rfl; have hcz38_3 : w37.cell? ⟨gb206, 3, none⟩ = some (.slice A0_3 l0_3.length c0_3) := (qae BK206.out 3).trans rfl; have hfz38_0 := qad BK206.out 0; have hfz38_1 := qad BK206.out 1; have hfz38_2 := qad BK206.out 2; have hfz38_3 := qad BK206.out 3))
   (try simp only [Act.put, List.setIfInBounds_toArray, List.set_cons_zero, List.set_cons_succ])
   go_cut [49] (fun v49 wc => ∃ (kq : Nat) (x49_33 : Bool), v49 = .bool x49_33 ∧ Aside0 (qaH.j0 kq x49_33 false l0_1 l0_2 l0_3 = some r) ∧ Aside0 (kq ≤ k) ∧ Aside0 (wc.heap[gb206]? = some (.cells #[.bool false, (.slice A0_1 l0_1.length c0_1), (.slice A0_2 l0_2.length c0_2), (.slice A0_3 l0_3.length c0_3)] 56 (0, 0))) ∧ Aside0 (Below w.heap.size w wc))
   case first =>
    have H := HC34.out
    clear HC34
    by_cases c39 : (l0_1.length : Int) > 0
    ·rw [if_pos c39] at H
     have c39b0 : decide (0 < (l0_1.length : Int)) = true := decide_eq_true c39
     have c39b1 : decide (0 < l0_1.length) = true := decide_eq_true (by omega)
     clear c39
     (first | rw [c39b0] | (simp only [qaS, qbT]; rw [c39b0]) | skip)
     have H' := Aside0.mk H
     clear H
     have hcz40_0 : w37.cell? ⟨gb206, 0, none⟩ = some (.bool false) := (qae BK206.out 0).trans rfl
     have hcz40_1 : w37.cell? ⟨gb206, 1, none⟩ = some (.slice A0_1 l0_1.length c0_1) := (qae BK206.out 1).trans rfl
     have hcz40_2 : w37.cell? ⟨gb206, 2, none⟩ = some (.slice A0_2 l0_2.length c0_2) := (qae BK206.out 2).trans rfl
     have hcz40_3 : w37.cell? ⟨gb206, 3, none⟩ = some (.slice A0_3 l0_3.length c0_3) := (qae BK206.out 3).trans rfl
     have hfz40_0 := qad BK206.out 0
     have hfz40_1 := qad BK206.out 1
     have hfz40_2 := qad BK206.out 2
     have hfz40_3 := qad BK206.out 3
     go_wp2
     go_meet
     case rel => exact ⟨_, (true), (by first | rfl | (simp; done) | (simp [*]; done)), H', ⟨by first | omega | exact Nat.le_refl _⟩, ⟨by (with_reducible repeat (first | refine qan ?_ _ | refine qao ?_ | refine qak ?_ _)); exact BK206.out⟩, ⟨by repeat (first | (with_reducible first | exact HB.out | apply qab | apply qaa | apply qac | refine qaf ?_ GE206.out) | exact HB.out)⟩⟩
    ·rw [if_neg c39] at H
     have c39b0 : decide (0 < (l0_1.length : Int)) = false := decide_eq_false c39
     have c39b1 : decide (0 < l0_1.length) = false := decide_eq_false (by omega)
     clear c39
     (first | rw [c39b0] | (simp only [qaS, qbT]; rw [c39b0]) | skip)
     replace H := Option.bind_eq_some_iff.mp H
     obtain ⟨t210, A410, H⟩ := H
     replace H : (if t210 = true then (qaH.j0 k ((l0_2.length : Int) != (l0_3.length : Int)) false l0_1 l0_2 l0_3) else (qaH.j0 k true false l0_1 l0_2 l0_3)) = some r := H
     have A41 := Aside0.mk A410
     clear A410
     by_cases c42 : t210 = true
     ·subst c42
      have H1 : (qaH.j0 k ((l0_2.length : Int) != (l0_3.length : Int)) false l0_1 l0_2 l0_3) = some r := by rw [if_pos rfl] at H; exact H
      clear H
      have H := H1
      clear H1
      have H' := Aside0.mk H
      clear H
      have hcz43_0 : w37.cell? ⟨gb206, 0, none⟩ = some (.bool false) := (qae BK206.out 0).trans rfl
      have hcz43_1 : w37.cell? ⟨gb206, 1, none⟩ = some (.slice A0_1 l0_1.length c0_1) := (qae BK206.out 1).trans rfl
      have hcz43_2 : w37.cell? ⟨gb206, 2, none⟩ = some (.slice A0_2 l0_2.length c0_2) := (qae BK206.out 2).trans rfl
      have hcz43_3 : w37.cell? ⟨gb206, 3, none⟩ = some (.slice A0_3 l0_3.length c0_3) := (qae BK206.out 3).trans rfl
      have hfz43_0 := qad BK206.out 0
      have hfz43_1 := qad BK206.out 1
      have hfz43_2 := qad BK206.out 2
      have hfz43_3 := qad BK206.out 3
      go_wp2_with (first | (go_at_call 120; (with_reducible refine (qbg.calls (l0_3.length : Int) 1 4 true _ A41.out).mono ?_); rintro e w' ⟨rfl, ⟨nd, rfl⟩⟩))
      go_meet
      case rel => exact ⟨_, (((l0_2.length : Int) != (l0_3.length : Int))), (by first | rfl | (simp; done) | (simp [*]; done)), H', ⟨by first | omega | exact Nat.le_refl _⟩, ⟨by (with_reducible repeat (first | refine qan ?_ _ | refine qao ?_ | refine qak ?_ _)); exact BK206.out⟩, ⟨by repeat (first | (with_reducible first | exact HB.out | apply qab | apply qaa | apply qac | refine qaf ?_ GE206.out) | exact HB.out)⟩⟩
     ·replace c42 := Bool.eq_false_iff.mpr c42
      subst c42
      have H1 : (qaH.j0 k true false l0_1 l0_2 l0_3) = some r := by rw [if_neg (show ¬ (false = true) by decide)] at H; exact H
      clear H
      have H := H1
      clear H1
      have H' := Aside0.mk H
      clear H
      have hcz44_0 : w37.cell? ⟨gb206, 0, none⟩ = some (.bool false) := (qae BK206.out 0).trans rfl
      have hcz44_1 : w37.cell? ⟨gb206, 1, none⟩ = some (.slice A0_1 l0_1.length c0_1) := (qae BK206.out 1).trans rfl
      have hcz44_2 : w37.cell? ⟨gb206, 2, none⟩ = some (.slice A0_2 l0_2.length c0_2) := (qae BK206.out 2).trans rfl
      have hcz44_3 : w37.cell? ⟨gb206, 3, none⟩ = some (.slice A0_3 l0_3.length c0_3) := (qae BK206.out 3).trans rfl
      have hfz44_0 := qad BK206.out 0
      have hfz44_1 := qad BK206.out 1
      have hfz44_2 := qad BK206.out 2
      have hfz44_3 := qad BK206.out 3
      go_wp2_with (first | (go_at_call 120; (with_reducible refine (qbg.calls (l0_3.length : Int) 1 4 false _ A41.out).mono ?_); rintro e w' ⟨rfl, ⟨nd, rfl⟩⟩))
      go_meet
      case rel => exact ⟨_, (true), (by first | rfl | (simp; done) | (simp [*]; done)), H', ⟨by first | omega | exact Nat.le_refl _⟩, ⟨by (with_reducible repeat (first | refine qan ?_ _ | refine qao ?_ | refine qak ?_ _)); exact BK206.out⟩, ⟨by repeat (first | (with_reducible first | exact HB.out | apply qab | apply qaa | apply qac | refine qaf ?_ GE206.out) | exact HB.out)⟩⟩
   case rest =>
    clear HC34
    try clear c1
    try clear p2
    try clear c3
    try clear c4
    try clear c7
    try clear c8
    try clear c9
    try clear c11
    try clear c12
    try clear c12b0
    try clear c12b1
    try clear c12b2
    try clear c39
    try clear c39b0
    try clear c39b1
    try clear c42
    try clear hcz14_0
    try clear hcz14_1
    try clear hcz14_2
    try clear hcz14_3
    try clear hcz16_0
    try clear hcz16_1
    try clear hcz16_2
    try clear hcz16_3
    try clear hcz18_0
    try clear hcz18_1
    try clear hcz18_2
    try clear hcz18_3
    try clear hcz20_0
    try clear hcz20_1
    try clear hcz20_2
    try clear hcz20_3
    try clear hcz22_0
    try clear hcz22_1
    try clear hcz22_2
    try clear hcz22_3
    try clear hcz24_0
    try clear hcz24_1
    try clear hcz24_2
    try clear hcz24_3
    try clear hcz26_0
    try clear hcz26_1
    try clear hcz26_2
    try clear hcz26_3
    try clear hcz28_0
    try clear hcz28_1
    try clear hcz28_2
    try clear hcz28_3
    try clear hcz31_0
    try clear hcz31_1
    try clear hcz31_2
    try clear hcz31_3
    try clear hcz33_0
    try clear hcz33_1
    try clear hcz33_2
    try clear hcz33_3
    try clear hcz36_0
    try clear hcz36_1
    try clear hcz36_2
    try clear hcz36_3
    try clear hcz38_0
    try clear hcz38_1
    try clear hcz38_2
    try clear hcz38_3
    try clear hcz40_0
    try clear hcz40_1
    try clear hcz40_2
    try clear hcz40_3
    try clear hcz43_0
    try clear hcz43_1
    try clear hcz43_2
    try clear hcz43_3
    try clear hcz44_0
    try clear hcz44_1
    try clear hcz44_2
    try clear hcz44_3
    try clear hcz5_0
    try clear hcz5_1
    try clear hcz5_2
    try clear hcz5_3
    try clear hfz14_0
    try clear hfz14_1
    try clear hfz14_2
    try clear hfz14_3
    try clear hfz16_0
    try clear hfz16_1
    try clear hfz16_2
    try clear hfz16_3
    try clear hfz18_0
    try clear hfz18_1
    try clear hfz18_2
    try clear hfz18_3
    try clear hfz20_0
    try clear hfz20_1
    try clear hfz20_2
    try clear hfz20_3
    try clear hfz22_0
    try clear hfz22_1
    try clear hfz22_2
    try clear hfz22_3
    try clear hfz24_0
    try clear hfz24_1
    try clear hfz24_2
    try clear hfz24_3
    try clear hfz26_0
    try clear hfz26_1
    try clear hfz26_2
    try clear hfz26_3
    try clear hfz28_0
    try clear hfz28_1
    try clear hfz28_2
    try clear hfz28_3
    try clear hfz31_0
    try clear hfz31_1
    try clear hfz31_2
    try clear hfz31_3
    try clear hfz33_0
    try clear hfz33_1
    try clear hfz33_2
    try clear hfz33_3
    try clear hfz36_0
    try clear hfz36_1
    try clear hfz36_2
    try clear hfz36_3
    try clear hfz38_0
    try clear hfz38_1
    try clear hfz38_2
    try clear hfz38_3
    try clear hfz40_0
    try clear hfz40_1
    try clear hfz40_2
    try clear hfz40_3
    try clear hfz43_0
    try clear hfz43_1
    try clear hfz43_2
    try clear hfz43_3
    try clear hfz44_0
    try clear hfz44_1
    try clear hfz44_2
    try clear hfz44_3
    try clear hfz5_0
    try clear hfz5_1
    try clear hfz5_2
    try clear hfz5_3
    obtain ⟨kq, x49_33, rfl, HA, HJ33, BK206, HB⟩ := hcut
    cases kq with
    | zero => exact absurd HA.out (by simp [qaH.j0])
    | succ kj33 =>
     have H := HA.out
     clear HA
     simp only [qaH.j0] at H
     by_cases c45 : x49_33 = true
     ·subst c45
      have H1 : (some false) = some r := by rw [if_pos rfl] at H; exact H
      clear H
      have H := H1
      clear H1
      obtain rfl := Option.some.inj H
      go_wp2
      go_ret
      exact ⟨by first | rfl | (simp [qal, qam] <;> rfl) | (simp [*, qal, qam] <;> rfl), by repeat (first | (with_reducible first | exact HB.out | apply qab | apply qaa | apply qac | refine qaf ?_ GE206.out) | exact HB.out)⟩
     ·replace c45 := Bool.eq_false_iff.mpr c45
      subst c45
      have H1 : (qaH.l0 kj33 l0_2 (l0_2.length : Int) 0 false l0_1 l0_2 l0_3) = some r := by rw [if_neg (show ¬ (false = true) by decide)] at H; exact H
      clear H
      have H := H1
      clear H1
      have H' := Aside0.mk H
      clear H
      have hcz46_0 : wc.cell? ⟨gb206, 0, none⟩ = some (.bool false) := (qae BK206.out 0).trans rfl
      have hcz46_1 : wc.cell? ⟨gb206, 1, none⟩ = some (.slice A0_1 l0_1.length c0_1) := (qae BK206.out 1).trans rfl
      have hcz46_2 : wc.cell? ⟨gb206, 2, none⟩ = some (.slice A0_2 l0_2.length c0_2) := (qae BK206.out 2).trans rfl
      have hcz46_3 : wc.cell? ⟨gb206, 3, none⟩ = some (.slice A0_3 l0_3.length c0_3) := (qae BK206.out 3).trans rfl
      have hfz46_0 := qad BK206.out 0
      have hfz46_1 := qad BK206.out 1
      have hfz46_2 := qad BK206.out 2
      have hfz46_3 := qad BK206.out 3
      go_wp2
      go_loopg [53] kj33 (fun kq v53 w' => ∃ (x53_2 : Int), v53 = .int .i64 x53_2 ∧ Aside0 (qaH.l0 kq l0_2 (l0_2.length : Int) x53_2 false l0_1 l0_2 l0_3 = some r) ∧ Aside0 (kq ≤ kj33) ∧ Aside0 (w'.heap[gb206]? = some (.cells #[.bool false, (.slice A0_1 l0_1.length c0_1), (.slice A0_2 l0_2.length c0_2), (.slice A0_3 l0_3.length c0_3)] 56 (0, 0))) ∧ Aside0 (Below w.heap.size w w'))
      case atStart => exact ⟨(0), (by first | rfl | (simp; done) | (simp [*]; done)), H', ⟨Nat.le_refl _⟩, ⟨by (with_reducible repeat (first | refine qan ?_ _ | refine qao ?_ | refine qak ?_ _)); exact BK206.out⟩, ⟨by repeat (first | (with_reducible first | exact HB.out | apply qab | apply qaa | apply qac | refine qaf ?_ GE206.out) | exact HB.out)⟩⟩
      case round =>
       clear H'
       try clear c1
       try clear p2
       try clear c3
       try clear c4
       try clear c7
       try clear c8
       try clear c9
       try clear c11
       try clear c12
       try clear c12b0
       try clear c12b1
       try clear c12b2
       try clear c39
       try clear c39b0
       try clear c39b1
       try clear c42
       try clear c45
       try clear hcz14_0
       try clear hcz14_1
       try clear hcz14_2
       try clear hcz14_3
       try clear hcz16_0
       try clear hcz16_1
       try clear hcz16_2
       try clear hcz16_3
       try clear hcz18_0
       try clear hcz18_1
       try clear hcz18_2
       try clear hcz18_3
       try clear hcz20_0
       try clear hcz20_1
       try clear hcz20_2
       try clear hcz20_3
       try clear hcz22_0
       try clear hcz22_1
       try clear hcz22_2
       try clear hcz22_3
       try clear hcz24_0
       try clear hcz24_1
       try clear hcz24_2
       try clear hcz24_3
       try clear hcz26_0
       try clear hcz26_1
       try clear hcz26_2
       try clear hcz26_3
       try clear hcz28_0
       try clear hcz28_1
       try clear hcz28_2
       try clear hcz28_3
       try clear hcz31_0
       try clear hcz31_1
       try clear hcz31_2
       try clear hcz31_3
       try clear hcz33_0
       try clear hcz33_1
       try clear hcz33_2
       try clear hcz33_3
       try clear hcz36_0
       try clear hcz36_1
       try clear hcz36_2
       try clear hcz36_3
       try clear hcz38_0
       try clear hcz38_1
       try clear hcz38_2
       try clear hcz38_3
       try clear hcz40_0
       try clear hcz40_1
       try clear hcz40_2
       try clear hcz40_3
       try clear hcz43_0
       try clear hcz43_1
       try clear hcz43_2
       try clear hcz43_3
       try clear hcz44_0
       try clear hcz44_1
       try clear hcz44_2
       try clear hcz44_3
       try clear hcz46_0
       try clear hcz46_1
       try clear hcz46_2
       try clear hcz46_3
       try clear hcz5_0
       try clear hcz5_1
       try clear hcz5_2
       try clear hcz5_3
       try clear hfz14_0
       try clear hfz14_1
       try clear hfz14_2
       try clear hfz14_3
       try clear hfz16_0
       try clear hfz16_1
       try clear hfz16_2
       try clear hfz16_3
       try clear hfz18_0
       try clear hfz18_1
       try clear hfz18_2
       try clear hfz18_3
       try clear hfz20_0
       try clear hfz20_1
       try clear hfz20_2
       try clear hfz20_3
       try clear hfz22_0
       try clear hfz22_1
       try clear hfz22_2
       try clear hfz22_3
       try clear hfz24_0
       try clear hfz24_1
       try clear hfz24_2
       try clear hfz24_3
       try clear hfz26_0
       try clear hfz26_1
       try clear hfz26_2
       try clear hfz26_3
       try clear hfz28_0
       try clear hfz28_1
       try clear hfz28_2
       try clear hfz28_3
       try clear hfz31_0
       try clear hfz31_1
       try clear hfz31_2
       try clear hfz31_3
       try clear hfz33_0
       try clear hfz33_1
       try clear hfz33_2
       try clear hfz33_3
       try clear hfz36_0
       try clear hfz36_1
       try clear hfz36_2
       try clear hfz36_3
       try clear hfz38_0
       try clear hfz38_1
       try clear hfz38_2
       try clear hfz38_3
       try clear hfz40_0
       try clear hfz40_1
       try clear hfz40_2
       try clear hfz40_3
       try clear hfz43_0
       try clear hfz43_1
       try clear hfz43_2
       try clear hfz43_3
       try clear hfz44_0
       try clear hfz44_1
       try clear hfz44_2
       try clear hfz44_3
       try clear hfz46_0
       try clear hfz46_1
       try clear hfz46_2
       try clear hfz46_3
       try clear hfz5_0
       try clear hfz5_1
       try clear hfz5_2
       try clear hfz5_3
       try clear p2
       obtain ⟨x53_2, rfl, HA, HK2, BK206, HB⟩ := hrel
       cases gk with
       | zero => exact absurd HA.out (by simp [qaH.l0])
       | succ k2 =>
        have H := HA.out
        clear HA
        simp only [qaH.l0] at H
        by_cases c47 : x53_2 < (l0_2.length : Int)
        ·rw [if_pos c47] at H
         have c47b0 : decide (x53_2 < (l0_2.length : Int)) = true := decide_eq_true c47
         clear c47
         by_cases c48 : 0 ≤ x53_2
         ·rw [if_pos c48] at H
          have c48b0 : decide (0 ≤ x53_2) = true := decide_eq_true c48
          clear c48
          by_cases c49 : x53_2 < (l0_2.length : Int)
          ·rw [if_pos c49] at H
           have c49b0 : decide (x53_2 < (l0_2.length : Int)) = true := decide_eq_true c49
           clear c49
           replace H := Option.bind_eq_some_iff.mp H
           obtain ⟨t212, A500, H⟩ := H
           replace H : (if t212 = true then (if x53_2 < (l0_3.length : Int) then ((qbg.f (rd l0_3 x53_2) 0 49).bind fun t214 => (if t214 = true then (if x53_2 > 0 then (if 0 ≤ (wrap64 (x53_2 - 1)) then (if (wrap64 (x53_2 - 1)) < (l0_2.length : Int) then (if ((Op.bytesLess ((rdOf ByteArray.empty l0_2 (wrap64 (x53_2 - 1))).toList) ((rdOf ByteArray.empty l0_2 x53_2).toList)) = true) then (qaH.l0 k2 l0_2 (l0_2.length : Int) (wrap64 (x53_2 + 1)) false l0_1 l0_2 l0_3) else (some false)) else (none)) else (none)) else (qaH.l0 k2 l0_2 (l0_2.length : Int) (wrap64 (x53_2 + 1)) false l0_1 l0_2 l0_3)) else (some false))) else (none)) else (some false)) = some r := H
           have A50 := Aside0.mk A500
           clear A500
           by_cases c51 : t212 = true
           ·subst c51
            have H1 : (if x53_2 < (l0_3.length : Int) then ((qbg.f (rd l0_3 x53_2) 0 49).bind fun t214 => (if t214 = true then (if x53_2 > 0 then (if 0 ≤ (wrap64 (x53_2 - 1)) then (if (wrap64 (x53_2 - 1)) < (l0_2.length : Int) then (if ((Op.bytesLess ((rdOf ByteArray.empty l0_2 (wrap64 (x53_2 - 1))).toList) ((rdOf ByteArray.empty l0_2 x53_2).toList)) = true) then (qaH.l0 k2 l0_2 (l0_2.length : Int) (wrap64 (x53_2 + 1)) false l0_1 l0_2 l0_3) else (some false)) else (none)) else (none)) else (qaH.l0 k2 l0_2 (l0_2.length : Int) (wrap64 (x53_2 + 1)) false l0_1 l0_2 l0_3)) else (some false))) else (none)) = some r := by rw [if_pos rfl] at H; exact H
            clear H
            have H := H1
            clear H1
            by_cases c52 : x53_2 < (l0_3.length : Int)
            ·rw [if_pos c52] at H
             have c52b0 : decide (x53_2 < (l0_3.length : Int)) = true := decide_eq_true c52
             clear c52
             replace H := Option.bind_eq_some_iff.mp H
             obtain ⟨t214, A530, H⟩ := H
             replace H : (if t214 = true then (if x53_2 > 0 then (if 0 ≤ (wrap64 (x53_2 - 1)) then (if (wrap64 (x53_2 - 1)) < (l0_2.length : Int) then (if ((Op.bytesLess ((rdOf ByteArray.empty l0_2 (wrap64 (x53_2 - 1))).toList) ((rdOf ByteArray.empty l0_2 x53_2).toList)) = true) then (qaH.l0 k2 l0_2 (l0_2.length : Int) (wrap64 (x53_2 + 1)) false l0_1 l0_2 l0_3) else (some false)) else (none)) else (none)) else (qaH.l0 k2 l0_2 (l0_2.length : Int) (wrap64 (x53_2 + 1)) false l0_1 l0_2 l0_3)) else (some false)) = some r := H
             have A53 := Aside0.mk A530
             clear A530
             by_cases c54 : t214 = true
             ·subst c54
              have H1 : (if x53_2 > 0 then (if 0 ≤ (wrap64 (x53_2 - 1)) then (if (wrap64 (x53_2 - 1)) < (l0_2.length : Int) then (if ((Op.bytesLess ((rdOf ByteArray.empty l0_2 (wrap64 (x53_2 - 1))).toList) ((rdOf ByteArray.empty l0_2 x53_2).toList)) = true) then (qaH.l0 k2 l0_2 (l0_2.length : Int) (wrap64 (x53_2 + 1)) false l0_1 l0_2 l0_3) else (some false)) else (none)) else (none)) else (qaH.l0 k2 l0_2 (l0_2.length : Int) (wrap64 (x53_2 + 1)) false l0_1 l0_2 l0_3)) = some r := by rw [if_pos rfl] at H; exact H
              clear H
              have H := H1
              clear H1
              by_cases c55 : x53_2 > 0
              ·rw [if_pos c55] at H
               have c55b0 : decide (0 < x53_2) = true := decide_eq_true c55
               clear c55
               obtain ⟨ji56, hji56⟩ : ∃ j_ : Int, (wrap64 (x53_2 - 1)) = j_ := ⟨_, rfl⟩
               replace H : (if 0 ≤ (ji56) then (if (ji56) < (l0_2.length : Int) then (if ((Op.bytesLess ((rdOf ByteArray.empty l0_2 (ji56)).toList) ((rdOf ByteArray.empty l0_2 x53_2).toList)) = true) then (qaH.l0 k2 l0_2 (l0_2.length : Int) (wrap64 (x53_2 + 1)) false l0_1 l0_2 l0_3) else (some false)) else (none)) else (none)) = some r := by first | (rw [hji56] at H; exact H) | (simp only [hji56] at H ⊢; exact H)
               (try rw [hji56] at A50)
               (try rw [hji56] at A53)
               have hji56w : (IntKind.i64.wrap (x53_2 - 1)) = ji56 := (qaS _).trans hji56
               by_cases c57 : 0 ≤ (ji56)
               ·rw [if_pos c57] at H
                have c57b0 : decide (0 ≤ (ji56)) = true := decide_eq_true c57
                clear c57
                by_cases c58 : (ji56) < (l0_2.length : Int)
                ·rw [if_pos c58] at H
                 have c58b0 : decide ((ji56) < (l0_2.length : Int)) = true := decide_eq_true c58
                 clear c58
                 by_cases c59 : ((Op.bytesLess ((rdOf ByteArray.empty l0_2 (ji56)).toList) ((rdOf ByteArray.empty l0_2 x53_2).toList)) = true)
                 ·rw [if_pos c59] at H
                  have c59b0 : (Op.bytesLess ((rdOf ByteArray.empty l0_2 (ji56)).toList) ((rdOf ByteArray.empty l0_2 x53_2).toList)) = true := c59
                  clear c59
                  have H' := Aside0.mk H
                  clear H
                  have p211 : 0 ≤ (x53_2 : Int) := of_decide_eq_true (by first | (with_reducible assumption) | assumption)
                  have q211 : x53_2 < (l0_2.length : Int) := of_decide_eq_true (by first | (with_reducible assumption) | assumption)
                  obtain ⟨ad211, e211, hx211_0⟩ := Kd.qbw HR0_2.out x53_2 p211 q211
                  cases e211
                  replace hx211_0 := (HB.out.cell (World.block_lt_of_cell? w _ hx211_0)).trans hx211_0
                  replace p211 := eq_true p211
                  replace q211 := eq_true q211
                  go_wp2_with (first | ((with_reducible refine qax (f := 71) rfl ?_); refine qbl (some 59) rfl rfl Try.func71 (by kernel_rfl) rfl #[.string (rdOf ByteArray.empty l0_2 x53_2)] rfl (by (try simp only [List.map_toArray, List.map_cons, List.map_nil]); first | done | rfl | (simp only [List.length_drop, List.length_take]; rfl)) ?_; (with_reducible refine (qbO.calls (rdOf ByteArray.empty l0_2 x53_2) true _ A50.out).mono ?_); rintro e w' ⟨rfl, ⟨nd, rfl⟩⟩; refine ⟨_, rfl, ?_⟩; have hcz60_0 : wr.cell? ⟨gb206, 0, none⟩ = some (.bool false) := (qae BK206.out 0).trans rfl; have hcz60_1 : wr.cell? ⟨gb206, 1, none⟩ = some (.slice A0_1 l0_1.length c0_1) := (qae BK206.out 1).trans rfl; have hcz60_2 : wr.cell? ⟨gb206, 2, none⟩ = some (.slice (some ad211) l0_2.length c0_2) := (qae BK206.out 2).trans rfl; have hcz60_3 : wr.cell? ⟨gb206, 3, none⟩ = some (.slice A0_3 l0_3.length c0_3) := (qae BK206.out 3).trans rfl; have hfz60_0 := qad BK206.out 0; have hfz60_1 := qad BK206.out 1; have hfz60_2 := qad BK206.out 2; have hfz60_3 := qad BK206.out 3; have p213 : 0 ≤ (x53_2 : Int) := of_decide_eq_true (by first | (with_reducible assumption) | assumption); have q213 : x53_2 < (l0_3.length : Int) := of_decide_eq_true (by first | (with_reducible assumption) | assumption); obtain ⟨ad213, e213, hx213_0⟩ := Kd.qbS HR0_3.out x53_2 p213 q213; cases e213; replace hx213_0 := (HB.out.cell (World.block_lt_of_cell? w _ hx213_0)).trans hx213_0; replace p213 := eq_true p213; replace q213 := eq_true q213) | (go_at_call 120; (with_reducible refine (qbg.calls (rd l0_3 x53_2) 0 49 true _ A53.out).mono ?_); rintro e w' ⟨rfl, ⟨nd, rfl⟩⟩; have p215 : 0 ≤ ((ji56) : Int) := of_decide_eq_true (by first | (with_reducible assumption) | assumption); have q215 : (ji56) < (l0_2.length : Int) := of_decide_eq_true (by first | (with_reducible assumption) | assumption); obtain ⟨ad215, e215, hx215_0⟩ := Kd.qbw HR0_2.out (ji56) p215 q215; obtain rfl : ad211 = ad215 := (by injection e215); replace hx215_0 := (HB.out.cell (World.block_lt_of_cell? w _ hx215_0)).trans hx215_0; replace p215 := eq_true p215; replace q215 := eq_true q215))
                  go_roundg k2
                  case measure => have := HJ33.out; have := HK2.out; omega
                  case rel => exact ⟨(wrap64 (x53_2 + 1)), (by first | rfl | (simp; done) | (simp [*]; done)), H', ⟨by have := HJ33.out; have := HK2.out; omega⟩, ⟨by (with_reducible repeat (first | refine qan ?_ _ | refine qao ?_ | refine qak ?_ _)); exact BK206.out⟩, ⟨by repeat (first | (with_reducible first | exact HB.out | apply qab | apply qaa | apply qac | refine qaf ?_ GE206.out) | exact HB.out)⟩⟩
                 ·rw [if_neg c59] at H
                  have c59b0 : (Op.bytesLess ((rdOf ByteArray.empty l0_2 (ji56)).toList) ((rdOf ByteArray.empty l0_2 x53_2).toList)) = false := by simpa using c59
                  clear c59
                  obtain rfl := Option.some.inj H
                  have p211 : 0 ≤ (x53_2 : Int) := of_decide_eq_true (by first | (with_reducible assumption) | assumption)
                  have q211 : x53_2 < (l0_2.length : Int) := of_decide_eq_true (by first | (with_reducible assumption) | assumption)
                  obtain ⟨ad211, e211, hx211_0⟩ := Kd.qbw HR0_2.out x53_2 p211 q211
                  cases e211
                  replace hx211_0 := (HB.out.cell (World.block_lt_of_cell? w _ hx211_0)).trans hx211_0
                  replace p211 := eq_true p211
                  replace q211 := eq_true q211
                  go_wp2_with (first | ((with_reducible refine qax (f := 71) rfl ?_); refine qbl (some 59) rfl rfl Try.func71 (by kernel_rfl) rfl #[.string (rdOf ByteArray.empty l0_2 x53_2)] rfl (by (try simp only [List.map_toArray, List.map_cons, List.map_nil]); first | done | rfl | (simp only [List.length_drop, List.length_take]; rfl)) ?_; (with_reducible refine (qbO.calls (rdOf ByteArray.empty l0_2 x53_2) true _ A50.out).mono ?_); rintro e w' ⟨rfl, ⟨nd, rfl⟩⟩; refine ⟨_, rfl, ?_⟩; have hcz61_0 : wr.cell? ⟨gb206, 0, none⟩ = some (.bool false) := (qae BK206.out 0).trans rfl; have hcz61_1 : wr.cell? ⟨gb206, 1, none⟩ = some (.slice A0_1 l0_1.length c0_1) := (qae BK206.out 1).trans rfl; have hcz61_2 : wr.cell? ⟨gb206, 2, none⟩ = some (.slice (some ad211) l0_2.length c0_2) := (qae BK206.out 2).trans rfl; have hcz61_3 : wr.cell? ⟨gb206, 3, none⟩ = some (.slice A0_3 l0_3.length c0_3) := (qae BK206.out 3).trans rfl; have hfz61_0 := qad BK206.out 0; have hfz61_1 := qad BK206.out 1; have hfz61_2 := qad BK206.out 2; have hfz61_3 := qad BK206.out 3; have p213 : 0 ≤ (x53_2 : Int) := of_decide_eq_true (by first | (with_reducible assumption) | assumption); have q213 : x53_2 < (l0_3.length : Int) := of_decide_eq_true (by first | (with_reducible assumption) | assumption); obtain ⟨ad213, e213, hx213_0⟩ := Kd.qbS HR0_3.out x53_2 p213 q213; cases e213; replace hx213_0 := (HB.out.cell (World.block_lt_of_cell? w _ hx213_0)).trans hx213_0; replace p213 := eq_true p213; replace q213 := eq_true q213) | (go_at_call 120; (with_reducible refine (qbg.calls (rd l0_3 x53_2) 0 49 true _ A53.out).mono ?_); rintro e w' ⟨rfl, ⟨nd, rfl⟩⟩; have p215 : 0 ≤ ((ji56) : Int) := of_decide_eq_true (by first | (with_reducible assumption) | assumption); have q215 : (ji56) < (l0_2.length : Int) := of_decide_eq_true (by first | (with_reducible assumption) | assumption); obtain ⟨ad215, e215, hx215_0⟩ := Kd.qbw HR0_2.out (ji56) p215 q215; obtain rfl : ad211 = ad215 := (by injection e215); replace hx215_0 := (HB.out.cell (World.block_lt_of_cell? w _ hx215_0)).trans hx215_0; replace p215 := eq_true p215; replace q215 := eq_true q215))
                  go_ret
                  exact ⟨by first | rfl | (simp [qal, qam] <;> rfl) | (simp only [← hji56]; first | rfl | (simp [qal, qam] <;> rfl)) | (simp [*, qal, qam] <;> rfl), by repeat (first | (with_reducible first | exact HB.out | apply qab | apply qaa | apply qac | refine qaf ?_ GE206.out) | exact HB.out)⟩
                ·rw [if_neg c58] at H
                 exact absurd H (by simp)
               ·rw [if_neg c57] at H
                exact absurd H (by simp)
              ·rw [if_neg c55] at H
               have c55b0 : decide (0 < x53_2) = false := decide_eq_false c55
               clear c55
               have H' := Aside0.mk H
               clear H
               have p211 : 0 ≤ (x53_2 : Int) := of_decide_eq_true (by first | (with_reducible assumption) | assumption)
               have q211 : x53_2 < (l0_2.length : Int) := of_decide_eq_true (by first | (with_reducible assumption) | assumption)
               obtain ⟨ad211, e211, hx211_0⟩ := Kd.qbw HR0_2.out x53_2 p211 q211
               cases e211
               replace hx211_0 := (HB.out.cell (World.block_lt_of_cell? w _ hx211_0)).trans hx211_0
               replace p211 := eq_true p211
               replace q211 := eq_true q211
               go_wp2_with (first | ((with_reducible refine qax (f := 71) rfl ?_); refine qbl (some 59) rfl rfl Try.func71 (by kernel_rfl) rfl #[.string (rdOf ByteArray.empty l0_2 x53_2)] rfl (by (try simp only [List.map_toArray, List.map_cons, List.map_nil]); first | done | rfl | (simp only [List.length_drop, List.length_take]; rfl)) ?_; (with_reducible refine (qbO.calls (rdOf ByteArray.empty l0_2 x53_2) true _ A50.out).mono ?_); rintro e w' ⟨rfl, ⟨nd, rfl⟩⟩; refine ⟨_, rfl, ?_⟩; have hcz62_0 : wr.cell? ⟨gb206, 0, none⟩ = some (.bool false) := (qae BK206.out 0).trans rfl; have hcz62_1 : wr.cell? ⟨gb206, 1, none⟩ = some (.slice A0_1 l0_1.length c0_1) := (qae BK206.out 1).trans rfl; have hcz62_2 : wr.cell? ⟨gb206, 2, none⟩ = some (.slice (some ad211) l0_2.length c0_2) := (qae BK206.out 2).trans rfl; have hcz62_3 : wr.cell? ⟨gb206, 3, none⟩ = some (.slice A0_3 l0_3.length c0_3) := (qae BK206.out 3).trans rfl; have hfz62_0 := qad BK206.out 0; have hfz62_1 := qad BK206.out 1; have hfz62_2 := qad BK206.out 2; have hfz62_3 := qad BK206.out 3; have p213 : 0 ≤ (x53_2 : Int) := of_decide_eq_true (by first | (with_reducible assumption) | assumption); have q213 : x53_2 < (l0_3.length : Int) := of_decide_eq_true (by first | (with_reducible assumption) | assumption); obtain ⟨ad213, e213, hx213_0⟩ := Kd.qbS HR0_3.out x53_2 p213 q213; cases e213; replace hx213_0 := (HB.out.cell (World.block_lt_of_cell? w _ hx213_0)).trans hx213_0; replace p213 := eq_true p213; replace q213 := eq_true q213) | (go_at_call 120; (with_reducible refine (qbg.calls (rd l0_3 x53_2) 0 49 true _ A53.out).mono ?_); rintro e w' ⟨rfl, ⟨nd, rfl⟩⟩))
               go_roundg k2
               case measure => have := HJ33.out; have := HK2.out; omega
               case rel => exact ⟨(wrap64 (x53_2 + 1)), (by first | rfl | (simp; done) | (simp [*]; done)), H', ⟨by have := HJ33.out; have := HK2.out; omega⟩, ⟨by (with_reducible repeat (first | refine qan ?_ _ | refine qao ?_ | refine qak ?_ _)); exact BK206.out⟩, ⟨by repeat (first | (with_reducible first | exact HB.out | apply qab | apply qaa | apply qac | refine qaf ?_ GE206.out) | exact HB.out)⟩⟩
             ·replace c54 := Bool.eq_false_iff.mpr c54
              subst c54
              have H1 : (some false) = some r := by rw [if_neg (show ¬ (false = true) by decide)] at H; exact H
              clear H
              have H := H1
              clear H1
              obtain rfl := Option.some.inj H
              have p211 : 0 ≤ (x53_2 : Int) := of_decide_eq_true (by first | (with_reducible assumption) | assumption)
              have q211 : x53_2 < (l0_2.length : Int) := of_decide_eq_true (by first | (with_reducible assumption) | assumption)
              obtain ⟨ad211, e211, hx211_0⟩ := Kd.qbw HR0_2.out x53_2 p211 q211
              cases e211
              replace hx211_0 := (HB.out.cell (World.block_lt_of_cell? w _ hx211_0)).trans hx211_0
              replace p211 := eq_true p211
              replace q211 := eq_true q211
              go_wp2_with (first | ((with_reducible refine qax (f := 71) rfl ?_); refine qbl (some 59) rfl rfl Try.func71 (by kernel_rfl) rfl #[.string (rdOf ByteArray.empty l0_2 x53_2)] rfl (by (try simp only [List.map_toArray, List.map_cons, List.map_nil]); first | done | rfl | (simp only [List.length_drop, List.length_take]; rfl)) ?_; (with_reducible refine (qbO.calls (rdOf ByteArray.empty l0_2 x53_2) true _ A50.out).mono ?_); rintro e w' ⟨rfl, ⟨nd, rfl⟩⟩; refine ⟨_, rfl, ?_⟩; have hcz63_0 : wr.cell? ⟨gb206, 0, none⟩ = some (.bool false) := (qae BK206.out 0).trans rfl; have hcz63_1 : wr.cell? ⟨gb206, 1, none⟩ = some (.slice A0_1 l0_1.length c0_1) := (qae BK206.out 1).trans rfl; have hcz63_2 : wr.cell? ⟨gb206, 2, none⟩ = some (.slice (some ad211) l0_2.length c0_2) := (qae BK206.out 2).trans rfl; have hcz63_3 : wr.cell? ⟨gb206, 3, none⟩ = some (.slice A0_3 l0_3.length c0_3) := (qae BK206.out 3).trans rfl; have hfz63_0 := qad BK206.out 0; have hfz63_1 := qad BK206.out 1; have hfz63_2 := qad BK206.out 2; have hfz63_3 := qad BK206.out 3; have p213 : 0 ≤ (x53_2 : Int) := of_decide_eq_true (by first | (with_reducible assumption) | assumption); have q213 : x53_2 < (l0_3.length : Int) := of_decide_eq_true (by first | (with_reducible assumption) | assumption); obtain ⟨ad213, e213, hx213_0⟩ := Kd.qbS HR0_3.out x53_2 p213 q213; cases e213; replace hx213_0 := (HB.out.cell (World.block_lt_of_cell? w _ hx213_0)).trans hx213_0; replace p213 := eq_true p213; replace q213 := eq_true q213) | (go_at_call 120; (with_reducible refine (qbg.calls (rd l0_3 x53_2) 0 49 false _ A53.out).mono ?_); rintro e w' ⟨rfl, ⟨nd, rfl⟩⟩))
              go_ret
              exact ⟨by first | rfl | (simp [qal, qam] <;> rfl) | (simp [*, qal, qam] <;> rfl), by repeat (first | (with_reducible first | exact HB.out | apply qab | apply qaa | apply qac | refine qaf ?_ GE206.out) | exact HB.out)⟩
            ·rw [if_neg c52] at H
             exact absurd H (by simp)
           ·replace c51 := Bool.eq_false_iff.mpr c51
            subst c51
            have H1 : (some false) = some r := by rw [if_neg (show ¬ (false = true) by decide)] at H; exact H
            clear H
            have H := H1
            clear H1
            obtain rfl := Option.some.inj H
            have p211 : 0 ≤ (x53_2 : Int) := of_decide_eq_true (by first | (with_reducible assumption) | assumption)
            have q211 : x53_2 < (l0_2.length : Int) := of_decide_eq_true (by first | (with_reducible assumption) | assumption)
            obtain ⟨ad211, e211, hx211_0⟩ := Kd.qbw HR0_2.out x53_2 p211 q211
            cases e211
            replace hx211_0 := (HB.out.cell (World.block_lt_of_cell? w _ hx211_0)).trans hx211_0
            replace p211 := eq_true p211
            replace q211 := eq_true q211
            go_wp2_with (first | ((with_reducible refine qax (f := 71) rfl ?_); refine qbl (some 59) rfl rfl Try.func71 (by kernel_rfl) rfl #[.string (rdOf ByteArray.empty l0_2 x53_2)] rfl (by (try simp only [List.map_toArray, List.map_cons, List.map_nil]); first | done | rfl | (simp only [List.length_drop, List.length_take]; rfl)) ?_; (with_reducible refine (qbO.calls (rdOf ByteArray.empty l0_2 x53_2) false _ A50.out).mono ?_); rintro e w' ⟨rfl, ⟨nd, rfl⟩⟩; refine ⟨_, rfl, ?_⟩))
            go_ret
            exact ⟨by first | rfl | (simp [qal, qam] <;> rfl) | (simp [*, qal, qam] <;> rfl), by repeat (first | (with_reducible first | exact HB.out | apply qab | apply qaa | apply qac | refine qaf ?_ GE206.out) | exact HB.out)⟩
          ·rw [if_neg c49] at H
           exact absurd H (by simp)
         ·rw [if_neg c48] at H
          exact absurd H (by simp)
        ·rw [if_neg c47] at H
         have c47b0 : decide (x53_2 < (l0_2.length : Int)) = false := decide_eq_false c47
         clear c47
         obtain rfl := Option.some.inj H
         go_wp2
         go_ret
         exact ⟨by first | rfl | (simp [qal, qam] <;> rfl) | (simp [*, qal, qam] <;> rfl), by repeat (first | (with_reducible first | exact HB.out | apply qab | apply qaa | apply qac | refine qaf ?_ GE206.out) | exact HB.out)⟩
end Go.Proofs.Ytenfomejccfkgaa.X
