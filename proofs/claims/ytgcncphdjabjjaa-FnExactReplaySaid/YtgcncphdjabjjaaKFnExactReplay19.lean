import Derived.Test.YtgcncphdjabjjaaKFnExactReplay3
import Derived.Test.YtgcncphdjabjjaaKFnExactReplay11
import Derived.Test.YtgcncphdjabjjaaKFnExactReplay18
namespace Go.Proofs.Ytgcncphdjabjjaa.X
open Go.RowKit Go.Proofs.YtgcncphdjabjjaaW.PrintWords Go.Proofs.YtgcncphdjabjjaaW.PrintLast Go.Proofs.YtgcncphdjabjjaaW.PrintMore
attribute [local go_sem] qaC qaD qaE qay qaz qaN qaO qat qau qaA qaB
set_option linter.unusedVariables false
set_option linter.unusedSimpArgs false
def qbl.f (k : Nat) (l0 : List (S76)) (a1 : ByteArray) (a2 : Int) (a3_0 : ByteArray) (a3_1 : ByteArray) (a3_2 : Int) (l3_3 : List (S82)) (a3_4 : Int) : Option ((List (S76)) × Int) := if a3_0.toList = a1.toList then (if a3_2 = a2 then ((qbY.f l0 l3_3).bind fun bt875 => (if bt875.2 = 0 then ((qaS.f k bt875.1).bind fun t879 => (if t879 = a3_4 then (some (bt875.1, 0)) else (some (l0, 8)))) else (some (l0, bt875.2)))) else (some (l0, 14))) else (some (l0, 13))
theorem qbl.mono : ∀ a0 a1 a2 a3 a4 a5 a6 a7 k, LeO (qbl.f k a0 a1 a2 a3 a4 a5 a6 a7) (qbl.f (k + 1) a0 a1 a2 a3 a4 a5 a6 a7) := by
 intro a0 a1 a2 a3 a4 a5 a6 a7 k
 unfold qbl.f
 repeat' first
   | (with_reducible exact qaS.mono _ _)
   | (with_reducible exact LeO.refl _)
   | (with_reducible exact LeO.none _)
   | (with_reducible refine LeO.ite ?_ ?_)
   | (with_reducible refine LeO.bind ?_ (fun _ => ?_))
   | exact qaS.mono _ _
   | exact LeO.none _
   | refine LeO.ite ?_ ?_
   | refine LeO.bind ?_ (fun _ => ?_)
set_option maxHeartbeats 8000000 in
set_option maxRecDepth 100000 in
theorem qbl.calls (k : Nat) (P0_ : Nat → Prop) (u9000_ : Value) (l0 : List (S76)) (a1 : ByteArray) (a2 : Int) (a3_0 : ByteArray) (a3_1 : ByteArray) (a3_2 : Int) (A3_3 : Option Addr) (c3_3 : Nat) (l3_3 : List (S82)) (a3_4 : Int) (r1 : List (S76)) (r2 : Int) (w0 w : World) (hB : Below w0.heap.size w0 w) (ho0 : Kd.R k76 76 w w0.heap.size P0_ u9000_ l0) (hr3_3 : ∀ W_, Kept w W_ (fun k_ => P0_ k_) → Kd.C k82 W_ A3_3 l3_3.length l3_3) (hc3_3 : l3_3.length ≤ c3_3) (h : qbl.f k l0 a1 a2 a3_0 a3_1 a3_2 l3_3 a3_4 = some (r1, r2)) :
  Calls Try.prog 73 #[u9000_, .string a1, .int .i64 a2, .agg #[.string a3_0, .string a3_1, .int .i64 a3_2, .slice A3_3 l3_3.length c3_3, .int .i64 a3_4]] w fun e w' => ∃ v0_ : Value, e = .returned (.tuple #[v0_, .int .i64 r2]) ∧ Kd.V k76 76 w' w0.heap.size (fun k_ => (P0_ k_ ∨ w.heap.size ≤ k_)) v0_ r1 ∧ Below w0.heap.size w0 w' ∧ Kept w w' (fun k_ => P0_ k_) := by
 have hu48 := Try.underlying48
 have HO0 := Aside0.mk (show Kd.R k76 76 w w0.heap.size (fun k_ => (P0_ k_ ∨ w.heap.size ≤ k_)) u9000_ l0 from Kd.qbs ho0 (fun k_ hk => (.inl hk)))
 have HR3_3 := Aside0.mk hr3_3
 have HC3_3 := Aside0.mk hc3_3
 clear hr3_3 hc3_3
 have HK := Aside0.mk (Kept.refl w (fun k_ => P0_ k_))
 have HW0 := Aside0.mk hB.size
 have HB := Aside0.mk hB
 clear hB
 have H : (if a3_0.toList = a1.toList then (if a3_2 = a2 then ((qbY.f l0 l3_3).bind fun bt875 => (if bt875.2 = 0 then ((qaS.f k bt875.1).bind fun t879 => (if t879 = a3_4 then (some (bt875.1, 0)) else (some (l0, 8)))) else (some (l0, bt875.2)))) else (some (l0, 14))) else (some (l0, 13))) = some (r1, r2) := h
 clear h
 by_cases c5 : a3_0.toList = a1.toList
 ·rw [if_pos c5] at H
  have c5b0 : (a3_0.toList == a1.toList) = true := beq_iff_eq.mpr c5
  have c5b1 : (a3_0.toList != a1.toList) = false := bne_eq_false_iff_eq.mpr c5
  clear c5
  by_cases c6 : a3_2 = a2
  ·rw [if_pos c6] at H
   have c6b0 : (a3_2 == a2) = true := beq_iff_eq.mpr c6
   have c6b1 : (a3_2 != a2) = false := bne_eq_false_iff_eq.mpr c6
   clear c6
   replace H := Option.bind_eq_some_iff.mp H
   obtain ⟨⟨t875, t878⟩, A70, H⟩ := H
   replace H : (if t878 = 0 then ((qaS.f k t875).bind fun t879 => (if t879 = a3_4 then (some (t875, 0)) else (some (l0, 8)))) else (some (l0, t878))) = some (r1, r2) := H
   have A7 := Aside0.mk A70
   clear A70
   by_cases c8 : t878 = 0
   ·rw [if_pos c8] at H
    have c8b0 : (t878 == 0) = true := beq_iff_eq.mpr c8
    have c8b1 : (t878 != 0) = false := bne_eq_false_iff_eq.mpr c8
    clear c8
    replace H := Option.bind_eq_some_iff.mp H
    obtain ⟨t879, A90, H⟩ := H
    replace H : (if t879 = a3_4 then (some (t875, 0)) else (some (l0, 8))) = some (r1, r2) := H
    have A9 := Aside0.mk A90
    clear A90
    by_cases c10 : t879 = a3_4
    ·rw [if_pos c10] at H
     have c10b0 : (t879 == a3_4) = true := beq_iff_eq.mpr c10
     have c10b1 : (t879 != a3_4) = false := bne_eq_false_iff_eq.mpr c10
     clear c10
     simp only [Option.some.injEq, Prod.mk.injEq] at H
     obtain ⟨rfl, rfl⟩ := H
     go_enter Try.func73, Try.ntmps73
     try go_wp2_with (first | ((with_reducible refine qaH (N := 7) rfl ?_); refine qaF ?hg (N := 7) ?hd (cs := #[.string a3_0, .string a3_1, .int .i64 a3_2, .slice A3_3 l3_3.length c3_3, .int .i64 a3_4]) (t := 48) ?hr ?_; (case hd => rfl); (case hg => rfl); (case hr => first | (go_simp; done) | (go_simp; rfl)); intro gb874 hg w11 hbox hb; have n0_ := Aside0.mk (Kd.qaR (by (with_reducible repeat (first | apply Kd.qaw | apply Kd.qax | apply Kd.qaI)); exact HO0.out) hb); have n1_ := Aside0.mk (Kept.below (S := (fun k_ => P0_ k_)) (by repeat (first | (with_reducible first | exact HK.out | apply Kept.alloc | apply Kept.drewN | apply Kept.drew) | exact HK.out)) hb); have n2_ := Aside0.mk (qag (by repeat (first | (with_reducible first | exact HB.out | apply qac | apply qaa | apply qab) | exact HB.out)) hb); have n3_ := Aside0.mk (hbox); have n4_ := Aside0.mk ((by rw [hg]; exact (by first | exact HK.out.1 | exact (show Kept w _ (fun k_ => P0_ k_) from by repeat (first | (with_reducible first | exact HK.out | apply Kept.alloc | apply Kept.drewN | apply Kept.drew) | exact HK.out)).1) : w.heap.size ≤ gb874)); have n5_ := Aside0.mk ((by rw [hg]; exact (qak (by repeat (first | (with_reducible first | exact HB.out | apply qac | apply qaa | apply qab) | exact HB.out))) : w0.heap.size ≤ gb874)); clear HO0; clear HK; clear HB; have HO0 := n0_; have HK := n1_; have HB := n2_; have BK874 := n3_; have GW874 := n4_; have GE874 := n5_; clear n0_ n1_ n2_ n3_ n4_ n5_; clear hb hbox hg; have hcz12_0 : w11.cell? ⟨gb874, 0, none⟩ = some (.string a3_0) := (qad BK874.out 0).trans rfl; have hcz12_1 : w11.cell? ⟨gb874, 1, none⟩ = some (.string a3_1) := (qad BK874.out 1).trans rfl; have hcz12_2 : w11.cell? ⟨gb874, 2, none⟩ = some (.int .i64 a3_2) := (qad BK874.out 2).trans rfl; have hcz12_3 : w11.cell? ⟨gb874, 3, none⟩ = some (.slice A3_3 l3_3.length c3_3) := (qad BK874.out 3).trans rfl; have hcz12_4 : w11.cell? ⟨gb874, 4, none⟩ = some (.int .i64 a3_4) := (qad BK874.out 4).trans rfl; have hfz12_0 := qae BK874.out 0; have hfz12_1 := qae BK874.out 1; have hfz12_2 := qae BK874.out 2; have hfz12_3 := qae BK874.out 3; have hfz12_4 := qae BK874.out 4; obtain ⟨Ao13, co13, eo13⟩ := Kd.qbN HO0.out; subst eo13) | ((with_reducible refine qav (f := 61) rfl ?_); refine qbd (some 26) rfl rfl Try.func61 (by kernel_rfl) rfl #[.slice Ao13 l0.length co13, .slice A3_3 l3_3.length c3_3] rfl (by (try simp only [List.map_toArray, List.map_cons, List.map_nil]); first | done | rfl | (simp only [List.length_drop, List.length_take]; rfl)) ?_; (with_reducible refine (qbY.calls (fun k_ => some k_ = (.slice Ao13 l0.length co13 : Value).ownBlock) _ _ l0 _ _ l3_3 t875 t878 _ ?side1 ?side2 ?side3 A7.out).mono ?_); (case side1 => exact Kd.R_V (Kd.qcF rfl (Kd.qcu (HO0.out) BK874.out (by decide)))); (case side2 => exact Kd.qdm HR3_3.out (by repeat (first | (with_reducible first | exact HK.out | apply Kept.alloc | apply Kept.drewN | apply Kept.drew | refine Kept.setCell ?_ (.inr GW874.out) _) | exact HK.out))); (case side3 => exact HC3_3.out); rintro e w14 ⟨v876, rfl, ho0, hb⟩; refine ⟨_, rfl, ?_⟩; have n0_ := Aside0.mk (Kd.qaR (by (with_reducible repeat (first | apply Kd.qaw | apply Kd.qax | apply Kd.qaI)); exact HO0.out) hb); have n1_ := Aside0.mk (Kd.qgj (Kd.qe2 (ok' := fun k_ => (P0_ k_ ∨ w.heap.size ≤ k_) ∧ k_ ≠ gb874) ho0 (fun k_ hk_ => ⟨Or.elim hk_ (fun hs_ => ((Kd.qcu (HO0.out) BK874.out (by decide)).1 k_ hs_.symm).1) (fun hn_ => (.inr (Nat.le_trans (by first | exact HK.out.1 | exact (show Kept w _ (fun k_ => P0_ k_) from by repeat (first | (with_reducible first | exact HK.out | apply Kept.alloc | apply Kept.drewN | apply Kept.drew | refine Kept.setCell ?_ (.inr GW874.out) _) | exact HK.out)).1) hn_))), Or.elim hk_ (fun hs_ => ((Kd.qcu (HO0.out) BK874.out (by decide)).1 k_ hs_.symm).2) (fun hn_ => (Kd.qgI (g := gb874) (o := .cells #[.string a3_0, .string a3_1, .int .i64 a3_2, .slice A3_3 l3_3.length c3_3, .int .i64 a3_4] 48 (0, 0)) (by (with_reducible repeat (first | refine qaj ?_ _ | refine qal ?_ | refine qai ?_ _)); exact BK874.out) k_ hn_))⟩)) (qak (by repeat (first | (with_reducible first | exact HB.out | apply qac | apply qaa | apply qab | refine qah ?_ GE874.out) | exact HB.out)))); have n2_ := Aside0.mk (qao (g := gb874) (o := .cells #[.string a3_0, .string a3_1, .int .i64 a3_2, .slice A3_3 l3_3.length c3_3, .int .i64 a3_4] 48 (0, 0)) (by (with_reducible repeat (first | refine qaj ?_ _ | refine qal ?_ | refine qai ?_ _)); exact BK874.out) hb); have n3_ := Aside0.mk (Kept.below (S := (fun k_ => P0_ k_)) (by repeat (first | (with_reducible first | exact HK.out | apply Kept.alloc | apply Kept.drewN | apply Kept.drew | refine Kept.setCell ?_ (.inr GW874.out) _) | exact HK.out)) hb); have n4_ := Aside0.mk (qag (by repeat (first | (with_reducible first | exact HB.out | apply qac | apply qaa | apply qab | refine qah ?_ GE874.out) | exact HB.out)) hb); clear HO0; clear BK874; clear HK; clear HB; have HO0 := n0_; have HO877 := n1_; have BK874 := n2_; have HK := n3_; have HB := n4_; clear n0_ n1_ n2_ n3_ n4_; (try clear hb); (try clear hb2); (try clear hk); (try clear hi); (try clear ho0)))
     have n0_ := Aside0.mk (Kd.qaI HO0.out)
     have n1_ := Aside0.mk (Kd.qex HO877.out)
     have n2_ := Aside0.mk (qal BK874.out)
     have n3_ := Aside0.mk (Kept.drew HK.out)
     have n4_ := Aside0.mk (qab HB.out)
     clear HO0
     clear HO877
     clear BK874
     clear HK
     clear HB
     have HO0 := n0_
     have HO877 := n1_
     have BK874 := n2_
     have HK := n3_
     have HB := n4_
     clear n0_ n1_ n2_ n3_ n4_
     obtain ⟨Ao16, co16, eo16⟩ := Kd.qfe HO877.out
     (first | subst eo16 | (injection eo16 with f1_ f2_ f3_; have f4_ := f1_.symm; have f5_ := f3_.symm; clear f1_ f2_ f3_; subst f4_; subst f5_))
     refine qfL (n := 5) (S := fun w' => w'.cell? ⟨gb874, 0, none⟩ = some (.string a3_0) ∧ w'.cell? ⟨gb874, 1, none⟩ = some (.string a3_1) ∧ w'.cell? ⟨gb874, 2, none⟩ = some (.int .i64 a3_2) ∧ w'.cell? ⟨gb874, 3, none⟩ = some (.slice A3_3 l3_3.length c3_3) ∧ w'.cell? ⟨gb874, 4, none⟩ = some (.int .i64 a3_4)) (ds := []) #[false, false, false, false, false] (by kernel_rfl) rfl rfl ⟨(qad BK874.out 0).trans rfl, (qad BK874.out 1).trans rfl, (qad BK874.out 2).trans rfl, (qad BK874.out 3).trans rfl, (qad BK874.out 4).trans rfl⟩ (fun hHeld => ?_)
     generalize w14.drew = w15 at HO0 HO877 BK874 HK HB hHeld ⊢
     refine qcK (i := 0) (N := some 33) (v := ?_) (a' := ?_) #[true, false, false, false, false] rfl rfl (by kernel_rfl) (fun _ _ _ h => h) (Or.inl ⟨by rfl, ?_⟩) ?_ ?_
     rotate_left
     ·intro w'
      go_simp
      with_reducible rfl
     rotate_left
     ·simp only [Act.put, List.setIfInBounds_toArray, List.set_cons_zero, List.set_cons_succ, qbS, qb0]
      rfl
     refine qcK (i := 2) (N := some 35) (v := ?_) (a' := ?_) #[true, false, true, false, false] rfl rfl (by kernel_rfl) (fun _ _ _ h => h) (Or.inl ⟨by rfl, ?_⟩) ?_ ?_
     rotate_left
     ·intro w'
      go_simp
      with_reducible rfl
     rotate_left
     ·simp only [Act.put, List.setIfInBounds_toArray, List.set_cons_zero, List.set_cons_succ, qbS, qb0]
      rfl
     refine qfC (i := 3) (N := some 36) (v := ?_) (a' := ?_) #[true, false, true, true, false] rfl rfl (by kernel_rfl) (fun _ _ _ h => h) (Or.inl ⟨by rfl, ?_⟩) hHeld ?_ ?_
     rotate_left
     ·rintro w' ⟨s0, s1, s2, s3, s4⟩
      go_simp
      with_reducible rfl
     rotate_left
     ·simp only [Act.put, List.setIfInBounds_toArray, List.set_cons_zero, List.set_cons_succ, qbS, qb0]
      rfl
     refine one_ (i := 1) (N := some 34) #[true, true, true, true, false] rfl rfl (by kernel_rfl) (by decide) (fun K hK => ?_)
     refine qhp Try.func51 (by kernel_rfl) rfl #[.slice Ao16 t875.length co16] (by rfl) rfl rfl (by (try simp only [List.map_toArray, List.map_cons, List.map_nil]); first | done | rfl | (simp only [List.length_drop, List.length_take]; rfl)) ?_
     with_reducible refine (qaS.calls k _ _ t875 t879 _ ?side1 ?side2 A9.out).mono ?_
     (case side1 => repeat (first | exact (Kd.qcX HO877.out).2.2 | (with_reducible refine Kd.qa6 ?_ _) | (with_reducible refine Kd.qa7 ?_ _) | (with_reducible refine Kd.qbj ?_)))
     (case side2 => exact (Kd.qcX HO877.out).2.1)
     rintro e w17 ⟨rfl, hb⟩
     refine ⟨_, rfl, ?_⟩
     have n0_ := Aside0.mk (Kd.qaR (by (with_reducible repeat (first | apply Kd.qaw | apply Kd.qax | apply Kd.qaI)); exact HO0.out) hb)
     have n1_ := Aside0.mk (Kd.qc8 (by (with_reducible repeat (first | apply Kd.qd6 | apply Kd.qey | apply Kd.qex)); exact HO877.out) hb)
     have n2_ := Aside0.mk (qao (g := gb874) (o := .cells #[.string a3_0, .string a3_1, .int .i64 a3_2, .slice A3_3 l3_3.length c3_3, .int .i64 a3_4] 48 (0, 0)) (by (with_reducible repeat (first | refine qaj ?_ _ | refine qal ?_ | refine qai ?_ _)); exact BK874.out) hb)
     have n3_ := Aside0.mk (Kept.below (S := (fun k_ => P0_ k_)) (by repeat (first | (with_reducible first | exact HK.out | apply Kept.alloc | apply Kept.drewN | apply Kept.drew | refine Kept.setCell ?_ (.inr GW874.out) _) | exact HK.out)) hb)
     have n4_ := Aside0.mk (qag (by repeat (first | (with_reducible first | exact HB.out | apply qac | apply qaa | apply qab | refine qah ?_ GE874.out) | exact HB.out)) hb)
     clear HO0
     clear HO877
     clear BK874
     clear HK
     clear HB
     have HO0 := n0_
     have HO877 := n1_
     have BK874 := n2_
     have HK := n3_
     have HB := n4_
     clear n0_ n1_ n2_ n3_ n4_
     (try clear hb)
     (try clear hb2)
     (try clear hk)
     (try clear hi)
     refine hK.out _ _ ⟨(qad BK874.out 0).trans rfl, (qad BK874.out 1).trans rfl, (qad BK874.out 2).trans rfl, (qad BK874.out 3).trans rfl, (qad BK874.out 4).trans rfl⟩ (fun hHeld => ?_)
     clear hK K
     refine qge (a' := ?_) ?_ ?_
     rotate_left
     ·show Act.put _ (some 34) _ = _
      simp only [Act.put, List.setIfInBounds_toArray, List.set_cons_zero, List.set_cons_succ, qbS, qb0]
      rfl
     refine qcK (i := 4) (N := some 37) (v := ?_) (a' := ?_) #[true, true, true, true, true] rfl rfl (by kernel_rfl) (fun _ _ _ h => h) (Or.inl ⟨by rfl, ?_⟩) ?_ ?_
     rotate_left
     ·intro w'
      go_simp
      with_reducible rfl
     rotate_left
     ·simp only [Act.put, List.setIfInBounds_toArray, List.set_cons_zero, List.set_cons_succ, qbS, qb0]
      rfl
     refine qhn (by kernel_rfl) ?_
     try go_wp2
     go_ret2
     exact ⟨_, by first | rfl | (simp [qam, qan] <;> rfl) | (simp [*, qam, qan] <;> rfl), by (with_reducible repeat (first | apply Kd.qd6 | apply Kd.qey | apply Kd.qex)); exact Kd.qe2 HO877.out (fun _ hk => hk.1), by repeat (first | (with_reducible first | exact HB.out | apply qac | apply qaa | apply qab | refine qah ?_ GE874.out) | exact HB.out), by repeat (first | (with_reducible first | exact HK.out | apply Kept.alloc | apply Kept.drewN | apply Kept.drew | refine Kept.setCell ?_ (.inr GW874.out) _) | exact HK.out)⟩
    ·rw [if_neg c10] at H
     have c10b0 : (t879 == a3_4) = false := beq_eq_false_iff_ne.mpr c10
     have c10b1 : (t879 != a3_4) = true := bne_iff_ne.mpr c10
     simp only [Option.some.injEq, Prod.mk.injEq] at H
     obtain ⟨rfl, rfl⟩ := H
     go_enter Try.func73, Try.ntmps73
     try go_wp2_with (first | ((with_reducible refine qaH (N := 7) rfl ?_); refine qaF ?hg (N := 7) ?hd (cs := #[.string a3_0, .string a3_1, .int .i64 a3_2, .slice A3_3 l3_3.length c3_3, .int .i64 a3_4]) (t := 48) ?hr ?_; (case hd => rfl); (case hg => rfl); (case hr => first | (go_simp; done) | (go_simp; rfl)); intro gb874 hg w18 hbox hb; have n0_ := Aside0.mk (Kd.qaR (by (with_reducible repeat (first | apply Kd.qaw | apply Kd.qax | apply Kd.qaI)); exact HO0.out) hb); have n1_ := Aside0.mk (Kept.below (S := (fun k_ => P0_ k_)) (by repeat (first | (with_reducible first | exact HK.out | apply Kept.alloc | apply Kept.drewN | apply Kept.drew) | exact HK.out)) hb); have n2_ := Aside0.mk (qag (by repeat (first | (with_reducible first | exact HB.out | apply qac | apply qaa | apply qab) | exact HB.out)) hb); have n3_ := Aside0.mk (hbox); have n4_ := Aside0.mk ((by rw [hg]; exact (by first | exact HK.out.1 | exact (show Kept w _ (fun k_ => P0_ k_) from by repeat (first | (with_reducible first | exact HK.out | apply Kept.alloc | apply Kept.drewN | apply Kept.drew) | exact HK.out)).1) : w.heap.size ≤ gb874)); have n5_ := Aside0.mk ((by rw [hg]; exact (qak (by repeat (first | (with_reducible first | exact HB.out | apply qac | apply qaa | apply qab) | exact HB.out))) : w0.heap.size ≤ gb874)); clear HO0; clear HK; clear HB; have HO0 := n0_; have HK := n1_; have HB := n2_; have BK874 := n3_; have GW874 := n4_; have GE874 := n5_; clear n0_ n1_ n2_ n3_ n4_ n5_; clear hb hbox hg; have hcz19_0 : w18.cell? ⟨gb874, 0, none⟩ = some (.string a3_0) := (qad BK874.out 0).trans rfl; have hcz19_1 : w18.cell? ⟨gb874, 1, none⟩ = some (.string a3_1) := (qad BK874.out 1).trans rfl; have hcz19_2 : w18.cell? ⟨gb874, 2, none⟩ = some (.int .i64 a3_2) := (qad BK874.out 2).trans rfl; have hcz19_3 : w18.cell? ⟨gb874, 3, none⟩ = some (.slice A3_3 l3_3.length c3_3) := (qad BK874.out 3).trans rfl; have hcz19_4 : w18.cell? ⟨gb874, 4, none⟩ = some (.int .i64 a3_4) := (qad BK874.out 4).trans rfl; have hfz19_0 := qae BK874.out 0; have hfz19_1 := qae BK874.out 1; have hfz19_2 := qae BK874.out 2; have hfz19_3 := qae BK874.out 3; have hfz19_4 := qae BK874.out 4; obtain ⟨Ao20, co20, eo20⟩ := Kd.qbN HO0.out; subst eo20) | ((with_reducible refine qav (f := 61) rfl ?_); refine qbd (some 26) rfl rfl Try.func61 (by kernel_rfl) rfl #[.slice Ao20 l0.length co20, .slice A3_3 l3_3.length c3_3] rfl (by (try simp only [List.map_toArray, List.map_cons, List.map_nil]); first | done | rfl | (simp only [List.length_drop, List.length_take]; rfl)) ?_; (with_reducible refine (qbY.calls (fun k_ => some k_ = (.slice Ao20 l0.length co20 : Value).ownBlock) _ _ l0 _ _ l3_3 t875 t878 _ ?side1 ?side2 ?side3 A7.out).mono ?_); (case side1 => exact Kd.R_V (Kd.qcF rfl (Kd.qcu (HO0.out) BK874.out (by decide)))); (case side2 => exact Kd.qdm HR3_3.out (by repeat (first | (with_reducible first | exact HK.out | apply Kept.alloc | apply Kept.drewN | apply Kept.drew | refine Kept.setCell ?_ (.inr GW874.out) _) | exact HK.out))); (case side3 => exact HC3_3.out); rintro e w21 ⟨v876, rfl, ho0, hb⟩; refine ⟨_, rfl, ?_⟩; have n0_ := Aside0.mk (Kd.qaR (by (with_reducible repeat (first | apply Kd.qaw | apply Kd.qax | apply Kd.qaI)); exact HO0.out) hb); have n1_ := Aside0.mk (Kd.qgj (Kd.qe2 (ok' := fun k_ => (P0_ k_ ∨ w.heap.size ≤ k_) ∧ k_ ≠ gb874) ho0 (fun k_ hk_ => ⟨Or.elim hk_ (fun hs_ => ((Kd.qcu (HO0.out) BK874.out (by decide)).1 k_ hs_.symm).1) (fun hn_ => (.inr (Nat.le_trans (by first | exact HK.out.1 | exact (show Kept w _ (fun k_ => P0_ k_) from by repeat (first | (with_reducible first | exact HK.out | apply Kept.alloc | apply Kept.drewN | apply Kept.drew | refine Kept.setCell ?_ (.inr GW874.out) _) | exact HK.out)).1) hn_))), Or.elim hk_ (fun hs_ => ((Kd.qcu (HO0.out) BK874.out (by decide)).1 k_ hs_.symm).2) (fun hn_ => (Kd.qgI (g := gb874) (o := .cells #[.string a3_0, .string a3_1, .int .i64 a3_2, .slice A3_3 l3_3.length c3_3, .int .i64 a3_4] 48 (0, 0)) (by (with_reducible repeat (first | refine qaj ?_ _ | refine qal ?_ | refine qai ?_ _)); exact BK874.out) k_ hn_))⟩)) (qak (by repeat (first | (with_reducible first | exact HB.out | apply qac | apply qaa | apply qab | refine qah ?_ GE874.out) | exact HB.out)))); have n2_ := Aside0.mk (qao (g := gb874) (o := .cells #[.string a3_0, .string a3_1, .int .i64 a3_2, .slice A3_3 l3_3.length c3_3, .int .i64 a3_4] 48 (0, 0)) (by (with_reducible repeat (first | refine qaj ?_ _ | refine qal ?_ | refine qai ?_ _)); exact BK874.out) hb); have n3_ := Aside0.mk (Kept.below (S := (fun k_ => P0_ k_)) (by repeat (first | (with_reducible first | exact HK.out | apply Kept.alloc | apply Kept.drewN | apply Kept.drew | refine Kept.setCell ?_ (.inr GW874.out) _) | exact HK.out)) hb); have n4_ := Aside0.mk (qag (by repeat (first | (with_reducible first | exact HB.out | apply qac | apply qaa | apply qab | refine qah ?_ GE874.out) | exact HB.out)) hb); clear HO0; clear BK874; clear HK; clear HB; have HO0 := n0_; have HO877 := n1_; have BK874 := n2_; have HK := n3_; have HB := n4_; clear n0_ n1_ n2_ n3_ n4_; (try clear hb); (try clear hb2); (try clear hk); (try clear hi); (try clear ho0)))
     have n0_ := Aside0.mk (Kd.qaI HO0.out)
     have n1_ := Aside0.mk (Kd.qex HO877.out)
     have n2_ := Aside0.mk (qal BK874.out)
     have n3_ := Aside0.mk (Kept.drew HK.out)
     have n4_ := Aside0.mk (qab HB.out)
     clear HO0
     clear HO877
     clear BK874
     clear HK
     clear HB
     have HO0 := n0_
     have HO877 := n1_
     have BK874 := n2_
     have HK := n3_
     have HB := n4_
     clear n0_ n1_ n2_ n3_ n4_
     obtain ⟨Ao23, co23, eo23⟩ := Kd.qfe HO877.out
     (first | subst eo23 | (injection eo23 with f1_ f2_ f3_; have f4_ := f1_.symm; have f5_ := f3_.symm; clear f1_ f2_ f3_; subst f4_; subst f5_))
     refine qfL (n := 5) (S := fun w' => w'.cell? ⟨gb874, 0, none⟩ = some (.string a3_0) ∧ w'.cell? ⟨gb874, 1, none⟩ = some (.string a3_1) ∧ w'.cell? ⟨gb874, 2, none⟩ = some (.int .i64 a3_2) ∧ w'.cell? ⟨gb874, 3, none⟩ = some (.slice A3_3 l3_3.length c3_3) ∧ w'.cell? ⟨gb874, 4, none⟩ = some (.int .i64 a3_4)) (ds := []) #[false, false, false, false, false] (by kernel_rfl) rfl rfl ⟨(qad BK874.out 0).trans rfl, (qad BK874.out 1).trans rfl, (qad BK874.out 2).trans rfl, (qad BK874.out 3).trans rfl, (qad BK874.out 4).trans rfl⟩ (fun hHeld => ?_)
     generalize w21.drew = w22 at HO0 HO877 BK874 HK HB hHeld ⊢
     refine qcK (i := 0) (N := some 33) (v := ?_) (a' := ?_) #[true, false, false, false, false] rfl rfl (by kernel_rfl) (fun _ _ _ h => h) (Or.inl ⟨by rfl, ?_⟩) ?_ ?_
     rotate_left
     ·intro w'
      go_simp
      with_reducible rfl
     rotate_left
     ·simp only [Act.put, List.setIfInBounds_toArray, List.set_cons_zero, List.set_cons_succ, qbS, qb0]
      rfl
     refine qcK (i := 2) (N := some 35) (v := ?_) (a' := ?_) #[true, false, true, false, false] rfl rfl (by kernel_rfl) (fun _ _ _ h => h) (Or.inl ⟨by rfl, ?_⟩) ?_ ?_
     rotate_left
     ·intro w'
      go_simp
      with_reducible rfl
     rotate_left
     ·simp only [Act.put, List.setIfInBounds_toArray, List.set_cons_zero, List.set_cons_succ, qbS, qb0]
      rfl
     refine qfC (i := 3) (N := some 36) (v := ?_) (a' := ?_) #[true, false, true, true, false] rfl rfl (by kernel_rfl) (fun _ _ _ h => h) (Or.inl ⟨by rfl, ?_⟩) hHeld ?_ ?_
     rotate_left
     ·rintro w' ⟨s0, s1, s2, s3, s4⟩
      go_simp
      with_reducible rfl
     rotate_left
     ·simp only [Act.put, List.setIfInBounds_toArray, List.set_cons_zero, List.set_cons_succ, qbS, qb0]
      rfl
     refine one_ (i := 1) (N := some 34) #[true, true, true, true, false] rfl rfl (by kernel_rfl) (by decide) (fun K hK => ?_)
     refine qhp Try.func51 (by kernel_rfl) rfl #[.slice Ao23 t875.length co23] (by rfl) rfl rfl (by (try simp only [List.map_toArray, List.map_cons, List.map_nil]); first | done | rfl | (simp only [List.length_drop, List.length_take]; rfl)) ?_
     with_reducible refine (qaS.calls k _ _ t875 t879 _ ?side1 ?side2 A9.out).mono ?_
     (case side1 => repeat (first | exact (Kd.qcX HO877.out).2.2 | (with_reducible refine Kd.qa6 ?_ _) | (with_reducible refine Kd.qa7 ?_ _) | (with_reducible refine Kd.qbj ?_)))
     (case side2 => exact (Kd.qcX HO877.out).2.1)
     rintro e w24 ⟨rfl, hb⟩
     refine ⟨_, rfl, ?_⟩
     have n0_ := Aside0.mk (Kd.qaR (by (with_reducible repeat (first | apply Kd.qaw | apply Kd.qax | apply Kd.qaI)); exact HO0.out) hb)
     have n1_ := Aside0.mk (Kd.qc8 (by (with_reducible repeat (first | apply Kd.qd6 | apply Kd.qey | apply Kd.qex)); exact HO877.out) hb)
     have n2_ := Aside0.mk (qao (g := gb874) (o := .cells #[.string a3_0, .string a3_1, .int .i64 a3_2, .slice A3_3 l3_3.length c3_3, .int .i64 a3_4] 48 (0, 0)) (by (with_reducible repeat (first | refine qaj ?_ _ | refine qal ?_ | refine qai ?_ _)); exact BK874.out) hb)
     have n3_ := Aside0.mk (Kept.below (S := (fun k_ => P0_ k_)) (by repeat (first | (with_reducible first | exact HK.out | apply Kept.alloc | apply Kept.drewN | apply Kept.drew | refine Kept.setCell ?_ (.inr GW874.out) _) | exact HK.out)) hb)
     have n4_ := Aside0.mk (qag (by repeat (first | (with_reducible first | exact HB.out | apply qac | apply qaa | apply qab | refine qah ?_ GE874.out) | exact HB.out)) hb)
     clear HO0
     clear HO877
     clear BK874
     clear HK
     clear HB
     have HO0 := n0_
     have HO877 := n1_
     have BK874 := n2_
     have HK := n3_
     have HB := n4_
     clear n0_ n1_ n2_ n3_ n4_
     (try clear hb)
     (try clear hb2)
     (try clear hk)
     (try clear hi)
     refine hK.out _ _ ⟨(qad BK874.out 0).trans rfl, (qad BK874.out 1).trans rfl, (qad BK874.out 2).trans rfl, (qad BK874.out 3).trans rfl, (qad BK874.out 4).trans rfl⟩ (fun hHeld => ?_)
     clear hK K
     refine qge (a' := ?_) ?_ ?_
     rotate_left
     ·show Act.put _ (some 34) _ = _
      simp only [Act.put, List.setIfInBounds_toArray, List.set_cons_zero, List.set_cons_succ, qbS, qb0]
      rfl
     refine qcK (i := 4) (N := some 37) (v := ?_) (a' := ?_) #[true, true, true, true, true] rfl rfl (by kernel_rfl) (fun _ _ _ h => h) (Or.inl ⟨by rfl, ?_⟩) ?_ ?_
     rotate_left
     ·intro w'
      go_simp
      with_reducible rfl
     rotate_left
     ·simp only [Act.put, List.setIfInBounds_toArray, List.set_cons_zero, List.set_cons_succ, qbS, qb0]
      rfl
     refine qhn (by kernel_rfl) ?_
     try go_wp2
     go_ret2
     exact ⟨_, by first | rfl | (simp [qam, qan] <;> rfl) | (simp [*, qam, qan] <;> rfl), Kd.R_V (by (with_reducible repeat (first | apply Kd.qaw | apply Kd.qax | apply Kd.qaI)); exact HO0.out), by repeat (first | (with_reducible first | exact HB.out | apply qac | apply qaa | apply qab | refine qah ?_ GE874.out) | exact HB.out), by repeat (first | (with_reducible first | exact HK.out | apply Kept.alloc | apply Kept.drewN | apply Kept.drew | refine Kept.setCell ?_ (.inr GW874.out) _) | exact HK.out)⟩
   ·rw [if_neg c8] at H
    have c8b0 : (t878 == 0) = false := beq_eq_false_iff_ne.mpr c8
    have c8b1 : (t878 != 0) = true := bne_iff_ne.mpr c8
    simp only [Option.some.injEq, Prod.mk.injEq] at H
    obtain ⟨rfl, rfl⟩ := H
    go_enter Try.func73, Try.ntmps73
    go_wp2_with (first | ((with_reducible refine qaH (N := 7) rfl ?_); refine qaF ?hg (N := 7) ?hd (cs := #[.string a3_0, .string a3_1, .int .i64 a3_2, .slice A3_3 l3_3.length c3_3, .int .i64 a3_4]) (t := 48) ?hr ?_; (case hd => rfl); (case hg => rfl); (case hr => first | (go_simp; done) | (go_simp; rfl)); intro gb874 hg w25 hbox hb; have n0_ := Aside0.mk (Kd.qaR (by (with_reducible repeat (first | apply Kd.qaw | apply Kd.qax | apply Kd.qaI)); exact HO0.out) hb); have n1_ := Aside0.mk (Kept.below (S := (fun k_ => P0_ k_)) (by repeat (first | (with_reducible first | exact HK.out | apply Kept.alloc | apply Kept.drewN | apply Kept.drew) | exact HK.out)) hb); have n2_ := Aside0.mk (qag (by repeat (first | (with_reducible first | exact HB.out | apply qac | apply qaa | apply qab) | exact HB.out)) hb); have n3_ := Aside0.mk (hbox); have n4_ := Aside0.mk ((by rw [hg]; exact (by first | exact HK.out.1 | exact (show Kept w _ (fun k_ => P0_ k_) from by repeat (first | (with_reducible first | exact HK.out | apply Kept.alloc | apply Kept.drewN | apply Kept.drew) | exact HK.out)).1) : w.heap.size ≤ gb874)); have n5_ := Aside0.mk ((by rw [hg]; exact (qak (by repeat (first | (with_reducible first | exact HB.out | apply qac | apply qaa | apply qab) | exact HB.out))) : w0.heap.size ≤ gb874)); clear HO0; clear HK; clear HB; have HO0 := n0_; have HK := n1_; have HB := n2_; have BK874 := n3_; have GW874 := n4_; have GE874 := n5_; clear n0_ n1_ n2_ n3_ n4_ n5_; clear hb hbox hg; have hcz26_0 : w25.cell? ⟨gb874, 0, none⟩ = some (.string a3_0) := (qad BK874.out 0).trans rfl; have hcz26_1 : w25.cell? ⟨gb874, 1, none⟩ = some (.string a3_1) := (qad BK874.out 1).trans rfl; have hcz26_2 : w25.cell? ⟨gb874, 2, none⟩ = some (.int .i64 a3_2) := (qad BK874.out 2).trans rfl; have hcz26_3 : w25.cell? ⟨gb874, 3, none⟩ = some (.slice A3_3 l3_3.length c3_3) := (qad BK874.out 3).trans rfl; have hcz26_4 : w25.cell? ⟨gb874, 4, none⟩ = some (.int .i64 a3_4) := (qad BK874.out 4).trans rfl; have hfz26_0 := qae BK874.out 0; have hfz26_1 := qae BK874.out 1; have hfz26_2 := qae BK874.out 2; have hfz26_3 := qae BK874.out 3; have hfz26_4 := qae BK874.out 4; obtain ⟨Ao27, co27, eo27⟩ := Kd.qbN HO0.out; subst eo27) | ((with_reducible refine qav (f := 61) rfl ?_); refine qbd (some 26) rfl rfl Try.func61 (by kernel_rfl) rfl #[.slice Ao27 l0.length co27, .slice A3_3 l3_3.length c3_3] rfl (by (try simp only [List.map_toArray, List.map_cons, List.map_nil]); first | done | rfl | (simp only [List.length_drop, List.length_take]; rfl)) ?_; (with_reducible refine (qbY.calls (fun k_ => some k_ = (.slice Ao27 l0.length co27 : Value).ownBlock) _ _ l0 _ _ l3_3 t875 t878 _ ?side1 ?side2 ?side3 A7.out).mono ?_); (case side1 => exact Kd.R_V (Kd.qcF rfl (Kd.qcu (HO0.out) BK874.out (by decide)))); (case side2 => exact Kd.qdm HR3_3.out (by repeat (first | (with_reducible first | exact HK.out | apply Kept.alloc | apply Kept.drewN | apply Kept.drew | refine Kept.setCell ?_ (.inr GW874.out) _) | exact HK.out))); (case side3 => exact HC3_3.out); rintro e w28 ⟨v876, rfl, ho0, hb⟩; refine ⟨_, rfl, ?_⟩; have n0_ := Aside0.mk (Kd.qaR (by (with_reducible repeat (first | apply Kd.qaw | apply Kd.qax | apply Kd.qaI)); exact HO0.out) hb); have n1_ := Aside0.mk (Kd.qgj (Kd.qe2 (ok' := fun k_ => (P0_ k_ ∨ w.heap.size ≤ k_) ∧ k_ ≠ gb874) ho0 (fun k_ hk_ => ⟨Or.elim hk_ (fun hs_ => ((Kd.qcu (HO0.out) BK874.out (by decide)).1 k_ hs_.symm).1) (fun hn_ => (.inr (Nat.le_trans (by first | exact HK.out.1 | exact (show Kept w _ (fun k_ => P0_ k_) from by repeat (first | (with_reducible first | exact HK.out | apply Kept.alloc | apply Kept.drewN | apply Kept.drew | refine Kept.setCell ?_ (.inr GW874.out) _) | exact HK.out)).1) hn_))), Or.elim hk_ (fun hs_ => ((Kd.qcu (HO0.out) BK874.out (by decide)).1 k_ hs_.symm).2) (fun hn_ => (Kd.qgI (g := gb874) (o := .cells #[.string a3_0, .string a3_1, .int .i64 a3_2, .slice A3_3 l3_3.length c3_3, .int .i64 a3_4] 48 (0, 0)) (by (with_reducible repeat (first | refine qaj ?_ _ | refine qal ?_ | refine qai ?_ _)); exact BK874.out) k_ hn_))⟩)) (qak (by repeat (first | (with_reducible first | exact HB.out | apply qac | apply qaa | apply qab | refine qah ?_ GE874.out) | exact HB.out)))); have n2_ := Aside0.mk (qao (g := gb874) (o := .cells #[.string a3_0, .string a3_1, .int .i64 a3_2, .slice A3_3 l3_3.length c3_3, .int .i64 a3_4] 48 (0, 0)) (by (with_reducible repeat (first | refine qaj ?_ _ | refine qal ?_ | refine qai ?_ _)); exact BK874.out) hb); have n3_ := Aside0.mk (Kept.below (S := (fun k_ => P0_ k_)) (by repeat (first | (with_reducible first | exact HK.out | apply Kept.alloc | apply Kept.drewN | apply Kept.drew | refine Kept.setCell ?_ (.inr GW874.out) _) | exact HK.out)) hb); have n4_ := Aside0.mk (qag (by repeat (first | (with_reducible first | exact HB.out | apply qac | apply qaa | apply qab | refine qah ?_ GE874.out) | exact HB.out)) hb); clear HO0; clear BK874; clear HK; clear HB; have HO0 := n0_; have HO877 := n1_; have BK874 := n2_; have HK := n3_; have HB := n4_; clear n0_ n1_ n2_ n3_ n4_; (try clear hb); (try clear hb2); (try clear hk); (try clear hi); (try clear ho0)))
    go_ret2
    exact ⟨_, by first | rfl | (simp [qam, qan] <;> rfl) | (simp [*, qam, qan] <;> rfl), Kd.R_V (by (with_reducible repeat (first | apply Kd.qaw | apply Kd.qax | apply Kd.qaI)); exact HO0.out), by repeat (first | (with_reducible first | exact HB.out | apply qac | apply qaa | apply qab | refine qah ?_ GE874.out) | exact HB.out), by repeat (first | (with_reducible first | exact HK.out | apply Kept.alloc | apply Kept.drewN | apply Kept.drew | refine Kept.setCell ?_ (.inr GW874.out) _) | exact HK.out)⟩
  ·rw [if_neg c6] at H
   have c6b0 : (a3_2 == a2) = false := beq_eq_false_iff_ne.mpr c6
   have c6b1 : (a3_2 != a2) = true := bne_iff_ne.mpr c6
   simp only [Option.some.injEq, Prod.mk.injEq] at H
   obtain ⟨rfl, rfl⟩ := H
   go_enter Try.func73, Try.ntmps73
   go_wp2_with (first | ((with_reducible refine qaH (N := 7) rfl ?_); refine qaF ?hg (N := 7) ?hd (cs := #[.string a3_0, .string a3_1, .int .i64 a3_2, .slice A3_3 l3_3.length c3_3, .int .i64 a3_4]) (t := 48) ?hr ?_; (case hd => rfl); (case hg => rfl); (case hr => first | (go_simp; done) | (go_simp; rfl)); intro gb874 hg w29 hbox hb; have n0_ := Aside0.mk (Kd.qaR (by (with_reducible repeat (first | apply Kd.qaw | apply Kd.qax | apply Kd.qaI)); exact HO0.out) hb); have n1_ := Aside0.mk (Kept.below (S := (fun k_ => P0_ k_)) (by repeat (first | (with_reducible first | exact HK.out | apply Kept.alloc | apply Kept.drewN | apply Kept.drew) | exact HK.out)) hb); have n2_ := Aside0.mk (qag (by repeat (first | (with_reducible first | exact HB.out | apply qac | apply qaa | apply qab) | exact HB.out)) hb); have n3_ := Aside0.mk (hbox); have n4_ := Aside0.mk ((by rw [hg]; exact (by first | exact HK.out.1 | exact (show Kept w _ (fun k_ => P0_ k_) from by repeat (first | (with_reducible first | exact HK.out | apply Kept.alloc | apply Kept.drewN | apply Kept.drew) | exact HK.out)).1) : w.heap.size ≤ gb874)); have n5_ := Aside0.mk ((by rw [hg]; exact (qak (by repeat (first | (with_reducible first | exact HB.out | apply qac | apply qaa | apply qab) | exact HB.out))) : w0.heap.size ≤ gb874)); clear HO0; clear HK; clear HB; have HO0 := n0_; have HK := n1_; have HB := n2_; have BK874 := n3_; have GW874 := n4_; have GE874 := n5_; clear n0_ n1_ n2_ n3_ n4_ n5_; clear hb hbox hg; have hcz30_0 : w29.cell? ⟨gb874, 0, none⟩ = some (.string a3_0) := (qad BK874.out 0).trans rfl; have hcz30_1 : w29.cell? ⟨gb874, 1, none⟩ = some (.string a3_1) := (qad BK874.out 1).trans rfl; have hcz30_2 : w29.cell? ⟨gb874, 2, none⟩ = some (.int .i64 a3_2) := (qad BK874.out 2).trans rfl; have hcz30_3 : w29.cell? ⟨gb874, 3, none⟩ = some (.slice A3_3 l3_3.length c3_3) := (qad BK874.out 3).trans rfl; have hcz30_4 : w29.cell? ⟨gb874, 4, none⟩ = some (.int .i64 a3_4) := (qad BK874.out 4).trans rfl; have hfz30_0 := qae BK874.out 0; have hfz30_1 := qae BK874.out 1; have hfz30_2 := qae BK874.out 2; have hfz30_3 := qae BK874.out 3; have hfz30_4 := qae BK874.out 4))
   go_ret2
   exact ⟨_, by first | rfl | (simp [qam, qan] <;> rfl) | (simp [*, qam, qan] <;> rfl), Kd.R_V (by (with_reducible repeat (first | apply Kd.qaw | apply Kd.qax | apply Kd.qaI)); exact HO0.out), by repeat (first | (with_reducible first | exact HB.out | apply qac | apply qaa | apply qab | refine qah ?_ GE874.out) | exact HB.out), by repeat (first | (with_reducible first | exact HK.out | apply Kept.alloc | apply Kept.drewN | apply Kept.drew | refine Kept.setCell ?_ (.inr GW874.out) _) | exact HK.out)⟩
 ·rw [if_neg c5] at H
  have c5b0 : (a3_0.toList == a1.toList) = false := beq_eq_false_iff_ne.mpr c5
  have c5b1 : (a3_0.toList != a1.toList) = true := bne_iff_ne.mpr c5
  simp only [Option.some.injEq, Prod.mk.injEq] at H
  obtain ⟨rfl, rfl⟩ := H
  go_enter Try.func73, Try.ntmps73
  go_wp2_with (first | ((with_reducible refine qaH (N := 7) rfl ?_); refine qaF ?hg (N := 7) ?hd (cs := #[.string a3_0, .string a3_1, .int .i64 a3_2, .slice A3_3 l3_3.length c3_3, .int .i64 a3_4]) (t := 48) ?hr ?_; (case hd => rfl); (case hg => rfl); (case hr => first | (go_simp; done) | (go_simp; rfl)); intro gb874 hg w31 hbox hb; have n0_ := Aside0.mk (Kd.qaR (by (with_reducible repeat (first | apply Kd.qaw | apply Kd.qax | apply Kd.qaI)); exact HO0.out) hb); have n1_ := Aside0.mk (Kept.below (S := (fun k_ => P0_ k_)) (by repeat (first | (with_reducible first | exact HK.out | apply Kept.alloc | apply Kept.drewN | apply Kept.drew) | exact HK.out)) hb); have n2_ := Aside0.mk (qag (by repeat (first | (with_reducible first | exact HB.out | apply qac | apply qaa | apply qab) | exact HB.out)) hb); have n3_ := Aside0.mk (hbox); have n4_ := Aside0.mk ((by rw [hg]; exact (by first | exact HK.out.1 | exact (show Kept w _ (fun k_ => P0_ k_) from by repeat (first | (with_reducible first | exact HK.out | apply Kept.alloc | apply Kept.drewN | apply Kept.drew) | exact HK.out)).1) : w.heap.size ≤ gb874)); have n5_ := Aside0.mk ((by rw [hg]; exact (qak (by repeat (first | (with_reducible first | exact HB.out | apply qac | apply qaa | apply qab) | exact HB.out))) : w0.heap.size ≤ gb874)); clear HO0; clear HK; clear HB; have HO0 := n0_; have HK := n1_; have HB := n2_; have BK874 := n3_; have GW874 := n4_; have GE874 := n5_; clear n0_ n1_ n2_ n3_ n4_ n5_; clear hb hbox hg; have hcz32_0 : w31.cell? ⟨gb874, 0, none⟩ = some (.string a3_0) := (qad BK874.out 0).trans rfl; have hcz32_1 : w31.cell? ⟨gb874, 1, none⟩ = some (.string a3_1) := (qad BK874.out 1).trans rfl; have hcz32_2 : w31.cell? ⟨gb874, 2, none⟩ = some (.int .i64 a3_2) := (qad BK874.out 2).trans rfl; have hcz32_3 : w31.cell? ⟨gb874, 3, none⟩ = some (.slice A3_3 l3_3.length c3_3) := (qad BK874.out 3).trans rfl; have hcz32_4 : w31.cell? ⟨gb874, 4, none⟩ = some (.int .i64 a3_4) := (qad BK874.out 4).trans rfl; have hfz32_0 := qae BK874.out 0; have hfz32_1 := qae BK874.out 1; have hfz32_2 := qae BK874.out 2; have hfz32_3 := qae BK874.out 3; have hfz32_4 := qae BK874.out 4))
  go_ret2
  exact ⟨_, by first | rfl | (simp [qam, qan] <;> rfl) | (simp [*, qam, qan] <;> rfl), Kd.R_V (by (with_reducible repeat (first | apply Kd.qaw | apply Kd.qax | apply Kd.qaI)); exact HO0.out), by repeat (first | (with_reducible first | exact HB.out | apply qac | apply qaa | apply qab | refine qah ?_ GE874.out) | exact HB.out), by repeat (first | (with_reducible first | exact HK.out | apply Kept.alloc | apply Kept.drewN | apply Kept.drew | refine Kept.setCell ?_ (.inr GW874.out) _) | exact HK.out)⟩
end Go.Proofs.Ytgcncphdjabjjaa.X
