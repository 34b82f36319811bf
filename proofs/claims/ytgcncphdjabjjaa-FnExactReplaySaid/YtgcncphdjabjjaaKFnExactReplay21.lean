import Derived.Test.YtgcncphdjabjjaaKFnExactReplay3
import Derived.Test.YtgcncphdjabjjaaKFnExactReplay4
import Derived.Test.YtgcncphdjabjjaaKFnExactReplay5
import Derived.Test.YtgcncphdjabjjaaKFnExactReplay7
import Derived.Test.YtgcncphdjabjjaaKFnExactReplay12
namespace Go.Proofs.Ytgcncphdjabjjaa.X
open Go.RowKit Go.Proofs.YtgcncphdjabjjaaW.PrintWords Go.Proofs.YtgcncphdjabjjaaW.PrintLast Go.Proofs.YtgcncphdjabjjaaW.PrintMore
attribute [local go_sem] qaC qaD qaE qay qaz qaN qaO qat qau qaA qaB
set_option linter.unusedVariables false
set_option linter.unusedSimpArgs false
def qbf.f (k : Nat) (l0 : List (S76)) (a1 : ByteArray) (a2 : Int) (a3_0 : ByteArray) (a3_1 : ByteArray) (a3_2 : Int) (l3_3 : List (S82)) (a3_4 : Int) : Option ((List (S76)) × Int) := if a3_0.toList = a1.toList then (if a3_2 = a2 then ((qaq.f k l0 l3_3).bind fun bt909 => (if bt909.2 = 0 then ((qbw.f bt909.1).bind fun t913 => (if t913 = a3_4 then (some (bt909.1, bt909.2)) else ((qa1.f l0).bind fun t914 => (some (t914, 8))))) else (some (bt909.1, bt909.2)))) else ((qa1.f l0).bind fun t903 => (some (t903, 14)))) else ((qa1.f l0).bind fun t906 => (some (t906, 13)))
theorem qbf.mono : ∀ a0 a1 a2 a3 a4 a5 a6 a7 k, LeO (qbf.f k a0 a1 a2 a3 a4 a5 a6 a7) (qbf.f (k + 1) a0 a1 a2 a3 a4 a5 a6 a7) := by
 intro a0 a1 a2 a3 a4 a5 a6 a7 k
 unfold qbf.f
 repeat' first
   | (with_reducible exact qaq.mono _ _ _)
   | (with_reducible exact LeO.refl _)
   | (with_reducible exact LeO.none _)
   | (with_reducible refine LeO.ite ?_ ?_)
   | (with_reducible refine LeO.bind ?_ (fun _ => ?_))
   | exact qaq.mono _ _ _
   | exact LeO.none _
   | refine LeO.ite ?_ ?_
   | refine LeO.bind ?_ (fun _ => ?_)
def qbf.T6 : Bool × List (List Nat × List Nat) := (true, [([], []), ([0], [0]), ([1], [1]), ([2], [2]), ([3, 2, 2], [2, 3]), ([2], [2]), ([5, 2], [2, 5]), ([4, 6, 2], [2, 4, 6]), ([2, 7], [2, 7])])
def qbf.B6 : List Nat := [0, 1, 3, 7, 15, 7, 39, 127, 255]
theorem qbf.tab6 : rtab .any (opsOf Try.f74 6) = qbf.T6 := by kernel_rfl
theorem qbf.bits6 : qdq qbf.T6.2 qbf.B6 = true := by kernel_rfl
set_option maxHeartbeats 8000000 in
set_option maxRecDepth 100000 in
theorem qbf.calls (k : Nat) (A0 : Option Addr) (c0 : Nat) (l0 : List (S76)) (a1 : ByteArray) (a2 : Int) (a3_0 : ByteArray) (a3_1 : ByteArray) (a3_2 : Int) (A3_3 : Option Addr) (c3_3 : Nat) (l3_3 : List (S82)) (a3_4 : Int) (r1 : List (S76)) (r2 : Int) (w : World) (hr0 : Kd.C k76 w A0 l0.length l0) (hc0 : l0.length ≤ c0) (hr3_3 : Kd.C k82 w A3_3 l3_3.length l3_3) (hc3_3 : l3_3.length ≤ c3_3) (h : qbf.f k l0 a1 a2 a3_0 a3_1 a3_2 l3_3 a3_4 = some (r1, r2)) :
  Calls Try.prog 74 #[.slice A0 l0.length c0, .string a1, .int .i64 a2, .agg #[.string a3_0, .string a3_1, .int .i64 a3_2, .slice A3_3 l3_3.length c3_3, .int .i64 a3_4]] w fun e w' => ∃ v0_ : Value, e = .returned (.tuple #[v0_, .int .i64 r2]) ∧ Kd.R k76 76 w' w.heap.size (fun _ => True) v0_ r1 ∧ Below w.heap.size w w' := by
 have hu48 := Try.underlying48
 have HR0 := Aside0.mk hr0
 have HC0 := Aside0.mk hc0
 clear hr0 hc0
 have HR3_3 := Aside0.mk hr3_3
 have HC3_3 := Aside0.mk hc3_3
 clear hr3_3 hc3_3
 have HB := Aside0.mk (Below.refl w.heap.size w)
 have H : (if a3_0.toList = a1.toList then (if a3_2 = a2 then ((qaq.f k l0 l3_3).bind fun bt909 => (if bt909.2 = 0 then ((qbw.f bt909.1).bind fun t913 => (if t913 = a3_4 then (some (bt909.1, bt909.2)) else ((qa1.f l0).bind fun t914 => (some (t914, 8))))) else (some (bt909.1, bt909.2)))) else ((qa1.f l0).bind fun t903 => (some (t903, 14)))) else ((qa1.f l0).bind fun t906 => (some (t906, 13)))) = some (r1, r2) := h
 clear h
 by_cases c5 : a3_0.toList = a1.toList
 ·rw [if_pos c5] at H
  have c5b0 : (a3_0.toList == a1.toList) = true := beq_iff_eq.mpr c5
  have c5b1 : (a3_0.toList != a1.toList) = false := bne_eq_false_iff_eq.mpr c5
  clear c5
  by_cases c6 : a3_2 = a2
  ·rw [if_pos c6] at H
   have c6b0 : (a3_2 == a2) = true := beq_iff_eq.mpr c6
   have c6b1 : (a3_2 != a2) = false := bne_eq_false_iff_eq.mpr c6
   clear c6
   replace H := Option.bind_eq_some_iff.mp H
   obtain ⟨⟨t909, t910⟩, A70, H⟩ := H
   replace H : (if t910 = 0 then ((qbw.f t909).bind fun t913 => (if t913 = a3_4 then (some (t909, t910)) else ((qa1.f l0).bind fun t914 => (some (t914, 8))))) else (some (t909, t910))) = some (r1, r2) := H
   have A7 := Aside0.mk A70
   clear A70
   by_cases c8 : t910 = 0
   ·rw [if_pos c8] at H
    have c8b0 : (t910 == 0) = true := beq_iff_eq.mpr c8
    have c8b1 : (t910 != 0) = false := bne_eq_false_iff_eq.mpr c8
    clear c8
    replace H := Option.bind_eq_some_iff.mp H
    obtain ⟨t913, A90, H⟩ := H
    replace H : (if t913 = a3_4 then (some (t909, t910)) else ((qa1.f l0).bind fun t914 => (some (t914, 8)))) = some (r1, r2) := H
    have A9 := Aside0.mk A90
    clear A90
    by_cases c10 : t913 = a3_4
    ·rw [if_pos c10] at H
     have c10b0 : (t913 == a3_4) = true := beq_iff_eq.mpr c10
     have c10b1 : (t913 != a3_4) = false := bne_eq_false_iff_eq.mpr c10
     clear c10
     simp only [Option.some.injEq, Prod.mk.injEq] at H
     obtain ⟨rfl, rfl⟩ := H
     go_enter Try.func74, Try.ntmps74
     try go_wp2_with (first | ((with_reducible refine qaH (N := 7) rfl ?_); refine qaF ?hg (N := 7) ?hd (cs := #[.string a3_0, .string a3_1, .int .i64 a3_2, .slice A3_3 l3_3.length c3_3, .int .i64 a3_4]) (t := 48) ?hr ?_; (case hd => rfl); (case hg => rfl); (case hr => first | (go_simp; done) | (go_simp; rfl)); intro gb902 hg w11 hbox hb; have n0_ := Aside0.mk (qag (by repeat (first | (with_reducible first | exact HB.out | apply qac | apply qaa | apply qab) | exact HB.out)) hb); have n1_ := Aside0.mk (hbox); have n2_ := Aside0.mk ((by rw [hg]; exact (qak (by repeat (first | (with_reducible first | exact HB.out | apply qac | apply qaa | apply qab) | exact HB.out))) : w.heap.size ≤ gb902)); have n3_ := Aside0.mk ((by rw [hg]; exact (qak (by repeat (first | (with_reducible first | exact HB.out | apply qac | apply qaa | apply qab) | exact HB.out))) : w.heap.size ≤ gb902)); clear HB; have HB := n0_; have BK902 := n1_; have GW902 := n2_; have GE902 := n3_; clear n0_ n1_ n2_ n3_; clear hb hbox hg; have hcz12_0 : w11.cell? ⟨gb902, 0, none⟩ = some (.string a3_0) := (qad BK902.out 0).trans rfl; have hcz12_1 : w11.cell? ⟨gb902, 1, none⟩ = some (.string a3_1) := (qad BK902.out 1).trans rfl; have hcz12_2 : w11.cell? ⟨gb902, 2, none⟩ = some (.int .i64 a3_2) := (qad BK902.out 2).trans rfl; have hcz12_3 : w11.cell? ⟨gb902, 3, none⟩ = some (.slice A3_3 l3_3.length c3_3) := (qad BK902.out 3).trans rfl; have hcz12_4 : w11.cell? ⟨gb902, 4, none⟩ = some (.int .i64 a3_4) := (qad BK902.out 4).trans rfl; have hfz12_0 := qae BK902.out 0; have hfz12_1 := qae BK902.out 1; have hfz12_2 := qae BK902.out 2; have hfz12_3 := qae BK902.out 3; have hfz12_4 := qae BK902.out 4) | ((with_reducible refine qav (f := 63) rfl ?_); refine qbd (some 30) rfl rfl Try.func63 (by kernel_rfl) rfl #[.slice A0 l0.length c0, .slice A3_3 l3_3.length c3_3] rfl (by (try simp only [List.map_toArray, List.map_cons, List.map_nil]); first | done | rfl | (simp only [List.length_drop, List.length_take]; rfl)) ?_; (with_reducible refine (qaq.calls k _ _ l0 _ _ l3_3 t909 t910 _ ?side1 ?side2 ?side3 ?side4 A7.out).mono ?_); (case side1 => repeat (first | exact (Kd.qbe HR0.out HB.out) | (with_reducible refine Kd.qa6 ?_ _) | (with_reducible refine Kd.qa7 ?_ _) | (with_reducible refine Kd.qbj ?_))); (case side2 => exact HC0.out); (case side3 => repeat (first | exact (Kd.qbe HR3_3.out HB.out) | (with_reducible refine Kd.qa6 ?_ _) | (with_reducible refine Kd.qa7 ?_ _) | (with_reducible refine Kd.qbj ?_))); (case side4 => exact HC3_3.out); rintro e w13 ⟨v911, rfl, ho0, hb⟩; refine ⟨_, rfl, ?_⟩; have n0_ := Aside0.mk (Kd.qbp ho0 (qak (by repeat (first | (with_reducible first | exact HB.out | apply qac | apply qaa | apply qab | refine qah ?_ GE902.out) | exact HB.out)))); have n1_ := Aside0.mk (qao (g := gb902) (o := .cells #[.string a3_0, .string a3_1, .int .i64 a3_2, .slice A3_3 l3_3.length c3_3, .int .i64 a3_4] 48 (0, 0)) (by (with_reducible repeat (first | refine qaj ?_ _ | refine qal ?_ | refine qai ?_ _)); exact BK902.out) hb); have n2_ := Aside0.mk (qag (by repeat (first | (with_reducible first | exact HB.out | apply qac | apply qaa | apply qab | refine qah ?_ GE902.out) | exact HB.out)) hb); clear BK902; clear HB; have HO912 := n0_; have BK902 := n1_; have HB := n2_; clear n0_ n1_ n2_; (try clear hb); (try clear hb2); (try clear hk); (try clear hi); (try clear ho0)))
     have n0_ := Aside0.mk (Kd.qaI HO912.out)
     have n1_ := Aside0.mk (qal BK902.out)
     have n2_ := Aside0.mk (qab HB.out)
     clear HO912
     clear BK902
     clear HB
     have HO912 := n0_
     have BK902 := n1_
     have HB := n2_
     clear n0_ n1_ n2_
     obtain ⟨Ao15, co15, eo15⟩ := Kd.qbN HO912.out
     (first | subst eo15 | (injection eo15 with f1_ f2_ f3_; have f4_ := f1_.symm; have f5_ := f3_.symm; clear f1_ f2_ f3_; subst f4_; subst f5_))
     refine qfL (n := 9) (S := fun w' => w'.cell? ⟨gb902, 0, none⟩ = some (.string a3_0) ∧ w'.cell? ⟨gb902, 1, none⟩ = some (.string a3_1) ∧ w'.cell? ⟨gb902, 2, none⟩ = some (.int .i64 a3_2) ∧ w'.cell? ⟨gb902, 3, none⟩ = some (.slice A3_3 l3_3.length c3_3) ∧ w'.cell? ⟨gb902, 4, none⟩ = some (.int .i64 a3_4)) (ds := []) #[false, false, false, false, false, false, false, false, false] (by kernel_rfl) rfl rfl ⟨(qad BK902.out 0).trans rfl, (qad BK902.out 1).trans rfl, (qad BK902.out 2).trans rfl, (qad BK902.out 3).trans rfl, (qad BK902.out 4).trans rfl⟩ (fun hHeld => ?_); refine qev qbf.tab6 qbf.bits6 (fun HT_ HW_ => ?_)
     generalize w13.drew = w14 at HO912 BK902 HB hHeld ⊢
     refine qcK (i := 0) (N := some 33) (v := ?_) (a' := ?_) #[true, false, false, false, false, false, false, false, false] rfl rfl (qcr HT_.out (by kernel_rfl)) (fun _ _ _ h => h) (Or.inl ⟨by rfl, ?_⟩) ?_ ?_
     rotate_left
     ·intro w'
      go_simp
      with_reducible rfl
     rotate_left
     ·simp only [Act.put, List.setIfInBounds_toArray, List.set_cons_zero, List.set_cons_succ, qbS, qb0]
      rfl
     refine qcK (i := 1) (N := some 34) (v := ?_) (a' := ?_) #[true, true, false, false, false, false, false, false, false] rfl rfl (qcr HT_.out (by kernel_rfl)) (fun _ _ _ h => h) (Or.inl ⟨by rfl, ?_⟩) ?_ ?_
     rotate_left
     ·intro w'
      go_simp
      with_reducible rfl
     rotate_left
     ·simp only [Act.put, List.setIfInBounds_toArray, List.set_cons_zero, List.set_cons_succ, qbS, qb0]
      rfl
     refine qcK (i := 2) (N := some 35) (v := ?_) (a' := ?_) #[true, true, true, false, false, false, false, false, false] rfl rfl (qcr HT_.out (by kernel_rfl)) (fun _ _ _ h => h) (Or.inl ⟨by rfl, ?_⟩) ?_ ?_
     rotate_left
     ·intro w'
      go_simp
      with_reducible rfl
     rotate_left
     ·simp only [Act.put, List.setIfInBounds_toArray, List.set_cons_zero, List.set_cons_succ, qbS, qb0]
      rfl
     refine qcK (i := 3) (N := some 36) (v := ?_) (a' := ?_) #[true, true, true, true, false, false, false, false, false] rfl rfl (qcr HT_.out (by kernel_rfl)) (fun _ _ _ h => h) (Or.inl ⟨by rfl, ?_⟩) ?_ ?_
     rotate_left
     ·intro w'
      go_simp
      with_reducible rfl
     rotate_left
     ·simp only [Act.put, List.setIfInBounds_toArray, List.set_cons_zero, List.set_cons_succ, qbS, qb0]
      rfl
     refine qcK (i := 5) (N := some 38) (v := ?_) (a' := ?_) #[true, true, true, true, false, true, false, false, false] rfl rfl (qcr HT_.out (by kernel_rfl)) (fun _ _ _ h => h) (Or.inl ⟨by rfl, ?_⟩) ?_ ?_
     rotate_left
     ·intro w'
      go_simp
      with_reducible rfl
     rotate_left
     ·simp only [Act.put, List.setIfInBounds_toArray, List.set_cons_zero, List.set_cons_succ, qbS, qb0]
      rfl
     refine qfC (i := 6) (N := some 39) (v := ?_) (a' := ?_) #[true, true, true, true, false, true, true, false, false] rfl rfl (qei HT_.out HW_.out (by kernel_rfl)) (fun _ _ _ h => h) (Or.inl ⟨by rfl, ?_⟩) hHeld ?_ ?_
     rotate_left
     ·rintro w' ⟨s0, s1, s2, s3, s4⟩
      go_simp
      with_reducible rfl
     rotate_left
     ·simp only [Act.put, List.setIfInBounds_toArray, List.set_cons_zero, List.set_cons_succ, qbS, qb0]
      rfl
     refine one_ (i := 4) (N := some 37) #[true, true, true, true, true, true, true, false, false] rfl rfl (qfO HT_.out (by kernel_rfl)) (by decide) (fun K hK => ?_)
     refine qhp Try.func54 (by kernel_rfl) rfl #[.slice Ao15 t909.length co15] (by rfl) rfl rfl (by (try simp only [List.map_toArray, List.map_cons, List.map_nil]); first | done | rfl | (simp only [List.length_drop, List.length_take]; rfl)) ?_
     with_reducible refine (qbw.calls _ _ t909 t913 _ ?side1 ?side2 A9.out).mono ?_
     (case side1 => repeat (first | exact (Kd.qaM HO912.out).2.2 | (with_reducible refine Kd.qa6 ?_ _) | (with_reducible refine Kd.qa7 ?_ _) | (with_reducible refine Kd.qbj ?_)))
     (case side2 => exact (Kd.qaM HO912.out).2.1)
     rintro e w16 ⟨rfl, hb⟩
     refine ⟨_, rfl, ?_⟩
     have n0_ := Aside0.mk (Kd.qaR (by (with_reducible repeat (first | apply Kd.qaw | apply Kd.qax | apply Kd.qaI)); exact HO912.out) hb)
     have n1_ := Aside0.mk (qao (g := gb902) (o := .cells #[.string a3_0, .string a3_1, .int .i64 a3_2, .slice A3_3 l3_3.length c3_3, .int .i64 a3_4] 48 (0, 0)) (by (with_reducible repeat (first | refine qaj ?_ _ | refine qal ?_ | refine qai ?_ _)); exact BK902.out) hb)
     have n2_ := Aside0.mk (qag (by repeat (first | (with_reducible first | exact HB.out | apply qac | apply qaa | apply qab | refine qah ?_ GE902.out) | exact HB.out)) hb)
     clear HO912
     clear BK902
     clear HB
     have HO912 := n0_
     have BK902 := n1_
     have HB := n2_
     clear n0_ n1_ n2_
     (try clear hb)
     (try clear hb2)
     (try clear hk)
     (try clear hi)
     refine hK.out _ _ ⟨(qad BK902.out 0).trans rfl, (qad BK902.out 1).trans rfl, (qad BK902.out 2).trans rfl, (qad BK902.out 3).trans rfl, (qad BK902.out 4).trans rfl⟩ (fun hHeld => ?_)
     clear hK K
     refine qge (a' := ?_) ?_ ?_
     rotate_left
     ·show Act.put _ (some 37) _ = _
      simp only [Act.put, List.setIfInBounds_toArray, List.set_cons_zero, List.set_cons_succ, qbS, qb0]
      rfl
     refine qcK (i := 7) (N := some 40) (v := ?_) (a' := ?_) #[true, true, true, true, true, true, true, true, false] rfl rfl (qcr HT_.out (by kernel_rfl)) (fun _ _ _ h => h) (Or.inl ⟨by rfl, ?_⟩) ?_ ?_
     rotate_left
     ·intro w'
      go_simp
      with_reducible rfl
     rotate_left
     ·simp only [Act.put, List.setIfInBounds_toArray, List.set_cons_zero, List.set_cons_succ, qbS, qb0]
      rfl
     refine qcK (i := 8) (N := some 41) (v := ?_) (a' := ?_) #[true, true, true, true, true, true, true, true, true] rfl rfl (qcr HT_.out (by kernel_rfl)) (fun _ _ _ h => h) (Or.inl ⟨by rfl, ?_⟩) ?_ ?_
     rotate_left
     ·intro w'
      go_simp
      with_reducible rfl
     rotate_left
     ·simp only [Act.put, List.setIfInBounds_toArray, List.set_cons_zero, List.set_cons_succ, qbS, qb0]
      rfl
     refine qhn (qgg HT_.out (by kernel_rfl)) ?_
     try go_wp2
     go_ret2
     exact ⟨_, by first | rfl | (simp [qam, qan] <;> rfl) | (simp [*, qam, qan] <;> rfl), by (with_reducible repeat (first | apply Kd.qaw | apply Kd.qax | apply Kd.qaI)); exact HO912.out, by repeat (first | (with_reducible first | exact HB.out | apply qac | apply qaa | apply qab | refine qah ?_ GE902.out) | exact HB.out)⟩
    ·rw [if_neg c10] at H
     have c10b0 : (t913 == a3_4) = false := beq_eq_false_iff_ne.mpr c10
     have c10b1 : (t913 != a3_4) = true := bne_iff_ne.mpr c10
     replace H := Option.bind_eq_some_iff.mp H
     obtain ⟨t914, A170, H⟩ := H
     replace H : (some (t914, 8)) = some (r1, r2) := H
     have A17 := Aside0.mk A170
     clear A170
     simp only [Option.some.injEq, Prod.mk.injEq] at H
     obtain ⟨rfl, rfl⟩ := H
     go_enter Try.func74, Try.ntmps74
     try go_wp2_with (first | ((with_reducible refine qaH (N := 7) rfl ?_); refine qaF ?hg (N := 7) ?hd (cs := #[.string a3_0, .string a3_1, .int .i64 a3_2, .slice A3_3 l3_3.length c3_3, .int .i64 a3_4]) (t := 48) ?hr ?_; (case hd => rfl); (case hg => rfl); (case hr => first | (go_simp; done) | (go_simp; rfl)); intro gb902 hg w18 hbox hb; have n0_ := Aside0.mk (qag (by repeat (first | (with_reducible first | exact HB.out | apply qac | apply qaa | apply qab) | exact HB.out)) hb); have n1_ := Aside0.mk (hbox); have n2_ := Aside0.mk ((by rw [hg]; exact (qak (by repeat (first | (with_reducible first | exact HB.out | apply qac | apply qaa | apply qab) | exact HB.out))) : w.heap.size ≤ gb902)); have n3_ := Aside0.mk ((by rw [hg]; exact (qak (by repeat (first | (with_reducible first | exact HB.out | apply qac | apply qaa | apply qab) | exact HB.out))) : w.heap.size ≤ gb902)); clear HB; have HB := n0_; have BK902 := n1_; have GW902 := n2_; have GE902 := n3_; clear n0_ n1_ n2_ n3_; clear hb hbox hg; have hcz19_0 : w18.cell? ⟨gb902, 0, none⟩ = some (.string a3_0) := (qad BK902.out 0).trans rfl; have hcz19_1 : w18.cell? ⟨gb902, 1, none⟩ = some (.string a3_1) := (qad BK902.out 1).trans rfl; have hcz19_2 : w18.cell? ⟨gb902, 2, none⟩ = some (.int .i64 a3_2) := (qad BK902.out 2).trans rfl; have hcz19_3 : w18.cell? ⟨gb902, 3, none⟩ = some (.slice A3_3 l3_3.length c3_3) := (qad BK902.out 3).trans rfl; have hcz19_4 : w18.cell? ⟨gb902, 4, none⟩ = some (.int .i64 a3_4) := (qad BK902.out 4).trans rfl; have hfz19_0 := qae BK902.out 0; have hfz19_1 := qae BK902.out 1; have hfz19_2 := qae BK902.out 2; have hfz19_3 := qae BK902.out 3; have hfz19_4 := qae BK902.out 4) | ((with_reducible refine qav (f := 63) rfl ?_); refine qbd (some 30) rfl rfl Try.func63 (by kernel_rfl) rfl #[.slice A0 l0.length c0, .slice A3_3 l3_3.length c3_3] rfl (by (try simp only [List.map_toArray, List.map_cons, List.map_nil]); first | done | rfl | (simp only [List.length_drop, List.length_take]; rfl)) ?_; (with_reducible refine (qaq.calls k _ _ l0 _ _ l3_3 t909 t910 _ ?side1 ?side2 ?side3 ?side4 A7.out).mono ?_); (case side1 => repeat (first | exact (Kd.qbe HR0.out HB.out) | (with_reducible refine Kd.qa6 ?_ _) | (with_reducible refine Kd.qa7 ?_ _) | (with_reducible refine Kd.qbj ?_))); (case side2 => exact HC0.out); (case side3 => repeat (first | exact (Kd.qbe HR3_3.out HB.out) | (with_reducible refine Kd.qa6 ?_ _) | (with_reducible refine Kd.qa7 ?_ _) | (with_reducible refine Kd.qbj ?_))); (case side4 => exact HC3_3.out); rintro e w20 ⟨v911, rfl, ho0, hb⟩; refine ⟨_, rfl, ?_⟩; have n0_ := Aside0.mk (Kd.qbp ho0 (qak (by repeat (first | (with_reducible first | exact HB.out | apply qac | apply qaa | apply qab | refine qah ?_ GE902.out) | exact HB.out)))); have n1_ := Aside0.mk (qao (g := gb902) (o := .cells #[.string a3_0, .string a3_1, .int .i64 a3_2, .slice A3_3 l3_3.length c3_3, .int .i64 a3_4] 48 (0, 0)) (by (with_reducible repeat (first | refine qaj ?_ _ | refine qal ?_ | refine qai ?_ _)); exact BK902.out) hb); have n2_ := Aside0.mk (qag (by repeat (first | (with_reducible first | exact HB.out | apply qac | apply qaa | apply qab | refine qah ?_ GE902.out) | exact HB.out)) hb); clear BK902; clear HB; have HO912 := n0_; have BK902 := n1_; have HB := n2_; clear n0_ n1_ n2_; (try clear hb); (try clear hb2); (try clear hk); (try clear hi); (try clear ho0)))
     have n0_ := Aside0.mk (Kd.qaI HO912.out)
     have n1_ := Aside0.mk (qal BK902.out)
     have n2_ := Aside0.mk (qab HB.out)
     clear HO912
     clear BK902
     clear HB
     have HO912 := n0_
     have BK902 := n1_
     have HB := n2_
     clear n0_ n1_ n2_
     obtain ⟨Ao22, co22, eo22⟩ := Kd.qbN HO912.out
     (first | subst eo22 | (injection eo22 with f1_ f2_ f3_; have f4_ := f1_.symm; have f5_ := f3_.symm; clear f1_ f2_ f3_; subst f4_; subst f5_))
     refine qfL (n := 9) (S := fun w' => w'.cell? ⟨gb902, 0, none⟩ = some (.string a3_0) ∧ w'.cell? ⟨gb902, 1, none⟩ = some (.string a3_1) ∧ w'.cell? ⟨gb902, 2, none⟩ = some (.int .i64 a3_2) ∧ w'.cell? ⟨gb902, 3, none⟩ = some (.slice A3_3 l3_3.length c3_3) ∧ w'.cell? ⟨gb902, 4, none⟩ = some (.int .i64 a3_4)) (ds := []) #[false, false, false, false, false, false, false, false, false] (by kernel_rfl) rfl rfl ⟨(qad BK902.out 0).trans rfl, (qad BK902.out 1).trans rfl, (qad BK902.out 2).trans rfl, (qad BK902.out 3).trans rfl, (qad BK902.out 4).trans rfl⟩ (fun hHeld => ?_); refine qev qbf.tab6 qbf.bits6 (fun HT_ HW_ => ?_)
     generalize w20.drew = w21 at HO912 BK902 HB hHeld ⊢
     refine qcK (i := 0) (N := some 33) (v := ?_) (a' := ?_) #[true, false, false, false, false, false, false, false, false] rfl rfl (qcr HT_.out (by kernel_rfl)) (fun _ _ _ h => h) (Or.inl ⟨by rfl, ?_⟩) ?_ ?_
     rotate_left
     ·intro w'
      go_simp
      with_reducible rfl
     rotate_left
     ·simp only [Act.put, List.setIfInBounds_toArray, List.set_cons_zero, List.set_cons_succ, qbS, qb0]
      rfl
     refine qcK (i := 1) (N := some 34) (v := ?_) (a' := ?_) #[true, true, false, false, false, false, false, false, false] rfl rfl (qcr HT_.out (by kernel_rfl)) (fun _ _ _ h => h) (Or.inl ⟨by rfl, ?_⟩) ?_ ?_
     rotate_left
     ·intro w'
      go_simp
      with_reducible rfl
     rotate_left
     ·simp only [Act.put, List.setIfInBounds_toArray, List.set_cons_zero, List.set_cons_succ, qbS, qb0]
      rfl
     refine qcK (i := 2) (N := some 35) (v := ?_) (a' := ?_) #[true, true, true, false, false, false, false, false, false] rfl rfl (qcr HT_.out (by kernel_rfl)) (fun _ _ _ h => h) (Or.inl ⟨by rfl, ?_⟩) ?_ ?_
     rotate_left
     ·intro w'
      go_simp
      with_reducible rfl
     rotate_left
     ·simp only [Act.put, List.setIfInBounds_toArray, List.set_cons_zero, List.set_cons_succ, qbS, qb0]
      rfl
     refine qcK (i := 3) (N := some 36) (v := ?_) (a' := ?_) #[true, true, true, true, false, false, false, false, false] rfl rfl (qcr HT_.out (by kernel_rfl)) (fun _ _ _ h => h) (Or.inl ⟨by rfl, ?_⟩) ?_ ?_
     rotate_left
     ·intro w'
      go_simp
      with_reducible rfl
     rotate_left
     ·simp only [Act.put, List.setIfInBounds_toArray, List.set_cons_zero, List.set_cons_succ, qbS, qb0]
      rfl
     refine qcK (i := 5) (N := some 38) (v := ?_) (a' := ?_) #[true, true, true, true, false, true, false, false, false] rfl rfl (qcr HT_.out (by kernel_rfl)) (fun _ _ _ h => h) (Or.inl ⟨by rfl, ?_⟩) ?_ ?_
     rotate_left
     ·intro w'
      go_simp
      with_reducible rfl
     rotate_left
     ·simp only [Act.put, List.setIfInBounds_toArray, List.set_cons_zero, List.set_cons_succ, qbS, qb0]
      rfl
     refine qfC (i := 6) (N := some 39) (v := ?_) (a' := ?_) #[true, true, true, true, false, true, true, false, false] rfl rfl (qei HT_.out HW_.out (by kernel_rfl)) (fun _ _ _ h => h) (Or.inl ⟨by rfl, ?_⟩) hHeld ?_ ?_
     rotate_left
     ·rintro w' ⟨s0, s1, s2, s3, s4⟩
      go_simp
      with_reducible rfl
     rotate_left
     ·simp only [Act.put, List.setIfInBounds_toArray, List.set_cons_zero, List.set_cons_succ, qbS, qb0]
      rfl
     refine one_ (i := 4) (N := some 37) #[true, true, true, true, true, true, true, false, false] rfl rfl (qfO HT_.out (by kernel_rfl)) (by decide) (fun K hK => ?_)
     refine qhp Try.func54 (by kernel_rfl) rfl #[.slice Ao22 t909.length co22] (by rfl) rfl rfl (by (try simp only [List.map_toArray, List.map_cons, List.map_nil]); first | done | rfl | (simp only [List.length_drop, List.length_take]; rfl)) ?_
     with_reducible refine (qbw.calls _ _ t909 t913 _ ?side1 ?side2 A9.out).mono ?_
     (case side1 => repeat (first | exact (Kd.qaM HO912.out).2.2 | (with_reducible refine Kd.qa6 ?_ _) | (with_reducible refine Kd.qa7 ?_ _) | (with_reducible refine Kd.qbj ?_)))
     (case side2 => exact (Kd.qaM HO912.out).2.1)
     rintro e w23 ⟨rfl, hb⟩
     refine ⟨_, rfl, ?_⟩
     have n0_ := Aside0.mk (Kd.qaR (by (with_reducible repeat (first | apply Kd.qaw | apply Kd.qax | apply Kd.qaI)); exact HO912.out) hb)
     have n1_ := Aside0.mk (qao (g := gb902) (o := .cells #[.string a3_0, .string a3_1, .int .i64 a3_2, .slice A3_3 l3_3.length c3_3, .int .i64 a3_4] 48 (0, 0)) (by (with_reducible repeat (first | refine qaj ?_ _ | refine qal ?_ | refine qai ?_ _)); exact BK902.out) hb)
     have n2_ := Aside0.mk (qag (by repeat (first | (with_reducible first | exact HB.out | apply qac | apply qaa | apply qab | refine qah ?_ GE902.out) | exact HB.out)) hb)
     clear HO912
     clear BK902
     clear HB
     have HO912 := n0_
     have BK902 := n1_
     have HB := n2_
     clear n0_ n1_ n2_
     (try clear hb)
     (try clear hb2)
     (try clear hk)
     (try clear hi)
     refine hK.out _ _ ⟨(qad BK902.out 0).trans rfl, (qad BK902.out 1).trans rfl, (qad BK902.out 2).trans rfl, (qad BK902.out 3).trans rfl, (qad BK902.out 4).trans rfl⟩ (fun hHeld => ?_)
     clear hK K
     refine qge (a' := ?_) ?_ ?_
     rotate_left
     ·show Act.put _ (some 37) _ = _
      simp only [Act.put, List.setIfInBounds_toArray, List.set_cons_zero, List.set_cons_succ, qbS, qb0]
      rfl
     refine qcK (i := 7) (N := some 40) (v := ?_) (a' := ?_) #[true, true, true, true, true, true, true, true, false] rfl rfl (qcr HT_.out (by kernel_rfl)) (fun _ _ _ h => h) (Or.inl ⟨by rfl, ?_⟩) ?_ ?_
     rotate_left
     ·intro w'
      go_simp
      with_reducible rfl
     rotate_left
     ·simp only [Act.put, List.setIfInBounds_toArray, List.set_cons_zero, List.set_cons_succ, qbS, qb0]
      rfl
     refine qcK (i := 8) (N := some 41) (v := ?_) (a' := ?_) #[true, true, true, true, true, true, true, true, true] rfl rfl (qcr HT_.out (by kernel_rfl)) (fun _ _ _ h => h) (Or.inl ⟨by rfl, ?_⟩) ?_ ?_
     rotate_left
     ·intro w'
      go_simp
      with_reducible rfl
     rotate_left
     ·simp only [Act.put, List.setIfInBounds_toArray, List.set_cons_zero, List.set_cons_succ, qbS, qb0]
      rfl
     refine qhn (qgg HT_.out (by kernel_rfl)) ?_
     try go_wp2_with (first | ((with_reducible refine qav (f := 90) rfl ?_); refine qbd (some 43) rfl rfl Try.func90 (by kernel_rfl) rfl #[.slice A0 l0.length c0] rfl (by (try simp only [List.map_toArray, List.map_cons, List.map_nil]); first | done | rfl | (simp only [List.length_drop, List.length_take]; rfl)) ?_; (with_reducible refine (qa1.calls _ _ l0 t914 _ ?side1 ?side2 A17.out).mono ?_); (case side1 => repeat (first | exact (Kd.qbe HR0.out HB.out) | (with_reducible refine Kd.qa6 ?_ _) | (with_reducible refine Kd.qa7 ?_ _) | (with_reducible refine Kd.qbj ?_))); (case side2 => exact HC0.out); rintro e w24 ⟨v915, rfl, ho0, hb⟩; refine ⟨_, rfl, ?_⟩; have n0_ := Aside0.mk (Kd.qch (by (with_reducible repeat (first | apply Kd.qaw | apply Kd.qax | apply Kd.qaI)); exact HO912.out) (Kd.qcQ ho0) hb); have n1_ := Aside0.mk (Kd.qbp (Kd.qc7 ho0 (Kd.R_lt (by (with_reducible repeat (first | apply Kd.qaw | apply Kd.qax | apply Kd.qaI)); exact HO912.out))) (qak (by repeat (first | (with_reducible first | exact HB.out | apply qac | apply qaa | apply qab | refine qah ?_ GE902.out) | exact HB.out)))); have n2_ := Aside0.mk (qao (g := gb902) (o := .cells #[.string a3_0, .string a3_1, .int .i64 a3_2, .slice A3_3 l3_3.length c3_3, .int .i64 a3_4] 48 (0, 0)) (by (with_reducible repeat (first | refine qaj ?_ _ | refine qal ?_ | refine qai ?_ _)); exact BK902.out) hb); have n3_ := Aside0.mk (qag (by repeat (first | (with_reducible first | exact HB.out | apply qac | apply qaa | apply qab | refine qah ?_ GE902.out) | exact HB.out)) hb); clear HO912; clear BK902; clear HB; have HO912 := n0_; have HO916 := n1_; have BK902 := n2_; have HB := n3_; clear n0_ n1_ n2_ n3_; (try clear hb); (try clear hb2); (try clear hk); (try clear hi); (try clear ho0)))
     go_ret2
     exact ⟨_, by first | rfl | (simp [qam, qan] <;> rfl) | (simp [*, qam, qan] <;> rfl), by (with_reducible repeat (first | apply Kd.qaw | apply Kd.qax | apply Kd.qaI)); exact Kd.qbs HO916.out (fun _ hk => trivial), by repeat (first | (with_reducible first | exact HB.out | apply qac | apply qaa | apply qab | refine qah ?_ GE902.out) | exact HB.out)⟩
   ·rw [if_neg c8] at H
    have c8b0 : (t910 == 0) = false := beq_eq_false_iff_ne.mpr c8
    have c8b1 : (t910 != 0) = true := bne_iff_ne.mpr c8
    simp only [Option.some.injEq, Prod.mk.injEq] at H
    obtain ⟨rfl, rfl⟩ := H
    go_enter Try.func74, Try.ntmps74
    try go_wp2_with (first | ((with_reducible refine qaH (N := 7) rfl ?_); refine qaF ?hg (N := 7) ?hd (cs := #[.string a3_0, .string a3_1, .int .i64 a3_2, .slice A3_3 l3_3.length c3_3, .int .i64 a3_4]) (t := 48) ?hr ?_; (case hd => rfl); (case hg => rfl); (case hr => first | (go_simp; done) | (go_simp; rfl)); intro gb902 hg w25 hbox hb; have n0_ := Aside0.mk (qag (by repeat (first | (with_reducible first | exact HB.out | apply qac | apply qaa | apply qab) | exact HB.out)) hb); have n1_ := Aside0.mk (hbox); have n2_ := Aside0.mk ((by rw [hg]; exact (qak (by repeat (first | (with_reducible first | exact HB.out | apply qac | apply qaa | apply qab) | exact HB.out))) : w.heap.size ≤ gb902)); have n3_ := Aside0.mk ((by rw [hg]; exact (qak (by repeat (first | (with_reducible first | exact HB.out | apply qac | apply qaa | apply qab) | exact HB.out))) : w.heap.size ≤ gb902)); clear HB; have HB := n0_; have BK902 := n1_; have GW902 := n2_; have GE902 := n3_; clear n0_ n1_ n2_ n3_; clear hb hbox hg; have hcz26_0 : w25.cell? ⟨gb902, 0, none⟩ = some (.string a3_0) := (qad BK902.out 0).trans rfl; have hcz26_1 : w25.cell? ⟨gb902, 1, none⟩ = some (.string a3_1) := (qad BK902.out 1).trans rfl; have hcz26_2 : w25.cell? ⟨gb902, 2, none⟩ = some (.int .i64 a3_2) := (qad BK902.out 2).trans rfl; have hcz26_3 : w25.cell? ⟨gb902, 3, none⟩ = some (.slice A3_3 l3_3.length c3_3) := (qad BK902.out 3).trans rfl; have hcz26_4 : w25.cell? ⟨gb902, 4, none⟩ = some (.int .i64 a3_4) := (qad BK902.out 4).trans rfl; have hfz26_0 := qae BK902.out 0; have hfz26_1 := qae BK902.out 1; have hfz26_2 := qae BK902.out 2; have hfz26_3 := qae BK902.out 3; have hfz26_4 := qae BK902.out 4) | ((with_reducible refine qav (f := 63) rfl ?_); refine qbd (some 30) rfl rfl Try.func63 (by kernel_rfl) rfl #[.slice A0 l0.length c0, .slice A3_3 l3_3.length c3_3] rfl (by (try simp only [List.map_toArray, List.map_cons, List.map_nil]); first | done | rfl | (simp only [List.length_drop, List.length_take]; rfl)) ?_; (with_reducible refine (qaq.calls k _ _ l0 _ _ l3_3 t909 t910 _ ?side1 ?side2 ?side3 ?side4 A7.out).mono ?_); (case side1 => repeat (first | exact (Kd.qbe HR0.out HB.out) | (with_reducible refine Kd.qa6 ?_ _) | (with_reducible refine Kd.qa7 ?_ _) | (with_reducible refine Kd.qbj ?_))); (case side2 => exact HC0.out); (case side3 => repeat (first | exact (Kd.qbe HR3_3.out HB.out) | (with_reducible refine Kd.qa6 ?_ _) | (with_reducible refine Kd.qa7 ?_ _) | (with_reducible refine Kd.qbj ?_))); (case side4 => exact HC3_3.out); rintro e w27 ⟨v911, rfl, ho0, hb⟩; refine ⟨_, rfl, ?_⟩; have n0_ := Aside0.mk (Kd.qbp ho0 (qak (by repeat (first | (with_reducible first | exact HB.out | apply qac | apply qaa | apply qab | refine qah ?_ GE902.out) | exact HB.out)))); have n1_ := Aside0.mk (qao (g := gb902) (o := .cells #[.string a3_0, .string a3_1, .int .i64 a3_2, .slice A3_3 l3_3.length c3_3, .int .i64 a3_4] 48 (0, 0)) (by (with_reducible repeat (first | refine qaj ?_ _ | refine qal ?_ | refine qai ?_ _)); exact BK902.out) hb); have n2_ := Aside0.mk (qag (by repeat (first | (with_reducible first | exact HB.out | apply qac | apply qaa | apply qab | refine qah ?_ GE902.out) | exact HB.out)) hb); clear BK902; clear HB; have HO912 := n0_; have BK902 := n1_; have HB := n2_; clear n0_ n1_ n2_; (try clear hb); (try clear hb2); (try clear hk); (try clear hi); (try clear ho0)))
    have n0_ := Aside0.mk (Kd.qaI HO912.out)
    have n1_ := Aside0.mk (qal BK902.out)
    have n2_ := Aside0.mk (qab HB.out)
    clear HO912
    clear BK902
    clear HB
    have HO912 := n0_
    have BK902 := n1_
    have HB := n2_
    clear n0_ n1_ n2_
    refine qa8 (by kernel_rfl) (by kernel_rfl) ?_
    generalize w27.drew = w28b at HO912 BK902 HB ⊢
    repeat (first | go_big_quiet_step (fail) | quiet_step (fail))
    refine wpQuiet_nil ?_
    rintro w28 ⟨⟨wq_, hbL⟩, hq_⟩
    have hq2_ : w28 = wq_ := hq_
    clear hq_
    subst hq2_
    have nHO912_ := by first | exact Aside0.mk (qag HO912.out hbL) | exact Aside0.mk (Kd.qaR HO912.out hbL) | exact Aside0.mk (Kd.S_below HO912.out hbL) | exact Aside0.mk (Kd.N_below HO912.out hbL) | exact Aside0.mk (Kd.qc8 HO912.out hbL) | exact Aside0.mk (Kd.Q_below HO912.out hbL) | exact Aside0.mk (Kd.qbe HO912.out hbL) | exact Aside0.mk ((hbL.block _ (qbg HO912.out)).trans HO912.out)
    have nBK902_ := Aside0.mk ((hbL.block _ (qbg BK902.out)).trans BK902.out)
    have nHB_ := Aside0.mk (qag HB.out hbL)
    clear HO912
    clear BK902
    clear HB
    have HO912 := nHO912_
    have BK902 := nBK902_
    have HB := nHB_
    clear nHO912_
    clear nBK902_
    clear nHB_
    clear hbL
    try go_wp2
    go_ret2
    exact ⟨_, by first | rfl | (simp [qam, qan] <;> rfl) | (simp [*, qam, qan] <;> rfl), by (with_reducible repeat (first | apply Kd.qaw | apply Kd.qax | apply Kd.qaI)); exact HO912.out, by repeat (first | (with_reducible first | exact HB.out | apply qac | apply qaa | apply qab | refine qah ?_ GE902.out) | exact HB.out)⟩
  ·rw [if_neg c6] at H
   have c6b0 : (a3_2 == a2) = false := beq_eq_false_iff_ne.mpr c6
   have c6b1 : (a3_2 != a2) = true := bne_iff_ne.mpr c6
   replace H := Option.bind_eq_some_iff.mp H
   obtain ⟨t903, A290, H⟩ := H
   replace H : (some (t903, 14)) = some (r1, r2) := H
   have A29 := Aside0.mk A290
   clear A290
   simp only [Option.some.injEq, Prod.mk.injEq] at H
   obtain ⟨rfl, rfl⟩ := H
   go_enter Try.func74, Try.ntmps74
   go_wp2_with (first | ((with_reducible refine qaH (N := 7) rfl ?_); refine qaF ?hg (N := 7) ?hd (cs := #[.string a3_0, .string a3_1, .int .i64 a3_2, .slice A3_3 l3_3.length c3_3, .int .i64 a3_4]) (t := 48) ?hr ?_; (case hd => rfl); (case hg => rfl); (case hr => first | (go_simp; done) | (go_simp; rfl)); intro gb902 hg w30 hbox hb; have n0_ := Aside0.mk (qag (by repeat (first | (with_reducible first | exact HB.out | apply qac | apply qaa | apply qab) | exact HB.out)) hb); have n1_ := Aside0.mk (hbox); have n2_ := Aside0.mk ((by rw [hg]; exact (qak (by repeat (first | (with_reducible first | exact HB.out | apply qac | apply qaa | apply qab) | exact HB.out))) : w.heap.size ≤ gb902)); have n3_ := Aside0.mk ((by rw [hg]; exact (qak (by repeat (first | (with_reducible first | exact HB.out | apply qac | apply qaa | apply qab) | exact HB.out))) : w.heap.size ≤ gb902)); clear HB; have HB := n0_; have BK902 := n1_; have GW902 := n2_; have GE902 := n3_; clear n0_ n1_ n2_ n3_; clear hb hbox hg; have hcz31_0 : w30.cell? ⟨gb902, 0, none⟩ = some (.string a3_0) := (qad BK902.out 0).trans rfl; have hcz31_1 : w30.cell? ⟨gb902, 1, none⟩ = some (.string a3_1) := (qad BK902.out 1).trans rfl; have hcz31_2 : w30.cell? ⟨gb902, 2, none⟩ = some (.int .i64 a3_2) := (qad BK902.out 2).trans rfl; have hcz31_3 : w30.cell? ⟨gb902, 3, none⟩ = some (.slice A3_3 l3_3.length c3_3) := (qad BK902.out 3).trans rfl; have hcz31_4 : w30.cell? ⟨gb902, 4, none⟩ = some (.int .i64 a3_4) := (qad BK902.out 4).trans rfl; have hfz31_0 := qae BK902.out 0; have hfz31_1 := qae BK902.out 1; have hfz31_2 := qae BK902.out 2; have hfz31_3 := qae BK902.out 3; have hfz31_4 := qae BK902.out 4) | ((with_reducible refine qav (f := 90) rfl ?_); refine qbd (some 25) rfl rfl Try.func90 (by kernel_rfl) rfl #[.slice A0 l0.length c0] rfl (by (try simp only [List.map_toArray, List.map_cons, List.map_nil]); first | done | rfl | (simp only [List.length_drop, List.length_take]; rfl)) ?_; (with_reducible refine (qa1.calls _ _ l0 t903 _ ?side1 ?side2 A29.out).mono ?_); (case side1 => repeat (first | exact (Kd.qbe HR0.out HB.out) | (with_reducible refine Kd.qa6 ?_ _) | (with_reducible refine Kd.qa7 ?_ _) | (with_reducible refine Kd.qbj ?_))); (case side2 => exact HC0.out); rintro e w32 ⟨v904, rfl, ho0, hb⟩; refine ⟨_, rfl, ?_⟩; have n0_ := Aside0.mk (Kd.qbp ho0 (qak (by repeat (first | (with_reducible first | exact HB.out | apply qac | apply qaa | apply qab | refine qah ?_ GE902.out) | exact HB.out)))); have n1_ := Aside0.mk (qao (g := gb902) (o := .cells #[.string a3_0, .string a3_1, .int .i64 a3_2, .slice A3_3 l3_3.length c3_3, .int .i64 a3_4] 48 (0, 0)) (by (with_reducible repeat (first | refine qaj ?_ _ | refine qal ?_ | refine qai ?_ _)); exact BK902.out) hb); have n2_ := Aside0.mk (qag (by repeat (first | (with_reducible first | exact HB.out | apply qac | apply qaa | apply qab | refine qah ?_ GE902.out) | exact HB.out)) hb); clear BK902; clear HB; have HO905 := n0_; have BK902 := n1_; have HB := n2_; clear n0_ n1_ n2_; (try clear hb); (try clear hb2); (try clear hk); (try clear hi); (try clear ho0)))
   go_ret2
   exact ⟨_, by first | rfl | (simp [qam, qan] <;> rfl) | (simp [*, qam, qan] <;> rfl), by (with_reducible repeat (first | apply Kd.qaw | apply Kd.qax | apply Kd.qaI)); exact HO905.out, by repeat (first | (with_reducible first | exact HB.out | apply qac | apply qaa | apply qab | refine qah ?_ GE902.out) | exact HB.out)⟩
 ·rw [if_neg c5] at H
  have c5b0 : (a3_0.toList == a1.toList) = false := beq_eq_false_iff_ne.mpr c5
  have c5b1 : (a3_0.toList != a1.toList) = true := bne_iff_ne.mpr c5
  replace H := Option.bind_eq_some_iff.mp H
  obtain ⟨t906, A330, H⟩ := H
  replace H : (some (t906, 13)) = some (r1, r2) := H
  have A33 := Aside0.mk A330
  clear A330
  simp only [Option.some.injEq, Prod.mk.injEq] at H
  obtain ⟨rfl, rfl⟩ := H
  go_enter Try.func74, Try.ntmps74
  go_wp2_with (first | ((with_reducible refine qaH (N := 7) rfl ?_); refine qaF ?hg (N := 7) ?hd (cs := #[.string a3_0, .string a3_1, .int .i64 a3_2, .slice A3_3 l3_3.length c3_3, .int .i64 a3_4]) (t := 48) ?hr ?_; (case hd => rfl); (case hg => rfl); (case hr => first | (go_simp; done) | (go_simp; rfl)); intro gb902 hg w34 hbox hb; have n0_ := Aside0.mk (qag (by repeat (first | (with_reducible first | exact HB.out | apply qac | apply qaa | apply qab) | exact HB.out)) hb); have n1_ := Aside0.mk (hbox); have n2_ := Aside0.mk ((by rw [hg]; exact (qak (by repeat (first | (with_reducible first | exact HB.out | apply qac | apply qaa | apply qab) | exact HB.out))) : w.heap.size ≤ gb902)); have n3_ := Aside0.mk ((by rw [hg]; exact (qak (by repeat (first | (with_reducible first | exact HB.out | apply qac | apply qaa | apply qab) | exact HB.out))) : w.heap.size ≤ gb902)); clear HB; have HB := n0_; have BK902 := n1_; have GW902 := n2_; have GE902 := n3_; clear n0_ n1_ n2_ n3_; clear hb hbox hg; have hcz35_0 : w34.cell? ⟨gb902, 0, none⟩ = some (.string a3_0) := (qad BK902.out 0).trans rfl; have hcz35_1 : w34.cell? ⟨gb902, 1, none⟩ = some (.string a3_1) := (qad BK902.out 1).trans rfl; have hcz35_2 : w34.cell? ⟨gb902, 2, none⟩ = some (.int .i64 a3_2) := (qad BK902.out 2).trans rfl; have hcz35_3 : w34.cell? ⟨gb902, 3, none⟩ = some (.slice A3_3 l3_3.length c3_3) := (qad BK902.out 3).trans rfl; have hcz35_4 : w34.cell? ⟨gb902, 4, none⟩ = some (.int .i64 a3_4) := (qad BK902.out 4).trans rfl; have hfz35_0 := qae BK902.out 0; have hfz35_1 := qae BK902.out 1; have hfz35_2 := qae BK902.out 2; have hfz35_3 := qae BK902.out 3; have hfz35_4 := qae BK902.out 4) | ((with_reducible refine qav (f := 90) rfl ?_); refine qbd (some 18) rfl rfl Try.func90 (by kernel_rfl) rfl #[.slice A0 l0.length c0] rfl (by (try simp only [List.map_toArray, List.map_cons, List.map_nil]); first | done | rfl | (simp only [List.length_drop, List.length_take]; rfl)) ?_; (with_reducible refine (qa1.calls _ _ l0 t906 _ ?side1 ?side2 A33.out).mono ?_); (case side1 => repeat (first | exact (Kd.qbe HR0.out HB.out) | (with_reducible refine Kd.qa6 ?_ _) | (with_reducible refine Kd.qa7 ?_ _) | (with_reducible refine Kd.qbj ?_))); (case side2 => exact HC0.out); rintro e w36 ⟨v907, rfl, ho0, hb⟩; refine ⟨_, rfl, ?_⟩; have n0_ := Aside0.mk (Kd.qbp ho0 (qak (by repeat (first | (with_reducible first | exact HB.out | apply qac | apply qaa | apply qab | refine qah ?_ GE902.out) | exact HB.out)))); have n1_ := Aside0.mk (qao (g := gb902) (o := .cells #[.string a3_0, .string a3_1, .int .i64 a3_2, .slice A3_3 l3_3.length c3_3, .int .i64 a3_4] 48 (0, 0)) (by (with_reducible repeat (first | refine qaj ?_ _ | refine qal ?_ | refine qai ?_ _)); exact BK902.out) hb); have n2_ := Aside0.mk (qag (by repeat (first | (with_reducible first | exact HB.out | apply qac | apply qaa | apply qab | refine qah ?_ GE902.out) | exact HB.out)) hb); clear BK902; clear HB; have HO908 := n0_; have BK902 := n1_; have HB := n2_; clear n0_ n1_ n2_; (try clear hb); (try clear hb2); (try clear hk); (try clear hi); (try clear ho0)))
  go_ret2
  exact ⟨_, by first | rfl | (simp [qam, qan] <;> rfl) | (simp [*, qam, qan] <;> rfl), by (with_reducible repeat (first | apply Kd.qaw | apply Kd.qax | apply Kd.qaI)); exact HO908.out, by repeat (first | (with_reducible first | exact HB.out | apply qac | apply qaa | apply qab | refine qah ?_ GE902.out) | exact HB.out)⟩
end Go.Proofs.Ytgcncphdjabjjaa.X
