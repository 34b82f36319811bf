import Derived.Test.YtgcncphdjabjjaaKFnExactReplay3
namespace Go.Proofs.Ytgcncphdjabjjaa.X
open Go.RowKit Go.Proofs.YtgcncphdjabjjaaW.PrintWords Go.Proofs.YtgcncphdjabjjaaW.PrintLast Go.Proofs.YtgcncphdjabjjaaW.PrintMore
attribute [local go_sem] qaC qaD qaE qay qaz qaN qaO qat qau qaA qaB
set_option linter.unusedVariables false
set_option linter.unusedSimpArgs false
def qde.f (a0_0 : ByteArray) (a0_1 : ByteArray) (a0_2 : ByteArray) (a0_3 : Bool) (a0_4 : Bool) : Option (ByteArray × ByteArray × ByteArray × Bool × Bool) := some (a0_0, a0_1, a0_2, a0_3, a0_4)
set_option maxHeartbeats 8000000 in
set_option maxRecDepth 100000 in
theorem qde.calls (a0_0 : ByteArray) (a0_1 : ByteArray) (a0_2 : ByteArray) (a0_3 : Bool) (a0_4 : Bool) (r1 : ByteArray) (r2 : ByteArray) (r3 : ByteArray) (r4 : Bool) (r5 : Bool) (w : World) (h : qde.f a0_0 a0_1 a0_2 a0_3 a0_4 = some (r1, r2, r3, r4, r5)) :
  Calls Try.prog 62 #[.agg #[.string a0_0, .string a0_1, .string a0_2, .bool a0_3, .bool a0_4]] w fun e w' => e = .returned (.agg #[.string r1, .string r2, .string r3, .bool r4, .bool r5]) ∧ Below w.heap.size w w' := by
 have hu85 := Try.underlying85
 have hu82 := Try.underlying82
 have HB := Aside0.mk (Below.refl w.heap.size w)
 have H : (some (a0_0, a0_1, a0_2, a0_3, a0_4)) = some (r1, r2, r3, r4, r5) := h
 clear h
 simp only [Option.some.injEq, Prod.mk.injEq] at H
 obtain ⟨rfl, rfl, rfl, rfl, rfl⟩ := H
 go_enter Try.func62, Try.ntmps62
 go_wp2_with (first | ((with_reducible refine qaH (N := 1) rfl ?_); refine qaF ?hg (N := 1) ?hd (cs := #[.string a0_0, .string a0_1, .string a0_2, .bool a0_3, .bool a0_4]) (t := 85) ?hr ?_; (case hd => rfl); (case hg => rfl); (case hr => first | (go_simp; done) | (go_simp; rfl)); intro gb449 hg w2 hbox hb; have n0_ := Aside0.mk (qag (by repeat (first | (with_reducible first | exact HB.out | apply qac | apply qaa | apply qab) | exact HB.out)) hb); have n1_ := Aside0.mk (hbox); have n2_ := Aside0.mk ((by rw [hg]; exact (qak (by repeat (first | (with_reducible first | exact HB.out | apply qac | apply qaa | apply qab) | exact HB.out))) : w.heap.size ≤ gb449)); have n3_ := Aside0.mk ((by rw [hg]; exact (qak (by repeat (first | (with_reducible first | exact HB.out | apply qac | apply qaa | apply qab) | exact HB.out))) : w.heap.size ≤ gb449)); clear HB; have HB := n0_; have BK449 := n1_; have GW449 := n2_; have GE449 := n3_; clear n0_ n1_ n2_ n3_; clear hb hbox hg) | ((with_reducible refine qaH (N := 2) rfl ?_); refine qaF ?hg (N := 2) ?hd (cs := #[.string (⟨#[]⟩ : ByteArray), .string (⟨#[]⟩ : ByteArray), .string (⟨#[]⟩ : ByteArray), .bool false, .bool false]) (t := 82) ?hr ?_; (case hd => rfl); (case hg => rfl); (case hr => first | (go_simp; done) | (go_simp; rfl)); intro gb450 hg w3 hbox hb; have n0_ := Aside0.mk (qao (g := gb449) (o := .cells #[.string a0_0, .string a0_1, .string a0_2, .bool a0_3, .bool a0_4] 85 (0, 0)) (by (with_reducible repeat (first | refine qaj ?_ _ | refine qal ?_ | refine qai ?_ _)); exact BK449.out) hb); have n1_ := Aside0.mk (qag (by repeat (first | (with_reducible first | exact HB.out | apply qac | apply qaa | apply qab | refine qah ?_ GE449.out) | exact HB.out)) hb); have n2_ := Aside0.mk (hbox); have n3_ := Aside0.mk ((by rw [hg]; exact (qak (by repeat (first | (with_reducible first | exact HB.out | apply qac | apply qaa | apply qab | refine qah ?_ GE449.out) | exact HB.out))) : w.heap.size ≤ gb450)); have n4_ := Aside0.mk ((by rw [hg]; exact (qak (by repeat (first | (with_reducible first | exact HB.out | apply qac | apply qaa | apply qab | refine qah ?_ GE449.out) | exact HB.out))) : w.heap.size ≤ gb450)); have n5_ := Aside0.mk ((by rw [hg]; exact Nat.ne_of_lt (qbg (g := gb449) (o := .cells #[.string a0_0, .string a0_1, .string a0_2, .bool a0_3, .bool a0_4] 85 (0, 0)) (by (with_reducible repeat (first | refine qaj ?_ _ | refine qal ?_ | refine qai ?_ _)); exact BK449.out)) : gb449 ≠ gb450)); have n6_ := Aside0.mk ((by rw [hg]; exact Nat.ne_of_gt (qbg (g := gb449) (o := .cells #[.string a0_0, .string a0_1, .string a0_2, .bool a0_3, .bool a0_4] 85 (0, 0)) (by (with_reducible repeat (first | refine qaj ?_ _ | refine qal ?_ | refine qai ?_ _)); exact BK449.out)) : gb450 ≠ gb449)); clear BK449; clear HB; have BK449 := n0_; have HB := n1_; have BK450 := n2_; have GW450 := n3_; have GE450 := n4_; have NB449_450 := n5_; have NB450_449 := n6_; clear n0_ n1_ n2_ n3_ n4_ n5_ n6_; clear hb hbox hg) | ((with_reducible refine qaH (N := 3) rfl ?_); refine qaF ?hg (N := 3) ?hd (cs := #[.string (⟨#[]⟩ : ByteArray), .string (⟨#[]⟩ : ByteArray), .string (⟨#[]⟩ : ByteArray), .bool false, .bool false]) (t := 82) ?hr ?_; (case hd => rfl); (case hg => rfl); (case hr => first | (go_simp; done) | (go_simp; rfl)); intro gb451 hg w4 hbox hb; have n0_ := Aside0.mk (qao (g := gb449) (o := .cells #[.string a0_0, .string a0_1, .string a0_2, .bool a0_3, .bool a0_4] 85 (0, 0)) (by (with_reducible repeat (first | refine qaj ?_ _ | refine qal ?_ | refine qai ?_ _)); exact BK449.out) hb); have n1_ := Aside0.mk (qao (g := gb450) (o := .cells #[.string (⟨#[]⟩ : ByteArray), .string (⟨#[]⟩ : ByteArray), .string (⟨#[]⟩ : ByteArray), .bool false, .bool false] 82 (0, 0)) (by (with_reducible repeat (first | refine qaj ?_ _ | refine qal ?_ | refine qai ?_ _)); exact BK450.out) hb); have n2_ := Aside0.mk (qag (by repeat (first | (with_reducible first | exact HB.out | apply qac | apply qaa | apply qab | refine qah ?_ GE449.out | refine qah ?_ GE450.out) | exact HB.out)) hb); have n3_ := Aside0.mk (hbox); have n4_ := Aside0.mk ((by rw [hg]; exact (qak (by repeat (first | (with_reducible first | exact HB.out | apply qac | apply qaa | apply qab | refine qah ?_ GE449.out | refine qah ?_ GE450.out) | exact HB.out))) : w.heap.size ≤ gb451)); have n5_ := Aside0.mk ((by rw [hg]; exact (qak (by repeat (first | (with_reducible first | exact HB.out | apply qac | apply qaa | apply qab | refine qah ?_ GE449.out | refine qah ?_ GE450.out) | exact HB.out))) : w.heap.size ≤ gb451)); have n6_ := Aside0.mk ((by rw [hg]; exact Nat.ne_of_lt (qbg (g := gb449) (o := .cells #[.string a0_0, .string a0_1, .string a0_2, .bool a0_3, .bool a0_4] 85 (0, 0)) (by (with_reducible repeat (first | refine qaj ?_ _ | refine qal ?_ | refine qai ?_ _)); exact BK449.out)) : gb449 ≠ gb451)); have n7_ := Aside0.mk ((by rw [hg]; exact Nat.ne_of_gt (qbg (g := gb449) (o := .cells #[.string a0_0, .string a0_1, .string a0_2, .bool a0_3, .bool a0_4] 85 (0, 0)) (by (with_reducible repeat (first | refine qaj ?_ _ | refine qal ?_ | refine qai ?_ _)); exact BK449.out)) : gb451 ≠ gb449)); have n8_ := Aside0.mk ((by rw [hg]; exact Nat.ne_of_lt (qbg (g := gb450) (o := .cells #[.string (⟨#[]⟩ : ByteArray), .string (⟨#[]⟩ : ByteArray), .string (⟨#[]⟩ : ByteArray), .bool false, .bool false] 82 (0, 0)) (by (with_reducible repeat (first | refine qaj ?_ _ | refine qal ?_ | refine qai ?_ _)); exact BK450.out)) : gb450 ≠ gb451)); have n9_ := Aside0.mk ((by rw [hg]; exact Nat.ne_of_gt (qbg (g := gb450) (o := .cells #[.string (⟨#[]⟩ : ByteArray), .string (⟨#[]⟩ : ByteArray), .string (⟨#[]⟩ : ByteArray), .bool false, .bool false] 82 (0, 0)) (by (with_reducible repeat (first | refine qaj ?_ _ | refine qal ?_ | refine qai ?_ _)); exact BK450.out)) : gb451 ≠ gb450)); clear BK449; clear BK450; clear HB; have BK449 := n0_; have BK450 := n1_; have HB := n2_; have BK451 := n3_; have GW451 := n4_; have GE451 := n5_; have NB449_451 := n6_; have NB451_449 := n7_; have NB450_451 := n8_; have NB451_450 := n9_; clear n0_ n1_ n2_ n3_ n4_ n5_ n6_ n7_ n8_ n9_; clear hb hbox hg; have hnb5 := NB449_450.out; have hnc5 := NB450_449.out; have hnb6 := NB449_451.out; have hnc6 := NB451_449.out; have hcz7_0 : w4.cell? ⟨gb449, 0, none⟩ = some (.string a0_0) := (qad BK449.out 0).trans rfl; have hcz7_1 : w4.cell? ⟨gb449, 1, none⟩ = some (.string a0_1) := (qad BK449.out 1).trans rfl; have hcz7_2 : w4.cell? ⟨gb449, 2, none⟩ = some (.string a0_2) := (qad BK449.out 2).trans rfl; have hcz7_3 : w4.cell? ⟨gb449, 3, none⟩ = some (.bool a0_3) := (qad BK449.out 3).trans rfl; have hcz7_4 : w4.cell? ⟨gb449, 4, none⟩ = some (.bool a0_4) := (qad BK449.out 4).trans rfl; have hfz7_0 := qae BK449.out 0; have hfz7_1 := qae BK449.out 1; have hfz7_2 := qae BK449.out 2; have hfz7_3 := qae BK449.out 3; have hfz7_4 := qae BK449.out 4; have hnb8 := NB451_450.out; have hnc8 := NB450_451.out; have hcz9_0 : w4.cell? ⟨gb451, 0, none⟩ = some (.string (⟨#[]⟩ : ByteArray)) := (qad BK451.out 0).trans rfl; have hcz9_1 : w4.cell? ⟨gb451, 1, none⟩ = some (.string (⟨#[]⟩ : ByteArray)) := (qad BK451.out 1).trans rfl; have hcz9_2 : w4.cell? ⟨gb451, 2, none⟩ = some (.string (⟨#[]⟩ : ByteArray)) := (qad BK451.out 2).trans rfl; have hcz9_3 : w4.cell? ⟨gb451, 3, none⟩ = some (.bool false) := (qad BK451.out 3).trans rfl; have hcz9_4 : w4.cell? ⟨gb451, 4, none⟩ = some (.bool false) := (qad BK451.out 4).trans rfl; have hfz9_0 := qae BK451.out 0; have hfz9_1 := qae BK451.out 1; have hfz9_2 := qae BK451.out 2; have hfz9_3 := qae BK451.out 3; have hfz9_4 := qae BK451.out 4; have hcz10_0 : w4.cell? ⟨gb450, 0, none⟩ = some (.string (⟨#[]⟩ : ByteArray)) := (qad BK450.out 0).trans rfl; have hcz10_1 : w4.cell? ⟨gb450, 1, none⟩ = some (.string (⟨#[]⟩ : ByteArray)) := (qad BK450.out 1).trans rfl; have hcz10_2 : w4.cell? ⟨gb450, 2, none⟩ = some (.string (⟨#[]⟩ : ByteArray)) := (qad BK450.out 2).trans rfl; have hcz10_3 : w4.cell? ⟨gb450, 3, none⟩ = some (.bool false) := (qad BK450.out 3).trans rfl; have hcz10_4 : w4.cell? ⟨gb450, 4, none⟩ = some (.bool false) := (qad BK450.out 4).trans rfl; have hfz10_0 := qae BK450.out 0; have hfz10_1 := qae BK450.out 1; have hfz10_2 := qae BK450.out 2; have hfz10_3 := qae BK450.out 3; have hfz10_4 := qae BK450.out 4))
 refine bodyPost_ret (results_cell_row rfl _ _ gb450 82 #[.string a0_0, .string a0_1, .string a0_2, .bool a0_3, .bool a0_4] (0, 0) _ rfl (by (with_reducible repeat (first | refine qaj ?_ _ | refine qal ?_ | refine qai ?_ _)); refine qaW (cs := #[.string a0_0, .string a0_1, .string a0_2, .bool a0_3, .bool false]) ?_ 4 _ rfl; (with_reducible repeat (first | refine qaj ?_ _ | refine qal ?_ | refine qai ?_ _)); refine qaW (cs := #[.string a0_0, .string a0_1, .string a0_2, .bool false, .bool false]) ?_ 3 _ rfl; (with_reducible repeat (first | refine qaj ?_ _ | refine qal ?_ | refine qai ?_ _)); refine qaW (cs := #[.string a0_0, .string a0_1, .string (⟨#[]⟩ : ByteArray), .bool false, .bool false]) ?_ 2 _ rfl; (with_reducible repeat (first | refine qaj ?_ _ | refine qal ?_ | refine qai ?_ _)); refine qaW (cs := #[.string a0_0, .string (⟨#[]⟩ : ByteArray), .string (⟨#[]⟩ : ByteArray), .bool false, .bool false]) ?_ 1 _ rfl; (with_reducible repeat (first | refine qaj ?_ _ | refine qal ?_ | refine qai ?_ _)); refine qaW (cs := #[.string (⟨#[]⟩ : ByteArray), .string (⟨#[]⟩ : ByteArray), .string (⟨#[]⟩ : ByteArray), .bool false, .bool false]) ?_ 0 _ rfl; (with_reducible repeat (first | refine qaj ?_ _ | refine qal ?_ | refine qai ?_ _)); refine qbB ?_ NB450_451.out _; (with_reducible repeat (first | refine qaj ?_ _ | refine qal ?_ | refine qai ?_ _)); refine qbB ?_ NB450_451.out _; (with_reducible repeat (first | refine qaj ?_ _ | refine qal ?_ | refine qai ?_ _)); refine qbB ?_ NB450_451.out _; (with_reducible repeat (first | refine qaj ?_ _ | refine qal ?_ | refine qai ?_ _)); refine qbB ?_ NB450_451.out _; (with_reducible repeat (first | refine qaj ?_ _ | refine qal ?_ | refine qai ?_ _)); refine qbB ?_ NB450_451.out _; (with_reducible repeat (first | refine qaj ?_ _ | refine qal ?_ | refine qai ?_ _)); exact BK450.out) Try.underlying82 rfl (by kernel_rfl)) rfl ?_
 exact ⟨by first | rfl | (simp [qam, qan] <;> rfl) | (simp [*, qam, qan] <;> rfl), by repeat (first | (with_reducible first | exact HB.out | apply qac | apply qaa | apply qab | refine qah ?_ GE449.out | refine qah ?_ GE450.out | refine qah ?_ GE451.out) | exact HB.out)⟩
end Go.Proofs.Ytgcncphdjabjjaa.X
namespace Go.Proofs.Ytgcncphdjabjjaa.X
open Go.RowKit Go.Proofs.YtgcncphdjabjjaaW.PrintWords Go.Proofs.YtgcncphdjabjjaaW.PrintLast Go.Proofs.YtgcncphdjabjjaaW.PrintMore
attribute [local go_sem] qaC qaD qaE qay qaz qaN qaO qat qau qaA qaB
set_option linter.unusedVariables false
set_option linter.unusedSimpArgs false
def cv85 (x : S85) : S82 := ⟨x.f0, x.f1, x.f2, x.f3, x.f4⟩
def sm85 (B : Int) (x : S85) : Prop := (x.f0.size : Int) ≤ B ∧ (x.f1.size : Int) ≤ B ∧ (x.f2.size : Int) ≤ B ∧ True ∧ True
def wl85 (x : S85) : Prop := x.f0.size ≤ maxLen ∧ x.f1.size ≤ maxLen ∧ x.f2.size ≤ maxLen ∧ True ∧ True
theorem to_Diff (x : S85) : qde.f (x.f0) (x.f1) (x.f2) (x.f3) (x.f4) = some (x.f0, x.f1, x.f2, x.f3, x.f4) := rfl
end Go.Proofs.Ytgcncphdjabjjaa.X
namespace Go.Proofs.Ytgcncphdjabjjaa.X
open Go.RowKit Go.Proofs.YtgcncphdjabjjaaW.PrintWords Go.Proofs.YtgcncphdjabjjaaW.PrintLast Go.Proofs.YtgcncphdjabjjaaW.PrintMore
attribute [local go_sem] qaC qaD qaE qay qaz qaN qaO qat qau qaA qaB
set_option linter.unusedVariables false
set_option linter.unusedSimpArgs false
def qcH.f (a0_0 : ByteArray) (a0_1 : ByteArray) (a0_2 : ByteArray) (a0_3 : Bool) (a0_4 : Bool) (a1 : Int) : Option (Int) := if (wrap64 (a1 - (a0_0.size : Int))) < 0 then (some (-1)) else (if (wrap64 ((wrap64 (a1 - (a0_0.size : Int))) - (a0_1.size : Int))) < 0 then (some (-1)) else (if (wrap64 ((wrap64 ((wrap64 (a1 - (a0_0.size : Int))) - (a0_1.size : Int))) - (a0_2.size : Int))) < 0 then (some (-1)) else (some (wrap64 ((wrap64 ((wrap64 (a1 - (a0_0.size : Int))) - (a0_1.size : Int))) - (a0_2.size : Int))))))
set_option maxHeartbeats 8000000 in
set_option maxRecDepth 100000 in
theorem qcH.calls (a0_0 : ByteArray) (a0_1 : ByteArray) (a0_2 : ByteArray) (a0_3 : Bool) (a0_4 : Bool) (a1 : Int) (r : Int) (w : World) (h : qcH.f a0_0 a0_1 a0_2 a0_3 a0_4 a1 = some r) :
  Calls Try.prog 60 #[.agg #[.string a0_0, .string a0_1, .string a0_2, .bool a0_3, .bool a0_4], .int .i64 a1] w fun e w' => e = .returned (.int .i64 r) ∧ Below w.heap.size w w' := by
 have hu85 := Try.underlying85
 have HB := Aside0.mk (Below.refl w.heap.size w)
 have H : (if (wrap64 (a1 - (a0_0.size : Int))) < 0 then (some (-1)) else (if (wrap64 ((wrap64 (a1 - (a0_0.size : Int))) - (a0_1.size : Int))) < 0 then (some (-1)) else (if (wrap64 ((wrap64 ((wrap64 (a1 - (a0_0.size : Int))) - (a0_1.size : Int))) - (a0_2.size : Int))) < 0 then (some (-1)) else (some (wrap64 ((wrap64 ((wrap64 (a1 - (a0_0.size : Int))) - (a0_1.size : Int))) - (a0_2.size : Int))))))) = some r := h
 clear h
 by_cases c3 : (wrap64 (a1 - (a0_0.size : Int))) < 0
 ·rw [if_pos c3] at H
  have c3b0 : decide ((wrap64 (a1 - (a0_0.size : Int))) < 0) = true := decide_eq_true c3
  clear c3
  obtain rfl := Option.some.inj H
  go_enter Try.func60, Try.ntmps60
  go_wp2_with (first | ((with_reducible refine qaH (N := 2) rfl ?_); refine qaF ?hg (N := 2) ?hd (cs := #[.string a0_0, .string a0_1, .string a0_2, .bool a0_3, .bool a0_4]) (t := 85) ?hr ?_; (case hd => rfl); (case hg => rfl); (case hr => first | (go_simp; done) | (go_simp; rfl)); intro gb356 hg w4 hbox hb; have n0_ := Aside0.mk (qag (by repeat (first | (with_reducible first | exact HB.out | apply qac | apply qaa | apply qab) | exact HB.out)) hb); have n1_ := Aside0.mk (hbox); have n2_ := Aside0.mk ((by rw [hg]; exact (qak (by repeat (first | (with_reducible first | exact HB.out | apply qac | apply qaa | apply qab) | exact HB.out))) : w.heap.size ≤ gb356)); have n3_ := Aside0.mk ((by rw [hg]; exact (qak (by repeat (first | (with_reducible first | exact HB.out | apply qac | apply qaa | apply qab) | exact HB.out))) : w.heap.size ≤ gb356)); clear HB; have HB := n0_; have BK356 := n1_; have GW356 := n2_; have GE356 := n3_; clear n0_ n1_ n2_ n3_; clear hb hbox hg; have hcz5_0 : w4.cell? ⟨gb356, 0, none⟩ = some (.string a0_0) := (qad BK356.out 0).trans rfl; have hcz5_1 : w4.cell? ⟨gb356, 1, none⟩ = some (.string a0_1) := (qad BK356.out 1).trans rfl; have hcz5_2 : w4.cell? ⟨gb356, 2, none⟩ = some (.string a0_2) := (qad BK356.out 2).trans rfl; have hcz5_3 : w4.cell? ⟨gb356, 3, none⟩ = some (.bool a0_3) := (qad BK356.out 3).trans rfl; have hcz5_4 : w4.cell? ⟨gb356, 4, none⟩ = some (.bool a0_4) := (qad BK356.out 4).trans rfl; have hfz5_0 := qae BK356.out 0; have hfz5_1 := qae BK356.out 1; have hfz5_2 := qae BK356.out 2; have hfz5_3 := qae BK356.out 3; have hfz5_4 := qae BK356.out 4))
  go_ret
  exact ⟨by first | rfl | (simp [qam, qan] <;> rfl) | (simp [*, qam, qan] <;> rfl), by repeat (first | (with_reducible first | exact HB.out | apply qac | apply qaa | apply qab | refine qah ?_ GE356.out) | exact HB.out)⟩
 ·rw [if_neg c3] at H
  have c3b0 : decide ((wrap64 (a1 - (a0_0.size : Int))) < 0) = false := decide_eq_false c3
  clear c3
  by_cases c6 : (wrap64 ((wrap64 (a1 - (a0_0.size : Int))) - (a0_1.size : Int))) < 0
  ·rw [if_pos c6] at H
   have c6b0 : decide ((wrap64 ((wrap64 (a1 - (a0_0.size : Int))) - (a0_1.size : Int))) < 0) = true := decide_eq_true c6
   clear c6
   obtain rfl := Option.some.inj H
   go_enter Try.func60, Try.ntmps60
   go_wp2_with (first | ((with_reducible refine qaH (N := 2) rfl ?_); refine qaF ?hg (N := 2) ?hd (cs := #[.string a0_0, .string a0_1, .string a0_2, .bool a0_3, .bool a0_4]) (t := 85) ?hr ?_; (case hd => rfl); (case hg => rfl); (case hr => first | (go_simp; done) | (go_simp; rfl)); intro gb356 hg w7 hbox hb; have n0_ := Aside0.mk (qag (by repeat (first | (with_reducible first | exact HB.out | apply qac | apply qaa | apply qab) | exact HB.out)) hb); have n1_ := Aside0.mk (hbox); have n2_ := Aside0.mk ((by rw [hg]; exact (qak (by repeat (first | (with_reducible first | exact HB.out | apply qac | apply qaa | apply qab) | exact HB.out))) : w.heap.size ≤ gb356)); have n3_ := Aside0.mk ((by rw [hg]; exact (qak (by repeat (first | (with_reducible first | exact HB.out | apply qac | apply qaa | apply qab) | exact HB.out))) : w.heap.size ≤ gb356)); clear HB; have HB := n0_; have BK356 := n1_; have GW356 := n2_; have GE356 := n3_; clear n0_ n1_ n2_ n3_; clear hb hbox hg; have hcz8_0 : w7.cell? ⟨gb356, 0, none⟩ = some (.string a0_0) := (qad BK356.out 0).trans rfl; have hcz8_1 : w7.cell? ⟨gb356, 1, none⟩ = some (.string a0_1) := (qad BK356.out 1).trans rfl; have hcz8_2 : w7.cell? ⟨gb356, 2, none⟩ = some (.string a0_2) := (qad BK356.out 2).trans rfl; have hcz8_3 : w7.cell? ⟨gb356, 3, none⟩ = some (.bool a0_3) := (qad BK356.out 3).trans rfl; have hcz8_4 : w7.cell? ⟨gb356, 4, none⟩ = some (.bool a0_4) := (qad BK356.out 4).trans rfl; have hfz8_0 := qae BK356.out 0; have hfz8_1 := qae BK356.out 1; have hfz8_2 := qae BK356.out 2; have hfz8_3 := qae BK356.out 3; have hfz8_4 := qae BK356.out 4))
   go_ret
   exact ⟨by first | rfl | (simp [qam, qan] <;> rfl) | (simp [*, qam, qan] <;> rfl), by repeat (first | (with_reducible first | exact HB.out | apply qac | apply qaa | apply qab | refine qah ?_ GE356.out) | exact HB.out)⟩
  ·rw [if_neg c6] at H
   have c6b0 : decide ((wrap64 ((wrap64 (a1 - (a0_0.size : Int))) - (a0_1.size : Int))) < 0) = false := decide_eq_false c6
   clear c6
   by_cases c9 : (wrap64 ((wrap64 ((wrap64 (a1 - (a0_0.size : Int))) - (a0_1.size : Int))) - (a0_2.size : Int))) < 0
   ·rw [if_pos c9] at H
    have c9b0 : decide ((wrap64 ((wrap64 ((wrap64 (a1 - (a0_0.size : Int))) - (a0_1.size : Int))) - (a0_2.size : Int))) < 0) = true := decide_eq_true c9
    clear c9
    obtain rfl := Option.some.inj H
    go_enter Try.func60, Try.ntmps60
    go_wp2_with (first | ((with_reducible refine qaH (N := 2) rfl ?_); refine qaF ?hg (N := 2) ?hd (cs := #[.string a0_0, .string a0_1, .string a0_2, .bool a0_3, .bool a0_4]) (t := 85) ?hr ?_; (case hd => rfl); (case hg => rfl); (case hr => first | (go_simp; done) | (go_simp; rfl)); intro gb356 hg w10 hbox hb; have n0_ := Aside0.mk (qag (by repeat (first | (with_reducible first | exact HB.out | apply qac | apply qaa | apply qab) | exact HB.out)) hb); have n1_ := Aside0.mk (hbox); have n2_ := Aside0.mk ((by rw [hg]; exact (qak (by repeat (first | (with_reducible first | exact HB.out | apply qac | apply qaa | apply qab) | exact HB.out))) : w.heap.size ≤ gb356)); have n3_ := Aside0.mk ((by rw [hg]; exact (qak (by repeat (first | (with_reducible first | exact HB.out | apply qac | apply qaa | apply qab) | exact HB.out))) : w.heap.size ≤ gb356)); clear HB; have HB := n0_; have BK356 := n1_; have GW356 := n2_; have GE356 := n3_; clear n0_ n1_ n2_ n3_; clear hb hbox hg; have hcz11_0 : w10.cell? ⟨gb356, 0, none⟩ = some (.string a0_0) := (qad BK356.out 0).trans rfl; have hcz11_1 : w10.cell? ⟨gb356, 1, none⟩ = some (.string a0_1) := (qad BK356.out 1).trans rfl; have hcz11_2 : w10.cell? ⟨gb356, 2, none⟩ = some (.string a0_2) := (qad BK356.out 2).trans rfl; have hcz11_3 : w10.cell? ⟨gb356, 3, none⟩ = some (.bool a0_3) := (qad BK356.out 3).trans rfl; have hcz11_4 : w10.cell? ⟨gb356, 4, none⟩ = some (.bool a0_4) := (qad BK356.out 4).trans rfl; have hfz11_0 := qae BK356.out 0; have hfz11_1 := qae BK356.out 1; have hfz11_2 := qae BK356.out 2; have hfz11_3 := qae BK356.out 3; have hfz11_4 := qae BK356.out 4))
    go_ret
    exact ⟨by first | rfl | (simp [qam, qan] <;> rfl) | (simp [*, qam, qan] <;> rfl), by repeat (first | (with_reducible first | exact HB.out | apply qac | apply qaa | apply qab | refine qah ?_ GE356.out) | exact HB.out)⟩
   ·rw [if_neg c9] at H
    have c9b0 : decide ((wrap64 ((wrap64 ((wrap64 (a1 - (a0_0.size : Int))) - (a0_1.size : Int))) - (a0_2.size : Int))) < 0) = false := decide_eq_false c9
    clear c9
    obtain rfl := Option.some.inj H
    go_enter Try.func60, Try.ntmps60
    go_wp2_with (first | ((with_reducible refine qaH (N := 2) rfl ?_); refine qaF ?hg (N := 2) ?hd (cs := #[.string a0_0, .string a0_1, .string a0_2, .bool a0_3, .bool a0_4]) (t := 85) ?hr ?_; (case hd => rfl); (case hg => rfl); (case hr => first | (go_simp; done) | (go_simp; rfl)); intro gb356 hg w12 hbox hb; have n0_ := Aside0.mk (qag (by repeat (first | (with_reducible first | exact HB.out | apply qac | apply qaa | apply qab) | exact HB.out)) hb); have n1_ := Aside0.mk (hbox); have n2_ := Aside0.mk ((by rw [hg]; exact (qak (by repeat (first | (with_reducible first | exact HB.out | apply qac | apply qaa | apply qab) | exact HB.out))) : w.heap.size ≤ gb356)); have n3_ := Aside0.mk ((by rw [hg]; exact (qak (by repeat (first | (with_reducible first | exact HB.out | apply qac | apply qaa | apply qab) | exact HB.out))) : w.heap.size ≤ gb356)); clear HB; have HB := n0_; have BK356 := n1_; have GW356 := n2_; have GE356 := n3_; clear n0_ n1_ n2_ n3_; clear hb hbox hg; have hcz13_0 : w12.cell? ⟨gb356, 0, none⟩ = some (.string a0_0) := (qad BK356.out 0).trans rfl; have hcz13_1 : w12.cell? ⟨gb356, 1, none⟩ = some (.string a0_1) := (qad BK356.out 1).trans rfl; have hcz13_2 : w12.cell? ⟨gb356, 2, none⟩ = some (.string a0_2) := (qad BK356.out 2).trans rfl; have hcz13_3 : w12.cell? ⟨gb356, 3, none⟩ = some (.bool a0_3) := (qad BK356.out 3).trans rfl; have hcz13_4 : w12.cell? ⟨gb356, 4, none⟩ = some (.bool a0_4) := (qad BK356.out 4).trans rfl; have hfz13_0 := qae BK356.out 0; have hfz13_1 := qae BK356.out 1; have hfz13_2 := qae BK356.out 2; have hfz13_3 := qae BK356.out 3; have hfz13_4 := qae BK356.out 4))
    go_ret
    exact ⟨by first | rfl | (simp [qam, qan] <;> rfl) | (simp [*, qam, qan] <;> rfl), by repeat (first | (with_reducible first | exact HB.out | apply qac | apply qaa | apply qab | refine qah ?_ GE356.out) | exact HB.out)⟩
end Go.Proofs.Ytgcncphdjabjjaa.X
namespace Go.Proofs.Ytgcncphdjabjjaa.X
open Go.RowKit Go.Proofs.YtgcncphdjabjjaaW.PrintWords Go.Proofs.YtgcncphdjabjjaaW.PrintLast Go.Proofs.YtgcncphdjabjjaaW.PrintMore
attribute [local go_sem] qaC qaD qaE qay qaz qaN qaO qat qau qaA qaB
set_option linter.unusedVariables false
set_option linter.unusedSimpArgs false
theorem sz_Diff (x : S85) (hw : wl85 x) (B left : Int) (h0 : 0 ≤ left) (h1 : left ≤ B) (hB : B ≤ 1048576) : ∃ r, Ev (fun k => qcH.f (x.f0) (x.f1) (x.f2) (x.f3) (x.f4) left) r ∧ (0 ≤ r → r ≤ left ∧ sm85 B x) := by
 unfold qcH.f
 have hs0 : x.f0.size ≤ 9223372036854775807 := Nat.le_trans hw.1 qcN
 have e0 : wrap64 (left - (x.f0.size : Int)) = left - (x.f0.size : Int) := qbR (by omega) (by omega)
 simp only [e0]
 by_cases c0 : left - (x.f0.size : Int) < 0
 ·exact ⟨-1, Ev.pos c0 (Ev.is rfl), fun h => by omega⟩
 suffices hh : ∃ r, Ev _ r ∧ (0 ≤ r → r ≤ left ∧ sm85 B x) from (let ⟨r, hr, hq⟩ := hh; ⟨r, Ev.neg c0 hr, hq⟩)
 have hs1 : x.f1.size ≤ 9223372036854775807 := Nat.le_trans hw.2.1 qcN
 have e1 : wrap64 ((left - (x.f0.size : Int)) - (x.f1.size : Int)) = (left - (x.f0.size : Int)) - (x.f1.size : Int) := qbR (by omega) (by omega)
 simp only [e1]
 by_cases c1 : (left - (x.f0.size : Int)) - (x.f1.size : Int) < 0
 ·exact ⟨-1, Ev.pos c1 (Ev.is rfl), fun h => by omega⟩
 suffices hh : ∃ r, Ev _ r ∧ (0 ≤ r → r ≤ left ∧ sm85 B x) from (let ⟨r, hr, hq⟩ := hh; ⟨r, Ev.neg c1 hr, hq⟩)
 have hs2 : x.f2.size ≤ 9223372036854775807 := Nat.le_trans hw.2.2.1 qcN
 have e2 : wrap64 (((left - (x.f0.size : Int)) - (x.f1.size : Int)) - (x.f2.size : Int)) = ((left - (x.f0.size : Int)) - (x.f1.size : Int)) - (x.f2.size : Int) := qbR (by omega) (by omega)
 simp only [e2]
 by_cases c2 : ((left - (x.f0.size : Int)) - (x.f1.size : Int)) - (x.f2.size : Int) < 0
 ·exact ⟨-1, Ev.pos c2 (Ev.is rfl), fun h => by omega⟩
 suffices hh : ∃ r, Ev _ r ∧ (0 ≤ r → r ≤ left ∧ sm85 B x) from (let ⟨r, hr, hq⟩ := hh; ⟨r, Ev.neg c2 hr, hq⟩)
 exact ⟨(((left - (x.f0.size : Int)) - (x.f1.size : Int)) - (x.f2.size : Int)), Ev.is rfl, fun _ => ⟨by omega, ⟨(by omega), (by omega), (by omega), trivial, trivial⟩⟩⟩
end Go.Proofs.Ytgcncphdjabjjaa.X
namespace Go.Proofs.Ytgcncphdjabjjaa.X
open Go.RowKit Go.Proofs.YtgcncphdjabjjaaW.PrintWords Go.Proofs.YtgcncphdjabjjaaW.PrintLast Go.Proofs.YtgcncphdjabjjaaW.PrintMore
attribute [local go_sem] qaC qaD qaE qay qaz qaN qaO qat qau qaA qaB
set_option linter.unusedVariables false
set_option linter.unusedSimpArgs false
def qa2.l0 : Nat → List (S85) → Int → Int → Option (Int)
 | 0, _, _, _ => none
 | k + 1, x0, x1, x5 => if x5 < (x0.length : Int) then (if 0 ≤ x5 then ((qcH.f ((qbA x0 x5).f0) ((qbA x0 x5).f1) ((qbA x0 x5).f2) ((qbA x0 x5).f3) ((qbA x0 x5).f4) x1).bind fun t358 => (if t358 < 0 then (some (-1)) else (qa2.l0 k x0 t358 (wrap64 (x5 + 1))))) else (none)) else (some x1)
def qa2.f (k : Nat) (l0 : List (S85)) (a1 : Int) : Option (Int) := if (wrap64 (a1 - (l0.length : Int))) < 0 then (some (-1)) else (qa2.l0 k l0 (wrap64 (a1 - (l0.length : Int))) 0)
theorem qa2.qbm : ∀ k, (∀ y0 y1 y2, LeO (qa2.l0 k y0 y1 y2) (qa2.l0 (k + 1) y0 y1 y2))
 | 0 => fun _ _ _ r h => by simp [qa2.l0] at h
 | k + 1 => by
  have ih0 := qa2.qbm k
  ·intro y0 y1 y2
   unfold qa2.l0
   repeat' first
   | (with_reducible exact ih0 _ _ _)
   | (with_reducible exact LeO.refl _)
   | (with_reducible exact LeO.none _)
   | (with_reducible refine LeO.ite ?_ ?_)
   | (with_reducible refine LeO.bind ?_ (fun _ => ?_))
   | exact ih0 _ _ _
   | exact LeO.none _
   | refine LeO.ite ?_ ?_
   | refine LeO.bind ?_ (fun _ => ?_)
theorem qa2.mono : ∀ a0 a1 k, LeO (qa2.f k a0 a1) (qa2.f (k + 1) a0 a1) := by
 intro a0 a1 k
 have ih0 := qa2.qbm k
 unfold qa2.f
 repeat' first
   | (with_reducible exact ih0 _ _ _)
   | (with_reducible exact LeO.refl _)
   | (with_reducible exact LeO.none _)
   | (with_reducible refine LeO.ite ?_ ?_)
   | (with_reducible refine LeO.bind ?_ (fun _ => ?_))
   | exact ih0 _ _ _
   | exact LeO.none _
   | refine LeO.ite ?_ ?_
   | refine LeO.bind ?_ (fun _ => ?_)
set_option maxHeartbeats 8000000 in
set_option maxRecDepth 100000 in
theorem qa2.calls (k : Nat) (A0 : Option Addr) (c0 : Nat) (l0 : List (S85)) (a1 : Int) (r : Int) (w : World) (hr0 : Kd.C k85 w A0 l0.length l0) (hc0 : l0.length ≤ c0) (h : qa2.f k l0 a1 = some r) :
  Calls Try.prog 22 #[.slice A0 l0.length c0, .int .i64 a1] w fun e w' => e = .returned (.int .i64 r) ∧ Below w.heap.size w w' := by
 have hu85 := Try.underlying85
 have HR0 := Aside0.mk hr0
 have HC0 := Aside0.mk hc0
 clear hr0 hc0
 have HB := Aside0.mk (Below.refl w.heap.size w)
 have H : (if (wrap64 (a1 - (l0.length : Int))) < 0 then (some (-1)) else (qa2.l0 k l0 (wrap64 (a1 - (l0.length : Int))) 0)) = some r := h
 clear h
 by_cases c3 : (wrap64 (a1 - (l0.length : Int))) < 0
 ·rw [if_pos c3] at H
  have c3b0 : decide ((wrap64 (a1 - (l0.length : Int))) < 0) = true := decide_eq_true c3
  clear c3
  obtain rfl := Option.some.inj H
  go_enter Try.func22, Try.ntmps22
  go_wp2
  go_ret
  exact ⟨by first | rfl | (simp [qam, qan] <;> rfl) | (simp [*, qam, qan] <;> rfl), by repeat (first | (with_reducible first | exact HB.out | apply qac | apply qaa | apply qab) | exact HB.out)⟩
 ·rw [if_neg c3] at H
  have c3b0 : decide ((wrap64 (a1 - (l0.length : Int))) < 0) = false := decide_eq_false c3
  clear c3
  have H' := Aside0.mk H
  clear H
  go_enter Try.func22, Try.ntmps22
  go_wp2
  go_loopg [1, 5] k (fun kq v1 v5 w' => ∃ (x1_1 : Int) (x5_1 : Int), v1 = .int .i64 x1_1 ∧ v5 = .int .i64 x5_1 ∧ Aside0 (qa2.l0 kq l0 x1_1 x5_1 = some r) ∧ Aside0 (kq ≤ k) ∧ Aside0 (Below w.heap.size w w'))
  case atStart => exact ⟨(wrap64 (a1 - (l0.length : Int))), (0), (by first | rfl | (simp; done) | (simp [*]; done)), (by first | rfl | (simp; done) | (simp [*]; done)), H', ⟨Nat.le_refl _⟩, ⟨by repeat (first | (with_reducible first | exact HB.out | apply qac | apply qaa | apply qab) | exact HB.out)⟩⟩
  case round =>
   clear H'
   try clear c2
   try clear p2
   try clear c3
   try clear c3b0
   obtain ⟨x1_1, x5_1, rfl, rfl, HA, HK1, HB⟩ := hrel
   cases gk with
   | zero => exact absurd HA.out (by simp [qa2.l0])
   | succ k1 =>
    have H := HA.out
    clear HA
    simp only [qa2.l0] at H
    by_cases c4 : x5_1 < (l0.length : Int)
    ·rw [if_pos c4] at H
     have c4b0 : decide (x5_1 < (l0.length : Int)) = true := decide_eq_true c4
     clear c4
     by_cases c5 : 0 ≤ x5_1
     ·rw [if_pos c5] at H
      have c5b0 : decide (0 ≤ x5_1) = true := decide_eq_true c5
      clear c5
      replace H := Option.bind_eq_some_iff.mp H
      obtain ⟨t358, A60, H⟩ := H
      replace H : (if t358 < 0 then (some (-1)) else (qa2.l0 k1 l0 t358 (wrap64 (x5_1 + 1)))) = some r := H
      have A6 := Aside0.mk A60
      clear A60
      by_cases c7 : t358 < 0
      ·rw [if_pos c7] at H
       have c7b0 : decide (t358 < 0) = true := decide_eq_true c7
       clear c7
       obtain rfl := Option.some.inj H
       have p357 : 0 ≤ (x5_1 : Int) := of_decide_eq_true (by first | (with_reducible assumption) | assumption)
       have q357 : x5_1 < (l0.length : Int) := of_decide_eq_true (by first | (with_reducible assumption) | assumption)
       obtain ⟨ad357, e357, hx357_0, hx357_1, hx357_2, hx357_3, hx357_4⟩ := qhz HR0.out x5_1 p357 q357
       cases e357
       replace hx357_0 := (HB.out.cell (World.block_lt_of_cell? w _ hx357_0)).trans hx357_0
       replace hx357_1 := (HB.out.cell (World.block_lt_of_cell? w _ hx357_1)).trans hx357_1
       replace hx357_2 := (HB.out.cell (World.block_lt_of_cell? w _ hx357_2)).trans hx357_2
       replace hx357_3 := (HB.out.cell (World.block_lt_of_cell? w _ hx357_3)).trans hx357_3
       replace hx357_4 := (HB.out.cell (World.block_lt_of_cell? w _ hx357_4)).trans hx357_4
       replace p357 := eq_true p357
       replace q357 := eq_true q357
       go_wp2_with (first | ((with_reducible refine qav (f := 60) rfl ?_); refine qbd (some 23) rfl rfl Try.func60 (by kernel_rfl) rfl #[.agg #[.string ((qbA l0 x5_1).f0), .string ((qbA l0 x5_1).f1), .string ((qbA l0 x5_1).f2), .bool ((qbA l0 x5_1).f3), .bool ((qbA l0 x5_1).f4)], .int .i64 x1_1] rfl (by (try simp only [List.map_toArray, List.map_cons, List.map_nil]); first | done | rfl | (simp only [List.length_drop, List.length_take]; rfl)) ?_; (with_reducible refine (qcH.calls ((qbA l0 x5_1).f0) ((qbA l0 x5_1).f1) ((qbA l0 x5_1).f2) ((qbA l0 x5_1).f3) ((qbA l0 x5_1).f4) x1_1 t358 _ A6.out).mono ?_); rintro e w8 ⟨rfl, hb⟩; refine ⟨_, rfl, ?_⟩; have n0_ := Aside0.mk (qag (by repeat (first | (with_reducible first | exact HB.out | apply qac | apply qaa | apply qab) | exact HB.out)) hb); clear HB; have HB := n0_; clear n0_; (try clear hb); (try clear hb2); (try clear hk); (try clear hi)))
       go_ret
       exact ⟨by first | rfl | (simp [qam, qan] <;> rfl) | (simp [*, qam, qan] <;> rfl), by repeat (first | (with_reducible first | exact HB.out | apply qac | apply qaa | apply qab) | exact HB.out)⟩
      ·rw [if_neg c7] at H
       have c7b0 : decide (t358 < 0) = false := decide_eq_false c7
       clear c7
       have H' := Aside0.mk H
       clear H
       have p357 : 0 ≤ (x5_1 : Int) := of_decide_eq_true (by first | (with_reducible assumption) | assumption)
       have q357 : x5_1 < (l0.length : Int) := of_decide_eq_true (by first | (with_reducible assumption) | assumption)
       obtain ⟨ad357, e357, hx357_0, hx357_1, hx357_2, hx357_3, hx357_4⟩ := qhz HR0.out x5_1 p357 q357
       cases e357
       replace hx357_0 := (HB.out.cell (World.block_lt_of_cell? w _ hx357_0)).trans hx357_0
       replace hx357_1 := (HB.out.cell (World.block_lt_of_cell? w _ hx357_1)).trans hx357_1
       replace hx357_2 := (HB.out.cell (World.block_lt_of_cell? w _ hx357_2)).trans hx357_2
       replace hx357_3 := (HB.out.cell (World.block_lt_of_cell? w _ hx357_3)).trans hx357_3
       replace hx357_4 := (HB.out.cell (World.block_lt_of_cell? w _ hx357_4)).trans hx357_4
       replace p357 := eq_true p357
       replace q357 := eq_true q357
       go_wp2_with (first | ((with_reducible refine qav (f := 60) rfl ?_); refine qbd (some 23) rfl rfl Try.func60 (by kernel_rfl) rfl #[.agg #[.string ((qbA l0 x5_1).f0), .string ((qbA l0 x5_1).f1), .string ((qbA l0 x5_1).f2), .bool ((qbA l0 x5_1).f3), .bool ((qbA l0 x5_1).f4)], .int .i64 x1_1] rfl (by (try simp only [List.map_toArray, List.map_cons, List.map_nil]); first | done | rfl | (simp only [List.length_drop, List.length_take]; rfl)) ?_; (with_reducible refine (qcH.calls ((qbA l0 x5_1).f0) ((qbA l0 x5_1).f1) ((qbA l0 x5_1).f2) ((qbA l0 x5_1).f3) ((qbA l0 x5_1).f4) x1_1 t358 _ A6.out).mono ?_); rintro e w9 ⟨rfl, hb⟩; refine ⟨_, rfl, ?_⟩; have n0_ := Aside0.mk (qag (by repeat (first | (with_reducible first | exact HB.out | apply qac | apply qaa | apply qab) | exact HB.out)) hb); clear HB; have HB := n0_; clear n0_; (try clear hb); (try clear hb2); (try clear hk); (try clear hi)))
       go_roundg k1
       case measure => have := HK1.out; omega
       case rel => exact ⟨(t358), (wrap64 (x5_1 + 1)), (by first | rfl | (simp; done) | (simp [*]; done)), (by first | rfl | (simp; done) | (simp [*]; done)), H', ⟨by have := HK1.out; omega⟩, ⟨by repeat (first | (with_reducible first | exact HB.out | apply qac | apply qaa | apply qab) | exact HB.out)⟩⟩
     ·rw [if_neg c5] at H
      exact absurd H (by simp)
    ·rw [if_neg c4] at H
     have c4b0 : decide (x5_1 < (l0.length : Int)) = false := decide_eq_false c4
     clear c4
     obtain rfl := Option.some.inj H
     go_wp2
     go_ret
     exact ⟨by first | rfl | (simp [qam, qan] <;> rfl) | (simp [*, qam, qan] <;> rfl), by repeat (first | (with_reducible first | exact HB.out | apply qac | apply qaa | apply qab) | exact HB.out)⟩
end Go.Proofs.Ytgcncphdjabjjaa.X
namespace Go.Proofs.Ytgcncphdjabjjaa.X
open Go.RowKit Go.Proofs.YtgcncphdjabjjaaW.PrintWords Go.Proofs.YtgcncphdjabjjaaW.PrintLast Go.Proofs.YtgcncphdjabjjaaW.PrintMore
attribute [local go_sem] qaC qaD qaE qay qaz qaN qaO qat qau qaA qaB
set_option linter.unusedVariables false
set_option linter.unusedSimpArgs false
theorem qfu (B : Int) (hB : B ≤ 1048576) (rest : List S85) : ∀ (pre : List S85) (left : Int), (pre ++ rest).length ≤ 9223372036854775807 → (∀ y ∈ rest, wl85 y) → 0 ≤ left → left ≤ B →
  ∃ r, Ev (fun k => qa2.l0 k (pre ++ rest) left ((pre.length : Nat) : Int)) r ∧ (0 ≤ r → r ≤ left ∧ ∀ y ∈ rest, sm85 B y) := by
 induction rest with
 | nil =>
  intro pre left hl hw h0 h1
  refine ⟨left, Ev.succ ?_, fun _ => ⟨Int.le_refl _, fun y hy => by cases hy⟩⟩
  simp only [qa2.l0]
  exact Ev.neg (by simp) (Ev.is rfl)
 | cons x rest ih =>
  intro pre left hl hw h0 h1
  have hx : qbA (pre ++ x :: rest) ((pre.length : Nat) : Int) = x := by simp [qbA, List.getD_eq_getElem?_getD]
  have hlt : ((pre.length : Nat) : Int) < ((pre ++ x :: rest).length : Int) := by simp; omega
  have hwp : wrap64 (((pre.length : Nat) : Int) + 1) = (((pre ++ [x]).length : Nat) : Int) := by rw [← qb8]; exact qci (by omega)
  have e1 : pre ++ x :: rest = (pre ++ [x]) ++ rest := by simp
  have hl2 : ((pre ++ [x]) ++ rest).length ≤ 9223372036854775807 := by rw [← e1]; exact hl
  obtain ⟨r, hr, hq⟩ := sz_Diff x (hw x List.mem_cons_self) B left h0 h1 hB
  by_cases c : r < 0
  ·refine ⟨-1, Ev.succ ?_, fun h => by omega⟩
   simp only [qa2.l0, hx]
   exact Ev.pos hlt (Ev.pos (by omega) (Ev.bind hr (Ev.pos c (Ev.is rfl))))
  ·have hq' := hq (by omega)
   obtain ⟨r2, hr2, hq2⟩ := ih (pre ++ [x]) r hl2 (fun y hy => hw y (List.mem_cons_of_mem _ hy)) (by omega) (by omega)
   refine ⟨r2, Ev.succ ?_, fun h => ?_⟩
   ·simp only [qa2.l0, hx, hwp]
    rw [← e1] at hr2
    exact Ev.pos hlt (Ev.pos (by omega) (Ev.bind hr (Ev.neg c hr2)))
   ·have h3 := hq2 h
    refine ⟨by omega, fun y hy => ?_⟩
    rcases List.mem_cons.1 hy with rfl | hy
    ·exact hq'.2
    ·exact h3.2 y hy
theorem sz_DiffS (l : List S85) (hw : (l.length ≤ maxLen ∧ ∀ y ∈ l, wl85 y)) (B left : Int) (h0 : 0 ≤ left) (h1 : left ≤ B) (hB : B ≤ 1048576) : ∃ r, Ev (fun k => qa2.f k l left) r ∧ (0 ≤ r → r ≤ left ∧ ((l.length : Int) ≤ B ∧ ∀ y ∈ l, sm85 B y)) := by
 have hl := Nat.le_trans hw.1 qcN
 unfold qa2.f
 have e : wrap64 (left - (l.length : Int)) = left - (l.length : Int) := qbR (by omega) (by omega)
 simp only [e]
 by_cases c : left - (l.length : Int) < 0
 ·exact ⟨-1, Ev.pos c (Ev.is rfl), fun h => by omega⟩
 ·obtain ⟨r, hr, hq⟩ := qfu B hB l [] (left - (l.length : Int)) (by simpa using hl) hw.2 (by omega) (by omega)
  exact ⟨r, Ev.neg c (by simpa using hr), fun h => ⟨by have := (hq h).1; omega, by omega, (hq h).2⟩⟩
end Go.Proofs.Ytgcncphdjabjjaa.X
