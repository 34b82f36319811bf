import Derived.Test.YtenfomejccfkgaaKFnExactNodeBytes3
namespace Go.Proofs.Ytenfomejccfkgaa.X
open Go.RowKit Go.Proofs.YtenfomejccfkgaaW.PrintWords Go.Proofs.YtenfomejccfkgaaW.PrintLast Go.Proofs.YtenfomejccfkgaaW.PrintMore
attribute [local go_sem] qaE qaF qaG qaz qaA qaS qaT qau qav qaB qaC
set_option linter.unusedVariables false
set_option linter.unusedSimpArgs false
def qcp.f (a0_0 : ByteArray) (a0_1 : ByteArray) : Option (ByteArray × ByteArray) := some (a0_0, a0_1)
set_option maxHeartbeats 8000000 in
set_option maxRecDepth 100000 in
theorem qcp.calls (a0_0 : ByteArray) (a0_1 : ByteArray) (r1 : ByteArray) (r2 : ByteArray) (w : World) (h : qcp.f a0_0 a0_1 = some (r1, r2)) :
  Calls Try.prog 128 #[.agg #[.string a0_0, .string a0_1]] w fun e w' => e = .returned (.agg #[.string r1, .string r2]) ∧ Below w.heap.size w w' := by
 have hu159 := Try.underlying159
 have hu99 := Try.underlying99
 have HB := Aside0.mk (Below.refl w.heap.size w)
 have H : (some (a0_0, a0_1)) = some (r1, r2) := h
 clear h
 simp only [Option.some.injEq, Prod.mk.injEq] at H
 obtain ⟨rfl, rfl⟩ := H
 go_enter Try.func128, Try.ntmps128
 go_wp2_with (first | ((with_reducible refine qaK (N := 1) rfl ?_); refine qaJ ?hg (N := 1) ?hd (cs := #[.string a0_0, .string a0_1]) (t := 159) ?hr ?_; (case hd => rfl); (case hg => rfl); (case hr => first | (go_simp; done) | (go_simp; rfl)); intro gb150 hg w2 hbox hb; have n0_ := Aside0.mk (qag (by repeat (first | (with_reducible first | exact HB.out | apply qac | apply qaa | apply qab) | exact HB.out)) hb); have n1_ := Aside0.mk (hbox); have n2_ := Aside0.mk ((by rw [hg]; exact (qah (by repeat (first | (with_reducible first | exact HB.out | apply qac | apply qaa | apply qab) | exact HB.out))) : w.heap.size ≤ gb150)); have n3_ := Aside0.mk ((by rw [hg]; exact (qah (by repeat (first | (with_reducible first | exact HB.out | apply qac | apply qaa | apply qab) | exact HB.out))) : w.heap.size ≤ gb150)); clear HB; have HB := n0_; have BK150 := n1_; have GW150 := n2_; have GE150 := n3_; clear n0_ n1_ n2_ n3_; clear hb hbox hg) | ((with_reducible refine qaK (N := 2) rfl ?_); refine qaJ ?hg (N := 2) ?hd (cs := #[.string (⟨#[]⟩ : ByteArray), .string (⟨#[]⟩ : ByteArray)]) (t := 99) ?hr ?_; (case hd => rfl); (case hg => rfl); (case hr => first | (go_simp; done) | (go_simp; rfl)); intro gb151 hg w3 hbox hb; have n0_ := Aside0.mk (qas (g := gb150) (o := .cells #[.string a0_0, .string a0_1] 159 (0, 0)) (by (with_reducible repeat (first | refine qal ?_ _ | refine qam ?_ | refine qak ?_ _)); exact BK150.out) hb); have n1_ := Aside0.mk (qag (by repeat (first | (with_reducible first | exact HB.out | apply qac | apply qaa | apply qab | refine qaf ?_ GE150.out) | exact HB.out)) hb); have n2_ := Aside0.mk (hbox); have n3_ := Aside0.mk ((by rw [hg]; exact (qah (by repeat (first | (with_reducible first | exact HB.out | apply qac | apply qaa | apply qab | refine qaf ?_ GE150.out) | exact HB.out))) : w.heap.size ≤ gb151)); have n4_ := Aside0.mk ((by rw [hg]; exact (qah (by repeat (first | (with_reducible first | exact HB.out | apply qac | apply qaa | apply qab | refine qaf ?_ GE150.out) | exact HB.out))) : w.heap.size ≤ gb151)); have n5_ := Aside0.mk ((by rw [hg]; exact Nat.ne_of_lt (qbs (g := gb150) (o := .cells #[.string a0_0, .string a0_1] 159 (0, 0)) (by (with_reducible repeat (first | refine qal ?_ _ | refine qam ?_ | refine qak ?_ _)); exact BK150.out)) : gb150 ≠ gb151)); have n6_ := Aside0.mk ((by rw [hg]; exact Nat.ne_of_gt (qbs (g := gb150) (o := .cells #[.string a0_0, .string a0_1] 159 (0, 0)) (by (with_reducible repeat (first | refine qal ?_ _ | refine qam ?_ | refine qak ?_ _)); exact BK150.out)) : gb151 ≠ gb150)); clear BK150; clear HB; have BK150 := n0_; have HB := n1_; have BK151 := n2_; have GW151 := n3_; have GE151 := n4_; have NB150_151 := n5_; have NB151_150 := n6_; clear n0_ n1_ n2_ n3_ n4_ n5_ n6_; clear hb hbox hg) | ((with_reducible refine qaK (N := 3) rfl ?_); refine qaJ ?hg (N := 3) ?hd (cs := #[.string (⟨#[]⟩ : ByteArray), .string (⟨#[]⟩ : ByteArray)]) (t := 99) ?hr ?_; (case hd => rfl); (case hg => rfl); (case hr => first | (go_simp; done) | (go_simp; rfl)); intro gb152 hg w4 hbox hb; have n0_ := Aside0.mk (qas (g := gb150) (o := .cells #[.string a0_0, .string a0_1] 159 (0, 0)) (by (with_reducible repeat (first | refine qal ?_ _ | refine qam ?_ | refine qak ?_ _)); exact BK150.out) hb); have n1_ := Aside0.mk (qas (g := gb151) (o := .cells #[.string (⟨#[]⟩ : ByteArray), .string (⟨#[]⟩ : ByteArray)] 99 (0, 0)) (by (with_reducible repeat (first | refine qal ?_ _ | refine qam ?_ | refine qak ?_ _)); exact BK151.out) hb); have n2_ := Aside0.mk (qag (by repeat (first | (with_reducible first | exact HB.out | apply qac | apply qaa | apply qab | refine qaf ?_ GE150.out | refine qaf ?_ GE151.out) | exact HB.out)) hb); have n3_ := Aside0.mk (hbox); have n4_ := Aside0.mk ((by rw [hg]; exact (qah (by repeat (first | (with_reducible first | exact HB.out | apply qac | apply qaa | apply qab | refine qaf ?_ GE150.out | refine qaf ?_ GE151.out) | exact HB.out))) : w.heap.size ≤ gb152)); have n5_ := Aside0.mk ((by rw [hg]; exact (qah (by repeat (first | (with_reducible first | exact HB.out | apply qac | apply qaa | apply qab | refine qaf ?_ GE150.out | refine qaf ?_ GE151.out) | exact HB.out))) : w.heap.size ≤ gb152)); have n6_ := Aside0.mk ((by rw [hg]; exact Nat.ne_of_lt (qbs (g := gb150) (o := .cells #[.string a0_0, .string a0_1] 159 (0, 0)) (by (with_reducible repeat (first | refine qal ?_ _ | refine qam ?_ | refine qak ?_ _)); exact BK150.out)) : gb150 ≠ gb152)); have n7_ := Aside0.mk ((by rw [hg]; exact Nat.ne_of_gt (qbs (g := gb150) (o := .cells #[.string a0_0, .string a0_1] 159 (0, 0)) (by (with_reducible repeat (first | refine qal ?_ _ | refine qam ?_ | refine qak ?_ _)); exact BK150.out)) : gb152 ≠ gb150)); have n8_ := Aside0.mk ((by rw [hg]; exact Nat.ne_of_lt (qbs (g := gb151) (o := .cells #[.string (⟨#[]⟩ : ByteArray), .string (⟨#[]⟩ : ByteArray)] 99 (0, 0)) (by (with_reducible repeat (first | refine qal ?_ _ | refine qam ?_ | refine qak ?_ _)); exact BK151.out)) : gb151 ≠ gb152)); have n9_ := Aside0.mk ((by rw [hg]; exact Nat.ne_of_gt (qbs (g := gb151) (o := .cells #[.string (⟨#[]⟩ : ByteArray), .string (⟨#[]⟩ : ByteArray)] 99 (0, 0)) (by (with_reducible repeat (first | refine qal ?_ _ | refine qam ?_ | refine qak ?_ _)); exact BK151.out)) : gb152 ≠ gb151)); clear BK150; clear BK151; clear HB; have BK150 := n0_; have BK151 := n1_; have HB := n2_; have BK152 := n3_; have GW152 := n4_; have GE152 := n5_; have NB150_152 := n6_; have NB152_150 := n7_; have NB151_152 := n8_; have NB152_151 := n9_; clear n0_ n1_ n2_ n3_ n4_ n5_ n6_ n7_ n8_ n9_; clear hb hbox hg; have hnb5 := NB150_151.out; have hnc5 := NB151_150.out; have hnb6 := NB150_152.out; have hnc6 := NB152_150.out; have hcz7_0 : w4.cell? ⟨gb150, 0, none⟩ = some (.string a0_0) := (qae BK150.out 0).trans rfl; have hcz7_1 : w4.cell? ⟨gb150, 1, none⟩ = some (.string a0_1) := (qae BK150.out 1).trans rfl; have hfz7_0 := qad BK150.out 0; have hfz7_1 := qad BK150.out 1; have hnb8 := NB152_151.out; have hnc8 := NB151_152.out; have hcz9_0 : w4.cell? ⟨gb152, 0, none⟩ = some (.string (⟨#[]⟩ : ByteArray)) := (qae BK152.out 0).trans rfl; have hcz9_1 : w4.cell? ⟨gb152, 1, none⟩ = some (.string (⟨#[]⟩ : ByteArray)) := (qae BK152.out 1).trans rfl; have hfz9_0 := qad BK152.out 0; have hfz9_1 := qad BK152.out 1; have hcz10_0 : w4.cell? ⟨gb151, 0, none⟩ = some (.string (⟨#[]⟩ : ByteArray)) := (qae BK151.out 0).trans rfl; have hcz10_1 : w4.cell? ⟨gb151, 1, none⟩ = some (.string (⟨#[]⟩ : ByteArray)) := (qae BK151.out 1).trans rfl; have hfz10_0 := qad BK151.out 0; have hfz10_1 := qad BK151.out 1))
 refine bodyPost_ret (results_cell_row rfl _ _ gb151 99 #[.string a0_0, .string a0_1] (0, 0) _ rfl (by (with_reducible repeat (first | refine qal ?_ _ | refine qam ?_ | refine qak ?_ _)); refine qbq (cs := #[.string a0_0, .string (⟨#[]⟩ : ByteArray)]) ?_ 1 _ rfl; (with_reducible repeat (first | refine qal ?_ _ | refine qam ?_ | refine qak ?_ _)); refine qbq (cs := #[.string (⟨#[]⟩ : ByteArray), .string (⟨#[]⟩ : ByteArray)]) ?_ 0 _ rfl; (with_reducible repeat (first | refine qal ?_ _ | refine qam ?_ | refine qak ?_ _)); refine qch ?_ NB151_152.out _; (with_reducible repeat (first | refine qal ?_ _ | refine qam ?_ | refine qak ?_ _)); refine qch ?_ NB151_152.out _; (with_reducible repeat (first | refine qal ?_ _ | refine qam ?_ | refine qak ?_ _)); exact BK151.out) Try.underlying99 rfl (by kernel_rfl)) rfl ?_
 exact ⟨by first | rfl | (simp [qai, qaj] <;> rfl) | (simp [*, qai, qaj] <;> rfl), by repeat (first | (with_reducible first | exact HB.out | apply qac | apply qaa | apply qab | refine qaf ?_ GE150.out | refine qaf ?_ GE151.out | refine qaf ?_ GE152.out) | exact HB.out)⟩
end Go.Proofs.Ytenfomejccfkgaa.X
namespace Go.Proofs.Ytenfomejccfkgaa.X
open Go.RowKit Go.Proofs.YtenfomejccfkgaaW.PrintWords Go.Proofs.YtenfomejccfkgaaW.PrintLast Go.Proofs.YtenfomejccfkgaaW.PrintMore
attribute [local go_sem] qaE qaF qaG qaz qaA qaS qaT qau qav qaB qaC
set_option linter.unusedVariables false
set_option linter.unusedSimpArgs false
def cv159 (x : S159) : S99 := ⟨x.f0, x.f1⟩
def sm159 (B : Int) (x : S159) : Prop := (x.f0.size : Int) ≤ B ∧ (x.f1.size : Int) ≤ B
def wl159 (x : S159) : Prop := x.f0.size ≤ maxLen ∧ x.f1.size ≤ maxLen
theorem to_Pair (x : S159) : qcp.f (x.f0) (x.f1) = some (x.f0, x.f1) := rfl
end Go.Proofs.Ytenfomejccfkgaa.X
namespace Go.Proofs.Ytenfomejccfkgaa.X
open Go.RowKit Go.Proofs.YtenfomejccfkgaaW.PrintWords Go.Proofs.YtenfomejccfkgaaW.PrintLast Go.Proofs.YtenfomejccfkgaaW.PrintMore
attribute [local go_sem] qaE qaF qaG qaz qaA qaS qaT qau qav qaB qaC
set_option linter.unusedVariables false
set_option linter.unusedSimpArgs false
def qb6.f (a0_0 : ByteArray) (a0_1 : ByteArray) (a1 : Int) : Option (Int) := if (wrap64 (a1 - (a0_0.size : Int))) < 0 then (some (-1)) else (if (wrap64 ((wrap64 (a1 - (a0_0.size : Int))) - (a0_1.size : Int))) < 0 then (some (-1)) else (some (wrap64 ((wrap64 (a1 - (a0_0.size : Int))) - (a0_1.size : Int)))))
set_option maxHeartbeats 8000000 in
set_option maxRecDepth 100000 in
theorem qb6.calls (a0_0 : ByteArray) (a0_1 : ByteArray) (a1 : Int) (r : Int) (w : World) (h : qb6.f a0_0 a0_1 a1 = some r) :
  Calls Try.prog 124 #[.agg #[.string a0_0, .string a0_1], .int .i64 a1] w fun e w' => e = .returned (.int .i64 r) ∧ Below w.heap.size w w' := by
 have hu159 := Try.underlying159
 have HB := Aside0.mk (Below.refl w.heap.size w)
 have H : (if (wrap64 (a1 - (a0_0.size : Int))) < 0 then (some (-1)) else (if (wrap64 ((wrap64 (a1 - (a0_0.size : Int))) - (a0_1.size : Int))) < 0 then (some (-1)) else (some (wrap64 ((wrap64 (a1 - (a0_0.size : Int))) - (a0_1.size : Int)))))) = some r := h
 clear h
 by_cases c3 : (wrap64 (a1 - (a0_0.size : Int))) < 0
 ·rw [if_pos c3] at H
  have c3b0 : decide ((wrap64 (a1 - (a0_0.size : Int))) < 0) = true := decide_eq_true c3
  clear c3
  obtain rfl := Option.some.inj H
  go_enter Try.func124, Try.ntmps124
  go_wp2_with (first | ((with_reducible refine qaK (N := 2) rfl ?_); refine qaJ ?hg (N := 2) ?hd (cs := #[.string a0_0, .string a0_1]) (t := 159) ?hr ?_; (case hd => rfl); (case hg => rfl); (case hr => first | (go_simp; done) | (go_simp; rfl)); intro gb101 hg w4 hbox hb; have n0_ := Aside0.mk (qag (by repeat (first | (with_reducible first | exact HB.out | apply qac | apply qaa | apply qab) | exact HB.out)) hb); have n1_ := Aside0.mk (hbox); have n2_ := Aside0.mk ((by rw [hg]; exact (qah (by repeat (first | (with_reducible first | exact HB.out | apply qac | apply qaa | apply qab) | exact HB.out))) : w.heap.size ≤ gb101)); have n3_ := Aside0.mk ((by rw [hg]; exact (qah (by repeat (first | (with_reducible first | exact HB.out | apply qac | apply qaa | apply qab) | exact HB.out))) : w.heap.size ≤ gb101)); clear HB; have HB := n0_; have BK101 := n1_; have GW101 := n2_; have GE101 := n3_; clear n0_ n1_ n2_ n3_; clear hb hbox hg; have hcz5_0 : w4.cell? ⟨gb101, 0, none⟩ = some (.string a0_0) := (qae BK101.out 0).trans rfl; have hcz5_1 : w4.cell? ⟨gb101, 1, none⟩ = some (.string a0_1) := (qae BK101.out 1).trans rfl; have hfz5_0 := qad BK101.out 0; have hfz5_1 := qad BK101.out 1))
  go_ret
  exact ⟨by first | rfl | (simp [qai, qaj] <;> rfl) | (simp [*, qai, qaj] <;> rfl), by repeat (first | (with_reducible first | exact HB.out | apply qac | apply qaa | apply qab | refine qaf ?_ GE101.out) | exact HB.out)⟩
 ·rw [if_neg c3] at H
  have c3b0 : decide ((wrap64 (a1 - (a0_0.size : Int))) < 0) = false := decide_eq_false c3
  clear c3
  by_cases c6 : (wrap64 ((wrap64 (a1 - (a0_0.size : Int))) - (a0_1.size : Int))) < 0
  ·rw [if_pos c6] at H
   have c6b0 : decide ((wrap64 ((wrap64 (a1 - (a0_0.size : Int))) - (a0_1.size : Int))) < 0) = true := decide_eq_true c6
   clear c6
   obtain rfl := Option.some.inj H
   go_enter Try.func124, Try.ntmps124
   go_wp2_with (first | ((with_reducible refine qaK (N := 2) rfl ?_); refine qaJ ?hg (N := 2) ?hd (cs := #[.string a0_0, .string a0_1]) (t := 159) ?hr ?_; (case hd => rfl); (case hg => rfl); (case hr => first | (go_simp; done) | (go_simp; rfl)); intro gb101 hg w7 hbox hb; have n0_ := Aside0.mk (qag (by repeat (first | (with_reducible first | exact HB.out | apply qac | apply qaa | apply qab) | exact HB.out)) hb); have n1_ := Aside0.mk (hbox); have n2_ := Aside0.mk ((by rw [hg]; exact (qah (by repeat (first | (with_reducible first | exact HB.out | apply qac | apply qaa | apply qab) | exact HB.out))) : w.heap.size ≤ gb101)); have n3_ := Aside0.mk ((by rw [hg]; exact (qah (by repeat (first | (with_reducible first | exact HB.out | apply qac | apply qaa | apply qab) | exact HB.out))) : w.heap.size ≤ gb101)); clear HB; have HB := n0_; have BK101 := n1_; have GW101 := n2_; have GE101 := n3_; clear n0_ n1_ n2_ n3_; clear hb hbox hg; have hcz8_0 : w7.cell? ⟨gb101, 0, none⟩ = some (.string a0_0) := (qae BK101.out 0).trans rfl; have hcz8_1 : w7.cell? ⟨gb101, 1, none⟩ = some (.string a0_1) := (qae BK101.out 1).trans rfl; have hfz8_0 := qad BK101.out 0; have hfz8_1 := qad BK101.out 1))
   go_ret
   exact ⟨by first | rfl | (simp [qai, qaj] <;> rfl) | (simp [*, qai, qaj] <;> rfl), by repeat (first | (with_reducible first | exact HB.out | apply qac | apply qaa | apply qab | refine qaf ?_ GE101.out) | exact HB.out)⟩
  ·rw [if_neg c6] at H
   have c6b0 : decide ((wrap64 ((wrap64 (a1 - (a0_0.size : Int))) - (a0_1.size : Int))) < 0) = false := decide_eq_false c6
   clear c6
   obtain rfl := Option.some.inj H
   go_enter Try.func124, Try.ntmps124
   go_wp2_with (first | ((with_reducible refine qaK (N := 2) rfl ?_); refine qaJ ?hg (N := 2) ?hd (cs := #[.string a0_0, .string a0_1]) (t := 159) ?hr ?_; (case hd => rfl); (case hg => rfl); (case hr => first | (go_simp; done) | (go_simp; rfl)); intro gb101 hg w9 hbox hb; have n0_ := Aside0.mk (qag (by repeat (first | (with_reducible first | exact HB.out | apply qac | apply qaa | apply qab) | exact HB.out)) hb); have n1_ := Aside0.mk (hbox); have n2_ := Aside0.mk ((by rw [hg]; exact (qah (by repeat (first | (with_reducible first | exact HB.out | apply qac | apply qaa | apply qab) | exact HB.out))) : w.heap.size ≤ gb101)); have n3_ := Aside0.mk ((by rw [hg]; exact (qah (by repeat (first | (with_reducible first | exact HB.out | apply qac | apply qaa | apply qab) | exact HB.out))) : w.heap.size ≤ gb101)); clear HB; have HB := n0_; have BK101 := n1_; have GW101 := n2_; have GE101 := n3_; clear n0_ n1_ n2_ n3_; clear hb hbox hg; have hcz10_0 : w9.cell? ⟨gb101, 0, none⟩ = some (.string a0_0) := (qae BK101.out 0).trans rfl; have hcz10_1 : w9.cell? ⟨gb101, 1, none⟩ = some (.string a0_1) := (qae BK101.out 1).trans rfl; have hfz10_0 := qad BK101.out 0; have hfz10_1 := qad BK101.out 1))
   go_ret
   exact ⟨by first | rfl | (simp [qai, qaj] <;> rfl) | (simp [*, qai, qaj] <;> rfl), by repeat (first | (with_reducible first | exact HB.out | apply qac | apply qaa | apply qab | refine qaf ?_ GE101.out) | exact HB.out)⟩
end Go.Proofs.Ytenfomejccfkgaa.X
namespace Go.Proofs.Ytenfomejccfkgaa.X
open Go.RowKit Go.Proofs.YtenfomejccfkgaaW.PrintWords Go.Proofs.YtenfomejccfkgaaW.PrintLast Go.Proofs.YtenfomejccfkgaaW.PrintMore
attribute [local go_sem] qaE qaF qaG qaz qaA qaS qaT qau qav qaB qaC
set_option linter.unusedVariables false
set_option linter.unusedSimpArgs false
theorem sz_Pair (x : S159) (hw : wl159 x) (B left : Int) (h0 : 0 ≤ left) (h1 : left ≤ B) (hB : B ≤ 1048576) : ∃ r, Ev (fun k => qb6.f (x.f0) (x.f1) left) r ∧ (0 ≤ r → r ≤ left ∧ sm159 B x) := by
 unfold qb6.f
 have hs0 : x.f0.size ≤ 9223372036854775807 := Nat.le_trans hw.1 qcw
 have e0 : wrap64 (left - (x.f0.size : Int)) = left - (x.f0.size : Int) := qbw (by omega) (by omega)
 simp only [e0]
 by_cases c0 : left - (x.f0.size : Int) < 0
 ·exact ⟨-1, Ev.pos c0 (Ev.is rfl), fun h => by omega⟩
 suffices hh : ∃ r, Ev _ r ∧ (0 ≤ r → r ≤ left ∧ sm159 B x) from (let ⟨r, hr, hq⟩ := hh; ⟨r, Ev.neg c0 hr, hq⟩)
 have hs1 : x.f1.size ≤ 9223372036854775807 := Nat.le_trans hw.2 qcw
 have e1 : wrap64 ((left - (x.f0.size : Int)) - (x.f1.size : Int)) = (left - (x.f0.size : Int)) - (x.f1.size : Int) := qbw (by omega) (by omega)
 simp only [e1]
 by_cases c1 : (left - (x.f0.size : Int)) - (x.f1.size : Int) < 0
 ·exact ⟨-1, Ev.pos c1 (Ev.is rfl), fun h => by omega⟩
 suffices hh : ∃ r, Ev _ r ∧ (0 ≤ r → r ≤ left ∧ sm159 B x) from (let ⟨r, hr, hq⟩ := hh; ⟨r, Ev.neg c1 hr, hq⟩)
 exact ⟨((left - (x.f0.size : Int)) - (x.f1.size : Int)), Ev.is rfl, fun _ => ⟨by omega, ⟨(by omega), (by omega)⟩⟩⟩
end Go.Proofs.Ytenfomejccfkgaa.X
namespace Go.Proofs.Ytenfomejccfkgaa.X
open Go.RowKit Go.Proofs.YtenfomejccfkgaaW.PrintWords Go.Proofs.YtenfomejccfkgaaW.PrintLast Go.Proofs.YtenfomejccfkgaaW.PrintMore
attribute [local go_sem] qaE qaF qaG qaz qaA qaS qaT qau qav qaB qaC
set_option linter.unusedVariables false
set_option linter.unusedSimpArgs false
def qaW.l0 : Nat → List (S159) → Int → Int → Option (Int)
 | 0, _, _, _ => none
 | k + 1, x0, x1, x5 => if x5 < (x0.length : Int) then (if 0 ≤ x5 then ((qb6.f ((qbK x0 x5).f0) ((qbK x0 x5).f1) x1).bind fun t103 => (if t103 < 0 then (some (-1)) else (qaW.l0 k x0 t103 (wrap64 (x5 + 1))))) else (none)) else (some x1)
def qaW.f (k : Nat) (l0 : List (S159)) (a1 : Int) : Option (Int) := if (wrap64 (a1 - (l0.length : Int))) < 0 then (some (-1)) else (qaW.l0 k l0 (wrap64 (a1 - (l0.length : Int))) 0)
theorem qaW.qbf : ∀ k, (∀ y0 y1 y2, LeO (qaW.l0 k y0 y1 y2) (qaW.l0 (k + 1) y0 y1 y2))
 | 0 => fun _ _ _ r h => by simp [qaW.l0] at h
 | k + 1 => by
  have ih0 := qaW.qbf k
  ·intro y0 y1 y2
   unfold qaW.l0
   repeat' first
   | (with_reducible exact ih0 _ _ _)
   | (with_reducible exact LeO.refl _)
   | (with_reducible exact LeO.none _)
   | (with_reducible refine LeO.ite ?_ ?_)
   | (with_reducible refine LeO.bind ?_ (fun _ => ?_))
   | exact ih0 _ _ _
   | exact LeO.none _
   | refine LeO.ite ?_ ?_
   | refine LeO.bind ?_ (fun _ => ?_)
theorem qaW.mono : ∀ a0 a1 k, LeO (qaW.f k a0 a1) (qaW.f (k + 1) a0 a1) := by
 intro a0 a1 k
 have ih0 := qaW.qbf k
 unfold qaW.f
 repeat' first
   | (with_reducible exact ih0 _ _ _)
   | (with_reducible exact LeO.refl _)
   | (with_reducible exact LeO.none _)
   | (with_reducible refine LeO.ite ?_ ?_)
   | (with_reducible refine LeO.bind ?_ (fun _ => ?_))
   | exact ih0 _ _ _
   | exact LeO.none _
   | refine LeO.ite ?_ ?_
   | refine LeO.bind ?_ (fun _ => ?_)
set_option maxHeartbeats 8000000 in
set_option maxRecDepth 100000 in
theorem qaW.calls (k : Nat) (A0 : Option Addr) (c0 : Nat) (l0 : List (S159)) (a1 : Int) (r : Int) (w : World) (hr0 : Kd.C k159 w A0 l0.length l0) (hc0 : l0.length ≤ c0) (h : qaW.f k l0 a1 = some r) :
  Calls Try.prog 74 #[.slice A0 l0.length c0, .int .i64 a1] w fun e w' => e = .returned (.int .i64 r) ∧ Below w.heap.size w w' := by
 have hu159 := Try.underlying159
 have HR0 := Aside0.mk hr0
 have HC0 := Aside0.mk hc0
 clear hr0 hc0
 have HB := Aside0.mk (Below.refl w.heap.size w)
 have H : (if (wrap64 (a1 - (l0.length : Int))) < 0 then (some (-1)) else (qaW.l0 k l0 (wrap64 (a1 - (l0.length : Int))) 0)) = some r := h
 clear h
 by_cases c3 : (wrap64 (a1 - (l0.length : Int))) < 0
 ·rw [if_pos c3] at H
  have c3b0 : decide ((wrap64 (a1 - (l0.length : Int))) < 0) = true := decide_eq_true c3
  clear c3
  obtain rfl := Option.some.inj H
  go_enter Try.func74, Try.ntmps74
  go_wp2
  go_ret
  exact ⟨by first | rfl | (simp [qai, qaj] <;> rfl) | (simp [*, qai, qaj] <;> rfl), by repeat (first | (with_reducible first | exact HB.out | apply qac | apply qaa | apply qab) | exact HB.out)⟩
 ·rw [if_neg c3] at H
  have c3b0 : decide ((wrap64 (a1 - (l0.length : Int))) < 0) = false := decide_eq_false c3
  clear c3
  have H' := Aside0.mk H
  clear H
  go_enter Try.func74, Try.ntmps74
  go_wp2
  go_loopg [1, 5] k (fun kq v1 v5 w' => ∃ (x1_1 : Int) (x5_1 : Int), v1 = .int .i64 x1_1 ∧ v5 = .int .i64 x5_1 ∧ Aside0 (qaW.l0 kq l0 x1_1 x5_1 = some r) ∧ Aside0 (kq ≤ k) ∧ Aside0 (Below w.heap.size w w'))
  case atStart => exact ⟨(wrap64 (a1 - (l0.length : Int))), (0), (by first | rfl | (simp; done) | (simp [*]; done)), (by first | rfl | (simp; done) | (simp [*]; done)), H', ⟨Nat.le_refl _⟩, ⟨by repeat (first | (with_reducible first | exact HB.out | apply qac | apply qaa | apply qab) | exact HB.out)⟩⟩
  case round =>
   clear H'
   try clear p2
   try clear c3
   try clear c3b0
   obtain ⟨x1_1, x5_1, rfl, rfl, HA, HK1, HB⟩ := hrel
   cases gk with
   | zero => exact absurd HA.out (by simp [qaW.l0])
   | succ k1 =>
    have H := HA.out
    clear HA
    simp only [qaW.l0] at H
    by_cases c4 : x5_1 < (l0.length : Int)
    ·rw [if_pos c4] at H
     have c4b0 : decide (x5_1 < (l0.length : Int)) = true := decide_eq_true c4
     clear c4
     by_cases c5 : 0 ≤ x5_1
     ·rw [if_pos c5] at H
      have c5b0 : decide (0 ≤ x5_1) = true := decide_eq_true c5
      clear c5
      replace H := Option.bind_eq_some_iff.mp H
      obtain ⟨t103, A60, H⟩ := H
      replace H : (if t103 < 0 then (some (-1)) else (qaW.l0 k1 l0 t103 (wrap64 (x5_1 + 1)))) = some r := H
      have A6 := Aside0.mk A60
      clear A60
      by_cases c7 : t103 < 0
      ·rw [if_pos c7] at H
       have c7b0 : decide (t103 < 0) = true := decide_eq_true c7
       clear c7
       obtain rfl := Option.some.inj H
       have p102 : 0 ≤ (x5_1 : Int) := of_decide_eq_true (by first | (with_reducible assumption) | assumption)
       have q102 : x5_1 < (l0.length : Int) := of_decide_eq_true (by first | (with_reducible assumption) | assumption)
       obtain ⟨ad102, e102, hx102_0, hx102_1⟩ := qfh HR0.out x5_1 p102 q102
       cases e102
       replace hx102_0 := (HB.out.cell (World.block_lt_of_cell? w _ hx102_0)).trans hx102_0
       replace hx102_1 := (HB.out.cell (World.block_lt_of_cell? w _ hx102_1)).trans hx102_1
       replace p102 := eq_true p102
       replace q102 := eq_true q102
       go_wp2_with (first | ((with_reducible refine qaq (f := 124) rfl ?_); refine qbd (some 23) rfl rfl Try.func124 (by kernel_rfl) rfl #[.agg #[.string ((qbK l0 x5_1).f0), .string ((qbK l0 x5_1).f1)], .int .i64 x1_1] rfl (by (try simp only [List.map_toArray, List.map_cons, List.map_nil]); first | done | rfl | (simp only [List.length_drop, List.length_take]; rfl)) ?_; (with_reducible refine (qb6.calls ((qbK l0 x5_1).f0) ((qbK l0 x5_1).f1) x1_1 t103 _ A6.out).mono ?_); rintro e w8 ⟨rfl, hb⟩; refine ⟨_, rfl, ?_⟩; have n0_ := Aside0.mk (qag (by repeat (first | (with_reducible first | exact HB.out | apply qac | apply qaa | apply qab) | exact HB.out)) hb); clear HB; have HB := n0_; clear n0_; (try clear hb); (try clear hb2); (try clear hk); (try clear hi)))
       go_ret
       exact ⟨by first | rfl | (simp [qai, qaj] <;> rfl) | (simp [*, qai, qaj] <;> rfl), by repeat (first | (with_reducible first | exact HB.out | apply qac | apply qaa | apply qab) | exact HB.out)⟩
      ·rw [if_neg c7] at H
       have c7b0 : decide (t103 < 0) = false := decide_eq_false c7
       clear c7
       have H' := Aside0.mk H
       clear H
       have p102 : 0 ≤ (x5_1 : Int) := of_decide_eq_true (by first | (with_reducible assumption) | assumption)
       have q102 : x5_1 < (l0.length : Int) := of_decide_eq_true (by first | (with_reducible assumption) | assumption)
       obtain ⟨ad102, e102, hx102_0, hx102_1⟩ := qfh HR0.out x5_1 p102 q102
       cases e102
       replace hx102_0 := (HB.out.cell (World.block_lt_of_cell? w _ hx102_0)).trans hx102_0
       replace hx102_1 := (HB.out.cell (World.block_lt_of_cell? w _ hx102_1)).trans hx102_1
       replace p102 := eq_true p102
       replace q102 := eq_true q102
       go_wp2_with (first | ((with_reducible refine qaq (f := 124) rfl ?_); refine qbd (some 23) rfl rfl Try.func124 (by kernel_rfl) rfl #[.agg #[.string ((qbK l0 x5_1).f0), .string ((qbK l0 x5_1).f1)], .int .i64 x1_1] rfl (by (try simp only [List.map_toArray, List.map_cons, List.map_nil]); first | done | rfl | (simp only [List.length_drop, List.length_take]; rfl)) ?_; (with_reducible refine (qb6.calls ((qbK l0 x5_1).f0) ((qbK l0 x5_1).f1) x1_1 t103 _ A6.out).mono ?_); rintro e w9 ⟨rfl, hb⟩; refine ⟨_, rfl, ?_⟩; have n0_ := Aside0.mk (qag (by repeat (first | (with_reducible first | exact HB.out | apply qac | apply qaa | apply qab) | exact HB.out)) hb); clear HB; have HB := n0_; clear n0_; (try clear hb); (try clear hb2); (try clear hk); (try clear hi)))
       go_roundg k1
       case measure => have := HK1.out; omega
       case rel => exact ⟨(t103), (wrap64 (x5_1 + 1)), (by first | rfl | (simp; done) | (simp [*]; done)), (by first | rfl | (simp; done) | (simp [*]; done)), H', ⟨by have := HK1.out; omega⟩, ⟨by repeat (first | (with_reducible first | exact HB.out | apply qac | apply qaa | apply qab) | exact HB.out)⟩⟩
     ·rw [if_neg c5] at H
      exact absurd H (by simp)
    ·rw [if_neg c4] at H
     have c4b0 : decide (x5_1 < (l0.length : Int)) = false := decide_eq_false c4
     clear c4
     obtain rfl := Option.some.inj H
     go_wp2
     go_ret
     exact ⟨by first | rfl | (simp [qai, qaj] <;> rfl) | (simp [*, qai, qaj] <;> rfl), by repeat (first | (with_reducible first | exact HB.out | apply qac | apply qaa | apply qab) | exact HB.out)⟩
end Go.Proofs.Ytenfomejccfkgaa.X
namespace Go.Proofs.Ytenfomejccfkgaa.X
open Go.RowKit Go.Proofs.YtenfomejccfkgaaW.PrintWords Go.Proofs.YtenfomejccfkgaaW.PrintLast Go.Proofs.YtenfomejccfkgaaW.PrintMore
attribute [local go_sem] qaE qaF qaG qaz qaA qaS qaT qau qav qaB qaC
set_option linter.unusedVariables false
set_option linter.unusedSimpArgs false
theorem qeG (B : Int) (hB : B ≤ 1048576) (rest : List S159) : ∀ (pre : List S159) (left : Int), (pre ++ rest).length ≤ 9223372036854775807 → (∀ y ∈ rest, wl159 y) → 0 ≤ left → left ≤ B →
  ∃ r, Ev (fun k => qaW.l0 k (pre ++ rest) left ((pre.length : Nat) : Int)) r ∧ (0 ≤ r → r ≤ left ∧ ∀ y ∈ rest, sm159 B y) := by
 induction rest with
 | nil =>
  intro pre left hl hw h0 h1
  refine ⟨left, Ev.succ ?_, fun _ => ⟨Int.le_refl _, fun y hy => by cases hy⟩⟩
  simp only [qaW.l0]
  exact Ev.neg (by simp) (Ev.is rfl)
 | cons x rest ih =>
  intro pre left hl hw h0 h1
  have hx : qbK (pre ++ x :: rest) ((pre.length : Nat) : Int) = x := by simp [qbK, List.getD_eq_getElem?_getD]
  have hlt : ((pre.length : Nat) : Int) < ((pre ++ x :: rest).length : Int) := by simp; omega
  have hwp : wrap64 (((pre.length : Nat) : Int) + 1) = (((pre ++ [x]).length : Nat) : Int) := by rw [← qbJ]; exact qbV (by omega)
  have e1 : pre ++ x :: rest = (pre ++ [x]) ++ rest := by simp
  have hl2 : ((pre ++ [x]) ++ rest).length ≤ 9223372036854775807 := by rw [← e1]; exact hl
  obtain ⟨r, hr, hq⟩ := sz_Pair x (hw x List.mem_cons_self) B left h0 h1 hB
  by_cases c : r < 0
  ·refine ⟨-1, Ev.succ ?_, fun h => by omega⟩
   simp only [qaW.l0, hx]
   exact Ev.pos hlt (Ev.pos (by omega) (Ev.bind hr (Ev.pos c (Ev.is rfl))))
  ·have hq' := hq (by omega)
   obtain ⟨r2, hr2, hq2⟩ := ih (pre ++ [x]) r hl2 (fun y hy => hw y (List.mem_cons_of_mem _ hy)) (by omega) (by omega)
   refine ⟨r2, Ev.succ ?_, fun h => ?_⟩
   ·simp only [qaW.l0, hx, hwp]
    rw [← e1] at hr2
    exact Ev.pos hlt (Ev.pos (by omega) (Ev.bind hr (Ev.neg c hr2)))
   ·have h3 := hq2 h
    refine ⟨by omega, fun y hy => ?_⟩
    rcases List.mem_cons.1 hy with rfl | hy
    ·exact hq'.2
    ·exact h3.2 y hy
theorem sz_PairS (l : List S159) (hw : (l.length ≤ maxLen ∧ ∀ y ∈ l, wl159 y)) (B left : Int) (h0 : 0 ≤ left) (h1 : left ≤ B) (hB : B ≤ 1048576) : ∃ r, Ev (fun k => qaW.f k l left) r ∧ (0 ≤ r → r ≤ left ∧ ((l.length : Int) ≤ B ∧ ∀ y ∈ l, sm159 B y)) := by
 have hl := Nat.le_trans hw.1 qcw
 unfold qaW.f
 have e : wrap64 (left - (l.length : Int)) = left - (l.length : Int) := qbw (by omega) (by omega)
 simp only [e]
 by_cases c : left - (l.length : Int) < 0
 ·exact ⟨-1, Ev.pos c (Ev.is rfl), fun h => by omega⟩
 ·obtain ⟨r, hr, hq⟩ := qeG B hB l [] (left - (l.length : Int)) (by simpa using hl) hw.2 (by omega) (by omega)
  exact ⟨r, Ev.neg c (by simpa using hr), fun h => ⟨by have := (hq h).1; omega, by omega, (hq h).2⟩⟩
end Go.Proofs.Ytenfomejccfkgaa.X
namespace Go.Proofs.Ytenfomejccfkgaa.X
open Go.RowKit Go.Proofs.YtenfomejccfkgaaW.PrintWords Go.Proofs.YtenfomejccfkgaaW.PrintLast Go.Proofs.YtenfomejccfkgaaW.PrintMore
attribute [local go_sem] qaE qaF qaG qaz qaA qaS qaT qau qav qaB qaC
set_option linter.unusedVariables false
set_option linter.unusedSimpArgs false
def qaN.l0 : Nat → List ByteArray → Int → Int → Option (Int)
 | 0, _, _, _ => none
 | k + 1, x0, x1, x5 => if x5 < (x0.length : Int) then (if 0 ≤ x5 then (if (wrap64 (x1 - ((rdOf ByteArray.empty x0 x5).size : Int))) < 0 then (some (-1)) else (qaN.l0 k x0 (wrap64 (x1 - ((rdOf ByteArray.empty x0 x5).size : Int))) (wrap64 (x5 + 1)))) else (none)) else (some x1)
def qaN.f (k : Nat) (l0 : List ByteArray) (a1 : Int) : Option (Int) := if (wrap64 (a1 - (l0.length : Int))) < 0 then (some (-1)) else (qaN.l0 k l0 (wrap64 (a1 - (l0.length : Int))) 0)
theorem qaN.qbf : ∀ k, (∀ y0 y1 y2, LeO (qaN.l0 k y0 y1 y2) (qaN.l0 (k + 1) y0 y1 y2))
 | 0 => fun _ _ _ r h => by simp [qaN.l0] at h
 | k + 1 => by
  have ih0 := qaN.qbf k
  ·intro y0 y1 y2
   unfold qaN.l0
   repeat' first
   | (with_reducible exact ih0 _ _ _)
   | (with_reducible exact LeO.refl _)
   | (with_reducible exact LeO.none _)
   | (with_reducible refine LeO.ite ?_ ?_)
   | (with_reducible refine LeO.bind ?_ (fun _ => ?_))
   | exact ih0 _ _ _
   | exact LeO.none _
   | refine LeO.ite ?_ ?_
   | refine LeO.bind ?_ (fun _ => ?_)
theorem qaN.mono : ∀ a0 a1 k, LeO (qaN.f k a0 a1) (qaN.f (k + 1) a0 a1) := by
 intro a0 a1 k
 have ih0 := qaN.qbf k
 unfold qaN.f
 repeat' first
   | (with_reducible exact ih0 _ _ _)
   | (with_reducible exact LeO.refl _)
   | (with_reducible exact LeO.none _)
   | (with_reducible refine LeO.ite ?_ ?_)
   | (with_reducible refine LeO.bind ?_ (fun _ => ?_))
   | exact ih0 _ _ _
   | exact LeO.none _
   | refine LeO.ite ?_ ?_
   | refine LeO.bind ?_ (fun _ => ?_)
set_option maxHeartbeats 8000000 in
set_option maxRecDepth 100000 in
theorem qaN.calls (k : Nat) (A0 : Option Addr) (c0 : Nat) (l0 : List ByteArray) (a1 : Int) (r : Int) (w : World) (hr0 : Kd.C Kd.string w A0 l0.length l0) (hc0 : l0.length ≤ c0) (h : qaN.f k l0 a1 = some r) :
  Calls Try.prog 75 #[.slice A0 l0.length c0, .int .i64 a1] w fun e w' => e = .returned (.int .i64 r) ∧ qa0 w w' := by
 have HR0 := Aside0.mk hr0
 have HC0 := Aside0.mk hc0
 clear hr0 hc0
 have H : (if (wrap64 (a1 - (l0.length : Int))) < 0 then (some (-1)) else (qaN.l0 k l0 (wrap64 (a1 - (l0.length : Int))) 0)) = some r := h
 clear h
 by_cases c3 : (wrap64 (a1 - (l0.length : Int))) < 0
 ·rw [if_pos c3] at H
  have c3b0 : decide ((wrap64 (a1 - (l0.length : Int))) < 0) = true := decide_eq_true c3
  clear c3
  obtain rfl := Option.some.inj H
  go_enter Try.func75, Try.ntmps75
  go_wp2
  go_ret
  exact ⟨by first | rfl | (simp; done) | (simp [*]; done), by repeat (first | exact qa0.refl _ | apply qa0.step)⟩
 ·rw [if_neg c3] at H
  have c3b0 : decide ((wrap64 (a1 - (l0.length : Int))) < 0) = false := decide_eq_false c3
  clear c3
  have H' := Aside0.mk H
  clear H
  go_enter Try.func75, Try.ntmps75
  go_wp2
  go_loopg [1, 5] k (fun kq v1 v5 w' => ∃ (x1_1 : Int) (x5_1 : Int), v1 = .int .i64 x1_1 ∧ v5 = .int .i64 x5_1 ∧ Aside0 (qaN.l0 kq l0 x1_1 x5_1 = some r) ∧ Aside0 (kq ≤ k) ∧ qa0 w w')
  case atStart => exact ⟨(wrap64 (a1 - (l0.length : Int))), (0), (by first | rfl | (simp; done) | (simp [*]; done)), (by first | rfl | (simp; done) | (simp [*]; done)), H', ⟨Nat.le_refl _⟩, by repeat (first | exact qa0.refl _ | apply qa0.step)⟩
  case round =>
   clear H'
   try clear p2
   try clear c3
   try clear c3b0
   obtain ⟨x1_1, x5_1, rfl, rfl, HA, HK1, ⟨m1, rfl⟩⟩ := hrel
   cases gk with
   | zero => exact absurd HA.out (by simp [qaN.l0])
   | succ k1 =>
    have H := HA.out
    clear HA
    simp only [qaN.l0] at H
    by_cases c4 : x5_1 < (l0.length : Int)
    ·rw [if_pos c4] at H
     have c4b0 : decide (x5_1 < (l0.length : Int)) = true := decide_eq_true c4
     clear c4
     by_cases c5 : 0 ≤ x5_1
     ·rw [if_pos c5] at H
      have c5b0 : decide (0 ≤ x5_1) = true := decide_eq_true c5
      clear c5
      by_cases c6 : (wrap64 (x1_1 - ((rdOf ByteArray.empty l0 x5_1).size : Int))) < 0
      ·rw [if_pos c6] at H
       have c6b0 : decide ((wrap64 (x1_1 - ((rdOf ByteArray.empty l0 x5_1).size : Int))) < 0) = true := decide_eq_true c6
       clear c6
       obtain rfl := Option.some.inj H
       have p104 : 0 ≤ (x5_1 : Int) := of_decide_eq_true (by first | (with_reducible assumption) | assumption)
       have q104 : x5_1 < (l0.length : Int) := of_decide_eq_true (by first | (with_reducible assumption) | assumption)
       obtain ⟨ad104, e104, hx104_0⟩ := Kd.qbn HR0.out x5_1 p104 q104
       cases e104
       replace p104 := eq_true p104
       replace q104 := eq_true q104
       go_wp2
       go_ret
       exact ⟨by first | rfl | (simp; done) | (simp [*]; done), by repeat (first | exact qa0.refl _ | apply qa0.step)⟩
      ·rw [if_neg c6] at H
       have c6b0 : decide ((wrap64 (x1_1 - ((rdOf ByteArray.empty l0 x5_1).size : Int))) < 0) = false := decide_eq_false c6
       clear c6
       have H' := Aside0.mk H
       clear H
       have p104 : 0 ≤ (x5_1 : Int) := of_decide_eq_true (by first | (with_reducible assumption) | assumption)
       have q104 : x5_1 < (l0.length : Int) := of_decide_eq_true (by first | (with_reducible assumption) | assumption)
       obtain ⟨ad104, e104, hx104_0⟩ := Kd.qbn HR0.out x5_1 p104 q104
       cases e104
       replace p104 := eq_true p104
       replace q104 := eq_true q104
       go_wp2
       go_roundg k1
       case measure => have := HK1.out; omega
       case rel => exact ⟨(wrap64 (x1_1 - ((rdOf ByteArray.empty l0 x5_1).size : Int))), (wrap64 (x5_1 + 1)), (by first | rfl | (simp; done) | (simp [*]; done)), (by first | rfl | (simp; done) | (simp [*]; done)), H', ⟨by have := HK1.out; omega⟩, by repeat (first | exact qa0.refl _ | apply qa0.step)⟩
     ·rw [if_neg c5] at H
      exact absurd H (by simp)
    ·rw [if_neg c4] at H
     have c4b0 : decide (x5_1 < (l0.length : Int)) = false := decide_eq_false c4
     clear c4
     obtain rfl := Option.some.inj H
     go_wp2
     go_ret
     exact ⟨by first | rfl | (simp; done) | (simp [*]; done), by repeat (first | exact qa0.refl _ | apply qa0.step)⟩
end Go.Proofs.Ytenfomejccfkgaa.X
