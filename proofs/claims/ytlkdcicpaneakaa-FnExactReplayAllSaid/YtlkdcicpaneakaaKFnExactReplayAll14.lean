import Derived.Test.YtlkdcicpaneakaaKFnExactReplayAll2
import Derived.Test.YtlkdcicpaneakaaKFnExactReplayAll10
namespace Go.Proofs.Ytlkdcicpaneakaa.X
open Go.RowKit Go.Proofs.YtlkdcicpaneakaaW.PrintWords Go.Proofs.YtlkdcicpaneakaaW.PrintLast Go.Proofs.YtlkdcicpaneakaaW.PrintMore
attribute [local go_sem] qaA qaB qaC qaw qax qaH qaI qap qaq qay qaz
set_option linter.unusedVariables false
set_option linter.unusedSimpArgs false
def qcw.f (a0_0 : ByteArray) (a0_1 : ByteArray) (a0_2 : ByteArray) (a0_3 : Bool) (a0_4 : Bool) (a1_0 : ByteArray) (a1_1 : ByteArray) (a1_2 : ByteArray) (a1_3 : Bool) (a1_4 : Bool) : Option (Bool) := if a0_0.toList = a1_0.toList then (if a0_1.toList = a1_1.toList then (if a0_2.toList = a1_2.toList then (if (a0_3 != a1_3) = true then (some false) else (if (a0_4 != a1_4) = true then (some false) else (some true))) else (some false)) else (some false)) else (some false)
set_option maxHeartbeats 8000000 in
set_option maxRecDepth 100000 in
theorem qcw.calls (a0_0 : ByteArray) (a0_1 : ByteArray) (a0_2 : ByteArray) (a0_3 : Bool) (a0_4 : Bool) (a1_0 : ByteArray) (a1_1 : ByteArray) (a1_2 : ByteArray) (a1_3 : Bool) (a1_4 : Bool) (r : Bool) (w : World) (h : qcw.f a0_0 a0_1 a0_2 a0_3 a0_4 a1_0 a1_1 a1_2 a1_3 a1_4 = some r) :
  Calls Try.prog 61 #[.agg #[.string a0_0, .string a0_1, .string a0_2, .bool a0_3, .bool a0_4], .agg #[.string a1_0, .string a1_1, .string a1_2, .bool a1_3, .bool a1_4]] w fun e w' => e = .returned (.bool r) ∧ Below w.heap.size w w' := by
 have hu56 := Try.underlying56
 have HB := Aside0.mk (Below.refl w.heap.size w)
 have H : (if a0_0.toList = a1_0.toList then (if a0_1.toList = a1_1.toList then (if a0_2.toList = a1_2.toList then (if (a0_3 != a1_3) = true then (some false) else (if (a0_4 != a1_4) = true then (some false) else (some true))) else (some false)) else (some false)) else (some false)) = some r := h
 clear h
 by_cases c3 : a0_0.toList = a1_0.toList
 ·rw [if_pos c3] at H
  have c3b0 : (a0_0.toList == a1_0.toList) = true := beq_iff_eq.mpr c3
  have c3b1 : (a0_0.toList != a1_0.toList) = false := bne_eq_false_iff_eq.mpr c3
  clear c3
  by_cases c4 : a0_1.toList = a1_1.toList
  ·rw [if_pos c4] at H
   have c4b0 : (a0_1.toList == a1_1.toList) = true := beq_iff_eq.mpr c4
   have c4b1 : (a0_1.toList != a1_1.toList) = false := bne_eq_false_iff_eq.mpr c4
   clear c4
   by_cases c5 : a0_2.toList = a1_2.toList
   ·rw [if_pos c5] at H
    have c5b0 : (a0_2.toList == a1_2.toList) = true := beq_iff_eq.mpr c5
    have c5b1 : (a0_2.toList != a1_2.toList) = false := bne_eq_false_iff_eq.mpr c5
    clear c5
    by_cases c6 : (a0_3 != a1_3) = true
    ·rw [if_pos c6] at H
     have c6b0 : (a0_3 != a1_3) = true := c6
     (try (have c6b1 : decide (a0_3 = a1_3) = false := by simpa using c6))
     (try (have c6b2 : (a0_3 == a1_3) = false := by simpa using c6))
     (try (have c6b3 : ¬ (a0_3 = a1_3) := by simpa using c6))
     clear c6
     obtain rfl := Option.some.inj H
     go_enter Try.func61, Try.ntmps61
     go_wp2_with (first | ((with_reducible refine qaM (N := 2) rfl ?_); refine qaN ?hg (N := 2) ?hd (cs := #[.string a0_0, .string a0_1, .string a0_2, .bool a0_3, .bool a0_4]) (t := 56) ?hr ?_; (case hd => rfl); (case hg => rfl); (case hr => first | (go_simp; done) | (go_simp; rfl)); intro gb414 hg w7 hbox hb; have n0_ := Aside0.mk (qag (by repeat (first | (with_reducible first | exact HB.out | apply qac | apply qaa | apply qab) | exact HB.out)) hb); have n1_ := Aside0.mk (hbox); have n2_ := Aside0.mk ((by rw [hg]; exact (qak (by repeat (first | (with_reducible first | exact HB.out | apply qac | apply qaa | apply qab) | exact HB.out))) : w.heap.size ≤ gb414)); have n3_ := Aside0.mk ((by rw [hg]; exact (qak (by repeat (first | (with_reducible first | exact HB.out | apply qac | apply qaa | apply qab) | exact HB.out))) : w.heap.size ≤ gb414)); clear HB; have HB := n0_; have BK414 := n1_; have GW414 := n2_; have GE414 := n3_; clear n0_ n1_ n2_ n3_; clear hb hbox hg) | ((with_reducible refine qaM (N := 3) rfl ?_); refine qaN ?hg (N := 3) ?hd (cs := #[.string a1_0, .string a1_1, .string a1_2, .bool a1_3, .bool a1_4]) (t := 56) ?hr ?_; (case hd => rfl); (case hg => rfl); (case hr => first | (go_simp; done) | (go_simp; rfl)); intro gb415 hg w8 hbox hb; have n0_ := Aside0.mk (qao (g := gb414) (o := .cells #[.string a0_0, .string a0_1, .string a0_2, .bool a0_3, .bool a0_4] 56 (0, 0)) (by (with_reducible repeat (first | refine qaj ?_ _ | refine qal ?_ | refine qai ?_ _)); exact BK414.out) hb); have n1_ := Aside0.mk (qag (by repeat (first | (with_reducible first | exact HB.out | apply qac | apply qaa | apply qab | refine qah ?_ GE414.out) | exact HB.out)) hb); have n2_ := Aside0.mk (hbox); have n3_ := Aside0.mk ((by rw [hg]; exact (qak (by repeat (first | (with_reducible first | exact HB.out | apply qac | apply qaa | apply qab | refine qah ?_ GE414.out) | exact HB.out))) : w.heap.size ≤ gb415)); have n4_ := Aside0.mk ((by rw [hg]; exact (qak (by repeat (first | (with_reducible first | exact HB.out | apply qac | apply qaa | apply qab | refine qah ?_ GE414.out) | exact HB.out))) : w.heap.size ≤ gb415)); have n5_ := Aside0.mk ((by rw [hg]; exact Nat.ne_of_lt (qbm (g := gb414) (o := .cells #[.string a0_0, .string a0_1, .string a0_2, .bool a0_3, .bool a0_4] 56 (0, 0)) (by (with_reducible repeat (first | refine qaj ?_ _ | refine qal ?_ | refine qai ?_ _)); exact BK414.out)) : gb414 ≠ gb415)); have n6_ := Aside0.mk ((by rw [hg]; exact Nat.ne_of_gt (qbm (g := gb414) (o := .cells #[.string a0_0, .string a0_1, .string a0_2, .bool a0_3, .bool a0_4] 56 (0, 0)) (by (with_reducible repeat (first | refine qaj ?_ _ | refine qal ?_ | refine qai ?_ _)); exact BK414.out)) : gb415 ≠ gb414)); clear BK414 HB; have BK414 := n0_; have HB := n1_; have BK415 := n2_; have GW415 := n3_; have GE415 := n4_; have NB414_415 := n5_; have NB415_414 := n6_; clear n0_ n1_ n2_ n3_ n4_ n5_ n6_ hb hbox hg; have hnb9 := NB414_415.out; have hnc9 := NB415_414.out; have hcz10_0 : w8.cell? ⟨gb414, 0, none⟩ = some (.string a0_0) := (qad BK414.out 0).trans rfl; have hcz10_1 : w8.cell? ⟨gb414, 1, none⟩ = some (.string a0_1) := (qad BK414.out 1).trans rfl; have hcz10_2 : w8.cell? ⟨gb414, 2, none⟩ = some (.string a0_2) := (qad BK414.out 2).trans rfl; have hcz10_3 : w8.cell? ⟨gb414, 3, none⟩ = some (.bool a0_3) := (qad BK414.out 3).trans rfl; have hcz10_4 : w8.cell? ⟨gb414, 4, none⟩ = some (.bool a0_4) := (qad BK414.out 4).trans rfl; have hfz10_0 := qae BK414.out 0; have hfz10_1 := qae BK414.out 1; have hfz10_2 := qae BK414.out 2; have hfz10_3 := qae BK414.out 3; have hfz10_4 := qae BK414.out 4; have hcz11_0 : w8.cell? ⟨gb415, 0, none⟩ = some (.string a1_0) := (qad BK415.out 0).trans rfl; have hcz11_1 : w8.cell? ⟨gb415, 1, none⟩ = some (.string a1_1) := (qad BK415.out 1).trans rfl; have hcz11_2 : w8.cell? ⟨gb415, 2, none⟩ = some (.string a1_2) := (qad BK415.out 2).trans rfl; have hcz11_3 : w8.cell? ⟨gb415, 3, none⟩ = some (.bool a1_3) := (qad BK415.out 3).trans rfl; have hcz11_4 : w8.cell? ⟨gb415, 4, none⟩ = some (.bool a1_4) := (qad BK415.out 4).trans rfl; have hfz11_0 := qae BK415.out 0; have hfz11_1 := qae BK415.out 1; have hfz11_2 := qae BK415.out 2; have hfz11_3 := qae BK415.out 3; have hfz11_4 := qae BK415.out 4))
     go_ret
     exact ⟨by first | rfl | (simp [qam, qan] <;> rfl) | (simp [*, qam, qan] <;> rfl), by repeat (first | (with_reducible first | exact HB.out | apply qac | apply qaa | apply qab | refine qah ?_ GE414.out | refine qah ?_ GE415.out) | exact HB.out)⟩
    ·rw [if_neg c6] at H
     have c6b0 : (a0_3 != a1_3) = false := by simpa using c6
     (try (have c6b1 : decide (a0_3 = a1_3) = true := by simpa using c6))
     (try (have c6b2 : (a0_3 == a1_3) = true := by simpa using c6))
     clear c6
     by_cases c12 : (a0_4 != a1_4) = true
     ·rw [if_pos c12] at H
      have c12b0 : (a0_4 != a1_4) = true := c12
      (try (have c12b1 : decide (a0_4 = a1_4) = false := by simpa using c12))
      (try (have c12b2 : (a0_4 == a1_4) = false := by simpa using c12))
      (try (have c12b3 : ¬ (a0_4 = a1_4) := by simpa using c12))
      clear c12
      obtain rfl := Option.some.inj H
      go_enter Try.func61, Try.ntmps61
      go_wp2_with (first | ((with_reducible refine qaM (N := 2) rfl ?_); refine qaN ?hg (N := 2) ?hd (cs := #[.string a0_0, .string a0_1, .string a0_2, .bool a0_3, .bool a0_4]) (t := 56) ?hr ?_; (case hd => rfl); (case hg => rfl); (case hr => first | (go_simp; done) | (go_simp; rfl)); intro gb414 hg w13 hbox hb; have n0_ := Aside0.mk (qag (by repeat (first | (with_reducible first | exact HB.out | apply qac | apply qaa | apply qab) | exact HB.out)) hb); have n1_ := Aside0.mk (hbox); have n2_ := Aside0.mk ((by rw [hg]; exact (qak (by repeat (first | (with_reducible first | exact HB.out | apply qac | apply qaa | apply qab) | exact HB.out))) : w.heap.size ≤ gb414)); have n3_ := Aside0.mk ((by rw [hg]; exact (qak (by repeat (first | (with_reducible first | exact HB.out | apply qac | apply qaa | apply qab) | exact HB.out))) : w.heap.size ≤ gb414)); clear HB; have HB := n0_; have BK414 := n1_; have GW414 := n2_; have GE414 := n3_; clear n0_ n1_ n2_ n3_; clear hb hbox hg) | ((with_reducible refine qaM (N := 3) rfl ?_); refine qaN ?hg (N := 3) ?hd (cs := #[.string a1_0, .string a1_1, .string a1_2, .bool a1_3, .bool a1_4]) (t := 56) ?hr ?_; (case hd => rfl); (case hg => rfl); (case hr => first | (go_simp; done) | (go_simp; rfl)); intro gb415 hg w14 hbox hb; have n0_ := Aside0.mk (qao (g := gb414) (o := .cells #[.string a0_0, .string a0_1, .string a0_2, .bool a0_3, .bool a0_4] 56 (0, 0)) (by (with_reducible repeat (first | refine qaj ?_ _ | refine qal ?_ | refine qai ?_ _)); exact BK414.out) hb); have n1_ := Aside0.mk (qag (by repeat (first | (with_reducible first | exact HB.out | apply qac | apply qaa | apply qab | refine qah ?_ GE414.out) | exact HB.out)) hb); have n2_ := Aside0.mk (hbox); have n3_ := Aside0.mk ((by rw [hg]; exact (qak (by repeat (first | (with_reducible first | exact HB.out | apply qac | apply qaa | apply qab | refine qah ?_ GE414.out) | exact HB.out))) : w.heap.size ≤ gb415)); have n4_ := Aside0.mk ((by rw [hg]; exact (qak (by repeat (first | (with_reducible first | exact HB.out | apply qac | apply qaa | apply qab | refine qah ?_ GE414.out) | exact HB.out))) : w.heap.size ≤ gb415)); have n5_ := Aside0.mk ((by rw [hg]; exact Nat.ne_of_lt (qbm (g := gb414) (o := .cells #[.string a0_0, .string a0_1, .string a0_2, .bool a0_3, .bool a0_4] 56 (0, 0)) (by (with_reducible repeat (first | refine qaj ?_ _ | refine qal ?_ | refine qai ?_ _)); exact BK414.out)) : gb414 ≠ gb415)); have n6_ := Aside0.mk ((by rw [hg]; exact Nat.ne_of_gt (qbm (g := gb414) (o := .cells #[.string a0_0, .string a0_1, .string a0_2, .bool a0_3, .bool a0_4] 56 (0, 0)) (by (with_reducible repeat (first | refine qaj ?_ _ | refine qal ?_ | refine qai ?_ _)); exact BK414.out)) : gb415 ≠ gb414)); clear BK414 HB; have BK414 := n0_; have HB := n1_; have BK415 := n2_; have GW415 := n3_; have GE415 := n4_; have NB414_415 := n5_; have NB415_414 := n6_; clear n0_ n1_ n2_ n3_ n4_ n5_ n6_ hb hbox hg; have hnb15 := NB414_415.out; have hnc15 := NB415_414.out; have hcz16_0 : w14.cell? ⟨gb414, 0, none⟩ = some (.string a0_0) := (qad BK414.out 0).trans rfl; have hcz16_1 : w14.cell? ⟨gb414, 1, none⟩ = some (.string a0_1) := (qad BK414.out 1).trans rfl; have hcz16_2 : w14.cell? ⟨gb414, 2, none⟩ = some (.string a0_2) := (qad BK414.out 2).trans rfl; have hcz16_3 : w14.cell? ⟨gb414, 3, none⟩ = some (.bool a0_3) := (qad BK414.out 3).trans rfl; have hcz16_4 : w14.cell? ⟨gb414, 4, none⟩ = some (.bool a0_4) := (qad BK414.out 4).trans rfl; have hfz16_0 := qae BK414.out 0; have hfz16_1 := qae BK414.out 1; have hfz16_2 := qae BK414.out 2; have hfz16_3 := qae BK414.out 3; have hfz16_4 := qae BK414.out 4; have hcz17_0 : w14.cell? ⟨gb415, 0, none⟩ = some (.string a1_0) := (qad BK415.out 0).trans rfl; have hcz17_1 : w14.cell? ⟨gb415, 1, none⟩ = some (.string a1_1) := (qad BK415.out 1).trans rfl; have hcz17_2 : w14.cell? ⟨gb415, 2, none⟩ = some (.string a1_2) := (qad BK415.out 2).trans rfl; have hcz17_3 : w14.cell? ⟨gb415, 3, none⟩ = some (.bool a1_3) := (qad BK415.out 3).trans rfl; have hcz17_4 : w14.cell? ⟨gb415, 4, none⟩ = some (.bool a1_4) := (qad BK415.out 4).trans rfl; have hfz17_0 := qae BK415.out 0; have hfz17_1 := qae BK415.out 1; have hfz17_2 := qae BK415.out 2; have hfz17_3 := qae BK415.out 3; have hfz17_4 := qae BK415.out 4))
      go_ret
      exact ⟨by first | rfl | (simp [qam, qan] <;> rfl) | (simp [*, qam, qan] <;> rfl), by repeat (first | (with_reducible first | exact HB.out | apply qac | apply qaa | apply qab | refine qah ?_ GE414.out | refine qah ?_ GE415.out) | exact HB.out)⟩
     ·rw [if_neg c12] at H
      have c12b0 : (a0_4 != a1_4) = false := by simpa using c12
      (try (have c12b1 : decide (a0_4 = a1_4) = true := by simpa using c12))
      (try (have c12b2 : (a0_4 == a1_4) = true := by simpa using c12))
      clear c12
      obtain rfl := Option.some.inj H
      go_enter Try.func61, Try.ntmps61
      go_wp2_with (first | ((with_reducible refine qaM (N := 2) rfl ?_); refine qaN ?hg (N := 2) ?hd (cs := #[.string a0_0, .string a0_1, .string a0_2, .bool a0_3, .bool a0_4]) (t := 56) ?hr ?_; (case hd => rfl); (case hg => rfl); (case hr => first | (go_simp; done) | (go_simp; rfl)); intro gb414 hg w18 hbox hb; have n0_ := Aside0.mk (qag (by repeat (first | (with_reducible first | exact HB.out | apply qac | apply qaa | apply qab) | exact HB.out)) hb); have n1_ := Aside0.mk (hbox); have n2_ := Aside0.mk ((by rw [hg]; exact (qak (by repeat (first | (with_reducible first | exact HB.out | apply qac | apply qaa | apply qab) | exact HB.out))) : w.heap.size ≤ gb414)); have n3_ := Aside0.mk ((by rw [hg]; exact (qak (by repeat (first | (with_reducible first | exact HB.out | apply qac | apply qaa | apply qab) | exact HB.out))) : w.heap.size ≤ gb414)); clear HB; have HB := n0_; have BK414 := n1_; have GW414 := n2_; have GE414 := n3_; clear n0_ n1_ n2_ n3_; clear hb hbox hg) | ((with_reducible refine qaM (N := 3) rfl ?_); refine qaN ?hg (N := 3) ?hd (cs := #[.string a1_0, .string a1_1, .string a1_2, .bool a1_3, .bool a1_4]) (t := 56) ?hr ?_; (case hd => rfl); (case hg => rfl); (case hr => first | (go_simp; done) | (go_simp; rfl)); intro gb415 hg w19 hbox hb; have n0_ := Aside0.mk (qao (g := gb414) (o := .cells #[.string a0_0, .string a0_1, .string a0_2, .bool a0_3, .bool a0_4] 56 (0, 0)) (by (with_reducible repeat (first | refine qaj ?_ _ | refine qal ?_ | refine qai ?_ _)); exact BK414.out) hb); have n1_ := Aside0.mk (qag (by repeat (first | (with_reducible first | exact HB.out | apply qac | apply qaa | apply qab | refine qah ?_ GE414.out) | exact HB.out)) hb); have n2_ := Aside0.mk (hbox); have n3_ := Aside0.mk ((by rw [hg]; exact (qak (by repeat (first | (with_reducible first | exact HB.out | apply qac | apply qaa | apply qab | refine qah ?_ GE414.out) | exact HB.out))) : w.heap.size ≤ gb415)); have n4_ := Aside0.mk ((by rw [hg]; exact (qak (by repeat (first | (with_reducible first | exact HB.out | apply qac | apply qaa | apply qab | refine qah ?_ GE414.out) | exact HB.out))) : w.heap.size ≤ gb415)); have n5_ := Aside0.mk ((by rw [hg]; exact Nat.ne_of_lt (qbm (g := gb414) (o := .cells #[.string a0_0, .string a0_1, .string a0_2, .bool a0_3, .bool a0_4] 56 (0, 0)) (by (with_reducible repeat (first | refine qaj ?_ _ | refine qal ?_ | refine qai ?_ _)); exact BK414.out)) : gb414 ≠ gb415)); have n6_ := Aside0.mk ((by rw [hg]; exact Nat.ne_of_gt (qbm (g := gb414) (o := .cells #[.string a0_0, .string a0_1, .string a0_2, .bool a0_3, .bool a0_4] 56 (0, 0)) (by (with_reducible repeat (first | refine qaj ?_ _ | refine qal ?_ | refine qai ?_ _)); exact BK414.out)) : gb415 ≠ gb414)); clear BK414 HB; have BK414 := n0_; have HB := n1_; have BK415 := n2_; have GW415 := n3_; have GE415 := n4_; have NB414_415 := n5_; have NB415_414 := n6_; clear n0_ n1_ n2_ n3_ n4_ n5_ n6_ hb hbox hg; have hnb20 := NB414_415.out; have hnc20 := NB415_414.out; have hcz21_0 : w19.cell? ⟨gb414, 0, none⟩ = some (.string a0_0) := (qad BK414.out 0).trans rfl; have hcz21_1 : w19.cell? ⟨gb414, 1, none⟩ = some (.string a0_1) := (qad BK414.out 1).trans rfl; have hcz21_2 : w19.cell? ⟨gb414, 2, none⟩ = some (.string a0_2) := (qad BK414.out 2).trans rfl; have hcz21_3 : w19.cell? ⟨gb414, 3, none⟩ = some (.bool a0_3) := (qad BK414.out 3).trans rfl; have hcz21_4 : w19.cell? ⟨gb414, 4, none⟩ = some (.bool a0_4) := (qad BK414.out 4).trans rfl; have hfz21_0 := qae BK414.out 0; have hfz21_1 := qae BK414.out 1; have hfz21_2 := qae BK414.out 2; have hfz21_3 := qae BK414.out 3; have hfz21_4 := qae BK414.out 4; have hcz22_0 : w19.cell? ⟨gb415, 0, none⟩ = some (.string a1_0) := (qad BK415.out 0).trans rfl; have hcz22_1 : w19.cell? ⟨gb415, 1, none⟩ = some (.string a1_1) := (qad BK415.out 1).trans rfl; have hcz22_2 : w19.cell? ⟨gb415, 2, none⟩ = some (.string a1_2) := (qad BK415.out 2).trans rfl; have hcz22_3 : w19.cell? ⟨gb415, 3, none⟩ = some (.bool a1_3) := (qad BK415.out 3).trans rfl; have hcz22_4 : w19.cell? ⟨gb415, 4, none⟩ = some (.bool a1_4) := (qad BK415.out 4).trans rfl; have hfz22_0 := qae BK415.out 0; have hfz22_1 := qae BK415.out 1; have hfz22_2 := qae BK415.out 2; have hfz22_3 := qae BK415.out 3; have hfz22_4 := qae BK415.out 4))
      go_ret
      exact ⟨by first | rfl | (simp [qam, qan] <;> rfl) | (simp [*, qam, qan] <;> rfl), by repeat (first | (with_reducible first | exact HB.out | apply qac | apply qaa | apply qab | refine qah ?_ GE414.out | refine qah ?_ GE415.out) | exact HB.out)⟩
   ·rw [if_neg c5] at H
    have c5b0 : (a0_2.toList == a1_2.toList) = false := beq_eq_false_iff_ne.mpr c5
    have c5b1 : (a0_2.toList != a1_2.toList) = true := bne_iff_ne.mpr c5
    obtain rfl := Option.some.inj H
    go_enter Try.func61, Try.ntmps61
    go_wp2_with (first | ((with_reducible refine qaM (N := 2) rfl ?_); refine qaN ?hg (N := 2) ?hd (cs := #[.string a0_0, .string a0_1, .string a0_2, .bool a0_3, .bool a0_4]) (t := 56) ?hr ?_; (case hd => rfl); (case hg => rfl); (case hr => first | (go_simp; done) | (go_simp; rfl)); intro gb414 hg w23 hbox hb; have n0_ := Aside0.mk (qag (by repeat (first | (with_reducible first | exact HB.out | apply qac | apply qaa | apply qab) | exact HB.out)) hb); have n1_ := Aside0.mk (hbox); have n2_ := Aside0.mk ((by rw [hg]; exact (qak (by repeat (first | (with_reducible first | exact HB.out | apply qac | apply qaa | apply qab) | exact HB.out))) : w.heap.size ≤ gb414)); have n3_ := Aside0.mk ((by rw [hg]; exact (qak (by repeat (first | (with_reducible first | exact HB.out | apply qac | apply qaa | apply qab) | exact HB.out))) : w.heap.size ≤ gb414)); clear HB; have HB := n0_; have BK414 := n1_; have GW414 := n2_; have GE414 := n3_; clear n0_ n1_ n2_ n3_; clear hb hbox hg) | ((with_reducible refine qaM (N := 3) rfl ?_); refine qaN ?hg (N := 3) ?hd (cs := #[.string a1_0, .string a1_1, .string a1_2, .bool a1_3, .bool a1_4]) (t := 56) ?hr ?_; (case hd => rfl); (case hg => rfl); (case hr => first | (go_simp; done) | (go_simp; rfl)); intro gb415 hg w24 hbox hb; have n0_ := Aside0.mk (qao (g := gb414) (o := .cells #[.string a0_0, .string a0_1, .string a0_2, .bool a0_3, .bool a0_4] 56 (0, 0)) (by (with_reducible repeat (first | refine qaj ?_ _ | refine qal ?_ | refine qai ?_ _)); exact BK414.out) hb); have n1_ := Aside0.mk (qag (by repeat (first | (with_reducible first | exact HB.out | apply qac | apply qaa | apply qab | refine qah ?_ GE414.out) | exact HB.out)) hb); have n2_ := Aside0.mk (hbox); have n3_ := Aside0.mk ((by rw [hg]; exact (qak (by repeat (first | (with_reducible first | exact HB.out | apply qac | apply qaa | apply qab | refine qah ?_ GE414.out) | exact HB.out))) : w.heap.size ≤ gb415)); have n4_ := Aside0.mk ((by rw [hg]; exact (qak (by repeat (first | (with_reducible first | exact HB.out | apply qac | apply qaa | apply qab | refine qah ?_ GE414.out) | exact HB.out))) : w.heap.size ≤ gb415)); have n5_ := Aside0.mk ((by rw [hg]; exact Nat.ne_of_lt (qbm (g := gb414) (o := .cells #[.string a0_0, .string a0_1, .string a0_2, .bool a0_3, .bool a0_4] 56 (0, 0)) (by (with_reducible repeat (first | refine qaj ?_ _ | refine qal ?_ | refine qai ?_ _)); exact BK414.out)) : gb414 ≠ gb415)); have n6_ := Aside0.mk ((by rw [hg]; exact Nat.ne_of_gt (qbm (g := gb414) (o := .cells #[.string a0_0, .string a0_1, .string a0_2, .bool a0_3, .bool a0_4] 56 (0, 0)) (by (with_reducible repeat (first | refine qaj ?_ _ | refine qal ?_ | refine qai ?_ _)); exact BK414.out)) : gb415 ≠ gb414)); clear BK414 HB; have BK414 := n0_; have HB := n1_; have BK415 := n2_; have GW415 := n3_; have GE415 := n4_; have NB414_415 := n5_; have NB415_414 := n6_; clear n0_ n1_ n2_ n3_ n4_ n5_ n6_ hb hbox hg; have hnb25 := NB414_415.out; have hnc25 := NB415_414.out; have hcz26_0 : w24.cell? ⟨gb414, 0, none⟩ = some (.string a0_0) := (qad BK414.out 0).trans rfl; have hcz26_1 : w24.cell? ⟨gb414, 1, none⟩ = some (.string a0_1) := (qad BK414.out 1).trans rfl; have hcz26_2 : w24.cell? ⟨gb414, 2, none⟩ = some (.string a0_2) := (qad BK414.out 2).trans rfl; have hcz26_3 : w24.cell? ⟨gb414, 3, none⟩ = some (.bool a0_3) := (qad BK414.out 3).trans rfl; have hcz26_4 : w24.cell? ⟨gb414, 4, none⟩ = some (.bool a0_4) := (qad BK414.out 4).trans rfl; have hfz26_0 := qae BK414.out 0; have hfz26_1 := qae BK414.out 1; have hfz26_2 := qae BK414.out 2; have hfz26_3 := qae BK414.out 3; have hfz26_4 := qae BK414.out 4; have hcz27_0 : w24.cell? ⟨gb415, 0, none⟩ = some (.string a1_0) := (qad BK415.out 0).trans rfl; have hcz27_1 : w24.cell? ⟨gb415, 1, none⟩ = some (.string a1_1) := (qad BK415.out 1).trans rfl; have hcz27_2 : w24.cell? ⟨gb415, 2, none⟩ = some (.string a1_2) := (qad BK415.out 2).trans rfl; have hcz27_3 : w24.cell? ⟨gb415, 3, none⟩ = some (.bool a1_3) := (qad BK415.out 3).trans rfl; have hcz27_4 : w24.cell? ⟨gb415, 4, none⟩ = some (.bool a1_4) := (qad BK415.out 4).trans rfl; have hfz27_0 := qae BK415.out 0; have hfz27_1 := qae BK415.out 1; have hfz27_2 := qae BK415.out 2; have hfz27_3 := qae BK415.out 3; have hfz27_4 := qae BK415.out 4))
    go_ret
    exact ⟨by first | rfl | (simp [qam, qan] <;> rfl) | (simp [*, qam, qan] <;> rfl), by repeat (first | (with_reducible first | exact HB.out | apply qac | apply qaa | apply qab | refine qah ?_ GE414.out | refine qah ?_ GE415.out) | exact HB.out)⟩
  ·rw [if_neg c4] at H
   have c4b0 : (a0_1.toList == a1_1.toList) = false := beq_eq_false_iff_ne.mpr c4
   have c4b1 : (a0_1.toList != a1_1.toList) = true := bne_iff_ne.mpr c4
   obtain rfl := Option.some.inj H
   go_enter Try.func61, Try.ntmps61
   go_wp2_with (first | ((with_reducible refine qaM (N := 2) rfl ?_); refine qaN ?hg (N := 2) ?hd (cs := #[.string a0_0, .string a0_1, .string a0_2, .bool a0_3, .bool a0_4]) (t := 56) ?hr ?_; (case hd => rfl); (case hg => rfl); (case hr => first | (go_simp; done) | (go_simp; rfl)); intro gb414 hg w28 hbox hb; have n0_ := Aside0.mk (qag (by repeat (first | (with_reducible first | exact HB.out | apply qac | apply qaa | apply qab) | exact HB.out)) hb); have n1_ := Aside0.mk (hbox); have n2_ := Aside0.mk ((by rw [hg]; exact (qak (by repeat (first | (with_reducible first | exact HB.out | apply qac | apply qaa | apply qab) | exact HB.out))) : w.heap.size ≤ gb414)); have n3_ := Aside0.mk ((by rw [hg]; exact (qak (by repeat (first | (with_reducible first | exact HB.out | apply qac | apply qaa | apply qab) | exact HB.out))) : w.heap.size ≤ gb414)); clear HB; have HB := n0_; have BK414 := n1_; have GW414 := n2_; have GE414 := n3_; clear n0_ n1_ n2_ n3_; clear hb hbox hg) | ((with_reducible refine qaM (N := 3) rfl ?_); refine qaN ?hg (N := 3) ?hd (cs := #[.string a1_0, .string a1_1, .string a1_2, .bool a1_3, .bool a1_4]) (t := 56) ?hr ?_; (case hd => rfl); (case hg => rfl); (case hr => first | (go_simp; done) | (go_simp; rfl)); intro gb415 hg w29 hbox hb; have n0_ := Aside0.mk (qao (g := gb414) (o := .cells #[.string a0_0, .string a0_1, .string a0_2, .bool a0_3, .bool a0_4] 56 (0, 0)) (by (with_reducible repeat (first | refine qaj ?_ _ | refine qal ?_ | refine qai ?_ _)); exact BK414.out) hb); have n1_ := Aside0.mk (qag (by repeat (first | (with_reducible first | exact HB.out | apply qac | apply qaa | apply qab | refine qah ?_ GE414.out) | exact HB.out)) hb); have n2_ := Aside0.mk (hbox); have n3_ := Aside0.mk ((by rw [hg]; exact (qak (by repeat (first | (with_reducible first | exact HB.out | apply qac | apply qaa | apply qab | refine qah ?_ GE414.out) | exact HB.out))) : w.heap.size ≤ gb415)); have n4_ := Aside0.mk ((by rw [hg]; exact (qak (by repeat (first | (with_reducible first | exact HB.out | apply qac | apply qaa | apply qab | refine qah ?_ GE414.out) | exact HB.out))) : w.heap.size ≤ gb415)); have n5_ := Aside0.mk ((by rw [hg]; exact Nat.ne_of_lt (qbm (g := gb414) (o := .cells #[.string a0_0, .string a0_1, .string a0_2, .bool a0_3, .bool a0_4] 56 (0, 0)) (by (with_reducible repeat (first | refine qaj ?_ _ | refine qal ?_ | refine qai ?_ _)); exact BK414.out)) : gb414 ≠ gb415)); have n6_ := Aside0.mk ((by rw [hg]; exact Nat.ne_of_gt (qbm (g := gb414) (o := .cells #[.string a0_0, .string a0_1, .string a0_2, .bool a0_3, .bool a0_4] 56 (0, 0)) (by (with_reducible repeat (first | refine qaj ?_ _ | refine qal ?_ | refine qai ?_ _)); exact BK414.out)) : gb415 ≠ gb414)); clear BK414 HB; have BK414 := n0_; have HB := n1_; have BK415 := n2_; have GW415 := n3_; have GE415 := n4_; have NB414_415 := n5_; have NB415_414 := n6_; clear n0_ n1_ n2_ n3_ n4_ n5_ n6_ hb hbox hg; have hnb30 := NB414_415.out; have hnc30 := NB415_414.out; have hcz31_0 : w29.cell? ⟨gb414, 0, none⟩ = some (.string a0_0) := (qad BK414.out 0).trans rfl; have hcz31_1 : w29.cell? ⟨gb414, 1, none⟩ = some (.string a0_1) := (qad BK414.out 1).trans rfl; have hcz31_2 : w29.cell? ⟨gb414, 2, none⟩ = some (.string a0_2) := (qad BK414.out 2).trans rfl; have hcz31_3 : w29.cell? ⟨gb414, 3, none⟩ = some (.bool a0_3) := (qad BK414.out 3).trans rfl; have hcz31_4 : w29.cell? ⟨gb414, 4, none⟩ = some (.bool a0_4) := (qad BK414.out 4).trans rfl; have hfz31_0 := qae BK414.out 0; have hfz31_1 := qae BK414.out 1; have hfz31_2 := qae BK414.out 2; have hfz31_3 := qae BK414.out 3; have hfz31_4 := qae BK414.out 4; have hcz32_0 : w29.cell? ⟨gb415, 0, none⟩ = some (.string a1_0) := (qad BK415.out 0).trans rfl; have hcz32_1 : w29.cell? ⟨gb415, 1, none⟩ = some (.string a1_1) := (qad BK415.out 1).trans rfl; have hcz32_2 : w29.cell? ⟨gb415, 2, none⟩ = some (.string a1_2) := (qad BK415.out 2).trans rfl; have hcz32_3 : w29.cell? ⟨gb415, 3, none⟩ = some (.bool a1_3) := (qad BK415.out 3).trans rfl; have hcz32_4 : w29.cell? ⟨gb415, 4, none⟩ = some (.bool a1_4) := (qad BK415.out 4).trans rfl; have hfz32_0 := qae BK415.out 0; have hfz32_1 := qae BK415.out 1; have hfz32_2 := qae BK415.out 2; have hfz32_3 := qae BK415.out 3; have hfz32_4 := qae BK415.out 4))
   go_ret
   exact ⟨by first | rfl | (simp [qam, qan] <;> rfl) | (simp [*, qam, qan] <;> rfl), by repeat (first | (with_reducible first | exact HB.out | apply qac | apply qaa | apply qab | refine qah ?_ GE414.out | refine qah ?_ GE415.out) | exact HB.out)⟩
 ·rw [if_neg c3] at H
  have c3b0 : (a0_0.toList == a1_0.toList) = false := beq_eq_false_iff_ne.mpr c3
  have c3b1 : (a0_0.toList != a1_0.toList) = true := bne_iff_ne.mpr c3
  obtain rfl := Option.some.inj H
  go_enter Try.func61, Try.ntmps61
  go_wp2_with (first | ((with_reducible refine qaM (N := 2) rfl ?_); refine qaN ?hg (N := 2) ?hd (cs := #[.string a0_0, .string a0_1, .string a0_2, .bool a0_3, .bool a0_4]) (t := 56) ?hr ?_; (case hd => rfl); (case hg => rfl); (case hr => first | (go_simp; done) | (go_simp; rfl)); intro gb414 hg w33 hbox hb; have n0_ := Aside0.mk (qag (by repeat (first | (with_reducible first | exact HB.out | apply qac | apply qaa | apply qab) | exact HB.out)) hb); have n1_ := Aside0.mk (hbox); have n2_ := Aside0.mk ((by rw [hg]; exact (qak (by repeat (first | (with_reducible first | exact HB.out | apply qac | apply qaa | apply qab) | exact HB.out))) : w.heap.size ≤ gb414)); have n3_ := Aside0.mk ((by rw [hg]; exact (qak (by repeat (first | (with_reducible first | exact HB.out | apply qac | apply qaa | apply qab) | exact HB.out))) : w.heap.size ≤ gb414)); clear HB; have HB := n0_; have BK414 := n1_; have GW414 := n2_; have GE414 := n3_; clear n0_ n1_ n2_ n3_; clear hb hbox hg) | ((with_reducible refine qaM (N := 3) rfl ?_); refine qaN ?hg (N := 3) ?hd (cs := #[.string a1_0, .string a1_1, .string a1_2, .bool a1_3, .bool a1_4]) (t := 56) ?hr ?_; (case hd => rfl); (case hg => rfl); (case hr => first | (go_simp; done) | (go_simp; rfl)); intro gb415 hg w34 hbox hb; have n0_ := Aside0.mk (qao (g := gb414) (o := .cells #[.string a0_0, .string a0_1, .string a0_2, .bool a0_3, .bool a0_4] 56 (0, 0)) (by (with_reducible repeat (first | refine qaj ?_ _ | refine qal ?_ | refine qai ?_ _)); exact BK414.out) hb); have n1_ := Aside0.mk (qag (by repeat (first | (with_reducible first | exact HB.out | apply qac | apply qaa | apply qab | refine qah ?_ GE414.out) | exact HB.out)) hb); have n2_ := Aside0.mk (hbox); have n3_ := Aside0.mk ((by rw [hg]; exact (qak (by repeat (first | (with_reducible first | exact HB.out | apply qac | apply qaa | apply qab | refine qah ?_ GE414.out) | exact HB.out))) : w.heap.size ≤ gb415)); have n4_ := Aside0.mk ((by rw [hg]; exact (qak (by repeat (first | (with_reducible first | exact HB.out | apply qac | apply qaa | apply qab | refine qah ?_ GE414.out) | exact HB.out))) : w.heap.size ≤ gb415)); have n5_ := Aside0.mk ((by rw [hg]; exact Nat.ne_of_lt (qbm (g := gb414) (o := .cells #[.string a0_0, .string a0_1, .string a0_2, .bool a0_3, .bool a0_4] 56 (0, 0)) (by (with_reducible repeat (first | refine qaj ?_ _ | refine qal ?_ | refine qai ?_ _)); exact BK414.out)) : gb414 ≠ gb415)); have n6_ := Aside0.mk ((by rw [hg]; exact Nat.ne_of_gt (qbm (g := gb414) (o := .cells #[.string a0_0, .string a0_1, .string a0_2, .bool a0_3, .bool a0_4] 56 (0, 0)) (by (with_reducible repeat (first | refine qaj ?_ _ | refine qal ?_ | refine qai ?_ _)); exact BK414.out)) : gb415 ≠ gb414)); clear BK414 HB; have BK414 := n0_; have HB := n1_; have BK415 := n2_; have GW415 := n3_; have GE415 := n4_; have NB414_415 := n5_; have NB415_414 := n6_; clear n0_ n1_ n2_ n3_ n4_ n5_ n6_ hb hbox hg; have hnb35 := NB414_415.out; have hnc35 := NB415_414.out; have hcz36_0 : w34.cell? ⟨gb414, 0, none⟩ = some (.string a0_0) := (qad BK414.out 0).trans rfl; have hcz36_1 : w34.cell? ⟨gb414, 1, none⟩ = some (.string a0_1) := (qad BK414.out 1).trans rfl; have hcz36_2 : w34.cell? ⟨gb414, 2, none⟩ = some (.string a0_2) := (qad BK414.out 2).trans rfl; have hcz36_3 : w34.cell? ⟨gb414, 3, none⟩ = some (.bool a0_3) := (qad BK414.out 3).trans rfl; have hcz36_4 : w34.cell? ⟨gb414, 4, none⟩ = some (.bool a0_4) := (qad BK414.out 4).trans rfl; have hfz36_0 := qae BK414.out 0; have hfz36_1 := qae BK414.out 1; have hfz36_2 := qae BK414.out 2; have hfz36_3 := qae BK414.out 3; have hfz36_4 := qae BK414.out 4; have hcz37_0 : w34.cell? ⟨gb415, 0, none⟩ = some (.string a1_0) := (qad BK415.out 0).trans rfl; have hcz37_1 : w34.cell? ⟨gb415, 1, none⟩ = some (.string a1_1) := (qad BK415.out 1).trans rfl; have hcz37_2 : w34.cell? ⟨gb415, 2, none⟩ = some (.string a1_2) := (qad BK415.out 2).trans rfl; have hcz37_3 : w34.cell? ⟨gb415, 3, none⟩ = some (.bool a1_3) := (qad BK415.out 3).trans rfl; have hcz37_4 : w34.cell? ⟨gb415, 4, none⟩ = some (.bool a1_4) := (qad BK415.out 4).trans rfl; have hfz37_0 := qae BK415.out 0; have hfz37_1 := qae BK415.out 1; have hfz37_2 := qae BK415.out 2; have hfz37_3 := qae BK415.out 3; have hfz37_4 := qae BK415.out 4))
  go_ret
  exact ⟨by first | rfl | (simp [qam, qan] <;> rfl) | (simp [*, qam, qan] <;> rfl), by repeat (first | (with_reducible first | exact HB.out | apply qac | apply qaa | apply qab | refine qah ?_ GE414.out | refine qah ?_ GE415.out) | exact HB.out)⟩
def len56 (x : S56) : Prop := True ∧ True ∧ True ∧ True ∧ True
theorem eq_Diff (x : S56) (h : len56 x) : Ev (fun k => qcw.f (x.f0) (x.f1) (x.f2) (x.f3) (x.f4) (x.f0) (x.f1) (x.f2) (x.f3) (x.f4)) true := by
 unfold qcw.f
 exact Ev.pos rfl (Ev.pos rfl (Ev.pos rfl (Ev.neg (by simp) (Ev.neg (by simp) (Ev.is rfl)))))
def qaQ.l0 : Nat → List (S56) → List (S56) → Int → Option (Bool)
 | 0, _, _, _ => none
 | k + 1, x0, x1, x5 => if x5 < (x0.length : Int) then (if 0 ≤ x5 then (if x5 < (x1.length : Int) then ((qcw.f ((qaf x0 x5).f0) ((qaf x0 x5).f1) ((qaf x0 x5).f2) ((qaf x0 x5).f3) ((qaf x0 x5).f4) ((qaf x1 x5).f0) ((qaf x1 x5).f1) ((qaf x1 x5).f2) ((qaf x1 x5).f3) ((qaf x1 x5).f4)).bind fun t418 => (if t418 = true then (qaQ.l0 k x0 x1 (wrap64 (x5 + 1))) else (some false))) else (none)) else (none)) else (some true)
def qaQ.f (k : Nat) (l0 : List (S56)) (l1 : List (S56)) : Option (Bool) := if (l0.length : Int) = (l1.length : Int) then (qaQ.l0 k l0 l1 0) else (some false)
theorem qaQ.qbA : ∀ k, (∀ y0 y1 y2, LeO (qaQ.l0 k y0 y1 y2) (qaQ.l0 (k + 1) y0 y1 y2))
 | 0 => fun _ _ _ r h => by simp [qaQ.l0] at h
 | k + 1 => by
  have ih0 := qaQ.qbA k
  ·intro y0 y1 y2
   unfold qaQ.l0
   repeat' first
   | (with_reducible exact ih0 _ _ _)
   | (with_reducible exact LeO.refl _)
   | (with_reducible exact LeO.none _)
   | (with_reducible refine LeO.ite ?_ ?_)
   | (with_reducible refine LeO.bind ?_ (fun _ => ?_))
   | exact ih0 _ _ _
   | exact LeO.none _
   | refine LeO.ite ?_ ?_
   | refine LeO.bind ?_ (fun _ => ?_)
theorem qaQ.mono : ∀ a0 a1 k, LeO (qaQ.f k a0 a1) (qaQ.f (k + 1) a0 a1) := by
 intro a0 a1 k
 have ih0 := qaQ.qbA k
 unfold qaQ.f
 repeat' first
   | (with_reducible exact ih0 _ _ _)
   | (with_reducible exact LeO.refl _)
   | (with_reducible exact LeO.none _)
   | (with_reducible refine LeO.ite ?_ ?_)
   | (with_reducible refine LeO.bind ?_ (fun _ => ?_))
   | exact ih0 _ _ _
   | exact LeO.none _
   | refine LeO.ite ?_ ?_
   | refine LeO.bind ?_ (fun _ => ?_)
def qaQ.T6 : Bool × List (List Nat × List Nat) := (true, [([], []), ([], []), ([0, 1], [0, 1]), ([2], [2]), ([], []), ([], []), ([4, 5], [4, 5]), ([6], [6]), ([3, 7], [3, 7]), ([8], [8])])
def qaQ.B6 : List Nat := [0, 0, 3, 7, 0, 0, 48, 112, 255, 511]
theorem qaQ.tab6 : rtab .any (opsOf Try.f42 6) = qaQ.T6 := by kernel_rfl
theorem qaQ.bits6 : qcs qaQ.T6.2 qaQ.B6 = true := by kernel_rfl
set_option maxHeartbeats 8000000 in
set_option maxRecDepth 100000 in
theorem qaQ.calls (k : Nat) (A0 : Option Addr) (c0 : Nat) (l0 : List (S56)) (A1 : Option Addr) (c1 : Nat) (l1 : List (S56)) (r : Bool) (w : World) (hr0 : Kd.C k56 w A0 l0.length l0) (hc0 : l0.length ≤ c0) (hr1 : Kd.C k56 w A1 l1.length l1) (hc1 : l1.length ≤ c1) (h : qaQ.f k l0 l1 = some r) :
  Calls Try.prog 42 #[.slice A0 l0.length c0, .slice A1 l1.length c1] w fun e w' => e = .returned (.bool r) ∧ Below w.heap.size w w' := by
 have hu56 := Try.underlying56
 have HR0 := Aside0.mk hr0
 have HC0 := Aside0.mk hc0
 clear hr0 hc0
 have HR1 := Aside0.mk hr1
 have HC1 := Aside0.mk hc1
 clear hr1 hc1
 have HB := Aside0.mk (Below.refl w.heap.size w)
 have H : (if (l0.length : Int) = (l1.length : Int) then (qaQ.l0 k l0 l1 0) else (some false)) = some r := h
 clear h
 by_cases c3 : (l0.length : Int) = (l1.length : Int)
 ·rw [if_pos c3] at H
  have c3b0 : ((l0.length : Int) == (l1.length : Int)) = true := beq_iff_eq.mpr c3
  have c3b1 : ((l0.length : Int) != (l1.length : Int)) = false := bne_eq_false_iff_eq.mpr c3
  have c3b2 : (l0.length == l1.length) = true := by first | simpa using c3 | (simp at c3 ⊢; omega)
  clear c3
  have H' := Aside0.mk H
  clear H
  go_enter Try.func42, Try.ntmps42
  go_wp2
  go_loopg [5] k (fun kq v5 w' => ∃ (x5_1 : Int), v5 = .int .i64 x5_1 ∧ Aside0 (qaQ.l0 kq l0 l1 x5_1 = some r) ∧ Aside0 (kq ≤ k) ∧ Aside0 (Below w.heap.size w w'))
  case atStart => exact ⟨(0), (by first | rfl | (simp; done) | (simp [*]; done)), H', ⟨Nat.le_refl _⟩, ⟨by repeat (first | (with_reducible first | exact HB.out | apply qac | apply qaa | apply qab) | exact HB.out)⟩⟩
  case round =>
   clear H'
   try clear c1
   try clear p2
   try clear c3
   try clear c3b0
   try clear c3b1
   try clear c3b2
   obtain ⟨x5_1, rfl, HA, HK1, HB⟩ := hrel
   cases gk with
   | zero => exact absurd HA.out (by simp [qaQ.l0])
   | succ k1 =>
    have H := HA.out
    clear HA
    simp only [qaQ.l0] at H
    by_cases c4 : x5_1 < (l0.length : Int)
    ·rw [if_pos c4] at H
     have c4b0 : decide (x5_1 < (l0.length : Int)) = true := decide_eq_true c4
     clear c4
     by_cases c5 : 0 ≤ x5_1
     ·rw [if_pos c5] at H
      have c5b0 : decide (0 ≤ x5_1) = true := decide_eq_true c5
      clear c5
      by_cases c6 : x5_1 < (l1.length : Int)
      ·rw [if_pos c6] at H
       have c6b0 : decide (x5_1 < (l1.length : Int)) = true := decide_eq_true c6
       clear c6
       replace H := Option.bind_eq_some_iff.mp H
       obtain ⟨t418, A70, H⟩ := H
       try dsimp only at H
       have A7 := Aside0.mk A70
       clear A70
       by_cases c8 : t418 = true
       ·subst c8
        have H1 : (qaQ.l0 k1 l0 l1 (wrap64 (x5_1 + 1))) = some r := by rw [if_pos rfl] at H; exact H
        clear H
        have H := H1
        clear H1
        have H' := Aside0.mk H
        clear H
        try go_wp2
        have n0_ := Aside0.mk (qab HB.out)
        clear HB
        have HB := n0_
        clear n0_
        have p416 : 0 ≤ (x5_1 : Int) := of_decide_eq_true (by first | (with_reducible assumption) | assumption)
        have q416 : x5_1 < (l0.length : Int) := of_decide_eq_true (by first | (with_reducible assumption) | assumption)
        obtain ⟨ad416, e416, hx416_0, hx416_1, hx416_2, hx416_3, hx416_4⟩ := qdd HR0.out x5_1 p416 q416
        have hw416_4 := hx416_4
        have hw416_3 := hx416_3
        have hw416_2 := hx416_2
        have hw416_1 := hx416_1
        have hw416_0 := hx416_0
        cases e416
        replace hx416_0 := (HB.out.cell (World.block_lt_of_cell? w _ hx416_0)).trans hx416_0
        replace hx416_1 := (HB.out.cell (World.block_lt_of_cell? w _ hx416_1)).trans hx416_1
        replace hx416_2 := (HB.out.cell (World.block_lt_of_cell? w _ hx416_2)).trans hx416_2
        replace hx416_3 := (HB.out.cell (World.block_lt_of_cell? w _ hx416_3)).trans hx416_3
        replace hx416_4 := (HB.out.cell (World.block_lt_of_cell? w _ hx416_4)).trans hx416_4
        replace p416 := eq_true p416
        replace q416 := eq_true q416
        have p417 : 0 ≤ (x5_1 : Int) := of_decide_eq_true (by first | (with_reducible assumption) | assumption)
        have q417 : x5_1 < (l1.length : Int) := of_decide_eq_true (by first | (with_reducible assumption) | assumption)
        obtain ⟨ad417, e417, hx417_0, hx417_1, hx417_2, hx417_3, hx417_4⟩ := qdd HR1.out x5_1 p417 q417
        have hw417_4 := hx417_4
        have hw417_3 := hx417_3
        have hw417_2 := hx417_2
        have hw417_1 := hx417_1
        have hw417_0 := hx417_0
        cases e417
        replace hx417_0 := (HB.out.cell (World.block_lt_of_cell? w _ hx417_0)).trans hx417_0
        replace hx417_1 := (HB.out.cell (World.block_lt_of_cell? w _ hx417_1)).trans hx417_1
        replace hx417_2 := (HB.out.cell (World.block_lt_of_cell? w _ hx417_2)).trans hx417_2
        replace hx417_3 := (HB.out.cell (World.block_lt_of_cell? w _ hx417_3)).trans hx417_3
        replace hx417_4 := (HB.out.cell (World.block_lt_of_cell? w _ hx417_4)).trans hx417_4
        replace p417 := eq_true p417
        replace q417 := eq_true q417
        refine qbq (by kernel_rfl) (by kernel_rfl) ?_
        have hL0_ := Aside0.mk (show wr.drew.cell? (ad416.add ((x5_1).toNat * 5)) = some (.string ((qaf l0 x5_1).f0)) from ((HB.out.cell (World.block_lt_of_cell? w _ hw416_0)).trans hw416_0))
        have hL1_ := Aside0.mk (show wr.drew.cell? ⟨(ad416.add ((x5_1).toNat * 5)).block, (ad416.add ((x5_1).toNat * 5)).off + 1, none⟩ = some (.string ((qaf l0 x5_1).f1)) from ((HB.out.cell (World.block_lt_of_cell? w _ hw416_1)).trans hw416_1))
        have hL2_ := Aside0.mk (show wr.drew.cell? ⟨(ad416.add ((x5_1).toNat * 5)).block, (ad416.add ((x5_1).toNat * 5)).off + 2, none⟩ = some (.string ((qaf l0 x5_1).f2)) from ((HB.out.cell (World.block_lt_of_cell? w _ hw416_2)).trans hw416_2))
        have hL3_ := Aside0.mk (show wr.drew.cell? ⟨(ad416.add ((x5_1).toNat * 5)).block, (ad416.add ((x5_1).toNat * 5)).off + 3, none⟩ = some (.bool ((qaf l0 x5_1).f3)) from ((HB.out.cell (World.block_lt_of_cell? w _ hw416_3)).trans hw416_3))
        have hL4_ := Aside0.mk (show wr.drew.cell? ⟨(ad416.add ((x5_1).toNat * 5)).block, (ad416.add ((x5_1).toNat * 5)).off + 4, none⟩ = some (.bool ((qaf l0 x5_1).f4)) from ((HB.out.cell (World.block_lt_of_cell? w _ hw416_4)).trans hw416_4))
        have hL5_ := Aside0.mk (show wr.drew.cell? (ad417.add ((x5_1).toNat * 5)) = some (.string ((qaf l1 x5_1).f0)) from ((HB.out.cell (World.block_lt_of_cell? w _ hw417_0)).trans hw417_0))
        have hL6_ := Aside0.mk (show wr.drew.cell? ⟨(ad417.add ((x5_1).toNat * 5)).block, (ad417.add ((x5_1).toNat * 5)).off + 1, none⟩ = some (.string ((qaf l1 x5_1).f1)) from ((HB.out.cell (World.block_lt_of_cell? w _ hw417_1)).trans hw417_1))
        have hL7_ := Aside0.mk (show wr.drew.cell? ⟨(ad417.add ((x5_1).toNat * 5)).block, (ad417.add ((x5_1).toNat * 5)).off + 2, none⟩ = some (.string ((qaf l1 x5_1).f2)) from ((HB.out.cell (World.block_lt_of_cell? w _ hw417_2)).trans hw417_2))
        have hL8_ := Aside0.mk (show wr.drew.cell? ⟨(ad417.add ((x5_1).toNat * 5)).block, (ad417.add ((x5_1).toNat * 5)).off + 3, none⟩ = some (.bool ((qaf l1 x5_1).f3)) from ((HB.out.cell (World.block_lt_of_cell? w _ hw417_3)).trans hw417_3))
        have hL9_ := Aside0.mk (show wr.drew.cell? ⟨(ad417.add ((x5_1).toNat * 5)).block, (ad417.add ((x5_1).toNat * 5)).off + 4, none⟩ = some (.bool ((qaf l1 x5_1).f4)) from ((HB.out.cell (World.block_lt_of_cell? w _ hw417_4)).trans hw417_4))
        generalize wr.drew = w9 at HB hx416_0 hx416_1 hx416_2 hx416_3 hx416_4 hx417_0 hx417_1 hx417_2 hx417_3 hx417_4 hL0_ hL1_ hL2_ hL3_ hL4_ hL5_ hL6_ hL7_ hL8_ hL9_ ⊢
        clear hx416_0 hx416_1 hx416_2 hx416_3 hx416_4 hx417_0 hx417_1 hx417_2 hx417_3 hx417_4
        have hL0 := fun (p_ : Later w9) => Later.cell p_ hL0_.out
        have hL1 := fun (p_ : Later w9) => Later.cell p_ hL1_.out
        have hL2 := fun (p_ : Later w9) => Later.cell p_ hL2_.out
        have hL3 := fun (p_ : Later w9) => Later.cell p_ hL3_.out
        have hL4 := fun (p_ : Later w9) => Later.cell p_ hL4_.out
        have hL5 := fun (p_ : Later w9) => Later.cell p_ hL5_.out
        have hL6 := fun (p_ : Later w9) => Later.cell p_ hL6_.out
        have hL7 := fun (p_ : Later w9) => Later.cell p_ hL7_.out
        have hL8 := fun (p_ : Later w9) => Later.cell p_ hL8_.out
        have hL9 := fun (p_ : Later w9) => Later.cell p_ hL9_.out
        clear hL0_ hL1_ hL2_ hL3_ hL4_ hL5_ hL6_ hL7_ hL8_ hL9_
        repeat (first | go_big_quiet_step ((first | (go_at_call 61; exact Calls.qbI (qcw.calls ((qaf l0 x5_1).f0) ((qaf l0 x5_1).f1) ((qaf l0 x5_1).f2) ((qaf l0 x5_1).f3) ((qaf l0 x5_1).f4) ((qaf l1 x5_1).f0) ((qaf l1 x5_1).f1) ((qaf l1 x5_1).f2) ((qaf l1 x5_1).f3) ((qaf l1 x5_1).f4) true _ A7.out)))) | quiet_step ((first | (go_at_call 61; exact Calls.qbI (qcw.calls ((qaf l0 x5_1).f0) ((qaf l0 x5_1).f1) ((qaf l0 x5_1).f2) ((qaf l0 x5_1).f3) ((qaf l0 x5_1).f4) ((qaf l1 x5_1).f0) ((qaf l1 x5_1).f1) ((qaf l1 x5_1).f2) ((qaf l1 x5_1).f3) ((qaf l1 x5_1).f4) true _ A7.out)))))
        refine wpQuiet_nil ?_
        rintro w10 ⟨⟨wq_, hbL⟩, hq_⟩
        have hq2_ : w10 = wq_ := hq_
        clear hq_
        subst hq2_
        clear hL0 hL1 hL2 hL3 hL4 hL5 hL6 hL7 hL8 hL9
        have nHB_ := Aside0.mk (qag HB.out hbL)
        clear HB
        have HB := nHB_
        clear nHB_ hbL
        try go_wp2
        go_roundg k1
        case measure => have := HK1.out; omega
        case rel => exact ⟨(wrap64 (x5_1 + 1)), (by first | rfl | (simp; done) | (simp [*]; done)), H', ⟨by have := HK1.out; omega⟩, ⟨by repeat (first | (with_reducible first | exact HB.out | apply qac | apply qaa | apply qab) | exact HB.out)⟩⟩
       ·replace c8 := Bool.eq_false_iff.mpr c8
        subst c8
        have H1 : (some false) = some r := by rw [if_neg (show ¬ (false = true) by decide)] at H; exact H
        clear H
        have H := H1
        clear H1
        obtain rfl := Option.some.inj H
        try go_wp2
        have n0_ := Aside0.mk (qab HB.out)
        clear HB
        have HB := n0_
        clear n0_
        have p416 : 0 ≤ (x5_1 : Int) := of_decide_eq_true (by first | (with_reducible assumption) | assumption)
        have q416 : x5_1 < (l0.length : Int) := of_decide_eq_true (by first | (with_reducible assumption) | assumption)
        obtain ⟨ad416, e416, hx416_0, hx416_1, hx416_2, hx416_3, hx416_4⟩ := qdd HR0.out x5_1 p416 q416
        have hw416_4 := hx416_4
        have hw416_3 := hx416_3
        have hw416_2 := hx416_2
        have hw416_1 := hx416_1
        have hw416_0 := hx416_0
        cases e416
        replace hx416_0 := (HB.out.cell (World.block_lt_of_cell? w _ hx416_0)).trans hx416_0
        replace hx416_1 := (HB.out.cell (World.block_lt_of_cell? w _ hx416_1)).trans hx416_1
        replace hx416_2 := (HB.out.cell (World.block_lt_of_cell? w _ hx416_2)).trans hx416_2
        replace hx416_3 := (HB.out.cell (World.block_lt_of_cell? w _ hx416_3)).trans hx416_3
        replace hx416_4 := (HB.out.cell (World.block_lt_of_cell? w _ hx416_4)).trans hx416_4
        replace p416 := eq_true p416
        replace q416 := eq_true q416
        have p417 : 0 ≤ (x5_1 : Int) := of_decide_eq_true (by first | (with_reducible assumption) | assumption)
        have q417 : x5_1 < (l1.length : Int) := of_decide_eq_true (by first | (with_reducible assumption) | assumption)
        obtain ⟨ad417, e417, hx417_0, hx417_1, hx417_2, hx417_3, hx417_4⟩ := qdd HR1.out x5_1 p417 q417
        have hw417_4 := hx417_4
        have hw417_3 := hx417_3
        have hw417_2 := hx417_2
        have hw417_1 := hx417_1
        have hw417_0 := hx417_0
        cases e417
        replace hx417_0 := (HB.out.cell (World.block_lt_of_cell? w _ hx417_0)).trans hx417_0
        replace hx417_1 := (HB.out.cell (World.block_lt_of_cell? w _ hx417_1)).trans hx417_1
        replace hx417_2 := (HB.out.cell (World.block_lt_of_cell? w _ hx417_2)).trans hx417_2
        replace hx417_3 := (HB.out.cell (World.block_lt_of_cell? w _ hx417_3)).trans hx417_3
        replace hx417_4 := (HB.out.cell (World.block_lt_of_cell? w _ hx417_4)).trans hx417_4
        replace p417 := eq_true p417
        replace q417 := eq_true q417
        refine qbq (by kernel_rfl) (by kernel_rfl) ?_
        have hL0_ := Aside0.mk (show wr.drew.cell? (ad416.add ((x5_1).toNat * 5)) = some (.string ((qaf l0 x5_1).f0)) from ((HB.out.cell (World.block_lt_of_cell? w _ hw416_0)).trans hw416_0))
        have hL1_ := Aside0.mk (show wr.drew.cell? ⟨(ad416.add ((x5_1).toNat * 5)).block, (ad416.add ((x5_1).toNat * 5)).off + 1, none⟩ = some (.string ((qaf l0 x5_1).f1)) from ((HB.out.cell (World.block_lt_of_cell? w _ hw416_1)).trans hw416_1))
        have hL2_ := Aside0.mk (show wr.drew.cell? ⟨(ad416.add ((x5_1).toNat * 5)).block, (ad416.add ((x5_1).toNat * 5)).off + 2, none⟩ = some (.string ((qaf l0 x5_1).f2)) from ((HB.out.cell (World.block_lt_of_cell? w _ hw416_2)).trans hw416_2))
        have hL3_ := Aside0.mk (show wr.drew.cell? ⟨(ad416.add ((x5_1).toNat * 5)).block, (ad416.add ((x5_1).toNat * 5)).off + 3, none⟩ = some (.bool ((qaf l0 x5_1).f3)) from ((HB.out.cell (World.block_lt_of_cell? w _ hw416_3)).trans hw416_3))
        have hL4_ := Aside0.mk (show wr.drew.cell? ⟨(ad416.add ((x5_1).toNat * 5)).block, (ad416.add ((x5_1).toNat * 5)).off + 4, none⟩ = some (.bool ((qaf l0 x5_1).f4)) from ((HB.out.cell (World.block_lt_of_cell? w _ hw416_4)).trans hw416_4))
        have hL5_ := Aside0.mk (show wr.drew.cell? (ad417.add ((x5_1).toNat * 5)) = some (.string ((qaf l1 x5_1).f0)) from ((HB.out.cell (World.block_lt_of_cell? w _ hw417_0)).trans hw417_0))
        have hL6_ := Aside0.mk (show wr.drew.cell? ⟨(ad417.add ((x5_1).toNat * 5)).block, (ad417.add ((x5_1).toNat * 5)).off + 1, none⟩ = some (.string ((qaf l1 x5_1).f1)) from ((HB.out.cell (World.block_lt_of_cell? w _ hw417_1)).trans hw417_1))
        have hL7_ := Aside0.mk (show wr.drew.cell? ⟨(ad417.add ((x5_1).toNat * 5)).block, (ad417.add ((x5_1).toNat * 5)).off + 2, none⟩ = some (.string ((qaf l1 x5_1).f2)) from ((HB.out.cell (World.block_lt_of_cell? w _ hw417_2)).trans hw417_2))
        have hL8_ := Aside0.mk (show wr.drew.cell? ⟨(ad417.add ((x5_1).toNat * 5)).block, (ad417.add ((x5_1).toNat * 5)).off + 3, none⟩ = some (.bool ((qaf l1 x5_1).f3)) from ((HB.out.cell (World.block_lt_of_cell? w _ hw417_3)).trans hw417_3))
        have hL9_ := Aside0.mk (show wr.drew.cell? ⟨(ad417.add ((x5_1).toNat * 5)).block, (ad417.add ((x5_1).toNat * 5)).off + 4, none⟩ = some (.bool ((qaf l1 x5_1).f4)) from ((HB.out.cell (World.block_lt_of_cell? w _ hw417_4)).trans hw417_4))
        generalize wr.drew = w11 at HB hx416_0 hx416_1 hx416_2 hx416_3 hx416_4 hx417_0 hx417_1 hx417_2 hx417_3 hx417_4 hL0_ hL1_ hL2_ hL3_ hL4_ hL5_ hL6_ hL7_ hL8_ hL9_ ⊢
        clear hx416_0 hx416_1 hx416_2 hx416_3 hx416_4 hx417_0 hx417_1 hx417_2 hx417_3 hx417_4
        have hL0 := fun (p_ : Later w11) => Later.cell p_ hL0_.out
        have hL1 := fun (p_ : Later w11) => Later.cell p_ hL1_.out
        have hL2 := fun (p_ : Later w11) => Later.cell p_ hL2_.out
        have hL3 := fun (p_ : Later w11) => Later.cell p_ hL3_.out
        have hL4 := fun (p_ : Later w11) => Later.cell p_ hL4_.out
        have hL5 := fun (p_ : Later w11) => Later.cell p_ hL5_.out
        have hL6 := fun (p_ : Later w11) => Later.cell p_ hL6_.out
        have hL7 := fun (p_ : Later w11) => Later.cell p_ hL7_.out
        have hL8 := fun (p_ : Later w11) => Later.cell p_ hL8_.out
        have hL9 := fun (p_ : Later w11) => Later.cell p_ hL9_.out
        clear hL0_ hL1_ hL2_ hL3_ hL4_ hL5_ hL6_ hL7_ hL8_ hL9_
        repeat (first | go_big_quiet_step ((first | (go_at_call 61; exact Calls.qbI (qcw.calls ((qaf l0 x5_1).f0) ((qaf l0 x5_1).f1) ((qaf l0 x5_1).f2) ((qaf l0 x5_1).f3) ((qaf l0 x5_1).f4) ((qaf l1 x5_1).f0) ((qaf l1 x5_1).f1) ((qaf l1 x5_1).f2) ((qaf l1 x5_1).f3) ((qaf l1 x5_1).f4) false _ A7.out)))) | quiet_step ((first | (go_at_call 61; exact Calls.qbI (qcw.calls ((qaf l0 x5_1).f0) ((qaf l0 x5_1).f1) ((qaf l0 x5_1).f2) ((qaf l0 x5_1).f3) ((qaf l0 x5_1).f4) ((qaf l1 x5_1).f0) ((qaf l1 x5_1).f1) ((qaf l1 x5_1).f2) ((qaf l1 x5_1).f3) ((qaf l1 x5_1).f4) false _ A7.out)))))
        refine wpQuiet_nil ?_
        rintro w12 ⟨⟨wq_, hbL⟩, hq_⟩
        have hq2_ : w12 = wq_ := hq_
        clear hq_
        subst hq2_
        clear hL0 hL1 hL2 hL3 hL4 hL5 hL6 hL7 hL8 hL9
        have nHB_ := Aside0.mk (qag HB.out hbL)
        clear HB
        have HB := nHB_
        clear nHB_ hbL
        try go_wp2
        go_ret
        exact ⟨by first | rfl | (simp [qam, qan] <;> rfl) | (simp [*, qam, qan] <;> rfl), by repeat (first | (with_reducible first | exact HB.out | apply qac | apply qaa | apply qab) | exact HB.out)⟩
      ·rw [if_neg c6] at H
       exact absurd H (by simp)
     ·rw [if_neg c5] at H
      exact absurd H (by simp)
    ·rw [if_neg c4] at H
     have c4b0 : decide (x5_1 < (l0.length : Int)) = false := decide_eq_false c4
     clear c4
     obtain rfl := Option.some.inj H
     go_wp2
     go_ret
     exact ⟨by first | rfl | (simp [qam, qan] <;> rfl) | (simp [*, qam, qan] <;> rfl), by repeat (first | (with_reducible first | exact HB.out | apply qac | apply qaa | apply qab) | exact HB.out)⟩
 ·rw [if_neg c3] at H
  have c3b0 : ((l0.length : Int) == (l1.length : Int)) = false := beq_eq_false_iff_ne.mpr c3
  have c3b1 : ((l0.length : Int) != (l1.length : Int)) = true := bne_iff_ne.mpr c3
  have c3b2 : (l0.length == l1.length) = false := by first | simpa using c3 | (simp at c3 ⊢; omega)
  obtain rfl := Option.some.inj H
  go_enter Try.func42, Try.ntmps42
  go_wp2
  go_ret
  exact ⟨by first | rfl | (simp [qam, qan] <;> rfl) | (simp [*, qam, qan] <;> rfl), by repeat (first | (with_reducible first | exact HB.out | apply qac | apply qaa | apply qab) | exact HB.out)⟩
theorem qgc (rest : List S56) : ∀ (pre : List S56), (pre ++ rest).length ≤ 9223372036854775807 → (∀ y ∈ rest, len56 y) → Ev (fun k => qaQ.l0 k (pre ++ rest) (pre ++ rest) ((pre.length : Nat) : Int)) true := by
 induction rest with
 | nil =>
  intro pre hl hs
  refine Ev.succ ?_
  simp only [qaQ.l0]
  exact Ev.neg (by simp) (Ev.is rfl)
 | cons x rest ih =>
  intro pre hl hs
  have hx : qaf (pre ++ x :: rest) ((pre.length : Nat) : Int) = x := by simp [qaf, List.getD_eq_getElem?_getD]
  have hlt : ((pre.length : Nat) : Int) < ((pre ++ x :: rest).length : Int) := by simp; omega
  have hwp : wrap64 (((pre.length : Nat) : Int) + 1) = (((pre ++ [x]).length : Nat) : Int) := by rw [← qcp]; exact qcu (by simp at hl; omega)
  have e1 : pre ++ x :: rest = (pre ++ [x]) ++ rest := by simp
  have hi := ih (pre ++ [x]) (by rw [← e1]; exact hl) (fun y hy => hs y (List.mem_cons_of_mem _ hy))
  rw [← e1] at hi
  refine Ev.succ ?_
  simp only [qaQ.l0, hx, hwp]
  exact Ev.pos hlt (Ev.pos (by omega) (Ev.pos hlt (Ev.bind (eq_Diff x (hs x List.mem_cons_self)) (Ev.pos rfl hi))))
theorem eq_DiffS (l : List S56) (h : l.length ≤ 9223372036854775807 ∧ ∀ y ∈ l, len56 y) : Ev (fun k => qaQ.f k l l) true := by
 unfold qaQ.f
 have hh := qgc l [] (by simpa using h.1) h.2
 exact Ev.pos rfl (by simpa using hh)
end Go.Proofs.Ytlkdcicpaneakaa.X
