import Derived.Test.YtlkdcicpaneakaaKFnExactReplayAll2
import Derived.Test.YtlkdcicpaneakaaKFnExactReplayAll14
namespace Go.Proofs.Ytlkdcicpaneakaa.X
open Go.RowKit Go.Proofs.YtlkdcicpaneakaaW.PrintWords Go.Proofs.YtlkdcicpaneakaaW.PrintLast Go.Proofs.YtlkdcicpaneakaaW.PrintMore
attribute [local go_sem] qaA qaB qaC qaw qax qaH qaI qap qaq qay qaz
set_option linter.unusedVariables false
set_option linter.unusedSimpArgs false
def qbJ.f (k : Nat) (a0_0 : ByteArray) (a0_1 : ByteArray) (a0_2 : Int) (l0_3 : List (S56)) (a0_4 : Int) (a1_0 : ByteArray) (a1_1 : ByteArray) (a1_2 : Int) (l1_3 : List (S56)) (a1_4 : Int) : Option (Bool) := if a0_0.toList = a1_0.toList then (if a0_1.toList = a1_1.toList then (if a0_2 = a1_2 then ((qaQ.f k l0_3 l1_3).bind fun t421 => (if t421 = true then (if a0_4 = a1_4 then (some true) else (some false)) else (some false))) else (some false)) else (some false)) else (some false)
theorem qbJ.mono : ∀ a0 a1 a2 a3 a4 a5 a6 a7 a8 a9 k, LeO (qbJ.f k a0 a1 a2 a3 a4 a5 a6 a7 a8 a9) (qbJ.f (k + 1) a0 a1 a2 a3 a4 a5 a6 a7 a8 a9) := by
 intro a0 a1 a2 a3 a4 a5 a6 a7 a8 a9 k
 unfold qbJ.f
 repeat' first
   | (with_reducible exact qaQ.mono _ _ _)
   | (with_reducible exact LeO.refl _)
   | (with_reducible exact LeO.none _)
   | (with_reducible refine LeO.ite ?_ ?_)
   | (with_reducible refine LeO.bind ?_ (fun _ => ?_))
   | exact qaQ.mono _ _ _
   | exact LeO.none _
   | refine LeO.ite ?_ ?_
   | refine LeO.bind ?_ (fun _ => ?_)
set_option maxHeartbeats 8000000 in
set_option maxRecDepth 100000 in
theorem qbJ.calls (k : Nat) (a0_0 : ByteArray) (a0_1 : ByteArray) (a0_2 : Int) (A0_3 : Option Addr) (c0_3 : Nat) (l0_3 : List (S56)) (a0_4 : Int) (a1_0 : ByteArray) (a1_1 : ByteArray) (a1_2 : Int) (A1_3 : Option Addr) (c1_3 : Nat) (l1_3 : List (S56)) (a1_4 : Int) (r : Bool) (w : World) (hr0_3 : Kd.C k56 w A0_3 l0_3.length l0_3) (hc0_3 : l0_3.length ≤ c0_3) (hr1_3 : Kd.C k56 w A1_3 l1_3.length l1_3) (hc1_3 : l1_3.length ≤ c1_3) (h : qbJ.f k a0_0 a0_1 a0_2 l0_3 a0_4 a1_0 a1_1 a1_2 l1_3 a1_4 = some r) :
  Calls Try.prog 23 #[.agg #[.string a0_0, .string a0_1, .int .i64 a0_2, .slice A0_3 l0_3.length c0_3, .int .i64 a0_4], .agg #[.string a1_0, .string a1_1, .int .i64 a1_2, .slice A1_3 l1_3.length c1_3, .int .i64 a1_4]] w fun e w' => e = .returned (.bool r) ∧ Below w.heap.size w w' := by
 have hu41 := Try.underlying41
 have HR0_3 := Aside0.mk hr0_3
 have HC0_3 := Aside0.mk hc0_3
 clear hr0_3 hc0_3
 have HR1_3 := Aside0.mk hr1_3
 have HC1_3 := Aside0.mk hc1_3
 clear hr1_3 hc1_3
 have HB := Aside0.mk (Below.refl w.heap.size w)
 have H : (if a0_0.toList = a1_0.toList then (if a0_1.toList = a1_1.toList then (if a0_2 = a1_2 then ((qaQ.f k l0_3 l1_3).bind fun t421 => (if t421 = true then (if a0_4 = a1_4 then (some true) else (some false)) else (some false))) else (some false)) else (some false)) else (some false)) = some r := h
 clear h
 by_cases c3 : a0_0.toList = a1_0.toList
 ·rw [if_pos c3] at H
  have c3b0 : (a0_0.toList == a1_0.toList) = true := beq_iff_eq.mpr c3
  have c3b1 : (a0_0.toList != a1_0.toList) = false := bne_eq_false_iff_eq.mpr c3
  clear c3
  by_cases c4 : a0_1.toList = a1_1.toList
  ·rw [if_pos c4] at H
   have c4b0 : (a0_1.toList == a1_1.toList) = true := beq_iff_eq.mpr c4
   have c4b1 : (a0_1.toList != a1_1.toList) = false := bne_eq_false_iff_eq.mpr c4
   clear c4
   by_cases c5 : a0_2 = a1_2
   ·rw [if_pos c5] at H
    have c5b0 : (a0_2 == a1_2) = true := beq_iff_eq.mpr c5
    have c5b1 : (a0_2 != a1_2) = false := bne_eq_false_iff_eq.mpr c5
    clear c5
    replace H := Option.bind_eq_some_iff.mp H
    obtain ⟨t421, A60, H⟩ := H
    try dsimp only at H
    have A6 := Aside0.mk A60
    clear A60
    by_cases c7 : t421 = true
    ·subst c7
     have H1 : (if a0_4 = a1_4 then (some true) else (some false)) = some r := by rw [if_pos rfl] at H; exact H
     clear H
     have H := H1
     clear H1
     by_cases c8 : a0_4 = a1_4
     ·rw [if_pos c8] at H
      have c8b0 : (a0_4 == a1_4) = true := beq_iff_eq.mpr c8
      have c8b1 : (a0_4 != a1_4) = false := bne_eq_false_iff_eq.mpr c8
      clear c8
      obtain rfl := Option.some.inj H
      go_enter Try.func23, Try.ntmps23
      go_wp2_with (first | ((with_reducible refine qaM (N := 2) rfl ?_); refine qaN ?hg (N := 2) ?hd (cs := #[.string a0_0, .string a0_1, .int .i64 a0_2, .slice A0_3 l0_3.length c0_3, .int .i64 a0_4]) (t := 41) ?hr ?_; (case hd => rfl); (case hg => rfl); (case hr => first | (go_simp; done) | (go_simp; rfl)); intro gb419 hg w9 hbox hb; have n0_ := Aside0.mk (qag (by repeat (first | (with_reducible first | exact HB.out | apply qac | apply qaa | apply qab) | exact HB.out)) hb); have n1_ := Aside0.mk (hbox); have n2_ := Aside0.mk ((by rw [hg]; exact (qak (by repeat (first | (with_reducible first | exact HB.out | apply qac | apply qaa | apply qab) | exact HB.out))) : w.heap.size ≤ gb419)); have n3_ := Aside0.mk ((by rw [hg]; exact (qak (by repeat (first | (with_reducible first | exact HB.out | apply qac | apply qaa | apply qab) | exact HB.out))) : w.heap.size ≤ gb419)); clear HB; have HB := n0_; have BK419 := n1_; have GW419 := n2_; have GE419 := n3_; clear n0_ n1_ n2_ n3_; clear hb hbox hg) | ((with_reducible refine qaM (N := 3) rfl ?_); refine qaN ?hg (N := 3) ?hd (cs := #[.string a1_0, .string a1_1, .int .i64 a1_2, .slice A1_3 l1_3.length c1_3, .int .i64 a1_4]) (t := 41) ?hr ?_; (case hd => rfl); (case hg => rfl); (case hr => first | (go_simp; done) | (go_simp; rfl)); intro gb420 hg w10 hbox hb; have n0_ := Aside0.mk (qao (g := gb419) (o := .cells #[.string a0_0, .string a0_1, .int .i64 a0_2, .slice A0_3 l0_3.length c0_3, .int .i64 a0_4] 41 (0, 0)) (by (with_reducible repeat (first | refine qaj ?_ _ | refine qal ?_ | refine qai ?_ _)); exact BK419.out) hb); have n1_ := Aside0.mk (qag (by repeat (first | (with_reducible first | exact HB.out | apply qac | apply qaa | apply qab | refine qah ?_ GE419.out) | exact HB.out)) hb); have n2_ := Aside0.mk (hbox); have n3_ := Aside0.mk ((by rw [hg]; exact (qak (by repeat (first | (with_reducible first | exact HB.out | apply qac | apply qaa | apply qab | refine qah ?_ GE419.out) | exact HB.out))) : w.heap.size ≤ gb420)); have n4_ := Aside0.mk ((by rw [hg]; exact (qak (by repeat (first | (with_reducible first | exact HB.out | apply qac | apply qaa | apply qab | refine qah ?_ GE419.out) | exact HB.out))) : w.heap.size ≤ gb420)); have n5_ := Aside0.mk ((by rw [hg]; exact Nat.ne_of_lt (qbm (g := gb419) (o := .cells #[.string a0_0, .string a0_1, .int .i64 a0_2, .slice A0_3 l0_3.length c0_3, .int .i64 a0_4] 41 (0, 0)) (by (with_reducible repeat (first | refine qaj ?_ _ | refine qal ?_ | refine qai ?_ _)); exact BK419.out)) : gb419 ≠ gb420)); have n6_ := Aside0.mk ((by rw [hg]; exact Nat.ne_of_gt (qbm (g := gb419) (o := .cells #[.string a0_0, .string a0_1, .int .i64 a0_2, .slice A0_3 l0_3.length c0_3, .int .i64 a0_4] 41 (0, 0)) (by (with_reducible repeat (first | refine qaj ?_ _ | refine qal ?_ | refine qai ?_ _)); exact BK419.out)) : gb420 ≠ gb419)); clear BK419 HB; have BK419 := n0_; have HB := n1_; have BK420 := n2_; have GW420 := n3_; have GE420 := n4_; have NB419_420 := n5_; have NB420_419 := n6_; clear n0_ n1_ n2_ n3_ n4_ n5_ n6_ hb hbox hg; have hnb11 := NB419_420.out; have hnc11 := NB420_419.out; have hcz12_0 : w10.cell? ⟨gb419, 0, none⟩ = some (.string a0_0) := (qad BK419.out 0).trans rfl; have hcz12_1 : w10.cell? ⟨gb419, 1, none⟩ = some (.string a0_1) := (qad BK419.out 1).trans rfl; have hcz12_2 : w10.cell? ⟨gb419, 2, none⟩ = some (.int .i64 a0_2) := (qad BK419.out 2).trans rfl; have hcz12_3 : w10.cell? ⟨gb419, 3, none⟩ = some (.slice A0_3 l0_3.length c0_3) := (qad BK419.out 3).trans rfl; have hcz12_4 : w10.cell? ⟨gb419, 4, none⟩ = some (.int .i64 a0_4) := (qad BK419.out 4).trans rfl; have hfz12_0 := qae BK419.out 0; have hfz12_1 := qae BK419.out 1; have hfz12_2 := qae BK419.out 2; have hfz12_3 := qae BK419.out 3; have hfz12_4 := qae BK419.out 4; have hcz13_0 : w10.cell? ⟨gb420, 0, none⟩ = some (.string a1_0) := (qad BK420.out 0).trans rfl; have hcz13_1 : w10.cell? ⟨gb420, 1, none⟩ = some (.string a1_1) := (qad BK420.out 1).trans rfl; have hcz13_2 : w10.cell? ⟨gb420, 2, none⟩ = some (.int .i64 a1_2) := (qad BK420.out 2).trans rfl; have hcz13_3 : w10.cell? ⟨gb420, 3, none⟩ = some (.slice A1_3 l1_3.length c1_3) := (qad BK420.out 3).trans rfl; have hcz13_4 : w10.cell? ⟨gb420, 4, none⟩ = some (.int .i64 a1_4) := (qad BK420.out 4).trans rfl; have hfz13_0 := qae BK420.out 0; have hfz13_1 := qae BK420.out 1; have hfz13_2 := qae BK420.out 2; have hfz13_3 := qae BK420.out 3; have hfz13_4 := qae BK420.out 4) | ((with_reducible refine qaE (f := 42) rfl ?_); refine qbn (some 24) rfl rfl Try.func42 (by kernel_rfl) rfl #[.slice A0_3 l0_3.length c0_3, .slice A1_3 l1_3.length c1_3] rfl (by (try simp only [List.map_toArray, List.map_cons, List.map_nil]); first | done | rfl | (simp only [List.length_drop, List.length_take]; rfl)) ?_; (with_reducible refine (qaQ.calls k _ _ l0_3 _ _ l1_3 true _ ?side1 ?side2 ?side3 ?side4 A6.out).mono ?_); (case side1 => repeat (first | exact (Kd.qa8 HR0_3.out HB.out) | (with_reducible refine Kd.qa9 ?_ _) | (with_reducible refine Kd.qba ?_ _) | (with_reducible refine Kd.qbl ?_))); (case side2 => exact HC0_3.out); (case side3 => repeat (first | exact (Kd.qa8 HR1_3.out HB.out) | (with_reducible refine Kd.qa9 ?_ _) | (with_reducible refine Kd.qba ?_ _) | (with_reducible refine Kd.qbl ?_))); (case side4 => exact HC1_3.out); rintro e w14 ⟨rfl, hb⟩; refine ⟨_, rfl, ?_⟩; have n0_ := Aside0.mk (qao (g := gb419) (o := .cells #[.string a0_0, .string a0_1, .int .i64 a0_2, .slice A0_3 l0_3.length c0_3, .int .i64 a0_4] 41 (0, 0)) (by (with_reducible repeat (first | refine qaj ?_ _ | refine qal ?_ | refine qai ?_ _)); exact BK419.out) hb); have n1_ := Aside0.mk (qao (g := gb420) (o := .cells #[.string a1_0, .string a1_1, .int .i64 a1_2, .slice A1_3 l1_3.length c1_3, .int .i64 a1_4] 41 (0, 0)) (by (with_reducible repeat (first | refine qaj ?_ _ | refine qal ?_ | refine qai ?_ _)); exact BK420.out) hb); have n2_ := Aside0.mk (qag (by repeat (first | (with_reducible first | exact HB.out | apply qac | apply qaa | apply qab | refine qah ?_ GE419.out | refine qah ?_ GE420.out) | exact HB.out)) hb); clear BK419 BK420 HB; have BK419 := n0_; have BK420 := n1_; have HB := n2_; clear n0_ n1_ n2_; (try clear hb); (try clear hb2); (try clear hk); (try clear hi); have hcz15_0 : w14.cell? ⟨gb419, 0, none⟩ = some (.string a0_0) := (qad BK419.out 0).trans rfl; have hcz15_1 : w14.cell? ⟨gb419, 1, none⟩ = some (.string a0_1) := (qad BK419.out 1).trans rfl; have hcz15_2 : w14.cell? ⟨gb419, 2, none⟩ = some (.int .i64 a0_2) := (qad BK419.out 2).trans rfl; have hcz15_3 : w14.cell? ⟨gb419, 3, none⟩ = some (.slice A0_3 l0_3.length c0_3) := (qad BK419.out 3).trans rfl; have hcz15_4 : w14.cell? ⟨gb419, 4, none⟩ = some (.int .i64 a0_4) := (qad BK419.out 4).trans rfl; have hfz15_0 := qae BK419.out 0; have hfz15_1 := qae BK419.out 1; have hfz15_2 := qae BK419.out 2; have hfz15_3 := qae BK419.out 3; have hfz15_4 := qae BK419.out 4; have hcz16_0 : w14.cell? ⟨gb420, 0, none⟩ = some (.string a1_0) := (qad BK420.out 0).trans rfl; have hcz16_1 : w14.cell? ⟨gb420, 1, none⟩ = some (.string a1_1) := (qad BK420.out 1).trans rfl; have hcz16_2 : w14.cell? ⟨gb420, 2, none⟩ = some (.int .i64 a1_2) := (qad BK420.out 2).trans rfl; have hcz16_3 : w14.cell? ⟨gb420, 3, none⟩ = some (.slice A1_3 l1_3.length c1_3) := (qad BK420.out 3).trans rfl; have hcz16_4 : w14.cell? ⟨gb420, 4, none⟩ = some (.int .i64 a1_4) := (qad BK420.out 4).trans rfl; have hfz16_0 := qae BK420.out 0; have hfz16_1 := qae BK420.out 1; have hfz16_2 := qae BK420.out 2; have hfz16_3 := qae BK420.out 3; have hfz16_4 := qae BK420.out 4))
      go_ret
      exact ⟨by first | rfl | (simp [qam, qan] <;> rfl) | (simp [*, qam, qan] <;> rfl), by repeat (first | (with_reducible first | exact HB.out | apply qac | apply qaa | apply qab | refine qah ?_ GE419.out | refine qah ?_ GE420.out) | exact HB.out)⟩
     ·rw [if_neg c8] at H
      have c8b0 : (a0_4 == a1_4) = false := beq_eq_false_iff_ne.mpr c8
      have c8b1 : (a0_4 != a1_4) = true := bne_iff_ne.mpr c8
      obtain rfl := Option.some.inj H
      go_enter Try.func23, Try.ntmps23
      go_wp2_with (first | ((with_reducible refine qaM (N := 2) rfl ?_); refine qaN ?hg (N := 2) ?hd (cs := #[.string a0_0, .string a0_1, .int .i64 a0_2, .slice A0_3 l0_3.length c0_3, .int .i64 a0_4]) (t := 41) ?hr ?_; (case hd => rfl); (case hg => rfl); (case hr => first | (go_simp; done) | (go_simp; rfl)); intro gb419 hg w17 hbox hb; have n0_ := Aside0.mk (qag (by repeat (first | (with_reducible first | exact HB.out | apply qac | apply qaa | apply qab) | exact HB.out)) hb); have n1_ := Aside0.mk (hbox); have n2_ := Aside0.mk ((by rw [hg]; exact (qak (by repeat (first | (with_reducible first | exact HB.out | apply qac | apply qaa | apply qab) | exact HB.out))) : w.heap.size ≤ gb419)); have n3_ := Aside0.mk ((by rw [hg]; exact (qak (by repeat (first | (with_reducible first | exact HB.out | apply qac | apply qaa | apply qab) | exact HB.out))) : w.heap.size ≤ gb419)); clear HB; have HB := n0_; have BK419 := n1_; have GW419 := n2_; have GE419 := n3_; clear n0_ n1_ n2_ n3_; clear hb hbox hg) | ((with_reducible refine qaM (N := 3) rfl ?_); refine qaN ?hg (N := 3) ?hd (cs := #[.string a1_0, .string a1_1, .int .i64 a1_2, .slice A1_3 l1_3.length c1_3, .int .i64 a1_4]) (t := 41) ?hr ?_; (case hd => rfl); (case hg => rfl); (case hr => first | (go_simp; done) | (go_simp; rfl)); intro gb420 hg w18 hbox hb; have n0_ := Aside0.mk (qao (g := gb419) (o := .cells #[.string a0_0, .string a0_1, .int .i64 a0_2, .slice A0_3 l0_3.length c0_3, .int .i64 a0_4] 41 (0, 0)) (by (with_reducible repeat (first | refine qaj ?_ _ | refine qal ?_ | refine qai ?_ _)); exact BK419.out) hb); have n1_ := Aside0.mk (qag (by repeat (first | (with_reducible first | exact HB.out | apply qac | apply qaa | apply qab | refine qah ?_ GE419.out) | exact HB.out)) hb); have n2_ := Aside0.mk (hbox); have n3_ := Aside0.mk ((by rw [hg]; exact (qak (by repeat (first | (with_reducible first | exact HB.out | apply qac | apply qaa | apply qab | refine qah ?_ GE419.out) | exact HB.out))) : w.heap.size ≤ gb420)); have n4_ := Aside0.mk ((by rw [hg]; exact (qak (by repeat (first | (with_reducible first | exact HB.out | apply qac | apply qaa | apply qab | refine qah ?_ GE419.out) | exact HB.out))) : w.heap.size ≤ gb420)); have n5_ := Aside0.mk ((by rw [hg]; exact Nat.ne_of_lt (qbm (g := gb419) (o := .cells #[.string a0_0, .string a0_1, .int .i64 a0_2, .slice A0_3 l0_3.length c0_3, .int .i64 a0_4] 41 (0, 0)) (by (with_reducible repeat (first | refine qaj ?_ _ | refine qal ?_ | refine qai ?_ _)); exact BK419.out)) : gb419 ≠ gb420)); have n6_ := Aside0.mk ((by rw [hg]; exact Nat.ne_of_gt (qbm (g := gb419) (o := .cells #[.string a0_0, .string a0_1, .int .i64 a0_2, .slice A0_3 l0_3.length c0_3, .int .i64 a0_4] 41 (0, 0)) (by (with_reducible repeat (first | refine qaj ?_ _ | refine qal ?_ | refine qai ?_ _)); exact BK419.out)) : gb420 ≠ gb419)); clear BK419 HB; have BK419 := n0_; have HB := n1_; have BK420 := n2_; have GW420 := n3_; have GE420 := n4_; have NB419_420 := n5_; have NB420_419 := n6_; clear n0_ n1_ n2_ n3_ n4_ n5_ n6_ hb hbox hg; have hnb19 := NB419_420.out; have hnc19 := NB420_419.out; have hcz20_0 : w18.cell? ⟨gb419, 0, none⟩ = some (.string a0_0) := (qad BK419.out 0).trans rfl; have hcz20_1 : w18.cell? ⟨gb419, 1, none⟩ = some (.string a0_1) := (qad BK419.out 1).trans rfl; have hcz20_2 : w18.cell? ⟨gb419, 2, none⟩ = some (.int .i64 a0_2) := (qad BK419.out 2).trans rfl; have hcz20_3 : w18.cell? ⟨gb419, 3, none⟩ = some (.slice A0_3 l0_3.length c0_3) := (qad BK419.out 3).trans rfl; have hcz20_4 : w18.cell? ⟨gb419, 4, none⟩ = some (.int .i64 a0_4) := (qad BK419.out 4).trans rfl; have hfz20_0 := qae BK419.out 0; have hfz20_1 := qae BK419.out 1; have hfz20_2 := qae BK419.out 2; have hfz20_3 := qae BK419.out 3; have hfz20_4 := qae BK419.out 4; have hcz21_0 : w18.cell? ⟨gb420, 0, none⟩ = some (.string a1_0) := (qad BK420.out 0).trans rfl; have hcz21_1 : w18.cell? ⟨gb420, 1, none⟩ = some (.string a1_1) := (qad BK420.out 1).trans rfl; have hcz21_2 : w18.cell? ⟨gb420, 2, none⟩ = some (.int .i64 a1_2) := (qad BK420.out 2).trans rfl; have hcz21_3 : w18.cell? ⟨gb420, 3, none⟩ = some (.slice A1_3 l1_3.length c1_3) := (qad BK420.out 3).trans rfl; have hcz21_4 : w18.cell? ⟨gb420, 4, none⟩ = some (.int .i64 a1_4) := (qad BK420.out 4).trans rfl; have hfz21_0 := qae BK420.out 0; have hfz21_1 := qae BK420.out 1; have hfz21_2 := qae BK420.out 2; have hfz21_3 := qae BK420.out 3; have hfz21_4 := qae BK420.out 4) | ((with_reducible refine qaE (f := 42) rfl ?_); refine qbn (some 24) rfl rfl Try.func42 (by kernel_rfl) rfl #[.slice A0_3 l0_3.length c0_3, .slice A1_3 l1_3.length c1_3] rfl (by (try simp only [List.map_toArray, List.map_cons, List.map_nil]); first | done | rfl | (simp only [List.length_drop, List.length_take]; rfl)) ?_; (with_reducible refine (qaQ.calls k _ _ l0_3 _ _ l1_3 true _ ?side1 ?side2 ?side3 ?side4 A6.out).mono ?_); (case side1 => repeat (first | exact (Kd.qa8 HR0_3.out HB.out) | (with_reducible refine Kd.qa9 ?_ _) | (with_reducible refine Kd.qba ?_ _) | (with_reducible refine Kd.qbl ?_))); (case side2 => exact HC0_3.out); (case side3 => repeat (first | exact (Kd.qa8 HR1_3.out HB.out) | (with_reducible refine Kd.qa9 ?_ _) | (with_reducible refine Kd.qba ?_ _) | (with_reducible refine Kd.qbl ?_))); (case side4 => exact HC1_3.out); rintro e w22 ⟨rfl, hb⟩; refine ⟨_, rfl, ?_⟩; have n0_ := Aside0.mk (qao (g := gb419) (o := .cells #[.string a0_0, .string a0_1, .int .i64 a0_2, .slice A0_3 l0_3.length c0_3, .int .i64 a0_4] 41 (0, 0)) (by (with_reducible repeat (first | refine qaj ?_ _ | refine qal ?_ | refine qai ?_ _)); exact BK419.out) hb); have n1_ := Aside0.mk (qao (g := gb420) (o := .cells #[.string a1_0, .string a1_1, .int .i64 a1_2, .slice A1_3 l1_3.length c1_3, .int .i64 a1_4] 41 (0, 0)) (by (with_reducible repeat (first | refine qaj ?_ _ | refine qal ?_ | refine qai ?_ _)); exact BK420.out) hb); have n2_ := Aside0.mk (qag (by repeat (first | (with_reducible first | exact HB.out | apply qac | apply qaa | apply qab | refine qah ?_ GE419.out | refine qah ?_ GE420.out) | exact HB.out)) hb); clear BK419 BK420 HB; have BK419 := n0_; have BK420 := n1_; have HB := n2_; clear n0_ n1_ n2_; (try clear hb); (try clear hb2); (try clear hk); (try clear hi); have hcz23_0 : w22.cell? ⟨gb419, 0, none⟩ = some (.string a0_0) := (qad BK419.out 0).trans rfl; have hcz23_1 : w22.cell? ⟨gb419, 1, none⟩ = some (.string a0_1) := (qad BK419.out 1).trans rfl; have hcz23_2 : w22.cell? ⟨gb419, 2, none⟩ = some (.int .i64 a0_2) := (qad BK419.out 2).trans rfl; have hcz23_3 : w22.cell? ⟨gb419, 3, none⟩ = some (.slice A0_3 l0_3.length c0_3) := (qad BK419.out 3).trans rfl; have hcz23_4 : w22.cell? ⟨gb419, 4, none⟩ = some (.int .i64 a0_4) := (qad BK419.out 4).trans rfl; have hfz23_0 := qae BK419.out 0; have hfz23_1 := qae BK419.out 1; have hfz23_2 := qae BK419.out 2; have hfz23_3 := qae BK419.out 3; have hfz23_4 := qae BK419.out 4; have hcz24_0 : w22.cell? ⟨gb420, 0, none⟩ = some (.string a1_0) := (qad BK420.out 0).trans rfl; have hcz24_1 : w22.cell? ⟨gb420, 1, none⟩ = some (.string a1_1) := (qad BK420.out 1).trans rfl; have hcz24_2 : w22.cell? ⟨gb420, 2, none⟩ = some (.int .i64 a1_2) := (qad BK420.out 2).trans rfl; have hcz24_3 : w22.cell? ⟨gb420, 3, none⟩ = some (.slice A1_3 l1_3.length c1_3) := (qad BK420.out 3).trans rfl; have hcz24_4 : w22.cell? ⟨gb420, 4, none⟩ = some (.int .i64 a1_4) := (qad BK420.out 4).trans rfl; have hfz24_0 := qae BK420.out 0; have hfz24_1 := qae BK420.out 1; have hfz24_2 := qae BK420.out 2; have hfz24_3 := qae BK420.out 3; have hfz24_4 := qae BK420.out 4))
      go_ret
      exact ⟨by first | rfl | (simp [qam, qan] <;> rfl) | (simp [*, qam, qan] <;> rfl), by repeat (first | (with_reducible first | exact HB.out | apply qac | apply qaa | apply qab | refine qah ?_ GE419.out | refine qah ?_ GE420.out) | exact HB.out)⟩
    ·replace c7 := Bool.eq_false_iff.mpr c7
     subst c7
     have H1 : (some false) = some r := by rw [if_neg (show ¬ (false = true) by decide)] at H; exact H
     clear H
     have H := H1
     clear H1
     obtain rfl := Option.some.inj H
     go_enter Try.func23, Try.ntmps23
     go_wp2_with (first | ((with_reducible refine qaM (N := 2) rfl ?_); refine qaN ?hg (N := 2) ?hd (cs := #[.string a0_0, .string a0_1, .int .i64 a0_2, .slice A0_3 l0_3.length c0_3, .int .i64 a0_4]) (t := 41) ?hr ?_; (case hd => rfl); (case hg => rfl); (case hr => first | (go_simp; done) | (go_simp; rfl)); intro gb419 hg w25 hbox hb; have n0_ := Aside0.mk (qag (by repeat (first | (with_reducible first | exact HB.out | apply qac | apply qaa | apply qab) | exact HB.out)) hb); have n1_ := Aside0.mk (hbox); have n2_ := Aside0.mk ((by rw [hg]; exact (qak (by repeat (first | (with_reducible first | exact HB.out | apply qac | apply qaa | apply qab) | exact HB.out))) : w.heap.size ≤ gb419)); have n3_ := Aside0.mk ((by rw [hg]; exact (qak (by repeat (first | (with_reducible first | exact HB.out | apply qac | apply qaa | apply qab) | exact HB.out))) : w.heap.size ≤ gb419)); clear HB; have HB := n0_; have BK419 := n1_; have GW419 := n2_; have GE419 := n3_; clear n0_ n1_ n2_ n3_; clear hb hbox hg) | ((with_reducible refine qaM (N := 3) rfl ?_); refine qaN ?hg (N := 3) ?hd (cs := #[.string a1_0, .string a1_1, .int .i64 a1_2, .slice A1_3 l1_3.length c1_3, .int .i64 a1_4]) (t := 41) ?hr ?_; (case hd => rfl); (case hg => rfl); (case hr => first | (go_simp; done) | (go_simp; rfl)); intro gb420 hg w26 hbox hb; have n0_ := Aside0.mk (qao (g := gb419) (o := .cells #[.string a0_0, .string a0_1, .int .i64 a0_2, .slice A0_3 l0_3.length c0_3, .int .i64 a0_4] 41 (0, 0)) (by (with_reducible repeat (first | refine qaj ?_ _ | refine qal ?_ | refine qai ?_ _)); exact BK419.out) hb); have n1_ := Aside0.mk (qag (by repeat (first | (with_reducible first | exact HB.out | apply qac | apply qaa | apply qab | refine qah ?_ GE419.out) | exact HB.out)) hb); have n2_ := Aside0.mk (hbox); have n3_ := Aside0.mk ((by rw [hg]; exact (qak (by repeat (first | (with_reducible first | exact HB.out | apply qac | apply qaa | apply qab | refine qah ?_ GE419.out) | exact HB.out))) : w.heap.size ≤ gb420)); have n4_ := Aside0.mk ((by rw [hg]; exact (qak (by repeat (first | (with_reducible first | exact HB.out | apply qac | apply qaa | apply qab | refine qah ?_ GE419.out) | exact HB.out))) : w.heap.size ≤ gb420)); have n5_ := Aside0.mk ((by rw [hg]; exact Nat.ne_of_lt (qbm (g := gb419) (o := .cells #[.string a0_0, .string a0_1, .int .i64 a0_2, .slice A0_3 l0_3.length c0_3, .int .i64 a0_4] 41 (0, 0)) (by (with_reducible repeat (first | refine qaj ?_ _ | refine qal ?_ | refine qai ?_ _)); exact BK419.out)) : gb419 ≠ gb420)); have n6_ := Aside0.mk ((by rw [hg]; exact Nat.ne_of_gt (qbm (g := gb419) (o := .cells #[.string a0_0, .string a0_1, .int .i64 a0_2, .slice A0_3 l0_3.length c0_3, .int .i64 a0_4] 41 (0, 0)) (by (with_reducible repeat (first | refine qaj ?_ _ | refine qal ?_ | refine qai ?_ _)); exact BK419.out)) : gb420 ≠ gb419)); clear BK419 HB; have BK419 := n0_; have HB := n1_; have BK420 := n2_; have GW420 := n3_; have GE420 := n4_; have NB419_420 := n5_; have NB420_419 := n6_; clear n0_ n1_ n2_ n3_ n4_ n5_ n6_ hb hbox hg; have hnb27 := NB419_420.out; have hnc27 := NB420_419.out; have hcz28_0 : w26.cell? ⟨gb419, 0, none⟩ = some (.string a0_0) := (qad BK419.out 0).trans rfl; have hcz28_1 : w26.cell? ⟨gb419, 1, none⟩ = some (.string a0_1) := (qad BK419.out 1).trans rfl; have hcz28_2 : w26.cell? ⟨gb419, 2, none⟩ = some (.int .i64 a0_2) := (qad BK419.out 2).trans rfl; have hcz28_3 : w26.cell? ⟨gb419, 3, none⟩ = some (.slice A0_3 l0_3.length c0_3) := (qad BK419.out 3).trans rfl; have hcz28_4 : w26.cell? ⟨gb419, 4, none⟩ = some (.int .i64 a0_4) := (qad BK419.out 4).trans rfl; have hfz28_0 := qae BK419.out 0; have hfz28_1 := qae BK419.out 1; have hfz28_2 := qae BK419.out 2; have hfz28_3 := qae BK419.out 3; have hfz28_4 := qae BK419.out 4; have hcz29_0 : w26.cell? ⟨gb420, 0, none⟩ = some (.string a1_0) := (qad BK420.out 0).trans rfl; have hcz29_1 : w26.cell? ⟨gb420, 1, none⟩ = some (.string a1_1) := (qad BK420.out 1).trans rfl; have hcz29_2 : w26.cell? ⟨gb420, 2, none⟩ = some (.int .i64 a1_2) := (qad BK420.out 2).trans rfl; have hcz29_3 : w26.cell? ⟨gb420, 3, none⟩ = some (.slice A1_3 l1_3.length c1_3) := (qad BK420.out 3).trans rfl; have hcz29_4 : w26.cell? ⟨gb420, 4, none⟩ = some (.int .i64 a1_4) := (qad BK420.out 4).trans rfl; have hfz29_0 := qae BK420.out 0; have hfz29_1 := qae BK420.out 1; have hfz29_2 := qae BK420.out 2; have hfz29_3 := qae BK420.out 3; have hfz29_4 := qae BK420.out 4) | ((with_reducible refine qaE (f := 42) rfl ?_); refine qbn (some 24) rfl rfl Try.func42 (by kernel_rfl) rfl #[.slice A0_3 l0_3.length c0_3, .slice A1_3 l1_3.length c1_3] rfl (by (try simp only [List.map_toArray, List.map_cons, List.map_nil]); first | done | rfl | (simp only [List.length_drop, List.length_take]; rfl)) ?_; (with_reducible refine (qaQ.calls k _ _ l0_3 _ _ l1_3 false _ ?side1 ?side2 ?side3 ?side4 A6.out).mono ?_); (case side1 => repeat (first | exact (Kd.qa8 HR0_3.out HB.out) | (with_reducible refine Kd.qa9 ?_ _) | (with_reducible refine Kd.qba ?_ _) | (with_reducible refine Kd.qbl ?_))); (case side2 => exact HC0_3.out); (case side3 => repeat (first | exact (Kd.qa8 HR1_3.out HB.out) | (with_reducible refine Kd.qa9 ?_ _) | (with_reducible refine Kd.qba ?_ _) | (with_reducible refine Kd.qbl ?_))); (case side4 => exact HC1_3.out); rintro e w30 ⟨rfl, hb⟩; refine ⟨_, rfl, ?_⟩; have n0_ := Aside0.mk (qao (g := gb419) (o := .cells #[.string a0_0, .string a0_1, .int .i64 a0_2, .slice A0_3 l0_3.length c0_3, .int .i64 a0_4] 41 (0, 0)) (by (with_reducible repeat (first | refine qaj ?_ _ | refine qal ?_ | refine qai ?_ _)); exact BK419.out) hb); have n1_ := Aside0.mk (qao (g := gb420) (o := .cells #[.string a1_0, .string a1_1, .int .i64 a1_2, .slice A1_3 l1_3.length c1_3, .int .i64 a1_4] 41 (0, 0)) (by (with_reducible repeat (first | refine qaj ?_ _ | refine qal ?_ | refine qai ?_ _)); exact BK420.out) hb); have n2_ := Aside0.mk (qag (by repeat (first | (with_reducible first | exact HB.out | apply qac | apply qaa | apply qab | refine qah ?_ GE419.out | refine qah ?_ GE420.out) | exact HB.out)) hb); clear BK419 BK420 HB; have BK419 := n0_; have BK420 := n1_; have HB := n2_; clear n0_ n1_ n2_; (try clear hb); (try clear hb2); (try clear hk); (try clear hi)))
     go_ret
     exact ⟨by first | rfl | (simp [qam, qan] <;> rfl) | (simp [*, qam, qan] <;> rfl), by repeat (first | (with_reducible first | exact HB.out | apply qac | apply qaa | apply qab | refine qah ?_ GE419.out | refine qah ?_ GE420.out) | exact HB.out)⟩
   ·rw [if_neg c5] at H
    have c5b0 : (a0_2 == a1_2) = false := beq_eq_false_iff_ne.mpr c5
    have c5b1 : (a0_2 != a1_2) = true := bne_iff_ne.mpr c5
    obtain rfl := Option.some.inj H
    go_enter Try.func23, Try.ntmps23
    go_wp2_with (first | ((with_reducible refine qaM (N := 2) rfl ?_); refine qaN ?hg (N := 2) ?hd (cs := #[.string a0_0, .string a0_1, .int .i64 a0_2, .slice A0_3 l0_3.length c0_3, .int .i64 a0_4]) (t := 41) ?hr ?_; (case hd => rfl); (case hg => rfl); (case hr => first | (go_simp; done) | (go_simp; rfl)); intro gb419 hg w31 hbox hb; have n0_ := Aside0.mk (qag (by repeat (first | (with_reducible first | exact HB.out | apply qac | apply qaa | apply qab) | exact HB.out)) hb); have n1_ := Aside0.mk (hbox); have n2_ := Aside0.mk ((by rw [hg]; exact (qak (by repeat (first | (with_reducible first | exact HB.out | apply qac | apply qaa | apply qab) | exact HB.out))) : w.heap.size ≤ gb419)); have n3_ := Aside0.mk ((by rw [hg]; exact (qak (by repeat (first | (with_reducible first | exact HB.out | apply qac | apply qaa | apply qab) | exact HB.out))) : w.heap.size ≤ gb419)); clear HB; have HB := n0_; have BK419 := n1_; have GW419 := n2_; have GE419 := n3_; clear n0_ n1_ n2_ n3_; clear hb hbox hg) | ((with_reducible refine qaM (N := 3) rfl ?_); refine qaN ?hg (N := 3) ?hd (cs := #[.string a1_0, .string a1_1, .int .i64 a1_2, .slice A1_3 l1_3.length c1_3, .int .i64 a1_4]) (t := 41) ?hr ?_; (case hd => rfl); (case hg => rfl); (case hr => first | (go_simp; done) | (go_simp; rfl)); intro gb420 hg w32 hbox hb; have n0_ := Aside0.mk (qao (g := gb419) (o := .cells #[.string a0_0, .string a0_1, .int .i64 a0_2, .slice A0_3 l0_3.length c0_3, .int .i64 a0_4] 41 (0, 0)) (by (with_reducible repeat (first | refine qaj ?_ _ | refine qal ?_ | refine qai ?_ _)); exact BK419.out) hb); have n1_ := Aside0.mk (qag (by repeat (first | (with_reducible first | exact HB.out | apply qac | apply qaa | apply qab | refine qah ?_ GE419.out) | exact HB.out)) hb); have n2_ := Aside0.mk (hbox); have n3_ := Aside0.mk ((by rw [hg]; exact (qak (by repeat (first | (with_reducible first | exact HB.out | apply qac | apply qaa | apply qab | refine qah ?_ GE419.out) | exact HB.out))) : w.heap.size ≤ gb420)); have n4_ := Aside0.mk ((by rw [hg]; exact (qak (by repeat (first | (with_reducible first | exact HB.out | apply qac | apply qaa | apply qab | refine qah ?_ GE419.out) | exact HB.out))) : w.heap.size ≤ gb420)); have n5_ := Aside0.mk ((by rw [hg]; exact Nat.ne_of_lt (qbm (g := gb419) (o := .cells #[.string a0_0, .string a0_1, .int .i64 a0_2, .slice A0_3 l0_3.length c0_3, .int .i64 a0_4] 41 (0, 0)) (by (with_reducible repeat (first | refine qaj ?_ _ | refine qal ?_ | refine qai ?_ _)); exact BK419.out)) : gb419 ≠ gb420)); have n6_ := Aside0.mk ((by rw [hg]; exact Nat.ne_of_gt (qbm (g := gb419) (o := .cells #[.string a0_0, .string a0_1, .int .i64 a0_2, .slice A0_3 l0_3.length c0_3, .int .i64 a0_4] 41 (0, 0)) (by (with_reducible repeat (first | refine qaj ?_ _ | refine qal ?_ | refine qai ?_ _)); exact BK419.out)) : gb420 ≠ gb419)); clear BK419 HB; have BK419 := n0_; have HB := n1_; have BK420 := n2_; have GW420 := n3_; have GE420 := n4_; have NB419_420 := n5_; have NB420_419 := n6_; clear n0_ n1_ n2_ n3_ n4_ n5_ n6_ hb hbox hg; have hnb33 := NB419_420.out; have hnc33 := NB420_419.out; have hcz34_0 : w32.cell? ⟨gb419, 0, none⟩ = some (.string a0_0) := (qad BK419.out 0).trans rfl; have hcz34_1 : w32.cell? ⟨gb419, 1, none⟩ = some (.string a0_1) := (qad BK419.out 1).trans rfl; have hcz34_2 : w32.cell? ⟨gb419, 2, none⟩ = some (.int .i64 a0_2) := (qad BK419.out 2).trans rfl; have hcz34_3 : w32.cell? ⟨gb419, 3, none⟩ = some (.slice A0_3 l0_3.length c0_3) := (qad BK419.out 3).trans rfl; have hcz34_4 : w32.cell? ⟨gb419, 4, none⟩ = some (.int .i64 a0_4) := (qad BK419.out 4).trans rfl; have hfz34_0 := qae BK419.out 0; have hfz34_1 := qae BK419.out 1; have hfz34_2 := qae BK419.out 2; have hfz34_3 := qae BK419.out 3; have hfz34_4 := qae BK419.out 4; have hcz35_0 : w32.cell? ⟨gb420, 0, none⟩ = some (.string a1_0) := (qad BK420.out 0).trans rfl; have hcz35_1 : w32.cell? ⟨gb420, 1, none⟩ = some (.string a1_1) := (qad BK420.out 1).trans rfl; have hcz35_2 : w32.cell? ⟨gb420, 2, none⟩ = some (.int .i64 a1_2) := (qad BK420.out 2).trans rfl; have hcz35_3 : w32.cell? ⟨gb420, 3, none⟩ = some (.slice A1_3 l1_3.length c1_3) := (qad BK420.out 3).trans rfl; have hcz35_4 : w32.cell? ⟨gb420, 4, none⟩ = some (.int .i64 a1_4) := (qad BK420.out 4).trans rfl; have hfz35_0 := qae BK420.out 0; have hfz35_1 := qae BK420.out 1; have hfz35_2 := qae BK420.out 2; have hfz35_3 := qae BK420.out 3; have hfz35_4 := qae BK420.out 4))
    go_ret
    exact ⟨by first | rfl | (simp [qam, qan] <;> rfl) | (simp [*, qam, qan] <;> rfl), by repeat (first | (with_reducible first | exact HB.out | apply qac | apply qaa | apply qab | refine qah ?_ GE419.out | refine qah ?_ GE420.out) | exact HB.out)⟩
  ·rw [if_neg c4] at H
   have c4b0 : (a0_1.toList == a1_1.toList) = false := beq_eq_false_iff_ne.mpr c4
   have c4b1 : (a0_1.toList != a1_1.toList) = true := bne_iff_ne.mpr c4
   obtain rfl := Option.some.inj H
   go_enter Try.func23, Try.ntmps23
   go_wp2_with (first | ((with_reducible refine qaM (N := 2) rfl ?_); refine qaN ?hg (N := 2) ?hd (cs := #[.string a0_0, .string a0_1, .int .i64 a0_2, .slice A0_3 l0_3.length c0_3, .int .i64 a0_4]) (t := 41) ?hr ?_; (case hd => rfl); (case hg => rfl); (case hr => first | (go_simp; done) | (go_simp; rfl)); intro gb419 hg w36 hbox hb; have n0_ := Aside0.mk (qag (by repeat (first | (with_reducible first | exact HB.out | apply qac | apply qaa | apply qab) | exact HB.out)) hb); have n1_ := Aside0.mk (hbox); have n2_ := Aside0.mk ((by rw [hg]; exact (qak (by repeat (first | (with_reducible first | exact HB.out | apply qac | apply qaa | apply qab) | exact HB.out))) : w.heap.size ≤ gb419)); have n3_ := Aside0.mk ((by rw [hg]; exact (qak (by repeat (first | (with_reducible first | exact HB.out | apply qac | apply qaa | apply qab) | exact HB.out))) : w.heap.size ≤ gb419)); clear HB; have HB := n0_; have BK419 := n1_; have GW419 := n2_; have GE419 := n3_; clear n0_ n1_ n2_ n3_; clear hb hbox hg) | ((with_reducible refine qaM (N := 3) rfl ?_); refine qaN ?hg (N := 3) ?hd (cs := #[.string a1_0, .string a1_1, .int .i64 a1_2, .slice A1_3 l1_3.length c1_3, .int .i64 a1_4]) (t := 41) ?hr ?_; (case hd => rfl); (case hg => rfl); (case hr => first | (go_simp; done) | (go_simp; rfl)); intro gb420 hg w37 hbox hb; have n0_ := Aside0.mk (qao (g := gb419) (o := .cells #[.string a0_0, .string a0_1, .int .i64 a0_2, .slice A0_3 l0_3.length c0_3, .int .i64 a0_4] 41 (0, 0)) (by (with_reducible repeat (first | refine qaj ?_ _ | refine qal ?_ | refine qai ?_ _)); exact BK419.out) hb); have n1_ := Aside0.mk (qag (by repeat (first | (with_reducible first | exact HB.out | apply qac | apply qaa | apply qab | refine qah ?_ GE419.out) | exact HB.out)) hb); have n2_ := Aside0.mk (hbox); have n3_ := Aside0.mk ((by rw [hg]; exact (qak (by repeat (first | (with_reducible first | exact HB.out | apply qac | apply qaa | apply qab | refine qah ?_ GE419.out) | exact HB.out))) : w.heap.size ≤ gb420)); have n4_ := Aside0.mk ((by rw [hg]; exact (qak (by repeat (first | (with_reducible first | exact HB.out | apply qac | apply qaa | apply qab | refine qah ?_ GE419.out) | exact HB.out))) : w.heap.size ≤ gb420)); have n5_ := Aside0.mk ((by rw [hg]; exact Nat.ne_of_lt (qbm (g := gb419) (o := .cells #[.string a0_0, .string a0_1, .int .i64 a0_2, .slice A0_3 l0_3.length c0_3, .int .i64 a0_4] 41 (0, 0)) (by (with_reducible repeat (first | refine qaj ?_ _ | refine qal ?_ | refine qai ?_ _)); exact BK419.out)) : gb419 ≠ gb420)); have n6_ := Aside0.mk ((by rw [hg]; exact Nat.ne_of_gt (qbm (g := gb419) (o := .cells #[.string a0_0, .string a0_1, .int .i64 a0_2, .slice A0_3 l0_3.length c0_3, .int .i64 a0_4] 41 (0, 0)) (by (with_reducible repeat (first | refine qaj ?_ _ | refine qal ?_ | refine qai ?_ _)); exact BK419.out)) : gb420 ≠ gb419)); clear BK419 HB; have BK419 := n0_; have HB := n1_; have BK420 := n2_; have GW420 := n3_; have GE420 := n4_; have NB419_420 := n5_; have NB420_419 := n6_; clear n0_ n1_ n2_ n3_ n4_ n5_ n6_ hb hbox hg; have hnb38 := NB419_420.out; have hnc38 := NB420_419.out; have hcz39_0 : w37.cell? ⟨gb419, 0, none⟩ = some (.string a0_0) := (qad BK419.out 0).trans rfl; have hcz39_1 : w37.cell? ⟨gb419, 1, none⟩ = some (.string a0_1) := (qad BK419.out 1).trans rfl; have hcz39_2 : w37.cell? ⟨gb419, 2, none⟩ = some (.int .i64 a0_2) := (qad BK419.out 2).trans rfl; have hcz39_3 : w37.cell? ⟨gb419, 3, none⟩ = some (.slice A0_3 l0_3.length c0_3) := (qad BK419.out 3).trans rfl; have hcz39_4 : w37.cell? ⟨gb419, 4, none⟩ = some (.int .i64 a0_4) := (qad BK419.out 4).trans rfl; have hfz39_0 := qae BK419.out 0; have hfz39_1 := qae BK419.out 1; have hfz39_2 := qae BK419.out 2; have hfz39_3 := qae BK419.out 3; have hfz39_4 := qae BK419.out 4; have hcz40_0 : w37.cell? ⟨gb420, 0, none⟩ = some (.string a1_0) := (qad BK420.out 0).trans rfl; have hcz40_1 : w37.cell? ⟨gb420, 1, none⟩ = some (.string a1_1) := (qad BK420.out 1).trans rfl; have hcz40_2 : w37.cell? ⟨gb420, 2, none⟩ = some (.int .i64 a1_2) := (qad BK420.out 2).trans rfl; have hcz40_3 : w37.cell? ⟨gb420, 3, none⟩ = some (.slice A1_3 l1_3.length c1_3) := (qad BK420.out 3).trans rfl; have hcz40_4 : w37.cell? ⟨gb420, 4, none⟩ = some (.int .i64 a1_4) := (qad BK420.out 4).trans rfl; have hfz40_0 := qae BK420.out 0; have hfz40_1 := qae BK420.out 1; have hfz40_2 := qae BK420.out 2; have hfz40_3 := qae BK420.out 3; have hfz40_4 := qae BK420.out 4))
   go_ret
   exact ⟨by first | rfl | (simp [qam, qan] <;> rfl) | (simp [*, qam, qan] <;> rfl), by repeat (first | (with_reducible first | exact HB.out | apply qac | apply qaa | apply qab | refine qah ?_ GE419.out | refine qah ?_ GE420.out) | exact HB.out)⟩
 ·rw [if_neg c3] at H
  have c3b0 : (a0_0.toList == a1_0.toList) = false := beq_eq_false_iff_ne.mpr c3
  have c3b1 : (a0_0.toList != a1_0.toList) = true := bne_iff_ne.mpr c3
  obtain rfl := Option.some.inj H
  go_enter Try.func23, Try.ntmps23
  go_wp2_with (first | ((with_reducible refine qaM (N := 2) rfl ?_); refine qaN ?hg (N := 2) ?hd (cs := #[.string a0_0, .string a0_1, .int .i64 a0_2, .slice A0_3 l0_3.length c0_3, .int .i64 a0_4]) (t := 41) ?hr ?_; (case hd => rfl); (case hg => rfl); (case hr => first | (go_simp; done) | (go_simp; rfl)); intro gb419 hg w41 hbox hb; have n0_ := Aside0.mk (qag (by repeat (first | (with_reducible first | exact HB.out | apply qac | apply qaa | apply qab) | exact HB.out)) hb); have n1_ := Aside0.mk (hbox); have n2_ := Aside0.mk ((by rw [hg]; exact (qak (by repeat (first | (with_reducible first | exact HB.out | apply qac | apply qaa | apply qab) | exact HB.out))) : w.heap.size ≤ gb419)); have n3_ := Aside0.mk ((by rw [hg]; exact (qak (by repeat (first | (with_reducible first | exact HB.out | apply qac | apply qaa | apply qab) | exact HB.out))) : w.heap.size ≤ gb419)); clear HB; have HB := n0_; have BK419 := n1_; have GW419 := n2_; have GE419 := n3_; clear n0_ n1_ n2_ n3_; clear hb hbox hg) | ((with_reducible refine qaM (N := 3) rfl ?_); refine qaN ?hg (N := 3) ?hd (cs := #[.string a1_0, .string a1_1, .int .i64 a1_2, .slice A1_3 l1_3.length c1_3, .int .i64 a1_4]) (t := 41) ?hr ?_; (case hd => rfl); (case hg => rfl); (case hr => first | (go_simp; done) | (go_simp; rfl)); intro gb420 hg w42 hbox hb; have n0_ := Aside0.mk (qao (g := gb419) (o := .cells #[.string a0_0, .string a0_1, .int .i64 a0_2, .slice A0_3 l0_3.length c0_3, .int .i64 a0_4] 41 (0, 0)) (by (with_reducible repeat (first | refine qaj ?_ _ | refine qal ?_ | refine qai ?_ _)); exact BK419.out) hb); have n1_ := Aside0.mk (qag (by repeat (first | (with_reducible first | exact HB.out | apply qac | apply qaa | apply qab | refine qah ?_ GE419.out) | exact HB.out)) hb); have n2_ := Aside0.mk (hbox); have n3_ := Aside0.mk ((by rw [hg]; exact (qak (by repeat (first | (with_reducible first | exact HB.out | apply qac | apply qaa | apply qab | refine qah ?_ GE419.out) | exact HB.out))) : w.heap.size ≤ gb420)); have n4_ := Aside0.mk ((by rw [hg]; exact (qak (by repeat (first | (with_reducible first | exact HB.out | apply qac | apply qaa | apply qab | refine qah ?_ GE419.out) | exact HB.out))) : w.heap.size ≤ gb420)); have n5_ := Aside0.mk ((by rw [hg]; exact Nat.ne_of_lt (qbm (g := gb419) (o := .cells #[.string a0_0, .string a0_1, .int .i64 a0_2, .slice A0_3 l0_3.length c0_3, .int .i64 a0_4] 41 (0, 0)) (by (with_reducible repeat (first | refine qaj ?_ _ | refine qal ?_ | refine qai ?_ _)); exact BK419.out)) : gb419 ≠ gb420)); have n6_ := Aside0.mk ((by rw [hg]; exact Nat.ne_of_gt (qbm (g := gb419) (o := .cells #[.string a0_0, .string a0_1, .int .i64 a0_2, .slice A0_3 l0_3.length c0_3, .int .i64 a0_4] 41 (0, 0)) (by (with_reducible repeat (first | refine qaj ?_ _ | refine qal ?_ | refine qai ?_ _)); exact BK419.out)) : gb420 ≠ gb419)); clear BK419 HB; have BK419 := n0_; have HB := n1_; have BK420 := n2_; have GW420 := n3_; have GE420 := n4_; have NB419_420 := n5_; have NB420_419 := n6_; clear n0_ n1_ n2_ n3_ n4_ n5_ n6_ hb hbox hg; have hnb43 := NB419_420.out; have hnc43 := NB420_419.out; have hcz44_0 : w42.cell? ⟨gb419, 0, none⟩ = some (.string a0_0) := (qad BK419.out 0).trans rfl; have hcz44_1 : w42.cell? ⟨gb419, 1, none⟩ = some (.string a0_1) := (qad BK419.out 1).trans rfl; have hcz44_2 : w42.cell? ⟨gb419, 2, none⟩ = some (.int .i64 a0_2) := (qad BK419.out 2).trans rfl; have hcz44_3 : w42.cell? ⟨gb419, 3, none⟩ = some (.slice A0_3 l0_3.length c0_3) := (qad BK419.out 3).trans rfl; have hcz44_4 : w42.cell? ⟨gb419, 4, none⟩ = some (.int .i64 a0_4) := (qad BK419.out 4).trans rfl; have hfz44_0 := qae BK419.out 0; have hfz44_1 := qae BK419.out 1; have hfz44_2 := qae BK419.out 2; have hfz44_3 := qae BK419.out 3; have hfz44_4 := qae BK419.out 4; have hcz45_0 : w42.cell? ⟨gb420, 0, none⟩ = some (.string a1_0) := (qad BK420.out 0).trans rfl; have hcz45_1 : w42.cell? ⟨gb420, 1, none⟩ = some (.string a1_1) := (qad BK420.out 1).trans rfl; have hcz45_2 : w42.cell? ⟨gb420, 2, none⟩ = some (.int .i64 a1_2) := (qad BK420.out 2).trans rfl; have hcz45_3 : w42.cell? ⟨gb420, 3, none⟩ = some (.slice A1_3 l1_3.length c1_3) := (qad BK420.out 3).trans rfl; have hcz45_4 : w42.cell? ⟨gb420, 4, none⟩ = some (.int .i64 a1_4) := (qad BK420.out 4).trans rfl; have hfz45_0 := qae BK420.out 0; have hfz45_1 := qae BK420.out 1; have hfz45_2 := qae BK420.out 2; have hfz45_3 := qae BK420.out 3; have hfz45_4 := qae BK420.out 4))
  go_ret
  exact ⟨by first | rfl | (simp [qam, qan] <;> rfl) | (simp [*, qam, qan] <;> rfl), by repeat (first | (with_reducible first | exact HB.out | apply qac | apply qaa | apply qab | refine qah ?_ GE419.out | refine qah ?_ GE420.out) | exact HB.out)⟩
def len41 (x : S41) : Prop := True ∧ True ∧ True ∧ (x.f3.length ≤ 9223372036854775807 ∧ ∀ y ∈ x.f3, len56 y) ∧ True
theorem qi1 (x : S41) (h : len41 x) : Ev (fun k => qbJ.f k (x.f0) (x.f1) (x.f2) (x.f3) (x.f4) (x.f0) (x.f1) (x.f2) (x.f3) (x.f4)) true := by
 unfold qbJ.f
 exact Ev.pos rfl (Ev.pos rfl (Ev.pos rfl (Ev.bind (eq_DiffS _ h.2.2.2.1) (Ev.pos rfl (Ev.pos rfl (Ev.is rfl))))))
def qaP.l0 : Nat → List (S41) → List (S41) → Int → Option (Bool)
 | 0, _, _, _ => none
 | k + 1, x0, x1, x5 => if x5 < (x0.length : Int) then (if 0 ≤ x5 then (if x5 < (x1.length : Int) then ((qbJ.f k ((qbc x0 x5).f0) ((qbc x0 x5).f1) ((qbc x0 x5).f2) ((qbc x0 x5).f3) ((qbc x0 x5).f4) ((qbc x1 x5).f0) ((qbc x1 x5).f1) ((qbc x1 x5).f2) ((qbc x1 x5).f3) ((qbc x1 x5).f4)).bind fun t424 => (if t424 = true then (qaP.l0 k x0 x1 (wrap64 (x5 + 1))) else (some false))) else (none)) else (none)) else (some true)
def qaP.f (k : Nat) (l0 : List (S41)) (l1 : List (S41)) : Option (Bool) := if (l0.length : Int) = (l1.length : Int) then (qaP.l0 k l0 l1 0) else (some false)
theorem qaP.qbA : ∀ k, (∀ y0 y1 y2, LeO (qaP.l0 k y0 y1 y2) (qaP.l0 (k + 1) y0 y1 y2))
 | 0 => fun _ _ _ r h => by simp [qaP.l0] at h
 | k + 1 => by
  have ih0 := qaP.qbA k
  ·intro y0 y1 y2
   unfold qaP.l0
   repeat' first
   | (with_reducible exact ih0 _ _ _)
   | (with_reducible exact qbJ.mono _ _ _ _ _ _ _ _ _ _ _)
   | (with_reducible exact LeO.refl _)
   | (with_reducible exact LeO.none _)
   | (with_reducible refine LeO.ite ?_ ?_)
   | (with_reducible refine LeO.bind ?_ (fun _ => ?_))
   | exact ih0 _ _ _
   | exact qbJ.mono _ _ _ _ _ _ _ _ _ _ _
   | exact LeO.none _
   | refine LeO.ite ?_ ?_
   | refine LeO.bind ?_ (fun _ => ?_)
def qaP.T6 : Bool × List (List Nat × List Nat) := (true, [([], []), ([], []), ([0, 1], [0, 1]), ([2], [2]), ([], []), ([], []), ([4, 5], [4, 5]), ([6], [6]), ([3, 7], [3, 7]), ([8], [8])])
def qaP.B6 : List Nat := [0, 0, 3, 7, 0, 0, 48, 112, 255, 511]
theorem qaP.tab6 : rtab .any (opsOf Try.f9 6) = qaP.T6 := by kernel_rfl
theorem qaP.bits6 : qcs qaP.T6.2 qaP.B6 = true := by kernel_rfl
set_option maxHeartbeats 8000000 in
set_option maxRecDepth 100000 in
theorem qaP.calls (k : Nat) (A0 : Option Addr) (c0 : Nat) (l0 : List (S41)) (A1 : Option Addr) (c1 : Nat) (l1 : List (S41)) (r : Bool) (w : World) (hr0 : Kd.C k41 w A0 l0.length l0) (hc0 : l0.length ≤ c0) (hr1 : Kd.C k41 w A1 l1.length l1) (hc1 : l1.length ≤ c1) (h : qaP.f k l0 l1 = some r) :
  Calls Try.prog 9 #[.slice A0 l0.length c0, .slice A1 l1.length c1] w fun e w' => e = .returned (.bool r) ∧ Below w.heap.size w w' := by
 have hu41 := Try.underlying41
 have HR0 := Aside0.mk hr0
 have HC0 := Aside0.mk hc0
 clear hr0 hc0
 have HR1 := Aside0.mk hr1
 have HC1 := Aside0.mk hc1
 clear hr1 hc1
 have HB := Aside0.mk (Below.refl w.heap.size w)
 have H : (if (l0.length : Int) = (l1.length : Int) then (qaP.l0 k l0 l1 0) else (some false)) = some r := h
 clear h
 by_cases c3 : (l0.length : Int) = (l1.length : Int)
 ·rw [if_pos c3] at H
  have c3b0 : ((l0.length : Int) == (l1.length : Int)) = true := beq_iff_eq.mpr c3
  have c3b1 : ((l0.length : Int) != (l1.length : Int)) = false := bne_eq_false_iff_eq.mpr c3
  have c3b2 : (l0.length == l1.length) = true := by first | simpa using c3 | (simp at c3 ⊢; omega)
  clear c3
  have H' := Aside0.mk H
  clear H
  go_enter Try.func9, Try.ntmps9
  go_wp2
  go_loopg [5] k (fun kq v5 w' => ∃ (x5_1 : Int), v5 = .int .i64 x5_1 ∧ Aside0 (qaP.l0 kq l0 l1 x5_1 = some r) ∧ Aside0 (kq ≤ k) ∧ Aside0 (Below w.heap.size w w'))
  case atStart => exact ⟨(0), (by first | rfl | (simp; done) | (simp [*]; done)), H', ⟨Nat.le_refl _⟩, ⟨by repeat (first | (with_reducible first | exact HB.out | apply qac | apply qaa | apply qab) | exact HB.out)⟩⟩
  case round =>
   clear H'
   try clear c1
   try clear p2
   try clear c3
   try clear c3b0
   try clear c3b1
   try clear c3b2
   obtain ⟨x5_1, rfl, HA, HK1, HB⟩ := hrel
   cases gk with
   | zero => exact absurd HA.out (by simp [qaP.l0])
   | succ k1 =>
    have H := HA.out
    clear HA
    simp only [qaP.l0] at H
    by_cases c4 : x5_1 < (l0.length : Int)
    ·rw [if_pos c4] at H
     have c4b0 : decide (x5_1 < (l0.length : Int)) = true := decide_eq_true c4
     clear c4
     by_cases c5 : 0 ≤ x5_1
     ·rw [if_pos c5] at H
      have c5b0 : decide (0 ≤ x5_1) = true := decide_eq_true c5
      clear c5
      by_cases c6 : x5_1 < (l1.length : Int)
      ·rw [if_pos c6] at H
       have c6b0 : decide (x5_1 < (l1.length : Int)) = true := decide_eq_true c6
       clear c6
       replace H := Option.bind_eq_some_iff.mp H
       obtain ⟨t424, A70, H⟩ := H
       try dsimp only at H
       have A7 := Aside0.mk A70
       clear A70
       by_cases c8 : t424 = true
       ·subst c8
        have H1 : (qaP.l0 k1 l0 l1 (wrap64 (x5_1 + 1))) = some r := by rw [if_pos rfl] at H; exact H
        clear H
        have H := H1
        clear H1
        have H' := Aside0.mk H
        clear H
        try go_wp2
        have n0_ := Aside0.mk (qab HB.out)
        clear HB
        have HB := n0_
        clear n0_
        have p422 : 0 ≤ (x5_1 : Int) := of_decide_eq_true (by first | (with_reducible assumption) | assumption)
        have q422 : x5_1 < (l0.length : Int) := of_decide_eq_true (by first | (with_reducible assumption) | assumption)
        obtain ⟨ad422, A422_3, c422_3, e422, hx422_0, hx422_1, hx422_2, hx422_3, hx422_4, hl422_3, hi422_3⟩ := qeH HR0.out x5_1 p422 q422
        have hw422_4 := hx422_4
        have hw422_3 := hx422_3
        have hw422_2 := hx422_2
        have hw422_1 := hx422_1
        have hw422_0 := hx422_0
        cases e422
        replace hx422_0 := (HB.out.cell (World.block_lt_of_cell? w _ hx422_0)).trans hx422_0
        replace hx422_1 := (HB.out.cell (World.block_lt_of_cell? w _ hx422_1)).trans hx422_1
        replace hx422_2 := (HB.out.cell (World.block_lt_of_cell? w _ hx422_2)).trans hx422_2
        replace hx422_3 := (HB.out.cell (World.block_lt_of_cell? w _ hx422_3)).trans hx422_3
        replace hx422_4 := (HB.out.cell (World.block_lt_of_cell? w _ hx422_4)).trans hx422_4
        have HR422_3 := Aside0.mk hi422_3
        have HC422_3 := Aside0.mk hl422_3
        clear hi422_3 hl422_3
        replace p422 := eq_true p422
        replace q422 := eq_true q422
        have p423 : 0 ≤ (x5_1 : Int) := of_decide_eq_true (by first | (with_reducible assumption) | assumption)
        have q423 : x5_1 < (l1.length : Int) := of_decide_eq_true (by first | (with_reducible assumption) | assumption)
        obtain ⟨ad423, A423_3, c423_3, e423, hx423_0, hx423_1, hx423_2, hx423_3, hx423_4, hl423_3, hi423_3⟩ := qeH HR1.out x5_1 p423 q423
        have hw423_4 := hx423_4
        have hw423_3 := hx423_3
        have hw423_2 := hx423_2
        have hw423_1 := hx423_1
        have hw423_0 := hx423_0
        cases e423
        replace hx423_0 := (HB.out.cell (World.block_lt_of_cell? w _ hx423_0)).trans hx423_0
        replace hx423_1 := (HB.out.cell (World.block_lt_of_cell? w _ hx423_1)).trans hx423_1
        replace hx423_2 := (HB.out.cell (World.block_lt_of_cell? w _ hx423_2)).trans hx423_2
        replace hx423_3 := (HB.out.cell (World.block_lt_of_cell? w _ hx423_3)).trans hx423_3
        replace hx423_4 := (HB.out.cell (World.block_lt_of_cell? w _ hx423_4)).trans hx423_4
        have HR423_3 := Aside0.mk hi423_3
        have HC423_3 := Aside0.mk hl423_3
        clear hi423_3 hl423_3
        replace p423 := eq_true p423
        replace q423 := eq_true q423
        refine qen (n := 10) (S := fun w' => w'.cell? (ad422.add ((x5_1).toNat * 5)) = some (.string ((qbc l0 x5_1).f0)) ∧ w'.cell? ⟨(ad422.add ((x5_1).toNat * 5)).block, (ad422.add ((x5_1).toNat * 5)).off + 1, none⟩ = some (.string ((qbc l0 x5_1).f1)) ∧ w'.cell? ⟨(ad422.add ((x5_1).toNat * 5)).block, (ad422.add ((x5_1).toNat * 5)).off + 2, none⟩ = some (.int .i64 ((qbc l0 x5_1).f2)) ∧ w'.cell? ⟨(ad422.add ((x5_1).toNat * 5)).block, (ad422.add ((x5_1).toNat * 5)).off + 3, none⟩ = some (.slice A422_3 ((qbc l0 x5_1).f3).length c422_3) ∧ w'.cell? ⟨(ad422.add ((x5_1).toNat * 5)).block, (ad422.add ((x5_1).toNat * 5)).off + 4, none⟩ = some (.int .i64 ((qbc l0 x5_1).f4)) ∧ w'.cell? (ad423.add ((x5_1).toNat * 5)) = some (.string ((qbc l1 x5_1).f0)) ∧ w'.cell? ⟨(ad423.add ((x5_1).toNat * 5)).block, (ad423.add ((x5_1).toNat * 5)).off + 1, none⟩ = some (.string ((qbc l1 x5_1).f1)) ∧ w'.cell? ⟨(ad423.add ((x5_1).toNat * 5)).block, (ad423.add ((x5_1).toNat * 5)).off + 2, none⟩ = some (.int .i64 ((qbc l1 x5_1).f2)) ∧ w'.cell? ⟨(ad423.add ((x5_1).toNat * 5)).block, (ad423.add ((x5_1).toNat * 5)).off + 3, none⟩ = some (.slice A423_3 ((qbc l1 x5_1).f3).length c423_3) ∧ w'.cell? ⟨(ad423.add ((x5_1).toNat * 5)).block, (ad423.add ((x5_1).toNat * 5)).off + 4, none⟩ = some (.int .i64 ((qbc l1 x5_1).f4))) (ds := []) #[false, false, false, false, false, false, false, false, false, false] (by kernel_rfl) rfl rfl ⟨((HB.out.cell (World.block_lt_of_cell? w _ hw422_0)).trans hw422_0), ((HB.out.cell (World.block_lt_of_cell? w _ hw422_1)).trans hw422_1), ((HB.out.cell (World.block_lt_of_cell? w _ hw422_2)).trans hw422_2), ((HB.out.cell (World.block_lt_of_cell? w _ hw422_3)).trans hw422_3), ((HB.out.cell (World.block_lt_of_cell? w _ hw422_4)).trans hw422_4), ((HB.out.cell (World.block_lt_of_cell? w _ hw423_0)).trans hw423_0), ((HB.out.cell (World.block_lt_of_cell? w _ hw423_1)).trans hw423_1), ((HB.out.cell (World.block_lt_of_cell? w _ hw423_2)).trans hw423_2), ((HB.out.cell (World.block_lt_of_cell? w _ hw423_3)).trans hw423_3), ((HB.out.cell (World.block_lt_of_cell? w _ hw423_4)).trans hw423_4)⟩ (fun hHeld => ?_); refine qcV qaP.tab6 qaP.bits6 (fun HT_ HW_ => ?_)
        generalize wr.drew = w9 at HB HR422_3 HR423_3 hx422_0 hx422_1 hx422_2 hx422_3 hx422_4 hx423_0 hx423_1 hx423_2 hx423_3 hx423_4 hHeld ⊢
        refine qb1 (i := 0) (N := some 17) (v := ?_) (a' := ?_) #[true, false, false, false, false, false, false, false, false, false] rfl rfl (qbu HT_.out (by kernel_rfl)) (fun _ _ _ h => h) (Or.inl ⟨by rfl, ?_⟩) ?_ ?_
        rotate_left
        ·intro w'
         go_simp
         with_reducible rfl
        rotate_left
        ·simp only [Act.put, List.setIfInBounds_toArray, List.set_cons_zero, List.set_cons_succ, qbe, qbo]
         rfl
        refine qb1 (i := 1) (N := some 18) (v := ?_) (a' := ?_) #[true, true, false, false, false, false, false, false, false, false] rfl rfl (qbu HT_.out (by kernel_rfl)) (fun _ _ _ h => h) (Or.inl ⟨by rfl, ?_⟩) ?_ ?_
        rotate_left
        ·intro w'
         go_simp
         with_reducible rfl
        rotate_left
        ·simp only [Act.put, List.setIfInBounds_toArray, List.set_cons_zero, List.set_cons_succ, qbe, qbo]
         rfl
        refine qb1 (i := 2) (N := some 19) (v := ?_) (a' := ?_) #[true, true, true, false, false, false, false, false, false, false] rfl rfl (qbu HT_.out (by kernel_rfl)) (fun _ _ _ h => h) (Or.inl ⟨by rfl, ?_⟩) ?_ ?_
        rotate_left
        ·intro w'
         go_simp
         with_reducible rfl
        rotate_left
        ·simp only [Act.put, List.setIfInBounds_toArray, List.set_cons_zero, List.set_cons_succ, qbe, qbo]
         rfl
        refine qb1 (i := 4) (N := some 21) (v := ?_) (a' := ?_) #[true, true, true, false, true, false, false, false, false, false] rfl rfl (qbu HT_.out (by kernel_rfl)) (fun _ _ _ h => h) (Or.inl ⟨by rfl, ?_⟩) ?_ ?_
        rotate_left
        ·intro w'
         go_simp
         with_reducible rfl
        rotate_left
        ·simp only [Act.put, List.setIfInBounds_toArray, List.set_cons_zero, List.set_cons_succ, qbe, qbo]
         rfl
        refine qb1 (i := 5) (N := some 22) (v := ?_) (a' := ?_) #[true, true, true, false, true, true, false, false, false, false] rfl rfl (qbu HT_.out (by kernel_rfl)) (fun _ _ _ h => h) (Or.inl ⟨by rfl, ?_⟩) ?_ ?_
        rotate_left
        ·intro w'
         go_simp
         with_reducible rfl
        rotate_left
        ·simp only [Act.put, List.setIfInBounds_toArray, List.set_cons_zero, List.set_cons_succ, qbe, qbo]
         rfl
        refine qb1 (i := 6) (N := some 23) (v := ?_) (a' := ?_) #[true, true, true, false, true, true, true, false, false, false] rfl rfl (qbu HT_.out (by kernel_rfl)) (fun _ _ _ h => h) (Or.inl ⟨by rfl, ?_⟩) ?_ ?_
        rotate_left
        ·intro w'
         go_simp
         with_reducible rfl
        rotate_left
        ·simp only [Act.put, List.setIfInBounds_toArray, List.set_cons_zero, List.set_cons_succ, qbe, qbo]
         rfl
        refine qdK (i := 3) (N := some 20) (v := ?_) (a' := ?_) #[true, true, true, true, true, true, true, false, false, false] rfl rfl (qco HT_.out HW_.out (by kernel_rfl)) (fun _ _ _ h => h) (Or.inl ⟨by rfl, ?_⟩) hHeld ?_ ?_
        rotate_left
        ·rintro w' ⟨s0, s1, s2, s3, s4, s5, s6, s7, s8, s9⟩
         go_simp
         with_reducible rfl
        rotate_left
        ·simp only [Act.put, List.setIfInBounds_toArray, List.set_cons_zero, List.set_cons_succ, qbe, qbo]
         rfl
        refine qdK (i := 7) (N := some 24) (v := ?_) (a' := ?_) #[true, true, true, true, true, true, true, true, false, false] rfl rfl (qco HT_.out HW_.out (by kernel_rfl)) (fun _ _ _ h => h) (Or.inl ⟨by rfl, ?_⟩) hHeld ?_ ?_
        rotate_left
        ·rintro w' ⟨s0, s1, s2, s3, s4, s5, s6, s7, s8, s9⟩
         go_simp
         with_reducible rfl
        rotate_left
        ·simp only [Act.put, List.setIfInBounds_toArray, List.set_cons_zero, List.set_cons_succ, qbe, qbo]
         rfl
        refine one_ (i := 8) (N := some 25) #[true, true, true, true, true, true, true, true, true, false] rfl rfl (qdc HT_.out (by kernel_rfl)) (by decide) (fun K hK => ?_)
        refine qdg Try.func23 (by kernel_rfl) rfl #[.agg #[.string ((qbc l0 x5_1).f0), .string ((qbc l0 x5_1).f1), .int .i64 ((qbc l0 x5_1).f2), .slice A422_3 ((qbc l0 x5_1).f3).length c422_3, .int .i64 ((qbc l0 x5_1).f4)], .agg #[.string ((qbc l1 x5_1).f0), .string ((qbc l1 x5_1).f1), .int .i64 ((qbc l1 x5_1).f2), .slice A423_3 ((qbc l1 x5_1).f3).length c423_3, .int .i64 ((qbc l1 x5_1).f4)]] (by rfl) rfl rfl (by (try simp only [List.map_toArray, List.map_cons, List.map_nil]); first | done | rfl | (simp only [List.length_drop, List.length_take]; rfl)) ?_
        with_reducible refine (qbJ.calls k1 ((qbc l0 x5_1).f0) ((qbc l0 x5_1).f1) ((qbc l0 x5_1).f2) _ _ ((qbc l0 x5_1).f3) ((qbc l0 x5_1).f4) ((qbc l1 x5_1).f0) ((qbc l1 x5_1).f1) ((qbc l1 x5_1).f2) _ _ ((qbc l1 x5_1).f3) ((qbc l1 x5_1).f4) true _ ?side1 ?side2 ?side3 ?side4 A7.out).mono ?_
        (case side1 => repeat (first | exact (Kd.qa8 HR422_3.out HB.out) | (with_reducible refine Kd.qa9 ?_ _) | (with_reducible refine Kd.qba ?_ _) | (with_reducible refine Kd.qbl ?_)))
        (case side2 => exact HC422_3.out)
        (case side3 => repeat (first | exact (Kd.qa8 HR423_3.out HB.out) | (with_reducible refine Kd.qa9 ?_ _) | (with_reducible refine Kd.qba ?_ _) | (with_reducible refine Kd.qbl ?_)))
        (case side4 => exact HC423_3.out)
        rintro e w10 ⟨rfl, hb⟩
        refine ⟨_, rfl, ?_⟩
        have n0_ := Aside0.mk (qag (by repeat (first | (with_reducible first | exact HB.out | apply qac | apply qaa | apply qab) | exact HB.out)) hb)
        clear HB
        have HB := n0_
        clear n0_
        (try clear hb)
        (try clear hb2)
        (try clear hk)
        (try clear hi)
        refine hK.out _ _ ⟨((HB.out.cell (World.block_lt_of_cell? w _ hw422_0)).trans hw422_0), ((HB.out.cell (World.block_lt_of_cell? w _ hw422_1)).trans hw422_1), ((HB.out.cell (World.block_lt_of_cell? w _ hw422_2)).trans hw422_2), ((HB.out.cell (World.block_lt_of_cell? w _ hw422_3)).trans hw422_3), ((HB.out.cell (World.block_lt_of_cell? w _ hw422_4)).trans hw422_4), ((HB.out.cell (World.block_lt_of_cell? w _ hw423_0)).trans hw423_0), ((HB.out.cell (World.block_lt_of_cell? w _ hw423_1)).trans hw423_1), ((HB.out.cell (World.block_lt_of_cell? w _ hw423_2)).trans hw423_2), ((HB.out.cell (World.block_lt_of_cell? w _ hw423_3)).trans hw423_3), ((HB.out.cell (World.block_lt_of_cell? w _ hw423_4)).trans hw423_4)⟩ (fun hHeld => ?_)
        clear hK K
        refine qb5 (a' := ?_) ?_ ?_
        rotate_left
        ·show Act.put _ (some 25) _ = _
         simp only [Act.put, List.setIfInBounds_toArray, List.set_cons_zero, List.set_cons_succ, qbe, qbo]
         rfl
        refine qb1 (i := 9) (N := some 26) (v := ?_) (a' := ?_) #[true, true, true, true, true, true, true, true, true, true] rfl rfl (qbu HT_.out (by kernel_rfl)) (fun _ _ _ h => h) (Or.inl ⟨by rfl, ?_⟩) ?_ ?_
        rotate_left
        ·intro w'
         go_simp
         with_reducible rfl
        rotate_left
        ·simp only [Act.put, List.setIfInBounds_toArray, List.set_cons_zero, List.set_cons_succ, qbe, qbo]
         rfl
        refine qgS (qeb HT_.out (by kernel_rfl)) ?_
        try go_wp2
        go_roundg k1
        case measure => have := HK1.out; omega
        case rel => exact ⟨(wrap64 (x5_1 + 1)), (by first | rfl | (simp; done) | (simp [*]; done)), H', ⟨by have := HK1.out; omega⟩, ⟨by repeat (first | (with_reducible first | exact HB.out | apply qac | apply qaa | apply qab) | exact HB.out)⟩⟩
       ·replace c8 := Bool.eq_false_iff.mpr c8
        subst c8
        have H1 : (some false) = some r := by rw [if_neg (show ¬ (false = true) by decide)] at H; exact H
        clear H
        have H := H1
        clear H1
        obtain rfl := Option.some.inj H
        try go_wp2
        have n0_ := Aside0.mk (qab HB.out)
        clear HB
        have HB := n0_
        clear n0_
        have p422 : 0 ≤ (x5_1 : Int) := of_decide_eq_true (by first | (with_reducible assumption) | assumption)
        have q422 : x5_1 < (l0.length : Int) := of_decide_eq_true (by first | (with_reducible assumption) | assumption)
        obtain ⟨ad422, A422_3, c422_3, e422, hx422_0, hx422_1, hx422_2, hx422_3, hx422_4, hl422_3, hi422_3⟩ := qeH HR0.out x5_1 p422 q422
        have hw422_4 := hx422_4
        have hw422_3 := hx422_3
        have hw422_2 := hx422_2
        have hw422_1 := hx422_1
        have hw422_0 := hx422_0
        cases e422
        replace hx422_0 := (HB.out.cell (World.block_lt_of_cell? w _ hx422_0)).trans hx422_0
        replace hx422_1 := (HB.out.cell (World.block_lt_of_cell? w _ hx422_1)).trans hx422_1
        replace hx422_2 := (HB.out.cell (World.block_lt_of_cell? w _ hx422_2)).trans hx422_2
        replace hx422_3 := (HB.out.cell (World.block_lt_of_cell? w _ hx422_3)).trans hx422_3
        replace hx422_4 := (HB.out.cell (World.block_lt_of_cell? w _ hx422_4)).trans hx422_4
        have HR422_3 := Aside0.mk hi422_3
        have HC422_3 := Aside0.mk hl422_3
        clear hi422_3 hl422_3
        replace p422 := eq_true p422
        replace q422 := eq_true q422
        have p423 : 0 ≤ (x5_1 : Int) := of_decide_eq_true (by first | (with_reducible assumption) | assumption)
        have q423 : x5_1 < (l1.length : Int) := of_decide_eq_true (by first | (with_reducible assumption) | assumption)
        obtain ⟨ad423, A423_3, c423_3, e423, hx423_0, hx423_1, hx423_2, hx423_3, hx423_4, hl423_3, hi423_3⟩ := qeH HR1.out x5_1 p423 q423
        have hw423_4 := hx423_4
        have hw423_3 := hx423_3
        have hw423_2 := hx423_2
        have hw423_1 := hx423_1
        have hw423_0 := hx423_0
        cases e423
        replace hx423_0 := (HB.out.cell (World.block_lt_of_cell? w _ hx423_0)).trans hx423_0
        replace hx423_1 := (HB.out.cell (World.block_lt_of_cell? w _ hx423_1)).trans hx423_1
        replace hx423_2 := (HB.out.cell (World.block_lt_of_cell? w _ hx423_2)).trans hx423_2
        replace hx423_3 := (HB.out.cell (World.block_lt_of_cell? w _ hx423_3)).trans hx423_3
        replace hx423_4 := (HB.out.cell (World.block_lt_of_cell? w _ hx423_4)).trans hx423_4
        have HR423_3 := Aside0.mk hi423_3
        have HC423_3 := Aside0.mk hl423_3
        clear hi423_3 hl423_3
        replace p423 := eq_true p423
        replace q423 := eq_true q423
        refine qen (n := 10) (S := fun w' => w'.cell? (ad422.add ((x5_1).toNat * 5)) = some (.string ((qbc l0 x5_1).f0)) ∧ w'.cell? ⟨(ad422.add ((x5_1).toNat * 5)).block, (ad422.add ((x5_1).toNat * 5)).off + 1, none⟩ = some (.string ((qbc l0 x5_1).f1)) ∧ w'.cell? ⟨(ad422.add ((x5_1).toNat * 5)).block, (ad422.add ((x5_1).toNat * 5)).off + 2, none⟩ = some (.int .i64 ((qbc l0 x5_1).f2)) ∧ w'.cell? ⟨(ad422.add ((x5_1).toNat * 5)).block, (ad422.add ((x5_1).toNat * 5)).off + 3, none⟩ = some (.slice A422_3 ((qbc l0 x5_1).f3).length c422_3) ∧ w'.cell? ⟨(ad422.add ((x5_1).toNat * 5)).block, (ad422.add ((x5_1).toNat * 5)).off + 4, none⟩ = some (.int .i64 ((qbc l0 x5_1).f4)) ∧ w'.cell? (ad423.add ((x5_1).toNat * 5)) = some (.string ((qbc l1 x5_1).f0)) ∧ w'.cell? ⟨(ad423.add ((x5_1).toNat * 5)).block, (ad423.add ((x5_1).toNat * 5)).off + 1, none⟩ = some (.string ((qbc l1 x5_1).f1)) ∧ w'.cell? ⟨(ad423.add ((x5_1).toNat * 5)).block, (ad423.add ((x5_1).toNat * 5)).off + 2, none⟩ = some (.int .i64 ((qbc l1 x5_1).f2)) ∧ w'.cell? ⟨(ad423.add ((x5_1).toNat * 5)).block, (ad423.add ((x5_1).toNat * 5)).off + 3, none⟩ = some (.slice A423_3 ((qbc l1 x5_1).f3).length c423_3) ∧ w'.cell? ⟨(ad423.add ((x5_1).toNat * 5)).block, (ad423.add ((x5_1).toNat * 5)).off + 4, none⟩ = some (.int .i64 ((qbc l1 x5_1).f4))) (ds := []) #[false, false, false, false, false, false, false, false, false, false] (by kernel_rfl) rfl rfl ⟨((HB.out.cell (World.block_lt_of_cell? w _ hw422_0)).trans hw422_0), ((HB.out.cell (World.block_lt_of_cell? w _ hw422_1)).trans hw422_1), ((HB.out.cell (World.block_lt_of_cell? w _ hw422_2)).trans hw422_2), ((HB.out.cell (World.block_lt_of_cell? w _ hw422_3)).trans hw422_3), ((HB.out.cell (World.block_lt_of_cell? w _ hw422_4)).trans hw422_4), ((HB.out.cell (World.block_lt_of_cell? w _ hw423_0)).trans hw423_0), ((HB.out.cell (World.block_lt_of_cell? w _ hw423_1)).trans hw423_1), ((HB.out.cell (World.block_lt_of_cell? w _ hw423_2)).trans hw423_2), ((HB.out.cell (World.block_lt_of_cell? w _ hw423_3)).trans hw423_3), ((HB.out.cell (World.block_lt_of_cell? w _ hw423_4)).trans hw423_4)⟩ (fun hHeld => ?_); refine qcV qaP.tab6 qaP.bits6 (fun HT_ HW_ => ?_)
        generalize wr.drew = w11 at HB HR422_3 HR423_3 hx422_0 hx422_1 hx422_2 hx422_3 hx422_4 hx423_0 hx423_1 hx423_2 hx423_3 hx423_4 hHeld ⊢
        refine qb1 (i := 0) (N := some 17) (v := ?_) (a' := ?_) #[true, false, false, false, false, false, false, false, false, false] rfl rfl (qbu HT_.out (by kernel_rfl)) (fun _ _ _ h => h) (Or.inl ⟨by rfl, ?_⟩) ?_ ?_
        rotate_left
        ·intro w'
         go_simp
         with_reducible rfl
        rotate_left
        ·simp only [Act.put, List.setIfInBounds_toArray, List.set_cons_zero, List.set_cons_succ, qbe, qbo]
         rfl
        refine qb1 (i := 1) (N := some 18) (v := ?_) (a' := ?_) #[true, true, false, false, false, false, false, false, false, false] rfl rfl (qbu HT_.out (by kernel_rfl)) (fun _ _ _ h => h) (Or.inl ⟨by rfl, ?_⟩) ?_ ?_
        rotate_left
        ·intro w'
         go_simp
         with_reducible rfl
        rotate_left
        ·simp only [Act.put, List.setIfInBounds_toArray, List.set_cons_zero, List.set_cons_succ, qbe, qbo]
         rfl
        refine qb1 (i := 2) (N := some 19) (v := ?_) (a' := ?_) #[true, true, true, false, false, false, false, false, false, false] rfl rfl (qbu HT_.out (by kernel_rfl)) (fun _ _ _ h => h) (Or.inl ⟨by rfl, ?_⟩) ?_ ?_
        rotate_left
        ·intro w'
         go_simp
         with_reducible rfl
        rotate_left
        ·simp only [Act.put, List.setIfInBounds_toArray, List.set_cons_zero, List.set_cons_succ, qbe, qbo]
         rfl
        refine qb1 (i := 4) (N := some 21) (v := ?_) (a' := ?_) #[true, true, true, false, true, false, false, false, false, false] rfl rfl (qbu HT_.out (by kernel_rfl)) (fun _ _ _ h => h) (Or.inl ⟨by rfl, ?_⟩) ?_ ?_
        rotate_left
        ·intro w'
         go_simp
         with_reducible rfl
        rotate_left
        ·simp only [Act.put, List.setIfInBounds_toArray, List.set_cons_zero, List.set_cons_succ, qbe, qbo]
         rfl
        refine qb1 (i := 5) (N := some 22) (v := ?_) (a' := ?_) #[true, true, true, false, true, true, false, false, false, false] rfl rfl (qbu HT_.out (by kernel_rfl)) (fun _ _ _ h => h) (Or.inl ⟨by rfl, ?_⟩) ?_ ?_
        rotate_left
        ·intro w'
         go_simp
         with_reducible rfl
        rotate_left
        ·simp only [Act.put, List.setIfInBounds_toArray, List.set_cons_zero, List.set_cons_succ, qbe, qbo]
         rfl
        refine qb1 (i := 6) (N := some 23) (v := ?_) (a' := ?_) #[true, true, true, false, true, true, true, false, false, false] rfl rfl (qbu HT_.out (by kernel_rfl)) (fun _ _ _ h => h) (Or.inl ⟨by rfl, ?_⟩) ?_ ?_
        rotate_left
        ·intro w'
         go_simp
         with_reducible rfl
        rotate_left
        ·simp only [Act.put, List.setIfInBounds_toArray, List.set_cons_zero, List.set_cons_succ, qbe, qbo]
         rfl
        refine qdK (i := 3) (N := some 20) (v := ?_) (a' := ?_) #[true, true, true, true, true, true, true, false, false, false] rfl rfl (qco HT_.out HW_.out (by kernel_rfl)) (fun _ _ _ h => h) (Or.inl ⟨by rfl, ?_⟩) hHeld ?_ ?_
        rotate_left
        ·rintro w' ⟨s0, s1, s2, s3, s4, s5, s6, s7, s8, s9⟩
         go_simp
         with_reducible rfl
        rotate_left
        ·simp only [Act.put, List.setIfInBounds_toArray, List.set_cons_zero, List.set_cons_succ, qbe, qbo]
         rfl
        refine qdK (i := 7) (N := some 24) (v := ?_) (a' := ?_) #[true, true, true, true, true, true, true, true, false, false] rfl rfl (qco HT_.out HW_.out (by kernel_rfl)) (fun _ _ _ h => h) (Or.inl ⟨by rfl, ?_⟩) hHeld ?_ ?_
        rotate_left
        ·rintro w' ⟨s0, s1, s2, s3, s4, s5, s6, s7, s8, s9⟩
         go_simp
         with_reducible rfl
        rotate_left
        ·simp only [Act.put, List.setIfInBounds_toArray, List.set_cons_zero, List.set_cons_succ, qbe, qbo]
         rfl
        refine one_ (i := 8) (N := some 25) #[true, true, true, true, true, true, true, true, true, false] rfl rfl (qdc HT_.out (by kernel_rfl)) (by decide) (fun K hK => ?_)
        refine qdg Try.func23 (by kernel_rfl) rfl #[.agg #[.string ((qbc l0 x5_1).f0), .string ((qbc l0 x5_1).f1), .int .i64 ((qbc l0 x5_1).f2), .slice A422_3 ((qbc l0 x5_1).f3).length c422_3, .int .i64 ((qbc l0 x5_1).f4)], .agg #[.string ((qbc l1 x5_1).f0), .string ((qbc l1 x5_1).f1), .int .i64 ((qbc l1 x5_1).f2), .slice A423_3 ((qbc l1 x5_1).f3).length c423_3, .int .i64 ((qbc l1 x5_1).f4)]] (by rfl) rfl rfl (by (try simp only [List.map_toArray, List.map_cons, List.map_nil]); first | done | rfl | (simp only [List.length_drop, List.length_take]; rfl)) ?_
        with_reducible refine (qbJ.calls k1 ((qbc l0 x5_1).f0) ((qbc l0 x5_1).f1) ((qbc l0 x5_1).f2) _ _ ((qbc l0 x5_1).f3) ((qbc l0 x5_1).f4) ((qbc l1 x5_1).f0) ((qbc l1 x5_1).f1) ((qbc l1 x5_1).f2) _ _ ((qbc l1 x5_1).f3) ((qbc l1 x5_1).f4) false _ ?side1 ?side2 ?side3 ?side4 A7.out).mono ?_
        (case side1 => repeat (first | exact (Kd.qa8 HR422_3.out HB.out) | (with_reducible refine Kd.qa9 ?_ _) | (with_reducible refine Kd.qba ?_ _) | (with_reducible refine Kd.qbl ?_)))
        (case side2 => exact HC422_3.out)
        (case side3 => repeat (first | exact (Kd.qa8 HR423_3.out HB.out) | (with_reducible refine Kd.qa9 ?_ _) | (with_reducible refine Kd.qba ?_ _) | (with_reducible refine Kd.qbl ?_)))
        (case side4 => exact HC423_3.out)
        rintro e w12 ⟨rfl, hb⟩
        refine ⟨_, rfl, ?_⟩
        have n0_ := Aside0.mk (qag (by repeat (first | (with_reducible first | exact HB.out | apply qac | apply qaa | apply qab) | exact HB.out)) hb)
        clear HB
        have HB := n0_
        clear n0_
        (try clear hb)
        (try clear hb2)
        (try clear hk)
        (try clear hi)
        refine hK.out _ _ ⟨((HB.out.cell (World.block_lt_of_cell? w _ hw422_0)).trans hw422_0), ((HB.out.cell (World.block_lt_of_cell? w _ hw422_1)).trans hw422_1), ((HB.out.cell (World.block_lt_of_cell? w _ hw422_2)).trans hw422_2), ((HB.out.cell (World.block_lt_of_cell? w _ hw422_3)).trans hw422_3), ((HB.out.cell (World.block_lt_of_cell? w _ hw422_4)).trans hw422_4), ((HB.out.cell (World.block_lt_of_cell? w _ hw423_0)).trans hw423_0), ((HB.out.cell (World.block_lt_of_cell? w _ hw423_1)).trans hw423_1), ((HB.out.cell (World.block_lt_of_cell? w _ hw423_2)).trans hw423_2), ((HB.out.cell (World.block_lt_of_cell? w _ hw423_3)).trans hw423_3), ((HB.out.cell (World.block_lt_of_cell? w _ hw423_4)).trans hw423_4)⟩ (fun hHeld => ?_)
        clear hK K
        refine qb5 (a' := ?_) ?_ ?_
        rotate_left
        ·show Act.put _ (some 25) _ = _
         simp only [Act.put, List.setIfInBounds_toArray, List.set_cons_zero, List.set_cons_succ, qbe, qbo]
         rfl
        refine qb1 (i := 9) (N := some 26) (v := ?_) (a' := ?_) #[true, true, true, true, true, true, true, true, true, true] rfl rfl (qbu HT_.out (by kernel_rfl)) (fun _ _ _ h => h) (Or.inl ⟨by rfl, ?_⟩) ?_ ?_
        rotate_left
        ·intro w'
         go_simp
         with_reducible rfl
        rotate_left
        ·simp only [Act.put, List.setIfInBounds_toArray, List.set_cons_zero, List.set_cons_succ, qbe, qbo]
         rfl
        refine qgS (qeb HT_.out (by kernel_rfl)) ?_
        try go_wp2
        go_ret
        exact ⟨by first | rfl | (simp [qam, qan] <;> rfl) | (simp [*, qam, qan] <;> rfl), by repeat (first | (with_reducible first | exact HB.out | apply qac | apply qaa | apply qab) | exact HB.out)⟩
      ·rw [if_neg c6] at H
       exact absurd H (by simp)
     ·rw [if_neg c5] at H
      exact absurd H (by simp)
    ·rw [if_neg c4] at H
     have c4b0 : decide (x5_1 < (l0.length : Int)) = false := decide_eq_false c4
     clear c4
     obtain rfl := Option.some.inj H
     go_wp2
     go_ret
     exact ⟨by first | rfl | (simp [qam, qan] <;> rfl) | (simp [*, qam, qan] <;> rfl), by repeat (first | (with_reducible first | exact HB.out | apply qac | apply qaa | apply qab) | exact HB.out)⟩
 ·rw [if_neg c3] at H
  have c3b0 : ((l0.length : Int) == (l1.length : Int)) = false := beq_eq_false_iff_ne.mpr c3
  have c3b1 : ((l0.length : Int) != (l1.length : Int)) = true := bne_iff_ne.mpr c3
  have c3b2 : (l0.length == l1.length) = false := by first | simpa using c3 | (simp at c3 ⊢; omega)
  obtain rfl := Option.some.inj H
  go_enter Try.func9, Try.ntmps9
  go_wp2
  go_ret
  exact ⟨by first | rfl | (simp [qam, qan] <;> rfl) | (simp [*, qam, qan] <;> rfl), by repeat (first | (with_reducible first | exact HB.out | apply qac | apply qaa | apply qab) | exact HB.out)⟩
theorem qfq (rest : List S41) : ∀ (pre : List S41), (pre ++ rest).length ≤ 9223372036854775807 → (∀ y ∈ rest, len41 y) → Ev (fun k => qaP.l0 k (pre ++ rest) (pre ++ rest) ((pre.length : Nat) : Int)) true := by
 induction rest with
 | nil =>
  intro pre hl hs
  refine Ev.succ ?_
  simp only [qaP.l0]
  exact Ev.neg (by simp) (Ev.is rfl)
 | cons x rest ih =>
  intro pre hl hs
  have hx : qbc (pre ++ x :: rest) ((pre.length : Nat) : Int) = x := by simp [qbc, List.getD_eq_getElem?_getD]
  have hlt : ((pre.length : Nat) : Int) < ((pre ++ x :: rest).length : Int) := by simp; omega
  have hwp : wrap64 (((pre.length : Nat) : Int) + 1) = (((pre ++ [x]).length : Nat) : Int) := by rw [← qcp]; exact qcu (by simp at hl; omega)
  have e1 : pre ++ x :: rest = (pre ++ [x]) ++ rest := by simp
  have hi := ih (pre ++ [x]) (by rw [← e1]; exact hl) (fun y hy => hs y (List.mem_cons_of_mem _ hy))
  rw [← e1] at hi
  refine Ev.succ ?_
  simp only [qaP.l0, hx, hwp]
  exact Ev.pos hlt (Ev.pos (by omega) (Ev.pos hlt (Ev.bind (qi1 x (hs x List.mem_cons_self)) (Ev.pos rfl hi))))
theorem qhR (l : List S41) (h : l.length ≤ 9223372036854775807 ∧ ∀ y ∈ l, len41 y) : Ev (fun k => qaP.f k l l) true := by
 unfold qaP.f
 have hh := qfq l [] (by simpa using h.1) h.2
 exact Ev.pos rfl (by simpa using hh)
def qcx.f (a0_0 : ByteArray) (a0_1 : ByteArray) (a1_0 : ByteArray) (a1_1 : ByteArray) : Option (Bool) := if a0_0.toList = a1_0.toList then (if a0_1.toList = a1_1.toList then (some true) else (some false)) else (some false)
set_option maxHeartbeats 8000000 in
set_option maxRecDepth 100000 in
theorem qcx.calls (a0_0 : ByteArray) (a0_1 : ByteArray) (a1_0 : ByteArray) (a1_1 : ByteArray) (r : Bool) (w : World) (h : qcx.f a0_0 a0_1 a1_0 a1_1 = some r) :
  Calls Try.prog 22 #[.agg #[.string a0_0, .string a0_1], .agg #[.string a1_0, .string a1_1]] w fun e w' => e = .returned (.bool r) ∧ Below w.heap.size w w' := by
 have hu48 := Try.underlying48
 have HB := Aside0.mk (Below.refl w.heap.size w)
 have H : (if a0_0.toList = a1_0.toList then (if a0_1.toList = a1_1.toList then (some true) else (some false)) else (some false)) = some r := h
 clear h
 by_cases c3 : a0_0.toList = a1_0.toList
 ·rw [if_pos c3] at H
  have c3b0 : (a0_0.toList == a1_0.toList) = true := beq_iff_eq.mpr c3
  have c3b1 : (a0_0.toList != a1_0.toList) = false := bne_eq_false_iff_eq.mpr c3
  clear c3
  by_cases c4 : a0_1.toList = a1_1.toList
  ·rw [if_pos c4] at H
   have c4b0 : (a0_1.toList == a1_1.toList) = true := beq_iff_eq.mpr c4
   have c4b1 : (a0_1.toList != a1_1.toList) = false := bne_eq_false_iff_eq.mpr c4
   clear c4
   obtain rfl := Option.some.inj H
   go_enter Try.func22, Try.ntmps22
   go_wp2_with (first | ((with_reducible refine qaM (N := 2) rfl ?_); refine qaN ?hg (N := 2) ?hd (cs := #[.string a0_0, .string a0_1]) (t := 48) ?hr ?_; (case hd => rfl); (case hg => rfl); (case hr => first | (go_simp; done) | (go_simp; rfl)); intro gb409 hg w5 hbox hb; have n0_ := Aside0.mk (qag (by repeat (first | (with_reducible first | exact HB.out | apply qac | apply qaa | apply qab) | exact HB.out)) hb); have n1_ := Aside0.mk (hbox); have n2_ := Aside0.mk ((by rw [hg]; exact (qak (by repeat (first | (with_reducible first | exact HB.out | apply qac | apply qaa | apply qab) | exact HB.out))) : w.heap.size ≤ gb409)); have n3_ := Aside0.mk ((by rw [hg]; exact (qak (by repeat (first | (with_reducible first | exact HB.out | apply qac | apply qaa | apply qab) | exact HB.out))) : w.heap.size ≤ gb409)); clear HB; have HB := n0_; have BK409 := n1_; have GW409 := n2_; have GE409 := n3_; clear n0_ n1_ n2_ n3_; clear hb hbox hg) | ((with_reducible refine qaM (N := 3) rfl ?_); refine qaN ?hg (N := 3) ?hd (cs := #[.string a1_0, .string a1_1]) (t := 48) ?hr ?_; (case hd => rfl); (case hg => rfl); (case hr => first | (go_simp; done) | (go_simp; rfl)); intro gb410 hg w6 hbox hb; have n0_ := Aside0.mk (qao (g := gb409) (o := .cells #[.string a0_0, .string a0_1] 48 (0, 0)) (by (with_reducible repeat (first | refine qaj ?_ _ | refine qal ?_ | refine qai ?_ _)); exact BK409.out) hb); have n1_ := Aside0.mk (qag (by repeat (first | (with_reducible first | exact HB.out | apply qac | apply qaa | apply qab | refine qah ?_ GE409.out) | exact HB.out)) hb); have n2_ := Aside0.mk (hbox); have n3_ := Aside0.mk ((by rw [hg]; exact (qak (by repeat (first | (with_reducible first | exact HB.out | apply qac | apply qaa | apply qab | refine qah ?_ GE409.out) | exact HB.out))) : w.heap.size ≤ gb410)); have n4_ := Aside0.mk ((by rw [hg]; exact (qak (by repeat (first | (with_reducible first | exact HB.out | apply qac | apply qaa | apply qab | refine qah ?_ GE409.out) | exact HB.out))) : w.heap.size ≤ gb410)); have n5_ := Aside0.mk ((by rw [hg]; exact Nat.ne_of_lt (qbm (g := gb409) (o := .cells #[.string a0_0, .string a0_1] 48 (0, 0)) (by (with_reducible repeat (first | refine qaj ?_ _ | refine qal ?_ | refine qai ?_ _)); exact BK409.out)) : gb409 ≠ gb410)); have n6_ := Aside0.mk ((by rw [hg]; exact Nat.ne_of_gt (qbm (g := gb409) (o := .cells #[.string a0_0, .string a0_1] 48 (0, 0)) (by (with_reducible repeat (first | refine qaj ?_ _ | refine qal ?_ | refine qai ?_ _)); exact BK409.out)) : gb410 ≠ gb409)); clear BK409 HB; have BK409 := n0_; have HB := n1_; have BK410 := n2_; have GW410 := n3_; have GE410 := n4_; have NB409_410 := n5_; have NB410_409 := n6_; clear n0_ n1_ n2_ n3_ n4_ n5_ n6_ hb hbox hg; have hnb7 := NB409_410.out; have hnc7 := NB410_409.out; have hcz8_0 : w6.cell? ⟨gb409, 0, none⟩ = some (.string a0_0) := (qad BK409.out 0).trans rfl; have hcz8_1 : w6.cell? ⟨gb409, 1, none⟩ = some (.string a0_1) := (qad BK409.out 1).trans rfl; have hfz8_0 := qae BK409.out 0; have hfz8_1 := qae BK409.out 1; have hcz9_0 : w6.cell? ⟨gb410, 0, none⟩ = some (.string a1_0) := (qad BK410.out 0).trans rfl; have hcz9_1 : w6.cell? ⟨gb410, 1, none⟩ = some (.string a1_1) := (qad BK410.out 1).trans rfl; have hfz9_0 := qae BK410.out 0; have hfz9_1 := qae BK410.out 1))
   go_ret
   exact ⟨by first | rfl | (simp [qam, qan] <;> rfl) | (simp [*, qam, qan] <;> rfl), by repeat (first | (with_reducible first | exact HB.out | apply qac | apply qaa | apply qab | refine qah ?_ GE409.out | refine qah ?_ GE410.out) | exact HB.out)⟩
  ·rw [if_neg c4] at H
   have c4b0 : (a0_1.toList == a1_1.toList) = false := beq_eq_false_iff_ne.mpr c4
   have c4b1 : (a0_1.toList != a1_1.toList) = true := bne_iff_ne.mpr c4
   obtain rfl := Option.some.inj H
   go_enter Try.func22, Try.ntmps22
   go_wp2_with (first | ((with_reducible refine qaM (N := 2) rfl ?_); refine qaN ?hg (N := 2) ?hd (cs := #[.string a0_0, .string a0_1]) (t := 48) ?hr ?_; (case hd => rfl); (case hg => rfl); (case hr => first | (go_simp; done) | (go_simp; rfl)); intro gb409 hg w10 hbox hb; have n0_ := Aside0.mk (qag (by repeat (first | (with_reducible first | exact HB.out | apply qac | apply qaa | apply qab) | exact HB.out)) hb); have n1_ := Aside0.mk (hbox); have n2_ := Aside0.mk ((by rw [hg]; exact (qak (by repeat (first | (with_reducible first | exact HB.out | apply qac | apply qaa | apply qab) | exact HB.out))) : w.heap.size ≤ gb409)); have n3_ := Aside0.mk ((by rw [hg]; exact (qak (by repeat (first | (with_reducible first | exact HB.out | apply qac | apply qaa | apply qab) | exact HB.out))) : w.heap.size ≤ gb409)); clear HB; have HB := n0_; have BK409 := n1_; have GW409 := n2_; have GE409 := n3_; clear n0_ n1_ n2_ n3_; clear hb hbox hg) | ((with_reducible refine qaM (N := 3) rfl ?_); refine qaN ?hg (N := 3) ?hd (cs := #[.string a1_0, .string a1_1]) (t := 48) ?hr ?_; (case hd => rfl); (case hg => rfl); (case hr => first | (go_simp; done) | (go_simp; rfl)); intro gb410 hg w11 hbox hb; have n0_ := Aside0.mk (qao (g := gb409) (o := .cells #[.string a0_0, .string a0_1] 48 (0, 0)) (by (with_reducible repeat (first | refine qaj ?_ _ | refine qal ?_ | refine qai ?_ _)); exact BK409.out) hb); have n1_ := Aside0.mk (qag (by repeat (first | (with_reducible first | exact HB.out | apply qac | apply qaa | apply qab | refine qah ?_ GE409.out) | exact HB.out)) hb); have n2_ := Aside0.mk (hbox); have n3_ := Aside0.mk ((by rw [hg]; exact (qak (by repeat (first | (with_reducible first | exact HB.out | apply qac | apply qaa | apply qab | refine qah ?_ GE409.out) | exact HB.out))) : w.heap.size ≤ gb410)); have n4_ := Aside0.mk ((by rw [hg]; exact (qak (by repeat (first | (with_reducible first | exact HB.out | apply qac | apply qaa | apply qab | refine qah ?_ GE409.out) | exact HB.out))) : w.heap.size ≤ gb410)); have n5_ := Aside0.mk ((by rw [hg]; exact Nat.ne_of_lt (qbm (g := gb409) (o := .cells #[.string a0_0, .string a0_1] 48 (0, 0)) (by (with_reducible repeat (first | refine qaj ?_ _ | refine qal ?_ | refine qai ?_ _)); exact BK409.out)) : gb409 ≠ gb410)); have n6_ := Aside0.mk ((by rw [hg]; exact Nat.ne_of_gt (qbm (g := gb409) (o := .cells #[.string a0_0, .string a0_1] 48 (0, 0)) (by (with_reducible repeat (first | refine qaj ?_ _ | refine qal ?_ | refine qai ?_ _)); exact BK409.out)) : gb410 ≠ gb409)); clear BK409 HB; have BK409 := n0_; have HB := n1_; have BK410 := n2_; have GW410 := n3_; have GE410 := n4_; have NB409_410 := n5_; have NB410_409 := n6_; clear n0_ n1_ n2_ n3_ n4_ n5_ n6_ hb hbox hg; have hnb12 := NB409_410.out; have hnc12 := NB410_409.out; have hcz13_0 : w11.cell? ⟨gb409, 0, none⟩ = some (.string a0_0) := (qad BK409.out 0).trans rfl; have hcz13_1 : w11.cell? ⟨gb409, 1, none⟩ = some (.string a0_1) := (qad BK409.out 1).trans rfl; have hfz13_0 := qae BK409.out 0; have hfz13_1 := qae BK409.out 1; have hcz14_0 : w11.cell? ⟨gb410, 0, none⟩ = some (.string a1_0) := (qad BK410.out 0).trans rfl; have hcz14_1 : w11.cell? ⟨gb410, 1, none⟩ = some (.string a1_1) := (qad BK410.out 1).trans rfl; have hfz14_0 := qae BK410.out 0; have hfz14_1 := qae BK410.out 1))
   go_ret
   exact ⟨by first | rfl | (simp [qam, qan] <;> rfl) | (simp [*, qam, qan] <;> rfl), by repeat (first | (with_reducible first | exact HB.out | apply qac | apply qaa | apply qab | refine qah ?_ GE409.out | refine qah ?_ GE410.out) | exact HB.out)⟩
 ·rw [if_neg c3] at H
  have c3b0 : (a0_0.toList == a1_0.toList) = false := beq_eq_false_iff_ne.mpr c3
  have c3b1 : (a0_0.toList != a1_0.toList) = true := bne_iff_ne.mpr c3
  obtain rfl := Option.some.inj H
  go_enter Try.func22, Try.ntmps22
  go_wp2_with (first | ((with_reducible refine qaM (N := 2) rfl ?_); refine qaN ?hg (N := 2) ?hd (cs := #[.string a0_0, .string a0_1]) (t := 48) ?hr ?_; (case hd => rfl); (case hg => rfl); (case hr => first | (go_simp; done) | (go_simp; rfl)); intro gb409 hg w15 hbox hb; have n0_ := Aside0.mk (qag (by repeat (first | (with_reducible first | exact HB.out | apply qac | apply qaa | apply qab) | exact HB.out)) hb); have n1_ := Aside0.mk (hbox); have n2_ := Aside0.mk ((by rw [hg]; exact (qak (by repeat (first | (with_reducible first | exact HB.out | apply qac | apply qaa | apply qab) | exact HB.out))) : w.heap.size ≤ gb409)); have n3_ := Aside0.mk ((by rw [hg]; exact (qak (by repeat (first | (with_reducible first | exact HB.out | apply qac | apply qaa | apply qab) | exact HB.out))) : w.heap.size ≤ gb409)); clear HB; have HB := n0_; have BK409 := n1_; have GW409 := n2_; have GE409 := n3_; clear n0_ n1_ n2_ n3_; clear hb hbox hg) | ((with_reducible refine qaM (N := 3) rfl ?_); refine qaN ?hg (N := 3) ?hd (cs := #[.string a1_0, .string a1_1]) (t := 48) ?hr ?_; (case hd => rfl); (case hg => rfl); (case hr => first | (go_simp; done) | (go_simp; rfl)); intro gb410 hg w16 hbox hb; have n0_ := Aside0.mk (qao (g := gb409) (o := .cells #[.string a0_0, .string a0_1] 48 (0, 0)) (by (with_reducible repeat (first | refine qaj ?_ _ | refine qal ?_ | refine qai ?_ _)); exact BK409.out) hb); have n1_ := Aside0.mk (qag (by repeat (first | (with_reducible first | exact HB.out | apply qac | apply qaa | apply qab | refine qah ?_ GE409.out) | exact HB.out)) hb); have n2_ := Aside0.mk (hbox); have n3_ := Aside0.mk ((by rw [hg]; exact (qak (by repeat (first | (with_reducible first | exact HB.out | apply qac | apply qaa | apply qab | refine qah ?_ GE409.out) | exact HB.out))) : w.heap.size ≤ gb410)); have n4_ := Aside0.mk ((by rw [hg]; exact (qak (by repeat (first | (with_reducible first | exact HB.out | apply qac | apply qaa | apply qab | refine qah ?_ GE409.out) | exact HB.out))) : w.heap.size ≤ gb410)); have n5_ := Aside0.mk ((by rw [hg]; exact Nat.ne_of_lt (qbm (g := gb409) (o := .cells #[.string a0_0, .string a0_1] 48 (0, 0)) (by (with_reducible repeat (first | refine qaj ?_ _ | refine qal ?_ | refine qai ?_ _)); exact BK409.out)) : gb409 ≠ gb410)); have n6_ := Aside0.mk ((by rw [hg]; exact Nat.ne_of_gt (qbm (g := gb409) (o := .cells #[.string a0_0, .string a0_1] 48 (0, 0)) (by (with_reducible repeat (first | refine qaj ?_ _ | refine qal ?_ | refine qai ?_ _)); exact BK409.out)) : gb410 ≠ gb409)); clear BK409 HB; have BK409 := n0_; have HB := n1_; have BK410 := n2_; have GW410 := n3_; have GE410 := n4_; have NB409_410 := n5_; have NB410_409 := n6_; clear n0_ n1_ n2_ n3_ n4_ n5_ n6_ hb hbox hg; have hnb17 := NB409_410.out; have hnc17 := NB410_409.out; have hcz18_0 : w16.cell? ⟨gb409, 0, none⟩ = some (.string a0_0) := (qad BK409.out 0).trans rfl; have hcz18_1 : w16.cell? ⟨gb409, 1, none⟩ = some (.string a0_1) := (qad BK409.out 1).trans rfl; have hfz18_0 := qae BK409.out 0; have hfz18_1 := qae BK409.out 1; have hcz19_0 : w16.cell? ⟨gb410, 0, none⟩ = some (.string a1_0) := (qad BK410.out 0).trans rfl; have hcz19_1 : w16.cell? ⟨gb410, 1, none⟩ = some (.string a1_1) := (qad BK410.out 1).trans rfl; have hfz19_0 := qae BK410.out 0; have hfz19_1 := qae BK410.out 1))
  go_ret
  exact ⟨by first | rfl | (simp [qam, qan] <;> rfl) | (simp [*, qam, qan] <;> rfl), by repeat (first | (with_reducible first | exact HB.out | apply qac | apply qaa | apply qab | refine qah ?_ GE409.out | refine qah ?_ GE410.out) | exact HB.out)⟩
def len48 (x : S48) : Prop := True ∧ True
theorem eq_Pair (x : S48) (h : len48 x) : Ev (fun k => qcx.f (x.f0) (x.f1) (x.f0) (x.f1)) true := by
 unfold qcx.f
 exact Ev.pos rfl (Ev.pos rfl (Ev.is rfl))
end Go.Proofs.Ytlkdcicpaneakaa.X
