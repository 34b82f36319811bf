import Derived.Test.YtgcncphdjabjjaaKFnExactMakeBackup3
import Derived.Test.YtgcncphdjabjjaaKFnExactMakeBackup22
namespace Go.Proofs.Ytgcncphdjabjjaa.X
open Go.RowKit Go.Proofs.YtgcncphdjabjjaaW.PrintWords Go.Proofs.YtgcncphdjabjjaaW.PrintLast Go.Proofs.YtgcncphdjabjjaaW.PrintMore
attribute [local go_sem] qaT qaU qaV qaP qaQ qa3 qa4 qaJ qaK qaR qaS
set_option linter.unusedVariables false
set_option linter.unusedSimpArgs false
def qa9.f (k : Nat) (a0_0 : ByteArray) (a0_1 : ByteArray) (a0_2 : Int) (l0_3 : List (S82)) (a0_4 : Int) (a1 : Int) : Option (Int) := (qaD.f k l0_3 a1).bind fun t821 => (if t821 < 0 then (some (-1)) else (some t821))
theorem qa9.mono : ∀ a0 a1 a2 a3 a4 a5 k, LeO (qa9.f k a0 a1 a2 a3 a4 a5) (qa9.f (k + 1) a0 a1 a2 a3 a4 a5) := by
 intro a0 a1 a2 a3 a4 a5 k
 unfold qa9.f
 repeat' first
   | (with_reducible exact qaD.mono _ _ _)
   | (with_reducible exact LeO.refl _)
   | (with_reducible exact LeO.none _)
   | (with_reducible refine LeO.ite ?_ ?_)
   | (with_reducible refine LeO.bind ?_ (fun _ => ?_))
   | exact qaD.mono _ _ _
   | exact LeO.none _
   | refine LeO.ite ?_ ?_
   | refine LeO.bind ?_ (fun _ => ?_)
set_option maxHeartbeats 8000000 in
set_option maxRecDepth 100000 in
theorem qa9.calls (k : Nat) (a0_0 : ByteArray) (a0_1 : ByteArray) (a0_2 : Int) (A0_3 : Option Addr) (c0_3 : Nat) (l0_3 : List (S82)) (a0_4 : Int) (a1 : Int) (r : Int) (w : World) (hr0_3 : Kd.C k82 w A0_3 l0_3.length l0_3) (hc0_3 : l0_3.length ≤ c0_3) (h : qa9.f k a0_0 a0_1 a0_2 l0_3 a0_4 a1 = some r) :
  Calls Try.prog 40 #[.agg #[.string a0_0, .string a0_1, .int .i64 a0_2, .slice A0_3 l0_3.length c0_3, .int .i64 a0_4], .int .i64 a1] w fun e w' => e = .returned (.int .i64 r) ∧ Below w.heap.size w w' := by
 have hu48 := Try.underlying48
 have HR0_3 := Aside0.mk hr0_3
 have HC0_3 := Aside0.mk hc0_3
 clear hr0_3 hc0_3
 have HB := Aside0.mk (Below.refl w.heap.size w)
 have H : ((qaD.f k l0_3 a1).bind fun t821 => (if t821 < 0 then (some (-1)) else (some t821))) = some r := h
 clear h
 replace H := Option.bind_eq_some_iff.mp H
 obtain ⟨t821, A30, H⟩ := H
 replace H : (if t821 < 0 then (some (-1)) else (some t821)) = some r := H
 have A3 := Aside0.mk A30
 clear A30
 by_cases c4 : t821 < 0
 ·rw [if_pos c4] at H
  have c4b0 : decide (t821 < 0) = true := decide_eq_true c4
  clear c4
  obtain rfl := Option.some.inj H
  go_enter Try.func40, Try.ntmps40
  go_wp2_with (first | ((with_reducible refine qbc (N := 2) rfl ?_); refine qba ?hg (N := 2) ?hd (cs := #[.string a0_0, .string a0_1, .int .i64 a0_2, .slice A0_3 l0_3.length c0_3, .int .i64 a0_4]) (t := 48) ?hr ?_; (case hd => rfl); (case hg => rfl); (case hr => first | (go_simp; done) | (go_simp; rfl)); intro gb820 hg w5 hbox hb; have n0_ := Aside0.mk (qak (by repeat (first | (with_reducible first | exact HB.out | apply qac | apply qaa | apply qab) | exact HB.out)) hb); have n1_ := Aside0.mk (hbox); have n2_ := Aside0.mk ((by rw [hg]; exact (qau (by repeat (first | (with_reducible first | exact HB.out | apply qac | apply qaa | apply qab) | exact HB.out))) : w.heap.size ≤ gb820)); have n3_ := Aside0.mk ((by rw [hg]; exact (qau (by repeat (first | (with_reducible first | exact HB.out | apply qac | apply qaa | apply qab) | exact HB.out))) : w.heap.size ≤ gb820)); clear HB; have HB := n0_; have BK820 := n1_; have GW820 := n2_; have GE820 := n3_; clear n0_ n1_ n2_ n3_; clear hb hbox hg; have hcz6_0 : w5.cell? ⟨gb820, 0, none⟩ = some (.string a0_0) := (qah BK820.out 0).trans rfl; have hcz6_1 : w5.cell? ⟨gb820, 1, none⟩ = some (.string a0_1) := (qah BK820.out 1).trans rfl; have hcz6_2 : w5.cell? ⟨gb820, 2, none⟩ = some (.int .i64 a0_2) := (qah BK820.out 2).trans rfl; have hcz6_3 : w5.cell? ⟨gb820, 3, none⟩ = some (.slice A0_3 l0_3.length c0_3) := (qah BK820.out 3).trans rfl; have hcz6_4 : w5.cell? ⟨gb820, 4, none⟩ = some (.int .i64 a0_4) := (qah BK820.out 4).trans rfl; have hfz6_0 := qad BK820.out 0; have hfz6_1 := qad BK820.out 1; have hfz6_2 := qad BK820.out 2; have hfz6_3 := qad BK820.out 3; have hfz6_4 := qad BK820.out 4) | ((with_reducible refine qaz (f := 21) rfl ?_); refine qbf (some 8) rfl rfl Try.func21 (by kernel_rfl) rfl #[.slice A0_3 l0_3.length c0_3, .int .i64 a1] rfl (by (try simp only [List.map_toArray, List.map_cons, List.map_nil]); first | done | rfl | (simp only [List.length_drop, List.length_take]; rfl)) ?_; (with_reducible refine (qaD.calls k _ _ l0_3 a1 t821 _ ?side1 ?side2 A3.out).mono ?_); (case side1 => repeat (first | exact (Kd.qa2 HR0_3.out HB.out) | (with_reducible refine Kd.qa7 ?_ _) | (with_reducible refine Kd.qa8 ?_ _) | (with_reducible refine Kd.qbm ?_))); (case side2 => exact HC0_3.out); rintro e w7 ⟨rfl, hb⟩; refine ⟨_, rfl, ?_⟩; have n0_ := Aside0.mk (qaB (g := gb820) (o := .cells #[.string a0_0, .string a0_1, .int .i64 a0_2, .slice A0_3 l0_3.length c0_3, .int .i64 a0_4] 48 (0, 0)) (by (with_reducible repeat (first | refine qag ?_ _ | refine qaj ?_ | refine qaf ?_ _)); exact BK820.out) hb); have n1_ := Aside0.mk (qak (by repeat (first | (with_reducible first | exact HB.out | apply qac | apply qaa | apply qab | refine qai ?_ GE820.out) | exact HB.out)) hb); clear BK820; clear HB; have BK820 := n0_; have HB := n1_; clear n0_ n1_; (try clear hb); (try clear hb2); (try clear hk); (try clear hi)))
  go_ret
  exact ⟨by first | rfl | (simp [qam, qan] <;> rfl) | (simp [*, qam, qan] <;> rfl), by repeat (first | (with_reducible first | exact HB.out | apply qac | apply qaa | apply qab | refine qai ?_ GE820.out) | exact HB.out)⟩
 ·rw [if_neg c4] at H
  have c4b0 : decide (t821 < 0) = false := decide_eq_false c4
  clear c4
  obtain rfl := Option.some.inj H
  go_enter Try.func40, Try.ntmps40
  go_wp2_with (first | ((with_reducible refine qbc (N := 2) rfl ?_); refine qba ?hg (N := 2) ?hd (cs := #[.string a0_0, .string a0_1, .int .i64 a0_2, .slice A0_3 l0_3.length c0_3, .int .i64 a0_4]) (t := 48) ?hr ?_; (case hd => rfl); (case hg => rfl); (case hr => first | (go_simp; done) | (go_simp; rfl)); intro gb820 hg w8 hbox hb; have n0_ := Aside0.mk (qak (by repeat (first | (with_reducible first | exact HB.out | apply qac | apply qaa | apply qab) | exact HB.out)) hb); have n1_ := Aside0.mk (hbox); have n2_ := Aside0.mk ((by rw [hg]; exact (qau (by repeat (first | (with_reducible first | exact HB.out | apply qac | apply qaa | apply qab) | exact HB.out))) : w.heap.size ≤ gb820)); have n3_ := Aside0.mk ((by rw [hg]; exact (qau (by repeat (first | (with_reducible first | exact HB.out | apply qac | apply qaa | apply qab) | exact HB.out))) : w.heap.size ≤ gb820)); clear HB; have HB := n0_; have BK820 := n1_; have GW820 := n2_; have GE820 := n3_; clear n0_ n1_ n2_ n3_; clear hb hbox hg; have hcz9_0 : w8.cell? ⟨gb820, 0, none⟩ = some (.string a0_0) := (qah BK820.out 0).trans rfl; have hcz9_1 : w8.cell? ⟨gb820, 1, none⟩ = some (.string a0_1) := (qah BK820.out 1).trans rfl; have hcz9_2 : w8.cell? ⟨gb820, 2, none⟩ = some (.int .i64 a0_2) := (qah BK820.out 2).trans rfl; have hcz9_3 : w8.cell? ⟨gb820, 3, none⟩ = some (.slice A0_3 l0_3.length c0_3) := (qah BK820.out 3).trans rfl; have hcz9_4 : w8.cell? ⟨gb820, 4, none⟩ = some (.int .i64 a0_4) := (qah BK820.out 4).trans rfl; have hfz9_0 := qad BK820.out 0; have hfz9_1 := qad BK820.out 1; have hfz9_2 := qad BK820.out 2; have hfz9_3 := qad BK820.out 3; have hfz9_4 := qad BK820.out 4) | ((with_reducible refine qaz (f := 21) rfl ?_); refine qbf (some 8) rfl rfl Try.func21 (by kernel_rfl) rfl #[.slice A0_3 l0_3.length c0_3, .int .i64 a1] rfl (by (try simp only [List.map_toArray, List.map_cons, List.map_nil]); first | done | rfl | (simp only [List.length_drop, List.length_take]; rfl)) ?_; (with_reducible refine (qaD.calls k _ _ l0_3 a1 t821 _ ?side1 ?side2 A3.out).mono ?_); (case side1 => repeat (first | exact (Kd.qa2 HR0_3.out HB.out) | (with_reducible refine Kd.qa7 ?_ _) | (with_reducible refine Kd.qa8 ?_ _) | (with_reducible refine Kd.qbm ?_))); (case side2 => exact HC0_3.out); rintro e w10 ⟨rfl, hb⟩; refine ⟨_, rfl, ?_⟩; have n0_ := Aside0.mk (qaB (g := gb820) (o := .cells #[.string a0_0, .string a0_1, .int .i64 a0_2, .slice A0_3 l0_3.length c0_3, .int .i64 a0_4] 48 (0, 0)) (by (with_reducible repeat (first | refine qag ?_ _ | refine qaj ?_ | refine qaf ?_ _)); exact BK820.out) hb); have n1_ := Aside0.mk (qak (by repeat (first | (with_reducible first | exact HB.out | apply qac | apply qaa | apply qab | refine qai ?_ GE820.out) | exact HB.out)) hb); clear BK820; clear HB; have BK820 := n0_; have HB := n1_; clear n0_ n1_; (try clear hb); (try clear hb2); (try clear hk); (try clear hi)))
  go_ret
  exact ⟨by first | rfl | (simp [qam, qan] <;> rfl) | (simp [*, qam, qan] <;> rfl), by repeat (first | (with_reducible first | exact HB.out | apply qac | apply qaa | apply qab | refine qai ?_ GE820.out) | exact HB.out)⟩
end Go.Proofs.Ytgcncphdjabjjaa.X
