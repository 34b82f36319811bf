import Derived.Test.YtgcncphdjabjjaaKFnExactMakeBackup3
import Derived.Test.YtgcncphdjabjjaaKFnExactMakeBackup18
import Derived.Test.YtgcncphdjabjjaaKFnExactMakeBackup19
namespace Go.Proofs.Ytgcncphdjabjjaa.X
open Go.RowKit Go.Proofs.YtgcncphdjabjjaaW.PrintWords Go.Proofs.YtgcncphdjabjjaaW.PrintLast Go.Proofs.YtgcncphdjabjjaaW.PrintMore
attribute [local go_sem] qaT qaU qaV qaP qaQ qa3 qa4 qaJ qaK qaR qaS
set_option linter.unusedVariables false
set_option linter.unusedSimpArgs false
def qbp.f (k : Nat) (a0 : ByteArray) (a1 : ByteArray) (a2 : Int) (l3 : List (S76)) (l4 : List (S76)) : Option (ByteArray × ByteArray × Int × (List (S82)) × Int) := (qaw.f k l3 l4).bind fun t805 => ((qbD.f l4).bind fun t808 => (some (a0, a1, a2, t805, t808)))
theorem qbp.mono : ∀ a0 a1 a2 a3 a4 k, LeO (qbp.f k a0 a1 a2 a3 a4) (qbp.f (k + 1) a0 a1 a2 a3 a4) := by
 intro a0 a1 a2 a3 a4 k
 unfold qbp.f
 repeat' first
   | (with_reducible exact qaw.mono _ _ _)
   | (with_reducible exact LeO.refl _)
   | (with_reducible exact LeO.none _)
   | (with_reducible refine LeO.ite ?_ ?_)
   | (with_reducible refine LeO.bind ?_ (fun _ => ?_))
   | exact qaw.mono _ _ _
   | exact LeO.none _
   | refine LeO.ite ?_ ?_
   | refine LeO.bind ?_ (fun _ => ?_)
set_option maxHeartbeats 8000000 in
set_option maxRecDepth 100000 in
theorem qbp.calls (k : Nat) (a0 : ByteArray) (a1 : ByteArray) (a2 : Int) (A3 : Option Addr) (c3 : Nat) (l3 : List (S76)) (A4 : Option Addr) (c4 : Nat) (l4 : List (S76)) (r1 : ByteArray) (r2 : ByteArray) (r3 : Int) (r4 : List (S82)) (r5 : Int) (w : World) (hr3 : Kd.C k76 w A3 l3.length l3) (hc3 : l3.length ≤ c3) (hr4 : Kd.C k76 w A4 l4.length l4) (hc4 : l4.length ≤ c4) (h : qbp.f k a0 a1 a2 l3 l4 = some (r1, r2, r3, r4, r5)) :
  Calls Try.prog 72 #[.string a0, .string a1, .int .i64 a2, .slice A3 l3.length c3, .slice A4 l4.length c4] w fun e w' => ∃ v3_ : Value, e = .returned (.agg #[.string r1, .string r2, .int .i64 r3, v3_, .int .i64 r5]) ∧ Kd.R k82 82 w' w.heap.size (fun _ => True) v3_ r4 ∧ Below w.heap.size w w' := by
 have hu48 := Try.underlying48
 have HR3 := Aside0.mk hr3
 have HC3 := Aside0.mk hc3
 clear hr3 hc3
 have HR4 := Aside0.mk hr4
 have HC4 := Aside0.mk hc4
 clear hr4 hc4
 have HB := Aside0.mk (Below.refl w.heap.size w)
 have H : ((qaw.f k l3 l4).bind fun t805 => ((qbD.f l4).bind fun t808 => (some (a0, a1, a2, t805, t808)))) = some (r1, r2, r3, r4, r5) := h
 clear h
 replace H := Option.bind_eq_some_iff.mp H
 obtain ⟨t805, A60, H⟩ := H
 replace H : ((qbD.f l4).bind fun t808 => (some (a0, a1, a2, t805, t808))) = some (r1, r2, r3, r4, r5) := H
 have A6 := Aside0.mk A60
 clear A60
 replace H := Option.bind_eq_some_iff.mp H
 obtain ⟨t808, A70, H⟩ := H
 replace H : (some (a0, a1, a2, t805, t808)) = some (r1, r2, r3, r4, r5) := H
 have A7 := Aside0.mk A70
 clear A70
 simp only [Option.some.injEq, Prod.mk.injEq] at H
 obtain ⟨rfl, rfl, rfl, rfl, rfl⟩ := H
 go_enter Try.func72, Try.ntmps72
 go_wp2_with (first | ((with_reducible refine qbc (N := 10) rfl ?_); refine qba ?hg (N := 10) ?hd (cs := #[.string (⟨#[]⟩ : ByteArray), .string (⟨#[]⟩ : ByteArray), .int .i64 0, .slice none 0 0, .int .i64 0]) (t := 48) ?hr ?_; (case hd => rfl); (case hg => rfl); (case hr => first | (go_simp; done) | (go_simp; rfl)); intro gb804 hg w8 hbox hb; have n0_ := Aside0.mk (qak (by repeat (first | (with_reducible first | exact HB.out | apply qac | apply qaa | apply qab) | exact HB.out)) hb); have n1_ := Aside0.mk (hbox); have n2_ := Aside0.mk ((by rw [hg]; exact (qau (by repeat (first | (with_reducible first | exact HB.out | apply qac | apply qaa | apply qab) | exact HB.out))) : w.heap.size ≤ gb804)); have n3_ := Aside0.mk ((by rw [hg]; exact (qau (by repeat (first | (with_reducible first | exact HB.out | apply qac | apply qaa | apply qab) | exact HB.out))) : w.heap.size ≤ gb804)); clear HB; have HB := n0_; have BK804 := n1_; have GW804 := n2_; have GE804 := n3_; clear n0_ n1_ n2_ n3_; clear hb hbox hg) | ((with_reducible refine qaz (f := 57) rfl ?_); refine qbf (some 16) rfl rfl Try.func57 (by kernel_rfl) rfl #[.slice A3 l3.length c3, .slice A4 l4.length c4] rfl (by (try simp only [List.map_toArray, List.map_cons, List.map_nil]); first | done | rfl | (simp only [List.length_drop, List.length_take]; rfl)) ?_; (with_reducible refine (qaw.calls k (fun k_ => k_ < w.heap.size) _ _ l3 (fun k_ => k_ < w.heap.size) _ _ l4 t805 _ ?side1 ?side2 A6.out).mono ?_); (case side1 => exact Kd.V_mk HC3.out (Kd.qde (Kd.C_F qe1 HR3.out) (by repeat (first | (with_reducible first | exact HB.out | apply qac | apply qaa | apply qab | refine qai ?_ GE804.out) | exact HB.out)))); (case side2 => exact Kd.V_mk HC4.out (Kd.qde (Kd.C_F qe1 HR4.out) (by repeat (first | (with_reducible first | exact HB.out | apply qac | apply qaa | apply qab | refine qai ?_ GE804.out) | exact HB.out)))); rintro e w9 ⟨v806, rfl, ho0, hb⟩; refine ⟨_, rfl, ?_⟩; have n0_ := Aside0.mk (Kd.qbL (Kd.qbn (ok' := fun k_ => True) ho0 (fun _ hk_ => trivial)) (qau (by repeat (first | (with_reducible first | exact HB.out | apply qac | apply qaa | apply qab | refine qai ?_ GE804.out) | exact HB.out)))); have n1_ := Aside0.mk (qaB (g := gb804) (o := .cells #[.string (⟨#[]⟩ : ByteArray), .string (⟨#[]⟩ : ByteArray), .int .i64 0, .slice none 0 0, .int .i64 0] 48 (0, 0)) (by (with_reducible repeat (first | refine qag ?_ _ | refine qaj ?_ | refine qaf ?_ _)); exact BK804.out) hb); have n2_ := Aside0.mk (qak (by repeat (first | (with_reducible first | exact HB.out | apply qac | apply qaa | apply qab | refine qai ?_ GE804.out) | exact HB.out)) hb); clear BK804; clear HB; have HO807 := n0_; have BK804 := n1_; have HB := n2_; clear n0_ n1_ n2_; (try clear hb); (try clear hb2); (try clear hk); (try clear hi); (try clear ho0)) | ((with_reducible refine qaz (f := 54) rfl ?_); refine qbf (some 18) rfl rfl Try.func54 (by kernel_rfl) rfl #[.slice A4 l4.length c4] rfl (by (try simp only [List.map_toArray, List.map_cons, List.map_nil]); first | done | rfl | (simp only [List.length_drop, List.length_take]; rfl)) ?_; (with_reducible refine (qbD.calls _ _ l4 t808 _ ?side1 ?side2 A7.out).mono ?_); (case side1 => repeat (first | exact (Kd.qa2 HR4.out HB.out) | (with_reducible refine Kd.qa7 ?_ _) | (with_reducible refine Kd.qa8 ?_ _) | (with_reducible refine Kd.qbm ?_))); (case side2 => exact HC4.out); rintro e w10 ⟨rfl, hb⟩; refine ⟨_, rfl, ?_⟩; have n0_ := Aside0.mk (Kd.qaA (by (with_reducible repeat (first | apply Kd.qar | apply Kd.qas | apply Kd.qax)); exact HO807.out) hb); have n1_ := Aside0.mk (qaB (g := gb804) (o := .cells #[.string (⟨#[]⟩ : ByteArray), .string (⟨#[]⟩ : ByteArray), .int .i64 0, .slice none 0 0, .int .i64 0] 48 (0, 0)) (by (with_reducible repeat (first | refine qag ?_ _ | refine qaj ?_ | refine qaf ?_ _)); exact BK804.out) hb); have n2_ := Aside0.mk (qak (by repeat (first | (with_reducible first | exact HB.out | apply qac | apply qaa | apply qab | refine qai ?_ GE804.out) | exact HB.out)) hb); clear HO807; clear BK804; clear HB; have HO807 := n0_; have BK804 := n1_; have HB := n2_; clear n0_ n1_ n2_; (try clear hb); (try clear hb2); (try clear hk); (try clear hi); obtain ⟨Ao11, co11, eo11⟩ := Kd.qbN HO807.out; subst eo11; have hcz12_0 : w10.cell? ⟨gb804, 0, none⟩ = some (.string (⟨#[]⟩ : ByteArray)) := (qah BK804.out 0).trans rfl; have hcz12_1 : w10.cell? ⟨gb804, 1, none⟩ = some (.string (⟨#[]⟩ : ByteArray)) := (qah BK804.out 1).trans rfl; have hcz12_2 : w10.cell? ⟨gb804, 2, none⟩ = some (.int .i64 0) := (qah BK804.out 2).trans rfl; have hcz12_3 : w10.cell? ⟨gb804, 3, none⟩ = some (.slice none 0 0) := (qah BK804.out 3).trans rfl; have hcz12_4 : w10.cell? ⟨gb804, 4, none⟩ = some (.int .i64 0) := (qah BK804.out 4).trans rfl; have hfz12_0 := qad BK804.out 0; have hfz12_1 := qad BK804.out 1; have hfz12_2 := qad BK804.out 2; have hfz12_3 := qad BK804.out 3; have hfz12_4 := qad BK804.out 4))
 refine bodyPost_ret (results_cell_row rfl _ _ gb804 48 #[.string a0, .string a1, .int .i64 a2, .slice Ao11 t805.length co11, .int .i64 t808] (0, 0) _ rfl (by (with_reducible repeat (first | refine qag ?_ _ | refine qaj ?_ | refine qaf ?_ _)); refine qaI (cs := #[.string a0, .string a1, .int .i64 a2, .slice Ao11 t805.length co11, .int .i64 0]) ?_ 4 _ rfl; (with_reducible repeat (first | refine qag ?_ _ | refine qaj ?_ | refine qaf ?_ _)); refine qaI (cs := #[.string a0, .string a1, .int .i64 a2, .slice none 0 0, .int .i64 0]) ?_ 3 _ rfl; (with_reducible repeat (first | refine qag ?_ _ | refine qaj ?_ | refine qaf ?_ _)); refine qaI (cs := #[.string a0, .string a1, .int .i64 0, .slice none 0 0, .int .i64 0]) ?_ 2 _ rfl; (with_reducible repeat (first | refine qag ?_ _ | refine qaj ?_ | refine qaf ?_ _)); refine qaI (cs := #[.string a0, .string (⟨#[]⟩ : ByteArray), .int .i64 0, .slice none 0 0, .int .i64 0]) ?_ 1 _ rfl; (with_reducible repeat (first | refine qag ?_ _ | refine qaj ?_ | refine qaf ?_ _)); refine qaI (cs := #[.string (⟨#[]⟩ : ByteArray), .string (⟨#[]⟩ : ByteArray), .int .i64 0, .slice none 0 0, .int .i64 0]) ?_ 0 _ rfl; (with_reducible repeat (first | refine qag ?_ _ | refine qaj ?_ | refine qaf ?_ _)); exact BK804.out) Try.underlying48 rfl (by kernel_rfl)) rfl ?_
 exact ⟨_, by first | rfl | (simp [qam, qan] <;> rfl) | (simp [*, qam, qan] <;> rfl), by (with_reducible repeat (first | apply Kd.qar | apply Kd.qas | apply Kd.qax)); exact Kd.qbn (Kd.qa0 (p := ⟨gb804, 4, none⟩) (Kd.qa0 (p := ⟨gb804, 3, none⟩) (Kd.qa0 (p := ⟨gb804, 2, none⟩) (Kd.qa0 (p := ⟨gb804, 1, none⟩) (Kd.qa0 (p := ⟨gb804, 0, none⟩) (Kd.qbw HO807.out BK804.out (by decide)) (fun _ hk => hk.2) (.string a0)) (fun _ hk => hk.2) (.string a1)) (fun _ hk => hk.2) (.int .i64 a2)) (fun _ hk => hk.2) (.slice Ao11 t805.length co11)) (fun _ hk => hk.2) (.int .i64 t808)) (fun _ hk => trivial), by repeat (first | (with_reducible first | exact HB.out | apply qac | apply qaa | apply qab | refine qai ?_ GE804.out) | exact HB.out)⟩
end Go.Proofs.Ytgcncphdjabjjaa.X
