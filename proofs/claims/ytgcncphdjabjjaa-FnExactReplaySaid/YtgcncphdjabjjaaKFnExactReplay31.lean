import Derived.Test.YtgcncphdjabjjaaKFnExactReplay3
import Derived.Test.YtgcncphdjabjjaaKFnExactReplay29
import Derived.Test.YtgcncphdjabjjaaKFnExactReplay30
namespace Go.Proofs.Ytgcncphdjabjjaa.X
open Go.RowKit Go.Proofs.YtgcncphdjabjjaaW.PrintWords Go.Proofs.YtgcncphdjabjjaaW.PrintLast Go.Proofs.YtgcncphdjabjjaaW.PrintMore
attribute [local go_sem] qaC qaD qaE qay qaz qaN qaO qat qau qaA qaB
set_option linter.unusedVariables false
set_option linter.unusedSimpArgs false
def qbL.f (k : Nat) (a0_0 : ByteArray) (a0_1 : ByteArray) (a0_2 : Int) (l0_3 : List (S85)) (a0_4 : Int) (a1 : Int) : Option (Int) := if (wrap64 (a1 - (a0_0.size : Int))) < 0 then (some (-1)) else (if (wrap64 ((wrap64 (a1 - (a0_0.size : Int))) - (a0_1.size : Int))) < 0 then (some (-1)) else ((qa2.f k l0_3 (wrap64 ((wrap64 (a1 - (a0_0.size : Int))) - (a0_1.size : Int)))).bind fun t571 => (if t571 < 0 then (some (-1)) else (some t571))))
theorem qbL.mono : ∀ a0 a1 a2 a3 a4 a5 k, LeO (qbL.f k a0 a1 a2 a3 a4 a5) (qbL.f (k + 1) a0 a1 a2 a3 a4 a5) := by
 intro a0 a1 a2 a3 a4 a5 k
 unfold qbL.f
 repeat' first
   | (with_reducible exact qa2.mono _ _ _)
   | (with_reducible exact LeO.refl _)
   | (with_reducible exact LeO.none _)
   | (with_reducible refine LeO.ite ?_ ?_)
   | (with_reducible refine LeO.bind ?_ (fun _ => ?_))
   | exact qa2.mono _ _ _
   | exact LeO.none _
   | refine LeO.ite ?_ ?_
   | refine LeO.bind ?_ (fun _ => ?_)
set_option maxHeartbeats 8000000 in
set_option maxRecDepth 100000 in
theorem qbL.calls (k : Nat) (a0_0 : ByteArray) (a0_1 : ByteArray) (a0_2 : Int) (A0_3 : Option Addr) (c0_3 : Nat) (l0_3 : List (S85)) (a0_4 : Int) (a1 : Int) (r : Int) (w : World) (hr0_3 : Kd.C k85 w A0_3 l0_3.length l0_3) (hc0_3 : l0_3.length ≤ c0_3) (h : qbL.f k a0_0 a0_1 a0_2 l0_3 a0_4 a1 = some r) :
  Calls Try.prog 27 #[.agg #[.string a0_0, .string a0_1, .int .i64 a0_2, .slice A0_3 l0_3.length c0_3, .int .i64 a0_4], .int .i64 a1] w fun e w' => e = .returned (.int .i64 r) ∧ Below w.heap.size w w' := by
 have hu44 := Try.underlying44
 have HR0_3 := Aside0.mk hr0_3
 have HC0_3 := Aside0.mk hc0_3
 clear hr0_3 hc0_3
 have HB := Aside0.mk (Below.refl w.heap.size w)
 have H : (if (wrap64 (a1 - (a0_0.size : Int))) < 0 then (some (-1)) else (if (wrap64 ((wrap64 (a1 - (a0_0.size : Int))) - (a0_1.size : Int))) < 0 then (some (-1)) else ((qa2.f k l0_3 (wrap64 ((wrap64 (a1 - (a0_0.size : Int))) - (a0_1.size : Int)))).bind fun t571 => (if t571 < 0 then (some (-1)) else (some t571))))) = some r := h
 clear h
 by_cases c3 : (wrap64 (a1 - (a0_0.size : Int))) < 0
 ·rw [if_pos c3] at H
  have c3b0 : decide ((wrap64 (a1 - (a0_0.size : Int))) < 0) = true := decide_eq_true c3
  clear c3
  obtain rfl := Option.some.inj H
  go_enter Try.func27, Try.ntmps27
  go_wp2_with (first | ((with_reducible refine qaH (N := 2) rfl ?_); refine qaF ?hg (N := 2) ?hd (cs := #[.string a0_0, .string a0_1, .int .i64 a0_2, .slice A0_3 l0_3.length c0_3, .int .i64 a0_4]) (t := 44) ?hr ?_; (case hd => rfl); (case hg => rfl); (case hr => first | (go_simp; done) | (go_simp; rfl)); intro gb570 hg w4 hbox hb; have n0_ := Aside0.mk (qag (by repeat (first | (with_reducible first | exact HB.out | apply qac | apply qaa | apply qab) | exact HB.out)) hb); have n1_ := Aside0.mk (hbox); have n2_ := Aside0.mk ((by rw [hg]; exact (qak (by repeat (first | (with_reducible first | exact HB.out | apply qac | apply qaa | apply qab) | exact HB.out))) : w.heap.size ≤ gb570)); have n3_ := Aside0.mk ((by rw [hg]; exact (qak (by repeat (first | (with_reducible first | exact HB.out | apply qac | apply qaa | apply qab) | exact HB.out))) : w.heap.size ≤ gb570)); clear HB; have HB := n0_; have BK570 := n1_; have GW570 := n2_; have GE570 := n3_; clear n0_ n1_ n2_ n3_; clear hb hbox hg; have hcz5_0 : w4.cell? ⟨gb570, 0, none⟩ = some (.string a0_0) := (qad BK570.out 0).trans rfl; have hcz5_1 : w4.cell? ⟨gb570, 1, none⟩ = some (.string a0_1) := (qad BK570.out 1).trans rfl; have hcz5_2 : w4.cell? ⟨gb570, 2, none⟩ = some (.int .i64 a0_2) := (qad BK570.out 2).trans rfl; have hcz5_3 : w4.cell? ⟨gb570, 3, none⟩ = some (.slice A0_3 l0_3.length c0_3) := (qad BK570.out 3).trans rfl; have hcz5_4 : w4.cell? ⟨gb570, 4, none⟩ = some (.int .i64 a0_4) := (qad BK570.out 4).trans rfl; have hfz5_0 := qae BK570.out 0; have hfz5_1 := qae BK570.out 1; have hfz5_2 := qae BK570.out 2; have hfz5_3 := qae BK570.out 3; have hfz5_4 := qae BK570.out 4))
  go_ret
  exact ⟨by first | rfl | (simp [qam, qan] <;> rfl) | (simp [*, qam, qan] <;> rfl), by repeat (first | (with_reducible first | exact HB.out | apply qac | apply qaa | apply qab | refine qah ?_ GE570.out) | exact HB.out)⟩
 ·rw [if_neg c3] at H
  have c3b0 : decide ((wrap64 (a1 - (a0_0.size : Int))) < 0) = false := decide_eq_false c3
  clear c3
  by_cases c6 : (wrap64 ((wrap64 (a1 - (a0_0.size : Int))) - (a0_1.size : Int))) < 0
  ·rw [if_pos c6] at H
   have c6b0 : decide ((wrap64 ((wrap64 (a1 - (a0_0.size : Int))) - (a0_1.size : Int))) < 0) = true := decide_eq_true c6
   clear c6
   obtain rfl := Option.some.inj H
   go_enter Try.func27, Try.ntmps27
   go_wp2_with (first | ((with_reducible refine qaH (N := 2) rfl ?_); refine qaF ?hg (N := 2) ?hd (cs := #[.string a0_0, .string a0_1, .int .i64 a0_2, .slice A0_3 l0_3.length c0_3, .int .i64 a0_4]) (t := 44) ?hr ?_; (case hd => rfl); (case hg => rfl); (case hr => first | (go_simp; done) | (go_simp; rfl)); intro gb570 hg w7 hbox hb; have n0_ := Aside0.mk (qag (by repeat (first | (with_reducible first | exact HB.out | apply qac | apply qaa | apply qab) | exact HB.out)) hb); have n1_ := Aside0.mk (hbox); have n2_ := Aside0.mk ((by rw [hg]; exact (qak (by repeat (first | (with_reducible first | exact HB.out | apply qac | apply qaa | apply qab) | exact HB.out))) : w.heap.size ≤ gb570)); have n3_ := Aside0.mk ((by rw [hg]; exact (qak (by repeat (first | (with_reducible first | exact HB.out | apply qac | apply qaa | apply qab) | exact HB.out))) : w.heap.size ≤ gb570)); clear HB; have HB := n0_; have BK570 := n1_; have GW570 := n2_; have GE570 := n3_; clear n0_ n1_ n2_ n3_; clear hb hbox hg; have hcz8_0 : w7.cell? ⟨gb570, 0, none⟩ = some (.string a0_0) := (qad BK570.out 0).trans rfl; have hcz8_1 : w7.cell? ⟨gb570, 1, none⟩ = some (.string a0_1) := (qad BK570.out 1).trans rfl; have hcz8_2 : w7.cell? ⟨gb570, 2, none⟩ = some (.int .i64 a0_2) := (qad BK570.out 2).trans rfl; have hcz8_3 : w7.cell? ⟨gb570, 3, none⟩ = some (.slice A0_3 l0_3.length c0_3) := (qad BK570.out 3).trans rfl; have hcz8_4 : w7.cell? ⟨gb570, 4, none⟩ = some (.int .i64 a0_4) := (qad BK570.out 4).trans rfl; have hfz8_0 := qae BK570.out 0; have hfz8_1 := qae BK570.out 1; have hfz8_2 := qae BK570.out 2; have hfz8_3 := qae BK570.out 3; have hfz8_4 := qae BK570.out 4))
   go_ret
   exact ⟨by first | rfl | (simp [qam, qan] <;> rfl) | (simp [*, qam, qan] <;> rfl), by repeat (first | (with_reducible first | exact HB.out | apply qac | apply qaa | apply qab | refine qah ?_ GE570.out) | exact HB.out)⟩
  ·rw [if_neg c6] at H
   have c6b0 : decide ((wrap64 ((wrap64 (a1 - (a0_0.size : Int))) - (a0_1.size : Int))) < 0) = false := decide_eq_false c6
   clear c6
   replace H := Option.bind_eq_some_iff.mp H
   obtain ⟨t571, A90, H⟩ := H
   replace H : (if t571 < 0 then (some (-1)) else (some t571)) = some r := H
   have A9 := Aside0.mk A90
   clear A90
   by_cases c10 : t571 < 0
   ·rw [if_pos c10] at H
    have c10b0 : decide (t571 < 0) = true := decide_eq_true c10
    clear c10
    obtain rfl := Option.some.inj H
    go_enter Try.func27, Try.ntmps27
    go_wp2_with (first | ((with_reducible refine qaH (N := 2) rfl ?_); refine qaF ?hg (N := 2) ?hd (cs := #[.string a0_0, .string a0_1, .int .i64 a0_2, .slice A0_3 l0_3.length c0_3, .int .i64 a0_4]) (t := 44) ?hr ?_; (case hd => rfl); (case hg => rfl); (case hr => first | (go_simp; done) | (go_simp; rfl)); intro gb570 hg w11 hbox hb; have n0_ := Aside0.mk (qag (by repeat (first | (with_reducible first | exact HB.out | apply qac | apply qaa | apply qab) | exact HB.out)) hb); have n1_ := Aside0.mk (hbox); have n2_ := Aside0.mk ((by rw [hg]; exact (qak (by repeat (first | (with_reducible first | exact HB.out | apply qac | apply qaa | apply qab) | exact HB.out))) : w.heap.size ≤ gb570)); have n3_ := Aside0.mk ((by rw [hg]; exact (qak (by repeat (first | (with_reducible first | exact HB.out | apply qac | apply qaa | apply qab) | exact HB.out))) : w.heap.size ≤ gb570)); clear HB; have HB := n0_; have BK570 := n1_; have GW570 := n2_; have GE570 := n3_; clear n0_ n1_ n2_ n3_; clear hb hbox hg; have hcz12_0 : w11.cell? ⟨gb570, 0, none⟩ = some (.string a0_0) := (qad BK570.out 0).trans rfl; have hcz12_1 : w11.cell? ⟨gb570, 1, none⟩ = some (.string a0_1) := (qad BK570.out 1).trans rfl; have hcz12_2 : w11.cell? ⟨gb570, 2, none⟩ = some (.int .i64 a0_2) := (qad BK570.out 2).trans rfl; have hcz12_3 : w11.cell? ⟨gb570, 3, none⟩ = some (.slice A0_3 l0_3.length c0_3) := (qad BK570.out 3).trans rfl; have hcz12_4 : w11.cell? ⟨gb570, 4, none⟩ = some (.int .i64 a0_4) := (qad BK570.out 4).trans rfl; have hfz12_0 := qae BK570.out 0; have hfz12_1 := qae BK570.out 1; have hfz12_2 := qae BK570.out 2; have hfz12_3 := qae BK570.out 3; have hfz12_4 := qae BK570.out 4) | ((with_reducible refine qav (f := 22) rfl ?_); refine qbd (some 22) rfl rfl Try.func22 (by kernel_rfl) rfl #[.slice A0_3 l0_3.length c0_3, .int .i64 (wrap64 ((wrap64 (a1 - (a0_0.size : Int))) - (a0_1.size : Int)))] rfl (by (try simp only [List.map_toArray, List.map_cons, List.map_nil]); first | done | rfl | (simp only [List.length_drop, List.length_take]; rfl)) ?_; (with_reducible refine (qa2.calls k _ _ l0_3 (wrap64 ((wrap64 (a1 - (a0_0.size : Int))) - (a0_1.size : Int))) t571 _ ?side1 ?side2 A9.out).mono ?_); (case side1 => repeat (first | exact (Kd.qbe HR0_3.out HB.out) | (with_reducible refine Kd.qa6 ?_ _) | (with_reducible refine Kd.qa7 ?_ _) | (with_reducible refine Kd.qbj ?_))); (case side2 => exact HC0_3.out); rintro e w13 ⟨rfl, hb⟩; refine ⟨_, rfl, ?_⟩; have n0_ := Aside0.mk (qao (g := gb570) (o := .cells #[.string a0_0, .string a0_1, .int .i64 a0_2, .slice A0_3 l0_3.length c0_3, .int .i64 a0_4] 44 (0, 0)) (by (with_reducible repeat (first | refine qaj ?_ _ | refine qal ?_ | refine qai ?_ _)); exact BK570.out) hb); have n1_ := Aside0.mk (qag (by repeat (first | (with_reducible first | exact HB.out | apply qac | apply qaa | apply qab | refine qah ?_ GE570.out) | exact HB.out)) hb); clear BK570; clear HB; have BK570 := n0_; have HB := n1_; clear n0_ n1_; (try clear hb); (try clear hb2); (try clear hk); (try clear hi)))
    go_ret
    exact ⟨by first | rfl | (simp [qam, qan] <;> rfl) | (simp [*, qam, qan] <;> rfl), by repeat (first | (with_reducible first | exact HB.out | apply qac | apply qaa | apply qab | refine qah ?_ GE570.out) | exact HB.out)⟩
   ·rw [if_neg c10] at H
    have c10b0 : decide (t571 < 0) = false := decide_eq_false c10
    clear c10
    obtain rfl := Option.some.inj H
    go_enter Try.func27, Try.ntmps27
    go_wp2_with (first | ((with_reducible refine qaH (N := 2) rfl ?_); refine qaF ?hg (N := 2) ?hd (cs := #[.string a0_0, .string a0_1, .int .i64 a0_2, .slice A0_3 l0_3.length c0_3, .int .i64 a0_4]) (t := 44) ?hr ?_; (case hd => rfl); (case hg => rfl); (case hr => first | (go_simp; done) | (go_simp; rfl)); intro gb570 hg w14 hbox hb; have n0_ := Aside0.mk (qag (by repeat (first | (with_reducible first | exact HB.out | apply qac | apply qaa | apply qab) | exact HB.out)) hb); have n1_ := Aside0.mk (hbox); have n2_ := Aside0.mk ((by rw [hg]; exact (qak (by repeat (first | (with_reducible first | exact HB.out | apply qac | apply qaa | apply qab) | exact HB.out))) : w.heap.size ≤ gb570)); have n3_ := Aside0.mk ((by rw [hg]; exact (qak (by repeat (first | (with_reducible first | exact HB.out | apply qac | apply qaa | apply qab) | exact HB.out))) : w.heap.size ≤ gb570)); clear HB; have HB := n0_; have BK570 := n1_; have GW570 := n2_; have GE570 := n3_; clear n0_ n1_ n2_ n3_; clear hb hbox hg; have hcz15_0 : w14.cell? ⟨gb570, 0, none⟩ = some (.string a0_0) := (qad BK570.out 0).trans rfl; have hcz15_1 : w14.cell? ⟨gb570, 1, none⟩ = some (.string a0_1) := (qad BK570.out 1).trans rfl; have hcz15_2 : w14.cell? ⟨gb570, 2, none⟩ = some (.int .i64 a0_2) := (qad BK570.out 2).trans rfl; have hcz15_3 : w14.cell? ⟨gb570, 3, none⟩ = some (.slice A0_3 l0_3.length c0_3) := (qad BK570.out 3).trans rfl; have hcz15_4 : w14.cell? ⟨gb570, 4, none⟩ = some (.int .i64 a0_4) := (qad BK570.out 4).trans rfl; have hfz15_0 := qae BK570.out 0; have hfz15_1 := qae BK570.out 1; have hfz15_2 := qae BK570.out 2; have hfz15_3 := qae BK570.out 3; have hfz15_4 := qae BK570.out 4) | ((with_reducible refine qav (f := 22) rfl ?_); refine qbd (some 22) rfl rfl Try.func22 (by kernel_rfl) rfl #[.slice A0_3 l0_3.length c0_3, .int .i64 (wrap64 ((wrap64 (a1 - (a0_0.size : Int))) - (a0_1.size : Int)))] rfl (by (try simp only [List.map_toArray, List.map_cons, List.map_nil]); first | done | rfl | (simp only [List.length_drop, List.length_take]; rfl)) ?_; (with_reducible refine (qa2.calls k _ _ l0_3 (wrap64 ((wrap64 (a1 - (a0_0.size : Int))) - (a0_1.size : Int))) t571 _ ?side1 ?side2 A9.out).mono ?_); (case side1 => repeat (first | exact (Kd.qbe HR0_3.out HB.out) | (with_reducible refine Kd.qa6 ?_ _) | (with_reducible refine Kd.qa7 ?_ _) | (with_reducible refine Kd.qbj ?_))); (case side2 => exact HC0_3.out); rintro e w16 ⟨rfl, hb⟩; refine ⟨_, rfl, ?_⟩; have n0_ := Aside0.mk (qao (g := gb570) (o := .cells #[.string a0_0, .string a0_1, .int .i64 a0_2, .slice A0_3 l0_3.length c0_3, .int .i64 a0_4] 44 (0, 0)) (by (with_reducible repeat (first | refine qaj ?_ _ | refine qal ?_ | refine qai ?_ _)); exact BK570.out) hb); have n1_ := Aside0.mk (qag (by repeat (first | (with_reducible first | exact HB.out | apply qac | apply qaa | apply qab | refine qah ?_ GE570.out) | exact HB.out)) hb); clear BK570; clear HB; have BK570 := n0_; have HB := n1_; clear n0_ n1_; (try clear hb); (try clear hb2); (try clear hk); (try clear hi)))
    go_ret
    exact ⟨by first | rfl | (simp [qam, qan] <;> rfl) | (simp [*, qam, qan] <;> rfl), by repeat (first | (with_reducible first | exact HB.out | apply qac | apply qaa | apply qab | refine qah ?_ GE570.out) | exact HB.out)⟩
end Go.Proofs.Ytgcncphdjabjjaa.X
namespace Go.Proofs.Ytgcncphdjabjjaa.X
open Go.RowKit Go.Proofs.YtgcncphdjabjjaaW.PrintWords Go.Proofs.YtgcncphdjabjjaaW.PrintLast Go.Proofs.YtgcncphdjabjjaaW.PrintMore
attribute [local go_sem] qaC qaD qaE qay qaz qaN qaO qat qau qaA qaB
set_option linter.unusedVariables false
set_option linter.unusedSimpArgs false
theorem qib (x : S44) (hw : wl44 x) (B left : Int) (h0 : 0 ≤ left) (h1 : left ≤ B) (hB : B ≤ 1048576) : ∃ r, Ev (fun k => qbL.f k (x.f0) (x.f1) (x.f2) (x.f3) (x.f4) left) r ∧ (0 ≤ r → r ≤ left ∧ sm44 B x) := by
 unfold qbL.f
 have hs0 : x.f0.size ≤ 9223372036854775807 := Nat.le_trans hw.1 qcN
 have e0 : wrap64 (left - (x.f0.size : Int)) = left - (x.f0.size : Int) := qbR (by omega) (by omega)
 simp only [e0]
 by_cases c0 : left - (x.f0.size : Int) < 0
 ·exact ⟨-1, Ev.pos c0 (Ev.is rfl), fun h => by omega⟩
 suffices hh : ∃ r, Ev _ r ∧ (0 ≤ r → r ≤ left ∧ sm44 B x) from (let ⟨r, hr, hq⟩ := hh; ⟨r, Ev.neg c0 hr, hq⟩)
 have hs1 : x.f1.size ≤ 9223372036854775807 := Nat.le_trans hw.2.1 qcN
 have e1 : wrap64 ((left - (x.f0.size : Int)) - (x.f1.size : Int)) = (left - (x.f0.size : Int)) - (x.f1.size : Int) := qbR (by omega) (by omega)
 simp only [e1]
 by_cases c1 : (left - (x.f0.size : Int)) - (x.f1.size : Int) < 0
 ·exact ⟨-1, Ev.pos c1 (Ev.is rfl), fun h => by omega⟩
 suffices hh : ∃ r, Ev _ r ∧ (0 ≤ r → r ≤ left ∧ sm44 B x) from (let ⟨r, hr, hq⟩ := hh; ⟨r, Ev.neg c1 hr, hq⟩)
 obtain ⟨r3, hr3, hq3⟩ := sz_DiffS x.f3 hw.2.2.2.1 B ((left - (x.f0.size : Int)) - (x.f1.size : Int)) (by omega) (by omega) hB
 by_cases c3 : r3 < 0
 ·exact ⟨-1, Ev.bind hr3 (Ev.pos c3 (Ev.is rfl)), fun h => by omega⟩
 have hq3' := hq3 (by omega)
 suffices hh : ∃ r, Ev _ r ∧ (0 ≤ r → r ≤ left ∧ sm44 B x) from (let ⟨r, hr, hq⟩ := hh; ⟨r, Ev.bind hr3 (Ev.neg c3 hr), hq⟩)
 have hz3 := hq3'.1
 exact ⟨r3, Ev.is rfl, fun _ => ⟨by omega, ⟨(by omega), (by omega), trivial, hq3'.2, trivial⟩⟩⟩
end Go.Proofs.Ytgcncphdjabjjaa.X
namespace Go.Proofs.Ytgcncphdjabjjaa.X
open Go.RowKit Go.Proofs.YtgcncphdjabjjaaW.PrintWords Go.Proofs.YtgcncphdjabjjaaW.PrintLast Go.Proofs.YtgcncphdjabjjaaW.PrintMore
attribute [local go_sem] qaC qaD qaE qay qaz qaN qaO qat qau qaA qaB
set_option linter.unusedVariables false
set_option linter.unusedSimpArgs false
def qdf.f (a0_0 : ByteArray) (a0_1 : ByteArray) : Option (ByteArray × ByteArray) := some (a0_0, a0_1)
set_option maxHeartbeats 8000000 in
set_option maxRecDepth 100000 in
theorem qdf.calls (a0_0 : ByteArray) (a0_1 : ByteArray) (r1 : ByteArray) (r2 : ByteArray) (w : World) (h : qdf.f a0_0 a0_1 = some (r1, r2)) :
  Calls Try.prog 52 #[.agg #[.string a0_0, .string a0_1]] w fun e w' => e = .returned (.agg #[.string r1, .string r2]) ∧ Below w.heap.size w w' := by
 have hu73 := Try.underlying73
 have hu76 := Try.underlying76
 have HB := Aside0.mk (Below.refl w.heap.size w)
 have H : (some (a0_0, a0_1)) = some (r1, r2) := h
 clear h
 simp only [Option.some.injEq, Prod.mk.injEq] at H
 obtain ⟨rfl, rfl⟩ := H
 go_enter Try.func52, Try.ntmps52
 go_wp2_with (first | ((with_reducible refine qaH (N := 1) rfl ?_); refine qaF ?hg (N := 1) ?hd (cs := #[.string a0_0, .string a0_1]) (t := 73) ?hr ?_; (case hd => rfl); (case hg => rfl); (case hr => first | (go_simp; done) | (go_simp; rfl)); intro gb133 hg w2 hbox hb; have n0_ := Aside0.mk (qag (by repeat (first | (with_reducible first | exact HB.out | apply qac | apply qaa | apply qab) | exact HB.out)) hb); have n1_ := Aside0.mk (hbox); have n2_ := Aside0.mk ((by rw [hg]; exact (qak (by repeat (first | (with_reducible first | exact HB.out | apply qac | apply qaa | apply qab) | exact HB.out))) : w.heap.size ≤ gb133)); have n3_ := Aside0.mk ((by rw [hg]; exact (qak (by repeat (first | (with_reducible first | exact HB.out | apply qac | apply qaa | apply qab) | exact HB.out))) : w.heap.size ≤ gb133)); clear HB; have HB := n0_; have BK133 := n1_; have GW133 := n2_; have GE133 := n3_; clear n0_ n1_ n2_ n3_; clear hb hbox hg) | ((with_reducible refine qaH (N := 2) rfl ?_); refine qaF ?hg (N := 2) ?hd (cs := #[.string (⟨#[]⟩ : ByteArray), .string (⟨#[]⟩ : ByteArray)]) (t := 76) ?hr ?_; (case hd => rfl); (case hg => rfl); (case hr => first | (go_simp; done) | (go_simp; rfl)); intro gb134 hg w3 hbox hb; have n0_ := Aside0.mk (qao (g := gb133) (o := .cells #[.string a0_0, .string a0_1] 73 (0, 0)) (by (with_reducible repeat (first | refine qaj ?_ _ | refine qal ?_ | refine qai ?_ _)); exact BK133.out) hb); have n1_ := Aside0.mk (qag (by repeat (first | (with_reducible first | exact HB.out | apply qac | apply qaa | apply qab | refine qah ?_ GE133.out) | exact HB.out)) hb); have n2_ := Aside0.mk (hbox); have n3_ := Aside0.mk ((by rw [hg]; exact (qak (by repeat (first | (with_reducible first | exact HB.out | apply qac | apply qaa | apply qab | refine qah ?_ GE133.out) | exact HB.out))) : w.heap.size ≤ gb134)); have n4_ := Aside0.mk ((by rw [hg]; exact (qak (by repeat (first | (with_reducible first | exact HB.out | apply qac | apply qaa | apply qab | refine qah ?_ GE133.out) | exact HB.out))) : w.heap.size ≤ gb134)); have n5_ := Aside0.mk ((by rw [hg]; exact Nat.ne_of_lt (qbg (g := gb133) (o := .cells #[.string a0_0, .string a0_1] 73 (0, 0)) (by (with_reducible repeat (first | refine qaj ?_ _ | refine qal ?_ | refine qai ?_ _)); exact BK133.out)) : gb133 ≠ gb134)); have n6_ := Aside0.mk ((by rw [hg]; exact Nat.ne_of_gt (qbg (g := gb133) (o := .cells #[.string a0_0, .string a0_1] 73 (0, 0)) (by (with_reducible repeat (first | refine qaj ?_ _ | refine qal ?_ | refine qai ?_ _)); exact BK133.out)) : gb134 ≠ gb133)); clear BK133; clear HB; have BK133 := n0_; have HB := n1_; have BK134 := n2_; have GW134 := n3_; have GE134 := n4_; have NB133_134 := n5_; have NB134_133 := n6_; clear n0_ n1_ n2_ n3_ n4_ n5_ n6_; clear hb hbox hg) | ((with_reducible refine qaH (N := 3) rfl ?_); refine qaF ?hg (N := 3) ?hd (cs := #[.string (⟨#[]⟩ : ByteArray), .string (⟨#[]⟩ : ByteArray)]) (t := 76) ?hr ?_; (case hd => rfl); (case hg => rfl); (case hr => first | (go_simp; done) | (go_simp; rfl)); intro gb135 hg w4 hbox hb; have n0_ := Aside0.mk (qao (g := gb133) (o := .cells #[.string a0_0, .string a0_1] 73 (0, 0)) (by (with_reducible repeat (first | refine qaj ?_ _ | refine qal ?_ | refine qai ?_ _)); exact BK133.out) hb); have n1_ := Aside0.mk (qao (g := gb134) (o := .cells #[.string (⟨#[]⟩ : ByteArray), .string (⟨#[]⟩ : ByteArray)] 76 (0, 0)) (by (with_reducible repeat (first | refine qaj ?_ _ | refine qal ?_ | refine qai ?_ _)); exact BK134.out) hb); have n2_ := Aside0.mk (qag (by repeat (first | (with_reducible first | exact HB.out | apply qac | apply qaa | apply qab | refine qah ?_ GE133.out | refine qah ?_ GE134.out) | exact HB.out)) hb); have n3_ := Aside0.mk (hbox); have n4_ := Aside0.mk ((by rw [hg]; exact (qak (by repeat (first | (with_reducible first | exact HB.out | apply qac | apply qaa | apply qab | refine qah ?_ GE133.out | refine qah ?_ GE134.out) | exact HB.out))) : w.heap.size ≤ gb135)); have n5_ := Aside0.mk ((by rw [hg]; exact (qak (by repeat (first | (with_reducible first | exact HB.out | apply qac | apply qaa | apply qab | refine qah ?_ GE133.out | refine qah ?_ GE134.out) | exact HB.out))) : w.heap.size ≤ gb135)); have n6_ := Aside0.mk ((by rw [hg]; exact Nat.ne_of_lt (qbg (g := gb133) (o := .cells #[.string a0_0, .string a0_1] 73 (0, 0)) (by (with_reducible repeat (first | refine qaj ?_ _ | refine qal ?_ | refine qai ?_ _)); exact BK133.out)) : gb133 ≠ gb135)); have n7_ := Aside0.mk ((by rw [hg]; exact Nat.ne_of_gt (qbg (g := gb133) (o := .cells #[.string a0_0, .string a0_1] 73 (0, 0)) (by (with_reducible repeat (first | refine qaj ?_ _ | refine qal ?_ | refine qai ?_ _)); exact BK133.out)) : gb135 ≠ gb133)); have n8_ := Aside0.mk ((by rw [hg]; exact Nat.ne_of_lt (qbg (g := gb134) (o := .cells #[.string (⟨#[]⟩ : ByteArray), .string (⟨#[]⟩ : ByteArray)] 76 (0, 0)) (by (with_reducible repeat (first | refine qaj ?_ _ | refine qal ?_ | refine qai ?_ _)); exact BK134.out)) : gb134 ≠ gb135)); have n9_ := Aside0.mk ((by rw [hg]; exact Nat.ne_of_gt (qbg (g := gb134) (o := .cells #[.string (⟨#[]⟩ : ByteArray), .string (⟨#[]⟩ : ByteArray)] 76 (0, 0)) (by (with_reducible repeat (first | refine qaj ?_ _ | refine qal ?_ | refine qai ?_ _)); exact BK134.out)) : gb135 ≠ gb134)); clear BK133; clear BK134; clear HB; have BK133 := n0_; have BK134 := n1_; have HB := n2_; have BK135 := n3_; have GW135 := n4_; have GE135 := n5_; have NB133_135 := n6_; have NB135_133 := n7_; have NB134_135 := n8_; have NB135_134 := n9_; clear n0_ n1_ n2_ n3_ n4_ n5_ n6_ n7_ n8_ n9_; clear hb hbox hg; have hnb5 := NB133_134.out; have hnc5 := NB134_133.out; have hnb6 := NB133_135.out; have hnc6 := NB135_133.out; have hcz7_0 : w4.cell? ⟨gb133, 0, none⟩ = some (.string a0_0) := (qad BK133.out 0).trans rfl; have hcz7_1 : w4.cell? ⟨gb133, 1, none⟩ = some (.string a0_1) := (qad BK133.out 1).trans rfl; have hfz7_0 := qae BK133.out 0; have hfz7_1 := qae BK133.out 1; have hnb8 := NB135_134.out; have hnc8 := NB134_135.out; have hcz9_0 : w4.cell? ⟨gb135, 0, none⟩ = some (.string (⟨#[]⟩ : ByteArray)) := (qad BK135.out 0).trans rfl; have hcz9_1 : w4.cell? ⟨gb135, 1, none⟩ = some (.string (⟨#[]⟩ : ByteArray)) := (qad BK135.out 1).trans rfl; have hfz9_0 := qae BK135.out 0; have hfz9_1 := qae BK135.out 1; have hcz10_0 : w4.cell? ⟨gb134, 0, none⟩ = some (.string (⟨#[]⟩ : ByteArray)) := (qad BK134.out 0).trans rfl; have hcz10_1 : w4.cell? ⟨gb134, 1, none⟩ = some (.string (⟨#[]⟩ : ByteArray)) := (qad BK134.out 1).trans rfl; have hfz10_0 := qae BK134.out 0; have hfz10_1 := qae BK134.out 1))
 refine bodyPost_ret (results_cell_row rfl _ _ gb134 76 #[.string a0_0, .string a0_1] (0, 0) _ rfl (by (with_reducible repeat (first | refine qaj ?_ _ | refine qal ?_ | refine qai ?_ _)); refine qaW (cs := #[.string a0_0, .string (⟨#[]⟩ : ByteArray)]) ?_ 1 _ rfl; (with_reducible repeat (first | refine qaj ?_ _ | refine qal ?_ | refine qai ?_ _)); refine qaW (cs := #[.string (⟨#[]⟩ : ByteArray), .string (⟨#[]⟩ : ByteArray)]) ?_ 0 _ rfl; (with_reducible repeat (first | refine qaj ?_ _ | refine qal ?_ | refine qai ?_ _)); refine qbB ?_ NB134_135.out _; (with_reducible repeat (first | refine qaj ?_ _ | refine qal ?_ | refine qai ?_ _)); refine qbB ?_ NB134_135.out _; (with_reducible repeat (first | refine qaj ?_ _ | refine qal ?_ | refine qai ?_ _)); exact BK134.out) Try.underlying76 rfl (by kernel_rfl)) rfl ?_
 exact ⟨by first | rfl | (simp [qam, qan] <;> rfl) | (simp [*, qam, qan] <;> rfl), by repeat (first | (with_reducible first | exact HB.out | apply qac | apply qaa | apply qab | refine qah ?_ GE133.out | refine qah ?_ GE134.out | refine qah ?_ GE135.out) | exact HB.out)⟩
end Go.Proofs.Ytgcncphdjabjjaa.X
namespace Go.Proofs.Ytgcncphdjabjjaa.X
open Go.RowKit Go.Proofs.YtgcncphdjabjjaaW.PrintWords Go.Proofs.YtgcncphdjabjjaaW.PrintLast Go.Proofs.YtgcncphdjabjjaaW.PrintMore
attribute [local go_sem] qaC qaD qaE qay qaz qaN qaO qat qau qaA qaB
set_option linter.unusedVariables false
set_option linter.unusedSimpArgs false
def cv73 (x : S73) : S76 := ⟨x.f0, x.f1⟩
def sm73 (B : Int) (x : S73) : Prop := (x.f0.size : Int) ≤ B ∧ (x.f1.size : Int) ≤ B
def wl73 (x : S73) : Prop := x.f0.size ≤ maxLen ∧ x.f1.size ≤ maxLen
theorem to_Pair (x : S73) : qdf.f (x.f0) (x.f1) = some (x.f0, x.f1) := rfl
end Go.Proofs.Ytgcncphdjabjjaa.X
namespace Go.Proofs.Ytgcncphdjabjjaa.X
open Go.RowKit Go.Proofs.YtgcncphdjabjjaaW.PrintWords Go.Proofs.YtgcncphdjabjjaaW.PrintLast Go.Proofs.YtgcncphdjabjjaaW.PrintMore
attribute [local go_sem] qaC qaD qaE qay qaz qaN qaO qat qau qaA qaB
set_option linter.unusedVariables false
set_option linter.unusedSimpArgs false
def qcI.f (a0_0 : ByteArray) (a0_1 : ByteArray) (a1 : Int) : Option (Int) := if (wrap64 (a1 - (a0_0.size : Int))) < 0 then (some (-1)) else (if (wrap64 ((wrap64 (a1 - (a0_0.size : Int))) - (a0_1.size : Int))) < 0 then (some (-1)) else (some (wrap64 ((wrap64 (a1 - (a0_0.size : Int))) - (a0_1.size : Int)))))
set_option maxHeartbeats 8000000 in
set_option maxRecDepth 100000 in
theorem qcI.calls (a0_0 : ByteArray) (a0_1 : ByteArray) (a1 : Int) (r : Int) (w : World) (h : qcI.f a0_0 a0_1 a1 = some r) :
  Calls Try.prog 49 #[.agg #[.string a0_0, .string a0_1], .int .i64 a1] w fun e w' => e = .returned (.int .i64 r) ∧ Below w.heap.size w w' := by
 have hu73 := Try.underlying73
 have HB := Aside0.mk (Below.refl w.heap.size w)
 have H : (if (wrap64 (a1 - (a0_0.size : Int))) < 0 then (some (-1)) else (if (wrap64 ((wrap64 (a1 - (a0_0.size : Int))) - (a0_1.size : Int))) < 0 then (some (-1)) else (some (wrap64 ((wrap64 (a1 - (a0_0.size : Int))) - (a0_1.size : Int)))))) = some r := h
 clear h
 by_cases c3 : (wrap64 (a1 - (a0_0.size : Int))) < 0
 ·rw [if_pos c3] at H
  have c3b0 : decide ((wrap64 (a1 - (a0_0.size : Int))) < 0) = true := decide_eq_true c3
  clear c3
  obtain rfl := Option.some.inj H
  go_enter Try.func49, Try.ntmps49
  go_wp2_with (first | ((with_reducible refine qaH (N := 2) rfl ?_); refine qaF ?hg (N := 2) ?hd (cs := #[.string a0_0, .string a0_1]) (t := 73) ?hr ?_; (case hd => rfl); (case hg => rfl); (case hr => first | (go_simp; done) | (go_simp; rfl)); intro gb101 hg w4 hbox hb; have n0_ := Aside0.mk (qag (by repeat (first | (with_reducible first | exact HB.out | apply qac | apply qaa | apply qab) | exact HB.out)) hb); have n1_ := Aside0.mk (hbox); have n2_ := Aside0.mk ((by rw [hg]; exact (qak (by repeat (first | (with_reducible first | exact HB.out | apply qac | apply qaa | apply qab) | exact HB.out))) : w.heap.size ≤ gb101)); have n3_ := Aside0.mk ((by rw [hg]; exact (qak (by repeat (first | (with_reducible first | exact HB.out | apply qac | apply qaa | apply qab) | exact HB.out))) : w.heap.size ≤ gb101)); clear HB; have HB := n0_; have BK101 := n1_; have GW101 := n2_; have GE101 := n3_; clear n0_ n1_ n2_ n3_; clear hb hbox hg; have hcz5_0 : w4.cell? ⟨gb101, 0, none⟩ = some (.string a0_0) := (qad BK101.out 0).trans rfl; have hcz5_1 : w4.cell? ⟨gb101, 1, none⟩ = some (.string a0_1) := (qad BK101.out 1).trans rfl; have hfz5_0 := qae BK101.out 0; have hfz5_1 := qae BK101.out 1))
  go_ret
  exact ⟨by first | rfl | (simp [qam, qan] <;> rfl) | (simp [*, qam, qan] <;> rfl), by repeat (first | (with_reducible first | exact HB.out | apply qac | apply qaa | apply qab | refine qah ?_ GE101.out) | exact HB.out)⟩
 ·rw [if_neg c3] at H
  have c3b0 : decide ((wrap64 (a1 - (a0_0.size : Int))) < 0) = false := decide_eq_false c3
  clear c3
  by_cases c6 : (wrap64 ((wrap64 (a1 - (a0_0.size : Int))) - (a0_1.size : Int))) < 0
  ·rw [if_pos c6] at H
   have c6b0 : decide ((wrap64 ((wrap64 (a1 - (a0_0.size : Int))) - (a0_1.size : Int))) < 0) = true := decide_eq_true c6
   clear c6
   obtain rfl := Option.some.inj H
   go_enter Try.func49, Try.ntmps49
   go_wp2_with (first | ((with_reducible refine qaH (N := 2) rfl ?_); refine qaF ?hg (N := 2) ?hd (cs := #[.string a0_0, .string a0_1]) (t := 73) ?hr ?_; (case hd => rfl); (case hg => rfl); (case hr => first | (go_simp; done) | (go_simp; rfl)); intro gb101 hg w7 hbox hb; have n0_ := Aside0.mk (qag (by repeat (first | (with_reducible first | exact HB.out | apply qac | apply qaa | apply qab) | exact HB.out)) hb); have n1_ := Aside0.mk (hbox); have n2_ := Aside0.mk ((by rw [hg]; exact (qak (by repeat (first | (with_reducible first | exact HB.out | apply qac | apply qaa | apply qab) | exact HB.out))) : w.heap.size ≤ gb101)); have n3_ := Aside0.mk ((by rw [hg]; exact (qak (by repeat (first | (with_reducible first | exact HB.out | apply qac | apply qaa | apply qab) | exact HB.out))) : w.heap.size ≤ gb101)); clear HB; have HB := n0_; have BK101 := n1_; have GW101 := n2_; have GE101 := n3_; clear n0_ n1_ n2_ n3_; clear hb hbox hg; have hcz8_0 : w7.cell? ⟨gb101, 0, none⟩ = some (.string a0_0) := (qad BK101.out 0).trans rfl; have hcz8_1 : w7.cell? ⟨gb101, 1, none⟩ = some (.string a0_1) := (qad BK101.out 1).trans rfl; have hfz8_0 := qae BK101.out 0; have hfz8_1 := qae BK101.out 1))
   go_ret
   exact ⟨by first | rfl | (simp [qam, qan] <;> rfl) | (simp [*, qam, qan] <;> rfl), by repeat (first | (with_reducible first | exact HB.out | apply qac | apply qaa | apply qab | refine qah ?_ GE101.out) | exact HB.out)⟩
  ·rw [if_neg c6] at H
   have c6b0 : decide ((wrap64 ((wrap64 (a1 - (a0_0.size : Int))) - (a0_1.size : Int))) < 0) = false := decide_eq_false c6
   clear c6
   obtain rfl := Option.some.inj H
   go_enter Try.func49, Try.ntmps49
   go_wp2_with (first | ((with_reducible refine qaH (N := 2) rfl ?_); refine qaF ?hg (N := 2) ?hd (cs := #[.string a0_0, .string a0_1]) (t := 73) ?hr ?_; (case hd => rfl); (case hg => rfl); (case hr => first | (go_simp; done) | (go_simp; rfl)); intro gb101 hg w9 hbox hb; have n0_ := Aside0.mk (qag (by repeat (first | (with_reducible first | exact HB.out | apply qac | apply qaa | apply qab) | exact HB.out)) hb); have n1_ := Aside0.mk (hbox); have n2_ := Aside0.mk ((by rw [hg]; exact (qak (by repeat (first | (with_reducible first | exact HB.out | apply qac | apply qaa | apply qab) | exact HB.out))) : w.heap.size ≤ gb101)); have n3_ := Aside0.mk ((by rw [hg]; exact (qak (by repeat (first | (with_reducible first | exact HB.out | apply qac | apply qaa | apply qab) | exact HB.out))) : w.heap.size ≤ gb101)); clear HB; have HB := n0_; have BK101 := n1_; have GW101 := n2_; have GE101 := n3_; clear n0_ n1_ n2_ n3_; clear hb hbox hg; have hcz10_0 : w9.cell? ⟨gb101, 0, none⟩ = some (.string a0_0) := (qad BK101.out 0).trans rfl; have hcz10_1 : w9.cell? ⟨gb101, 1, none⟩ = some (.string a0_1) := (qad BK101.out 1).trans rfl; have hfz10_0 := qae BK101.out 0; have hfz10_1 := qae BK101.out 1))
   go_ret
   exact ⟨by first | rfl | (simp [qam, qan] <;> rfl) | (simp [*, qam, qan] <;> rfl), by repeat (first | (with_reducible first | exact HB.out | apply qac | apply qaa | apply qab | refine qah ?_ GE101.out) | exact HB.out)⟩
end Go.Proofs.Ytgcncphdjabjjaa.X
namespace Go.Proofs.Ytgcncphdjabjjaa.X
open Go.RowKit Go.Proofs.YtgcncphdjabjjaaW.PrintWords Go.Proofs.YtgcncphdjabjjaaW.PrintLast Go.Proofs.YtgcncphdjabjjaaW.PrintMore
attribute [local go_sem] qaC qaD qaE qay qaz qaN qaO qat qau qaA qaB
set_option linter.unusedVariables false
set_option linter.unusedSimpArgs false
theorem sz_Pair (x : S73) (hw : wl73 x) (B left : Int) (h0 : 0 ≤ left) (h1 : left ≤ B) (hB : B ≤ 1048576) : ∃ r, Ev (fun k => qcI.f (x.f0) (x.f1) left) r ∧ (0 ≤ r → r ≤ left ∧ sm73 B x) := by
 unfold qcI.f
 have hs0 : x.f0.size ≤ 9223372036854775807 := Nat.le_trans hw.1 qcN
 have e0 : wrap64 (left - (x.f0.size : Int)) = left - (x.f0.size : Int) := qbR (by omega) (by omega)
 simp only [e0]
 by_cases c0 : left - (x.f0.size : Int) < 0
 ·exact ⟨-1, Ev.pos c0 (Ev.is rfl), fun h => by omega⟩
 suffices hh : ∃ r, Ev _ r ∧ (0 ≤ r → r ≤ left ∧ sm73 B x) from (let ⟨r, hr, hq⟩ := hh; ⟨r, Ev.neg c0 hr, hq⟩)
 have hs1 : x.f1.size ≤ 9223372036854775807 := Nat.le_trans hw.2 qcN
 have e1 : wrap64 ((left - (x.f0.size : Int)) - (x.f1.size : Int)) = (left - (x.f0.size : Int)) - (x.f1.size : Int) := qbR (by omega) (by omega)
 simp only [e1]
 by_cases c1 : (left - (x.f0.size : Int)) - (x.f1.size : Int) < 0
 ·exact ⟨-1, Ev.pos c1 (Ev.is rfl), fun h => by omega⟩
 suffices hh : ∃ r, Ev _ r ∧ (0 ≤ r → r ≤ left ∧ sm73 B x) from (let ⟨r, hr, hq⟩ := hh; ⟨r, Ev.neg c1 hr, hq⟩)
 exact ⟨((left - (x.f0.size : Int)) - (x.f1.size : Int)), Ev.is rfl, fun _ => ⟨by omega, ⟨(by omega), (by omega)⟩⟩⟩
end Go.Proofs.Ytgcncphdjabjjaa.X
namespace Go.Proofs.Ytgcncphdjabjjaa.X
open Go.RowKit Go.Proofs.YtgcncphdjabjjaaW.PrintWords Go.Proofs.YtgcncphdjabjjaaW.PrintLast Go.Proofs.YtgcncphdjabjjaaW.PrintMore
attribute [local go_sem] qaC qaD qaE qay qaz qaN qaO qat qau qaA qaB
set_option linter.unusedVariables false
set_option linter.unusedSimpArgs false
def qa4.l0 : Nat → List (S73) → Int → Int → Option (Int)
 | 0, _, _, _ => none
 | k + 1, x0, x1, x5 => if x5 < (x0.length : Int) then (if 0 ≤ x5 then ((qcI.f ((qcA x0 x5).f0) ((qcA x0 x5).f1) x1).bind fun t103 => (if t103 < 0 then (some (-1)) else (qa4.l0 k x0 t103 (wrap64 (x5 + 1))))) else (none)) else (some x1)
def qa4.f (k : Nat) (l0 : List (S73)) (a1 : Int) : Option (Int) := if (wrap64 (a1 - (l0.length : Int))) < 0 then (some (-1)) else (qa4.l0 k l0 (wrap64 (a1 - (l0.length : Int))) 0)
theorem qa4.qbm : ∀ k, (∀ y0 y1 y2, LeO (qa4.l0 k y0 y1 y2) (qa4.l0 (k + 1) y0 y1 y2))
 | 0 => fun _ _ _ r h => by simp [qa4.l0] at h
 | k + 1 => by
  have ih0 := qa4.qbm k
  ·intro y0 y1 y2
   unfold qa4.l0
   repeat' first
   | (with_reducible exact ih0 _ _ _)
   | (with_reducible exact LeO.refl _)
   | (with_reducible exact LeO.none _)
   | (with_reducible refine LeO.ite ?_ ?_)
   | (with_reducible refine LeO.bind ?_ (fun _ => ?_))
   | exact ih0 _ _ _
   | exact LeO.none _
   | refine LeO.ite ?_ ?_
   | refine LeO.bind ?_ (fun _ => ?_)
theorem qa4.mono : ∀ a0 a1 k, LeO (qa4.f k a0 a1) (qa4.f (k + 1) a0 a1) := by
 intro a0 a1 k
 have ih0 := qa4.qbm k
 unfold qa4.f
 repeat' first
   | (with_reducible exact ih0 _ _ _)
   | (with_reducible exact LeO.refl _)
   | (with_reducible exact LeO.none _)
   | (with_reducible refine LeO.ite ?_ ?_)
   | (with_reducible refine LeO.bind ?_ (fun _ => ?_))
   | exact ih0 _ _ _
   | exact LeO.none _
   | refine LeO.ite ?_ ?_
   | refine LeO.bind ?_ (fun _ => ?_)
set_option maxHeartbeats 8000000 in
set_option maxRecDepth 100000 in
theorem qa4.calls (k : Nat) (A0 : Option Addr) (c0 : Nat) (l0 : List (S73)) (a1 : Int) (r : Int) (w : World) (hr0 : Kd.C k73 w A0 l0.length l0) (hc0 : l0.length ≤ c0) (h : qa4.f k l0 a1 = some r) :
  Calls Try.prog 11 #[.slice A0 l0.length c0, .int .i64 a1] w fun e w' => e = .returned (.int .i64 r) ∧ Below w.heap.size w w' := by
 have hu73 := Try.underlying73
 have HR0 := Aside0.mk hr0
 have HC0 := Aside0.mk hc0
 clear hr0 hc0
 have HB := Aside0.mk (Below.refl w.heap.size w)
 have H : (if (wrap64 (a1 - (l0.length : Int))) < 0 then (some (-1)) else (qa4.l0 k l0 (wrap64 (a1 - (l0.length : Int))) 0)) = some r := h
 clear h
 by_cases c3 : (wrap64 (a1 - (l0.length : Int))) < 0
 ·rw [if_pos c3] at H
  have c3b0 : decide ((wrap64 (a1 - (l0.length : Int))) < 0) = true := decide_eq_true c3
  clear c3
  obtain rfl := Option.some.inj H
  go_enter Try.func11, Try.ntmps11
  go_wp2
  go_ret
  exact ⟨by first | rfl | (simp [qam, qan] <;> rfl) | (simp [*, qam, qan] <;> rfl), by repeat (first | (with_reducible first | exact HB.out | apply qac | apply qaa | apply qab) | exact HB.out)⟩
 ·rw [if_neg c3] at H
  have c3b0 : decide ((wrap64 (a1 - (l0.length : Int))) < 0) = false := decide_eq_false c3
  clear c3
  have H' := Aside0.mk H
  clear H
  go_enter Try.func11, Try.ntmps11
  go_wp2
  go_loopg [1, 5] k (fun kq v1 v5 w' => ∃ (x1_1 : Int) (x5_1 : Int), v1 = .int .i64 x1_1 ∧ v5 = .int .i64 x5_1 ∧ Aside0 (qa4.l0 kq l0 x1_1 x5_1 = some r) ∧ Aside0 (kq ≤ k) ∧ Aside0 (Below w.heap.size w w'))
  case atStart => exact ⟨(wrap64 (a1 - (l0.length : Int))), (0), (by first | rfl | (simp; done) | (simp [*]; done)), (by first | rfl | (simp; done) | (simp [*]; done)), H', ⟨Nat.le_refl _⟩, ⟨by repeat (first | (with_reducible first | exact HB.out | apply qac | apply qaa | apply qab) | exact HB.out)⟩⟩
  case round =>
   clear H'
   try clear c1
   try clear p2
   try clear c3
   try clear c3b0
   obtain ⟨x1_1, x5_1, rfl, rfl, HA, HK1, HB⟩ := hrel
   cases gk with
   | zero => exact absurd HA.out (by simp [qa4.l0])
   | succ k1 =>
    have H := HA.out
    clear HA
    simp only [qa4.l0] at H
    by_cases c4 : x5_1 < (l0.length : Int)
    ·rw [if_pos c4] at H
     have c4b0 : decide (x5_1 < (l0.length : Int)) = true := decide_eq_true c4
     clear c4
     by_cases c5 : 0 ≤ x5_1
     ·rw [if_pos c5] at H
      have c5b0 : decide (0 ≤ x5_1) = true := decide_eq_true c5
      clear c5
      replace H := Option.bind_eq_some_iff.mp H
      obtain ⟨t103, A60, H⟩ := H
      replace H : (if t103 < 0 then (some (-1)) else (qa4.l0 k1 l0 t103 (wrap64 (x5_1 + 1)))) = some r := H
      have A6 := Aside0.mk A60
      clear A60
      by_cases c7 : t103 < 0
      ·rw [if_pos c7] at H
       have c7b0 : decide (t103 < 0) = true := decide_eq_true c7
       clear c7
       obtain rfl := Option.some.inj H
       have p102 : 0 ≤ (x5_1 : Int) := of_decide_eq_true (by first | (with_reducible assumption) | assumption)
       have q102 : x5_1 < (l0.length : Int) := of_decide_eq_true (by first | (with_reducible assumption) | assumption)
       obtain ⟨ad102, e102, hx102_0, hx102_1⟩ := qhy HR0.out x5_1 p102 q102
       cases e102
       replace hx102_0 := (HB.out.cell (World.block_lt_of_cell? w _ hx102_0)).trans hx102_0
       replace hx102_1 := (HB.out.cell (World.block_lt_of_cell? w _ hx102_1)).trans hx102_1
       replace p102 := eq_true p102
       replace q102 := eq_true q102
       go_wp2_with (first | ((with_reducible refine qav (f := 49) rfl ?_); refine qbd (some 23) rfl rfl Try.func49 (by kernel_rfl) rfl #[.agg #[.string ((qcA l0 x5_1).f0), .string ((qcA l0 x5_1).f1)], .int .i64 x1_1] rfl (by (try simp only [List.map_toArray, List.map_cons, List.map_nil]); first | done | rfl | (simp only [List.length_drop, List.length_take]; rfl)) ?_; (with_reducible refine (qcI.calls ((qcA l0 x5_1).f0) ((qcA l0 x5_1).f1) x1_1 t103 _ A6.out).mono ?_); rintro e w8 ⟨rfl, hb⟩; refine ⟨_, rfl, ?_⟩; have n0_ := Aside0.mk (qag (by repeat (first | (with_reducible first | exact HB.out | apply qac | apply qaa | apply qab) | exact HB.out)) hb); clear HB; have HB := n0_; clear n0_; (try clear hb); (try clear hb2); (try clear hk); (try clear hi)))
       go_ret
       exact ⟨by first | rfl | (simp [qam, qan] <;> rfl) | (simp [*, qam, qan] <;> rfl), by repeat (first | (with_reducible first | exact HB.out | apply qac | apply qaa | apply qab) | exact HB.out)⟩
      ·rw [if_neg c7] at H
       have c7b0 : decide (t103 < 0) = false := decide_eq_false c7
       clear c7
       have H' := Aside0.mk H
       clear H
       have p102 : 0 ≤ (x5_1 : Int) := of_decide_eq_true (by first | (with_reducible assumption) | assumption)
       have q102 : x5_1 < (l0.length : Int) := of_decide_eq_true (by first | (with_reducible assumption) | assumption)
       obtain ⟨ad102, e102, hx102_0, hx102_1⟩ := qhy HR0.out x5_1 p102 q102
       cases e102
       replace hx102_0 := (HB.out.cell (World.block_lt_of_cell? w _ hx102_0)).trans hx102_0
       replace hx102_1 := (HB.out.cell (World.block_lt_of_cell? w _ hx102_1)).trans hx102_1
       replace p102 := eq_true p102
       replace q102 := eq_true q102
       go_wp2_with (first | ((with_reducible refine qav (f := 49) rfl ?_); refine qbd (some 23) rfl rfl Try.func49 (by kernel_rfl) rfl #[.agg #[.string ((qcA l0 x5_1).f0), .string ((qcA l0 x5_1).f1)], .int .i64 x1_1] rfl (by (try simp only [List.map_toArray, List.map_cons, List.map_nil]); first | done | rfl | (simp only [List.length_drop, List.length_take]; rfl)) ?_; (with_reducible refine (qcI.calls ((qcA l0 x5_1).f0) ((qcA l0 x5_1).f1) x1_1 t103 _ A6.out).mono ?_); rintro e w9 ⟨rfl, hb⟩; refine ⟨_, rfl, ?_⟩; have n0_ := Aside0.mk (qag (by repeat (first | (with_reducible first | exact HB.out | apply qac | apply qaa | apply qab) | exact HB.out)) hb); clear HB; have HB := n0_; clear n0_; (try clear hb); (try clear hb2); (try clear hk); (try clear hi)))
       go_roundg k1
       case measure => have := HK1.out; omega
       case rel => exact ⟨(t103), (wrap64 (x5_1 + 1)), (by first | rfl | (simp; done) | (simp [*]; done)), (by first | rfl | (simp; done) | (simp [*]; done)), H', ⟨by have := HK1.out; omega⟩, ⟨by repeat (first | (with_reducible first | exact HB.out | apply qac | apply qaa | apply qab) | exact HB.out)⟩⟩
     ·rw [if_neg c5] at H
      exact absurd H (by simp)
    ·rw [if_neg c4] at H
     have c4b0 : decide (x5_1 < (l0.length : Int)) = false := decide_eq_false c4
     clear c4
     obtain rfl := Option.some.inj H
     go_wp2
     go_ret
     exact ⟨by first | rfl | (simp [qam, qan] <;> rfl) | (simp [*, qam, qan] <;> rfl), by repeat (first | (with_reducible first | exact HB.out | apply qac | apply qaa | apply qab) | exact HB.out)⟩
end Go.Proofs.Ytgcncphdjabjjaa.X
namespace Go.Proofs.Ytgcncphdjabjjaa.X
open Go.RowKit Go.Proofs.YtgcncphdjabjjaaW.PrintWords Go.Proofs.YtgcncphdjabjjaaW.PrintLast Go.Proofs.YtgcncphdjabjjaaW.PrintMore
attribute [local go_sem] qaC qaD qaE qay qaz qaN qaO qat qau qaA qaB
set_option linter.unusedVariables false
set_option linter.unusedSimpArgs false
theorem qfw (B : Int) (hB : B ≤ 1048576) (rest : List S73) : ∀ (pre : List S73) (left : Int), (pre ++ rest).length ≤ 9223372036854775807 → (∀ y ∈ rest, wl73 y) → 0 ≤ left → left ≤ B →
  ∃ r, Ev (fun k => qa4.l0 k (pre ++ rest) left ((pre.length : Nat) : Int)) r ∧ (0 ≤ r → r ≤ left ∧ ∀ y ∈ rest, sm73 B y) := by
 induction rest with
 | nil =>
  intro pre left hl hw h0 h1
  refine ⟨left, Ev.succ ?_, fun _ => ⟨Int.le_refl _, fun y hy => by cases hy⟩⟩
  simp only [qa4.l0]
  exact Ev.neg (by simp) (Ev.is rfl)
 | cons x rest ih =>
  intro pre left hl hw h0 h1
  have hx : qcA (pre ++ x :: rest) ((pre.length : Nat) : Int) = x := by simp [qcA, List.getD_eq_getElem?_getD]
  have hlt : ((pre.length : Nat) : Int) < ((pre ++ x :: rest).length : Int) := by simp; omega
  have hwp : wrap64 (((pre.length : Nat) : Int) + 1) = (((pre ++ [x]).length : Nat) : Int) := by rw [← qb8]; exact qci (by omega)
  have e1 : pre ++ x :: rest = (pre ++ [x]) ++ rest := by simp
  have hl2 : ((pre ++ [x]) ++ rest).length ≤ 9223372036854775807 := by rw [← e1]; exact hl
  obtain ⟨r, hr, hq⟩ := sz_Pair x (hw x List.mem_cons_self) B left h0 h1 hB
  by_cases c : r < 0
  ·refine ⟨-1, Ev.succ ?_, fun h => by omega⟩
   simp only [qa4.l0, hx]
   exact Ev.pos hlt (Ev.pos (by omega) (Ev.bind hr (Ev.pos c (Ev.is rfl))))
  ·have hq' := hq (by omega)
   obtain ⟨r2, hr2, hq2⟩ := ih (pre ++ [x]) r hl2 (fun y hy => hw y (List.mem_cons_of_mem _ hy)) (by omega) (by omega)
   refine ⟨r2, Ev.succ ?_, fun h => ?_⟩
   ·simp only [qa4.l0, hx, hwp]
    rw [← e1] at hr2
    exact Ev.pos hlt (Ev.pos (by omega) (Ev.bind hr (Ev.neg c hr2)))
   ·have h3 := hq2 h
    refine ⟨by omega, fun y hy => ?_⟩
    rcases List.mem_cons.1 hy with rfl | hy
    ·exact hq'.2
    ·exact h3.2 y hy
theorem sz_PairS (l : List S73) (hw : (l.length ≤ maxLen ∧ ∀ y ∈ l, wl73 y)) (B left : Int) (h0 : 0 ≤ left) (h1 : left ≤ B) (hB : B ≤ 1048576) : ∃ r, Ev (fun k => qa4.f k l left) r ∧ (0 ≤ r → r ≤ left ∧ ((l.length : Int) ≤ B ∧ ∀ y ∈ l, sm73 B y)) := by
 have hl := Nat.le_trans hw.1 qcN
 unfold qa4.f
 have e : wrap64 (left - (l.length : Int)) = left - (l.length : Int) := qbR (by omega) (by omega)
 simp only [e]
 by_cases c : left - (l.length : Int) < 0
 ·exact ⟨-1, Ev.pos c (Ev.is rfl), fun h => by omega⟩
 ·obtain ⟨r, hr, hq⟩ := qfw B hB l [] (left - (l.length : Int)) (by simpa using hl) hw.2 (by omega) (by omega)
  exact ⟨r, Ev.neg c (by simpa using hr), fun h => ⟨by have := (hq h).1; omega, by omega, (hq h).2⟩⟩
end Go.Proofs.Ytgcncphdjabjjaa.X
