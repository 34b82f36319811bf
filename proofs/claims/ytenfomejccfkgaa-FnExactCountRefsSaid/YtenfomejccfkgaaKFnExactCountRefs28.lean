import Derived.Test.YtenfomejccfkgaaKFnExactCountRefs4
import Derived.Test.YtenfomejccfkgaaKFnExactCountRefs6
import Derived.Test.YtenfomejccfkgaaKFnExactCountRefs12
import Derived.Test.YtenfomejccfkgaaKFnExactCountRefs15
import Derived.Test.YtenfomejccfkgaaKFnExactCountRefs19
import Derived.Test.YtenfomejccfkgaaKFnExactCountRefs22
import Derived.Test.YtenfomejccfkgaaKFnExactCountRefs24
import Derived.Test.YtenfomejccfkgaaKFnExactCountRefs25
import Derived.Test.YtenfomejccfkgaaKFnExactCountRefs26
import Derived.Test.YtenfomejccfkgaaKFnExactCountRefs27
namespace Go.Proofs.Ytenfomejccfkgaa.X
open Go.RowKit Go.Proofs.YtenfomejccfkgaaW.PrintWords Go.Proofs.YtenfomejccfkgaaW.PrintLast Go.Proofs.YtenfomejccfkgaaW.PrintMore
attribute [local go_sem] qaC qaD qaE qay qaz qaO qaP qas qat qaA qaB
set_option linter.unusedVariables false
set_option linter.unusedSimpArgs false
def qbA.f (k : Nat) (l0_0 : List (S56)) (l1 : List Int) : Option (List Int × Int) := if (l1.length : Int) > 4096 then (some (([] : List Int), 2)) else (if (l1.length : Int) > 20 then (some (([] : List Int), 6)) else ((qb3.f l0_0 l1).bind fun t500 => (if t500 = true then ((qaU.f k l0_0 l1).bind fun t501 => (some (t501, 0))) else (some (([] : List Int), 1)))))
theorem qbA.mono : ∀ a0 a1 k, LeO (qbA.f k a0 a1) (qbA.f (k + 1) a0 a1) := by
 intro a0 a1 k
 unfold qbA.f
 repeat' first
   | (with_reducible exact qaU.mono _ _ _)
   | (with_reducible exact LeO.refl _)
   | (with_reducible exact LeO.none _)
   | (with_reducible refine LeO.ite ?_ ?_)
   | (with_reducible refine LeO.bind ?_ (fun _ => ?_))
   | exact qaU.mono _ _ _
   | exact LeO.none _
   | refine LeO.ite ?_ ?_
   | refine LeO.bind ?_ (fun _ => ?_)
set_option maxHeartbeats 8000000 in
set_option maxRecDepth 100000 in
theorem qbA.calls (k : Nat) (A0_0 : Option Addr) (c0_0 : Nat) (l0_0 : List (S56)) (A1 : Option Addr) (c1 : Nat) (l1 : List Int) (r1 : List Int) (r2 : Int) (w : World) (hr0_0 : Kd.C k56 w A0_0 l0_0.length l0_0) (hc0_0 : l0_0.length ≤ c0_0) (hr1 : Kd.C (Kd.int .i64) w A1 l1.length l1) (hc1 : l1.length ≤ c1) (h : qbA.f k l0_0 l1 = some (r1, r2)) :
  Calls Try.prog 42 #[.agg #[.slice A0_0 l0_0.length c0_0], .slice A1 l1.length c1] w fun e w' => ∃ v0_ : Value, e = .returned (.tuple #[v0_, .int .i64 r2]) ∧ Kd.R (Kd.int .i64) 3 w' w.heap.size (fun _ => True) v0_ r1 ∧ Below w.heap.size w w' := by
 have hu29 := Try.underlying29
 have HR0_0 := Aside0.mk hr0_0
 have HC0_0 := Aside0.mk hc0_0
 clear hr0_0 hc0_0
 have HR1 := Aside0.mk hr1
 have HC1 := Aside0.mk hc1
 clear hr1 hc1
 have HB := Aside0.mk (Below.refl w.heap.size w)
 have H : (if (l1.length : Int) > 4096 then (some (([] : List Int), 2)) else (if (l1.length : Int) > 20 then (some (([] : List Int), 6)) else ((qb3.f l0_0 l1).bind fun t500 => (if t500 = true then ((qaU.f k l0_0 l1).bind fun t501 => (some (t501, 0))) else (some (([] : List Int), 1)))))) = some (r1, r2) := h
 clear h
 by_cases c3 : (l1.length : Int) > 4096
 ·rw [if_pos c3] at H
  have c3b0 : decide (4096 < (l1.length : Int)) = true := decide_eq_true c3
  have c3b1 : decide (4096 < l1.length) = true := decide_eq_true (by omega)
  clear c3
  simp only [Option.some.injEq, Prod.mk.injEq] at H
  obtain ⟨rfl, rfl⟩ := H
  go_enter Try.func42, Try.ntmps42
  go_wp2_with (first | ((with_reducible refine qaQ (N := 2) rfl ?_); refine qaL ?hg (N := 2) ?hd (cs := #[.slice A0_0 l0_0.length c0_0]) (t := 29) ?hr ?_; (case hd => rfl); (case hg => rfl); (case hr => first | (go_simp; done) | (go_simp; rfl)); intro gb499 hg w4 hbox hb; have n0_ := Aside0.mk (qai (by repeat (first | (with_reducible first | exact HB.out | apply qab | apply qaa | apply qac) | exact HB.out)) hb); have n1_ := Aside0.mk (hbox); have n2_ := Aside0.mk ((by rw [hg]; exact (qaj (by repeat (first | (with_reducible first | exact HB.out | apply qab | apply qaa | apply qac) | exact HB.out))) : w.heap.size ≤ gb499)); have n3_ := Aside0.mk ((by rw [hg]; exact (qaj (by repeat (first | (with_reducible first | exact HB.out | apply qab | apply qaa | apply qac) | exact HB.out))) : w.heap.size ≤ gb499)); clear HB; have HB := n0_; have BK499 := n1_; have GW499 := n2_; have GE499 := n3_; clear n0_ n1_ n2_ n3_; clear hb hbox hg))
  go_ret2
  exact ⟨_, by first | rfl | (simp [qal, qam] <;> rfl) | (simp [*, qal, qam] <;> rfl), by first | exact Kd.qd0 _ _ _ _ _ | exact Kd.N_nil _ _ _ _ _ | exact Kd.V_nil _ _ _ _ _ | exact Kd.Q_nil _ _ _ _ _ | exact Kd.S_nil _ _ _ _ _, by repeat (first | (with_reducible first | exact HB.out | apply qab | apply qaa | apply qac | refine qaf ?_ GE499.out) | exact HB.out)⟩
 ·rw [if_neg c3] at H
  have c3b0 : decide (4096 < (l1.length : Int)) = false := decide_eq_false c3
  have c3b1 : decide (4096 < l1.length) = false := decide_eq_false (by omega)
  clear c3
  by_cases c5 : (l1.length : Int) > 20
  ·rw [if_pos c5] at H
   have c5b0 : decide (20 < (l1.length : Int)) = true := decide_eq_true c5
   have c5b1 : decide (20 < l1.length) = true := decide_eq_true (by omega)
   clear c5
   simp only [Option.some.injEq, Prod.mk.injEq] at H
   obtain ⟨rfl, rfl⟩ := H
   go_enter Try.func42, Try.ntmps42
   go_wp2_with (first | ((with_reducible refine qaQ (N := 2) rfl ?_); refine qaL ?hg (N := 2) ?hd (cs := #[.slice A0_0 l0_0.length c0_0]) (t := 29) ?hr ?_; (case hd => rfl); (case hg => rfl); (case hr => first | (go_simp; done) | (go_simp; rfl)); intro gb499 hg w6 hbox hb; have n0_ := Aside0.mk (qai (by repeat (first | (with_reducible first | exact HB.out | apply qab | apply qaa | apply qac) | exact HB.out)) hb); have n1_ := Aside0.mk (hbox); have n2_ := Aside0.mk ((by rw [hg]; exact (qaj (by repeat (first | (with_reducible first | exact HB.out | apply qab | apply qaa | apply qac) | exact HB.out))) : w.heap.size ≤ gb499)); have n3_ := Aside0.mk ((by rw [hg]; exact (qaj (by repeat (first | (with_reducible first | exact HB.out | apply qab | apply qaa | apply qac) | exact HB.out))) : w.heap.size ≤ gb499)); clear HB; have HB := n0_; have BK499 := n1_; have GW499 := n2_; have GE499 := n3_; clear n0_ n1_ n2_ n3_; clear hb hbox hg))
   go_ret2
   exact ⟨_, by first | rfl | (simp [qal, qam] <;> rfl) | (simp [*, qal, qam] <;> rfl), by first | exact Kd.qd0 _ _ _ _ _ | exact Kd.N_nil _ _ _ _ _ | exact Kd.V_nil _ _ _ _ _ | exact Kd.Q_nil _ _ _ _ _ | exact Kd.S_nil _ _ _ _ _, by repeat (first | (with_reducible first | exact HB.out | apply qab | apply qaa | apply qac | refine qaf ?_ GE499.out) | exact HB.out)⟩
  ·rw [if_neg c5] at H
   have c5b0 : decide (20 < (l1.length : Int)) = false := decide_eq_false c5
   have c5b1 : decide (20 < l1.length) = false := decide_eq_false (by omega)
   clear c5
   replace H := Option.bind_eq_some_iff.mp H
   obtain ⟨t500, A70, H⟩ := H
   replace H : (if t500 = true then ((qaU.f k l0_0 l1).bind fun t501 => (some (t501, 0))) else (some (([] : List Int), 1))) = some (r1, r2) := H
   have A7 := Aside0.mk A70
   clear A70
   by_cases c8 : t500 = true
   ·subst c8
    have H1 : ((qaU.f k l0_0 l1).bind fun t501 => (some (t501, 0))) = some (r1, r2) := by rw [if_pos rfl] at H; exact H
    clear H
    have H := H1
    clear H1
    replace H := Option.bind_eq_some_iff.mp H
    obtain ⟨t501, A90, H⟩ := H
    replace H : (some (t501, 0)) = some (r1, r2) := H
    have A9 := Aside0.mk A90
    clear A90
    simp only [Option.some.injEq, Prod.mk.injEq] at H
    obtain ⟨rfl, rfl⟩ := H
    go_enter Try.func42, Try.ntmps42
    go_wp2_with (first | ((with_reducible refine qaQ (N := 2) rfl ?_); refine qaL ?hg (N := 2) ?hd (cs := #[.slice A0_0 l0_0.length c0_0]) (t := 29) ?hr ?_; (case hd => rfl); (case hg => rfl); (case hr => first | (go_simp; done) | (go_simp; rfl)); intro gb499 hg w10 hbox hb; have n0_ := Aside0.mk (qai (by repeat (first | (with_reducible first | exact HB.out | apply qab | apply qaa | apply qac) | exact HB.out)) hb); have n1_ := Aside0.mk (hbox); have n2_ := Aside0.mk ((by rw [hg]; exact (qaj (by repeat (first | (with_reducible first | exact HB.out | apply qab | apply qaa | apply qac) | exact HB.out))) : w.heap.size ≤ gb499)); have n3_ := Aside0.mk ((by rw [hg]; exact (qaj (by repeat (first | (with_reducible first | exact HB.out | apply qab | apply qaa | apply qac) | exact HB.out))) : w.heap.size ≤ gb499)); clear HB; have HB := n0_; have BK499 := n1_; have GW499 := n2_; have GE499 := n3_; clear n0_ n1_ n2_ n3_; clear hb hbox hg; have hcz11_0 : w10.cell? ⟨gb499, 0, none⟩ = some (.slice A0_0 l0_0.length c0_0) := (qae BK499.out 0).trans rfl; have hfz11_0 := qad BK499.out 0) | ((with_reducible refine qax (f := 89) rfl ?_); refine qbl (some 17) rfl rfl Try.func89 (by kernel_rfl) rfl #[.agg #[.slice A0_0 l0_0.length c0_0], .slice A1 l1.length c1] rfl (by (try simp only [List.map_toArray, List.map_cons, List.map_nil]); first | done | rfl | (simp only [List.length_drop, List.length_take]; rfl)) ?_; (with_reducible refine (qb3.calls _ _ l0_0 _ _ l1 true _ ?side1 ?side2 ?side3 ?side4 A7.out).mono ?_); (case side1 => repeat (first | exact (Kd.qav HR0_0.out HB.out) | (with_reducible refine Kd.qaM ?_ _) | (with_reducible refine Kd.qaN ?_ _) | (with_reducible refine Kd.qa2 ?_))); (case side2 => exact HC0_0.out); (case side3 => repeat (first | exact (Kd.qav HR1.out HB.out) | (with_reducible refine Kd.qaM ?_ _) | (with_reducible refine Kd.qaN ?_ _) | (with_reducible refine Kd.qa2 ?_))); (case side4 => exact HC1.out); rintro e w12 ⟨rfl, hb⟩; refine ⟨_, rfl, ?_⟩; have n0_ := Aside0.mk (qar (g := gb499) (o := .cells #[.slice A0_0 l0_0.length c0_0] 29 (0, 0)) (by (with_reducible repeat (first | refine qan ?_ _ | refine qao ?_ | refine qak ?_ _)); exact BK499.out) hb); have n1_ := Aside0.mk (qai (by repeat (first | (with_reducible first | exact HB.out | apply qab | apply qaa | apply qac | refine qaf ?_ GE499.out) | exact HB.out)) hb); clear BK499; clear HB; have BK499 := n0_; have HB := n1_; clear n0_ n1_; (try clear hb); (try clear hb2); (try clear hk); (try clear hi); have hcz13_0 : w12.cell? ⟨gb499, 0, none⟩ = some (.slice A0_0 l0_0.length c0_0) := (qae BK499.out 0).trans rfl; have hfz13_0 := qad BK499.out 0) | ((with_reducible refine qax (f := 90) rfl ?_); refine qbl (some 21) rfl rfl Try.func90 (by kernel_rfl) rfl #[.agg #[.slice A0_0 l0_0.length c0_0], .slice A1 l1.length c1] rfl (by (try simp only [List.map_toArray, List.map_cons, List.map_nil]); first | done | rfl | (simp only [List.length_drop, List.length_take]; rfl)) ?_; (with_reducible refine (qaU.calls k _ _ l0_0 _ _ l1 t501 _ ?side1 ?side2 ?side3 ?side4 A9.out).mono ?_); (case side1 => repeat (first | exact (Kd.qav HR0_0.out HB.out) | (with_reducible refine Kd.qaM ?_ _) | (with_reducible refine Kd.qaN ?_ _) | (with_reducible refine Kd.qa2 ?_))); (case side2 => exact HC0_0.out); (case side3 => repeat (first | exact (Kd.qav HR1.out HB.out) | (with_reducible refine Kd.qaM ?_ _) | (with_reducible refine Kd.qaN ?_ _) | (with_reducible refine Kd.qa2 ?_))); (case side4 => exact HC1.out); rintro e w14 ⟨v502, rfl, ho0, hb⟩; refine ⟨_, rfl, ?_⟩; have n0_ := Aside0.mk (Kd.qby ho0 (qaj (by repeat (first | (with_reducible first | exact HB.out | apply qab | apply qaa | apply qac | refine qaf ?_ GE499.out) | exact HB.out)))); have n1_ := Aside0.mk (qar (g := gb499) (o := .cells #[.slice A0_0 l0_0.length c0_0] 29 (0, 0)) (by (with_reducible repeat (first | refine qan ?_ _ | refine qao ?_ | refine qak ?_ _)); exact BK499.out) hb); have n2_ := Aside0.mk (qai (by repeat (first | (with_reducible first | exact HB.out | apply qab | apply qaa | apply qac | refine qaf ?_ GE499.out) | exact HB.out)) hb); clear BK499; clear HB; have HO503 := n0_; have BK499 := n1_; have HB := n2_; clear n0_ n1_ n2_; (try clear hb); (try clear hb2); (try clear hk); (try clear hi); (try clear ho0)))
    go_ret2
    exact ⟨_, by first | rfl | (simp [qal, qam] <;> rfl) | (simp [*, qal, qam] <;> rfl), by (with_reducible repeat (first | apply Kd.qa3 | apply Kd.qa8 | apply Kd.qbi)); exact HO503.out, by repeat (first | (with_reducible first | exact HB.out | apply qab | apply qaa | apply qac | refine qaf ?_ GE499.out) | exact HB.out)⟩
   ·replace c8 := Bool.eq_false_iff.mpr c8
    subst c8
    have H1 : (some (([] : List Int), 1)) = some (r1, r2) := by rw [if_neg (show ¬ (false = true) by decide)] at H; exact H
    clear H
    have H := H1
    clear H1
    simp only [Option.some.injEq, Prod.mk.injEq] at H
    obtain ⟨rfl, rfl⟩ := H
    go_enter Try.func42, Try.ntmps42
    go_wp2_with (first | ((with_reducible refine qaQ (N := 2) rfl ?_); refine qaL ?hg (N := 2) ?hd (cs := #[.slice A0_0 l0_0.length c0_0]) (t := 29) ?hr ?_; (case hd => rfl); (case hg => rfl); (case hr => first | (go_simp; done) | (go_simp; rfl)); intro gb499 hg w15 hbox hb; have n0_ := Aside0.mk (qai (by repeat (first | (with_reducible first | exact HB.out | apply qab | apply qaa | apply qac) | exact HB.out)) hb); have n1_ := Aside0.mk (hbox); have n2_ := Aside0.mk ((by rw [hg]; exact (qaj (by repeat (first | (with_reducible first | exact HB.out | apply qab | apply qaa | apply qac) | exact HB.out))) : w.heap.size ≤ gb499)); have n3_ := Aside0.mk ((by rw [hg]; exact (qaj (by repeat (first | (with_reducible first | exact HB.out | apply qab | apply qaa | apply qac) | exact HB.out))) : w.heap.size ≤ gb499)); clear HB; have HB := n0_; have BK499 := n1_; have GW499 := n2_; have GE499 := n3_; clear n0_ n1_ n2_ n3_; clear hb hbox hg; have hcz16_0 : w15.cell? ⟨gb499, 0, none⟩ = some (.slice A0_0 l0_0.length c0_0) := (qae BK499.out 0).trans rfl; have hfz16_0 := qad BK499.out 0) | ((with_reducible refine qax (f := 89) rfl ?_); refine qbl (some 17) rfl rfl Try.func89 (by kernel_rfl) rfl #[.agg #[.slice A0_0 l0_0.length c0_0], .slice A1 l1.length c1] rfl (by (try simp only [List.map_toArray, List.map_cons, List.map_nil]); first | done | rfl | (simp only [List.length_drop, List.length_take]; rfl)) ?_; (with_reducible refine (qb3.calls _ _ l0_0 _ _ l1 false _ ?side1 ?side2 ?side3 ?side4 A7.out).mono ?_); (case side1 => repeat (first | exact (Kd.qav HR0_0.out HB.out) | (with_reducible refine Kd.qaM ?_ _) | (with_reducible refine Kd.qaN ?_ _) | (with_reducible refine Kd.qa2 ?_))); (case side2 => exact HC0_0.out); (case side3 => repeat (first | exact (Kd.qav HR1.out HB.out) | (with_reducible refine Kd.qaM ?_ _) | (with_reducible refine Kd.qaN ?_ _) | (with_reducible refine Kd.qa2 ?_))); (case side4 => exact HC1.out); rintro e w17 ⟨rfl, hb⟩; refine ⟨_, rfl, ?_⟩; have n0_ := Aside0.mk (qar (g := gb499) (o := .cells #[.slice A0_0 l0_0.length c0_0] 29 (0, 0)) (by (with_reducible repeat (first | refine qan ?_ _ | refine qao ?_ | refine qak ?_ _)); exact BK499.out) hb); have n1_ := Aside0.mk (qai (by repeat (first | (with_reducible first | exact HB.out | apply qab | apply qaa | apply qac | refine qaf ?_ GE499.out) | exact HB.out)) hb); clear BK499; clear HB; have BK499 := n0_; have HB := n1_; clear n0_ n1_; (try clear hb); (try clear hb2); (try clear hk); (try clear hi)))
    go_ret2
    exact ⟨_, by first | rfl | (simp [qal, qam] <;> rfl) | (simp [*, qal, qam] <;> rfl), by first | exact Kd.qd0 _ _ _ _ _ | exact Kd.N_nil _ _ _ _ _ | exact Kd.V_nil _ _ _ _ _ | exact Kd.Q_nil _ _ _ _ _ | exact Kd.S_nil _ _ _ _ _, by repeat (first | (with_reducible first | exact HB.out | apply qab | apply qaa | apply qac | refine qaf ?_ GE499.out) | exact HB.out)⟩
end Go.Proofs.Ytenfomejccfkgaa.X
namespace Go.Proofs.Ytenfomejccfkgaa.X
open Go.RowKit Go.Proofs.YtenfomejccfkgaaW.PrintWords Go.Proofs.YtenfomejccfkgaaW.PrintLast Go.Proofs.YtenfomejccfkgaaW.PrintMore
attribute [local go_sem] qaC qaD qaE qay qaz qaO qaP qas qat qaA qaB
set_option linter.unusedVariables false
set_option linter.unusedSimpArgs false
theorem qhu {ns : List S56} {s : List Bool} (hg : GoodS ns s) (i : Nat) (hon : rdOf false s (i : Int) = true) (b : Int) (hb : b ≤ 1000) (sl : Int) (R : List Int) : ∀ (d q : Nat) (x : List Int), q + d = (qaG ns (i : Int)).f3.length → Bnd x (b - (d : Int)) → Ev (fun k => qaU.l1 k (incL x ((qaG ns (i : Int)).f3.drop q)) s sl (wrap64 ((i : Int) + 1)) ns) R → Ev (fun k => qaU.l2 k x s sl (i : Int) (qaG ns (i : Int)).f3 ((qaG ns (i : Int)).f3.length : Int) (q : Int) ns) R := by
 obtain ⟨h4, hin⟩ := qdc hg hon
 intro d
 induction d with
 | zero =>
  intro q x hq hx hR
  rw [show q = (qaG ns (i : Int)).f3.length by omega, List.drop_length] at hR
  refine Ev.succ ?_
  simp only [qaU.l2]
  exact Ev.neg (by omega) hR
 | succ d ih =>
  intro q x hq hx hR
  have hlt : q < (qaG ns (i : Int)).f3.length := by omega
  rw [List.drop_eq_getElem_cons hlt, qfV] at hR
  have hj := hin _ (List.getElem_mem hlt)
  have hxl := hx.len
  have hbb := hx.rng (qaG ns (i : Int)).f3[q].toNat (by omega)
  rw [show (((qaG ns (i : Int)).f3[q].toNat : Nat) : Int) = (qaG ns (i : Int)).f3[q] by omega] at hbb
  have hn := ih (q + 1) _ (by omega) (by have := hx.inc hj.1 hj.2; rw [show (b - ((d + 1 : Nat) : Int)) + 1 = b - (d : Int) by omega] at this; exact this) hR
  refine Ev.succ ?_
  simp only [qaU.l2, qfW hlt, wup q (by omega), winc hbb.1 (by omega)]
  exact Ev.pos (by omega) (Ev.pos (by omega) (Ev.pos (by omega) (Ev.pos hj.1 (Ev.pos (by omega) hn))))
theorem qev {ns : List S56} {s : List Bool} (hg : GoodS ns s) (hsl : s.length = 50) : ∀ (d i : Nat) (x : List Int), i + d = 50 → Bnd x (100 + 4 * (i : Int)) → Ev (fun k => qaU.l1 k x s (s.length : Int) (i : Int) ns) (incL x (qb2 ns s i d)) := by
 intro d
 induction d with
 | zero =>
  intro i x hi hx
  refine Ev.succ ?_
  simp only [qaU.l1]
  exact Ev.neg (by omega) (Ev.is rfl)
 | succ d ih =>
  intro i x hi hx
  have hlt : i < 50 := by omega
  refine Ev.succ ?_
  simp only [qaU.l1]
  refine Ev.pos (by omega) (Ev.pos (by omega) (Ev.pos (by omega) ?_))
  cases hon : rdOf false s (i : Int) with
  | true =>
   obtain ⟨h4, hin⟩ := qdc hg hon
   have hil := (hg i hon).1
   have hb := hx.incs hin
   have hn := ih (i + 1) (incL x (qaG ns (i : Int)).f3) (by omega) ⟨hb.len, fun q hq => by have := hb.rng q hq; omega⟩
   rw [← wup i (by omega)] at hn
   have h := qhu hg i hon 1000 (by omega) (s.length : Int) _ (qaG ns (i : Int)).f3.length 0 x (by omega) ⟨hx.len, fun q hq => by have := hx.rng q hq; omega⟩ (by rw [List.drop_zero]; exact hn)
   refine Ev.same (Ev.pos rfl (Ev.pos (by omega) h)) ?_
   rw [qb2, if_pos hon, qgq]
  | false =>
   have hn := ih (i + 1) x (by omega) ⟨hx.len, fun q hq => by have := hx.rng q hq; omega⟩
   rw [← wup i (by omega)] at hn
   refine Ev.same (Ev.neg (by simp) hn) ?_
   rw [qb2, if_neg (by rw [hon]; simp), List.nil_append]
theorem qew {ns : List S56} (hs : qcq ns = true) {rs : List Int} (hl : rs.length ≤ 20) (hok : ∀ r, r ∈ rs → (walkR ns r).2.2 = true) (hr : ∀ r, r ∈ rs → r < 50) : ∀ (d i : Nat) (x : List Int), i + d = rs.length → Bnd x (i : Int) → Ev (fun k => qaU.l0 k rs x rs (rs.length : Int) (i : Int) ns) (incL x (qcR (rs.drop i) ++ qb2 ns (qdR ns rs) 0 50)) := by
 intro d
 induction d with
 | zero =>
  intro i x hi hx
  have hp : qcv.f ns rs = some (qdR ns rs) := by
   unfold qcv.f
   rw [if_pos ⟨hs, by omega, hok⟩]
  refine Ev.succ ?_
  simp only [qaU.l0]
  have h := qev (qdq ns rs) (qeW ns rs) 50 0 x (by omega) ⟨hx.len, fun q hq => by have := hx.rng q hq; omega⟩
  refine Ev.same (Ev.neg (by omega) (Ev.bindk hp h)) ?_
  rw [show i = rs.length by omega, List.drop_length]
  rfl
 | succ d ih =>
  intro i x hi hx
  have hlt : i < rs.length := by omega
  have h5 := hr rs[i] (List.getElem_mem _)
  have hxl := hx.len
  refine Ev.succ ?_
  simp only [qaU.l0, qfW hlt, wup i (by omega)]
  refine Ev.pos (by omega) (Ev.pos (by omega) (Ev.pos (by omega) ?_))
  by_cases h0 : 0 ≤ rs[i]
  ·have hb := hx.rng rs[i].toNat (by omega)
   rw [show ((rs[i].toNat : Nat) : Int) = rs[i] by omega] at hb
   have hn := ih (i + 1) (x.set rs[i].toNat (rd x rs[i] + 1)) (by omega) (by have := hx.inc h0 h5; rw [show ((i : Int) + 1) = ((i + 1 : Nat) : Int) by omega] at this; exact this)
   refine Ev.pos h0 (Ev.pos h0 (Ev.pos (by omega) ?_))
   rw [winc hb.1 (by omega)]
   refine Ev.same hn ?_
   rw [List.drop_eq_getElem_cons hlt]
   unfold qcR
   rw [List.filter_cons, if_pos (decide_eq_true h0)]
   rfl
  ·have hn := ih (i + 1) x (by omega) ⟨hxl, fun q hq => by have := hx.rng q hq; omega⟩
   refine Ev.neg (by omega) (Ev.same hn ?_)
   rw [List.drop_eq_getElem_cons hlt]
   unfold qcR
   rw [List.filter_cons, if_neg (by simp; omega)]
open Classical in
noncomputable def countR (ns : List S56) (rs : List Int) : List Int × Int := if 4096 < rs.length then ([], 2) else if 20 < rs.length then ([], 6) else if ∀ r, r ∈ rs → (walkR ns r).2.2 = true then (incL zeroL (qb2 ns (qdR ns rs) 0 50 ++ qcR rs), 0) else ([], 1)
theorem qgM (ns : List S56) (rs : List Int) : (countR ns rs).1.length ≤ 60 := by
 unfold countR
 split
 ·simp
 ·split
  ·simp
  ·split
   ·simp only
    rw [qdh]
    unfold zeroL
    rw [List.length_replicate]
    omega
   ·simp
theorem root_lt {ns : List S56} {r : Int} (h : (walkR ns r).2.2 = true) : r < 50 := by
 cases hb : inB r (-1) 49 with
 | false => rw [qfP hb] at h; cases h
 | true => unfold inB at hb; simp at hb; omega
theorem qgr : Bnd zeroL 0 := by
 refine ⟨List.length_replicate .., fun i hi => ?_⟩
 have : rd zeroL (i : Int) = 0 := by
  unfold rd zeroL
  rw [Int.toNat_natCast, List.getD_eq_getElem?_getD, List.getElem?_replicate]
  split <;> rfl
 rw [this]
 omega
theorem qdJ {ns : List S56} (rs : List Int) (h : qcq ns = true) : Ev (fun k => qbE.f k ns rs) (countR ns rs) := by
 unfold qbE.f countR
 by_cases h1 : (rs.length : Int) > 4096
 ·exact Ev.pos h1 (Ev.is (by rw [if_pos (by omega)]))
 refine Ev.neg h1 ?_
 rw [if_neg (by omega)]
 by_cases h2 : (rs.length : Int) > 20
 ·exact Ev.pos h2 (Ev.is (by rw [if_pos (by omega)]))
 refine Ev.neg h2 ?_
 rw [if_neg (by omega)]
 have hr : Ev (fun k => qaq.f k ns rs) (qdS ns rs noneW) := by
  unfold qaq.f
  have := qgK h rs (by omega) rs.length 0 noneW (by omega) (List.length_replicate ..)
  exact Ev.pos (by omega) this
 refine Ev.bind hr ?_
 by_cases hok : ∀ r, r ∈ rs → (walkR ns r).2.2 = true
 ·rw [if_pos hok, qhq noneW hok]
  refine Ev.pos rfl (Ev.bind (a := incL zeroL (qb2 ns (qdR ns rs) 0 50 ++ qcR rs)) ?_ (Ev.is rfl))
  unfold qau.f
  exact Ev.pos (by omega) (qeL (qdq ns rs) (qeW ns rs) (by omega) (fun r hr => root_lt (hok r hr)) 50 0 zeroL (by omega) qgr)
 ·rw [if_neg hok]
  exact Ev.neg (by rw [qhr noneW hok]; simp) (Ev.is rfl)
theorem qex {ns : List S56} (rs : List Int) (h : qcq ns = true) : qb3.f ns rs = some (!(rs.any fun r => !(walkR ns r).2.2)) := if_pos h
theorem qfZ {ns : List S56} {rs : List Int} (h : qcq ns = true) (hl : rs.length ≤ 20) (hok : ∀ r, r ∈ rs → (walkR ns r).2.2 = true) : Ev (fun k => qaU.f k ns rs) (incL zeroL (qb2 ns (qdR ns rs) 0 50 ++ qcR rs)) := by
 unfold qaU.f
 have h2 := qew h hl hok (fun r hr => root_lt (hok r hr)) rs.length 0 zeroL (by omega) qgr
 refine Ev.same (Ev.pos (by omega) h2) ?_
 rw [List.drop_zero]
 exact qho (roots_in (fun r hr => root_lt (hok r hr))).1 (qgf (qdq ns rs) 50 0).1
theorem qdK {ns : List S56} (rs : List Int) (h : qcq ns = true) : Ev (fun k => qbA.f k ns rs) (countR ns rs) := by
 unfold qbA.f countR
 by_cases h1 : (rs.length : Int) > 4096
 ·exact Ev.pos h1 (Ev.is (by rw [if_pos (by omega)]))
 refine Ev.neg h1 ?_
 rw [if_neg (by omega)]
 by_cases h2 : (rs.length : Int) > 20
 ·exact Ev.pos h2 (Ev.is (by rw [if_pos (by omega)]))
 refine Ev.neg h2 ?_
 rw [if_neg (by omega)]
 refine Ev.bindk (qex rs h) ?_
 by_cases hok : ∀ r, r ∈ rs → (walkR ns r).2.2 = true
 ·rw [if_pos hok]
  have e : (!(rs.any fun r => !(walkR ns r).2.2)) = true := by
   rw [Bool.not_eq_true', List.any_eq_false]
   intro r hr
   rw [hok r hr]
   decide
  exact Ev.pos e (Ev.bind (qfZ h (by omega) hok) (Ev.is rfl))
 ·rw [if_neg hok]
  have e : ¬ (!(rs.any fun r => !(walkR ns r).2.2)) = true := by
   intro hh
   rw [Bool.not_eq_true', List.any_eq_false] at hh
   refine hok fun r hr => ?_
   have := hh r hr
   cases hb : (walkR ns r).2.2 with
   | true => rfl
   | false => rw [hb] at this; exact absurd rfl this
  exact Ev.neg e (Ev.is rfl)
end Go.Proofs.Ytenfomejccfkgaa.X
namespace Go.Proofs.Ytenfomejccfkgaa.X
open Go.RowKit Go.Proofs.YtenfomejccfkgaaW.PrintWords Go.Proofs.YtenfomejccfkgaaW.PrintLast Go.Proofs.YtenfomejccfkgaaW.PrintMore
attribute [local go_sem] qaC qaD qaE qay qaz qaO qaP qas qat qaA qaB
set_option linter.unusedVariables false
set_option linter.unusedSimpArgs false
def qbf.l0 : Nat → List Int → Int → Int → Option (Int)
 | 0, _, _, _ => none
 | k + 1, x0, x1, x5 => if x5 < (x0.length : Int) then (if 0 ≤ x5 then (if (rd x0 x5) = x1 then (qbf.l0 k x0 (wrap64 (x1 + 1)) (wrap64 (x5 + 1))) else (some (-1))) else (none)) else (some x1)
def qbf.f (k : Nat) (l0 : List Int) (a1 : Int) : Option (Int) := qbf.l0 k l0 a1 0
theorem qbf.qbm : ∀ k, (∀ y0 y1 y2, LeO (qbf.l0 k y0 y1 y2) (qbf.l0 (k + 1) y0 y1 y2))
 | 0 => fun _ _ _ r h => by simp [qbf.l0] at h
 | k + 1 => by
  have ih0 := qbf.qbm k
  ·intro y0 y1 y2
   unfold qbf.l0
   repeat' first
   | (with_reducible exact ih0 _ _ _)
   | (with_reducible exact LeO.refl _)
   | (with_reducible exact LeO.none _)
   | (with_reducible refine LeO.ite ?_ ?_)
   | (with_reducible refine LeO.bind ?_ (fun _ => ?_))
   | exact ih0 _ _ _
   | exact LeO.none _
   | refine LeO.ite ?_ ?_
   | refine LeO.bind ?_ (fun _ => ?_)
theorem qbf.mono : ∀ a0 a1 k, LeO (qbf.f k a0 a1) (qbf.f (k + 1) a0 a1) := by
 intro a0 a1 k
 have ih0 := qbf.qbm k
 unfold qbf.f
 repeat' first
   | (with_reducible exact ih0 _ _ _)
   | (with_reducible exact LeO.refl _)
   | (with_reducible exact LeO.none _)
   | (with_reducible refine LeO.ite ?_ ?_)
   | (with_reducible refine LeO.bind ?_ (fun _ => ?_))
   | exact ih0 _ _ _
   | exact LeO.none _
   | refine LeO.ite ?_ ?_
   | refine LeO.bind ?_ (fun _ => ?_)
set_option maxHeartbeats 8000000 in
set_option maxRecDepth 100000 in
theorem qbf.calls (k : Nat) (A0 : Option Addr) (c0 : Nat) (l0 : List Int) (a1 : Int) (r : Int) (w : World) (hr0 : Kd.C (Kd.int .i64) w A0 l0.length l0) (hc0 : l0.length ≤ c0) (h : qbf.f k l0 a1 = some r) :
  Calls Try.prog 30 #[.slice A0 l0.length c0, .int .i64 a1] w fun e w' => e = .returned (.int .i64 r) ∧ qbk w w' := by
 have HR0 := Aside0.mk hr0
 have HC0 := Aside0.mk hc0
 clear hr0 hc0
 have H : (qbf.l0 k l0 a1 0) = some r := h
 clear h
 have H' := Aside0.mk H
 clear H
 go_enter Try.func30, Try.ntmps30
 go_wp2
 go_loopg [1, 5] k (fun kq v1 v5 w' => ∃ (x1_1 : Int) (x5_1 : Int), v1 = .int .i64 x1_1 ∧ v5 = .int .i64 x5_1 ∧ Aside0 (qbf.l0 kq l0 x1_1 x5_1 = some r) ∧ Aside0 (kq ≤ k) ∧ qbk w w')
 case atStart => exact ⟨(a1), (0), (by first | rfl | (simp; done) | (simp [*]; done)), (by first | rfl | (simp; done) | (simp [*]; done)), H', ⟨Nat.le_refl _⟩, by repeat (first | exact qbk.refl _ | apply qbk.step)⟩
 case round =>
  clear H'
  try clear p2
  obtain ⟨x1_1, x5_1, rfl, rfl, HA, HK1, ⟨m1, rfl⟩⟩ := hrel
  cases gk with
  | zero => exact absurd HA.out (by simp [qbf.l0])
  | succ k1 =>
   have H := HA.out
   clear HA
   simp only [qbf.l0] at H
   by_cases c3 : x5_1 < (l0.length : Int)
   ·rw [if_pos c3] at H
    have c3b0 : decide (x5_1 < (l0.length : Int)) = true := decide_eq_true c3
    clear c3
    by_cases c4 : 0 ≤ x5_1
    ·rw [if_pos c4] at H
     have c4b0 : decide (0 ≤ x5_1) = true := decide_eq_true c4
     clear c4
     by_cases c5 : (rd l0 x5_1) = x1_1
     ·rw [if_pos c5] at H
      have c5b0 : ((rd l0 x5_1) == x1_1) = true := beq_iff_eq.mpr c5
      have c5b1 : ((rd l0 x5_1) != x1_1) = false := bne_eq_false_iff_eq.mpr c5
      clear c5
      have H' := Aside0.mk H
      clear H
      have p365 : 0 ≤ (x5_1 : Int) := of_decide_eq_true (by first | (with_reducible assumption) | assumption)
      have q365 : x5_1 < (l0.length : Int) := of_decide_eq_true (by first | (with_reducible assumption) | assumption)
      obtain ⟨ad365, e365, hx365_0⟩ := Kd.qbS HR0.out x5_1 p365 q365
      cases e365
      replace p365 := eq_true p365
      replace q365 := eq_true q365
      go_wp2
      go_roundg k1
      case measure => have := HK1.out; omega
      case rel => exact ⟨(wrap64 (x1_1 + 1)), (wrap64 (x5_1 + 1)), (by first | rfl | (simp; done) | (simp [*]; done)), (by first | rfl | (simp; done) | (simp [*]; done)), H', ⟨by have := HK1.out; omega⟩, by repeat (first | exact qbk.refl _ | apply qbk.step)⟩
     ·rw [if_neg c5] at H
      have c5b0 : ((rd l0 x5_1) == x1_1) = false := beq_eq_false_iff_ne.mpr c5
      have c5b1 : ((rd l0 x5_1) != x1_1) = true := bne_iff_ne.mpr c5
      obtain rfl := Option.some.inj H
      have p365 : 0 ≤ (x5_1 : Int) := of_decide_eq_true (by first | (with_reducible assumption) | assumption)
      have q365 : x5_1 < (l0.length : Int) := of_decide_eq_true (by first | (with_reducible assumption) | assumption)
      obtain ⟨ad365, e365, hx365_0⟩ := Kd.qbS HR0.out x5_1 p365 q365
      cases e365
      replace p365 := eq_true p365
      replace q365 := eq_true q365
      go_wp2
      go_ret
      exact ⟨by first | rfl | (simp; done) | (simp [*]; done), by repeat (first | exact qbk.refl _ | apply qbk.step)⟩
    ·rw [if_neg c4] at H
     exact absurd H (by simp)
   ·rw [if_neg c3] at H
    have c3b0 : decide (x5_1 < (l0.length : Int)) = false := decide_eq_false c3
    clear c3
    obtain rfl := Option.some.inj H
    go_wp2
    go_ret
    exact ⟨by first | rfl | (simp; done) | (simp [*]; done), by repeat (first | exact qbk.refl _ | apply qbk.step)⟩
end Go.Proofs.Ytenfomejccfkgaa.X
namespace Go.Proofs.Ytenfomejccfkgaa.X
open Go.RowKit Go.Proofs.YtenfomejccfkgaaW.PrintWords Go.Proofs.YtenfomejccfkgaaW.PrintLast Go.Proofs.YtenfomejccfkgaaW.PrintMore
attribute [local go_sem] qaC qaD qaE qay qaz qaO qaP qas qat qaA qaB
set_option linter.unusedVariables false
set_option linter.unusedSimpArgs false
theorem qeM (rest : List Int) : ∀ (pre : List Int) (m : Int), 0 ≤ m → m + 1 * (rest.length : Int) ≤ 4611686018427387904 → (pre ++ rest).length ≤ 9223372036854775807 →
  Ev (fun k => qbf.l0 k (pre ++ qcb rest m) m ((pre.length : Nat) : Int)) (m + 1 * (rest.length : Int)) := by
 induction rest with
 | nil =>
  intro pre m h0 h1 hl
  refine Ev.succ ?_
  simp only [qbf.l0]
  exact Ev.neg (by simp [qcb]) (Ev.is (by simp))
 | cons x rest ih =>
  intro pre m h0 h1 hl
  simp only [qcb, List.length_cons] at h1 ⊢
  have hlt : ((pre.length : Nat) : Int) < ((pre ++ ((m)) :: qcb rest (m + 1)).length : Int) := by simp; omega
  have hwp : wrap64 (((pre.length : Nat) : Int) + 1) = (((pre ++ [((m))]).length : Nat) : Int) := by rw [← qbV]; exact qb5 (by simp at hl; omega)
  have hrd : rd (pre ++ ((m)) :: qcb rest (m + 1)) ((pre.length : Nat) : Int) = ((m)) := by simp [rd, List.getD_eq_getElem?_getD]
  have w1 : wrap64 (m + 1) = m + 1 := (qct (by omega) (by omega)).trans (by omega)
  have hi := ih (pre ++ [((m))]) (m + 1) (by omega) (by omega) (by simpa using hl)
  have e3 : pre ++ ((m)) :: qcb rest (m + 1) = (pre ++ [((m))]) ++ qcb rest (m + 1) := by simp
  rw [← e3] at hi
  refine Ev.succ ?_
  simp only [qbf.l0, hrd, hwp, w1]
  refine Ev.pos hlt (Ev.pos (by omega) ?_)
  repeat (first | refine Ev.bind (mt_ev (by omega)) ?_ | refine Ev.pos trivial ?_ | refine Ev.pos rfl ?_ | refine Ev.neg (by simp) ?_)
  exact Ev.same hi (by omega)
theorem qhv (l : List Int) (m : Int) (h0 : 0 ≤ m) (h1 : m + 1 * (l.length : Int) ≤ 4611686018427387904) (hl : l.length ≤ 9223372036854775807) : Ev (fun k => qbf.f k (qcb l m) m) (m + 1 * (l.length : Int)) := by
 unfold qbf.f
 have h := qeM l [] m h0 h1 (by simpa using hl)
 simpa using h
end Go.Proofs.Ytenfomejccfkgaa.X
namespace Go.Proofs.Ytenfomejccfkgaa.X
open Go.RowKit Go.Proofs.YtenfomejccfkgaaW.PrintWords Go.Proofs.YtenfomejccfkgaaW.PrintLast Go.Proofs.YtenfomejccfkgaaW.PrintMore
attribute [local go_sem] qaC qaD qaE qay qaz qaO qaP qas qat qaA qaB
set_option linter.unusedVariables false
set_option linter.unusedSimpArgs false
def qb0.f (l0 : List Int) (a1 : Int) : Option (Int) := if (wrap64 (a1 - (l0.length : Int))) < 0 then (some (-1)) else (some (wrap64 (a1 - (l0.length : Int))))
set_option maxHeartbeats 8000000 in
set_option maxRecDepth 100000 in
theorem qb0.calls (A0 : Option Addr) (c0 : Nat) (l0 : List Int) (a1 : Int) (r : Int) (w : World) (hr0 : Kd.C (Kd.int .i64) w A0 l0.length l0) (hc0 : l0.length ≤ c0) (h : qb0.f l0 a1 = some r) :
  Calls Try.prog 76 #[.slice A0 l0.length c0, .int .i64 a1] w fun e w' => e = .returned (.int .i64 r) ∧ qbk w w' := by
 have HR0 := Aside0.mk hr0
 have HC0 := Aside0.mk hc0
 clear hr0 hc0
 have H : (if (wrap64 (a1 - (l0.length : Int))) < 0 then (some (-1)) else (some (wrap64 (a1 - (l0.length : Int))))) = some r := h
 clear h
 by_cases c3 : (wrap64 (a1 - (l0.length : Int))) < 0
 ·rw [if_pos c3] at H
  have c3b0 : decide ((wrap64 (a1 - (l0.length : Int))) < 0) = true := decide_eq_true c3
  clear c3
  obtain rfl := Option.some.inj H
  go_enter Try.func76, Try.ntmps76
  go_wp2
  go_ret
  exact ⟨by first | rfl | (simp; done) | (simp [*]; done), by repeat (first | exact qbk.refl _ | apply qbk.step)⟩
 ·rw [if_neg c3] at H
  have c3b0 : decide ((wrap64 (a1 - (l0.length : Int))) < 0) = false := decide_eq_false c3
  clear c3
  obtain rfl := Option.some.inj H
  go_enter Try.func76, Try.ntmps76
  go_wp2
  go_ret
  exact ⟨by first | rfl | (simp; done) | (simp [*]; done), by repeat (first | exact qbk.refl _ | apply qbk.step)⟩
end Go.Proofs.Ytenfomejccfkgaa.X
namespace Go.Proofs.Ytenfomejccfkgaa.X
open Go.RowKit Go.Proofs.YtenfomejccfkgaaW.PrintWords Go.Proofs.YtenfomejccfkgaaW.PrintLast Go.Proofs.YtenfomejccfkgaaW.PrintMore
attribute [local go_sem] qaC qaD qaE qay qaz qaO qaP qas qat qaA qaB
set_option linter.unusedVariables false
set_option linter.unusedSimpArgs false
theorem sz_IntS (l : List Int) (hw : l.length ≤ maxLen) (B left : Int) (h0 : 0 ≤ left) (h1 : left ≤ B) (hB : B ≤ 1048576) : ∃ r, Ev (fun k => qb0.f l left) r ∧ (0 ≤ r → r ≤ left ∧ (l.length : Int) ≤ B) := by
 have hl := Nat.le_trans hw qcE
 unfold qb0.f
 have e : wrap64 (left - (l.length : Int)) = left - (l.length : Int) := qct (by omega) (by omega)
 simp only [e]
 by_cases c : left - (l.length : Int) < 0
 ·exact ⟨-1, Ev.pos c (Ev.is rfl), fun h => by omega⟩
 ·exact ⟨left - (l.length : Int), Ev.neg c (Ev.is rfl), fun _ => ⟨by omega, by omega⟩⟩
end Go.Proofs.Ytenfomejccfkgaa.X
namespace Go.Proofs.Ytenfomejccfkgaa.X
open Go.RowKit Go.Proofs.YtenfomejccfkgaaW.PrintWords Go.Proofs.YtenfomejccfkgaaW.PrintLast Go.Proofs.YtenfomejccfkgaaW.PrintMore
attribute [local go_sem] qaC qaD qaE qay qaz qaO qaP qas qat qaA qaB
set_option linter.unusedVariables false
set_option linter.unusedSimpArgs false
def qco.f (a0_0 : ByteArray) (a0_1 : ByteArray) (a1 : Int) : Option (Int) := if (wrap64 (a1 - (a0_0.size : Int))) < 0 then (some (-1)) else (if (wrap64 ((wrap64 (a1 - (a0_0.size : Int))) - (a0_1.size : Int))) < 0 then (some (-1)) else (some (wrap64 ((wrap64 (a1 - (a0_0.size : Int))) - (a0_1.size : Int)))))
set_option maxHeartbeats 8000000 in
set_option maxRecDepth 100000 in
theorem qco.calls (a0_0 : ByteArray) (a0_1 : ByteArray) (a1 : Int) (r : Int) (w : World) (h : qco.f a0_0 a0_1 a1 = some r) :
  Calls Try.prog 124 #[.agg #[.string a0_0, .string a0_1], .int .i64 a1] w fun e w' => e = .returned (.int .i64 r) ∧ Below w.heap.size w w' := by
 have hu159 := Try.underlying159
 have HB := Aside0.mk (Below.refl w.heap.size w)
 have H : (if (wrap64 (a1 - (a0_0.size : Int))) < 0 then (some (-1)) else (if (wrap64 ((wrap64 (a1 - (a0_0.size : Int))) - (a0_1.size : Int))) < 0 then (some (-1)) else (some (wrap64 ((wrap64 (a1 - (a0_0.size : Int))) - (a0_1.size : Int)))))) = some r := h
 clear h
 by_cases c3 : (wrap64 (a1 - (a0_0.size : Int))) < 0
 ·rw [if_pos c3] at H
  have c3b0 : decide ((wrap64 (a1 - (a0_0.size : Int))) < 0) = true := decide_eq_true c3
  clear c3
  obtain rfl := Option.some.inj H
  go_enter Try.func124, Try.ntmps124
  go_wp2_with (first | ((with_reducible refine qaQ (N := 2) rfl ?_); refine qaL ?hg (N := 2) ?hd (cs := #[.string a0_0, .string a0_1]) (t := 159) ?hr ?_; (case hd => rfl); (case hg => rfl); (case hr => first | (go_simp; done) | (go_simp; rfl)); intro gb101 hg w4 hbox hb; have n0_ := Aside0.mk (qai (by repeat (first | (with_reducible first | exact HB.out | apply qab | apply qaa | apply qac) | exact HB.out)) hb); have n1_ := Aside0.mk (hbox); have n2_ := Aside0.mk ((by rw [hg]; exact (qaj (by repeat (first | (with_reducible first | exact HB.out | apply qab | apply qaa | apply qac) | exact HB.out))) : w.heap.size ≤ gb101)); have n3_ := Aside0.mk ((by rw [hg]; exact (qaj (by repeat (first | (with_reducible first | exact HB.out | apply qab | apply qaa | apply qac) | exact HB.out))) : w.heap.size ≤ gb101)); clear HB; have HB := n0_; have BK101 := n1_; have GW101 := n2_; have GE101 := n3_; clear n0_ n1_ n2_ n3_; clear hb hbox hg; have hcz5_0 : w4.cell? ⟨gb101, 0, none⟩ = some (.string a0_0) := (qae BK101.out 0).trans rfl; have hcz5_1 : w4.cell? ⟨gb101, 1, none⟩ = some (.string a0_1) := (qae BK101.out 1).trans rfl; have hfz5_0 := qad BK101.out 0; have hfz5_1 := qad BK101.out 1))
  go_ret
  exact ⟨by first | rfl | (simp [qal, qam] <;> rfl) | (simp [*, qal, qam] <;> rfl), by repeat (first | (with_reducible first | exact HB.out | apply qab | apply qaa | apply qac | refine qaf ?_ GE101.out) | exact HB.out)⟩
 ·rw [if_neg c3] at H
  have c3b0 : decide ((wrap64 (a1 - (a0_0.size : Int))) < 0) = false := decide_eq_false c3
  clear c3
  by_cases c6 : (wrap64 ((wrap64 (a1 - (a0_0.size : Int))) - (a0_1.size : Int))) < 0
  ·rw [if_pos c6] at H
   have c6b0 : decide ((wrap64 ((wrap64 (a1 - (a0_0.size : Int))) - (a0_1.size : Int))) < 0) = true := decide_eq_true c6
   clear c6
   obtain rfl := Option.some.inj H
   go_enter Try.func124, Try.ntmps124
   go_wp2_with (first | ((with_reducible refine qaQ (N := 2) rfl ?_); refine qaL ?hg (N := 2) ?hd (cs := #[.string a0_0, .string a0_1]) (t := 159) ?hr ?_; (case hd => rfl); (case hg => rfl); (case hr => first | (go_simp; done) | (go_simp; rfl)); intro gb101 hg w7 hbox hb; have n0_ := Aside0.mk (qai (by repeat (first | (with_reducible first | exact HB.out | apply qab | apply qaa | apply qac) | exact HB.out)) hb); have n1_ := Aside0.mk (hbox); have n2_ := Aside0.mk ((by rw [hg]; exact (qaj (by repeat (first | (with_reducible first | exact HB.out | apply qab | apply qaa | apply qac) | exact HB.out))) : w.heap.size ≤ gb101)); have n3_ := Aside0.mk ((by rw [hg]; exact (qaj (by repeat (first | (with_reducible first | exact HB.out | apply qab | apply qaa | apply qac) | exact HB.out))) : w.heap.size ≤ gb101)); clear HB; have HB := n0_; have BK101 := n1_; have GW101 := n2_; have GE101 := n3_; clear n0_ n1_ n2_ n3_; clear hb hbox hg; have hcz8_0 : w7.cell? ⟨gb101, 0, none⟩ = some (.string a0_0) := (qae BK101.out 0).trans rfl; have hcz8_1 : w7.cell? ⟨gb101, 1, none⟩ = some (.string a0_1) := (qae BK101.out 1).trans rfl; have hfz8_0 := qad BK101.out 0; have hfz8_1 := qad BK101.out 1))
   go_ret
   exact ⟨by first | rfl | (simp [qal, qam] <;> rfl) | (simp [*, qal, qam] <;> rfl), by repeat (first | (with_reducible first | exact HB.out | apply qab | apply qaa | apply qac | refine qaf ?_ GE101.out) | exact HB.out)⟩
  ·rw [if_neg c6] at H
   have c6b0 : decide ((wrap64 ((wrap64 (a1 - (a0_0.size : Int))) - (a0_1.size : Int))) < 0) = false := decide_eq_false c6
   clear c6
   obtain rfl := Option.some.inj H
   go_enter Try.func124, Try.ntmps124
   go_wp2_with (first | ((with_reducible refine qaQ (N := 2) rfl ?_); refine qaL ?hg (N := 2) ?hd (cs := #[.string a0_0, .string a0_1]) (t := 159) ?hr ?_; (case hd => rfl); (case hg => rfl); (case hr => first | (go_simp; done) | (go_simp; rfl)); intro gb101 hg w9 hbox hb; have n0_ := Aside0.mk (qai (by repeat (first | (with_reducible first | exact HB.out | apply qab | apply qaa | apply qac) | exact HB.out)) hb); have n1_ := Aside0.mk (hbox); have n2_ := Aside0.mk ((by rw [hg]; exact (qaj (by repeat (first | (with_reducible first | exact HB.out | apply qab | apply qaa | apply qac) | exact HB.out))) : w.heap.size ≤ gb101)); have n3_ := Aside0.mk ((by rw [hg]; exact (qaj (by repeat (first | (with_reducible first | exact HB.out | apply qab | apply qaa | apply qac) | exact HB.out))) : w.heap.size ≤ gb101)); clear HB; have HB := n0_; have BK101 := n1_; have GW101 := n2_; have GE101 := n3_; clear n0_ n1_ n2_ n3_; clear hb hbox hg; have hcz10_0 : w9.cell? ⟨gb101, 0, none⟩ = some (.string a0_0) := (qae BK101.out 0).trans rfl; have hcz10_1 : w9.cell? ⟨gb101, 1, none⟩ = some (.string a0_1) := (qae BK101.out 1).trans rfl; have hfz10_0 := qad BK101.out 0; have hfz10_1 := qad BK101.out 1))
   go_ret
   exact ⟨by first | rfl | (simp [qal, qam] <;> rfl) | (simp [*, qal, qam] <;> rfl), by repeat (first | (with_reducible first | exact HB.out | apply qab | apply qaa | apply qac | refine qaf ?_ GE101.out) | exact HB.out)⟩
end Go.Proofs.Ytenfomejccfkgaa.X
namespace Go.Proofs.Ytenfomejccfkgaa.X
open Go.RowKit Go.Proofs.YtenfomejccfkgaaW.PrintWords Go.Proofs.YtenfomejccfkgaaW.PrintLast Go.Proofs.YtenfomejccfkgaaW.PrintMore
attribute [local go_sem] qaC qaD qaE qay qaz qaO qaP qas qat qaA qaB
set_option linter.unusedVariables false
set_option linter.unusedSimpArgs false
theorem sz_Pair (x : S159) (hw : wl159 x) (B left : Int) (h0 : 0 ≤ left) (h1 : left ≤ B) (hB : B ≤ 1048576) : ∃ r, Ev (fun k => qco.f (x.f0) (x.f1) left) r ∧ (0 ≤ r → r ≤ left ∧ sm159 B x) := by
 unfold qco.f
 have hs0 : x.f0.size ≤ 9223372036854775807 := Nat.le_trans hw.1 qcE
 have e0 : wrap64 (left - (x.f0.size : Int)) = left - (x.f0.size : Int) := qct (by omega) (by omega)
 simp only [e0]
 by_cases c0 : left - (x.f0.size : Int) < 0
 ·exact ⟨-1, Ev.pos c0 (Ev.is rfl), fun h => by omega⟩
 suffices hh : ∃ r, Ev _ r ∧ (0 ≤ r → r ≤ left ∧ sm159 B x) from (let ⟨r, hr, hq⟩ := hh; ⟨r, Ev.neg c0 hr, hq⟩)
 have hs1 : x.f1.size ≤ 9223372036854775807 := Nat.le_trans hw.2 qcE
 have e1 : wrap64 ((left - (x.f0.size : Int)) - (x.f1.size : Int)) = (left - (x.f0.size : Int)) - (x.f1.size : Int) := qct (by omega) (by omega)
 simp only [e1]
 by_cases c1 : (left - (x.f0.size : Int)) - (x.f1.size : Int) < 0
 ·exact ⟨-1, Ev.pos c1 (Ev.is rfl), fun h => by omega⟩
 suffices hh : ∃ r, Ev _ r ∧ (0 ≤ r → r ≤ left ∧ sm159 B x) from (let ⟨r, hr, hq⟩ := hh; ⟨r, Ev.neg c1 hr, hq⟩)
 exact ⟨((left - (x.f0.size : Int)) - (x.f1.size : Int)), Ev.is rfl, fun _ => ⟨by omega, ⟨(by omega), (by omega)⟩⟩⟩
end Go.Proofs.Ytenfomejccfkgaa.X
