import Derived.Test.YtgcncphdjabjjaaKFnExactReplay3
import Derived.Test.YtgcncphdjabjjaaKFnExactReplay4
import Derived.Test.YtgcncphdjabjjaaKFnExactReplay6
import Derived.Test.YtgcncphdjabjjaaKFnExactReplay8
import Derived.Test.YtgcncphdjabjjaaKFnExactReplay11
import Derived.Test.YtgcncphdjabjjaaKFnExactReplay13
import Derived.Test.YtgcncphdjabjjaaKFnExactReplay14
import Derived.Test.YtgcncphdjabjjaaKFnExactReplay16
import Derived.Test.YtgcncphdjabjjaaKFnExactReplay17
import Derived.Test.YtgcncphdjabjjaaKFnExactReplay18
import Derived.Test.YtgcncphdjabjjaaKFnExactReplay19
import Derived.Test.YtgcncphdjabjjaaKFnExactReplay20
import Derived.Test.YtgcncphdjabjjaaKFnExactReplay21
namespace Go.Proofs.Ytgcncphdjabjjaa.X
open Go.RowKit Go.Proofs.YtgcncphdjabjjaaW.PrintWords Go.Proofs.YtgcncphdjabjjaaW.PrintLast Go.Proofs.YtgcncphdjabjjaaW.PrintMore
attribute [local go_sem] qaC qaD qaE qay qaz qaN qaO qat qau qaA qaB
set_option linter.unusedVariables false
set_option linter.unusedSimpArgs false
def qbh.j0 : Nat → List (S76) → ByteArray → Int → Bool → ByteArray → ByteArray → Int → List (S82) → Int → Option ((List (S76)) × Int)
 | 0, _, _, _, _, _, _, _, _, _ => none
 | k + 1, x0, x1, x2, x10, x918000, x918001, x918002, x918003, x918004 => if x10 = true then (some (([] : List (S76)), 2)) else ((qbn.f k x0).bind fun t918 => (if t918 = true then ((qar.f k x918000 x918001 x918002 x918003 x918004).bind fun t919 => (if t919 = true then ((qbf.f k x0 x1 x2 x918000 x918001 x918002 x918003 x918004).bind fun bt920 => (some (bt920.1, bt920.2))) else (some (([] : List (S76)), 1)))) else (some (([] : List (S76)), 1))))
def qbh.f (k : Nat) (l0 : List (S76)) (a1 : ByteArray) (a2 : Int) (a3_0 : ByteArray) (a3_1 : ByteArray) (a3_2 : Int) (l3_3 : List (S82)) (a3_4 : Int) : Option ((List (S76)) × Int) := if (l0.length : Int) > 4096 then (qbh.j0 k l0 a1 a2 true a3_0 a3_1 a3_2 l3_3 a3_4) else (qbh.j0 k l0 a1 a2 (decide ((a1.size : Int) > 65536)) a3_0 a3_1 a3_2 l3_3 a3_4)
theorem qbh.qbm : ∀ k, (∀ y0 y1 y2 y3 y4 y5 y6 y7 y8, LeO (qbh.j0 k y0 y1 y2 y3 y4 y5 y6 y7 y8) (qbh.j0 (k + 1) y0 y1 y2 y3 y4 y5 y6 y7 y8))
 | 0 => fun _ _ _ _ _ _ _ _ _ r h => by simp [qbh.j0] at h
 | k + 1 => by
  have ih0 := qbh.qbm k
  ·intro y0 y1 y2 y3 y4 y5 y6 y7 y8
   unfold qbh.j0
   repeat' first
   | (with_reducible exact ih0 _ _ _ _ _ _ _ _ _)
   | (with_reducible exact qar.mono _ _ _ _ _ _)
   | (with_reducible exact qbn.mono _ _)
   | (with_reducible exact qbf.mono _ _ _ _ _ _ _ _ _)
   | (with_reducible exact LeO.refl _)
   | (with_reducible exact LeO.none _)
   | (with_reducible refine LeO.ite ?_ ?_)
   | (with_reducible refine LeO.bind ?_ (fun _ => ?_))
   | exact ih0 _ _ _ _ _ _ _ _ _
   | exact qar.mono _ _ _ _ _ _
   | exact qbn.mono _ _
   | exact qbf.mono _ _ _ _ _ _ _ _ _
   | exact LeO.none _
   | refine LeO.ite ?_ ?_
   | refine LeO.bind ?_ (fun _ => ?_)
theorem qbh.mono : ∀ a0 a1 a2 a3 a4 a5 a6 a7 k, LeO (qbh.f k a0 a1 a2 a3 a4 a5 a6 a7) (qbh.f (k + 1) a0 a1 a2 a3 a4 a5 a6 a7) := by
 intro a0 a1 a2 a3 a4 a5 a6 a7 k
 have ih0 := qbh.qbm k
 unfold qbh.f
 repeat' first
   | (with_reducible exact ih0 _ _ _ _ _ _ _ _ _)
   | (with_reducible exact qar.mono _ _ _ _ _ _)
   | (with_reducible exact qbn.mono _ _)
   | (with_reducible exact qbf.mono _ _ _ _ _ _ _ _ _)
   | (with_reducible exact LeO.refl _)
   | (with_reducible exact LeO.none _)
   | (with_reducible refine LeO.ite ?_ ?_)
   | (with_reducible refine LeO.bind ?_ (fun _ => ?_))
   | exact ih0 _ _ _ _ _ _ _ _ _
   | exact qar.mono _ _ _ _ _ _
   | exact qbn.mono _ _
   | exact qbf.mono _ _ _ _ _ _ _ _ _
   | exact LeO.none _
   | refine LeO.ite ?_ ?_
   | refine LeO.bind ?_ (fun _ => ?_)
set_option maxHeartbeats 8000000 in
set_option maxRecDepth 100000 in
theorem qbh.calls (k : Nat) (A0 : Option Addr) (c0 : Nat) (l0 : List (S76)) (a1 : ByteArray) (a2 : Int) (a3_0 : ByteArray) (a3_1 : ByteArray) (a3_2 : Int) (A3_3 : Option Addr) (c3_3 : Nat) (l3_3 : List (S82)) (a3_4 : Int) (r1 : List (S76)) (r2 : Int) (w : World) (hr0 : Kd.C k76 w A0 l0.length l0) (hc0 : l0.length ≤ c0) (hr3_3 : Kd.C k82 w A3_3 l3_3.length l3_3) (hc3_3 : l3_3.length ≤ c3_3) (h : qbh.f k l0 a1 a2 a3_0 a3_1 a3_2 l3_3 a3_4 = some (r1, r2)) :
  Calls Try.prog 42 #[.slice A0 l0.length c0, .string a1, .int .i64 a2, .agg #[.string a3_0, .string a3_1, .int .i64 a3_2, .slice A3_3 l3_3.length c3_3, .int .i64 a3_4]] w fun e w' => ∃ v0_ : Value, e = .returned (.tuple #[v0_, .int .i64 r2]) ∧ Kd.R k76 76 w' w.heap.size (fun _ => True) v0_ r1 ∧ Below w.heap.size w w' := by
 have hu48 := Try.underlying48
 have HR0 := Aside0.mk hr0
 have HC0 := Aside0.mk hc0
 clear hr0 hc0
 have HR3_3 := Aside0.mk hr3_3
 have HC3_3 := Aside0.mk hc3_3
 clear hr3_3 hc3_3
 have HB := Aside0.mk (Below.refl w.heap.size w)
 have H : (if (l0.length : Int) > 4096 then (qbh.j0 k l0 a1 a2 true a3_0 a3_1 a3_2 l3_3 a3_4) else (qbh.j0 k l0 a1 a2 (decide ((a1.size : Int) > 65536)) a3_0 a3_1 a3_2 l3_3 a3_4)) = some (r1, r2) := h
 clear h
 have HC5 := Aside0.mk H
 clear H
 go_enter Try.func42, Try.ntmps42
 go_upto_region 1 with (first | ((with_reducible refine qaH (N := 7) rfl ?_); (try (refine qbt (by rfl) ?_; dsimp only)); refine qaF ?hg (N := 7) ?hd (cs := #[.string a3_0, .string a3_1, .int .i64 a3_2, .slice A3_3 l3_3.length c3_3, .int .i64 a3_4]) (t := 48) ?hr ?_; (case hd => rfl); (case hg => rfl); (case hr => first | (go_simp; done) | (go_simp; rfl)); intro gb917 hg w6 hbox hb; have n0_ := Aside0.mk (qag (by repeat (first | (with_reducible first | exact HB.out | apply qac | apply qaa | apply qab) | exact HB.out)) hb); have n1_ := Aside0.mk (hbox); have n2_ := Aside0.mk ((by rw [hg]; exact (qak (by repeat (first | (with_reducible first | exact HB.out | apply qac | apply qaa | apply qab) | exact HB.out))) : w.heap.size ≤ gb917)); have n3_ := Aside0.mk ((by rw [hg]; exact (qak (by repeat (first | (with_reducible first | exact HB.out | apply qac | apply qaa | apply qab) | exact HB.out))) : w.heap.size ≤ gb917)); clear HB; have HB := n0_; have BK917 := n1_; have GW917 := n2_; have GE917 := n3_; clear n0_ n1_ n2_ n3_; clear hb hbox hg))
 (try simp only [Act.put, List.setIfInBounds_toArray, List.set_cons_zero, List.set_cons_succ])
 go_cut [10] (fun v10 wc => ∃ (kq : Nat) (x10_4 : Bool), v10 = .bool x10_4 ∧ Aside0 (qbh.j0 kq l0 a1 a2 x10_4 a3_0 a3_1 a3_2 l3_3 a3_4 = some (r1, r2)) ∧ Aside0 (kq ≤ k) ∧ Aside0 (wc.heap[gb917]? = some (.cells #[.string a3_0, .string a3_1, .int .i64 a3_2, (.slice A3_3 l3_3.length c3_3), .int .i64 a3_4] 48 (0, 0))) ∧ Aside0 (Below w.heap.size w wc))
 case first =>
  have H := HC5.out
  clear HC5
  by_cases c7 : (l0.length : Int) > 4096
  ·rw [if_pos c7] at H
   have c7b0 : decide (4096 < (l0.length : Int)) = true := decide_eq_true c7
   have c7b1 : decide (4096 < l0.length) = true := decide_eq_true (by omega)
   clear c7
   (first | rw [c7b0] | (simp only [qbS, qb0]; rw [c7b0]) | skip)
   have H' := Aside0.mk H
   clear H
   go_wp2
   go_meet
   case rel => exact ⟨_, (true), (by first | rfl | (simp; done) | (simp [*]; done)), H', ⟨by first | omega | exact Nat.le_refl _⟩, ⟨by (with_reducible repeat (first | refine qaj ?_ _ | refine qal ?_ | refine qai ?_ _)); exact BK917.out⟩, ⟨by repeat (first | (with_reducible first | exact HB.out | apply qac | apply qaa | apply qab | refine qah ?_ GE917.out) | exact HB.out)⟩⟩
  ·rw [if_neg c7] at H
   have c7b0 : decide (4096 < (l0.length : Int)) = false := decide_eq_false c7
   have c7b1 : decide (4096 < l0.length) = false := decide_eq_false (by omega)
   clear c7
   (first | rw [c7b0] | (simp only [qbS, qb0]; rw [c7b0]) | skip)
   have H' := Aside0.mk H
   clear H
   go_wp2
   go_meet
   case rel => exact ⟨_, (decide ((a1.size : Int) > 65536)), (by first | rfl | (simp; done) | (simp [*]; done)), H', ⟨by first | omega | exact Nat.le_refl _⟩, ⟨by (with_reducible repeat (first | refine qaj ?_ _ | refine qal ?_ | refine qai ?_ _)); exact BK917.out⟩, ⟨by repeat (first | (with_reducible first | exact HB.out | apply qac | apply qaa | apply qab | refine qah ?_ GE917.out) | exact HB.out)⟩⟩
 case rest =>
  clear HC5
  try clear p2
  try clear c3
  try clear c4
  try clear c7
  try clear c7b0
  try clear c7b1
  obtain ⟨kq, x10_4, rfl, HA, HJ4, BK917, HB⟩ := hcut
  cases kq with
  | zero => exact absurd HA.out (by simp [qbh.j0])
  | succ kj4 =>
   have H := HA.out
   clear HA
   simp only [qbh.j0] at H
   by_cases c8 : x10_4 = true
   ·subst c8
    have H1 : (some (([] : List (S76)), 2)) = some (r1, r2) := by rw [if_pos rfl] at H; exact H
    clear H
    have H := H1
    clear H1
    simp only [Option.some.injEq, Prod.mk.injEq] at H
    obtain ⟨rfl, rfl⟩ := H
    go_wp2
    go_ret2
    exact ⟨_, by first | rfl | (simp [qam, qan] <;> rfl) | (simp [*, qam, qan] <;> rfl), by first | exact Kd.qfF _ _ _ _ _ | exact Kd.N_nil _ _ _ _ _ | exact Kd.V_nil _ _ _ _ _ | exact Kd.Q_nil _ _ _ _ _ | exact Kd.S_nil _ _ _ _ _, by repeat (first | (with_reducible first | exact HB.out | apply qac | apply qaa | apply qab | refine qah ?_ GE917.out) | exact HB.out)⟩
   ·replace c8 := Bool.eq_false_iff.mpr c8
    subst c8
    have H1 : ((qbn.f kj4 l0).bind fun t918 => (if t918 = true then ((qar.f kj4 a3_0 a3_1 a3_2 l3_3 a3_4).bind fun t919 => (if t919 = true then ((qbf.f kj4 l0 a1 a2 a3_0 a3_1 a3_2 l3_3 a3_4).bind fun bt920 => (some (bt920.1, bt920.2))) else (some (([] : List (S76)), 1)))) else (some (([] : List (S76)), 1)))) = some (r1, r2) := by rw [if_neg (show ¬ (false = true) by decide)] at H; exact H
    clear H
    have H := H1
    clear H1
    replace H := Option.bind_eq_some_iff.mp H
    obtain ⟨t918, A90, H⟩ := H
    replace H : (if t918 = true then ((qar.f kj4 a3_0 a3_1 a3_2 l3_3 a3_4).bind fun t919 => (if t919 = true then ((qbf.f kj4 l0 a1 a2 a3_0 a3_1 a3_2 l3_3 a3_4).bind fun bt920 => (some (bt920.1, bt920.2))) else (some (([] : List (S76)), 1)))) else (some (([] : List (S76)), 1))) = some (r1, r2) := H
    have A9 := Aside0.mk A90
    clear A90
    by_cases c10 : t918 = true
    ·subst c10
     have H1 : ((qar.f kj4 a3_0 a3_1 a3_2 l3_3 a3_4).bind fun t919 => (if t919 = true then ((qbf.f kj4 l0 a1 a2 a3_0 a3_1 a3_2 l3_3 a3_4).bind fun bt920 => (some (bt920.1, bt920.2))) else (some (([] : List (S76)), 1)))) = some (r1, r2) := by rw [if_pos rfl] at H; exact H
     clear H
     have H := H1
     clear H1
     replace H := Option.bind_eq_some_iff.mp H
     obtain ⟨t919, A110, H⟩ := H
     replace H : (if t919 = true then ((qbf.f kj4 l0 a1 a2 a3_0 a3_1 a3_2 l3_3 a3_4).bind fun bt920 => (some (bt920.1, bt920.2))) else (some (([] : List (S76)), 1))) = some (r1, r2) := H
     have A11 := Aside0.mk A110
     clear A110
     by_cases c12 : t919 = true
     ·subst c12
      have H1 : ((qbf.f kj4 l0 a1 a2 a3_0 a3_1 a3_2 l3_3 a3_4).bind fun bt920 => (some (bt920.1, bt920.2))) = some (r1, r2) := by rw [if_pos rfl] at H; exact H
      clear H
      have H := H1
      clear H1
      replace H := Option.bind_eq_some_iff.mp H
      obtain ⟨⟨t920, t923⟩, A130, H⟩ := H
      replace H : (some (t920, t923)) = some (r1, r2) := H
      have A13 := Aside0.mk A130
      clear A130
      simp only [Option.some.injEq, Prod.mk.injEq] at H
      obtain ⟨rfl, rfl⟩ := H
      go_wp2_with (first | ((with_reducible refine qav (f := 53) rfl ?_); refine qbd (some 21) rfl rfl Try.func53 (by kernel_rfl) rfl #[.slice A0 l0.length c0] rfl (by (try simp only [List.map_toArray, List.map_cons, List.map_nil]); first | done | rfl | (simp only [List.length_drop, List.length_take]; rfl)) ?_; (with_reducible refine (qbn.calls kj4 _ _ l0 true _ ?side1 ?side2 A9.out).mono ?_); (case side1 => repeat (first | exact (Kd.qbe HR0.out HB.out) | (with_reducible refine Kd.qa6 ?_ _) | (with_reducible refine Kd.qa7 ?_ _) | (with_reducible refine Kd.qbj ?_))); (case side2 => exact HC0.out); rintro e w14 ⟨rfl, hb⟩; refine ⟨_, rfl, ?_⟩; have n0_ := Aside0.mk (qao (g := gb917) (o := .cells #[.string a3_0, .string a3_1, .int .i64 a3_2, .slice A3_3 l3_3.length c3_3, .int .i64 a3_4] 48 (0, 0)) (by (with_reducible repeat (first | refine qaj ?_ _ | refine qal ?_ | refine qai ?_ _)); exact BK917.out) hb); have n1_ := Aside0.mk (qag (by repeat (first | (with_reducible first | exact HB.out | apply qac | apply qaa | apply qab | refine qah ?_ GE917.out) | exact HB.out)) hb); clear BK917; clear HB; have BK917 := n0_; have HB := n1_; clear n0_ n1_; (try clear hb); (try clear hb2); (try clear hk); (try clear hi); have hcz15_0 : w14.cell? ⟨gb917, 0, none⟩ = some (.string a3_0) := (qad BK917.out 0).trans rfl; have hcz15_1 : w14.cell? ⟨gb917, 1, none⟩ = some (.string a3_1) := (qad BK917.out 1).trans rfl; have hcz15_2 : w14.cell? ⟨gb917, 2, none⟩ = some (.int .i64 a3_2) := (qad BK917.out 2).trans rfl; have hcz15_3 : w14.cell? ⟨gb917, 3, none⟩ = some (.slice A3_3 l3_3.length c3_3) := (qad BK917.out 3).trans rfl; have hcz15_4 : w14.cell? ⟨gb917, 4, none⟩ = some (.int .i64 a3_4) := (qad BK917.out 4).trans rfl; have hfz15_0 := qae BK917.out 0; have hfz15_1 := qae BK917.out 1; have hfz15_2 := qae BK917.out 2; have hfz15_3 := qae BK917.out 3; have hfz15_4 := qae BK917.out 4) | (go_at_call 30; (with_reducible refine (qar.calls kj4 a3_0 a3_1 a3_2 _ _ l3_3 a3_4 true _ ?side1 ?side2 A11.out).mono ?_); (case side1 => repeat (first | exact (Kd.qbe HR3_3.out HB.out) | (with_reducible refine Kd.qa6 ?_ _) | (with_reducible refine Kd.qa7 ?_ _) | (with_reducible refine Kd.qbj ?_))); (case side2 => exact HC3_3.out); rintro e w16 ⟨rfl, hb⟩; have n0_ := Aside0.mk (qao (g := gb917) (o := .cells #[.string a3_0, .string a3_1, .int .i64 a3_2, .slice A3_3 l3_3.length c3_3, .int .i64 a3_4] 48 (0, 0)) (by (with_reducible repeat (first | refine qaj ?_ _ | refine qal ?_ | refine qai ?_ _)); exact BK917.out) hb); have n1_ := Aside0.mk (qag (by repeat (first | (with_reducible first | exact HB.out | apply qac | apply qaa | apply qab | refine qah ?_ GE917.out) | exact HB.out)) hb); clear BK917; clear HB; have BK917 := n0_; have HB := n1_; clear n0_ n1_; (try clear hb); (try clear hb2); (try clear hk); (try clear hi); have hcz17_0 : w16.cell? ⟨gb917, 0, none⟩ = some (.string a3_0) := (qad BK917.out 0).trans rfl; have hcz17_1 : w16.cell? ⟨gb917, 1, none⟩ = some (.string a3_1) := (qad BK917.out 1).trans rfl; have hcz17_2 : w16.cell? ⟨gb917, 2, none⟩ = some (.int .i64 a3_2) := (qad BK917.out 2).trans rfl; have hcz17_3 : w16.cell? ⟨gb917, 3, none⟩ = some (.slice A3_3 l3_3.length c3_3) := (qad BK917.out 3).trans rfl; have hcz17_4 : w16.cell? ⟨gb917, 4, none⟩ = some (.int .i64 a3_4) := (qad BK917.out 4).trans rfl; have hfz17_0 := qae BK917.out 0; have hfz17_1 := qae BK917.out 1; have hfz17_2 := qae BK917.out 2; have hfz17_3 := qae BK917.out 3; have hfz17_4 := qae BK917.out 4) | ((with_reducible refine qav (f := 74) rfl ?_); refine qbd (some 32) rfl rfl Try.func74 (by kernel_rfl) rfl #[.slice A0 l0.length c0, .string a1, .int .i64 a2, .agg #[.string a3_0, .string a3_1, .int .i64 a3_2, .slice A3_3 l3_3.length c3_3, .int .i64 a3_4]] rfl (by (try simp only [List.map_toArray, List.map_cons, List.map_nil]); first | done | rfl | (simp only [List.length_drop, List.length_take]; rfl)) ?_; (with_reducible refine (qbf.calls kj4 _ _ l0 a1 a2 a3_0 a3_1 a3_2 _ _ l3_3 a3_4 t920 t923 _ ?side1 ?side2 ?side3 ?side4 A13.out).mono ?_); (case side1 => repeat (first | exact (Kd.qbe HR0.out HB.out) | (with_reducible refine Kd.qa6 ?_ _) | (with_reducible refine Kd.qa7 ?_ _) | (with_reducible refine Kd.qbj ?_))); (case side2 => exact HC0.out); (case side3 => repeat (first | exact (Kd.qbe HR3_3.out HB.out) | (with_reducible refine Kd.qa6 ?_ _) | (with_reducible refine Kd.qa7 ?_ _) | (with_reducible refine Kd.qbj ?_))); (case side4 => exact HC3_3.out); rintro e w18 ⟨v921, rfl, ho0, hb⟩; refine ⟨_, rfl, ?_⟩; have n0_ := Aside0.mk (Kd.qbp ho0 (qak (by repeat (first | (with_reducible first | exact HB.out | apply qac | apply qaa | apply qab | refine qah ?_ GE917.out) | exact HB.out)))); have n1_ := Aside0.mk (qao (g := gb917) (o := .cells #[.string a3_0, .string a3_1, .int .i64 a3_2, .slice A3_3 l3_3.length c3_3, .int .i64 a3_4] 48 (0, 0)) (by (with_reducible repeat (first | refine qaj ?_ _ | refine qal ?_ | refine qai ?_ _)); exact BK917.out) hb); have n2_ := Aside0.mk (qag (by repeat (first | (with_reducible first | exact HB.out | apply qac | apply qaa | apply qab | refine qah ?_ GE917.out) | exact HB.out)) hb); clear BK917; clear HB; have HO922 := n0_; have BK917 := n1_; have HB := n2_; clear n0_ n1_ n2_; (try clear hb); (try clear hb2); (try clear hk); (try clear hi); (try clear ho0)))
      go_ret2
      exact ⟨_, by first | rfl | (simp [qam, qan] <;> rfl) | (simp [*, qam, qan] <;> rfl), by (with_reducible repeat (first | apply Kd.qaw | apply Kd.qax | apply Kd.qaI)); exact HO922.out, by repeat (first | (with_reducible first | exact HB.out | apply qac | apply qaa | apply qab | refine qah ?_ GE917.out) | exact HB.out)⟩
     ·replace c12 := Bool.eq_false_iff.mpr c12
      subst c12
      have H1 : (some (([] : List (S76)), 1)) = some (r1, r2) := by rw [if_neg (show ¬ (false = true) by decide)] at H; exact H
      clear H
      have H := H1
      clear H1
      simp only [Option.some.injEq, Prod.mk.injEq] at H
      obtain ⟨rfl, rfl⟩ := H
      go_wp2_with (first | ((with_reducible refine qav (f := 53) rfl ?_); refine qbd (some 21) rfl rfl Try.func53 (by kernel_rfl) rfl #[.slice A0 l0.length c0] rfl (by (try simp only [List.map_toArray, List.map_cons, List.map_nil]); first | done | rfl | (simp only [List.length_drop, List.length_take]; rfl)) ?_; (with_reducible refine (qbn.calls kj4 _ _ l0 true _ ?side1 ?side2 A9.out).mono ?_); (case side1 => repeat (first | exact (Kd.qbe HR0.out HB.out) | (with_reducible refine Kd.qa6 ?_ _) | (with_reducible refine Kd.qa7 ?_ _) | (with_reducible refine Kd.qbj ?_))); (case side2 => exact HC0.out); rintro e w19 ⟨rfl, hb⟩; refine ⟨_, rfl, ?_⟩; have n0_ := Aside0.mk (qao (g := gb917) (o := .cells #[.string a3_0, .string a3_1, .int .i64 a3_2, .slice A3_3 l3_3.length c3_3, .int .i64 a3_4] 48 (0, 0)) (by (with_reducible repeat (first | refine qaj ?_ _ | refine qal ?_ | refine qai ?_ _)); exact BK917.out) hb); have n1_ := Aside0.mk (qag (by repeat (first | (with_reducible first | exact HB.out | apply qac | apply qaa | apply qab | refine qah ?_ GE917.out) | exact HB.out)) hb); clear BK917; clear HB; have BK917 := n0_; have HB := n1_; clear n0_ n1_; (try clear hb); (try clear hb2); (try clear hk); (try clear hi); have hcz20_0 : w19.cell? ⟨gb917, 0, none⟩ = some (.string a3_0) := (qad BK917.out 0).trans rfl; have hcz20_1 : w19.cell? ⟨gb917, 1, none⟩ = some (.string a3_1) := (qad BK917.out 1).trans rfl; have hcz20_2 : w19.cell? ⟨gb917, 2, none⟩ = some (.int .i64 a3_2) := (qad BK917.out 2).trans rfl; have hcz20_3 : w19.cell? ⟨gb917, 3, none⟩ = some (.slice A3_3 l3_3.length c3_3) := (qad BK917.out 3).trans rfl; have hcz20_4 : w19.cell? ⟨gb917, 4, none⟩ = some (.int .i64 a3_4) := (qad BK917.out 4).trans rfl; have hfz20_0 := qae BK917.out 0; have hfz20_1 := qae BK917.out 1; have hfz20_2 := qae BK917.out 2; have hfz20_3 := qae BK917.out 3; have hfz20_4 := qae BK917.out 4) | (go_at_call 30; (with_reducible refine (qar.calls kj4 a3_0 a3_1 a3_2 _ _ l3_3 a3_4 false _ ?side1 ?side2 A11.out).mono ?_); (case side1 => repeat (first | exact (Kd.qbe HR3_3.out HB.out) | (with_reducible refine Kd.qa6 ?_ _) | (with_reducible refine Kd.qa7 ?_ _) | (with_reducible refine Kd.qbj ?_))); (case side2 => exact HC3_3.out); rintro e w21 ⟨rfl, hb⟩; have n0_ := Aside0.mk (qao (g := gb917) (o := .cells #[.string a3_0, .string a3_1, .int .i64 a3_2, .slice A3_3 l3_3.length c3_3, .int .i64 a3_4] 48 (0, 0)) (by (with_reducible repeat (first | refine qaj ?_ _ | refine qal ?_ | refine qai ?_ _)); exact BK917.out) hb); have n1_ := Aside0.mk (qag (by repeat (first | (with_reducible first | exact HB.out | apply qac | apply qaa | apply qab | refine qah ?_ GE917.out) | exact HB.out)) hb); clear BK917; clear HB; have BK917 := n0_; have HB := n1_; clear n0_ n1_; (try clear hb); (try clear hb2); (try clear hk); (try clear hi)))
      go_ret2
      exact ⟨_, by first | rfl | (simp [qam, qan] <;> rfl) | (simp [*, qam, qan] <;> rfl), by first | exact Kd.qfF _ _ _ _ _ | exact Kd.N_nil _ _ _ _ _ | exact Kd.V_nil _ _ _ _ _ | exact Kd.Q_nil _ _ _ _ _ | exact Kd.S_nil _ _ _ _ _, by repeat (first | (with_reducible first | exact HB.out | apply qac | apply qaa | apply qab | refine qah ?_ GE917.out) | exact HB.out)⟩
    ·replace c10 := Bool.eq_false_iff.mpr c10
     subst c10
     have H1 : (some (([] : List (S76)), 1)) = some (r1, r2) := by rw [if_neg (show ¬ (false = true) by decide)] at H; exact H
     clear H
     have H := H1
     clear H1
     simp only [Option.some.injEq, Prod.mk.injEq] at H
     obtain ⟨rfl, rfl⟩ := H
     go_wp2_with (first | ((with_reducible refine qav (f := 53) rfl ?_); refine qbd (some 21) rfl rfl Try.func53 (by kernel_rfl) rfl #[.slice A0 l0.length c0] rfl (by (try simp only [List.map_toArray, List.map_cons, List.map_nil]); first | done | rfl | (simp only [List.length_drop, List.length_take]; rfl)) ?_; (with_reducible refine (qbn.calls kj4 _ _ l0 false _ ?side1 ?side2 A9.out).mono ?_); (case side1 => repeat (first | exact (Kd.qbe HR0.out HB.out) | (with_reducible refine Kd.qa6 ?_ _) | (with_reducible refine Kd.qa7 ?_ _) | (with_reducible refine Kd.qbj ?_))); (case side2 => exact HC0.out); rintro e w22 ⟨rfl, hb⟩; refine ⟨_, rfl, ?_⟩; have n0_ := Aside0.mk (qao (g := gb917) (o := .cells #[.string a3_0, .string a3_1, .int .i64 a3_2, .slice A3_3 l3_3.length c3_3, .int .i64 a3_4] 48 (0, 0)) (by (with_reducible repeat (first | refine qaj ?_ _ | refine qal ?_ | refine qai ?_ _)); exact BK917.out) hb); have n1_ := Aside0.mk (qag (by repeat (first | (with_reducible first | exact HB.out | apply qac | apply qaa | apply qab | refine qah ?_ GE917.out) | exact HB.out)) hb); clear BK917; clear HB; have BK917 := n0_; have HB := n1_; clear n0_ n1_; (try clear hb); (try clear hb2); (try clear hk); (try clear hi)))
     go_ret2
     exact ⟨_, by first | rfl | (simp [qam, qan] <;> rfl) | (simp [*, qam, qan] <;> rfl), by first | exact Kd.qfF _ _ _ _ _ | exact Kd.N_nil _ _ _ _ _ | exact Kd.V_nil _ _ _ _ _ | exact Kd.Q_nil _ _ _ _ _ | exact Kd.S_nil _ _ _ _ _, by repeat (first | (with_reducible first | exact HB.out | apply qac | apply qaa | apply qab | refine qah ?_ GE917.out) | exact HB.out)⟩
end Go.Proofs.Ytgcncphdjabjjaa.X
namespace Go.Proofs.Ytgcncphdjabjjaa.X
open Go.RowKit Go.Proofs.YtgcncphdjabjjaaW.PrintWords Go.Proofs.YtgcncphdjabjjaaW.PrintLast Go.Proofs.YtgcncphdjabjjaaW.PrintMore
attribute [local go_sem] qaC qaD qaE qay qaz qaN qaO qat qau qaA qaB
set_option linter.unusedVariables false
set_option linter.unusedSimpArgs false
theorem qgC (l0 : List S76) (r : List S82) : ∀ out, (qbI l0 out r).2 ≠ 0 → (qbI l0 out r).1 = l0 := by
 induction r with
 | nil => intro out h; unfold qbI at h ⊢; split <;> simp_all
 | cons d r ih =>
  intro out h
  unfold qbI at h ⊢
  split
  ·rename_i h1
   rw [if_pos h1] at h
   split
   ·rename_i h2
    rw [if_pos h2] at h
    exact ih _ h
   ·rfl
  ·rfl
theorem qgD (l0 : List S76) (r : List S82) : ∀ out, (qbI l0 out r).2 = 0 → (qbI l0 out r).1.length ≤ 60 := by
 induction r with
 | nil =>
  intro out h
  unfold qbI at h ⊢
  split
  ·rename_i h1; rw [if_pos h1] at h; simp at h
  ·simp only; omega
 | cons d r ih =>
  intro out h
  unfold qbI at h ⊢
  split
  ·rename_i h1
   rw [if_pos h1] at h
   split
   ·rename_i h2
    rw [if_pos h2] at h
    exact ih _ h
   ·rename_i h2; rw [if_neg h2] at h; simp at h
  ·rename_i h1; rw [if_neg h1] at h; simp at h
def qdS (l : List S76) (last : ByteArray) (chain : Int) (a b : ByteArray) (n : Int) (ds : List S82) (s : Int) : List S76 × Int := if a.toList = last.toList then (if n = chain then (if (qbI l l ds).2 = 0 then (if sumP (qbI l l ds).1 = s then ((qbI l l ds).1, 0) else (l, 8)) else (l, (qbI l l ds).2)) else (l, 14)) else (l, 13)
theorem qec {l : List S76} {ds : List S82} (hf : Fine l) (h : (qbI l l ds).2 = 0) : qcY (qbI l l ds).1 := by
 have h1 := qgD l ds l h
 exact qgB (by omega) (qgz l hf ds l hf).1
theorem qgE (l : List S76) (last : ByteArray) (chain : Int) (a b : ByteArray) (n : Int) (ds : List S82) (s : Int) (hl : l.length ≤ 100000) (hd : ds.length ≤ 100000) (hf : Fine l) : Ev (fun k => qbf.f k l last chain a b n ds s) (qdS l last chain a b n ds s) := by
 unfold qbf.f qdS
 have hc := qdn l (by omega)
 by_cases h1 : a.toList = last.toList
 ·refine Ev.pos h1 (Ev.same ?_ (if_pos h1).symm)
  by_cases h2 : n = chain
  ·refine Ev.pos h2 (Ev.same (Ev.bind (qg5 l ds hl hd hf) ?_) (if_pos h2).symm)
   by_cases h3 : (qbI l l ds).2 = 0
   ·refine Ev.pos h3 (Ev.same (Ev.bindk (impl_sum (qec hf h3)) ?_) (if_pos h3).symm)
    by_cases h4 : sumP (qbI l l ds).1 = s
    ·exact Ev.pos h4 (Ev.is (by rw [if_pos h4, h3]))
    ·exact Ev.neg h4 (Ev.bindk hc (Ev.is (by rw [if_neg h4])))
   ·exact Ev.neg h3 (Ev.is (by rw [if_neg h3, qgC l ds l h3]))
  ·exact Ev.neg h2 (Ev.bindk hc (Ev.is (by rw [if_neg h2])))
 ·exact Ev.neg h1 (Ev.bindk hc (Ev.is (by rw [if_neg h1])))
theorem qgF (l : List S76) (last : ByteArray) (chain : Int) (a b : ByteArray) (n : Int) (ds : List S82) (s : Int) (hl : l.length ≤ 100000) (hd : ds.length ≤ 100000) (hf : Fine l) : Ev (fun k => qbl.f k l last chain a b n ds s) (qdS l last chain a b n ds s) := by
 unfold qbl.f qdS
 by_cases h1 : a.toList = last.toList
 ·refine Ev.pos h1 (Ev.same ?_ (if_pos h1).symm)
  by_cases h2 : n = chain
  ·refine Ev.pos h2 (Ev.same (Ev.bind (qg6 l ds hl hd hf) ?_) (if_pos h2).symm)
   by_cases h3 : (qbI l l ds).2 = 0
   ·refine Ev.pos h3 (Ev.same (Ev.bind (spec_sum (qec hf h3)) ?_) (if_pos h3).symm)
    by_cases h4 : sumP (qbI l l ds).1 = s
    ·exact Ev.pos h4 (Ev.is (by rw [if_pos h4]))
    ·exact Ev.neg h4 (Ev.is (by rw [if_neg h4]))
   ·exact Ev.neg h3 (Ev.is (by rw [if_neg h3]))
  ·exact Ev.neg h2 (Ev.is (by rw [if_neg h2]))
 ·exact Ev.neg h1 (Ev.is (by rw [if_neg h1]))
theorem qdN (l : List S76) (last : ByteArray) (chain : Int) (a b : ByteArray) (n : Int) (ds : List S82) (s : Int) : (qdS l last chain a b n ds s).1.length ≤ 2 * l.length + ds.length := by
 unfold qdS
 have := qfm l ds l
 split
 ·split
  ·split
   ·split <;> simp only <;> omega
   ·simp only; omega
  ·simp only; omega
 ·simp only; omega
def qds (l : List S76) (last : ByteArray) (chain : Int) (a b : ByteArray) (n : Int) (ds : List S82) (s : Int) : List S76 × Int := if 4096 < l.length ∨ 65536 < last.size then ([], 2) else if qd2 l = true then (if qdd a b n ds s = true then qdS l last chain a b n ds s else ([], 1)) else ([], 1)
theorem qeV (l : List S76) (last : ByteArray) (chain : Int) (a b : ByteArray) (n : Int) (ds : List S82) (s : Int) : (qds l last chain a b n ds s).1.length ≤ 2 * l.length + ds.length := by
 unfold qds
 split
 ·exact Nat.zero_le _
 ·split
  ·split
   ·exact qdN l last chain a b n ds s
   ·exact Nat.zero_le _
  ·exact Nat.zero_le _
theorem qed {a b : ByteArray} {n : Int} {ds : List S82} {s : Int} (h : qdd a b n ds s = true) : ds.length ≤ 120 := by
 unfold qdd at h
 simp only [Bool.and_eq_true, decide_eq_true_eq] at h
 exact h.2.2.1
theorem qf6 (l : List S76) (last : ByteArray) (chain : Int) (a b : ByteArray) (n : Int) (ds : List S82) (s : Int) (hds : ds.length ≤ 2000000) : Ev (fun k => qbh.f k l last chain a b n ds s) (qds l last chain a b n ds s) := by
 have hj : ∀ c : Bool, (c = true ↔ (4096 < l.length ∨ 65536 < last.size)) → Ev (fun k => qbh.j0 k l last chain c a b n ds s) (qds l last chain a b n ds s) := by
  intro c hc
  refine Ev.succ ?_
  simp only [qbh.j0]
  unfold qds
  cases c with
  | true => exact Ev.pos rfl (Ev.is (by rw [if_pos (hc.1 rfl)]))
  | false =>
   have hn : ¬ (4096 < l.length ∨ 65536 < last.size) := fun e => by have := hc.2 e; cases this
   refine Ev.neg (by simp) (Ev.same (Ev.bind (qf5 l) ?_) (if_neg hn).symm)
   cases hp : qd2 l with
   | false => exact Ev.neg (by simp) (Ev.is (by simp))
   | true =>
    refine Ev.pos rfl (Ev.same (Ev.bind (qfo a b n ds s (by omega)) ?_) (if_pos rfl).symm)
    cases hb : qdd a b n ds s with
    | false => exact Ev.neg (by simp) (Ev.is (by simp))
    | true =>
     have hq := qfW.1 hp
     have hm := qed hb
     exact Ev.pos rfl (Ev.same (Ev.bind (qgE l last chain a b n ds s (by omega) (by omega) ⟨hq.2.1, hq.2.2⟩) (Ev.is rfl)) (if_pos rfl).symm)
 unfold qbh.f
 by_cases h : (l.length : Int) > 4096
 ·exact Ev.pos h (hj true (by simp; omega))
 ·refine Ev.neg h (hj _ ?_)
  simp only [decide_eq_true_eq]
  omega
theorem qf7 (l : List S76) (last : ByteArray) (chain : Int) (a b : ByteArray) (n : Int) (ds : List S82) (s : Int) (hds : ds.length ≤ 2000000) : Ev (fun k => qbi.f k l last chain a b n ds s) (qds l last chain a b n ds s) := by
 have hj : ∀ c : Bool, (c = true ↔ (4096 < l.length ∨ 65536 < last.size)) → Ev (fun k => qbi.j0 k l last chain c a b n ds s) (qds l last chain a b n ds s) := by
  intro c hc
  refine Ev.succ ?_
  simp only [qbi.j0]
  unfold qds
  cases c with
  | true => exact Ev.pos rfl (Ev.is (by rw [if_pos (hc.1 rfl)]))
  | false =>
   have hn : ¬ (4096 < l.length ∨ 65536 < last.size) := fun e => by have := hc.2 e; cases this
   refine Ev.neg (by simp) (Ev.same (Ev.bind (qfY l) ?_) (if_neg hn).symm)
   cases hp : qd2 l with
   | false => exact Ev.neg (by simp) (Ev.is (by simp))
   | true =>
    refine Ev.pos rfl (Ev.same (Ev.bind (qfp a b n ds s hds) ?_) (if_pos rfl).symm)
    cases hb : qdd a b n ds s with
    | false => exact Ev.neg (by simp) (Ev.is (by simp))
    | true =>
     have hq := qfW.1 hp
     have hm := qed hb
     have hz := qdN l last chain a b n ds s
     exact Ev.pos rfl (Ev.same (Ev.bind (qgF l last chain a b n ds s (by omega) (by omega) ⟨hq.2.1, hq.2.2⟩) (Ev.bindk rfl (Ev.pos (by simp only [List.length_nil]; omega) (Ev.is (by simp))))) (if_pos rfl).symm)
 unfold qbi.f
 by_cases h : (l.length : Int) > 4096
 ·exact Ev.pos h (hj true (by simp; omega))
 ·refine Ev.neg h (hj _ ?_)
  simp only [decide_eq_true_eq]
  omega
end Go.Proofs.Ytgcncphdjabjjaa.X
