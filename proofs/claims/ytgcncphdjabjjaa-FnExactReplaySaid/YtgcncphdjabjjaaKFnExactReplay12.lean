import Derived.Test.YtgcncphdjabjjaaKFnExactReplay3
import Derived.Test.YtgcncphdjabjjaaKFnExactReplay6
import Derived.Test.YtgcncphdjabjjaaKFnExactReplay7
import Derived.Test.YtgcncphdjabjjaaKFnExactReplay8
import Derived.Test.YtgcncphdjabjjaaKFnExactReplay11
namespace Go.Proofs.Ytgcncphdjabjjaa.X
open Go.RowKit Go.Proofs.YtgcncphdjabjjaaW.PrintWords Go.Proofs.YtgcncphdjabjjaaW.PrintLast Go.Proofs.YtgcncphdjabjjaaW.PrintMore
attribute [local go_sem] qaC qaD qaE qay qaz qaN qaO qat qau qaA qaB
set_option linter.unusedVariables false
set_option linter.unusedSimpArgs false
mutual
def qaq.l0 : Nat → List (S76) → List (S76) → List (S82) → Int → Int → Option ((List (S76)) × Int)
 | 0, _, _, _, _, _ => none
 | k + 1, x0, x6, x13, x14, x15 => if x15 < x14 then (if 0 ≤ x15 then (if x15 < (x13.length : Int) then ((qbv.f ((qaf x13 x15).f0) ((qaf x13 x15).f1) ((qaf x13 x15).f2) ((qaf x13 x15).f3) ((qaf x13 x15).f4)).bind fun t494 => (if t494 = true then ((qbx.f x6 ((qaf x13 x15).f0)).bind fun bt498 => (if (bt498.2 != ((qaf x13 x15).f3)) = true then (qaq.j1 k x0 x6 x13 x14 x15 true ((qaf x13 x15).f0) ((qaf x13 x15).f1) ((qaf x13 x15).f2) ((qaf x13 x15).f3) ((qaf x13 x15).f4)) else (if bt498.2 = true then (if 0 ≤ bt498.1 then (if bt498.1 < (x6.length : Int) then (qaq.j1 k x0 x6 x13 x14 x15 (((qap x6 bt498.1).f1).toList != ((qaf x13 x15).f1).toList) ((qaf x13 x15).f0) ((qaf x13 x15).f1) ((qaf x13 x15).f2) ((qaf x13 x15).f3) ((qaf x13 x15).f4)) else (none)) else (none)) else (qaq.j1 k x0 x6 x13 x14 x15 false ((qaf x13 x15).f0) ((qaf x13 x15).f1) ((qaf x13 x15).f2) ((qaf x13 x15).f3) ((qaf x13 x15).f4))))) else ((qa1.f x0).bind fun t495 => (some (t495, 3))))) else (none)) else (none)) else (if (x6.length : Int) > 60 then ((qa1.f x0).bind fun t489 => (some (t489, 7))) else (some (x6, 0)))
def qaq.j1 : Nat → List (S76) → List (S76) → List (S82) → Int → Int → Bool → ByteArray → ByteArray → ByteArray → Bool → Bool → Option ((List (S76)) × Int)
 | 0, _, _, _, _, _, _, _, _, _, _, _ => none
 | k + 1, x0, x6, x13, x14, x15, x47, x494000, x494001, x494002, x494003, x494004 => if x47 = true then ((qa1.f x0).bind fun t501 => (some (t501, 18))) else (if x494004 = true then ((qca.f x6 x494000 x494002).bind fun t504 => (qaq.l0 k x0 t504 x13 x14 (wrap64 (x15 + 1)))) else ((qb5.f x6 x494000).bind fun t507 => (qaq.l0 k x0 t507 x13 x14 (wrap64 (x15 + 1)))))
end
def qaq.f (k : Nat) (l0 : List (S76)) (l1 : List (S82)) : Option ((List (S76)) × Int) := (qa1.f l0).bind fun t486 => (qaq.l0 k l0 t486 l1 (l1.length : Int) 0)
theorem qaq.qbm : ∀ k, (∀ y0 y1 y2 y3 y4, LeO (qaq.l0 k y0 y1 y2 y3 y4) (qaq.l0 (k + 1) y0 y1 y2 y3 y4)) ∧ (∀ y0 y1 y2 y3 y4 y5 y6 y7 y8 y9 y10, LeO (qaq.j1 k y0 y1 y2 y3 y4 y5 y6 y7 y8 y9 y10) (qaq.j1 (k + 1) y0 y1 y2 y3 y4 y5 y6 y7 y8 y9 y10))
 | 0 => ⟨fun _ _ _ _ _ r h => by simp [qaq.l0] at h, fun _ _ _ _ _ _ _ _ _ _ _ r h => by simp [qaq.j1] at h⟩
 | k + 1 => by
  obtain ⟨ih0, ih1⟩ := qaq.qbm k
  refine ⟨?_, ?_⟩
  ·intro y0 y1 y2 y3 y4
   unfold qaq.l0
   repeat' first
   | (with_reducible exact ih0 _ _ _ _ _)
   | (with_reducible exact ih1 _ _ _ _ _ _ _ _ _ _ _)
   | (with_reducible exact LeO.refl _)
   | (with_reducible exact LeO.none _)
   | (with_reducible refine LeO.ite ?_ ?_)
   | (with_reducible refine LeO.bind ?_ (fun _ => ?_))
   | exact ih0 _ _ _ _ _
   | exact ih1 _ _ _ _ _ _ _ _ _ _ _
   | exact LeO.none _
   | refine LeO.ite ?_ ?_
   | refine LeO.bind ?_ (fun _ => ?_)
  ·intro y0 y1 y2 y3 y4 y5 y6 y7 y8 y9 y10
   unfold qaq.j1
   repeat' first
   | (with_reducible exact ih0 _ _ _ _ _)
   | (with_reducible exact ih1 _ _ _ _ _ _ _ _ _ _ _)
   | (with_reducible exact LeO.refl _)
   | (with_reducible exact LeO.none _)
   | (with_reducible refine LeO.ite ?_ ?_)
   | (with_reducible refine LeO.bind ?_ (fun _ => ?_))
   | exact ih0 _ _ _ _ _
   | exact ih1 _ _ _ _ _ _ _ _ _ _ _
   | exact LeO.none _
   | refine LeO.ite ?_ ?_
   | refine LeO.bind ?_ (fun _ => ?_)
theorem qaq.mono : ∀ a0 a1 k, LeO (qaq.f k a0 a1) (qaq.f (k + 1) a0 a1) := by
 intro a0 a1 k
 obtain ⟨ih0, ih1⟩ := qaq.qbm k
 unfold qaq.f
 repeat' first
   | (with_reducible exact ih0 _ _ _ _ _)
   | (with_reducible exact ih1 _ _ _ _ _ _ _ _ _ _ _)
   | (with_reducible exact LeO.refl _)
   | (with_reducible exact LeO.none _)
   | (with_reducible refine LeO.ite ?_ ?_)
   | (with_reducible refine LeO.bind ?_ (fun _ => ?_))
   | exact ih0 _ _ _ _ _
   | exact ih1 _ _ _ _ _ _ _ _ _ _ _
   | exact LeO.none _
   | refine LeO.ite ?_ ?_
   | refine LeO.bind ?_ (fun _ => ?_)
set_option maxHeartbeats 8000000 in
set_option maxRecDepth 100000 in
theorem qaq.calls (k : Nat) (A0 : Option Addr) (c0 : Nat) (l0 : List (S76)) (A1 : Option Addr) (c1 : Nat) (l1 : List (S82)) (r1 : List (S76)) (r2 : Int) (w : World) (hr0 : Kd.C k76 w A0 l0.length l0) (hc0 : l0.length ≤ c0) (hr1 : Kd.C k82 w A1 l1.length l1) (hc1 : l1.length ≤ c1) (h : qaq.f k l0 l1 = some (r1, r2)) :
  Calls Try.prog 63 #[.slice A0 l0.length c0, .slice A1 l1.length c1] w fun e w' => ∃ v0_ : Value, e = .returned (.tuple #[v0_, .int .i64 r2]) ∧ Kd.R k76 76 w' w.heap.size (fun _ => True) v0_ r1 ∧ Below w.heap.size w w' := by
 have hu82 := Try.underlying82
 have HR0 := Aside0.mk hr0
 have HC0 := Aside0.mk hc0
 clear hr0 hc0
 have HR1 := Aside0.mk hr1
 have HC1 := Aside0.mk hc1
 clear hr1 hc1
 have HB := Aside0.mk (Below.refl w.heap.size w)
 have H : ((qa1.f l0).bind fun t486 => (qaq.l0 k l0 t486 l1 (l1.length : Int) 0)) = some (r1, r2) := h
 clear h
 replace H := Option.bind_eq_some_iff.mp H
 obtain ⟨t486, A30, H⟩ := H
 replace H : (qaq.l0 k l0 t486 l1 (l1.length : Int) 0) = some (r1, r2) := H
 have A3 := Aside0.mk A30
 clear A30
 have H' := Aside0.mk H
 clear H
 go_enter Try.func63, Try.ntmps63
 go_wp2_with (first | (go_at_call 90; (with_reducible refine (qa1.calls _ _ l0 t486 _ ?side1 ?side2 A3.out).mono ?_); (case side1 => repeat (first | exact HR0.out | (with_reducible refine Kd.qa6 ?_ _) | (with_reducible refine Kd.qa7 ?_ _) | (with_reducible refine Kd.qbj ?_))); (case side2 => exact HC0.out); rintro e w4 ⟨v487, rfl, ho0, hb⟩; have n0_ := Aside0.mk (Kd.qbp ho0 (qak (by repeat (first | (with_reducible first | exact HB.out | apply qac | apply qaa | apply qab) | exact HB.out)))); have n1_ := Aside0.mk (qag (by repeat (first | (with_reducible first | exact HB.out | apply qac | apply qaa | apply qab) | exact HB.out)) hb); clear HB; have HO488 := n0_; have HB := n1_; clear n0_ n1_; (try clear hb); (try clear hb2); (try clear hk); (try clear hi); (try clear ho0)))
 repeat (go_quiet (first | (go_at_call 90; (with_reducible refine (qa1.calls _ _ l0 t486 _ ?side1 ?side2 A3.out).mono ?_); (case side1 => repeat (first | exact HR0.out | (with_reducible refine Kd.qa6 ?_ _) | (with_reducible refine Kd.qa7 ?_ _) | (with_reducible refine Kd.qbj ?_))); (case side2 => exact HC0.out); rintro e w4 ⟨v487, rfl, ho0, hb⟩; have n0_ := Aside0.mk (Kd.qbp ho0 (qak (by repeat (first | (with_reducible first | exact HB.out | apply qac | apply qaa | apply qab) | exact HB.out)))); have n1_ := Aside0.mk (qag (by repeat (first | (with_reducible first | exact HB.out | apply qac | apply qaa | apply qab) | exact HB.out)) hb); clear HB; have HO488 := n0_; have HB := n1_; clear n0_ n1_; (try clear hb); (try clear hb2); (try clear hk); (try clear hi); (try clear ho0))); try go_wp2_with (first | (go_at_call 90; (with_reducible refine (qa1.calls _ _ l0 t486 _ ?side1 ?side2 A3.out).mono ?_); (case side1 => repeat (first | exact HR0.out | (with_reducible refine Kd.qa6 ?_ _) | (with_reducible refine Kd.qa7 ?_ _) | (with_reducible refine Kd.qbj ?_))); (case side2 => exact HC0.out); rintro e w4 ⟨v487, rfl, ho0, hb⟩; have n0_ := Aside0.mk (Kd.qbp ho0 (qak (by repeat (first | (with_reducible first | exact HB.out | apply qac | apply qaa | apply qab) | exact HB.out)))); have n1_ := Aside0.mk (qag (by repeat (first | (with_reducible first | exact HB.out | apply qac | apply qaa | apply qab) | exact HB.out)) hb); clear HB; have HO488 := n0_; have HB := n1_; clear n0_ n1_; (try clear hb); (try clear hb2); (try clear hk); (try clear hi); (try clear ho0))))
 go_loopg [6, 15] k (fun kq v6 v15 w' => ∃ (x6_1 : List (S76)) (x15_1 : Int), v15 = .int .i64 x15_1 ∧ Aside0 (qaq.l0 kq l0 x6_1 l1 (l1.length : Int) x15_1 = some (r1, r2)) ∧ Aside0 (kq ≤ k) ∧ Aside0 (Kd.R k76 76 w' w.heap.size (fun _ => True) v6 x6_1) ∧ Aside0 (Below w.heap.size w w'))
 case atStart => exact ⟨(t486), (0), (by first | rfl | (simp; done) | (simp [*]; done)), H', ⟨Nat.le_refl _⟩, ⟨by (with_reducible repeat (first | apply Kd.qaw | apply Kd.qax | apply Kd.qaI)); exact HO488.out⟩, ⟨by repeat (first | (with_reducible first | exact HB.out | apply qac | apply qaa | apply qab) | exact HB.out)⟩⟩
 case round =>
  clear H'
  try clear c1
  try clear p2
  obtain ⟨x6_1, x15_1, rfl, HA, HK1, HO_6, HB⟩ := hrel
  cases gk with
  | zero => exact absurd HA.out (by simp [qaq.l0])
  | succ k1 =>
   have H := HA.out
   clear HA
   simp only [qaq.l0] at H
   by_cases c5 : x15_1 < (l1.length : Int)
   ·rw [if_pos c5] at H
    have c5b0 : decide (x15_1 < (l1.length : Int)) = true := decide_eq_true c5
    clear c5
    by_cases c6 : 0 ≤ x15_1
    ·rw [if_pos c6] at H
     have c6b0 : decide (0 ≤ x15_1) = true := decide_eq_true c6
     clear c6
     by_cases c7 : x15_1 < (l1.length : Int)
     ·rw [if_pos c7] at H
      have c7b0 : decide (x15_1 < (l1.length : Int)) = true := decide_eq_true c7
      clear c7
      replace H := Option.bind_eq_some_iff.mp H
      obtain ⟨t494, A80, H⟩ := H
      replace H : (if t494 = true then ((qbx.f x6_1 ((qaf l1 x15_1).f0)).bind fun bt498 => (if (bt498.2 != ((qaf l1 x15_1).f3)) = true then (qaq.j1 k1 l0 x6_1 l1 (l1.length : Int) x15_1 true ((qaf l1 x15_1).f0) ((qaf l1 x15_1).f1) ((qaf l1 x15_1).f2) ((qaf l1 x15_1).f3) ((qaf l1 x15_1).f4)) else (if bt498.2 = true then (if 0 ≤ bt498.1 then (if bt498.1 < (x6_1.length : Int) then (qaq.j1 k1 l0 x6_1 l1 (l1.length : Int) x15_1 (((qap x6_1 bt498.1).f1).toList != ((qaf l1 x15_1).f1).toList) ((qaf l1 x15_1).f0) ((qaf l1 x15_1).f1) ((qaf l1 x15_1).f2) ((qaf l1 x15_1).f3) ((qaf l1 x15_1).f4)) else (none)) else (none)) else (qaq.j1 k1 l0 x6_1 l1 (l1.length : Int) x15_1 false ((qaf l1 x15_1).f0) ((qaf l1 x15_1).f1) ((qaf l1 x15_1).f2) ((qaf l1 x15_1).f3) ((qaf l1 x15_1).f4))))) else ((qa1.f l0).bind fun t495 => (some (t495, 3)))) = some (r1, r2) := H
      have A8 := Aside0.mk A80
      clear A80
      by_cases c9 : t494 = true
      ·subst c9
       have H1 : ((qbx.f x6_1 ((qaf l1 x15_1).f0)).bind fun bt498 => (if (bt498.2 != ((qaf l1 x15_1).f3)) = true then (qaq.j1 k1 l0 x6_1 l1 (l1.length : Int) x15_1 true ((qaf l1 x15_1).f0) ((qaf l1 x15_1).f1) ((qaf l1 x15_1).f2) ((qaf l1 x15_1).f3) ((qaf l1 x15_1).f4)) else (if bt498.2 = true then (if 0 ≤ bt498.1 then (if bt498.1 < (x6_1.length : Int) then (qaq.j1 k1 l0 x6_1 l1 (l1.length : Int) x15_1 (((qap x6_1 bt498.1).f1).toList != ((qaf l1 x15_1).f1).toList) ((qaf l1 x15_1).f0) ((qaf l1 x15_1).f1) ((qaf l1 x15_1).f2) ((qaf l1 x15_1).f3) ((qaf l1 x15_1).f4)) else (none)) else (none)) else (qaq.j1 k1 l0 x6_1 l1 (l1.length : Int) x15_1 false ((qaf l1 x15_1).f0) ((qaf l1 x15_1).f1) ((qaf l1 x15_1).f2) ((qaf l1 x15_1).f3) ((qaf l1 x15_1).f4))))) = some (r1, r2) := by rw [if_pos rfl] at H; exact H
       clear H
       have H := H1
       clear H1
       replace H := Option.bind_eq_some_iff.mp H
       obtain ⟨⟨t498, t499⟩, A100, H⟩ := H
       replace H : (if (t499 != ((qaf l1 x15_1).f3)) = true then (qaq.j1 k1 l0 x6_1 l1 (l1.length : Int) x15_1 true ((qaf l1 x15_1).f0) ((qaf l1 x15_1).f1) ((qaf l1 x15_1).f2) ((qaf l1 x15_1).f3) ((qaf l1 x15_1).f4)) else (if t499 = true then (if 0 ≤ t498 then (if t498 < (x6_1.length : Int) then (qaq.j1 k1 l0 x6_1 l1 (l1.length : Int) x15_1 (((qap x6_1 t498).f1).toList != ((qaf l1 x15_1).f1).toList) ((qaf l1 x15_1).f0) ((qaf l1 x15_1).f1) ((qaf l1 x15_1).f2) ((qaf l1 x15_1).f3) ((qaf l1 x15_1).f4)) else (none)) else (none)) else (qaq.j1 k1 l0 x6_1 l1 (l1.length : Int) x15_1 false ((qaf l1 x15_1).f0) ((qaf l1 x15_1).f1) ((qaf l1 x15_1).f2) ((qaf l1 x15_1).f3) ((qaf l1 x15_1).f4)))) = some (r1, r2) := H
       have A10 := Aside0.mk A100
       clear A100
       have HC11 := Aside0.mk H
       clear H
       have p492 : 0 ≤ (x15_1 : Int) := of_decide_eq_true (by first | (with_reducible assumption) | assumption)
       have q492 : x15_1 < (l1.length : Int) := of_decide_eq_true (by first | (with_reducible assumption) | assumption)
       obtain ⟨ad492, e492, hx492_0, hx492_1, hx492_2, hx492_3, hx492_4⟩ := qc9 HR1.out x15_1 p492 q492
       cases e492
       replace hx492_0 := (HB.out.cell (World.block_lt_of_cell? w _ hx492_0)).trans hx492_0
       replace hx492_1 := (HB.out.cell (World.block_lt_of_cell? w _ hx492_1)).trans hx492_1
       replace hx492_2 := (HB.out.cell (World.block_lt_of_cell? w _ hx492_2)).trans hx492_2
       replace hx492_3 := (HB.out.cell (World.block_lt_of_cell? w _ hx492_3)).trans hx492_3
       replace hx492_4 := (HB.out.cell (World.block_lt_of_cell? w _ hx492_4)).trans hx492_4
       replace p492 := eq_true p492
       replace q492 := eq_true q492
       go_upto_region 8 with (first | ((with_reducible refine qaH (N := 8) rfl ?_); refine qaF ?hg (N := 8) ?hd (cs := #[.string (⟨#[]⟩ : ByteArray), .string (⟨#[]⟩ : ByteArray), .string (⟨#[]⟩ : ByteArray), .bool false, .bool false]) (t := 82) ?hr ?_; (case hd => rfl); (case hg => rfl); (case hr => first | (go_simp; done) | (go_simp; rfl)); intro gb493 hg w12 hbox hb; have n0_ := Aside0.mk (Kd.qaR (by (with_reducible repeat (first | apply Kd.qaw | apply Kd.qax | apply Kd.qaI)); exact HO_6.out) hb); have n1_ := Aside0.mk (qag (by repeat (first | (with_reducible first | exact HB.out | apply qac | apply qaa | apply qab) | exact HB.out)) hb); have n2_ := Aside0.mk (hbox); have n3_ := Aside0.mk ((by rw [hg]; exact (qak (by repeat (first | (with_reducible first | exact HB.out | apply qac | apply qaa | apply qab) | exact HB.out))) : w.heap.size ≤ gb493)); have n4_ := Aside0.mk ((by rw [hg]; exact (qak (by repeat (first | (with_reducible first | exact HB.out | apply qac | apply qaa | apply qab) | exact HB.out))) : w.heap.size ≤ gb493)); clear HO_6; clear HB; have HO_6 := n0_; have HB := n1_; have BK493 := n2_; have GW493 := n3_; have GE493 := n4_; clear n0_ n1_ n2_ n3_ n4_; clear hb hbox hg; have hcz13_0 : w12.cell? ⟨gb493, 0, none⟩ = some (.string (⟨#[]⟩ : ByteArray)) := (qad BK493.out 0).trans rfl; have hcz13_1 : w12.cell? ⟨gb493, 1, none⟩ = some (.string (⟨#[]⟩ : ByteArray)) := (qad BK493.out 1).trans rfl; have hcz13_2 : w12.cell? ⟨gb493, 2, none⟩ = some (.string (⟨#[]⟩ : ByteArray)) := (qad BK493.out 2).trans rfl; have hcz13_3 : w12.cell? ⟨gb493, 3, none⟩ = some (.bool false) := (qad BK493.out 3).trans rfl; have hcz13_4 : w12.cell? ⟨gb493, 4, none⟩ = some (.bool false) := (qad BK493.out 4).trans rfl; have hfz13_0 := qae BK493.out 0; have hfz13_1 := qae BK493.out 1; have hfz13_2 := qae BK493.out 2; have hfz13_3 := qae BK493.out 3; have hfz13_4 := qae BK493.out 4) | (go_at_call 68; (with_reducible refine (qbv.calls ((qaf l1 x15_1).f0) ((qaf l1 x15_1).f1) ((qaf l1 x15_1).f2) ((qaf l1 x15_1).f3) ((qaf l1 x15_1).f4) true _ A8.out).mono ?_); rintro e w14 ⟨rfl, hb⟩; have n0_ := Aside0.mk (Kd.qaR (by (with_reducible repeat (first | apply Kd.qaw | apply Kd.qax | apply Kd.qaI)); exact (Kd.qbs (Kd.qcp (p := ⟨gb493, 4, none⟩) (Kd.qcp (p := ⟨gb493, 3, none⟩) (Kd.qcp (p := ⟨gb493, 2, none⟩) (Kd.qcp (p := ⟨gb493, 1, none⟩) (Kd.qcp (p := ⟨gb493, 0, none⟩) (Kd.qcu HO_6.out BK493.out (by decide)) (fun _ hk => hk.2) (.string ((qaf l1 x15_1).f0))) (fun _ hk => hk.2) (.string ((qaf l1 x15_1).f1))) (fun _ hk => hk.2) (.string ((qaf l1 x15_1).f2))) (fun _ hk => hk.2) (.bool ((qaf l1 x15_1).f3))) (fun _ hk => hk.2) (.bool ((qaf l1 x15_1).f4))) (fun _ h_ => h_.1))) hb); have n1_ := Aside0.mk (qao (g := gb493) (o := .cells #[.string ((qaf l1 x15_1).f0), .string ((qaf l1 x15_1).f1), .string ((qaf l1 x15_1).f2), .bool ((qaf l1 x15_1).f3), .bool ((qaf l1 x15_1).f4)] 82 (0, 0)) (by (with_reducible repeat (first | refine qaj ?_ _ | refine qal ?_ | refine qai ?_ _)); refine qaW (cs := #[.string ((qaf l1 x15_1).f0), .string ((qaf l1 x15_1).f1), .string ((qaf l1 x15_1).f2), .bool ((qaf l1 x15_1).f3), .bool false]) ?_ 4 _ rfl; (with_reducible repeat (first | refine qaj ?_ _ | refine qal ?_ | refine qai ?_ _)); refine qaW (cs := #[.string ((qaf l1 x15_1).f0), .string ((qaf l1 x15_1).f1), .string ((qaf l1 x15_1).f2), .bool false, .bool false]) ?_ 3 _ rfl; (with_reducible repeat (first | refine qaj ?_ _ | refine qal ?_ | refine qai ?_ _)); refine qaW (cs := #[.string ((qaf l1 x15_1).f0), .string ((qaf l1 x15_1).f1), .string (⟨#[]⟩ : ByteArray), .bool false, .bool false]) ?_ 2 _ rfl; (with_reducible repeat (first | refine qaj ?_ _ | refine qal ?_ | refine qai ?_ _)); refine qaW (cs := #[.string ((qaf l1 x15_1).f0), .string (⟨#[]⟩ : ByteArray), .string (⟨#[]⟩ : ByteArray), .bool false, .bool false]) ?_ 1 _ rfl; (with_reducible repeat (first | refine qaj ?_ _ | refine qal ?_ | refine qai ?_ _)); refine qaW (cs := #[.string (⟨#[]⟩ : ByteArray), .string (⟨#[]⟩ : ByteArray), .string (⟨#[]⟩ : ByteArray), .bool false, .bool false]) ?_ 0 _ rfl; (with_reducible repeat (first | refine qaj ?_ _ | refine qal ?_ | refine qai ?_ _)); exact BK493.out) hb); have n2_ := Aside0.mk (qag (by repeat (first | (with_reducible first | exact HB.out | apply qac | apply qaa | apply qab | refine qah ?_ GE493.out) | exact HB.out)) hb); clear HO_6; clear BK493; clear HB; have HO_6 := n0_; have BK493 := n1_; have HB := n2_; clear n0_ n1_ n2_; (try clear hb); (try clear hb2); (try clear hk); (try clear hi); have hcz15_0 : w14.cell? ⟨gb493, 0, none⟩ = some (.string ((qaf l1 x15_1).f0)) := (qad BK493.out 0).trans rfl; have hcz15_1 : w14.cell? ⟨gb493, 1, none⟩ = some (.string ((qaf l1 x15_1).f1)) := (qad BK493.out 1).trans rfl; have hcz15_2 : w14.cell? ⟨gb493, 2, none⟩ = some (.string ((qaf l1 x15_1).f2)) := (qad BK493.out 2).trans rfl; have hcz15_3 : w14.cell? ⟨gb493, 3, none⟩ = some (.bool ((qaf l1 x15_1).f3)) := (qad BK493.out 3).trans rfl; have hcz15_4 : w14.cell? ⟨gb493, 4, none⟩ = some (.bool ((qaf l1 x15_1).f4)) := (qad BK493.out 4).trans rfl; have hfz15_0 := qae BK493.out 0; have hfz15_1 := qae BK493.out 1; have hfz15_2 := qae BK493.out 2; have hfz15_3 := qae BK493.out 3; have hfz15_4 := qae BK493.out 4; obtain ⟨Ao16, co16, eo16⟩ := Kd.qbN HO_6.out; subst eo16) | (go_at_call 91; (with_reducible refine (qbx.calls _ _ x6_1 ((qaf l1 x15_1).f0) t498 t499 _ ?side1 ?side2 A10.out).mono ?_); (case side1 => repeat (first | exact (Kd.qaM HO_6.out).2.2 | (with_reducible refine Kd.qa6 ?_ _) | (with_reducible refine Kd.qa7 ?_ _) | (with_reducible refine Kd.qbj ?_))); (case side2 => exact (Kd.qaM HO_6.out).2.1); rintro e w17 ⟨rfl, hb⟩; have n0_ := Aside0.mk (Kd.qaR (by (with_reducible repeat (first | apply Kd.qaw | apply Kd.qax | apply Kd.qaI)); exact HO_6.out) hb); have n1_ := Aside0.mk (qao (g := gb493) (o := .cells #[.string ((qaf l1 x15_1).f0), .string ((qaf l1 x15_1).f1), .string ((qaf l1 x15_1).f2), .bool ((qaf l1 x15_1).f3), .bool ((qaf l1 x15_1).f4)] 82 (0, 0)) (by (with_reducible repeat (first | refine qaj ?_ _ | refine qal ?_ | refine qai ?_ _)); exact BK493.out) hb); have n2_ := Aside0.mk (qag (by repeat (first | (with_reducible first | exact HB.out | apply qac | apply qaa | apply qab | refine qah ?_ GE493.out) | exact HB.out)) hb); clear HO_6; clear BK493; clear HB; have HO_6 := n0_; have BK493 := n1_; have HB := n2_; clear n0_ n1_ n2_; (try clear hb); (try clear hb2); (try clear hk); (try clear hi)))
       repeat (go_quiet (first | ((with_reducible refine qaH (N := 8) rfl ?_); refine qaF ?hg (N := 8) ?hd (cs := #[.string (⟨#[]⟩ : ByteArray), .string (⟨#[]⟩ : ByteArray), .string (⟨#[]⟩ : ByteArray), .bool false, .bool false]) (t := 82) ?hr ?_; (case hd => rfl); (case hg => rfl); (case hr => first | (go_simp; done) | (go_simp; rfl)); intro gb493 hg w12 hbox hb; have n0_ := Aside0.mk (Kd.qaR (by (with_reducible repeat (first | apply Kd.qaw | apply Kd.qax | apply Kd.qaI)); exact HO_6.out) hb); have n1_ := Aside0.mk (qag (by repeat (first | (with_reducible first | exact HB.out | apply qac | apply qaa | apply qab) | exact HB.out)) hb); have n2_ := Aside0.mk (hbox); have n3_ := Aside0.mk ((by rw [hg]; exact (qak (by repeat (first | (with_reducible first | exact HB.out | apply qac | apply qaa | apply qab) | exact HB.out))) : w.heap.size ≤ gb493)); have n4_ := Aside0.mk ((by rw [hg]; exact (qak (by repeat (first | (with_reducible first | exact HB.out | apply qac | apply qaa | apply qab) | exact HB.out))) : w.heap.size ≤ gb493)); clear HO_6; clear HB; have HO_6 := n0_; have HB := n1_; have BK493 := n2_; have GW493 := n3_; have GE493 := n4_; clear n0_ n1_ n2_ n3_ n4_; clear hb hbox hg; have hcz13_0 : w12.cell? ⟨gb493, 0, none⟩ = some (.string (⟨#[]⟩ : ByteArray)) := (qad BK493.out 0).trans rfl; have hcz13_1 : w12.cell? ⟨gb493, 1, none⟩ = some (.string (⟨#[]⟩ : ByteArray)) := (qad BK493.out 1).trans rfl; have hcz13_2 : w12.cell? ⟨gb493, 2, none⟩ = some (.string (⟨#[]⟩ : ByteArray)) := (qad BK493.out 2).trans rfl; have hcz13_3 : w12.cell? ⟨gb493, 3, none⟩ = some (.bool false) := (qad BK493.out 3).trans rfl; have hcz13_4 : w12.cell? ⟨gb493, 4, none⟩ = some (.bool false) := (qad BK493.out 4).trans rfl; have hfz13_0 := qae BK493.out 0; have hfz13_1 := qae BK493.out 1; have hfz13_2 := qae BK493.out 2; have hfz13_3 := qae BK493.out 3; have hfz13_4 := qae BK493.out 4) | (go_at_call 68; (with_reducible refine (qbv.calls ((qaf l1 x15_1).f0) ((qaf l1 x15_1).f1) ((qaf l1 x15_1).f2) ((qaf l1 x15_1).f3) ((qaf l1 x15_1).f4) true _ A8.out).mono ?_); rintro e w14 ⟨rfl, hb⟩; have n0_ := Aside0.mk (Kd.qaR (by (with_reducible repeat (first | apply Kd.qaw | apply Kd.qax | apply Kd.qaI)); exact (Kd.qbs (Kd.qcp (p := ⟨gb493, 4, none⟩) (Kd.qcp (p := ⟨gb493, 3, none⟩) (Kd.qcp (p := ⟨gb493, 2, none⟩) (Kd.qcp (p := ⟨gb493, 1, none⟩) (Kd.qcp (p := ⟨gb493, 0, none⟩) (Kd.qcu HO_6.out BK493.out (by decide)) (fun _ hk => hk.2) (.string ((qaf l1 x15_1).f0))) (fun _ hk => hk.2) (.string ((qaf l1 x15_1).f1))) (fun _ hk => hk.2) (.string ((qaf l1 x15_1).f2))) (fun _ hk => hk.2) (.bool ((qaf l1 x15_1).f3))) (fun _ hk => hk.2) (.bool ((qaf l1 x15_1).f4))) (fun _ h_ => h_.1))) hb); have n1_ := Aside0.mk (qao (g := gb493) (o := .cells #[.string ((qaf l1 x15_1).f0), .string ((qaf l1 x15_1).f1), .string ((qaf l1 x15_1).f2), .bool ((qaf l1 x15_1).f3), .bool ((qaf l1 x15_1).f4)] 82 (0, 0)) (by (with_reducible repeat (first | refine qaj ?_ _ | refine qal ?_ | refine qai ?_ _)); refine qaW (cs := #[.string ((qaf l1 x15_1).f0), .string ((qaf l1 x15_1).f1), .string ((qaf l1 x15_1).f2), .bool ((qaf l1 x15_1).f3), .bool false]) ?_ 4 _ rfl; (with_reducible repeat (first | refine qaj ?_ _ | refine qal ?_ | refine qai ?_ _)); refine qaW (cs := #[.string ((qaf l1 x15_1).f0), .string ((qaf l1 x15_1).f1), .string ((qaf l1 x15_1).f2), .bool false, .bool false]) ?_ 3 _ rfl; (with_reducible repeat (first | refine qaj ?_ _ | refine qal ?_ | refine qai ?_ _)); refine qaW (cs := #[.string ((qaf l1 x15_1).f0), .string ((qaf l1 x15_1).f1), .string (⟨#[]⟩ : ByteArray), .bool false, .bool false]) ?_ 2 _ rfl; (with_reducible repeat (first | refine qaj ?_ _ | refine qal ?_ | refine qai ?_ _)); refine qaW (cs := #[.string ((qaf l1 x15_1).f0), .string (⟨#[]⟩ : ByteArray), .string (⟨#[]⟩ : ByteArray), .bool false, .bool false]) ?_ 1 _ rfl; (with_reducible repeat (first | refine qaj ?_ _ | refine qal ?_ | refine qai ?_ _)); refine qaW (cs := #[.string (⟨#[]⟩ : ByteArray), .string (⟨#[]⟩ : ByteArray), .string (⟨#[]⟩ : ByteArray), .bool false, .bool false]) ?_ 0 _ rfl; (with_reducible repeat (first | refine qaj ?_ _ | refine qal ?_ | refine qai ?_ _)); exact BK493.out) hb); have n2_ := Aside0.mk (qag (by repeat (first | (with_reducible first | exact HB.out | apply qac | apply qaa | apply qab | refine qah ?_ GE493.out) | exact HB.out)) hb); clear HO_6; clear BK493; clear HB; have HO_6 := n0_; have BK493 := n1_; have HB := n2_; clear n0_ n1_ n2_; (try clear hb); (try clear hb2); (try clear hk); (try clear hi); have hcz15_0 : w14.cell? ⟨gb493, 0, none⟩ = some (.string ((qaf l1 x15_1).f0)) := (qad BK493.out 0).trans rfl; have hcz15_1 : w14.cell? ⟨gb493, 1, none⟩ = some (.string ((qaf l1 x15_1).f1)) := (qad BK493.out 1).trans rfl; have hcz15_2 : w14.cell? ⟨gb493, 2, none⟩ = some (.string ((qaf l1 x15_1).f2)) := (qad BK493.out 2).trans rfl; have hcz15_3 : w14.cell? ⟨gb493, 3, none⟩ = some (.bool ((qaf l1 x15_1).f3)) := (qad BK493.out 3).trans rfl; have hcz15_4 : w14.cell? ⟨gb493, 4, none⟩ = some (.bool ((qaf l1 x15_1).f4)) := (qad BK493.out 4).trans rfl; have hfz15_0 := qae BK493.out 0; have hfz15_1 := qae BK493.out 1; have hfz15_2 := qae BK493.out 2; have hfz15_3 := qae BK493.out 3; have hfz15_4 := qae BK493.out 4; obtain ⟨Ao16, co16, eo16⟩ := Kd.qbN HO_6.out; subst eo16) | (go_at_call 91; (with_reducible refine (qbx.calls _ _ x6_1 ((qaf l1 x15_1).f0) t498 t499 _ ?side1 ?side2 A10.out).mono ?_); (case side1 => repeat (first | exact (Kd.qaM HO_6.out).2.2 | (with_reducible refine Kd.qa6 ?_ _) | (with_reducible refine Kd.qa7 ?_ _) | (with_reducible refine Kd.qbj ?_))); (case side2 => exact (Kd.qaM HO_6.out).2.1); rintro e w17 ⟨rfl, hb⟩; have n0_ := Aside0.mk (Kd.qaR (by (with_reducible repeat (first | apply Kd.qaw | apply Kd.qax | apply Kd.qaI)); exact HO_6.out) hb); have n1_ := Aside0.mk (qao (g := gb493) (o := .cells #[.string ((qaf l1 x15_1).f0), .string ((qaf l1 x15_1).f1), .string ((qaf l1 x15_1).f2), .bool ((qaf l1 x15_1).f3), .bool ((qaf l1 x15_1).f4)] 82 (0, 0)) (by (with_reducible repeat (first | refine qaj ?_ _ | refine qal ?_ | refine qai ?_ _)); exact BK493.out) hb); have n2_ := Aside0.mk (qag (by repeat (first | (with_reducible first | exact HB.out | apply qac | apply qaa | apply qab | refine qah ?_ GE493.out) | exact HB.out)) hb); clear HO_6; clear BK493; clear HB; have HO_6 := n0_; have BK493 := n1_; have HB := n2_; clear n0_ n1_ n2_; (try clear hb); (try clear hb2); (try clear hk); (try clear hi))); go_upto_region 8 with (first | ((with_reducible refine qaH (N := 8) rfl ?_); refine qaF ?hg (N := 8) ?hd (cs := #[.string (⟨#[]⟩ : ByteArray), .string (⟨#[]⟩ : ByteArray), .string (⟨#[]⟩ : ByteArray), .bool false, .bool false]) (t := 82) ?hr ?_; (case hd => rfl); (case hg => rfl); (case hr => first | (go_simp; done) | (go_simp; rfl)); intro gb493 hg w12 hbox hb; have n0_ := Aside0.mk (Kd.qaR (by (with_reducible repeat (first | apply Kd.qaw | apply Kd.qax | apply Kd.qaI)); exact HO_6.out) hb); have n1_ := Aside0.mk (qag (by repeat (first | (with_reducible first | exact HB.out | apply qac | apply qaa | apply qab) | exact HB.out)) hb); have n2_ := Aside0.mk (hbox); have n3_ := Aside0.mk ((by rw [hg]; exact (qak (by repeat (first | (with_reducible first | exact HB.out | apply qac | apply qaa | apply qab) | exact HB.out))) : w.heap.size ≤ gb493)); have n4_ := Aside0.mk ((by rw [hg]; exact (qak (by repeat (first | (with_reducible first | exact HB.out | apply qac | apply qaa | apply qab) | exact HB.out))) : w.heap.size ≤ gb493)); clear HO_6; clear HB; have HO_6 := n0_; have HB := n1_; have BK493 := n2_; have GW493 := n3_; have GE493 := n4_; clear n0_ n1_ n2_ n3_ n4_; clear hb hbox hg; have hcz13_0 : w12.cell? ⟨gb493, 0, none⟩ = some (.string (⟨#[]⟩ : ByteArray)) := (qad BK493.out 0).trans rfl; have hcz13_1 : w12.cell? ⟨gb493, 1, none⟩ = some (.string (⟨#[]⟩ : ByteArray)) := (qad BK493.out 1).trans rfl; have hcz13_2 : w12.cell? ⟨gb493, 2, none⟩ = some (.string (⟨#[]⟩ : ByteArray)) := (qad BK493.out 2).trans rfl; have hcz13_3 : w12.cell? ⟨gb493, 3, none⟩ = some (.bool false) := (qad BK493.out 3).trans rfl; have hcz13_4 : w12.cell? ⟨gb493, 4, none⟩ = some (.bool false) := (qad BK493.out 4).trans rfl; have hfz13_0 := qae BK493.out 0; have hfz13_1 := qae BK493.out 1; have hfz13_2 := qae BK493.out 2; have hfz13_3 := qae BK493.out 3; have hfz13_4 := qae BK493.out 4) | (go_at_call 68; (with_reducible refine (qbv.calls ((qaf l1 x15_1).f0) ((qaf l1 x15_1).f1) ((qaf l1 x15_1).f2) ((qaf l1 x15_1).f3) ((qaf l1 x15_1).f4) true _ A8.out).mono ?_); rintro e w14 ⟨rfl, hb⟩; have n0_ := Aside0.mk (Kd.qaR (by (with_reducible repeat (first | apply Kd.qaw | apply Kd.qax | apply Kd.qaI)); exact (Kd.qbs (Kd.qcp (p := ⟨gb493, 4, none⟩) (Kd.qcp (p := ⟨gb493, 3, none⟩) (Kd.qcp (p := ⟨gb493, 2, none⟩) (Kd.qcp (p := ⟨gb493, 1, none⟩) (Kd.qcp (p := ⟨gb493, 0, none⟩) (Kd.qcu HO_6.out BK493.out (by decide)) (fun _ hk => hk.2) (.string ((qaf l1 x15_1).f0))) (fun _ hk => hk.2) (.string ((qaf l1 x15_1).f1))) (fun _ hk => hk.2) (.string ((qaf l1 x15_1).f2))) (fun _ hk => hk.2) (.bool ((qaf l1 x15_1).f3))) (fun _ hk => hk.2) (.bool ((qaf l1 x15_1).f4))) (fun _ h_ => h_.1))) hb); have n1_ := Aside0.mk (qao (g := gb493) (o := .cells #[.string ((qaf l1 x15_1).f0), .string ((qaf l1 x15_1).f1), .string ((qaf l1 x15_1).f2), .bool ((qaf l1 x15_1).f3), .bool ((qaf l1 x15_1).f4)] 82 (0, 0)) (by (with_reducible repeat (first | refine qaj ?_ _ | refine qal ?_ | refine qai ?_ _)); refine qaW (cs := #[.string ((qaf l1 x15_1).f0), .string ((qaf l1 x15_1).f1), .string ((qaf l1 x15_1).f2), .bool ((qaf l1 x15_1).f3), .bool false]) ?_ 4 _ rfl; (with_reducible repeat (first | refine qaj ?_ _ | refine qal ?_ | refine qai ?_ _)); refine qaW (cs := #[.string ((qaf l1 x15_1).f0), .string ((qaf l1 x15_1).f1), .string ((qaf l1 x15_1).f2), .bool false, .bool false]) ?_ 3 _ rfl; (with_reducible repeat (first | refine qaj ?_ _ | refine qal ?_ | refine qai ?_ _)); refine qaW (cs := #[.string ((qaf l1 x15_1).f0), .string ((qaf l1 x15_1).f1), .string (⟨#[]⟩ : ByteArray), .bool false, .bool false]) ?_ 2 _ rfl; (with_reducible repeat (first | refine qaj ?_ _ | refine qal ?_ | refine qai ?_ _)); refine qaW (cs := #[.string ((qaf l1 x15_1).f0), .string (⟨#[]⟩ : ByteArray), .string (⟨#[]⟩ : ByteArray), .bool false, .bool false]) ?_ 1 _ rfl; (with_reducible repeat (first | refine qaj ?_ _ | refine qal ?_ | refine qai ?_ _)); refine qaW (cs := #[.string (⟨#[]⟩ : ByteArray), .string (⟨#[]⟩ : ByteArray), .string (⟨#[]⟩ : ByteArray), .bool false, .bool false]) ?_ 0 _ rfl; (with_reducible repeat (first | refine qaj ?_ _ | refine qal ?_ | refine qai ?_ _)); exact BK493.out) hb); have n2_ := Aside0.mk (qag (by repeat (first | (with_reducible first | exact HB.out | apply qac | apply qaa | apply qab | refine qah ?_ GE493.out) | exact HB.out)) hb); clear HO_6; clear BK493; clear HB; have HO_6 := n0_; have BK493 := n1_; have HB := n2_; clear n0_ n1_ n2_; (try clear hb); (try clear hb2); (try clear hk); (try clear hi); have hcz15_0 : w14.cell? ⟨gb493, 0, none⟩ = some (.string ((qaf l1 x15_1).f0)) := (qad BK493.out 0).trans rfl; have hcz15_1 : w14.cell? ⟨gb493, 1, none⟩ = some (.string ((qaf l1 x15_1).f1)) := (qad BK493.out 1).trans rfl; have hcz15_2 : w14.cell? ⟨gb493, 2, none⟩ = some (.string ((qaf l1 x15_1).f2)) := (qad BK493.out 2).trans rfl; have hcz15_3 : w14.cell? ⟨gb493, 3, none⟩ = some (.bool ((qaf l1 x15_1).f3)) := (qad BK493.out 3).trans rfl; have hcz15_4 : w14.cell? ⟨gb493, 4, none⟩ = some (.bool ((qaf l1 x15_1).f4)) := (qad BK493.out 4).trans rfl; have hfz15_0 := qae BK493.out 0; have hfz15_1 := qae BK493.out 1; have hfz15_2 := qae BK493.out 2; have hfz15_3 := qae BK493.out 3; have hfz15_4 := qae BK493.out 4; obtain ⟨Ao16, co16, eo16⟩ := Kd.qbN HO_6.out; subst eo16) | (go_at_call 91; (with_reducible refine (qbx.calls _ _ x6_1 ((qaf l1 x15_1).f0) t498 t499 _ ?side1 ?side2 A10.out).mono ?_); (case side1 => repeat (first | exact (Kd.qaM HO_6.out).2.2 | (with_reducible refine Kd.qa6 ?_ _) | (with_reducible refine Kd.qa7 ?_ _) | (with_reducible refine Kd.qbj ?_))); (case side2 => exact (Kd.qaM HO_6.out).2.1); rintro e w17 ⟨rfl, hb⟩; have n0_ := Aside0.mk (Kd.qaR (by (with_reducible repeat (first | apply Kd.qaw | apply Kd.qax | apply Kd.qaI)); exact HO_6.out) hb); have n1_ := Aside0.mk (qao (g := gb493) (o := .cells #[.string ((qaf l1 x15_1).f0), .string ((qaf l1 x15_1).f1), .string ((qaf l1 x15_1).f2), .bool ((qaf l1 x15_1).f3), .bool ((qaf l1 x15_1).f4)] 82 (0, 0)) (by (with_reducible repeat (first | refine qaj ?_ _ | refine qal ?_ | refine qai ?_ _)); exact BK493.out) hb); have n2_ := Aside0.mk (qag (by repeat (first | (with_reducible first | exact HB.out | apply qac | apply qaa | apply qab | refine qah ?_ GE493.out) | exact HB.out)) hb); clear HO_6; clear BK493; clear HB; have HO_6 := n0_; have BK493 := n1_; have HB := n2_; clear n0_ n1_ n2_; (try clear hb); (try clear hb2); (try clear hk); (try clear hi))))
       (try simp only [Act.put, List.setIfInBounds_toArray, List.set_cons_zero, List.set_cons_succ])
       go_cut [47] (fun v47 wc => ∃ (kq : Nat) (x47_10 : Bool), v47 = .bool x47_10 ∧ Aside0 (qaq.j1 kq l0 x6_1 l1 (l1.length : Int) x15_1 x47_10 ((qaf l1 x15_1).f0) ((qaf l1 x15_1).f1) ((qaf l1 x15_1).f2) ((qaf l1 x15_1).f3) ((qaf l1 x15_1).f4) = some (r1, r2)) ∧ Aside0 (kq ≤ k1) ∧ Aside0 (Kd.R k76 76 wc w.heap.size (fun _ => True) (.slice Ao16 x6_1.length co16) x6_1) ∧ Aside0 (wc.heap[gb493]? = some (.cells #[.string ((qaf l1 x15_1).f0), .string ((qaf l1 x15_1).f1), .string ((qaf l1 x15_1).f2), .bool ((qaf l1 x15_1).f3), .bool ((qaf l1 x15_1).f4)] 82 (0, 0))) ∧ Aside0 (Below w.heap.size w wc))
       case first =>
        have H := HC11.out
        clear HC11
        by_cases c18 : (t499 != ((qaf l1 x15_1).f3)) = true
        ·rw [if_pos c18] at H
         have c18b0 : (t499 != ((qaf l1 x15_1).f3)) = true := c18
         (try (have c18b1 : decide (t499 = ((qaf l1 x15_1).f3)) = false := by simpa using c18))
         (try (have c18b2 : (t499 == ((qaf l1 x15_1).f3)) = false := by simpa using c18))
         (try (have c18b3 : ¬ (t499 = ((qaf l1 x15_1).f3)) := by simpa using c18))
         clear c18
         (first | rw [c18b0] | (simp only [qbS, qb0]; rw [c18b0]) | skip)
         have H' := Aside0.mk H
         clear H
         have hcz19_0 : w17.cell? ⟨gb493, 0, none⟩ = some (.string ((qaf l1 x15_1).f0)) := (qad BK493.out 0).trans rfl
         have hcz19_1 : w17.cell? ⟨gb493, 1, none⟩ = some (.string ((qaf l1 x15_1).f1)) := (qad BK493.out 1).trans rfl
         have hcz19_2 : w17.cell? ⟨gb493, 2, none⟩ = some (.string ((qaf l1 x15_1).f2)) := (qad BK493.out 2).trans rfl
         have hcz19_3 : w17.cell? ⟨gb493, 3, none⟩ = some (.bool ((qaf l1 x15_1).f3)) := (qad BK493.out 3).trans rfl
         have hcz19_4 : w17.cell? ⟨gb493, 4, none⟩ = some (.bool ((qaf l1 x15_1).f4)) := (qad BK493.out 4).trans rfl
         have hfz19_0 := qae BK493.out 0
         have hfz19_1 := qae BK493.out 1
         have hfz19_2 := qae BK493.out 2
         have hfz19_3 := qae BK493.out 3
         have hfz19_4 := qae BK493.out 4
         go_wp2
         repeat (go_quiet (fail); try go_wp2)
         go_meet
         case rel => exact ⟨_, (true), (by first | rfl | (simp; done) | (simp [*]; done)), H', ⟨by have := HK1.out; first | omega | exact Nat.le_refl _⟩, ⟨by (with_reducible repeat (first | apply Kd.qaw | apply Kd.qax | apply Kd.qaI)); exact HO_6.out⟩, ⟨by (with_reducible repeat (first | refine qaj ?_ _ | refine qal ?_ | refine qai ?_ _)); exact BK493.out⟩, ⟨by repeat (first | (with_reducible first | exact HB.out | apply qac | apply qaa | apply qab | refine qah ?_ GE493.out) | exact HB.out)⟩⟩
        ·rw [if_neg c18] at H
         have c18b0 : (t499 != ((qaf l1 x15_1).f3)) = false := by simpa using c18
         (try (have c18b1 : decide (t499 = ((qaf l1 x15_1).f3)) = true := by simpa using c18))
         (try (have c18b2 : (t499 == ((qaf l1 x15_1).f3)) = true := by simpa using c18))
         clear c18
         (first | rw [c18b0] | (simp only [qbS, qb0]; rw [c18b0]) | skip)
         by_cases c20 : t499 = true
         ·subst c20
          have H1 : (if 0 ≤ t498 then (if t498 < (x6_1.length : Int) then (qaq.j1 k1 l0 x6_1 l1 (l1.length : Int) x15_1 (((qap x6_1 t498).f1).toList != ((qaf l1 x15_1).f1).toList) ((qaf l1 x15_1).f0) ((qaf l1 x15_1).f1) ((qaf l1 x15_1).f2) ((qaf l1 x15_1).f3) ((qaf l1 x15_1).f4)) else (none)) else (none)) = some (r1, r2) := by rw [if_pos rfl] at H; exact H
          clear H
          have H := H1
          clear H1
          by_cases c21 : 0 ≤ t498
          ·rw [if_pos c21] at H
           have c21b0 : decide (0 ≤ t498) = true := decide_eq_true c21
           clear c21
           by_cases c22 : t498 < (x6_1.length : Int)
           ·rw [if_pos c22] at H
            have c22b0 : decide (t498 < (x6_1.length : Int)) = true := decide_eq_true c22
            clear c22
            have H' := Aside0.mk H
            clear H
            have hcz23_0 : w17.cell? ⟨gb493, 0, none⟩ = some (.string ((qaf l1 x15_1).f0)) := (qad BK493.out 0).trans rfl
            have hcz23_1 : w17.cell? ⟨gb493, 1, none⟩ = some (.string ((qaf l1 x15_1).f1)) := (qad BK493.out 1).trans rfl
            have hcz23_2 : w17.cell? ⟨gb493, 2, none⟩ = some (.string ((qaf l1 x15_1).f2)) := (qad BK493.out 2).trans rfl
            have hcz23_3 : w17.cell? ⟨gb493, 3, none⟩ = some (.bool ((qaf l1 x15_1).f3)) := (qad BK493.out 3).trans rfl
            have hcz23_4 : w17.cell? ⟨gb493, 4, none⟩ = some (.bool ((qaf l1 x15_1).f4)) := (qad BK493.out 4).trans rfl
            have hfz23_0 := qae BK493.out 0
            have hfz23_1 := qae BK493.out 1
            have hfz23_2 := qae BK493.out 2
            have hfz23_3 := qae BK493.out 3
            have hfz23_4 := qae BK493.out 4
            have p500 : 0 ≤ (t498 : Int) := of_decide_eq_true (by first | (with_reducible assumption) | assumption)
            have q500 : t498 < (x6_1.length : Int) := of_decide_eq_true (by first | (with_reducible assumption) | assumption)
            obtain ⟨ad500, e500, hx500_0, hx500_1⟩ := qbO (Kd.qaM HO_6.out).2.2 t498 p500 q500
            cases e500
            replace p500 := eq_true p500
            replace q500 := eq_true q500
            go_wp2
            repeat (go_quiet (fail); try go_wp2)
            go_meet
            case rel => exact ⟨_, ((((qap x6_1 t498).f1).toList != ((qaf l1 x15_1).f1).toList)), (by first | rfl | (simp; done) | (simp [*]; done)), H', ⟨by have := HK1.out; first | omega | exact Nat.le_refl _⟩, ⟨by (with_reducible repeat (first | apply Kd.qaw | apply Kd.qax | apply Kd.qaI)); exact HO_6.out⟩, ⟨by (with_reducible repeat (first | refine qaj ?_ _ | refine qal ?_ | refine qai ?_ _)); exact BK493.out⟩, ⟨by repeat (first | (with_reducible first | exact HB.out | apply qac | apply qaa | apply qab | refine qah ?_ GE493.out) | exact HB.out)⟩⟩
           ·rw [if_neg c22] at H
            exact absurd H (by simp)
          ·rw [if_neg c21] at H
           exact absurd H (by simp)
         ·replace c20 := Bool.eq_false_iff.mpr c20
          subst c20
          have H1 : (qaq.j1 k1 l0 x6_1 l1 (l1.length : Int) x15_1 false ((qaf l1 x15_1).f0) ((qaf l1 x15_1).f1) ((qaf l1 x15_1).f2) ((qaf l1 x15_1).f3) ((qaf l1 x15_1).f4)) = some (r1, r2) := by rw [if_neg (show ¬ (false = true) by decide)] at H; exact H
          clear H
          have H := H1
          clear H1
          have H' := Aside0.mk H
          clear H
          have hcz24_0 : w17.cell? ⟨gb493, 0, none⟩ = some (.string ((qaf l1 x15_1).f0)) := (qad BK493.out 0).trans rfl
          have hcz24_1 : w17.cell? ⟨gb493, 1, none⟩ = some (.string ((qaf l1 x15_1).f1)) := (qad BK493.out 1).trans rfl
          have hcz24_2 : w17.cell? ⟨gb493, 2, none⟩ = some (.string ((qaf l1 x15_1).f2)) := (qad BK493.out 2).trans rfl
          have hcz24_3 : w17.cell? ⟨gb493, 3, none⟩ = some (.bool ((qaf l1 x15_1).f3)) := (qad BK493.out 3).trans rfl
          have hcz24_4 : w17.cell? ⟨gb493, 4, none⟩ = some (.bool ((qaf l1 x15_1).f4)) := (qad BK493.out 4).trans rfl
          have hfz24_0 := qae BK493.out 0
          have hfz24_1 := qae BK493.out 1
          have hfz24_2 := qae BK493.out 2
          have hfz24_3 := qae BK493.out 3
          have hfz24_4 := qae BK493.out 4
          go_wp2
          repeat (go_quiet (fail); try go_wp2)
          go_meet
          case rel => exact ⟨_, (false), (by first | rfl | (simp; done) | (simp [*]; done)), H', ⟨by have := HK1.out; first | omega | exact Nat.le_refl _⟩, ⟨by (with_reducible repeat (first | apply Kd.qaw | apply Kd.qax | apply Kd.qaI)); exact HO_6.out⟩, ⟨by (with_reducible repeat (first | refine qaj ?_ _ | refine qal ?_ | refine qai ?_ _)); exact BK493.out⟩, ⟨by repeat (first | (with_reducible first | exact HB.out | apply qac | apply qaa | apply qab | refine qah ?_ GE493.out) | exact HB.out)⟩⟩
       case rest =>
        clear HC11
        try clear c1
        try clear c2
        try clear p2
        try clear p4
        try clear q4
        try clear hx4
        try clear c5
        try clear c5b0
        try clear p5
        try clear q5
        try clear hx5
        try clear c6
        try clear c6b0
        try clear c7
        try clear c7b0
        try clear c9
        try clear c18
        try clear c18b0
        try clear c18b1
        try clear c18b2
        try clear c20
        try clear c21
        try clear c21b0
        try clear c22
        try clear c22b0
        try clear hcz13_0
        try clear hcz13_1
        try clear hcz13_2
        try clear hcz13_3
        try clear hcz13_4
        try clear hcz15_0
        try clear hcz15_1
        try clear hcz15_2
        try clear hcz15_3
        try clear hcz15_4
        try clear hcz19_0
        try clear hcz19_1
        try clear hcz19_2
        try clear hcz19_3
        try clear hcz19_4
        try clear hcz23_0
        try clear hcz23_1
        try clear hcz23_2
        try clear hcz23_3
        try clear hcz23_4
        try clear hcz24_0
        try clear hcz24_1
        try clear hcz24_2
        try clear hcz24_3
        try clear hcz24_4
        try clear hfz13_0
        try clear hfz13_1
        try clear hfz13_2
        try clear hfz13_3
        try clear hfz13_4
        try clear hfz15_0
        try clear hfz15_1
        try clear hfz15_2
        try clear hfz15_3
        try clear hfz15_4
        try clear hfz19_0
        try clear hfz19_1
        try clear hfz19_2
        try clear hfz19_3
        try clear hfz19_4
        try clear hfz23_0
        try clear hfz23_1
        try clear hfz23_2
        try clear hfz23_3
        try clear hfz23_4
        try clear hfz24_0
        try clear hfz24_1
        try clear hfz24_2
        try clear hfz24_3
        try clear hfz24_4
        try clear hx492_0
        try clear hx492_1
        try clear hx492_2
        try clear hx492_3
        try clear hx492_4
        try clear hx500_0
        try clear hx500_1
        try clear p2
        try clear p492
        try clear p500
        try clear q492
        try clear q500
        obtain ⟨kq, x47_10, rfl, HA, HJ10, HO_6, BK493, HB⟩ := hcut
        cases kq with
        | zero => exact absurd HA.out (by simp [qaq.j1])
        | succ kj10 =>
         have H := HA.out
         clear HA
         simp only [qaq.j1] at H
         by_cases c25 : x47_10 = true
         ·subst c25
          have H1 : ((qa1.f l0).bind fun t501 => (some (t501, 18))) = some (r1, r2) := by rw [if_pos rfl] at H; exact H
          clear H
          have H := H1
          clear H1
          replace H := Option.bind_eq_some_iff.mp H
          obtain ⟨t501, A260, H⟩ := H
          replace H : (some (t501, 18)) = some (r1, r2) := H
          have A26 := Aside0.mk A260
          clear A260
          simp only [Option.some.injEq, Prod.mk.injEq] at H
          obtain ⟨rfl, rfl⟩ := H
          go_wp2_with (first | (go_at_call 90; (with_reducible refine (qa1.calls _ _ l0 t501 _ ?side1 ?side2 A26.out).mono ?_); (case side1 => repeat (first | exact (Kd.qbe HR0.out HB.out) | (with_reducible refine Kd.qa6 ?_ _) | (with_reducible refine Kd.qa7 ?_ _) | (with_reducible refine Kd.qbj ?_))); (case side2 => exact HC0.out); rintro e w27 ⟨v502, rfl, ho0, hb⟩; have n0_ := Aside0.mk (Kd.qch (by (with_reducible repeat (first | apply Kd.qaw | apply Kd.qax | apply Kd.qaI)); exact HO_6.out) (Kd.qcQ ho0) hb); have n1_ := Aside0.mk (Kd.qbp (Kd.qc7 ho0 (Kd.R_lt (by (with_reducible repeat (first | apply Kd.qaw | apply Kd.qax | apply Kd.qaI)); exact HO_6.out))) (qak (by repeat (first | (with_reducible first | exact HB.out | apply qac | apply qaa | apply qab | refine qah ?_ GE493.out) | exact HB.out)))); have n2_ := Aside0.mk (qao (g := gb493) (o := .cells #[.string ((qaf l1 x15_1).f0), .string ((qaf l1 x15_1).f1), .string ((qaf l1 x15_1).f2), .bool ((qaf l1 x15_1).f3), .bool ((qaf l1 x15_1).f4)] 82 (0, 0)) (by (with_reducible repeat (first | refine qaj ?_ _ | refine qal ?_ | refine qai ?_ _)); exact BK493.out) hb); have n3_ := Aside0.mk (qag (by repeat (first | (with_reducible first | exact HB.out | apply qac | apply qaa | apply qab | refine qah ?_ GE493.out) | exact HB.out)) hb); clear HO_6; clear BK493; clear HB; have HO_6 := n0_; have HO503 := n1_; have BK493 := n2_; have HB := n3_; clear n0_ n1_ n2_ n3_; (try clear hb); (try clear hb2); (try clear hk); (try clear hi); (try clear ho0)))
          repeat (go_quiet (first | (go_at_call 90; (with_reducible refine (qa1.calls _ _ l0 t501 _ ?side1 ?side2 A26.out).mono ?_); (case side1 => repeat (first | exact (Kd.qbe HR0.out HB.out) | (with_reducible refine Kd.qa6 ?_ _) | (with_reducible refine Kd.qa7 ?_ _) | (with_reducible refine Kd.qbj ?_))); (case side2 => exact HC0.out); rintro e w27 ⟨v502, rfl, ho0, hb⟩; have n0_ := Aside0.mk (Kd.qch (by (with_reducible repeat (first | apply Kd.qaw | apply Kd.qax | apply Kd.qaI)); exact HO_6.out) (Kd.qcQ ho0) hb); have n1_ := Aside0.mk (Kd.qbp (Kd.qc7 ho0 (Kd.R_lt (by (with_reducible repeat (first | apply Kd.qaw | apply Kd.qax | apply Kd.qaI)); exact HO_6.out))) (qak (by repeat (first | (with_reducible first | exact HB.out | apply qac | apply qaa | apply qab | refine qah ?_ GE493.out) | exact HB.out)))); have n2_ := Aside0.mk (qao (g := gb493) (o := .cells #[.string ((qaf l1 x15_1).f0), .string ((qaf l1 x15_1).f1), .string ((qaf l1 x15_1).f2), .bool ((qaf l1 x15_1).f3), .bool ((qaf l1 x15_1).f4)] 82 (0, 0)) (by (with_reducible repeat (first | refine qaj ?_ _ | refine qal ?_ | refine qai ?_ _)); exact BK493.out) hb); have n3_ := Aside0.mk (qag (by repeat (first | (with_reducible first | exact HB.out | apply qac | apply qaa | apply qab | refine qah ?_ GE493.out) | exact HB.out)) hb); clear HO_6; clear BK493; clear HB; have HO_6 := n0_; have HO503 := n1_; have BK493 := n2_; have HB := n3_; clear n0_ n1_ n2_ n3_; (try clear hb); (try clear hb2); (try clear hk); (try clear hi); (try clear ho0))); try go_wp2_with (first | (go_at_call 90; (with_reducible refine (qa1.calls _ _ l0 t501 _ ?side1 ?side2 A26.out).mono ?_); (case side1 => repeat (first | exact (Kd.qbe HR0.out HB.out) | (with_reducible refine Kd.qa6 ?_ _) | (with_reducible refine Kd.qa7 ?_ _) | (with_reducible refine Kd.qbj ?_))); (case side2 => exact HC0.out); rintro e w27 ⟨v502, rfl, ho0, hb⟩; have n0_ := Aside0.mk (Kd.qch (by (with_reducible repeat (first | apply Kd.qaw | apply Kd.qax | apply Kd.qaI)); exact HO_6.out) (Kd.qcQ ho0) hb); have n1_ := Aside0.mk (Kd.qbp (Kd.qc7 ho0 (Kd.R_lt (by (with_reducible repeat (first | apply Kd.qaw | apply Kd.qax | apply Kd.qaI)); exact HO_6.out))) (qak (by repeat (first | (with_reducible first | exact HB.out | apply qac | apply qaa | apply qab | refine qah ?_ GE493.out) | exact HB.out)))); have n2_ := Aside0.mk (qao (g := gb493) (o := .cells #[.string ((qaf l1 x15_1).f0), .string ((qaf l1 x15_1).f1), .string ((qaf l1 x15_1).f2), .bool ((qaf l1 x15_1).f3), .bool ((qaf l1 x15_1).f4)] 82 (0, 0)) (by (with_reducible repeat (first | refine qaj ?_ _ | refine qal ?_ | refine qai ?_ _)); exact BK493.out) hb); have n3_ := Aside0.mk (qag (by repeat (first | (with_reducible first | exact HB.out | apply qac | apply qaa | apply qab | refine qah ?_ GE493.out) | exact HB.out)) hb); clear HO_6; clear BK493; clear HB; have HO_6 := n0_; have HO503 := n1_; have BK493 := n2_; have HB := n3_; clear n0_ n1_ n2_ n3_; (try clear hb); (try clear hb2); (try clear hk); (try clear hi); (try clear ho0))))
          go_ret2
          exact ⟨_, by first | rfl | (simp [qam, qan] <;> rfl) | (simp [*, qam, qan] <;> rfl), by (with_reducible repeat (first | apply Kd.qaw | apply Kd.qax | apply Kd.qaI)); exact Kd.qbs HO503.out (fun _ hk => trivial), by repeat (first | (with_reducible first | exact HB.out | apply qac | apply qaa | apply qab | refine qah ?_ GE493.out) | exact HB.out)⟩
         ·replace c25 := Bool.eq_false_iff.mpr c25
          subst c25
          have H1 : (if ((qaf l1 x15_1).f4) = true then ((qca.f x6_1 ((qaf l1 x15_1).f0) ((qaf l1 x15_1).f2)).bind fun t504 => (qaq.l0 kj10 l0 t504 l1 (l1.length : Int) (wrap64 (x15_1 + 1)))) else ((qb5.f x6_1 ((qaf l1 x15_1).f0)).bind fun t507 => (qaq.l0 kj10 l0 t507 l1 (l1.length : Int) (wrap64 (x15_1 + 1))))) = some (r1, r2) := by rw [if_neg (show ¬ (false = true) by decide)] at H; exact H
          clear H
          have H := H1
          clear H1
          by_cases c28 : ((qaf l1 x15_1).f4) = true
          ·rw [if_pos c28] at H
           have c28b0 : ((qaf l1 x15_1).f4) = true := c28
           clear c28
           replace H := Option.bind_eq_some_iff.mp H
           obtain ⟨t504, A290, H⟩ := H
           replace H : (qaq.l0 kj10 l0 t504 l1 (l1.length : Int) (wrap64 (x15_1 + 1))) = some (r1, r2) := H
           have A29 := Aside0.mk A290
           clear A290
           have H' := Aside0.mk H
           clear H
           have hcz30_0 : wc.cell? ⟨gb493, 0, none⟩ = some (.string ((qaf l1 x15_1).f0)) := (qad BK493.out 0).trans rfl
           have hcz30_1 : wc.cell? ⟨gb493, 1, none⟩ = some (.string ((qaf l1 x15_1).f1)) := (qad BK493.out 1).trans rfl
           have hcz30_2 : wc.cell? ⟨gb493, 2, none⟩ = some (.string ((qaf l1 x15_1).f2)) := (qad BK493.out 2).trans rfl
           have hcz30_3 : wc.cell? ⟨gb493, 3, none⟩ = some (.bool ((qaf l1 x15_1).f3)) := (qad BK493.out 3).trans rfl
           have hcz30_4 : wc.cell? ⟨gb493, 4, none⟩ = some (.bool ((qaf l1 x15_1).f4)) := (qad BK493.out 4).trans rfl
           have hfz30_0 := qae BK493.out 0
           have hfz30_1 := qae BK493.out 1
           have hfz30_2 := qae BK493.out 2
           have hfz30_3 := qae BK493.out 3
           have hfz30_4 := qae BK493.out 4
           go_wp2_with (first | (go_at_call 92; (with_reducible refine (qca.calls (fun k_ => some k_ = (.slice Ao16 x6_1.length co16 : Value).ownBlock) (.slice Ao16 x6_1.length co16) x6_1 ((qaf l1 x15_1).f0) ((qaf l1 x15_1).f2) t504 w _ ?side1 ?side2 A29.out).mono ?_); (case side1 => repeat (first | (with_reducible first | exact HB.out | apply qac | apply qaa | apply qab | refine qah ?_ GE493.out) | exact HB.out)); (case side2 => exact Kd.qcF rfl HO_6.out); rintro e w31 ⟨v505, rfl, ho0, hb, hkp⟩; have n0_ := Aside0.mk (qcs (by (with_reducible repeat (first | refine qaj ?_ _ | refine qal ?_ | refine qai ?_ _)); exact BK493.out) hkp (fun hs_ => (fun e_ => (Kd.R_ne HO_6.out BK493.out (by decide)) e_) hs_)); have n1_ := Aside0.mk (Kd.qbs (ok' := fun k_ => True) ho0 (fun k_ hk_ => trivial)); have n2_ := Aside0.mk (hb); clear BK493; clear HB; clear HO_6; have BK493 := n0_; have HO506 := n1_; have HB := n2_; clear n0_ n1_ n2_; (try clear hb); (try clear hkp); (try clear ho0)))
           repeat (go_quiet (first | (go_at_call 92; (with_reducible refine (qca.calls (fun k_ => some k_ = (.slice Ao16 x6_1.length co16 : Value).ownBlock) (.slice Ao16 x6_1.length co16) x6_1 ((qaf l1 x15_1).f0) ((qaf l1 x15_1).f2) t504 w _ ?side1 ?side2 A29.out).mono ?_); (case side1 => repeat (first | (with_reducible first | exact HB.out | apply qac | apply qaa | apply qab | refine qah ?_ GE493.out) | exact HB.out)); (case side2 => exact Kd.qcF rfl HO_6.out); rintro e w31 ⟨v505, rfl, ho0, hb, hkp⟩; have n0_ := Aside0.mk (qcs (by (with_reducible repeat (first | refine qaj ?_ _ | refine qal ?_ | refine qai ?_ _)); exact BK493.out) hkp (fun hs_ => (fun e_ => (Kd.R_ne HO_6.out BK493.out (by decide)) e_) hs_)); have n1_ := Aside0.mk (Kd.qbs (ok' := fun k_ => True) ho0 (fun k_ hk_ => trivial)); have n2_ := Aside0.mk (hb); clear BK493; clear HB; clear HO_6; have BK493 := n0_; have HO506 := n1_; have HB := n2_; clear n0_ n1_ n2_; (try clear hb); (try clear hkp); (try clear ho0))); try go_wp2_with (first | (go_at_call 92; (with_reducible refine (qca.calls (fun k_ => some k_ = (.slice Ao16 x6_1.length co16 : Value).ownBlock) (.slice Ao16 x6_1.length co16) x6_1 ((qaf l1 x15_1).f0) ((qaf l1 x15_1).f2) t504 w _ ?side1 ?side2 A29.out).mono ?_); (case side1 => repeat (first | (with_reducible first | exact HB.out | apply qac | apply qaa | apply qab | refine qah ?_ GE493.out) | exact HB.out)); (case side2 => exact Kd.qcF rfl HO_6.out); rintro e w31 ⟨v505, rfl, ho0, hb, hkp⟩; have n0_ := Aside0.mk (qcs (by (with_reducible repeat (first | refine qaj ?_ _ | refine qal ?_ | refine qai ?_ _)); exact BK493.out) hkp (fun hs_ => (fun e_ => (Kd.R_ne HO_6.out BK493.out (by decide)) e_) hs_)); have n1_ := Aside0.mk (Kd.qbs (ok' := fun k_ => True) ho0 (fun k_ hk_ => trivial)); have n2_ := Aside0.mk (hb); clear BK493; clear HB; clear HO_6; have BK493 := n0_; have HO506 := n1_; have HB := n2_; clear n0_ n1_ n2_; (try clear hb); (try clear hkp); (try clear ho0))))
           go_roundg kj10
           case measure => have := HK1.out; have := HJ10.out; omega
           case rel => exact ⟨(t504), (wrap64 (x15_1 + 1)), (by first | rfl | (simp; done) | (simp [*]; done)), H', ⟨by have := HK1.out; have := HJ10.out; omega⟩, ⟨by (with_reducible repeat (first | apply Kd.qaw | apply Kd.qax | apply Kd.qaI)); exact HO506.out⟩, ⟨by repeat (first | (with_reducible first | exact HB.out | apply qac | apply qaa | apply qab | refine qah ?_ GE493.out) | exact HB.out)⟩⟩
          ·rw [if_neg c28] at H
           have c28b0 : ((qaf l1 x15_1).f4) = false := by simpa using c28
           clear c28
           replace H := Option.bind_eq_some_iff.mp H
           obtain ⟨t507, A320, H⟩ := H
           replace H : (qaq.l0 kj10 l0 t507 l1 (l1.length : Int) (wrap64 (x15_1 + 1))) = some (r1, r2) := H
           have A32 := Aside0.mk A320
           clear A320
           have H' := Aside0.mk H
           clear H
           have hcz33_0 : wc.cell? ⟨gb493, 0, none⟩ = some (.string ((qaf l1 x15_1).f0)) := (qad BK493.out 0).trans rfl
           have hcz33_1 : wc.cell? ⟨gb493, 1, none⟩ = some (.string ((qaf l1 x15_1).f1)) := (qad BK493.out 1).trans rfl
           have hcz33_2 : wc.cell? ⟨gb493, 2, none⟩ = some (.string ((qaf l1 x15_1).f2)) := (qad BK493.out 2).trans rfl
           have hcz33_3 : wc.cell? ⟨gb493, 3, none⟩ = some (.bool ((qaf l1 x15_1).f3)) := (qad BK493.out 3).trans rfl
           have hcz33_4 : wc.cell? ⟨gb493, 4, none⟩ = some (.bool ((qaf l1 x15_1).f4)) := (qad BK493.out 4).trans rfl
           have hfz33_0 := qae BK493.out 0
           have hfz33_1 := qae BK493.out 1
           have hfz33_2 := qae BK493.out 2
           have hfz33_3 := qae BK493.out 3
           have hfz33_4 := qae BK493.out 4
           go_wp2_with (first | (go_at_call 93; (with_reducible refine (qb5.calls (fun k_ => some k_ = (.slice Ao16 x6_1.length co16 : Value).ownBlock) (.slice Ao16 x6_1.length co16) x6_1 ((qaf l1 x15_1).f0) t507 w _ ?side1 ?side2 A32.out).mono ?_); (case side1 => repeat (first | (with_reducible first | exact HB.out | apply qac | apply qaa | apply qab | refine qah ?_ GE493.out) | exact HB.out)); (case side2 => exact Kd.qcF rfl HO_6.out); rintro e w34 ⟨v508, rfl, ho0, hb, hkp⟩; have n0_ := Aside0.mk (qcs (by (with_reducible repeat (first | refine qaj ?_ _ | refine qal ?_ | refine qai ?_ _)); exact BK493.out) hkp (fun hs_ => (fun e_ => (Kd.R_ne HO_6.out BK493.out (by decide)) e_) hs_)); have n1_ := Aside0.mk (Kd.qbs (ok' := fun k_ => True) ho0 (fun k_ hk_ => trivial)); have n2_ := Aside0.mk (hb); clear BK493; clear HB; clear HO_6; have BK493 := n0_; have HO509 := n1_; have HB := n2_; clear n0_ n1_ n2_; (try clear hb); (try clear hkp); (try clear ho0)))
           repeat (go_quiet (first | (go_at_call 93; (with_reducible refine (qb5.calls (fun k_ => some k_ = (.slice Ao16 x6_1.length co16 : Value).ownBlock) (.slice Ao16 x6_1.length co16) x6_1 ((qaf l1 x15_1).f0) t507 w _ ?side1 ?side2 A32.out).mono ?_); (case side1 => repeat (first | (with_reducible first | exact HB.out | apply qac | apply qaa | apply qab | refine qah ?_ GE493.out) | exact HB.out)); (case side2 => exact Kd.qcF rfl HO_6.out); rintro e w34 ⟨v508, rfl, ho0, hb, hkp⟩; have n0_ := Aside0.mk (qcs (by (with_reducible repeat (first | refine qaj ?_ _ | refine qal ?_ | refine qai ?_ _)); exact BK493.out) hkp (fun hs_ => (fun e_ => (Kd.R_ne HO_6.out BK493.out (by decide)) e_) hs_)); have n1_ := Aside0.mk (Kd.qbs (ok' := fun k_ => True) ho0 (fun k_ hk_ => trivial)); have n2_ := Aside0.mk (hb); clear BK493; clear HB; clear HO_6; have BK493 := n0_; have HO509 := n1_; have HB := n2_; clear n0_ n1_ n2_; (try clear hb); (try clear hkp); (try clear ho0))); try go_wp2_with (first | (go_at_call 93; (with_reducible refine (qb5.calls (fun k_ => some k_ = (.slice Ao16 x6_1.length co16 : Value).ownBlock) (.slice Ao16 x6_1.length co16) x6_1 ((qaf l1 x15_1).f0) t507 w _ ?side1 ?side2 A32.out).mono ?_); (case side1 => repeat (first | (with_reducible first | exact HB.out | apply qac | apply qaa | apply qab | refine qah ?_ GE493.out) | exact HB.out)); (case side2 => exact Kd.qcF rfl HO_6.out); rintro e w34 ⟨v508, rfl, ho0, hb, hkp⟩; have n0_ := Aside0.mk (qcs (by (with_reducible repeat (first | refine qaj ?_ _ | refine qal ?_ | refine qai ?_ _)); exact BK493.out) hkp (fun hs_ => (fun e_ => (Kd.R_ne HO_6.out BK493.out (by decide)) e_) hs_)); have n1_ := Aside0.mk (Kd.qbs (ok' := fun k_ => True) ho0 (fun k_ hk_ => trivial)); have n2_ := Aside0.mk (hb); clear BK493; clear HB; clear HO_6; have BK493 := n0_; have HO509 := n1_; have HB := n2_; clear n0_ n1_ n2_; (try clear hb); (try clear hkp); (try clear ho0))))
           go_roundg kj10
           case measure => have := HK1.out; have := HJ10.out; omega
           case rel => exact ⟨(t507), (wrap64 (x15_1 + 1)), (by first | rfl | (simp; done) | (simp [*]; done)), H', ⟨by have := HK1.out; have := HJ10.out; omega⟩, ⟨by (with_reducible repeat (first | apply Kd.qaw | apply Kd.qax | apply Kd.qaI)); exact HO509.out⟩, ⟨by repeat (first | (with_reducible first | exact HB.out | apply qac | apply qaa | apply qab | refine qah ?_ GE493.out) | exact HB.out)⟩⟩
      ·replace c9 := Bool.eq_false_iff.mpr c9
       subst c9
       have H1 : ((qa1.f l0).bind fun t495 => (some (t495, 3))) = some (r1, r2) := by rw [if_neg (show ¬ (false = true) by decide)] at H; exact H
       clear H
       have H := H1
       clear H1
       replace H := Option.bind_eq_some_iff.mp H
       obtain ⟨t495, A350, H⟩ := H
       replace H : (some (t495, 3)) = some (r1, r2) := H
       have A35 := Aside0.mk A350
       clear A350
       simp only [Option.some.injEq, Prod.mk.injEq] at H
       obtain ⟨rfl, rfl⟩ := H
       have p492 : 0 ≤ (x15_1 : Int) := of_decide_eq_true (by first | (with_reducible assumption) | assumption)
       have q492 : x15_1 < (l1.length : Int) := of_decide_eq_true (by first | (with_reducible assumption) | assumption)
       obtain ⟨ad492, e492, hx492_0, hx492_1, hx492_2, hx492_3, hx492_4⟩ := qc9 HR1.out x15_1 p492 q492
       cases e492
       replace hx492_0 := (HB.out.cell (World.block_lt_of_cell? w _ hx492_0)).trans hx492_0
       replace hx492_1 := (HB.out.cell (World.block_lt_of_cell? w _ hx492_1)).trans hx492_1
       replace hx492_2 := (HB.out.cell (World.block_lt_of_cell? w _ hx492_2)).trans hx492_2
       replace hx492_3 := (HB.out.cell (World.block_lt_of_cell? w _ hx492_3)).trans hx492_3
       replace hx492_4 := (HB.out.cell (World.block_lt_of_cell? w _ hx492_4)).trans hx492_4
       replace p492 := eq_true p492
       replace q492 := eq_true q492
       go_wp2_with (first | ((with_reducible refine qaH (N := 8) rfl ?_); refine qaF ?hg (N := 8) ?hd (cs := #[.string (⟨#[]⟩ : ByteArray), .string (⟨#[]⟩ : ByteArray), .string (⟨#[]⟩ : ByteArray), .bool false, .bool false]) (t := 82) ?hr ?_; (case hd => rfl); (case hg => rfl); (case hr => first | (go_simp; done) | (go_simp; rfl)); intro gb493 hg w36 hbox hb; have n0_ := Aside0.mk (Kd.qaR (by (with_reducible repeat (first | apply Kd.qaw | apply Kd.qax | apply Kd.qaI)); exact HO_6.out) hb); have n1_ := Aside0.mk (qag (by repeat (first | (with_reducible first | exact HB.out | apply qac | apply qaa | apply qab) | exact HB.out)) hb); have n2_ := Aside0.mk (hbox); have n3_ := Aside0.mk ((by rw [hg]; exact (qak (by repeat (first | (with_reducible first | exact HB.out | apply qac | apply qaa | apply qab) | exact HB.out))) : w.heap.size ≤ gb493)); have n4_ := Aside0.mk ((by rw [hg]; exact (qak (by repeat (first | (with_reducible first | exact HB.out | apply qac | apply qaa | apply qab) | exact HB.out))) : w.heap.size ≤ gb493)); clear HO_6; clear HB; have HO_6 := n0_; have HB := n1_; have BK493 := n2_; have GW493 := n3_; have GE493 := n4_; clear n0_ n1_ n2_ n3_ n4_; clear hb hbox hg; have hcz37_0 : w36.cell? ⟨gb493, 0, none⟩ = some (.string (⟨#[]⟩ : ByteArray)) := (qad BK493.out 0).trans rfl; have hcz37_1 : w36.cell? ⟨gb493, 1, none⟩ = some (.string (⟨#[]⟩ : ByteArray)) := (qad BK493.out 1).trans rfl; have hcz37_2 : w36.cell? ⟨gb493, 2, none⟩ = some (.string (⟨#[]⟩ : ByteArray)) := (qad BK493.out 2).trans rfl; have hcz37_3 : w36.cell? ⟨gb493, 3, none⟩ = some (.bool false) := (qad BK493.out 3).trans rfl; have hcz37_4 : w36.cell? ⟨gb493, 4, none⟩ = some (.bool false) := (qad BK493.out 4).trans rfl; have hfz37_0 := qae BK493.out 0; have hfz37_1 := qae BK493.out 1; have hfz37_2 := qae BK493.out 2; have hfz37_3 := qae BK493.out 3; have hfz37_4 := qae BK493.out 4) | (go_at_call 68; (with_reducible refine (qbv.calls ((qaf l1 x15_1).f0) ((qaf l1 x15_1).f1) ((qaf l1 x15_1).f2) ((qaf l1 x15_1).f3) ((qaf l1 x15_1).f4) false _ A8.out).mono ?_); rintro e w38 ⟨rfl, hb⟩; have n0_ := Aside0.mk (Kd.qaR (by (with_reducible repeat (first | apply Kd.qaw | apply Kd.qax | apply Kd.qaI)); exact (Kd.qbs (Kd.qcp (p := ⟨gb493, 4, none⟩) (Kd.qcp (p := ⟨gb493, 3, none⟩) (Kd.qcp (p := ⟨gb493, 2, none⟩) (Kd.qcp (p := ⟨gb493, 1, none⟩) (Kd.qcp (p := ⟨gb493, 0, none⟩) (Kd.qcu HO_6.out BK493.out (by decide)) (fun _ hk => hk.2) (.string ((qaf l1 x15_1).f0))) (fun _ hk => hk.2) (.string ((qaf l1 x15_1).f1))) (fun _ hk => hk.2) (.string ((qaf l1 x15_1).f2))) (fun _ hk => hk.2) (.bool ((qaf l1 x15_1).f3))) (fun _ hk => hk.2) (.bool ((qaf l1 x15_1).f4))) (fun _ h_ => h_.1))) hb); have n1_ := Aside0.mk (qao (g := gb493) (o := .cells #[.string ((qaf l1 x15_1).f0), .string ((qaf l1 x15_1).f1), .string ((qaf l1 x15_1).f2), .bool ((qaf l1 x15_1).f3), .bool ((qaf l1 x15_1).f4)] 82 (0, 0)) (by (with_reducible repeat (first | refine qaj ?_ _ | refine qal ?_ | refine qai ?_ _)); refine qaW (cs := #[.string ((qaf l1 x15_1).f0), .string ((qaf l1 x15_1).f1), .string ((qaf l1 x15_1).f2), .bool ((qaf l1 x15_1).f3), .bool false]) ?_ 4 _ rfl; (with_reducible repeat (first | refine qaj ?_ _ | refine qal ?_ | refine qai ?_ _)); refine qaW (cs := #[.string ((qaf l1 x15_1).f0), .string ((qaf l1 x15_1).f1), .string ((qaf l1 x15_1).f2), .bool false, .bool false]) ?_ 3 _ rfl; (with_reducible repeat (first | refine qaj ?_ _ | refine qal ?_ | refine qai ?_ _)); refine qaW (cs := #[.string ((qaf l1 x15_1).f0), .string ((qaf l1 x15_1).f1), .string (⟨#[]⟩ : ByteArray), .bool false, .bool false]) ?_ 2 _ rfl; (with_reducible repeat (first | refine qaj ?_ _ | refine qal ?_ | refine qai ?_ _)); refine qaW (cs := #[.string ((qaf l1 x15_1).f0), .string (⟨#[]⟩ : ByteArray), .string (⟨#[]⟩ : ByteArray), .bool false, .bool false]) ?_ 1 _ rfl; (with_reducible repeat (first | refine qaj ?_ _ | refine qal ?_ | refine qai ?_ _)); refine qaW (cs := #[.string (⟨#[]⟩ : ByteArray), .string (⟨#[]⟩ : ByteArray), .string (⟨#[]⟩ : ByteArray), .bool false, .bool false]) ?_ 0 _ rfl; (with_reducible repeat (first | refine qaj ?_ _ | refine qal ?_ | refine qai ?_ _)); exact BK493.out) hb); have n2_ := Aside0.mk (qag (by repeat (first | (with_reducible first | exact HB.out | apply qac | apply qaa | apply qab | refine qah ?_ GE493.out) | exact HB.out)) hb); clear HO_6; clear BK493; clear HB; have HO_6 := n0_; have BK493 := n1_; have HB := n2_; clear n0_ n1_ n2_; (try clear hb); (try clear hb2); (try clear hk); (try clear hi)) | (go_at_call 90; (with_reducible refine (qa1.calls _ _ l0 t495 _ ?side1 ?side2 A35.out).mono ?_); (case side1 => repeat (first | exact (Kd.qbe HR0.out HB.out) | (with_reducible refine Kd.qa6 ?_ _) | (with_reducible refine Kd.qa7 ?_ _) | (with_reducible refine Kd.qbj ?_))); (case side2 => exact HC0.out); rintro e w39 ⟨v496, rfl, ho0, hb⟩; have n0_ := Aside0.mk (Kd.qch (by (with_reducible repeat (first | apply Kd.qaw | apply Kd.qax | apply Kd.qaI)); exact HO_6.out) (Kd.qcQ ho0) hb); have n1_ := Aside0.mk (Kd.qbp (Kd.qc7 ho0 (Kd.R_lt (by (with_reducible repeat (first | apply Kd.qaw | apply Kd.qax | apply Kd.qaI)); exact HO_6.out))) (qak (by repeat (first | (with_reducible first | exact HB.out | apply qac | apply qaa | apply qab | refine qah ?_ GE493.out) | exact HB.out)))); have n2_ := Aside0.mk (qao (g := gb493) (o := .cells #[.string ((qaf l1 x15_1).f0), .string ((qaf l1 x15_1).f1), .string ((qaf l1 x15_1).f2), .bool ((qaf l1 x15_1).f3), .bool ((qaf l1 x15_1).f4)] 82 (0, 0)) (by (with_reducible repeat (first | refine qaj ?_ _ | refine qal ?_ | refine qai ?_ _)); exact BK493.out) hb); have n3_ := Aside0.mk (qag (by repeat (first | (with_reducible first | exact HB.out | apply qac | apply qaa | apply qab | refine qah ?_ GE493.out) | exact HB.out)) hb); clear HO_6; clear BK493; clear HB; have HO_6 := n0_; have HO497 := n1_; have BK493 := n2_; have HB := n3_; clear n0_ n1_ n2_ n3_; (try clear hb); (try clear hb2); (try clear hk); (try clear hi); (try clear ho0)))
       repeat (go_quiet (first | ((with_reducible refine qaH (N := 8) rfl ?_); refine qaF ?hg (N := 8) ?hd (cs := #[.string (⟨#[]⟩ : ByteArray), .string (⟨#[]⟩ : ByteArray), .string (⟨#[]⟩ : ByteArray), .bool false, .bool false]) (t := 82) ?hr ?_; (case hd => rfl); (case hg => rfl); (case hr => first | (go_simp; done) | (go_simp; rfl)); intro gb493 hg w36 hbox hb; have n0_ := Aside0.mk (Kd.qaR (by (with_reducible repeat (first | apply Kd.qaw | apply Kd.qax | apply Kd.qaI)); exact HO_6.out) hb); have n1_ := Aside0.mk (qag (by repeat (first | (with_reducible first | exact HB.out | apply qac | apply qaa | apply qab) | exact HB.out)) hb); have n2_ := Aside0.mk (hbox); have n3_ := Aside0.mk ((by rw [hg]; exact (qak (by repeat (first | (with_reducible first | exact HB.out | apply qac | apply qaa | apply qab) | exact HB.out))) : w.heap.size ≤ gb493)); have n4_ := Aside0.mk ((by rw [hg]; exact (qak (by repeat (first | (with_reducible first | exact HB.out | apply qac | apply qaa | apply qab) | exact HB.out))) : w.heap.size ≤ gb493)); clear HO_6; clear HB; have HO_6 := n0_; have HB := n1_; have BK493 := n2_; have GW493 := n3_; have GE493 := n4_; clear n0_ n1_ n2_ n3_ n4_; clear hb hbox hg; have hcz37_0 : w36.cell? ⟨gb493, 0, none⟩ = some (.string (⟨#[]⟩ : ByteArray)) := (qad BK493.out 0).trans rfl; have hcz37_1 : w36.cell? ⟨gb493, 1, none⟩ = some (.string (⟨#[]⟩ : ByteArray)) := (qad BK493.out 1).trans rfl; have hcz37_2 : w36.cell? ⟨gb493, 2, none⟩ = some (.string (⟨#[]⟩ : ByteArray)) := (qad BK493.out 2).trans rfl; have hcz37_3 : w36.cell? ⟨gb493, 3, none⟩ = some (.bool false) := (qad BK493.out 3).trans rfl; have hcz37_4 : w36.cell? ⟨gb493, 4, none⟩ = some (.bool false) := (qad BK493.out 4).trans rfl; have hfz37_0 := qae BK493.out 0; have hfz37_1 := qae BK493.out 1; have hfz37_2 := qae BK493.out 2; have hfz37_3 := qae BK493.out 3; have hfz37_4 := qae BK493.out 4) | (go_at_call 68; (with_reducible refine (qbv.calls ((qaf l1 x15_1).f0) ((qaf l1 x15_1).f1) ((qaf l1 x15_1).f2) ((qaf l1 x15_1).f3) ((qaf l1 x15_1).f4) false _ A8.out).mono ?_); rintro e w38 ⟨rfl, hb⟩; have n0_ := Aside0.mk (Kd.qaR (by (with_reducible repeat (first | apply Kd.qaw | apply Kd.qax | apply Kd.qaI)); exact (Kd.qbs (Kd.qcp (p := ⟨gb493, 4, none⟩) (Kd.qcp (p := ⟨gb493, 3, none⟩) (Kd.qcp (p := ⟨gb493, 2, none⟩) (Kd.qcp (p := ⟨gb493, 1, none⟩) (Kd.qcp (p := ⟨gb493, 0, none⟩) (Kd.qcu HO_6.out BK493.out (by decide)) (fun _ hk => hk.2) (.string ((qaf l1 x15_1).f0))) (fun _ hk => hk.2) (.string ((qaf l1 x15_1).f1))) (fun _ hk => hk.2) (.string ((qaf l1 x15_1).f2))) (fun _ hk => hk.2) (.bool ((qaf l1 x15_1).f3))) (fun _ hk => hk.2) (.bool ((qaf l1 x15_1).f4))) (fun _ h_ => h_.1))) hb); have n1_ := Aside0.mk (qao (g := gb493) (o := .cells #[.string ((qaf l1 x15_1).f0), .string ((qaf l1 x15_1).f1), .string ((qaf l1 x15_1).f2), .bool ((qaf l1 x15_1).f3), .bool ((qaf l1 x15_1).f4)] 82 (0, 0)) (by (with_reducible repeat (first | refine qaj ?_ _ | refine qal ?_ | refine qai ?_ _)); refine qaW (cs := #[.string ((qaf l1 x15_1).f0), .string ((qaf l1 x15_1).f1), .string ((qaf l1 x15_1).f2), .bool ((qaf l1 x15_1).f3), .bool false]) ?_ 4 _ rfl; (with_reducible repeat (first | refine qaj ?_ _ | refine qal ?_ | refine qai ?_ _)); refine qaW (cs := #[.string ((qaf l1 x15_1).f0), .string ((qaf l1 x15_1).f1), .string ((qaf l1 x15_1).f2), .bool false, .bool false]) ?_ 3 _ rfl; (with_reducible repeat (first | refine qaj ?_ _ | refine qal ?_ | refine qai ?_ _)); refine qaW (cs := #[.string ((qaf l1 x15_1).f0), .string ((qaf l1 x15_1).f1), .string (⟨#[]⟩ : ByteArray), .bool false, .bool false]) ?_ 2 _ rfl; (with_reducible repeat (first | refine qaj ?_ _ | refine qal ?_ | refine qai ?_ _)); refine qaW (cs := #[.string ((qaf l1 x15_1).f0), .string (⟨#[]⟩ : ByteArray), .string (⟨#[]⟩ : ByteArray), .bool false, .bool false]) ?_ 1 _ rfl; (with_reducible repeat (first | refine qaj ?_ _ | refine qal ?_ | refine qai ?_ _)); refine qaW (cs := #[.string (⟨#[]⟩ : ByteArray), .string (⟨#[]⟩ : ByteArray), .string (⟨#[]⟩ : ByteArray), .bool false, .bool false]) ?_ 0 _ rfl; (with_reducible repeat (first | refine qaj ?_ _ | refine qal ?_ | refine qai ?_ _)); exact BK493.out) hb); have n2_ := Aside0.mk (qag (by repeat (first | (with_reducible first | exact HB.out | apply qac | apply qaa | apply qab | refine qah ?_ GE493.out) | exact HB.out)) hb); clear HO_6; clear BK493; clear HB; have HO_6 := n0_; have BK493 := n1_; have HB := n2_; clear n0_ n1_ n2_; (try clear hb); (try clear hb2); (try clear hk); (try clear hi)) | (go_at_call 90; (with_reducible refine (qa1.calls _ _ l0 t495 _ ?side1 ?side2 A35.out).mono ?_); (case side1 => repeat (first | exact (Kd.qbe HR0.out HB.out) | (with_reducible refine Kd.qa6 ?_ _) | (with_reducible refine Kd.qa7 ?_ _) | (with_reducible refine Kd.qbj ?_))); (case side2 => exact HC0.out); rintro e w39 ⟨v496, rfl, ho0, hb⟩; have n0_ := Aside0.mk (Kd.qch (by (with_reducible repeat (first | apply Kd.qaw | apply Kd.qax | apply Kd.qaI)); exact HO_6.out) (Kd.qcQ ho0) hb); have n1_ := Aside0.mk (Kd.qbp (Kd.qc7 ho0 (Kd.R_lt (by (with_reducible repeat (first | apply Kd.qaw | apply Kd.qax | apply Kd.qaI)); exact HO_6.out))) (qak (by repeat (first | (with_reducible first | exact HB.out | apply qac | apply qaa | apply qab | refine qah ?_ GE493.out) | exact HB.out)))); have n2_ := Aside0.mk (qao (g := gb493) (o := .cells #[.string ((qaf l1 x15_1).f0), .string ((qaf l1 x15_1).f1), .string ((qaf l1 x15_1).f2), .bool ((qaf l1 x15_1).f3), .bool ((qaf l1 x15_1).f4)] 82 (0, 0)) (by (with_reducible repeat (first | refine qaj ?_ _ | refine qal ?_ | refine qai ?_ _)); exact BK493.out) hb); have n3_ := Aside0.mk (qag (by repeat (first | (with_reducible first | exact HB.out | apply qac | apply qaa | apply qab | refine qah ?_ GE493.out) | exact HB.out)) hb); clear HO_6; clear BK493; clear HB; have HO_6 := n0_; have HO497 := n1_; have BK493 := n2_; have HB := n3_; clear n0_ n1_ n2_ n3_; (try clear hb); (try clear hb2); (try clear hk); (try clear hi); (try clear ho0))); try go_wp2_with (first | ((with_reducible refine qaH (N := 8) rfl ?_); refine qaF ?hg (N := 8) ?hd (cs := #[.string (⟨#[]⟩ : ByteArray), .string (⟨#[]⟩ : ByteArray), .string (⟨#[]⟩ : ByteArray), .bool false, .bool false]) (t := 82) ?hr ?_; (case hd => rfl); (case hg => rfl); (case hr => first | (go_simp; done) | (go_simp; rfl)); intro gb493 hg w36 hbox hb; have n0_ := Aside0.mk (Kd.qaR (by (with_reducible repeat (first | apply Kd.qaw | apply Kd.qax | apply Kd.qaI)); exact HO_6.out) hb); have n1_ := Aside0.mk (qag (by repeat (first | (with_reducible first | exact HB.out | apply qac | apply qaa | apply qab) | exact HB.out)) hb); have n2_ := Aside0.mk (hbox); have n3_ := Aside0.mk ((by rw [hg]; exact (qak (by repeat (first | (with_reducible first | exact HB.out | apply qac | apply qaa | apply qab) | exact HB.out))) : w.heap.size ≤ gb493)); have n4_ := Aside0.mk ((by rw [hg]; exact (qak (by repeat (first | (with_reducible first | exact HB.out | apply qac | apply qaa | apply qab) | exact HB.out))) : w.heap.size ≤ gb493)); clear HO_6; clear HB; have HO_6 := n0_; have HB := n1_; have BK493 := n2_; have GW493 := n3_; have GE493 := n4_; clear n0_ n1_ n2_ n3_ n4_; clear hb hbox hg; have hcz37_0 : w36.cell? ⟨gb493, 0, none⟩ = some (.string (⟨#[]⟩ : ByteArray)) := (qad BK493.out 0).trans rfl; have hcz37_1 : w36.cell? ⟨gb493, 1, none⟩ = some (.string (⟨#[]⟩ : ByteArray)) := (qad BK493.out 1).trans rfl; have hcz37_2 : w36.cell? ⟨gb493, 2, none⟩ = some (.string (⟨#[]⟩ : ByteArray)) := (qad BK493.out 2).trans rfl; have hcz37_3 : w36.cell? ⟨gb493, 3, none⟩ = some (.bool false) := (qad BK493.out 3).trans rfl; have hcz37_4 : w36.cell? ⟨gb493, 4, none⟩ = some (.bool false) := (qad BK493.out 4).trans rfl; have hfz37_0 := qae BK493.out 0; have hfz37_1 := qae BK493.out 1; have hfz37_2 := qae BK493.out 2; have hfz37_3 := qae BK493.out 3; have hfz37_4 := qae BK493.out 4) | (go_at_call 68; (with_reducible refine (qbv.calls ((qaf l1 x15_1).f0) ((qaf l1 x15_1).f1) ((qaf l1 x15_1).f2) ((qaf l1 x15_1).f3) ((qaf l1 x15_1).f4) false _ A8.out).mono ?_); rintro e w38 ⟨rfl, hb⟩; have n0_ := Aside0.mk (Kd.qaR (by (with_reducible repeat (first | apply Kd.qaw | apply Kd.qax | apply Kd.qaI)); exact (Kd.qbs (Kd.qcp (p := ⟨gb493, 4, none⟩) (Kd.qcp (p := ⟨gb493, 3, none⟩) (Kd.qcp (p := ⟨gb493, 2, none⟩) (Kd.qcp (p := ⟨gb493, 1, none⟩) (Kd.qcp (p := ⟨gb493, 0, none⟩) (Kd.qcu HO_6.out BK493.out (by decide)) (fun _ hk => hk.2) (.string ((qaf l1 x15_1).f0))) (fun _ hk => hk.2) (.string ((qaf l1 x15_1).f1))) (fun _ hk => hk.2) (.string ((qaf l1 x15_1).f2))) (fun _ hk => hk.2) (.bool ((qaf l1 x15_1).f3))) (fun _ hk => hk.2) (.bool ((qaf l1 x15_1).f4))) (fun _ h_ => h_.1))) hb); have n1_ := Aside0.mk (qao (g := gb493) (o := .cells #[.string ((qaf l1 x15_1).f0), .string ((qaf l1 x15_1).f1), .string ((qaf l1 x15_1).f2), .bool ((qaf l1 x15_1).f3), .bool ((qaf l1 x15_1).f4)] 82 (0, 0)) (by (with_reducible repeat (first | refine qaj ?_ _ | refine qal ?_ | refine qai ?_ _)); refine qaW (cs := #[.string ((qaf l1 x15_1).f0), .string ((qaf l1 x15_1).f1), .string ((qaf l1 x15_1).f2), .bool ((qaf l1 x15_1).f3), .bool false]) ?_ 4 _ rfl; (with_reducible repeat (first | refine qaj ?_ _ | refine qal ?_ | refine qai ?_ _)); refine qaW (cs := #[.string ((qaf l1 x15_1).f0), .string ((qaf l1 x15_1).f1), .string ((qaf l1 x15_1).f2), .bool false, .bool false]) ?_ 3 _ rfl; (with_reducible repeat (first | refine qaj ?_ _ | refine qal ?_ | refine qai ?_ _)); refine qaW (cs := #[.string ((qaf l1 x15_1).f0), .string ((qaf l1 x15_1).f1), .string (⟨#[]⟩ : ByteArray), .bool false, .bool false]) ?_ 2 _ rfl; (with_reducible repeat (first | refine qaj ?_ _ | refine qal ?_ | refine qai ?_ _)); refine qaW (cs := #[.string ((qaf l1 x15_1).f0), .string (⟨#[]⟩ : ByteArray), .string (⟨#[]⟩ : ByteArray), .bool false, .bool false]) ?_ 1 _ rfl; (with_reducible repeat (first | refine qaj ?_ _ | refine qal ?_ | refine qai ?_ _)); refine qaW (cs := #[.string (⟨#[]⟩ : ByteArray), .string (⟨#[]⟩ : ByteArray), .string (⟨#[]⟩ : ByteArray), .bool false, .bool false]) ?_ 0 _ rfl; (with_reducible repeat (first | refine qaj ?_ _ | refine qal ?_ | refine qai ?_ _)); exact BK493.out) hb); have n2_ := Aside0.mk (qag (by repeat (first | (with_reducible first | exact HB.out | apply qac | apply qaa | apply qab | refine qah ?_ GE493.out) | exact HB.out)) hb); clear HO_6; clear BK493; clear HB; have HO_6 := n0_; have BK493 := n1_; have HB := n2_; clear n0_ n1_ n2_; (try clear hb); (try clear hb2); (try clear hk); (try clear hi)) | (go_at_call 90; (with_reducible refine (qa1.calls _ _ l0 t495 _ ?side1 ?side2 A35.out).mono ?_); (case side1 => repeat (first | exact (Kd.qbe HR0.out HB.out) | (with_reducible refine Kd.qa6 ?_ _) | (with_reducible refine Kd.qa7 ?_ _) | (with_reducible refine Kd.qbj ?_))); (case side2 => exact HC0.out); rintro e w39 ⟨v496, rfl, ho0, hb⟩; have n0_ := Aside0.mk (Kd.qch (by (with_reducible repeat (first | apply Kd.qaw | apply Kd.qax | apply Kd.qaI)); exact HO_6.out) (Kd.qcQ ho0) hb); have n1_ := Aside0.mk (Kd.qbp (Kd.qc7 ho0 (Kd.R_lt (by (with_reducible repeat (first | apply Kd.qaw | apply Kd.qax | apply Kd.qaI)); exact HO_6.out))) (qak (by repeat (first | (with_reducible first | exact HB.out | apply qac | apply qaa | apply qab | refine qah ?_ GE493.out) | exact HB.out)))); have n2_ := Aside0.mk (qao (g := gb493) (o := .cells #[.string ((qaf l1 x15_1).f0), .string ((qaf l1 x15_1).f1), .string ((qaf l1 x15_1).f2), .bool ((qaf l1 x15_1).f3), .bool ((qaf l1 x15_1).f4)] 82 (0, 0)) (by (with_reducible repeat (first | refine qaj ?_ _ | refine qal ?_ | refine qai ?_ _)); exact BK493.out) hb); have n3_ := Aside0.mk (qag (by repeat (first | (with_reducible first | exact HB.out | apply qac | apply qaa | apply qab | refine qah ?_ GE493.out) | exact HB.out)) hb); clear HO_6; clear BK493; clear HB; have HO_6 := n0_; have HO497 := n1_; have BK493 := n2_; have HB := n3_; clear n0_ n1_ n2_ n3_; (try clear hb); (try clear hb2); (try clear hk); (try clear hi); (try clear ho0))))
       go_ret2
       exact ⟨_, by first | rfl | (simp [qam, qan] <;> rfl) | (simp [*, qam, qan] <;> rfl), by (with_reducible repeat (first | apply Kd.qaw | apply Kd.qax | apply Kd.qaI)); exact Kd.qbs HO497.out (fun _ hk => trivial), by repeat (first | (with_reducible first | exact HB.out | apply qac | apply qaa | apply qab | refine qah ?_ GE493.out) | exact HB.out)⟩
     ·rw [if_neg c7] at H
      exact absurd H (by simp)
    ·rw [if_neg c6] at H
     exact absurd H (by simp)
   ·rw [if_neg c5] at H
    have c5b0 : decide (x15_1 < (l1.length : Int)) = false := decide_eq_false c5
    clear c5
    by_cases c40 : (x6_1.length : Int) > 60
    ·rw [if_pos c40] at H
     have c40b0 : decide (60 < (x6_1.length : Int)) = true := decide_eq_true c40
     have c40b1 : decide (60 < x6_1.length) = true := decide_eq_true (by omega)
     clear c40
     replace H := Option.bind_eq_some_iff.mp H
     obtain ⟨t489, A410, H⟩ := H
     replace H : (some (t489, 7)) = some (r1, r2) := H
     have A41 := Aside0.mk A410
     clear A410
     simp only [Option.some.injEq, Prod.mk.injEq] at H
     obtain ⟨rfl, rfl⟩ := H
     obtain ⟨Ao42, co42, eo42⟩ := Kd.qbN HO_6.out
     subst eo42
     go_wp2_with (first | (go_at_call 90; (with_reducible refine (qa1.calls _ _ l0 t489 _ ?side1 ?side2 A41.out).mono ?_); (case side1 => repeat (first | exact (Kd.qbe HR0.out HB.out) | (with_reducible refine Kd.qa6 ?_ _) | (with_reducible refine Kd.qa7 ?_ _) | (with_reducible refine Kd.qbj ?_))); (case side2 => exact HC0.out); rintro e w43 ⟨v490, rfl, ho0, hb⟩; have n0_ := Aside0.mk (Kd.qch (by (with_reducible repeat (first | apply Kd.qaw | apply Kd.qax | apply Kd.qaI)); exact HO_6.out) (Kd.qcQ ho0) hb); have n1_ := Aside0.mk (Kd.qbp (Kd.qc7 ho0 (Kd.R_lt (by (with_reducible repeat (first | apply Kd.qaw | apply Kd.qax | apply Kd.qaI)); exact HO_6.out))) (qak (by repeat (first | (with_reducible first | exact HB.out | apply qac | apply qaa | apply qab) | exact HB.out)))); have n2_ := Aside0.mk (qag (by repeat (first | (with_reducible first | exact HB.out | apply qac | apply qaa | apply qab) | exact HB.out)) hb); clear HO_6; clear HB; have HO_6 := n0_; have HO491 := n1_; have HB := n2_; clear n0_ n1_ n2_; (try clear hb); (try clear hb2); (try clear hk); (try clear hi); (try clear ho0)))
     repeat (go_quiet (first | (go_at_call 90; (with_reducible refine (qa1.calls _ _ l0 t489 _ ?side1 ?side2 A41.out).mono ?_); (case side1 => repeat (first | exact (Kd.qbe HR0.out HB.out) | (with_reducible refine Kd.qa6 ?_ _) | (with_reducible refine Kd.qa7 ?_ _) | (with_reducible refine Kd.qbj ?_))); (case side2 => exact HC0.out); rintro e w43 ⟨v490, rfl, ho0, hb⟩; have n0_ := Aside0.mk (Kd.qch (by (with_reducible repeat (first | apply Kd.qaw | apply Kd.qax | apply Kd.qaI)); exact HO_6.out) (Kd.qcQ ho0) hb); have n1_ := Aside0.mk (Kd.qbp (Kd.qc7 ho0 (Kd.R_lt (by (with_reducible repeat (first | apply Kd.qaw | apply Kd.qax | apply Kd.qaI)); exact HO_6.out))) (qak (by repeat (first | (with_reducible first | exact HB.out | apply qac | apply qaa | apply qab) | exact HB.out)))); have n2_ := Aside0.mk (qag (by repeat (first | (with_reducible first | exact HB.out | apply qac | apply qaa | apply qab) | exact HB.out)) hb); clear HO_6; clear HB; have HO_6 := n0_; have HO491 := n1_; have HB := n2_; clear n0_ n1_ n2_; (try clear hb); (try clear hb2); (try clear hk); (try clear hi); (try clear ho0))); try go_wp2_with (first | (go_at_call 90; (with_reducible refine (qa1.calls _ _ l0 t489 _ ?side1 ?side2 A41.out).mono ?_); (case side1 => repeat (first | exact (Kd.qbe HR0.out HB.out) | (with_reducible refine Kd.qa6 ?_ _) | (with_reducible refine Kd.qa7 ?_ _) | (with_reducible refine Kd.qbj ?_))); (case side2 => exact HC0.out); rintro e w43 ⟨v490, rfl, ho0, hb⟩; have n0_ := Aside0.mk (Kd.qch (by (with_reducible repeat (first | apply Kd.qaw | apply Kd.qax | apply Kd.qaI)); exact HO_6.out) (Kd.qcQ ho0) hb); have n1_ := Aside0.mk (Kd.qbp (Kd.qc7 ho0 (Kd.R_lt (by (with_reducible repeat (first | apply Kd.qaw | apply Kd.qax | apply Kd.qaI)); exact HO_6.out))) (qak (by repeat (first | (with_reducible first | exact HB.out | apply qac | apply qaa | apply qab) | exact HB.out)))); have n2_ := Aside0.mk (qag (by repeat (first | (with_reducible first | exact HB.out | apply qac | apply qaa | apply qab) | exact HB.out)) hb); clear HO_6; clear HB; have HO_6 := n0_; have HO491 := n1_; have HB := n2_; clear n0_ n1_ n2_; (try clear hb); (try clear hb2); (try clear hk); (try clear hi); (try clear ho0))))
     go_ret2
     exact ⟨_, by first | rfl | (simp [qam, qan] <;> rfl) | (simp [*, qam, qan] <;> rfl), by (with_reducible repeat (first | apply Kd.qaw | apply Kd.qax | apply Kd.qaI)); exact Kd.qbs HO491.out (fun _ hk => trivial), by repeat (first | (with_reducible first | exact HB.out | apply qac | apply qaa | apply qab) | exact HB.out)⟩
    ·rw [if_neg c40] at H
     have c40b0 : decide (60 < (x6_1.length : Int)) = false := decide_eq_false c40
     have c40b1 : decide (60 < x6_1.length) = false := decide_eq_false (by omega)
     clear c40
     simp only [Option.some.injEq, Prod.mk.injEq] at H
     obtain ⟨rfl, rfl⟩ := H
     obtain ⟨Ao44, co44, eo44⟩ := Kd.qbN HO_6.out
     subst eo44
     go_wp2
     repeat (go_quiet (fail); try go_wp2)
     go_ret2
     exact ⟨_, by first | rfl | (simp [qam, qan] <;> rfl) | (simp [*, qam, qan] <;> rfl), by (with_reducible repeat (first | apply Kd.qaw | apply Kd.qax | apply Kd.qaI)); exact HO_6.out, by repeat (first | (with_reducible first | exact HB.out | apply qac | apply qaa | apply qab) | exact HB.out)⟩
end Go.Proofs.Ytgcncphdjabjjaa.X
