import Derived.Test.YtgcncphdjabjjaaKFnExactApplyDiff3
import Derived.Test.YtgcncphdjabjjaaKFnExactApplyDiff4
import Derived.Test.YtgcncphdjabjjaaKFnExactApplyDiff6
namespace Go.Proofs.Ytgcncphdjabjjaa.X
open Go.RowKit Go.Proofs.YtgcncphdjabjjaaW.PrintWords Go.Proofs.YtgcncphdjabjjaaW.PrintLast Go.Proofs.YtgcncphdjabjjaaW.PrintMore
attribute [local go_sem] xbin_geq xbin_leq xbin_gtr max2_int min2_int max_two min_two max_three min_three max_four min_four
set_option linter.unusedVariables false
set_option linter.unusedSimpArgs false
def laws_eqDiffS.l0 : Nat → List (S82) → List (S82) → Int → Option (Bool)
 | 0, _, _, _ => none
 | k + 1, x0, x1, x5 => if x5 < (x0.length : Int) then (if 0 ≤ x5 then (if x5 < (x1.length : Int) then ((laws_eqDiff.f ((rd_T82 x0 x5).f0) ((rd_T82 x0 x5).f1) ((rd_T82 x0 x5).f2) ((rd_T82 x0 x5).f3) ((rd_T82 x0 x5).f4) ((rd_T82 x1 x5).f0) ((rd_T82 x1 x5).f1) ((rd_T82 x1 x5).f2) ((rd_T82 x1 x5).f3) ((rd_T82 x1 x5).f4)).bind fun t281 => (if t281 = true then (laws_eqDiffS.l0 k x0 x1 (wrap64 (x5 + 1))) else (some false))) else (none)) else (none)) else (some true)
def laws_eqDiffS.f (k : Nat) (l0 : List (S82)) (l1 : List (S82)) : Option (Bool) := if (l0.length : Int) = (l1.length : Int) then (laws_eqDiffS.l0 k l0 l1 0) else (some false)
theorem laws_eqDiffS.mono_l : ∀ k, (∀ y0 y1 y2, LeO (laws_eqDiffS.l0 k y0 y1 y2) (laws_eqDiffS.l0 (k + 1) y0 y1 y2))
 | 0 => fun _ _ _ r h => by simp [laws_eqDiffS.l0] at h
 | k + 1 => by
  have ih0 := laws_eqDiffS.mono_l k
  ·intro y0 y1 y2
   unfold laws_eqDiffS.l0
   repeat' first
   | (with_reducible exact ih0 _ _ _)
   | (with_reducible exact LeO.refl _)
   | (with_reducible exact LeO.none _)
   | (with_reducible refine LeO.ite ?_ ?_)
   | (with_reducible refine LeO.bind ?_ (fun _ => ?_))
   | exact ih0 _ _ _
   | exact LeO.none _
   | refine LeO.ite ?_ ?_
   | refine LeO.bind ?_ (fun _ => ?_)
theorem laws_eqDiffS.mono : ∀ a0 a1 k, LeO (laws_eqDiffS.f k a0 a1) (laws_eqDiffS.f (k + 1) a0 a1) := by
 intro a0 a1 k
 have ih0 := laws_eqDiffS.mono_l k
 unfold laws_eqDiffS.f
 repeat' first
   | (with_reducible exact ih0 _ _ _)
   | (with_reducible exact LeO.refl _)
   | (with_reducible exact LeO.none _)
   | (with_reducible refine LeO.ite ?_ ?_)
   | (with_reducible refine LeO.bind ?_ (fun _ => ?_))
   | exact ih0 _ _ _
   | exact LeO.none _
   | refine LeO.ite ?_ ?_
   | refine LeO.bind ?_ (fun _ => ?_)
set_option maxHeartbeats 8000000 in
set_option maxRecDepth 100000 in
theorem laws_eqDiffS.calls (k : Nat) (A0 : Option Addr) (c0 : Nat) (l0 : List (S82)) (A1 : Option Addr) (c1 : Nat) (l1 : List (S82)) (r : Bool) (w : World) (hr0 : Kd.C k82 w A0 l0.length l0) (hc0 : l0.length ≤ c0) (hr1 : Kd.C k82 w A1 l1.length l1) (hc1 : l1.length ≤ c1) (h : laws_eqDiffS.f k l0 l1 = some r) :
  Calls Try.prog 18 #[.slice A0 l0.length c0, .slice A1 l1.length c1] w fun e w' => e = .returned (.bool r) ∧ Below w.heap.size w w' := by
 have hu82 := Try.underlying82
 have HR0 := Aside0.mk hr0
 have HC0 := Aside0.mk hc0
 clear hr0 hc0
 have HR1 := Aside0.mk hr1
 have HC1 := Aside0.mk hc1
 clear hr1 hc1
 have HB := Aside0.mk (Below.refl w.heap.size w)
 have H : (if (l0.length : Int) = (l1.length : Int) then (laws_eqDiffS.l0 k l0 l1 0) else (some false)) = some r := h
 clear h
 by_cases c3 : (l0.length : Int) = (l1.length : Int)
 ·rw [if_pos c3] at H
  have c3b0 : ((l0.length : Int) == (l1.length : Int)) = true := beq_iff_eq.mpr c3
  have c3b1 : ((l0.length : Int) != (l1.length : Int)) = false := bne_eq_false_iff_eq.mpr c3
  have c3b2 : (l0.length == l1.length) = true := by first | simpa using c3 | (simp at c3 ⊢; omega)
  clear c3
  have H' := Aside0.mk H
  clear H
  go_enter Try.func18, Try.ntmps18
  go_wp2
  go_loopg [5] k (fun kq v5 w' => ∃ (x5_1 : Int), v5 = .int .i64 x5_1 ∧ Aside0 (laws_eqDiffS.l0 kq l0 l1 x5_1 = some r) ∧ Aside0 (kq ≤ k) ∧ Aside0 (Below w.heap.size w w'))
  case atStart => exact ⟨(0), (by first | rfl | (simp; done) | (simp [*]; done)), H', ⟨Nat.le_refl _⟩, ⟨by repeat (first | (with_reducible first | exact HB.out | apply below_alloc | apply pw_below_drewN | apply below_drew1) | exact HB.out)⟩⟩
  case round =>
   clear H'
   try clear c1
   try clear p2
   try clear c3
   try clear c3b0
   try clear c3b1
   try clear c3b2
   obtain ⟨x5_1, rfl, HA, HK1, HB⟩ := hrel
   cases gk with
   | zero => exact absurd HA.out (by simp [laws_eqDiffS.l0])
   | succ k1 =>
    have H := HA.out
    clear HA
    simp only [laws_eqDiffS.l0] at H
    by_cases c4 : x5_1 < (l0.length : Int)
    ·rw [if_pos c4] at H
     have c4b0 : decide (x5_1 < (l0.length : Int)) = true := decide_eq_true c4
     clear c4
     by_cases c5 : 0 ≤ x5_1
     ·rw [if_pos c5] at H
      have c5b0 : decide (0 ≤ x5_1) = true := decide_eq_true c5
      clear c5
      by_cases c6 : x5_1 < (l1.length : Int)
      ·rw [if_pos c6] at H
       have c6b0 : decide (x5_1 < (l1.length : Int)) = true := decide_eq_true c6
       clear c6
       replace H := Option.bind_eq_some_iff.mp H
       obtain ⟨t281, A70, H⟩ := H
       replace H : (if t281 = true then (laws_eqDiffS.l0 k1 l0 l1 (wrap64 (x5_1 + 1))) else (some false)) = some r := H
       have A7 := Aside0.mk A70
       clear A70
       by_cases c8 : t281 = true
       ·subst c8
        have H1 : (laws_eqDiffS.l0 k1 l0 l1 (wrap64 (x5_1 + 1))) = some r := by rw [if_pos rfl] at H; exact H
        clear H
        have H := H1
        clear H1
        have H' := Aside0.mk H
        clear H
        try go_wp2
        have n0_ := Aside0.mk (below_drew1 HB.out)
        clear HB
        have HB := n0_
        clear n0_
        have p279 : 0 ≤ (x5_1 : Int) := of_decide_eq_true (by first | (with_reducible assumption) | assumption)
        have q279 : x5_1 < (l0.length : Int) := of_decide_eq_true (by first | (with_reducible assumption) | assumption)
        obtain ⟨ad279, e279, hx279_0, hx279_1, hx279_2, hx279_3, hx279_4⟩ := at_T82 HR0.out x5_1 p279 q279
        have hw279_4 := hx279_4
        have hw279_3 := hx279_3
        have hw279_2 := hx279_2
        have hw279_1 := hx279_1
        have hw279_0 := hx279_0
        cases e279
        replace hx279_0 := (HB.out.cell (World.block_lt_of_cell? w _ hx279_0)).trans hx279_0
        replace hx279_1 := (HB.out.cell (World.block_lt_of_cell? w _ hx279_1)).trans hx279_1
        replace hx279_2 := (HB.out.cell (World.block_lt_of_cell? w _ hx279_2)).trans hx279_2
        replace hx279_3 := (HB.out.cell (World.block_lt_of_cell? w _ hx279_3)).trans hx279_3
        replace hx279_4 := (HB.out.cell (World.block_lt_of_cell? w _ hx279_4)).trans hx279_4
        replace p279 := eq_true p279
        replace q279 := eq_true q279
        have p280 : 0 ≤ (x5_1 : Int) := of_decide_eq_true (by first | (with_reducible assumption) | assumption)
        have q280 : x5_1 < (l1.length : Int) := of_decide_eq_true (by first | (with_reducible assumption) | assumption)
        obtain ⟨ad280, e280, hx280_0, hx280_1, hx280_2, hx280_3, hx280_4⟩ := at_T82 HR1.out x5_1 p280 q280
        have hw280_4 := hx280_4
        have hw280_3 := hx280_3
        have hw280_2 := hx280_2
        have hw280_1 := hx280_1
        have hw280_0 := hx280_0
        cases e280
        replace hx280_0 := (HB.out.cell (World.block_lt_of_cell? w _ hx280_0)).trans hx280_0
        replace hx280_1 := (HB.out.cell (World.block_lt_of_cell? w _ hx280_1)).trans hx280_1
        replace hx280_2 := (HB.out.cell (World.block_lt_of_cell? w _ hx280_2)).trans hx280_2
        replace hx280_3 := (HB.out.cell (World.block_lt_of_cell? w _ hx280_3)).trans hx280_3
        replace hx280_4 := (HB.out.cell (World.block_lt_of_cell? w _ hx280_4)).trans hx280_4
        replace p280 := eq_true p280
        replace q280 := eq_true q280
        refine wp_region_later (by kernel_rfl) (by kernel_rfl) ?_
        have hL0_ := Aside0.mk (show wr.drew.cell? (ad279.add ((x5_1).toNat * 5)) = some (.string ((rd_T82 l0 x5_1).f0)) from ((HB.out.cell (World.block_lt_of_cell? w _ hw279_0)).trans hw279_0))
        have hL1_ := Aside0.mk (show wr.drew.cell? ⟨(ad279.add ((x5_1).toNat * 5)).block, (ad279.add ((x5_1).toNat * 5)).off + 1, none⟩ = some (.string ((rd_T82 l0 x5_1).f1)) from ((HB.out.cell (World.block_lt_of_cell? w _ hw279_1)).trans hw279_1))
        have hL2_ := Aside0.mk (show wr.drew.cell? ⟨(ad279.add ((x5_1).toNat * 5)).block, (ad279.add ((x5_1).toNat * 5)).off + 2, none⟩ = some (.string ((rd_T82 l0 x5_1).f2)) from ((HB.out.cell (World.block_lt_of_cell? w _ hw279_2)).trans hw279_2))
        have hL3_ := Aside0.mk (show wr.drew.cell? ⟨(ad279.add ((x5_1).toNat * 5)).block, (ad279.add ((x5_1).toNat * 5)).off + 3, none⟩ = some (.bool ((rd_T82 l0 x5_1).f3)) from ((HB.out.cell (World.block_lt_of_cell? w _ hw279_3)).trans hw279_3))
        have hL4_ := Aside0.mk (show wr.drew.cell? ⟨(ad279.add ((x5_1).toNat * 5)).block, (ad279.add ((x5_1).toNat * 5)).off + 4, none⟩ = some (.bool ((rd_T82 l0 x5_1).f4)) from ((HB.out.cell (World.block_lt_of_cell? w _ hw279_4)).trans hw279_4))
        have hL5_ := Aside0.mk (show wr.drew.cell? (ad280.add ((x5_1).toNat * 5)) = some (.string ((rd_T82 l1 x5_1).f0)) from ((HB.out.cell (World.block_lt_of_cell? w _ hw280_0)).trans hw280_0))
        have hL6_ := Aside0.mk (show wr.drew.cell? ⟨(ad280.add ((x5_1).toNat * 5)).block, (ad280.add ((x5_1).toNat * 5)).off + 1, none⟩ = some (.string ((rd_T82 l1 x5_1).f1)) from ((HB.out.cell (World.block_lt_of_cell? w _ hw280_1)).trans hw280_1))
        have hL7_ := Aside0.mk (show wr.drew.cell? ⟨(ad280.add ((x5_1).toNat * 5)).block, (ad280.add ((x5_1).toNat * 5)).off + 2, none⟩ = some (.string ((rd_T82 l1 x5_1).f2)) from ((HB.out.cell (World.block_lt_of_cell? w _ hw280_2)).trans hw280_2))
        have hL8_ := Aside0.mk (show wr.drew.cell? ⟨(ad280.add ((x5_1).toNat * 5)).block, (ad280.add ((x5_1).toNat * 5)).off + 3, none⟩ = some (.bool ((rd_T82 l1 x5_1).f3)) from ((HB.out.cell (World.block_lt_of_cell? w _ hw280_3)).trans hw280_3))
        have hL9_ := Aside0.mk (show wr.drew.cell? ⟨(ad280.add ((x5_1).toNat * 5)).block, (ad280.add ((x5_1).toNat * 5)).off + 4, none⟩ = some (.bool ((rd_T82 l1 x5_1).f4)) from ((HB.out.cell (World.block_lt_of_cell? w _ hw280_4)).trans hw280_4))
        generalize wr.drew = w9 at HB hx279_0 hx279_1 hx279_2 hx279_3 hx279_4 hx280_0 hx280_1 hx280_2 hx280_3 hx280_4 hL0_ hL1_ hL2_ hL3_ hL4_ hL5_ hL6_ hL7_ hL8_ hL9_ ⊢
        clear hx279_0 hx279_1 hx279_2 hx279_3 hx279_4 hx280_0 hx280_1 hx280_2 hx280_3 hx280_4
        have hL0 := fun (p_ : Later w9) => Later.cell p_ hL0_.out
        have hL1 := fun (p_ : Later w9) => Later.cell p_ hL1_.out
        have hL2 := fun (p_ : Later w9) => Later.cell p_ hL2_.out
        have hL3 := fun (p_ : Later w9) => Later.cell p_ hL3_.out
        have hL4 := fun (p_ : Later w9) => Later.cell p_ hL4_.out
        have hL5 := fun (p_ : Later w9) => Later.cell p_ hL5_.out
        have hL6 := fun (p_ : Later w9) => Later.cell p_ hL6_.out
        have hL7 := fun (p_ : Later w9) => Later.cell p_ hL7_.out
        have hL8 := fun (p_ : Later w9) => Later.cell p_ hL8_.out
        have hL9 := fun (p_ : Later w9) => Later.cell p_ hL9_.out
        clear hL0_ hL1_ hL2_ hL3_ hL4_ hL5_ hL6_ hL7_ hL8_ hL9_
        repeat (first | go_big_quiet_step ((first | (go_at_call 58; exact Calls.later_of (laws_eqDiff.calls ((rd_T82 l0 x5_1).f0) ((rd_T82 l0 x5_1).f1) ((rd_T82 l0 x5_1).f2) ((rd_T82 l0 x5_1).f3) ((rd_T82 l0 x5_1).f4) ((rd_T82 l1 x5_1).f0) ((rd_T82 l1 x5_1).f1) ((rd_T82 l1 x5_1).f2) ((rd_T82 l1 x5_1).f3) ((rd_T82 l1 x5_1).f4) true _ A7.out)))) | quiet_step ((first | (go_at_call 58; exact Calls.later_of (laws_eqDiff.calls ((rd_T82 l0 x5_1).f0) ((rd_T82 l0 x5_1).f1) ((rd_T82 l0 x5_1).f2) ((rd_T82 l0 x5_1).f3) ((rd_T82 l0 x5_1).f4) ((rd_T82 l1 x5_1).f0) ((rd_T82 l1 x5_1).f1) ((rd_T82 l1 x5_1).f2) ((rd_T82 l1 x5_1).f3) ((rd_T82 l1 x5_1).f4) true _ A7.out)))))
        refine wpQuiet_nil ?_
        rintro w10 ⟨⟨wq_, hbL⟩, hq_⟩
        have hq2_ : w10 = wq_ := hq_
        clear hq_
        subst hq2_
        clear hL0 hL1 hL2 hL3 hL4 hL5 hL6 hL7 hL8 hL9
        have nHB_ := Aside0.mk (below_step HB.out hbL)
        clear HB
        have HB := nHB_
        clear nHB_
        clear hbL
        try go_wp2
        go_roundg k1
        case measure => have := HK1.out; omega
        case rel => exact ⟨(wrap64 (x5_1 + 1)), (by first | rfl | (simp; done) | (simp [*]; done)), H', ⟨by have := HK1.out; omega⟩, ⟨by repeat (first | (with_reducible first | exact HB.out | apply below_alloc | apply pw_below_drewN | apply below_drew1) | exact HB.out)⟩⟩
       ·replace c8 := Bool.eq_false_iff.mpr c8
        subst c8
        have H1 : (some false) = some r := by rw [if_neg (show ¬ (false = true) by decide)] at H; exact H
        clear H
        have H := H1
        clear H1
        obtain rfl := Option.some.inj H
        try go_wp2
        have n0_ := Aside0.mk (below_drew1 HB.out)
        clear HB
        have HB := n0_
        clear n0_
        have p279 : 0 ≤ (x5_1 : Int) := of_decide_eq_true (by first | (with_reducible assumption) | assumption)
        have q279 : x5_1 < (l0.length : Int) := of_decide_eq_true (by first | (with_reducible assumption) | assumption)
        obtain ⟨ad279, e279, hx279_0, hx279_1, hx279_2, hx279_3, hx279_4⟩ := at_T82 HR0.out x5_1 p279 q279
        have hw279_4 := hx279_4
        have hw279_3 := hx279_3
        have hw279_2 := hx279_2
        have hw279_1 := hx279_1
        have hw279_0 := hx279_0
        cases e279
        replace hx279_0 := (HB.out.cell (World.block_lt_of_cell? w _ hx279_0)).trans hx279_0
        replace hx279_1 := (HB.out.cell (World.block_lt_of_cell? w _ hx279_1)).trans hx279_1
        replace hx279_2 := (HB.out.cell (World.block_lt_of_cell? w _ hx279_2)).trans hx279_2
        replace hx279_3 := (HB.out.cell (World.block_lt_of_cell? w _ hx279_3)).trans hx279_3
        replace hx279_4 := (HB.out.cell (World.block_lt_of_cell? w _ hx279_4)).trans hx279_4
        replace p279 := eq_true p279
        replace q279 := eq_true q279
        have p280 : 0 ≤ (x5_1 : Int) := of_decide_eq_true (by first | (with_reducible assumption) | assumption)
        have q280 : x5_1 < (l1.length : Int) := of_decide_eq_true (by first | (with_reducible assumption) | assumption)
        obtain ⟨ad280, e280, hx280_0, hx280_1, hx280_2, hx280_3, hx280_4⟩ := at_T82 HR1.out x5_1 p280 q280
        have hw280_4 := hx280_4
        have hw280_3 := hx280_3
        have hw280_2 := hx280_2
        have hw280_1 := hx280_1
        have hw280_0 := hx280_0
        cases e280
        replace hx280_0 := (HB.out.cell (World.block_lt_of_cell? w _ hx280_0)).trans hx280_0
        replace hx280_1 := (HB.out.cell (World.block_lt_of_cell? w _ hx280_1)).trans hx280_1
        replace hx280_2 := (HB.out.cell (World.block_lt_of_cell? w _ hx280_2)).trans hx280_2
        replace hx280_3 := (HB.out.cell (World.block_lt_of_cell? w _ hx280_3)).trans hx280_3
        replace hx280_4 := (HB.out.cell (World.block_lt_of_cell? w _ hx280_4)).trans hx280_4
        replace p280 := eq_true p280
        replace q280 := eq_true q280
        refine wp_region_later (by kernel_rfl) (by kernel_rfl) ?_
        have hL0_ := Aside0.mk (show wr.drew.cell? (ad279.add ((x5_1).toNat * 5)) = some (.string ((rd_T82 l0 x5_1).f0)) from ((HB.out.cell (World.block_lt_of_cell? w _ hw279_0)).trans hw279_0))
        have hL1_ := Aside0.mk (show wr.drew.cell? ⟨(ad279.add ((x5_1).toNat * 5)).block, (ad279.add ((x5_1).toNat * 5)).off + 1, none⟩ = some (.string ((rd_T82 l0 x5_1).f1)) from ((HB.out.cell (World.block_lt_of_cell? w _ hw279_1)).trans hw279_1))
        have hL2_ := Aside0.mk (show wr.drew.cell? ⟨(ad279.add ((x5_1).toNat * 5)).block, (ad279.add ((x5_1).toNat * 5)).off + 2, none⟩ = some (.string ((rd_T82 l0 x5_1).f2)) from ((HB.out.cell (World.block_lt_of_cell? w _ hw279_2)).trans hw279_2))
        have hL3_ := Aside0.mk (show wr.drew.cell? ⟨(ad279.add ((x5_1).toNat * 5)).block, (ad279.add ((x5_1).toNat * 5)).off + 3, none⟩ = some (.bool ((rd_T82 l0 x5_1).f3)) from ((HB.out.cell (World.block_lt_of_cell? w _ hw279_3)).trans hw279_3))
        have hL4_ := Aside0.mk (show wr.drew.cell? ⟨(ad279.add ((x5_1).toNat * 5)).block, (ad279.add ((x5_1).toNat * 5)).off + 4, none⟩ = some (.bool ((rd_T82 l0 x5_1).f4)) from ((HB.out.cell (World.block_lt_of_cell? w _ hw279_4)).trans hw279_4))
        have hL5_ := Aside0.mk (show wr.drew.cell? (ad280.add ((x5_1).toNat * 5)) = some (.string ((rd_T82 l1 x5_1).f0)) from ((HB.out.cell (World.block_lt_of_cell? w _ hw280_0)).trans hw280_0))
        have hL6_ := Aside0.mk (show wr.drew.cell? ⟨(ad280.add ((x5_1).toNat * 5)).block, (ad280.add ((x5_1).toNat * 5)).off + 1, none⟩ = some (.string ((rd_T82 l1 x5_1).f1)) from ((HB.out.cell (World.block_lt_of_cell? w _ hw280_1)).trans hw280_1))
        have hL7_ := Aside0.mk (show wr.drew.cell? ⟨(ad280.add ((x5_1).toNat * 5)).block, (ad280.add ((x5_1).toNat * 5)).off + 2, none⟩ = some (.string ((rd_T82 l1 x5_1).f2)) from ((HB.out.cell (World.block_lt_of_cell? w _ hw280_2)).trans hw280_2))
        have hL8_ := Aside0.mk (show wr.drew.cell? ⟨(ad280.add ((x5_1).toNat * 5)).block, (ad280.add ((x5_1).toNat * 5)).off + 3, none⟩ = some (.bool ((rd_T82 l1 x5_1).f3)) from ((HB.out.cell (World.block_lt_of_cell? w _ hw280_3)).trans hw280_3))
        have hL9_ := Aside0.mk (show wr.drew.cell? ⟨(ad280.add ((x5_1).toNat * 5)).block, (ad280.add ((x5_1).toNat * 5)).off + 4, none⟩ = some (.bool ((rd_T82 l1 x5_1).f4)) from ((HB.out.cell (World.block_lt_of_cell? w _ hw280_4)).trans hw280_4))
        generalize wr.drew = w11 at HB hx279_0 hx279_1 hx279_2 hx279_3 hx279_4 hx280_0 hx280_1 hx280_2 hx280_3 hx280_4 hL0_ hL1_ hL2_ hL3_ hL4_ hL5_ hL6_ hL7_ hL8_ hL9_ ⊢
        clear hx279_0 hx279_1 hx279_2 hx279_3 hx279_4 hx280_0 hx280_1 hx280_2 hx280_3 hx280_4
        have hL0 := fun (p_ : Later w11) => Later.cell p_ hL0_.out
        have hL1 := fun (p_ : Later w11) => Later.cell p_ hL1_.out
        have hL2 := fun (p_ : Later w11) => Later.cell p_ hL2_.out
        have hL3 := fun (p_ : Later w11) => Later.cell p_ hL3_.out
        have hL4 := fun (p_ : Later w11) => Later.cell p_ hL4_.out
        have hL5 := fun (p_ : Later w11) => Later.cell p_ hL5_.out
        have hL6 := fun (p_ : Later w11) => Later.cell p_ hL6_.out
        have hL7 := fun (p_ : Later w11) => Later.cell p_ hL7_.out
        have hL8 := fun (p_ : Later w11) => Later.cell p_ hL8_.out
        have hL9 := fun (p_ : Later w11) => Later.cell p_ hL9_.out
        clear hL0_ hL1_ hL2_ hL3_ hL4_ hL5_ hL6_ hL7_ hL8_ hL9_
        repeat (first | go_big_quiet_step ((first | (go_at_call 58; exact Calls.later_of (laws_eqDiff.calls ((rd_T82 l0 x5_1).f0) ((rd_T82 l0 x5_1).f1) ((rd_T82 l0 x5_1).f2) ((rd_T82 l0 x5_1).f3) ((rd_T82 l0 x5_1).f4) ((rd_T82 l1 x5_1).f0) ((rd_T82 l1 x5_1).f1) ((rd_T82 l1 x5_1).f2) ((rd_T82 l1 x5_1).f3) ((rd_T82 l1 x5_1).f4) false _ A7.out)))) | quiet_step ((first | (go_at_call 58; exact Calls.later_of (laws_eqDiff.calls ((rd_T82 l0 x5_1).f0) ((rd_T82 l0 x5_1).f1) ((rd_T82 l0 x5_1).f2) ((rd_T82 l0 x5_1).f3) ((rd_T82 l0 x5_1).f4) ((rd_T82 l1 x5_1).f0) ((rd_T82 l1 x5_1).f1) ((rd_T82 l1 x5_1).f2) ((rd_T82 l1 x5_1).f3) ((rd_T82 l1 x5_1).f4) false _ A7.out)))))
        refine wpQuiet_nil ?_
        rintro w12 ⟨⟨wq_, hbL⟩, hq_⟩
        have hq2_ : w12 = wq_ := hq_
        clear hq_
        subst hq2_
        clear hL0 hL1 hL2 hL3 hL4 hL5 hL6 hL7 hL8 hL9
        have nHB_ := Aside0.mk (below_step HB.out hbL)
        clear HB
        have HB := nHB_
        clear nHB_
        clear hbL
        try go_wp2
        go_ret
        exact ⟨by first | rfl | (simp [errW_none, errW_some] <;> rfl) | (simp [*, errW_none, errW_some] <;> rfl), by repeat (first | (with_reducible first | exact HB.out | apply below_alloc | apply pw_below_drewN | apply below_drew1) | exact HB.out)⟩
      ·rw [if_neg c6] at H
       exact absurd H (by simp)
     ·rw [if_neg c5] at H
      exact absurd H (by simp)
    ·rw [if_neg c4] at H
     have c4b0 : decide (x5_1 < (l0.length : Int)) = false := decide_eq_false c4
     clear c4
     obtain rfl := Option.some.inj H
     go_wp2
     go_ret
     exact ⟨by first | rfl | (simp [errW_none, errW_some] <;> rfl) | (simp [*, errW_none, errW_some] <;> rfl), by repeat (first | (with_reducible first | exact HB.out | apply below_alloc | apply pw_below_drewN | apply below_drew1) | exact HB.out)⟩
 ·rw [if_neg c3] at H
  have c3b0 : ((l0.length : Int) == (l1.length : Int)) = false := beq_eq_false_iff_ne.mpr c3
  have c3b1 : ((l0.length : Int) != (l1.length : Int)) = true := bne_iff_ne.mpr c3
  have c3b2 : (l0.length == l1.length) = false := by first | simpa using c3 | (simp at c3 ⊢; omega)
  obtain rfl := Option.some.inj H
  go_enter Try.func18, Try.ntmps18
  go_wp2
  go_ret
  exact ⟨by first | rfl | (simp [errW_none, errW_some] <;> rfl) | (simp [*, errW_none, errW_some] <;> rfl), by repeat (first | (with_reducible first | exact HB.out | apply below_alloc | apply pw_below_drewN | apply below_drew1) | exact HB.out)⟩
end Go.Proofs.Ytgcncphdjabjjaa.X
namespace Go.Proofs.Ytgcncphdjabjjaa.X
open Go.RowKit Go.Proofs.YtgcncphdjabjjaaW.PrintWords Go.Proofs.YtgcncphdjabjjaaW.PrintLast Go.Proofs.YtgcncphdjabjjaaW.PrintMore
attribute [local go_sem] xbin_geq xbin_leq xbin_gtr max2_int min2_int max_two min_two max_three min_three max_four min_four
set_option linter.unusedVariables false
set_option linter.unusedSimpArgs false
def laws_markText.l0 : Nat → Int → ByteArray → Option (ByteArray)
 | 0, _, _ => none
 | k + 1, x0, x3 => if x0 > 0 then ((some (([(wrap64 (48 + (Int.tmod x0 10))) % 256] : List Int) : List Int)).bind fun y282 => (if (strOfNums y282).size + x3.size ≤ 9223372036854775807 then (laws_markText.l0 k (wrap64 (Int.tdiv x0 10)) ((strOfNums y282) ++ x3)) else (none))) else (if 1 + x3.size ≤ 9223372036854775807 then (some ((⟨#[109]⟩ : ByteArray) ++ x3)) else (none))
def laws_markText.f (k : Nat) (a0 : Int) : Option (ByteArray) := if a0 ≤ 0 then (some (⟨#[109, 48]⟩ : ByteArray)) else (laws_markText.l0 k a0 (⟨#[]⟩ : ByteArray))
theorem laws_markText.mono_l : ∀ k, (∀ y0 y1, LeO (laws_markText.l0 k y0 y1) (laws_markText.l0 (k + 1) y0 y1))
 | 0 => fun _ _ r h => by simp [laws_markText.l0] at h
 | k + 1 => by
  have ih0 := laws_markText.mono_l k
  ·intro y0 y1
   unfold laws_markText.l0
   repeat' first
   | (with_reducible exact ih0 _ _)
   | (with_reducible exact LeO.refl _)
   | (with_reducible exact LeO.none _)
   | (with_reducible refine LeO.ite ?_ ?_)
   | (with_reducible refine LeO.bind ?_ (fun _ => ?_))
   | exact ih0 _ _
   | exact LeO.none _
   | refine LeO.ite ?_ ?_
   | refine LeO.bind ?_ (fun _ => ?_)
theorem laws_markText.mono : ∀ a0 k, LeO (laws_markText.f k a0) (laws_markText.f (k + 1) a0) := by
 intro a0 k
 have ih0 := laws_markText.mono_l k
 unfold laws_markText.f
 repeat' first
   | (with_reducible exact ih0 _ _)
   | (with_reducible exact LeO.refl _)
   | (with_reducible exact LeO.none _)
   | (with_reducible refine LeO.ite ?_ ?_)
   | (with_reducible refine LeO.bind ?_ (fun _ => ?_))
   | exact ih0 _ _
   | exact LeO.none _
   | refine LeO.ite ?_ ?_
   | refine LeO.bind ?_ (fun _ => ?_)
set_option maxHeartbeats 8000000 in
set_option maxRecDepth 100000 in
theorem laws_markText.calls (k : Nat) (a0 : Int) (r : ByteArray) (w : World) (h : laws_markText.f k a0 = some r) :
  Calls Try.prog 59 #[.int .i64 a0] w fun e w' => e = .returned (.string r) ∧ Below w.heap.size w w' := by
 have HB := Aside0.mk (Below.refl w.heap.size w)
 have H : (if a0 ≤ 0 then (some (⟨#[109, 48]⟩ : ByteArray)) else (laws_markText.l0 k a0 (⟨#[]⟩ : ByteArray))) = some r := h
 clear h
 by_cases c2 : a0 ≤ 0
 ·rw [if_pos c2] at H
  have c2b0 : decide (a0 ≤ 0) = true := decide_eq_true c2
  clear c2
  obtain rfl := Option.some.inj H
  go_enter Try.func59, Try.ntmps59
  go_wp2
  go_ret
  exact ⟨by first | rfl | (simp [errW_none, errW_some] <;> rfl) | (simp [*, errW_none, errW_some] <;> rfl), by repeat (first | (with_reducible first | exact HB.out | apply below_alloc | apply pw_below_drewN | apply below_drew1) | exact HB.out)⟩
 ·rw [if_neg c2] at H
  have c2b0 : decide (a0 ≤ 0) = false := decide_eq_false c2
  clear c2
  have H' := Aside0.mk H
  clear H
  go_enter Try.func59, Try.ntmps59
  go_wp2
  go_loopg [0, 3] k (fun kq v0 v3 w' => ∃ (x0_1 : Int) (x3_1 : ByteArray), v0 = .int .i64 x0_1 ∧ v3 = .string x3_1 ∧ Aside0 (laws_markText.l0 kq x0_1 x3_1 = some r) ∧ Aside0 (kq ≤ k) ∧ Aside0 (Below w.heap.size w w'))
  case atStart => exact ⟨(a0), ((⟨#[]⟩ : ByteArray)), (by first | rfl | (simp; done) | (simp [*]; done)), (by first | rfl | (simp; done) | (simp [*]; done)), H', ⟨Nat.le_refl _⟩, ⟨by repeat (first | (with_reducible first | exact HB.out | apply below_alloc | apply pw_below_drewN | apply below_drew1) | exact HB.out)⟩⟩
  case round =>
   clear H'
   try clear c2
   try clear c2b0
   try clear p2
   obtain ⟨x0_1, x3_1, rfl, rfl, HA, HK1, HB⟩ := hrel
   cases gk with
   | zero => exact absurd HA.out (by simp [laws_markText.l0])
   | succ k1 =>
    have H := HA.out
    clear HA
    simp only [laws_markText.l0] at H
    by_cases c3 : x0_1 > 0
    ·rw [if_pos c3] at H
     have c3b0 : decide (0 < x0_1) = true := decide_eq_true c3
     clear c3
     obtain ⟨y282, hy282⟩ : ∃ y_ : List Int, y_ = (([(wrap64 (48 + (Int.tmod x0_1 10))) % 256] : List Int)) := ⟨_, rfl⟩
     replace H : (if (strOfNums y282).size + x3_1.size ≤ 9223372036854775807 then (laws_markText.l0 k1 (wrap64 (Int.tdiv x0_1 10)) ((strOfNums y282) ++ x3_1)) else (none)) = some r := by first | (rw [hy282]; with_reducible exact H) | (have H2_ := (Option.bind_some _ _).symm.trans H; rw [hy282]; with_reducible exact H2_) | (have H2_ := (Option.bind_some _ _).symm.trans H; with_reducible exact H2_) | with_reducible exact H | (rw [hy282]; exact H) | exact H
     have Ny282 := Aside0.mk hy282
     clear hy282
     by_cases c4 : (strOfNums y282).size + x3_1.size ≤ 9223372036854775807
     ·rw [if_pos c4] at H
      have c4b0 := eq_true c4
      have c4b1 : decide ((strOfNums y282).size + x3_1.size ≤ 9223372036854775807) = true := decide_eq_true c4
      try have c4b2 : (9223372036854775807 < (strOfNums y282).size + x3_1.size) = False := eq_false (Nat.not_lt.2 c4)
      have H' := Aside0.mk H
      clear H
      go_wp2_with (first | ((with_reducible refine gate_dst (N := 12) rfl ?_); refine Kd.R_lit (Kd.int .u8) _ 5 ?hg (N := 12) ?hd (xs := ([(wrap64 (48 + (Int.tmod x0_1 10))) % 256] : List Int)) (inner := [.int .u8 ((wrap64 (48 + (Int.tmod x0_1 10))) % 256)]) (ok := fun _ => True) (okp := fun _ => True) ?hr ?hp (fun _ hk => hk) trivial (Below.refl _ _) (Nat.le_refl _) (by simp) ?_; (case hd => rfl); (case hg => rfl); (case hr => first | (go_simp; done) | (go_simp; rfl)); (case hp => exact (Reps.one (show Kd.M (Kd.int .u8) _ _ _ ((wrap64 (48 + (Int.tmod x0_1 10))) % 256) [.int .u8 ((wrap64 (48 + (Int.tmod x0_1 10))) % 256)] from rfl) (Reps.none _ _))); intro v283 w5 ho6 hb hg_ hnew_; clear hg_ hnew_; (first | rw [← Ny282.out] at ho6 | (simp only [Int.reduceToNat] at ho6; rw [← Ny282.out] at ho6)); have n0_ := Aside0.mk (Kd.R_lower ho6 (below_size (by repeat (first | (with_reducible first | exact HB.out | apply below_alloc | apply pw_below_drewN | apply below_drew1) | exact HB.out)))); have n1_ := Aside0.mk (below_step (by repeat (first | (with_reducible first | exact HB.out | apply below_alloc | apply pw_below_drewN | apply below_drew1) | exact HB.out)) hb); clear HB; have HO284 := n0_; have HB := n1_; clear n0_ n1_; clear hb ho6; have hcv7 := own_string (P := Try.prog) Try.underlying52 Try.underlying5 Try.underlying9 (Kd.own_of_R HO284.out)))
      go_roundg k1
      case measure => have := HK1.out; omega
      case rel => exact ⟨(wrap64 (Int.tdiv x0_1 10)), ((strOfNums y282) ++ x3_1), (by first | rfl | (simp; done) | (simp [*]; done)), (by first | rfl | (simp; done) | (simp [*]; done)), H', ⟨by have := HK1.out; omega⟩, ⟨by repeat (first | (with_reducible first | exact HB.out | apply below_alloc | apply pw_below_drewN | apply below_drew1) | exact HB.out)⟩⟩
     ·rw [if_neg c4] at H
      exact absurd H (by simp)
    ·rw [if_neg c3] at H
     have c3b0 : decide (0 < x0_1) = false := decide_eq_false c3
     clear c3
     by_cases c8 : 1 + x3_1.size ≤ 9223372036854775807
     ·rw [if_pos c8] at H
      have c8b0 := eq_true c8
      have c8b1 : decide (1 + x3_1.size ≤ 9223372036854775807) = true := decide_eq_true c8
      try have c8b2 : (9223372036854775807 < 1 + x3_1.size) = False := eq_false (Nat.not_lt.2 c8)
      obtain rfl := Option.some.inj H
      go_wp2
      go_ret
      exact ⟨by first | rfl | (simp [errW_none, errW_some] <;> rfl) | (simp [*, errW_none, errW_some] <;> rfl), by repeat (first | (with_reducible first | exact HB.out | apply below_alloc | apply pw_below_drewN | apply below_drew1) | exact HB.out)⟩
     ·rw [if_neg c8] at H
      exact absurd H (by simp)
end Go.Proofs.Ytgcncphdjabjjaa.X
