import Derived.Test.YtgcncphdjabjjaaKFnExactBackupBytes4
import Derived.Test.YtgcncphdjabjjaaKFnExactBackupBytes10
import Derived.Test.YtgcncphdjabjjaaKFnExactBackupBytes21
namespace Go.Proofs.Ytgcncphdjabjjaa.X
open Go.RowKit Go.Proofs.YtgcncphdjabjjaaW.PrintWords Go.Proofs.YtgcncphdjabjjaaW.PrintLast Go.Proofs.YtgcncphdjabjjaaW.PrintMore
attribute [local go_sem] xbin_geq xbin_leq xbin_gtr max2_int min2_int max_two min_two max_three min_three max_four min_four
set_option linter.unusedVariables false
set_option linter.unusedSimpArgs false
def laws_eqDiffS.l0 : Nat → List (S82) → List (S82) → Int → Option (Bool)
 | 0, _, _, _ => none
 | k + 1, x0, x1, x5 => if x5 < (x0.length : Int) then (if 0 ≤ x5 then (if x5 < (x1.length : Int) then ((laws_eqDiff.f ((rd_T82 x0 x5).f0) ((rd_T82 x0 x5).f1) ((rd_T82 x0 x5).f2) ((rd_T82 x0 x5).f3) ((rd_T82 x0 x5).f4) ((rd_T82 x1 x5).f0) ((rd_T82 x1 x5).f1) ((rd_T82 x1 x5).f2) ((rd_T82 x1 x5).f3) ((rd_T82 x1 x5).f4)).bind fun t281 => (if t281 = true then (laws_eqDiffS.l0 k x0 x1 (wrap64 (x5 + 1))) else (some false))) else (none)) else (none)) else (some true)
def laws_eqDiffS.f (k : Nat) (l0 : List (S82)) (l1 : List (S82)) : Option (Bool) := if (l0.length : Int) = (l1.length : Int) then (laws_eqDiffS.l0 k l0 l1 0) else (some false)
theorem laws_eqDiffS.mono_l : ∀ k, (∀ y0 y1 y2, LeO (laws_eqDiffS.l0 k y0 y1 y2) (laws_eqDiffS.l0 (k + 1) y0 y1 y2))
 | 0 => fun _ _ _ r h => by simp [laws_eqDiffS.l0] at h
 | k + 1 => by
  have ih0 := laws_eqDiffS.mono_l k
  ·intro y0 y1 y2
   unfold laws_eqDiffS.l0
   repeat' first
   | (with_reducible exact ih0 _ _ _)
   | (with_reducible exact LeO.refl _)
   | (with_reducible exact LeO.none _)
   | (with_reducible refine LeO.ite ?_ ?_)
   | (with_reducible refine LeO.bind ?_ (fun _ => ?_))
   | exact ih0 _ _ _
   | exact LeO.none _
   | refine LeO.ite ?_ ?_
   | refine LeO.bind ?_ (fun _ => ?_)
theorem laws_eqDiffS.mono : ∀ a0 a1 k, LeO (laws_eqDiffS.f k a0 a1) (laws_eqDiffS.f (k + 1) a0 a1) := by
 intro a0 a1 k
 have ih0 := laws_eqDiffS.mono_l k
 unfold laws_eqDiffS.f
 repeat' first
   | (with_reducible exact ih0 _ _ _)
   | (with_reducible exact LeO.refl _)
   | (with_reducible exact LeO.none _)
   | (with_reducible refine LeO.ite ?_ ?_)
   | (with_reducible refine LeO.bind ?_ (fun _ => ?_))
   | exact ih0 _ _ _
   | exact LeO.none _
   | refine LeO.ite ?_ ?_
   | refine LeO.bind ?_ (fun _ => ?_)
set_option maxHeartbeats 8000000 in
set_option maxRecDepth 100000 in
theorem laws_eqDiffS.calls (k : Nat) (A0 : Option Addr) (c0 : Nat) (l0 : List (S82)) (A1 : Option Addr) (c1 : Nat) (l1 : List (S82)) (r : Bool) (w : World) (hr0 : Kd.C k82 w A0 l0.length l0) (hc0 : l0.length ≤ c0) (hr1 : Kd.C k82 w A1 l1.length l1) (hc1 : l1.length ≤ c1) (h : laws_eqDiffS.f k l0 l1 = some r) :
  Calls Try.prog 18 #[.slice A0 l0.length c0, .slice A1 l1.length c1] w fun e w' => e = .returned (.bool r) ∧ Below w.heap.size w w' := by
 have hu82 := Try.underlying82
 have HR0 := Aside0.mk hr0
 have HC0 := Aside0.mk hc0
 clear hr0 hc0
 have HR1 := Aside0.mk hr1
 have HC1 := Aside0.mk hc1
 clear hr1 hc1
 have HB := Aside0.mk (Below.refl w.heap.size w)
 have H : (if (l0.length : Int) = (l1.length : Int) then (laws_eqDiffS.l0 k l0 l1 0) else (some false)) = some r := h
 clear h
 by_cases c3 : (l0.length : Int) = (l1.length : Int)
 ·rw [if_pos c3] at H
  have c3b0 : ((l0.length : Int) == (l1.length : Int)) = true := beq_iff_eq.mpr c3
  have c3b1 : ((l0.length : Int) != (l1.length : Int)) = false := bne_eq_false_iff_eq.mpr c3
  have c3b2 : (l0.length == l1.length) = true := by first | simpa using c3 | (simp at c3 ⊢; omega)
  clear c3
  have H' := Aside0.mk H
  clear H
  go_enter Try.func18, Try.ntmps18
  go_wp2
  go_loopg [5] k (fun kq v5 w' => ∃ (x5_1 : Int), v5 = .int .i64 x5_1 ∧ Aside0 (laws_eqDiffS.l0 kq l0 l1 x5_1 = some r) ∧ Aside0 (kq ≤ k) ∧ Aside0 (Below w.heap.size w w'))
  case atStart => exact ⟨(0), (by first | rfl | (simp; done) | (simp [*]; done)), H', ⟨Nat.le_refl _⟩, ⟨by repeat (first | (with_reducible first | exact HB.out | apply below_alloc | apply pw_below_drewN | apply below_drew1) | exact HB.out)⟩⟩
  case round =>
   clear H'
   try clear c1
   try clear p2
   try clear c3
   try clear c3b0
   try clear c3b1
   try clear c3b2
   obtain ⟨x5_1, rfl, HA, HK1, HB⟩ := hrel
   cases gk with
   | zero => exact absurd HA.out (by simp [laws_eqDiffS.l0])
   | succ k1 =>
    have H := HA.out
    clear HA
    simp only [laws_eqDiffS.l0] at H
    by_cases c4 : x5_1 < (l0.length : Int)
    ·rw [if_pos c4] at H
     have c4b0 : decide (x5_1 < (l0.length : Int)) = true := decide_eq_true c4
     clear c4
     by_cases c5 : 0 ≤ x5_1
     ·rw [if_pos c5] at H
      have c5b0 : decide (0 ≤ x5_1) = true := decide_eq_true c5
      clear c5
      by_cases c6 : x5_1 < (l1.length : Int)
      ·rw [if_pos c6] at H
       have c6b0 : decide (x5_1 < (l1.length : Int)) = true := decide_eq_true c6
       clear c6
       replace H := Option.bind_eq_some_iff.mp H
       obtain ⟨t281, A70, H⟩ := H
       replace H : (if t281 = true then (laws_eqDiffS.l0 k1 l0 l1 (wrap64 (x5_1 + 1))) else (some false)) = some r := H
       have A7 := Aside0.mk A70
       clear A70
       by_cases c8 : t281 = true
       ·subst c8
        have H1 : (laws_eqDiffS.l0 k1 l0 l1 (wrap64 (x5_1 + 1))) = some r := by rw [if_pos rfl] at H; exact H
        clear H
        have H := H1
        clear H1
        have H' := Aside0.mk H
        clear H
        try go_wp2
        have n0_ := Aside0.mk (below_drew1 HB.out)
        clear HB
        have HB := n0_
        clear n0_
        have p279 : 0 ≤ (x5_1 : Int) := of_decide_eq_true (by first | (with_reducible assumption) | assumption)
        have q279 : x5_1 < (l0.length : Int) := of_decide_eq_true (by first | (with_reducible assumption) | assumption)
        obtain ⟨ad279, e279, hx279_0, hx279_1, hx279_2, hx279_3, hx279_4⟩ := at_T82 HR0.out x5_1 p279 q279
        have hw279_4 := hx279_4
        have hw279_3 := hx279_3
        have hw279_2 := hx279_2
        have hw279_1 := hx279_1
        have hw279_0 := hx279_0
        cases e279
        replace hx279_0 := (HB.out.cell (World.block_lt_of_cell? w _ hx279_0)).trans hx279_0
        replace hx279_1 := (HB.out.cell (World.block_lt_of_cell? w _ hx279_1)).trans hx279_1
        replace hx279_2 := (HB.out.cell (World.block_lt_of_cell? w _ hx279_2)).trans hx279_2
        replace hx279_3 := (HB.out.cell (World.block_lt_of_cell? w _ hx279_3)).trans hx279_3
        replace hx279_4 := (HB.out.cell (World.block_lt_of_cell? w _ hx279_4)).trans hx279_4
        replace p279 := eq_true p279
        replace q279 := eq_true q279
        have p280 : 0 ≤ (x5_1 : Int) := of_decide_eq_true (by first | (with_reducible assumption) | assumption)
        have q280 : x5_1 < (l1.length : Int) := of_decide_eq_true (by first | (with_reducible assumption) | assumption)
        obtain ⟨ad280, e280, hx280_0, hx280_1, hx280_2, hx280_3, hx280_4⟩ := at_T82 HR1.out x5_1 p280 q280
        have hw280_4 := hx280_4
        have hw280_3 := hx280_3
        have hw280_2 := hx280_2
        have hw280_1 := hx280_1
        have hw280_0 := hx280_0
        cases e280
        replace hx280_0 := (HB.out.cell (World.block_lt_of_cell? w _ hx280_0)).trans hx280_0
        replace hx280_1 := (HB.out.cell (World.block_lt_of_cell? w _ hx280_1)).trans hx280_1
        replace hx280_2 := (HB.out.cell (World.block_lt_of_cell? w _ hx280_2)).trans hx280_2
        replace hx280_3 := (HB.out.cell (World.block_lt_of_cell? w _ hx280_3)).trans hx280_3
        replace hx280_4 := (HB.out.cell (World.block_lt_of_cell? w _ hx280_4)).trans hx280_4
        replace p280 := eq_true p280
        replace q280 := eq_true q280
        refine wp_region_later (by kernel_rfl) (by kernel_rfl) ?_
        have hL0_ := Aside0.mk (show wr.drew.cell? (ad279.add ((x5_1).toNat * 5)) = some (.string ((rd_T82 l0 x5_1).f0)) from ((HB.out.cell (World.block_lt_of_cell? w _ hw279_0)).trans hw279_0))
        have hL1_ := Aside0.mk (show wr.drew.cell? ⟨(ad279.add ((x5_1).toNat * 5)).block, (ad279.add ((x5_1).toNat * 5)).off + 1, none⟩ = some (.string ((rd_T82 l0 x5_1).f1)) from ((HB.out.cell (World.block_lt_of_cell? w _ hw279_1)).trans hw279_1))
        have hL2_ := Aside0.mk (show wr.drew.cell? ⟨(ad279.add ((x5_1).toNat * 5)).block, (ad279.add ((x5_1).toNat * 5)).off + 2, none⟩ = some (.string ((rd_T82 l0 x5_1).f2)) from ((HB.out.cell (World.block_lt_of_cell? w _ hw279_2)).trans hw279_2))
        have hL3_ := Aside0.mk (show wr.drew.cell? ⟨(ad279.add ((x5_1).toNat * 5)).block, (ad279.add ((x5_1).toNat * 5)).off + 3, none⟩ = some (.bool ((rd_T82 l0 x5_1).f3)) from ((HB.out.cell (World.block_lt_of_cell? w _ hw279_3)).trans hw279_3))
        have hL4_ := Aside0.mk (show wr.drew.cell? ⟨(ad279.add ((x5_1).toNat * 5)).block, (ad279.add ((x5_1).toNat * 5)).off + 4, none⟩ = some (.bool ((rd_T82 l0 x5_1).f4)) from ((HB.out.cell (World.block_lt_of_cell? w _ hw279_4)).trans hw279_4))
        have hL5_ := Aside0.mk (show wr.drew.cell? (ad280.add ((x5_1).toNat * 5)) = some (.string ((rd_T82 l1 x5_1).f0)) from ((HB.out.cell (World.block_lt_of_cell? w _ hw280_0)).trans hw280_0))
        have hL6_ := Aside0.mk (show wr.drew.cell? ⟨(ad280.add ((x5_1).toNat * 5)).block, (ad280.add ((x5_1).toNat * 5)).off + 1, none⟩ = some (.string ((rd_T82 l1 x5_1).f1)) from ((HB.out.cell (World.block_lt_of_cell? w _ hw280_1)).trans hw280_1))
        have hL7_ := Aside0.mk (show wr.drew.cell? ⟨(ad280.add ((x5_1).toNat * 5)).block, (ad280.add ((x5_1).toNat * 5)).off + 2, none⟩ = some (.string ((rd_T82 l1 x5_1).f2)) from ((HB.out.cell (World.block_lt_of_cell? w _ hw280_2)).trans hw280_2))
        have hL8_ := Aside0.mk (show wr.drew.cell? ⟨(ad280.add ((x5_1).toNat * 5)).block, (ad280.add ((x5_1).toNat * 5)).off + 3, none⟩ = some (.bool ((rd_T82 l1 x5_1).f3)) from ((HB.out.cell (World.block_lt_of_cell? w _ hw280_3)).trans hw280_3))
        have hL9_ := Aside0.mk (show wr.drew.cell? ⟨(ad280.add ((x5_1).toNat * 5)).block, (ad280.add ((x5_1).toNat * 5)).off + 4, none⟩ = some (.bool ((rd_T82 l1 x5_1).f4)) from ((HB.out.cell (World.block_lt_of_cell? w _ hw280_4)).trans hw280_4))
        generalize wr.drew = w9 at HB hx279_0 hx279_1 hx279_2 hx279_3 hx279_4 hx280_0 hx280_1 hx280_2 hx280_3 hx280_4 hL0_ hL1_ hL2_ hL3_ hL4_ hL5_ hL6_ hL7_ hL8_ hL9_ ⊢
        clear hx279_0 hx279_1 hx279_2 hx279_3 hx279_4 hx280_0 hx280_1 hx280_2 hx280_3 hx280_4
        have hL0 := fun (p_ : Later w9) => Later.cell p_ hL0_.out
        have hL1 := fun (p_ : Later w9) => Later.cell p_ hL1_.out
        have hL2 := fun (p_ : Later w9) => Later.cell p_ hL2_.out
        have hL3 := fun (p_ : Later w9) => Later.cell p_ hL3_.out
        have hL4 := fun (p_ : Later w9) => Later.cell p_ hL4_.out
        have hL5 := fun (p_ : Later w9) => Later.cell p_ hL5_.out
        have hL6 := fun (p_ : Later w9) => Later.cell p_ hL6_.out
        have hL7 := fun (p_ : Later w9) => Later.cell p_ hL7_.out
        have hL8 := fun (p_ : Later w9) => Later.cell p_ hL8_.out
        have hL9 := fun (p_ : Later w9) => Later.cell p_ hL9_.out
        clear hL0_ hL1_ hL2_ hL3_ hL4_ hL5_ hL6_ hL7_ hL8_ hL9_
        repeat (first | go_big_quiet_step ((first | (go_at_call 58; exact Calls.later_of (laws_eqDiff.calls ((rd_T82 l0 x5_1).f0) ((rd_T82 l0 x5_1).f1) ((rd_T82 l0 x5_1).f2) ((rd_T82 l0 x5_1).f3) ((rd_T82 l0 x5_1).f4) ((rd_T82 l1 x5_1).f0) ((rd_T82 l1 x5_1).f1) ((rd_T82 l1 x5_1).f2) ((rd_T82 l1 x5_1).f3) ((rd_T82 l1 x5_1).f4) true _ A7.out)))) | quiet_step ((first | (go_at_call 58; exact Calls.later_of (laws_eqDiff.calls ((rd_T82 l0 x5_1).f0) ((rd_T82 l0 x5_1).f1) ((rd_T82 l0 x5_1).f2) ((rd_T82 l0 x5_1).f3) ((rd_T82 l0 x5_1).f4) ((rd_T82 l1 x5_1).f0) ((rd_T82 l1 x5_1).f1) ((rd_T82 l1 x5_1).f2) ((rd_T82 l1 x5_1).f3) ((rd_T82 l1 x5_1).f4) true _ A7.out)))))
        refine wpQuiet_nil ?_
        rintro w10 ⟨⟨wq_, hbL⟩, hq_⟩
        have hq2_ : w10 = wq_ := hq_
        clear hq_
        subst hq2_
        clear hL0 hL1 hL2 hL3 hL4 hL5 hL6 hL7 hL8 hL9
        have nHB_ := Aside0.mk (below_step HB.out hbL)
        clear HB
        have HB := nHB_
        clear nHB_
        clear hbL
        try go_wp2
        go_roundg k1
        case measure => have := HK1.out; omega
        case rel => exact ⟨(wrap64 (x5_1 + 1)), (by first | rfl | (simp; done) | (simp [*]; done)), H', ⟨by have := HK1.out; omega⟩, ⟨by repeat (first | (with_reducible first | exact HB.out | apply below_alloc | apply pw_below_drewN | apply below_drew1) | exact HB.out)⟩⟩
       ·replace c8 := Bool.eq_false_iff.mpr c8
        subst c8
        have H1 : (some false) = some r := by rw [if_neg (show ¬ (false = true) by decide)] at H; exact H
        clear H
        have H := H1
        clear H1
        obtain rfl := Option.some.inj H
        try go_wp2
        have n0_ := Aside0.mk (below_drew1 HB.out)
        clear HB
        have HB := n0_
        clear n0_
        have p279 : 0 ≤ (x5_1 : Int) := of_decide_eq_true (by first | (with_reducible assumption) | assumption)
        have q279 : x5_1 < (l0.length : Int) := of_decide_eq_true (by first | (with_reducible assumption) | assumption)
        obtain ⟨ad279, e279, hx279_0, hx279_1, hx279_2, hx279_3, hx279_4⟩ := at_T82 HR0.out x5_1 p279 q279
        have hw279_4 := hx279_4
        have hw279_3 := hx279_3
        have hw279_2 := hx279_2
        have hw279_1 := hx279_1
        have hw279_0 := hx279_0
        cases e279
        replace hx279_0 := (HB.out.cell (World.block_lt_of_cell? w _ hx279_0)).trans hx279_0
        replace hx279_1 := (HB.out.cell (World.block_lt_of_cell? w _ hx279_1)).trans hx279_1
        replace hx279_2 := (HB.out.cell (World.block_lt_of_cell? w _ hx279_2)).trans hx279_2
        replace hx279_3 := (HB.out.cell (World.block_lt_of_cell? w _ hx279_3)).trans hx279_3
        replace hx279_4 := (HB.out.cell (World.block_lt_of_cell? w _ hx279_4)).trans hx279_4
        replace p279 := eq_true p279
        replace q279 := eq_true q279
        have p280 : 0 ≤ (x5_1 : Int) := of_decide_eq_true (by first | (with_reducible assumption) | assumption)
        have q280 : x5_1 < (l1.length : Int) := of_decide_eq_true (by first | (with_reducible assumption) | assumption)
        obtain ⟨ad280, e280, hx280_0, hx280_1, hx280_2, hx280_3, hx280_4⟩ := at_T82 HR1.out x5_1 p280 q280
        have hw280_4 := hx280_4
        have hw280_3 := hx280_3
        have hw280_2 := hx280_2
        have hw280_1 := hx280_1
        have hw280_0 := hx280_0
        cases e280
        replace hx280_0 := (HB.out.cell (World.block_lt_of_cell? w _ hx280_0)).trans hx280_0
        replace hx280_1 := (HB.out.cell (World.block_lt_of_cell? w _ hx280_1)).trans hx280_1
        replace hx280_2 := (HB.out.cell (World.block_lt_of_cell? w _ hx280_2)).trans hx280_2
        replace hx280_3 := (HB.out.cell (World.block_lt_of_cell? w _ hx280_3)).trans hx280_3
        replace hx280_4 := (HB.out.cell (World.block_lt_of_cell? w _ hx280_4)).trans hx280_4
        replace p280 := eq_true p280
        replace q280 := eq_true q280
        refine wp_region_later (by kernel_rfl) (by kernel_rfl) ?_
        have hL0_ := Aside0.mk (show wr.drew.cell? (ad279.add ((x5_1).toNat * 5)) = some (.string ((rd_T82 l0 x5_1).f0)) from ((HB.out.cell (World.block_lt_of_cell? w _ hw279_0)).trans hw279_0))
        have hL1_ := Aside0.mk (show wr.drew.cell? ⟨(ad279.add ((x5_1).toNat * 5)).block, (ad279.add ((x5_1).toNat * 5)).off + 1, none⟩ = some (.string ((rd_T82 l0 x5_1).f1)) from ((HB.out.cell (World.block_lt_of_cell? w _ hw279_1)).trans hw279_1))
        have hL2_ := Aside0.mk (show wr.drew.cell? ⟨(ad279.add ((x5_1).toNat * 5)).block, (ad279.add ((x5_1).toNat * 5)).off + 2, none⟩ = some (.string ((rd_T82 l0 x5_1).f2)) from ((HB.out.cell (World.block_lt_of_cell? w _ hw279_2)).trans hw279_2))
        have hL3_ := Aside0.mk (show wr.drew.cell? ⟨(ad279.add ((x5_1).toNat * 5)).block, (ad279.add ((x5_1).toNat * 5)).off + 3, none⟩ = some (.bool ((rd_T82 l0 x5_1).f3)) from ((HB.out.cell (World.block_lt_of_cell? w _ hw279_3)).trans hw279_3))
        have hL4_ := Aside0.mk (show wr.drew.cell? ⟨(ad279.add ((x5_1).toNat * 5)).block, (ad279.add ((x5_1).toNat * 5)).off + 4, none⟩ = some (.bool ((rd_T82 l0 x5_1).f4)) from ((HB.out.cell (World.block_lt_of_cell? w _ hw279_4)).trans hw279_4))
        have hL5_ := Aside0.mk (show wr.drew.cell? (ad280.add ((x5_1).toNat * 5)) = some (.string ((rd_T82 l1 x5_1).f0)) from ((HB.out.cell (World.block_lt_of_cell? w _ hw280_0)).trans hw280_0))
        have hL6_ := Aside0.mk (show wr.drew.cell? ⟨(ad280.add ((x5_1).toNat * 5)).block, (ad280.add ((x5_1).toNat * 5)).off + 1, none⟩ = some (.string ((rd_T82 l1 x5_1).f1)) from ((HB.out.cell (World.block_lt_of_cell? w _ hw280_1)).trans hw280_1))
        have hL7_ := Aside0.mk (show wr.drew.cell? ⟨(ad280.add ((x5_1).toNat * 5)).block, (ad280.add ((x5_1).toNat * 5)).off + 2, none⟩ = some (.string ((rd_T82 l1 x5_1).f2)) from ((HB.out.cell (World.block_lt_of_cell? w _ hw280_2)).trans hw280_2))
        have hL8_ := Aside0.mk (show wr.drew.cell? ⟨(ad280.add ((x5_1).toNat * 5)).block, (ad280.add ((x5_1).toNat * 5)).off + 3, none⟩ = some (.bool ((rd_T82 l1 x5_1).f3)) from ((HB.out.cell (World.block_lt_of_cell? w _ hw280_3)).trans hw280_3))
        have hL9_ := Aside0.mk (show wr.drew.cell? ⟨(ad280.add ((x5_1).toNat * 5)).block, (ad280.add ((x5_1).toNat * 5)).off + 4, none⟩ = some (.bool ((rd_T82 l1 x5_1).f4)) from ((HB.out.cell (World.block_lt_of_cell? w _ hw280_4)).trans hw280_4))
        generalize wr.drew = w11 at HB hx279_0 hx279_1 hx279_2 hx279_3 hx279_4 hx280_0 hx280_1 hx280_2 hx280_3 hx280_4 hL0_ hL1_ hL2_ hL3_ hL4_ hL5_ hL6_ hL7_ hL8_ hL9_ ⊢
        clear hx279_0 hx279_1 hx279_2 hx279_3 hx279_4 hx280_0 hx280_1 hx280_2 hx280_3 hx280_4
        have hL0 := fun (p_ : Later w11) => Later.cell p_ hL0_.out
        have hL1 := fun (p_ : Later w11) => Later.cell p_ hL1_.out
        have hL2 := fun (p_ : Later w11) => Later.cell p_ hL2_.out
        have hL3 := fun (p_ : Later w11) => Later.cell p_ hL3_.out
        have hL4 := fun (p_ : Later w11) => Later.cell p_ hL4_.out
        have hL5 := fun (p_ : Later w11) => Later.cell p_ hL5_.out
        have hL6 := fun (p_ : Later w11) => Later.cell p_ hL6_.out
        have hL7 := fun (p_ : Later w11) => Later.cell p_ hL7_.out
        have hL8 := fun (p_ : Later w11) => Later.cell p_ hL8_.out
        have hL9 := fun (p_ : Later w11) => Later.cell p_ hL9_.out
        clear hL0_ hL1_ hL2_ hL3_ hL4_ hL5_ hL6_ hL7_ hL8_ hL9_
        repeat (first | go_big_quiet_step ((first | (go_at_call 58; exact Calls.later_of (laws_eqDiff.calls ((rd_T82 l0 x5_1).f0) ((rd_T82 l0 x5_1).f1) ((rd_T82 l0 x5_1).f2) ((rd_T82 l0 x5_1).f3) ((rd_T82 l0 x5_1).f4) ((rd_T82 l1 x5_1).f0) ((rd_T82 l1 x5_1).f1) ((rd_T82 l1 x5_1).f2) ((rd_T82 l1 x5_1).f3) ((rd_T82 l1 x5_1).f4) false _ A7.out)))) | quiet_step ((first | (go_at_call 58; exact Calls.later_of (laws_eqDiff.calls ((rd_T82 l0 x5_1).f0) ((rd_T82 l0 x5_1).f1) ((rd_T82 l0 x5_1).f2) ((rd_T82 l0 x5_1).f3) ((rd_T82 l0 x5_1).f4) ((rd_T82 l1 x5_1).f0) ((rd_T82 l1 x5_1).f1) ((rd_T82 l1 x5_1).f2) ((rd_T82 l1 x5_1).f3) ((rd_T82 l1 x5_1).f4) false _ A7.out)))))
        refine wpQuiet_nil ?_
        rintro w12 ⟨⟨wq_, hbL⟩, hq_⟩
        have hq2_ : w12 = wq_ := hq_
        clear hq_
        subst hq2_
        clear hL0 hL1 hL2 hL3 hL4 hL5 hL6 hL7 hL8 hL9
        have nHB_ := Aside0.mk (below_step HB.out hbL)
        clear HB
        have HB := nHB_
        clear nHB_
        clear hbL
        try go_wp2
        go_ret
        exact ⟨by first | rfl | (simp [errW_none, errW_some] <;> rfl) | (simp [*, errW_none, errW_some] <;> rfl), by repeat (first | (with_reducible first | exact HB.out | apply below_alloc | apply pw_below_drewN | apply below_drew1) | exact HB.out)⟩
      ·rw [if_neg c6] at H
       exact absurd H (by simp)
     ·rw [if_neg c5] at H
      exact absurd H (by simp)
    ·rw [if_neg c4] at H
     have c4b0 : decide (x5_1 < (l0.length : Int)) = false := decide_eq_false c4
     clear c4
     obtain rfl := Option.some.inj H
     go_wp2
     go_ret
     exact ⟨by first | rfl | (simp [errW_none, errW_some] <;> rfl) | (simp [*, errW_none, errW_some] <;> rfl), by repeat (first | (with_reducible first | exact HB.out | apply below_alloc | apply pw_below_drewN | apply below_drew1) | exact HB.out)⟩
 ·rw [if_neg c3] at H
  have c3b0 : ((l0.length : Int) == (l1.length : Int)) = false := beq_eq_false_iff_ne.mpr c3
  have c3b1 : ((l0.length : Int) != (l1.length : Int)) = true := bne_iff_ne.mpr c3
  have c3b2 : (l0.length == l1.length) = false := by first | simpa using c3 | (simp at c3 ⊢; omega)
  obtain rfl := Option.some.inj H
  go_enter Try.func18, Try.ntmps18
  go_wp2
  go_ret
  exact ⟨by first | rfl | (simp [errW_none, errW_some] <;> rfl) | (simp [*, errW_none, errW_some] <;> rfl), by repeat (first | (with_reducible first | exact HB.out | apply below_alloc | apply pw_below_drewN | apply below_drew1) | exact HB.out)⟩
end Go.Proofs.Ytgcncphdjabjjaa.X
namespace Go.Proofs.Ytgcncphdjabjjaa.X
open Go.RowKit Go.Proofs.YtgcncphdjabjjaaW.PrintWords Go.Proofs.YtgcncphdjabjjaaW.PrintLast Go.Proofs.YtgcncphdjabjjaaW.PrintMore
attribute [local go_sem] xbin_geq xbin_leq xbin_gtr max2_int min2_int max_two min_two max_three min_three max_four min_four
set_option linter.unusedVariables false
set_option linter.unusedSimpArgs false
theorem eq_DiffS_loop (rest : List S82) : ∀ (pre : List S82), (pre ++ rest).length ≤ 9223372036854775807 → (∀ y ∈ rest, len82 y) → Ev (fun k => laws_eqDiffS.l0 k (pre ++ rest) (pre ++ rest) ((pre.length : Nat) : Int)) true := by
  induction rest with
  | nil =>
    intro pre hl hs
    refine Ev.succ ?_
    simp only [laws_eqDiffS.l0]
    exact Ev.neg (by simp) (Ev.is rfl)
  | cons x rest ih =>
    intro pre hl hs
    have hx : rd_T82 (pre ++ x :: rest) ((pre.length : Nat) : Int) = x := by simp [rd_T82, List.getD_eq_getElem?_getD]
    have hlt : ((pre.length : Nat) : Int) < ((pre ++ x :: rest).length : Int) := by simp; omega
    have hwp : wrap64 (((pre.length : Nat) : Int) + 1) = (((pre ++ [x]).length : Nat) : Int) := by rw [← len_snoc]; exact wrap_at (by simp at hl; omega)
    have e1 : pre ++ x :: rest = (pre ++ [x]) ++ rest := by simp
    have hi := ih (pre ++ [x]) (by rw [← e1]; exact hl) (fun y hy => hs y (List.mem_cons_of_mem _ hy))
    rw [← e1] at hi
    refine Ev.succ ?_
    simp only [laws_eqDiffS.l0, hx, hwp]
    exact Ev.pos hlt (Ev.pos (by omega) (Ev.pos hlt (Ev.bind (eq_Diff x (hs x List.mem_cons_self)) (Ev.pos rfl hi))))
theorem eq_DiffS (l : List S82) (h : l.length ≤ 9223372036854775807 ∧ ∀ y ∈ l, len82 y) : Ev (fun k => laws_eqDiffS.f k l l) true := by
  unfold laws_eqDiffS.f
  have hh := eq_DiffS_loop l [] (by simpa using h.1) h.2
  exact Ev.pos rfl (by simpa using hh)
end Go.Proofs.Ytgcncphdjabjjaa.X
