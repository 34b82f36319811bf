import Derived.Test.YtgcncphdjabjjaaKFnExactBackupOK3
import Derived.Test.YtgcncphdjabjjaaKFnExactBackupOK4
import Derived.Test.YtgcncphdjabjjaaKFnExactBackupOK13
namespace Go.Proofs.Ytgcncphdjabjjaa.X
open Go.RowKit Go.Proofs.YtgcncphdjabjjaaW.PrintWords Go.Proofs.YtgcncphdjabjjaaW.PrintLast Go.Proofs.YtgcncphdjabjjaaW.PrintMore
attribute [local go_sem] xbin_geq xbin_leq xbin_gtr max2_int min2_int max_two min_two max_three min_three max_four min_four
set_option linter.unusedVariables false
set_option linter.unusedSimpArgs false
def laws_eqDiffS.l0 : Nat → List (S82) → List (S82) → Int → Option (Bool)
 | 0, _, _, _ => none
 | k + 1, x0, x1, x5 => if x5 < (x0.length : Int) then (if 0 ≤ x5 then (if x5 < (x1.length : Int) then ((laws_eqDiff.f ((rd_T82 x0 x5).f0) ((rd_T82 x0 x5).f1) ((rd_T82 x0 x5).f2) ((rd_T82 x0 x5).f3) ((rd_T82 x0 x5).f4) ((rd_T82 x1 x5).f0) ((rd_T82 x1 x5).f1) ((rd_T82 x1 x5).f2) ((rd_T82 x1 x5).f3) ((rd_T82 x1 x5).f4)).bind fun t275 => (if t275 = true then (laws_eqDiffS.l0 k x0 x1 (wrap64 (x5 + 1))) else (some false))) else (none)) else (none)) else (some true)
def laws_eqDiffS.f (k : Nat) (l0 : List (S82)) (l1 : List (S82)) : Option (Bool) := if (l0.length : Int) = (l1.length : Int) then (laws_eqDiffS.l0 k l0 l1 0) else (some false)
theorem laws_eqDiffS.mono_l : ∀ k, (∀ y0 y1 y2, LeO (laws_eqDiffS.l0 k y0 y1 y2) (laws_eqDiffS.l0 (k + 1) y0 y1 y2))
 | 0 => fun _ _ _ r h => by simp [laws_eqDiffS.l0] at h
 | k + 1 => by
  have ih0 := laws_eqDiffS.mono_l k
  ·intro y0 y1 y2
   unfold laws_eqDiffS.l0
   repeat' first
   | (with_reducible exact ih0 _ _ _)
   | (with_reducible exact LeO.refl _)
   | (with_reducible exact LeO.none _)
   | (with_reducible refine LeO.ite ?_ ?_)
   | (with_reducible refine LeO.bind ?_ (fun _ => ?_))
   | exact ih0 _ _ _
   | exact LeO.none _
   | refine LeO.ite ?_ ?_
   | refine LeO.bind ?_ (fun _ => ?_)
theorem laws_eqDiffS.mono : ∀ a0 a1 k, LeO (laws_eqDiffS.f k a0 a1) (laws_eqDiffS.f (k + 1) a0 a1) := by
 intro a0 a1 k
 have ih0 := laws_eqDiffS.mono_l k
 unfold laws_eqDiffS.f
 repeat' first
   | (with_reducible exact ih0 _ _ _)
   | (with_reducible exact LeO.refl _)
   | (with_reducible exact LeO.none _)
   | (with_reducible refine LeO.ite ?_ ?_)
   | (with_reducible refine LeO.bind ?_ (fun _ => ?_))
   | exact ih0 _ _ _
   | exact LeO.none _
   | refine LeO.ite ?_ ?_
   | refine LeO.bind ?_ (fun _ => ?_)
set_option maxHeartbeats 8000000 in
set_option maxRecDepth 100000 in
theorem laws_eqDiffS.calls (k : Nat) (A0 : Option Addr) (c0 : Nat) (l0 : List (S82)) (A1 : Option Addr) (c1 : Nat) (l1 : List (S82)) (r : Bool) (w : World) (hr0 : Kd.C k82 w A0 l0.length l0) (hc0 : l0.length ≤ c0) (hr1 : Kd.C k82 w A1 l1.length l1) (hc1 : l1.length ≤ c1) (h : laws_eqDiffS.f k l0 l1 = some r) :
  Calls Try.prog 18 #[.slice A0 l0.length c0, .slice A1 l1.length c1] w fun e w' => e = .returned (.bool r) ∧ Below w.heap.size w w' := by
 have hu82 := Try.underlying82
 have HR0 := Aside0.mk hr0
 have HC0 := Aside0.mk hc0
 clear hr0 hc0
 have HR1 := Aside0.mk hr1
 have HC1 := Aside0.mk hc1
 clear hr1 hc1
 have HB := Aside0.mk (Below.refl w.heap.size w)
 have H : (if (l0.length : Int) = (l1.length : Int) then (laws_eqDiffS.l0 k l0 l1 0) else (some false)) = some r := h
 clear h
 by_cases c3 : (l0.length : Int) = (l1.length : Int)
 ·rw [if_pos c3] at H
  have c3b0 : ((l0.length : Int) == (l1.length : Int)) = true := beq_iff_eq.mpr c3
  have c3b1 : ((l0.length : Int) != (l1.length : Int)) = false := bne_eq_false_iff_eq.mpr c3
  have c3b2 : (l0.length == l1.length) = true := by first | simpa using c3 | (simp at c3 ⊢; omega)
  clear c3
  have H' := Aside0.mk H
  clear H
  go_enter Try.func18, Try.ntmps18
  go_wp2
  go_loopg [5] k (fun kq v5 w' => ∃ (x5_1 : Int), v5 = .int .i64 x5_1 ∧ Aside0 (laws_eqDiffS.l0 kq l0 l1 x5_1 = some r) ∧ Aside0 (kq ≤ k) ∧ Aside0 (Below w.heap.size w w'))
  case atStart => exact ⟨(0), (by first | rfl | (simp; done) | (simp [*]; done)), H', ⟨Nat.le_refl _⟩, ⟨by repeat (first | (with_reducible first | exact HB.out | apply below_alloc | apply pw_below_drewN | apply below_drew1) | exact HB.out)⟩⟩
  case round =>
   clear H'
   try clear c1
   try clear p2
   try clear c3
   try clear c3b0
   try clear c3b1
   try clear c3b2
   obtain ⟨x5_1, rfl, HA, HK1, HB⟩ := hrel
   cases gk with
   | zero => exact absurd HA.out (by simp [laws_eqDiffS.l0])
   | succ k1 =>
    have H := HA.out
    clear HA
    simp only [laws_eqDiffS.l0] at H
    by_cases c4 : x5_1 < (l0.length : Int)
    ·rw [if_pos c4] at H
     have c4b0 : decide (x5_1 < (l0.length : Int)) = true := decide_eq_true c4
     clear c4
     by_cases c5 : 0 ≤ x5_1
     ·rw [if_pos c5] at H
      have c5b0 : decide (0 ≤ x5_1) = true := decide_eq_true c5
      clear c5
      by_cases c6 : x5_1 < (l1.length : Int)
      ·rw [if_pos c6] at H
       have c6b0 : decide (x5_1 < (l1.length : Int)) = true := decide_eq_true c6
       clear c6
       replace H := Option.bind_eq_some_iff.mp H
       obtain ⟨t275, A70, H⟩ := H
       replace H : (if t275 = true then (laws_eqDiffS.l0 k1 l0 l1 (wrap64 (x5_1 + 1))) else (some false)) = some r := H
       have A7 := Aside0.mk A70
       clear A70
       by_cases c8 : t275 = true
       ·subst c8
        have H1 : (laws_eqDiffS.l0 k1 l0 l1 (wrap64 (x5_1 + 1))) = some r := by rw [if_pos rfl] at H; exact H
        clear H
        have H := H1
        clear H1
        have H' := Aside0.mk H
        clear H
        try go_wp2
        have n0_ := Aside0.mk (below_drew1 HB.out)
        clear HB
        have HB := n0_
        clear n0_
        have p273 : 0 ≤ (x5_1 : Int) := of_decide_eq_true (by first | (with_reducible assumption) | assumption)
        have q273 : x5_1 < (l0.length : Int) := of_decide_eq_true (by first | (with_reducible assumption) | assumption)
        obtain ⟨ad273, e273, hx273_0, hx273_1, hx273_2, hx273_3, hx273_4⟩ := at_T82 HR0.out x5_1 p273 q273
        have hw273_4 := hx273_4
        have hw273_3 := hx273_3
        have hw273_2 := hx273_2
        have hw273_1 := hx273_1
        have hw273_0 := hx273_0
        cases e273
        replace hx273_0 := (HB.out.cell (World.block_lt_of_cell? w _ hx273_0)).trans hx273_0
        replace hx273_1 := (HB.out.cell (World.block_lt_of_cell? w _ hx273_1)).trans hx273_1
        replace hx273_2 := (HB.out.cell (World.block_lt_of_cell? w _ hx273_2)).trans hx273_2
        replace hx273_3 := (HB.out.cell (World.block_lt_of_cell? w _ hx273_3)).trans hx273_3
        replace hx273_4 := (HB.out.cell (World.block_lt_of_cell? w _ hx273_4)).trans hx273_4
        replace p273 := eq_true p273
        replace q273 := eq_true q273
        have p274 : 0 ≤ (x5_1 : Int) := of_decide_eq_true (by first | (with_reducible assumption) | assumption)
        have q274 : x5_1 < (l1.length : Int) := of_decide_eq_true (by first | (with_reducible assumption) | assumption)
        obtain ⟨ad274, e274, hx274_0, hx274_1, hx274_2, hx274_3, hx274_4⟩ := at_T82 HR1.out x5_1 p274 q274
        have hw274_4 := hx274_4
        have hw274_3 := hx274_3
        have hw274_2 := hx274_2
        have hw274_1 := hx274_1
        have hw274_0 := hx274_0
        cases e274
        replace hx274_0 := (HB.out.cell (World.block_lt_of_cell? w _ hx274_0)).trans hx274_0
        replace hx274_1 := (HB.out.cell (World.block_lt_of_cell? w _ hx274_1)).trans hx274_1
        replace hx274_2 := (HB.out.cell (World.block_lt_of_cell? w _ hx274_2)).trans hx274_2
        replace hx274_3 := (HB.out.cell (World.block_lt_of_cell? w _ hx274_3)).trans hx274_3
        replace hx274_4 := (HB.out.cell (World.block_lt_of_cell? w _ hx274_4)).trans hx274_4
        replace p274 := eq_true p274
        replace q274 := eq_true q274
        refine wp_region_later (by kernel_rfl) (by kernel_rfl) ?_
        have hL0_ := Aside0.mk (show wr.drew.cell? (ad273.add ((x5_1).toNat * 5)) = some (.string ((rd_T82 l0 x5_1).f0)) from ((HB.out.cell (World.block_lt_of_cell? w _ hw273_0)).trans hw273_0))
        have hL1_ := Aside0.mk (show wr.drew.cell? ⟨(ad273.add ((x5_1).toNat * 5)).block, (ad273.add ((x5_1).toNat * 5)).off + 1, none⟩ = some (.string ((rd_T82 l0 x5_1).f1)) from ((HB.out.cell (World.block_lt_of_cell? w _ hw273_1)).trans hw273_1))
        have hL2_ := Aside0.mk (show wr.drew.cell? ⟨(ad273.add ((x5_1).toNat * 5)).block, (ad273.add ((x5_1).toNat * 5)).off + 2, none⟩ = some (.string ((rd_T82 l0 x5_1).f2)) from ((HB.out.cell (World.block_lt_of_cell? w _ hw273_2)).trans hw273_2))
        have hL3_ := Aside0.mk (show wr.drew.cell? ⟨(ad273.add ((x5_1).toNat * 5)).block, (ad273.add ((x5_1).toNat * 5)).off + 3, none⟩ = some (.bool ((rd_T82 l0 x5_1).f3)) from ((HB.out.cell (World.block_lt_of_cell? w _ hw273_3)).trans hw273_3))
        have hL4_ := Aside0.mk (show wr.drew.cell? ⟨(ad273.add ((x5_1).toNat * 5)).block, (ad273.add ((x5_1).toNat * 5)).off + 4, none⟩ = some (.bool ((rd_T82 l0 x5_1).f4)) from ((HB.out.cell (World.block_lt_of_cell? w _ hw273_4)).trans hw273_4))
        have hL5_ := Aside0.mk (show wr.drew.cell? (ad274.add ((x5_1).toNat * 5)) = some (.string ((rd_T82 l1 x5_1).f0)) from ((HB.out.cell (World.block_lt_of_cell? w _ hw274_0)).trans hw274_0))
        have hL6_ := Aside0.mk (show wr.drew.cell? ⟨(ad274.add ((x5_1).toNat * 5)).block, (ad274.add ((x5_1).toNat * 5)).off + 1, none⟩ = some (.string ((rd_T82 l1 x5_1).f1)) from ((HB.out.cell (World.block_lt_of_cell? w _ hw274_1)).trans hw274_1))
        have hL7_ := Aside0.mk (show wr.drew.cell? ⟨(ad274.add ((x5_1).toNat * 5)).block, (ad274.add ((x5_1).toNat * 5)).off + 2, none⟩ = some (.string ((rd_T82 l1 x5_1).f2)) from ((HB.out.cell (World.block_lt_of_cell? w _ hw274_2)).trans hw274_2))
        have hL8_ := Aside0.mk (show wr.drew.cell? ⟨(ad274.add ((x5_1).toNat * 5)).block, (ad274.add ((x5_1).toNat * 5)).off + 3, none⟩ = some (.bool ((rd_T82 l1 x5_1).f3)) from ((HB.out.cell (World.block_lt_of_cell? w _ hw274_3)).trans hw274_3))
        have hL9_ := Aside0.mk (show wr.drew.cell? ⟨(ad274.add ((x5_1).toNat * 5)).block, (ad274.add ((x5_1).toNat * 5)).off + 4, none⟩ = some (.bool ((rd_T82 l1 x5_1).f4)) from ((HB.out.cell (World.block_lt_of_cell? w _ hw274_4)).trans hw274_4))
        generalize wr.drew = w9 at HB hx273_0 hx273_1 hx273_2 hx273_3 hx273_4 hx274_0 hx274_1 hx274_2 hx274_3 hx274_4 hL0_ hL1_ hL2_ hL3_ hL4_ hL5_ hL6_ hL7_ hL8_ hL9_ ⊢
        clear hx273_0 hx273_1 hx273_2 hx273_3 hx273_4 hx274_0 hx274_1 hx274_2 hx274_3 hx274_4
        have hL0 := fun (p_ : Later w9) => Later.cell p_ hL0_.out
        have hL1 := fun (p_ : Later w9) => Later.cell p_ hL1_.out
        have hL2 := fun (p_ : Later w9) => Later.cell p_ hL2_.out
        have hL3 := fun (p_ : Later w9) => Later.cell p_ hL3_.out
        have hL4 := fun (p_ : Later w9) => Later.cell p_ hL4_.out
        have hL5 := fun (p_ : Later w9) => Later.cell p_ hL5_.out
        have hL6 := fun (p_ : Later w9) => Later.cell p_ hL6_.out
        have hL7 := fun (p_ : Later w9) => Later.cell p_ hL7_.out
        have hL8 := fun (p_ : Later w9) => Later.cell p_ hL8_.out
        have hL9 := fun (p_ : Later w9) => Later.cell p_ hL9_.out
        clear hL0_ hL1_ hL2_ hL3_ hL4_ hL5_ hL6_ hL7_ hL8_ hL9_
        repeat (first | go_big_quiet_step ((first | (go_at_call 58; exact Calls.later_of (laws_eqDiff.calls ((rd_T82 l0 x5_1).f0) ((rd_T82 l0 x5_1).f1) ((rd_T82 l0 x5_1).f2) ((rd_T82 l0 x5_1).f3) ((rd_T82 l0 x5_1).f4) ((rd_T82 l1 x5_1).f0) ((rd_T82 l1 x5_1).f1) ((rd_T82 l1 x5_1).f2) ((rd_T82 l1 x5_1).f3) ((rd_T82 l1 x5_1).f4) true _ A7.out)))) | quiet_step ((first | (go_at_call 58; exact Calls.later_of (laws_eqDiff.calls ((rd_T82 l0 x5_1).f0) ((rd_T82 l0 x5_1).f1) ((rd_T82 l0 x5_1).f2) ((rd_T82 l0 x5_1).f3) ((rd_T82 l0 x5_1).f4) ((rd_T82 l1 x5_1).f0) ((rd_T82 l1 x5_1).f1) ((rd_T82 l1 x5_1).f2) ((rd_T82 l1 x5_1).f3) ((rd_T82 l1 x5_1).f4) true _ A7.out)))))
        refine wpQuiet_nil ?_
        rintro w10 ⟨⟨wq_, hbL⟩, hq_⟩
        have hq2_ : w10 = wq_ := hq_
        clear hq_
        subst hq2_
        clear hL0 hL1 hL2 hL3 hL4 hL5 hL6 hL7 hL8 hL9
        have nHB_ := Aside0.mk (below_step HB.out hbL)
        clear HB
        have HB := nHB_
        clear nHB_
        clear hbL
        try go_wp2
        go_roundg k1
        case measure => have := HK1.out; omega
        case rel => exact ⟨(wrap64 (x5_1 + 1)), (by first | rfl | (simp; done) | (simp [*]; done)), H', ⟨by have := HK1.out; omega⟩, ⟨by repeat (first | (with_reducible first | exact HB.out | apply below_alloc | apply pw_below_drewN | apply below_drew1) | exact HB.out)⟩⟩
       ·replace c8 := Bool.eq_false_iff.mpr c8
        subst c8
        have H1 : (some false) = some r := by rw [if_neg (show ¬ (false = true) by decide)] at H; exact H
        clear H
        have H := H1
        clear H1
        obtain rfl := Option.some.inj H
        try go_wp2
        have n0_ := Aside0.mk (below_drew1 HB.out)
        clear HB
        have HB := n0_
        clear n0_
        have p273 : 0 ≤ (x5_1 : Int) := of_decide_eq_true (by first | (with_reducible assumption) | assumption)
        have q273 : x5_1 < (l0.length : Int) := of_decide_eq_true (by first | (with_reducible assumption) | assumption)
        obtain ⟨ad273, e273, hx273_0, hx273_1, hx273_2, hx273_3, hx273_4⟩ := at_T82 HR0.out x5_1 p273 q273
        have hw273_4 := hx273_4
        have hw273_3 := hx273_3
        have hw273_2 := hx273_2
        have hw273_1 := hx273_1
        have hw273_0 := hx273_0
        cases e273
        replace hx273_0 := (HB.out.cell (World.block_lt_of_cell? w _ hx273_0)).trans hx273_0
        replace hx273_1 := (HB.out.cell (World.block_lt_of_cell? w _ hx273_1)).trans hx273_1
        replace hx273_2 := (HB.out.cell (World.block_lt_of_cell? w _ hx273_2)).trans hx273_2
        replace hx273_3 := (HB.out.cell (World.block_lt_of_cell? w _ hx273_3)).trans hx273_3
        replace hx273_4 := (HB.out.cell (World.block_lt_of_cell? w _ hx273_4)).trans hx273_4
        replace p273 := eq_true p273
        replace q273 := eq_true q273
        have p274 : 0 ≤ (x5_1 : Int) := of_decide_eq_true (by first | (with_reducible assumption) | assumption)
        have q274 : x5_1 < (l1.length : Int) := of_decide_eq_true (by first | (with_reducible assumption) | assumption)
        obtain ⟨ad274, e274, hx274_0, hx274_1, hx274_2, hx274_3, hx274_4⟩ := at_T82 HR1.out x5_1 p274 q274
        have hw274_4 := hx274_4
        have hw274_3 := hx274_3
        have hw274_2 := hx274_2
        have hw274_1 := hx274_1
        have hw274_0 := hx274_0
        cases e274
        replace hx274_0 := (HB.out.cell (World.block_lt_of_cell? w _ hx274_0)).trans hx274_0
        replace hx274_1 := (HB.out.cell (World.block_lt_of_cell? w _ hx274_1)).trans hx274_1
        replace hx274_2 := (HB.out.cell (World.block_lt_of_cell? w _ hx274_2)).trans hx274_2
        replace hx274_3 := (HB.out.cell (World.block_lt_of_cell? w _ hx274_3)).trans hx274_3
        replace hx274_4 := (HB.out.cell (World.block_lt_of_cell? w _ hx274_4)).trans hx274_4
        replace p274 := eq_true p274
        replace q274 := eq_true q274
        refine wp_region_later (by kernel_rfl) (by kernel_rfl) ?_
        have hL0_ := Aside0.mk (show wr.drew.cell? (ad273.add ((x5_1).toNat * 5)) = some (.string ((rd_T82 l0 x5_1).f0)) from ((HB.out.cell (World.block_lt_of_cell? w _ hw273_0)).trans hw273_0))
        have hL1_ := Aside0.mk (show wr.drew.cell? ⟨(ad273.add ((x5_1).toNat * 5)).block, (ad273.add ((x5_1).toNat * 5)).off + 1, none⟩ = some (.string ((rd_T82 l0 x5_1).f1)) from ((HB.out.cell (World.block_lt_of_cell? w _ hw273_1)).trans hw273_1))
        have hL2_ := Aside0.mk (show wr.drew.cell? ⟨(ad273.add ((x5_1).toNat * 5)).block, (ad273.add ((x5_1).toNat * 5)).off + 2, none⟩ = some (.string ((rd_T82 l0 x5_1).f2)) from ((HB.out.cell (World.block_lt_of_cell? w _ hw273_2)).trans hw273_2))
        have hL3_ := Aside0.mk (show wr.drew.cell? ⟨(ad273.add ((x5_1).toNat * 5)).block, (ad273.add ((x5_1).toNat * 5)).off + 3, none⟩ = some (.bool ((rd_T82 l0 x5_1).f3)) from ((HB.out.cell (World.block_lt_of_cell? w _ hw273_3)).trans hw273_3))
        have hL4_ := Aside0.mk (show wr.drew.cell? ⟨(ad273.add ((x5_1).toNat * 5)).block, (ad273.add ((x5_1).toNat * 5)).off + 4, none⟩ = some (.bool ((rd_T82 l0 x5_1).f4)) from ((HB.out.cell (World.block_lt_of_cell? w _ hw273_4)).trans hw273_4))
        have hL5_ := Aside0.mk (show wr.drew.cell? (ad274.add ((x5_1).toNat * 5)) = some (.string ((rd_T82 l1 x5_1).f0)) from ((HB.out.cell (World.block_lt_of_cell? w _ hw274_0)).trans hw274_0))
        have hL6_ := Aside0.mk (show wr.drew.cell? ⟨(ad274.add ((x5_1).toNat * 5)).block, (ad274.add ((x5_1).toNat * 5)).off + 1, none⟩ = some (.string ((rd_T82 l1 x5_1).f1)) from ((HB.out.cell (World.block_lt_of_cell? w _ hw274_1)).trans hw274_1))
        have hL7_ := Aside0.mk (show wr.drew.cell? ⟨(ad274.add ((x5_1).toNat * 5)).block, (ad274.add ((x5_1).toNat * 5)).off + 2, none⟩ = some (.string ((rd_T82 l1 x5_1).f2)) from ((HB.out.cell (World.block_lt_of_cell? w _ hw274_2)).trans hw274_2))
        have hL8_ := Aside0.mk (show wr.drew.cell? ⟨(ad274.add ((x5_1).toNat * 5)).block, (ad274.add ((x5_1).toNat * 5)).off + 3, none⟩ = some (.bool ((rd_T82 l1 x5_1).f3)) from ((HB.out.cell (World.block_lt_of_cell? w _ hw274_3)).trans hw274_3))
        have hL9_ := Aside0.mk (show wr.drew.cell? ⟨(ad274.add ((x5_1).toNat * 5)).block, (ad274.add ((x5_1).toNat * 5)).off + 4, none⟩ = some (.bool ((rd_T82 l1 x5_1).f4)) from ((HB.out.cell (World.block_lt_of_cell? w _ hw274_4)).trans hw274_4))
        generalize wr.drew = w11 at HB hx273_0 hx273_1 hx273_2 hx273_3 hx273_4 hx274_0 hx274_1 hx274_2 hx274_3 hx274_4 hL0_ hL1_ hL2_ hL3_ hL4_ hL5_ hL6_ hL7_ hL8_ hL9_ ⊢
        clear hx273_0 hx273_1 hx273_2 hx273_3 hx273_4 hx274_0 hx274_1 hx274_2 hx274_3 hx274_4
        have hL0 := fun (p_ : Later w11) => Later.cell p_ hL0_.out
        have hL1 := fun (p_ : Later w11) => Later.cell p_ hL1_.out
        have hL2 := fun (p_ : Later w11) => Later.cell p_ hL2_.out
        have hL3 := fun (p_ : Later w11) => Later.cell p_ hL3_.out
        have hL4 := fun (p_ : Later w11) => Later.cell p_ hL4_.out
        have hL5 := fun (p_ : Later w11) => Later.cell p_ hL5_.out
        have hL6 := fun (p_ : Later w11) => Later.cell p_ hL6_.out
        have hL7 := fun (p_ : Later w11) => Later.cell p_ hL7_.out
        have hL8 := fun (p_ : Later w11) => Later.cell p_ hL8_.out
        have hL9 := fun (p_ : Later w11) => Later.cell p_ hL9_.out
        clear hL0_ hL1_ hL2_ hL3_ hL4_ hL5_ hL6_ hL7_ hL8_ hL9_
        repeat (first | go_big_quiet_step ((first | (go_at_call 58; exact Calls.later_of (laws_eqDiff.calls ((rd_T82 l0 x5_1).f0) ((rd_T82 l0 x5_1).f1) ((rd_T82 l0 x5_1).f2) ((rd_T82 l0 x5_1).f3) ((rd_T82 l0 x5_1).f4) ((rd_T82 l1 x5_1).f0) ((rd_T82 l1 x5_1).f1) ((rd_T82 l1 x5_1).f2) ((rd_T82 l1 x5_1).f3) ((rd_T82 l1 x5_1).f4) false _ A7.out)))) | quiet_step ((first | (go_at_call 58; exact Calls.later_of (laws_eqDiff.calls ((rd_T82 l0 x5_1).f0) ((rd_T82 l0 x5_1).f1) ((rd_T82 l0 x5_1).f2) ((rd_T82 l0 x5_1).f3) ((rd_T82 l0 x5_1).f4) ((rd_T82 l1 x5_1).f0) ((rd_T82 l1 x5_1).f1) ((rd_T82 l1 x5_1).f2) ((rd_T82 l1 x5_1).f3) ((rd_T82 l1 x5_1).f4) false _ A7.out)))))
        refine wpQuiet_nil ?_
        rintro w12 ⟨⟨wq_, hbL⟩, hq_⟩
        have hq2_ : w12 = wq_ := hq_
        clear hq_
        subst hq2_
        clear hL0 hL1 hL2 hL3 hL4 hL5 hL6 hL7 hL8 hL9
        have nHB_ := Aside0.mk (below_step HB.out hbL)
        clear HB
        have HB := nHB_
        clear nHB_
        clear hbL
        try go_wp2
        go_ret
        exact ⟨by first | rfl | (simp [errW_none, errW_some] <;> rfl) | (simp [*, errW_none, errW_some] <;> rfl), by repeat (first | (with_reducible first | exact HB.out | apply below_alloc | apply pw_below_drewN | apply below_drew1) | exact HB.out)⟩
      ·rw [if_neg c6] at H
       exact absurd H (by simp)
     ·rw [if_neg c5] at H
      exact absurd H (by simp)
    ·rw [if_neg c4] at H
     have c4b0 : decide (x5_1 < (l0.length : Int)) = false := decide_eq_false c4
     clear c4
     obtain rfl := Option.some.inj H
     go_wp2
     go_ret
     exact ⟨by first | rfl | (simp [errW_none, errW_some] <;> rfl) | (simp [*, errW_none, errW_some] <;> rfl), by repeat (first | (with_reducible first | exact HB.out | apply below_alloc | apply pw_below_drewN | apply below_drew1) | exact HB.out)⟩
 ·rw [if_neg c3] at H
  have c3b0 : ((l0.length : Int) == (l1.length : Int)) = false := beq_eq_false_iff_ne.mpr c3
  have c3b1 : ((l0.length : Int) != (l1.length : Int)) = true := bne_iff_ne.mpr c3
  have c3b2 : (l0.length == l1.length) = false := by first | simpa using c3 | (simp at c3 ⊢; omega)
  obtain rfl := Option.some.inj H
  go_enter Try.func18, Try.ntmps18
  go_wp2
  go_ret
  exact ⟨by first | rfl | (simp [errW_none, errW_some] <;> rfl) | (simp [*, errW_none, errW_some] <;> rfl), by repeat (first | (with_reducible first | exact HB.out | apply below_alloc | apply pw_below_drewN | apply below_drew1) | exact HB.out)⟩
end Go.Proofs.Ytgcncphdjabjjaa.X
