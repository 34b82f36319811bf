import Derived.Test.YtgcncphdjabjjaaKFnExactDiffPairs3
import Derived.Test.YtgcncphdjabjjaaKFnExactDiffPairs15
namespace Go.Proofs.Ytgcncphdjabjjaa.X
open Go.RowKit Go.Proofs.YtgcncphdjabjjaaW.PrintWords Go.Proofs.YtgcncphdjabjjaaW.PrintLast Go.Proofs.YtgcncphdjabjjaaW.PrintMore
attribute [local go_sem] xbin_geq xbin_leq xbin_gtr max2_int min2_int max_two min_two max_three min_three max_four min_four
set_option linter.unusedVariables false
set_option linter.unusedSimpArgs false
def laws_heldDiffS.l0 : Nat → List (S82) → Int → Int → Option (Int)
  | 0, _, _, _ => none
  | k + 1, x0, x1, x5 => if x5 < (x0.length : Int) then (if 0 ≤ x5 then ((laws_markText.f k x1).bind fun t292 => (if ((rd_T82 x0 x5).f0).toList = t292.toList then ((laws_markText.f k (wrap64 (x1 + 1))).bind fun t294 => (if ((rd_T82 x0 x5).f1).toList = t294.toList then ((laws_markText.f k (wrap64 ((wrap64 (x1 + 1)) + 1))).bind fun t296 => (if ((rd_T82 x0 x5).f2).toList = t296.toList then (if (((rd_T82 x0 x5).f3) != ((Int.tmod (wrap64 ((wrap64 ((wrap64 (x1 + 1)) + 1)) + 1)) 3) == 0)) = true then (some (-1)) else (if (((rd_T82 x0 x5).f4) != ((Int.tmod (wrap64 ((wrap64 ((wrap64 ((wrap64 (x1 + 1)) + 1)) + 1)) + 1)) 3) == 0)) = true then (some (-1)) else (laws_heldDiffS.l0 k x0 (wrap64 ((wrap64 ((wrap64 ((wrap64 ((wrap64 (x1 + 1)) + 1)) + 1)) + 1)) + 1)) (wrap64 (x5 + 1))))) else (some (-1)))) else (some (-1)))) else (some (-1)))) else (none)) else (some x1)
def laws_heldDiffS.f (k : Nat) (l0 : List (S82)) (a1 : Int) : Option (Int) := laws_heldDiffS.l0 k l0 a1 0
theorem laws_heldDiffS.mono_l : ∀ k, (∀ y0 y1 y2, LeO (laws_heldDiffS.l0 k y0 y1 y2) (laws_heldDiffS.l0 (k + 1) y0 y1 y2))
  | 0 => fun _ _ _ r h => by simp [laws_heldDiffS.l0] at h
  | k + 1 => by
    have ih0 := laws_heldDiffS.mono_l k
    · intro y0 y1 y2
      unfold laws_heldDiffS.l0
      repeat' first
      | (with_reducible exact ih0 _ _ _)
      | (with_reducible exact laws_markText.mono _ _)
      | (with_reducible exact LeO.refl _)
      | (with_reducible exact LeO.none _)
      | (with_reducible refine LeO.ite ?_ ?_)
      | (with_reducible refine LeO.bind ?_ (fun _ => ?_))
      | exact ih0 _ _ _
      | exact laws_markText.mono _ _
      | exact LeO.none _
      | refine LeO.ite ?_ ?_
      | refine LeO.bind ?_ (fun _ => ?_)
theorem laws_heldDiffS.mono : ∀ a0 a1 k, LeO (laws_heldDiffS.f k a0 a1) (laws_heldDiffS.f (k + 1) a0 a1) := by
  intro a0 a1 k
  have ih0 := laws_heldDiffS.mono_l k
  unfold laws_heldDiffS.f
  repeat' first
      | (with_reducible exact ih0 _ _ _)
      | (with_reducible exact laws_markText.mono _ _)
      | (with_reducible exact LeO.refl _)
      | (with_reducible exact LeO.none _)
      | (with_reducible refine LeO.ite ?_ ?_)
      | (with_reducible refine LeO.bind ?_ (fun _ => ?_))
      | exact ih0 _ _ _
      | exact laws_markText.mono _ _
      | exact LeO.none _
      | refine LeO.ite ?_ ?_
      | refine LeO.bind ?_ (fun _ => ?_)
def laws_heldDiffS.T4 : Bool × List (List Nat × List Nat) := (true, [([], []), ([], []), ([0, 1], [0, 1]), ([2], [2]), ([3], [3]), ([], []), ([5], [5]), ([4, 6], [4, 6])])
def laws_heldDiffS.B4 : List Nat := [0, 0, 3, 7, 15, 0, 32, 127]
theorem laws_heldDiffS.tab4 : rtab .any (opsOf Try.f21 4) = laws_heldDiffS.T4 := by kernel_rfl
theorem laws_heldDiffS.bits4 : waitsOk laws_heldDiffS.T4.2 laws_heldDiffS.B4 = true := by kernel_rfl
def laws_heldDiffS.T7 : Bool × List (List Nat × List Nat) := (true, [([], []), ([], []), ([0, 1], [0, 1]), ([2], [2]), ([3], [3]), ([], []), ([5], [5]), ([4, 6], [4, 6])])
def laws_heldDiffS.B7 : List Nat := [0, 0, 3, 7, 15, 0, 32, 127]
theorem laws_heldDiffS.tab7 : rtab .any (opsOf Try.f21 7) = laws_heldDiffS.T7 := by kernel_rfl
theorem laws_heldDiffS.bits7 : waitsOk laws_heldDiffS.T7.2 laws_heldDiffS.B7 = true := by kernel_rfl
def laws_heldDiffS.T10 : Bool × List (List Nat × List Nat) := (true, [([], []), ([], []), ([0, 1], [0, 1]), ([2], [2]), ([3], [3]), ([], []), ([5], [5]), ([4, 6], [4, 6])])
def laws_heldDiffS.B10 : List Nat := [0, 0, 3, 7, 15, 0, 32, 127]
theorem laws_heldDiffS.tab10 : rtab .any (opsOf Try.f21 10) = laws_heldDiffS.T10 := by kernel_rfl
theorem laws_heldDiffS.bits10 : waitsOk laws_heldDiffS.T10.2 laws_heldDiffS.B10 = true := by kernel_rfl
set_option maxHeartbeats 8000000 in
set_option maxRecDepth 100000 in
theorem laws_heldDiffS.calls (k : Nat) (A0 : Option Addr) (c0 : Nat) (l0 : List (S82)) (a1 : Int) (r : Int) (w : World) (hr0 : Kd.C k82 w A0 l0.length l0) (hc0 : l0.length ≤ c0) (h : laws_heldDiffS.f k l0 a1 = some r) :
    Calls Try.prog 21 #[.slice A0 l0.length c0, .int .i64 a1] w fun e w' => e = .returned (.int .i64 r) ∧ Below w.heap.size w w' := by
  have HR0 := Aside0.mk hr0
  have HC0 := Aside0.mk hc0
  clear hr0 hc0
  have HB := Aside0.mk (Below.refl w.heap.size w)
  have H : (laws_heldDiffS.l0 k l0 a1 0) = some r := h
  clear h
  have H' := Aside0.mk H
  clear H
  go_enter Try.func21, Try.ntmps21
  go_wp2
  go_loopg [1, 5] k (fun kq v1 v5 w' => ∃ (x1_1 : Int) (x5_1 : Int), v1 = .int .i64 x1_1 ∧ v5 = .int .i64 x5_1 ∧ Aside0 (laws_heldDiffS.l0 kq l0 x1_1 x5_1 = some r) ∧ Aside0 (kq ≤ k) ∧ Aside0 (Below w.heap.size w w'))
  case atStart => exact ⟨(a1), (0), (by first | rfl | (simp; done) | (simp [*]; done)), (by first | rfl | (simp; done) | (simp [*]; done)), H', ⟨Nat.le_refl _⟩, ⟨by repeat (first | (with_reducible first | exact HB.out | apply below_alloc | apply pw_below_drewN | apply below_drew1) | exact HB.out)⟩⟩
  case round =>
    clear H'
    try clear c2
    try clear p2
    obtain ⟨x1_1, x5_1, rfl, rfl, HA, HK1, HB⟩ := hrel
    cases gk with
    | zero => exact absurd HA.out (by simp [laws_heldDiffS.l0])
    | succ k1 =>
      have H := HA.out
      clear HA
      simp only [laws_heldDiffS.l0] at H
      by_cases c3 : x5_1 < (l0.length : Int)
      · rw [if_pos c3] at H
        have c3b0 : decide (x5_1 < (l0.length : Int)) = true := decide_eq_true c3
        clear c3
        by_cases c4 : 0 ≤ x5_1
        · rw [if_pos c4] at H
          have c4b0 : decide (0 ≤ x5_1) = true := decide_eq_true c4
          clear c4
          replace H := Option.bind_eq_some_iff.mp H
          obtain ⟨t292, A50, H⟩ := H
          replace H : (if ((rd_T82 l0 x5_1).f0).toList = t292.toList then ((laws_markText.f k1 (wrap64 (x1_1 + 1))).bind fun t294 => (if ((rd_T82 l0 x5_1).f1).toList = t294.toList then ((laws_markText.f k1 (wrap64 ((wrap64 (x1_1 + 1)) + 1))).bind fun t296 => (if ((rd_T82 l0 x5_1).f2).toList = t296.toList then (if (((rd_T82 l0 x5_1).f3) != ((Int.tmod (wrap64 ((wrap64 ((wrap64 (x1_1 + 1)) + 1)) + 1)) 3) == 0)) = true then (some (-1)) else (if (((rd_T82 l0 x5_1).f4) != ((Int.tmod (wrap64 ((wrap64 ((wrap64 ((wrap64 (x1_1 + 1)) + 1)) + 1)) + 1)) 3) == 0)) = true then (some (-1)) else (laws_heldDiffS.l0 k1 l0 (wrap64 ((wrap64 ((wrap64 ((wrap64 ((wrap64 (x1_1 + 1)) + 1)) + 1)) + 1)) + 1)) (wrap64 (x5_1 + 1))))) else (some (-1)))) else (some (-1)))) else (some (-1))) = some r := H
          have A5 := Aside0.mk A50
          clear A50
          by_cases c6 : ((rd_T82 l0 x5_1).f0).toList = t292.toList
          · rw [if_pos c6] at H
            have c6b0 : (((rd_T82 l0 x5_1).f0).toList == t292.toList) = true := beq_iff_eq.mpr c6
            have c6b1 : (((rd_T82 l0 x5_1).f0).toList != t292.toList) = false := bne_eq_false_iff_eq.mpr c6
            clear c6
            replace H := Option.bind_eq_some_iff.mp H
            obtain ⟨t294, A70, H⟩ := H
            replace H : (if ((rd_T82 l0 x5_1).f1).toList = t294.toList then ((laws_markText.f k1 (wrap64 ((wrap64 (x1_1 + 1)) + 1))).bind fun t296 => (if ((rd_T82 l0 x5_1).f2).toList = t296.toList then (if (((rd_T82 l0 x5_1).f3) != ((Int.tmod (wrap64 ((wrap64 ((wrap64 (x1_1 + 1)) + 1)) + 1)) 3) == 0)) = true then (some (-1)) else (if (((rd_T82 l0 x5_1).f4) != ((Int.tmod (wrap64 ((wrap64 ((wrap64 ((wrap64 (x1_1 + 1)) + 1)) + 1)) + 1)) 3) == 0)) = true then (some (-1)) else (laws_heldDiffS.l0 k1 l0 (wrap64 ((wrap64 ((wrap64 ((wrap64 ((wrap64 (x1_1 + 1)) + 1)) + 1)) + 1)) + 1)) (wrap64 (x5_1 + 1))))) else (some (-1)))) else (some (-1))) = some r := H
            have A7 := Aside0.mk A70
            clear A70
            by_cases c8 : ((rd_T82 l0 x5_1).f1).toList = t294.toList
            · rw [if_pos c8] at H
              have c8b0 : (((rd_T82 l0 x5_1).f1).toList == t294.toList) = true := beq_iff_eq.mpr c8
              have c8b1 : (((rd_T82 l0 x5_1).f1).toList != t294.toList) = false := bne_eq_false_iff_eq.mpr c8
              clear c8
              replace H := Option.bind_eq_some_iff.mp H
              obtain ⟨t296, A90, H⟩ := H
              replace H : (if ((rd_T82 l0 x5_1).f2).toList = t296.toList then (if (((rd_T82 l0 x5_1).f3) != ((Int.tmod (wrap64 ((wrap64 ((wrap64 (x1_1 + 1)) + 1)) + 1)) 3) == 0)) = true then (some (-1)) else (if (((rd_T82 l0 x5_1).f4) != ((Int.tmod (wrap64 ((wrap64 ((wrap64 ((wrap64 (x1_1 + 1)) + 1)) + 1)) + 1)) 3) == 0)) = true then (some (-1)) else (laws_heldDiffS.l0 k1 l0 (wrap64 ((wrap64 ((wrap64 ((wrap64 ((wrap64 (x1_1 + 1)) + 1)) + 1)) + 1)) + 1)) (wrap64 (x5_1 + 1))))) else (some (-1))) = some r := H
              have A9 := Aside0.mk A90
              clear A90
              by_cases c10 : ((rd_T82 l0 x5_1).f2).toList = t296.toList
              · rw [if_pos c10] at H
                have c10b0 : (((rd_T82 l0 x5_1).f2).toList == t296.toList) = true := beq_iff_eq.mpr c10
                have c10b1 : (((rd_T82 l0 x5_1).f2).toList != t296.toList) = false := bne_eq_false_iff_eq.mpr c10
                clear c10
                by_cases c11 : (((rd_T82 l0 x5_1).f3) != ((Int.tmod (wrap64 ((wrap64 ((wrap64 (x1_1 + 1)) + 1)) + 1)) 3) == 0)) = true
                · rw [if_pos c11] at H
                  have c11b0 : (((rd_T82 l0 x5_1).f3) != ((Int.tmod (wrap64 ((wrap64 ((wrap64 (x1_1 + 1)) + 1)) + 1)) 3) == 0)) = true := c11
                  (try (have c11b1 : decide (((rd_T82 l0 x5_1).f3) = ((Int.tmod (wrap64 ((wrap64 ((wrap64 (x1_1 + 1)) + 1)) + 1)) 3) == 0)) = false := by simpa using c11))
                  (try (have c11b2 : (((rd_T82 l0 x5_1).f3) == ((Int.tmod (wrap64 ((wrap64 ((wrap64 (x1_1 + 1)) + 1)) + 1)) 3) == 0)) = false := by simpa using c11))
                  (try (have c11b3 : ¬ (((rd_T82 l0 x5_1).f3) = ((Int.tmod (wrap64 ((wrap64 ((wrap64 (x1_1 + 1)) + 1)) + 1)) 3) == 0)) := by simpa using c11))
                  clear c11
                  obtain rfl := Option.some.inj H
                  try go_wp2
                  have n0_ := Aside0.mk (below_drew1 HB.out)
                  clear HB
                  have HB := n0_
                  clear n0_
                  have p291 : 0 ≤ (x5_1 : Int) := of_decide_eq_true (by first | (with_reducible assumption) | assumption)
                  have q291 : x5_1 < (l0.length : Int) := of_decide_eq_true (by first | (with_reducible assumption) | assumption)
                  obtain ⟨ad291, e291, hx291_0, hx291_1, hx291_2, hx291_3, hx291_4⟩ := at_T82 HR0.out x5_1 p291 q291
                  have hw291_4 := hx291_4
                  have hw291_3 := hx291_3
                  have hw291_2 := hx291_2
                  have hw291_1 := hx291_1
                  have hw291_0 := hx291_0
                  cases e291
                  replace hx291_0 := (HB.out.cell (World.block_lt_of_cell? w _ hx291_0)).trans hx291_0
                  replace hx291_1 := (HB.out.cell (World.block_lt_of_cell? w _ hx291_1)).trans hx291_1
                  replace hx291_2 := (HB.out.cell (World.block_lt_of_cell? w _ hx291_2)).trans hx291_2
                  replace hx291_3 := (HB.out.cell (World.block_lt_of_cell? w _ hx291_3)).trans hx291_3
                  replace hx291_4 := (HB.out.cell (World.block_lt_of_cell? w _ hx291_4)).trans hx291_4
                  replace p291 := eq_true p291
                  replace q291 := eq_true q291
                  refine wp_region_later (by kernel_rfl) (by kernel_rfl) ?_
                  have hL0_ := Aside0.mk (show wr.drew.cell? (ad291.add ((x5_1).toNat * 5)) = some (.string ((rd_T82 l0 x5_1).f0)) from ((HB.out.cell (World.block_lt_of_cell? w _ hw291_0)).trans hw291_0))
                  have hL1_ := Aside0.mk (show wr.drew.cell? ⟨(ad291.add ((x5_1).toNat * 5)).block, (ad291.add ((x5_1).toNat * 5)).off + 1, none⟩ = some (.string ((rd_T82 l0 x5_1).f1)) from ((HB.out.cell (World.block_lt_of_cell? w _ hw291_1)).trans hw291_1))
                  have hL2_ := Aside0.mk (show wr.drew.cell? ⟨(ad291.add ((x5_1).toNat * 5)).block, (ad291.add ((x5_1).toNat * 5)).off + 2, none⟩ = some (.string ((rd_T82 l0 x5_1).f2)) from ((HB.out.cell (World.block_lt_of_cell? w _ hw291_2)).trans hw291_2))
                  have hL3_ := Aside0.mk (show wr.drew.cell? ⟨(ad291.add ((x5_1).toNat * 5)).block, (ad291.add ((x5_1).toNat * 5)).off + 3, none⟩ = some (.bool ((rd_T82 l0 x5_1).f3)) from ((HB.out.cell (World.block_lt_of_cell? w _ hw291_3)).trans hw291_3))
                  have hL4_ := Aside0.mk (show wr.drew.cell? ⟨(ad291.add ((x5_1).toNat * 5)).block, (ad291.add ((x5_1).toNat * 5)).off + 4, none⟩ = some (.bool ((rd_T82 l0 x5_1).f4)) from ((HB.out.cell (World.block_lt_of_cell? w _ hw291_4)).trans hw291_4))
                  generalize wr.drew = w12 at HB hx291_0 hx291_1 hx291_2 hx291_3 hx291_4 hL0_ hL1_ hL2_ hL3_ hL4_ ⊢
                  clear hx291_0 hx291_1 hx291_2 hx291_3 hx291_4
                  have hL0 := fun (p_ : Later w12) => (show p_.val.cell? (ad291.add ((x5_1).toNat * 5)) = some (.string ((rd_T82 l0 x5_1).f0)) from Later.cell p_ hL0_.out)
                  have hL1 := fun (p_ : Later w12) => (show p_.val.cell? ⟨(ad291.add ((x5_1).toNat * 5)).block, (ad291.add ((x5_1).toNat * 5)).off + 1, none⟩ = some (.string ((rd_T82 l0 x5_1).f1)) from Later.cell p_ hL1_.out)
                  have hL2 := fun (p_ : Later w12) => (show p_.val.cell? ⟨(ad291.add ((x5_1).toNat * 5)).block, (ad291.add ((x5_1).toNat * 5)).off + 2, none⟩ = some (.string ((rd_T82 l0 x5_1).f2)) from Later.cell p_ hL2_.out)
                  have hL3 := fun (p_ : Later w12) => (show p_.val.cell? ⟨(ad291.add ((x5_1).toNat * 5)).block, (ad291.add ((x5_1).toNat * 5)).off + 3, none⟩ = some (.bool ((rd_T82 l0 x5_1).f3)) from Later.cell p_ hL3_.out)
                  have hL4 := fun (p_ : Later w12) => (show p_.val.cell? ⟨(ad291.add ((x5_1).toNat * 5)).block, (ad291.add ((x5_1).toNat * 5)).off + 4, none⟩ = some (.bool ((rd_T82 l0 x5_1).f4)) from Later.cell p_ hL4_.out)
                  clear hL0_ hL1_ hL2_ hL3_ hL4_
                  repeat (first | go_big_quiet_step ((first | (go_at_call 59; exact Calls.later_of (laws_markText.calls k1 x1_1 t292 _ A5.out)))) | quiet_step ((first | (go_at_call 59; exact Calls.later_of (laws_markText.calls k1 x1_1 t292 _ A5.out)))))
                  refine wpQuiet_nil ?_
                  rintro w13 ⟨⟨wq_, hbL⟩, hq_⟩
                  have hq2_ : w13 = wq_ := hq_
                  clear hq_
                  subst hq2_
                  clear hL0 hL1 hL2 hL3 hL4
                  have nHB_ := by first | exact Aside0.mk (below_step HB.out hbL) | exact Aside0.mk (Kd.R_below HB.out hbL) | exact Aside0.mk (Kd.S_below HB.out hbL) | exact Aside0.mk (Kd.N_below HB.out hbL) | exact Aside0.mk (Kd.V_below HB.out hbL) | exact Aside0.mk (Kd.Q_below HB.out hbL) | exact Aside0.mk (Kd.C_below HB.out hbL) | exact Aside0.mk ((hbL.block _ (blk_lt HB.out)).trans HB.out)
                  clear HB
                  have HB := nHB_
                  clear nHB_
                  clear hbL
                  try go_wp2
                  have n0_ := Aside0.mk (below_drew1 HB.out)
                  clear HB
                  have HB := n0_
                  clear n0_
                  have p293 : 0 ≤ (x5_1 : Int) := of_decide_eq_true (by first | (with_reducible assumption) | assumption)
                  have q293 : x5_1 < (l0.length : Int) := of_decide_eq_true (by first | (with_reducible assumption) | assumption)
                  obtain ⟨ad293, e293, hx293_0, hx293_1, hx293_2, hx293_3, hx293_4⟩ := at_T82 HR0.out x5_1 p293 q293
                  have hw293_4 := hx293_4
                  have hw293_3 := hx293_3
                  have hw293_2 := hx293_2
                  have hw293_1 := hx293_1
                  have hw293_0 := hx293_0
                  obtain rfl : ad291 = ad293 := (by injection e293)
                  replace hx293_0 := (HB.out.cell (World.block_lt_of_cell? w _ hx293_0)).trans hx293_0
                  replace hx293_1 := (HB.out.cell (World.block_lt_of_cell? w _ hx293_1)).trans hx293_1
                  replace hx293_2 := (HB.out.cell (World.block_lt_of_cell? w _ hx293_2)).trans hx293_2
                  replace hx293_3 := (HB.out.cell (World.block_lt_of_cell? w _ hx293_3)).trans hx293_3
                  replace hx293_4 := (HB.out.cell (World.block_lt_of_cell? w _ hx293_4)).trans hx293_4
                  replace p293 := eq_true p293
                  replace q293 := eq_true q293
                  refine wp_region_later (by kernel_rfl) (by kernel_rfl) ?_
                  have hL0_ := Aside0.mk (show w13.drew.cell? (ad291.add ((x5_1).toNat * 5)) = some (.string ((rd_T82 l0 x5_1).f0)) from ((HB.out.cell (World.block_lt_of_cell? w _ hw293_0)).trans hw293_0))
                  have hL1_ := Aside0.mk (show w13.drew.cell? ⟨(ad291.add ((x5_1).toNat * 5)).block, (ad291.add ((x5_1).toNat * 5)).off + 1, none⟩ = some (.string ((rd_T82 l0 x5_1).f1)) from ((HB.out.cell (World.block_lt_of_cell? w _ hw293_1)).trans hw293_1))
                  have hL2_ := Aside0.mk (show w13.drew.cell? ⟨(ad291.add ((x5_1).toNat * 5)).block, (ad291.add ((x5_1).toNat * 5)).off + 2, none⟩ = some (.string ((rd_T82 l0 x5_1).f2)) from ((HB.out.cell (World.block_lt_of_cell? w _ hw293_2)).trans hw293_2))
                  have hL3_ := Aside0.mk (show w13.drew.cell? ⟨(ad291.add ((x5_1).toNat * 5)).block, (ad291.add ((x5_1).toNat * 5)).off + 3, none⟩ = some (.bool ((rd_T82 l0 x5_1).f3)) from ((HB.out.cell (World.block_lt_of_cell? w _ hw293_3)).trans hw293_3))
                  have hL4_ := Aside0.mk (show w13.drew.cell? ⟨(ad291.add ((x5_1).toNat * 5)).block, (ad291.add ((x5_1).toNat * 5)).off + 4, none⟩ = some (.bool ((rd_T82 l0 x5_1).f4)) from ((HB.out.cell (World.block_lt_of_cell? w _ hw293_4)).trans hw293_4))
                  generalize w13.drew = w14 at HB hx293_0 hx293_1 hx293_2 hx293_3 hx293_4 hL0_ hL1_ hL2_ hL3_ hL4_ ⊢
                  clear hx293_0 hx293_1 hx293_2 hx293_3 hx293_4
                  have hL0 := fun (p_ : Later w14) => (show p_.val.cell? (ad291.add ((x5_1).toNat * 5)) = some (.string ((rd_T82 l0 x5_1).f0)) from Later.cell p_ hL0_.out)
                  have hL1 := fun (p_ : Later w14) => (show p_.val.cell? ⟨(ad291.add ((x5_1).toNat * 5)).block, (ad291.add ((x5_1).toNat * 5)).off + 1, none⟩ = some (.string ((rd_T82 l0 x5_1).f1)) from Later.cell p_ hL1_.out)
                  have hL2 := fun (p_ : Later w14) => (show p_.val.cell? ⟨(ad291.add ((x5_1).toNat * 5)).block, (ad291.add ((x5_1).toNat * 5)).off + 2, none⟩ = some (.string ((rd_T82 l0 x5_1).f2)) from Later.cell p_ hL2_.out)
                  have hL3 := fun (p_ : Later w14) => (show p_.val.cell? ⟨(ad291.add ((x5_1).toNat * 5)).block, (ad291.add ((x5_1).toNat * 5)).off + 3, none⟩ = some (.bool ((rd_T82 l0 x5_1).f3)) from Later.cell p_ hL3_.out)
                  have hL4 := fun (p_ : Later w14) => (show p_.val.cell? ⟨(ad291.add ((x5_1).toNat * 5)).block, (ad291.add ((x5_1).toNat * 5)).off + 4, none⟩ = some (.bool ((rd_T82 l0 x5_1).f4)) from Later.cell p_ hL4_.out)
                  clear hL0_ hL1_ hL2_ hL3_ hL4_
                  repeat (first | go_big_quiet_step ((first | (go_at_call 59; exact Calls.later_of (laws_markText.calls k1 (wrap64 (x1_1 + 1)) t294 _ A7.out)))) | quiet_step ((first | (go_at_call 59; exact Calls.later_of (laws_markText.calls k1 (wrap64 (x1_1 + 1)) t294 _ A7.out)))))
                  refine wpQuiet_nil ?_
                  rintro w15 ⟨⟨wq_, hbL⟩, hq_⟩
                  have hq2_ : w15 = wq_ := hq_
                  clear hq_
                  subst hq2_
                  clear hL0 hL1 hL2 hL3 hL4
                  have nHB_ := by first | exact Aside0.mk (below_step HB.out hbL) | exact Aside0.mk (Kd.R_below HB.out hbL) | exact Aside0.mk (Kd.S_below HB.out hbL) | exact Aside0.mk (Kd.N_below HB.out hbL) | exact Aside0.mk (Kd.V_below HB.out hbL) | exact Aside0.mk (Kd.Q_below HB.out hbL) | exact Aside0.mk (Kd.C_below HB.out hbL) | exact Aside0.mk ((hbL.block _ (blk_lt HB.out)).trans HB.out)
                  clear HB
                  have HB := nHB_
                  clear nHB_
                  clear hbL
                  try go_wp2
                  have n0_ := Aside0.mk (below_drew1 HB.out)
                  clear HB
                  have HB := n0_
                  clear n0_
                  have p295 : 0 ≤ (x5_1 : Int) := of_decide_eq_true (by first | (with_reducible assumption) | assumption)
                  have q295 : x5_1 < (l0.length : Int) := of_decide_eq_true (by first | (with_reducible assumption) | assumption)
                  obtain ⟨ad295, e295, hx295_0, hx295_1, hx295_2, hx295_3, hx295_4⟩ := at_T82 HR0.out x5_1 p295 q295
                  have hw295_4 := hx295_4
                  have hw295_3 := hx295_3
                  have hw295_2 := hx295_2
                  have hw295_1 := hx295_1
                  have hw295_0 := hx295_0
                  obtain rfl : ad291 = ad295 := (by injection e295)
                  replace hx295_0 := (HB.out.cell (World.block_lt_of_cell? w _ hx295_0)).trans hx295_0
                  replace hx295_1 := (HB.out.cell (World.block_lt_of_cell? w _ hx295_1)).trans hx295_1
                  replace hx295_2 := (HB.out.cell (World.block_lt_of_cell? w _ hx295_2)).trans hx295_2
                  replace hx295_3 := (HB.out.cell (World.block_lt_of_cell? w _ hx295_3)).trans hx295_3
                  replace hx295_4 := (HB.out.cell (World.block_lt_of_cell? w _ hx295_4)).trans hx295_4
                  replace p295 := eq_true p295
                  replace q295 := eq_true q295
                  refine wp_region_later (by kernel_rfl) (by kernel_rfl) ?_
                  have hL0_ := Aside0.mk (show w15.drew.cell? (ad291.add ((x5_1).toNat * 5)) = some (.string ((rd_T82 l0 x5_1).f0)) from ((HB.out.cell (World.block_lt_of_cell? w _ hw295_0)).trans hw295_0))
                  have hL1_ := Aside0.mk (show w15.drew.cell? ⟨(ad291.add ((x5_1).toNat * 5)).block, (ad291.add ((x5_1).toNat * 5)).off + 1, none⟩ = some (.string ((rd_T82 l0 x5_1).f1)) from ((HB.out.cell (World.block_lt_of_cell? w _ hw295_1)).trans hw295_1))
                  have hL2_ := Aside0.mk (show w15.drew.cell? ⟨(ad291.add ((x5_1).toNat * 5)).block, (ad291.add ((x5_1).toNat * 5)).off + 2, none⟩ = some (.string ((rd_T82 l0 x5_1).f2)) from ((HB.out.cell (World.block_lt_of_cell? w _ hw295_2)).trans hw295_2))
                  have hL3_ := Aside0.mk (show w15.drew.cell? ⟨(ad291.add ((x5_1).toNat * 5)).block, (ad291.add ((x5_1).toNat * 5)).off + 3, none⟩ = some (.bool ((rd_T82 l0 x5_1).f3)) from ((HB.out.cell (World.block_lt_of_cell? w _ hw295_3)).trans hw295_3))
                  have hL4_ := Aside0.mk (show w15.drew.cell? ⟨(ad291.add ((x5_1).toNat * 5)).block, (ad291.add ((x5_1).toNat * 5)).off + 4, none⟩ = some (.bool ((rd_T82 l0 x5_1).f4)) from ((HB.out.cell (World.block_lt_of_cell? w _ hw295_4)).trans hw295_4))
                  generalize w15.drew = w16 at HB hx295_0 hx295_1 hx295_2 hx295_3 hx295_4 hL0_ hL1_ hL2_ hL3_ hL4_ ⊢
                  clear hx295_0 hx295_1 hx295_2 hx295_3 hx295_4
                  have hL0 := fun (p_ : Later w16) => (show p_.val.cell? (ad291.add ((x5_1).toNat * 5)) = some (.string ((rd_T82 l0 x5_1).f0)) from Later.cell p_ hL0_.out)
                  have hL1 := fun (p_ : Later w16) => (show p_.val.cell? ⟨(ad291.add ((x5_1).toNat * 5)).block, (ad291.add ((x5_1).toNat * 5)).off + 1, none⟩ = some (.string ((rd_T82 l0 x5_1).f1)) from Later.cell p_ hL1_.out)
                  have hL2 := fun (p_ : Later w16) => (show p_.val.cell? ⟨(ad291.add ((x5_1).toNat * 5)).block, (ad291.add ((x5_1).toNat * 5)).off + 2, none⟩ = some (.string ((rd_T82 l0 x5_1).f2)) from Later.cell p_ hL2_.out)
                  have hL3 := fun (p_ : Later w16) => (show p_.val.cell? ⟨(ad291.add ((x5_1).toNat * 5)).block, (ad291.add ((x5_1).toNat * 5)).off + 3, none⟩ = some (.bool ((rd_T82 l0 x5_1).f3)) from Later.cell p_ hL3_.out)
                  have hL4 := fun (p_ : Later w16) => (show p_.val.cell? ⟨(ad291.add ((x5_1).toNat * 5)).block, (ad291.add ((x5_1).toNat * 5)).off + 4, none⟩ = some (.bool ((rd_T82 l0 x5_1).f4)) from Later.cell p_ hL4_.out)
                  clear hL0_ hL1_ hL2_ hL3_ hL4_
                  repeat (first | go_big_quiet_step ((first | (go_at_call 59; exact Calls.later_of (laws_markText.calls k1 (wrap64 ((wrap64 (x1_1 + 1)) + 1)) t296 _ A9.out)))) | quiet_step ((first | (go_at_call 59; exact Calls.later_of (laws_markText.calls k1 (wrap64 ((wrap64 (x1_1 + 1)) + 1)) t296 _ A9.out)))))
                  refine wpQuiet_nil ?_
                  rintro w17 ⟨⟨wq_, hbL⟩, hq_⟩
                  have hq2_ : w17 = wq_ := hq_
                  clear hq_
                  subst hq2_
                  clear hL0 hL1 hL2 hL3 hL4
                  have nHB_ := by first | exact Aside0.mk (below_step HB.out hbL) | exact Aside0.mk (Kd.R_below HB.out hbL) | exact Aside0.mk (Kd.S_below HB.out hbL) | exact Aside0.mk (Kd.N_below HB.out hbL) | exact Aside0.mk (Kd.V_below HB.out hbL) | exact Aside0.mk (Kd.Q_below HB.out hbL) | exact Aside0.mk (Kd.C_below HB.out hbL) | exact Aside0.mk ((hbL.block _ (blk_lt HB.out)).trans HB.out)
                  clear HB
                  have HB := nHB_
                  clear nHB_
                  clear hbL
                  have p297 : 0 ≤ (x5_1 : Int) := of_decide_eq_true (by first | (with_reducible assumption) | assumption)
                  have q297 : x5_1 < (l0.length : Int) := of_decide_eq_true (by first | (with_reducible assumption) | assumption)
                  obtain ⟨ad297, e297, hx297_0, hx297_1, hx297_2, hx297_3, hx297_4⟩ := at_T82 HR0.out x5_1 p297 q297
                  obtain rfl : ad291 = ad297 := (by injection e297)
                  replace hx297_0 := (HB.out.cell (World.block_lt_of_cell? w _ hx297_0)).trans hx297_0
                  replace hx297_1 := (HB.out.cell (World.block_lt_of_cell? w _ hx297_1)).trans hx297_1
                  replace hx297_2 := (HB.out.cell (World.block_lt_of_cell? w _ hx297_2)).trans hx297_2
                  replace hx297_3 := (HB.out.cell (World.block_lt_of_cell? w _ hx297_3)).trans hx297_3
                  replace hx297_4 := (HB.out.cell (World.block_lt_of_cell? w _ hx297_4)).trans hx297_4
                  replace p297 := eq_true p297
                  replace q297 := eq_true q297
                  try go_wp2
                  go_ret
                  exact ⟨by first | rfl | (simp [errW_none, errW_some] <;> rfl) | (simp [*, errW_none, errW_some] <;> rfl), by repeat (first | (with_reducible first | exact HB.out | apply below_alloc | apply pw_below_drewN | apply below_drew1) | exact HB.out)⟩
                · rw [if_neg c11] at H
                  have c11b0 : (((rd_T82 l0 x5_1).f3) != ((Int.tmod (wrap64 ((wrap64 ((wrap64 (x1_1 + 1)) + 1)) + 1)) 3) == 0)) = false := by simpa using c11
                  (try (have c11b1 : decide (((rd_T82 l0 x5_1).f3) = ((Int.tmod (wrap64 ((wrap64 ((wrap64 (x1_1 + 1)) + 1)) + 1)) 3) == 0)) = true := by simpa using c11))
                  (try (have c11b2 : (((rd_T82 l0 x5_1).f3) == ((Int.tmod (wrap64 ((wrap64 ((wrap64 (x1_1 + 1)) + 1)) + 1)) 3) == 0)) = true := by simpa using c11))
                  clear c11
                  by_cases c18 : (((rd_T82 l0 x5_1).f4) != ((Int.tmod (wrap64 ((wrap64 ((wrap64 ((wrap64 (x1_1 + 1)) + 1)) + 1)) + 1)) 3) == 0)) = true
                  · rw [if_pos c18] at H
                    have c18b0 : (((rd_T82 l0 x5_1).f4) != ((Int.tmod (wrap64 ((wrap64 ((wrap64 ((wrap64 (x1_1 + 1)) + 1)) + 1)) + 1)) 3) == 0)) = true := c18
                    (try (have c18b1 : decide (((rd_T82 l0 x5_1).f4) = ((Int.tmod (wrap64 ((wrap64 ((wrap64 ((wrap64 (x1_1 + 1)) + 1)) + 1)) + 1)) 3) == 0)) = false := by simpa using c18))
                    (try (have c18b2 : (((rd_T82 l0 x5_1).f4) == ((Int.tmod (wrap64 ((wrap64 ((wrap64 ((wrap64 (x1_1 + 1)) + 1)) + 1)) + 1)) 3) == 0)) = false := by simpa using c18))
                    (try (have c18b3 : ¬ (((rd_T82 l0 x5_1).f4) = ((Int.tmod (wrap64 ((wrap64 ((wrap64 ((wrap64 (x1_1 + 1)) + 1)) + 1)) + 1)) 3) == 0)) := by simpa using c18))
                    clear c18
                    obtain rfl := Option.some.inj H
                    try go_wp2
                    have n0_ := Aside0.mk (below_drew1 HB.out)
                    clear HB
                    have HB := n0_
                    clear n0_
                    have p291 : 0 ≤ (x5_1 : Int) := of_decide_eq_true (by first | (with_reducible assumption) | assumption)
                    have q291 : x5_1 < (l0.length : Int) := of_decide_eq_true (by first | (with_reducible assumption) | assumption)
                    obtain ⟨ad291, e291, hx291_0, hx291_1, hx291_2, hx291_3, hx291_4⟩ := at_T82 HR0.out x5_1 p291 q291
                    have hw291_4 := hx291_4
                    have hw291_3 := hx291_3
                    have hw291_2 := hx291_2
                    have hw291_1 := hx291_1
                    have hw291_0 := hx291_0
                    cases e291
                    replace hx291_0 := (HB.out.cell (World.block_lt_of_cell? w _ hx291_0)).trans hx291_0
                    replace hx291_1 := (HB.out.cell (World.block_lt_of_cell? w _ hx291_1)).trans hx291_1
                    replace hx291_2 := (HB.out.cell (World.block_lt_of_cell? w _ hx291_2)).trans hx291_2
                    replace hx291_3 := (HB.out.cell (World.block_lt_of_cell? w _ hx291_3)).trans hx291_3
                    replace hx291_4 := (HB.out.cell (World.block_lt_of_cell? w _ hx291_4)).trans hx291_4
                    replace p291 := eq_true p291
                    replace q291 := eq_true q291
                    refine wp_region_later (by kernel_rfl) (by kernel_rfl) ?_
                    have hL0_ := Aside0.mk (show wr.drew.cell? (ad291.add ((x5_1).toNat * 5)) = some (.string ((rd_T82 l0 x5_1).f0)) from ((HB.out.cell (World.block_lt_of_cell? w _ hw291_0)).trans hw291_0))
                    have hL1_ := Aside0.mk (show wr.drew.cell? ⟨(ad291.add ((x5_1).toNat * 5)).block, (ad291.add ((x5_1).toNat * 5)).off + 1, none⟩ = some (.string ((rd_T82 l0 x5_1).f1)) from ((HB.out.cell (World.block_lt_of_cell? w _ hw291_1)).trans hw291_1))
                    have hL2_ := Aside0.mk (show wr.drew.cell? ⟨(ad291.add ((x5_1).toNat * 5)).block, (ad291.add ((x5_1).toNat * 5)).off + 2, none⟩ = some (.string ((rd_T82 l0 x5_1).f2)) from ((HB.out.cell (World.block_lt_of_cell? w _ hw291_2)).trans hw291_2))
                    have hL3_ := Aside0.mk (show wr.drew.cell? ⟨(ad291.add ((x5_1).toNat * 5)).block, (ad291.add ((x5_1).toNat * 5)).off + 3, none⟩ = some (.bool ((rd_T82 l0 x5_1).f3)) from ((HB.out.cell (World.block_lt_of_cell? w _ hw291_3)).trans hw291_3))
                    have hL4_ := Aside0.mk (show wr.drew.cell? ⟨(ad291.add ((x5_1).toNat * 5)).block, (ad291.add ((x5_1).toNat * 5)).off + 4, none⟩ = some (.bool ((rd_T82 l0 x5_1).f4)) from ((HB.out.cell (World.block_lt_of_cell? w _ hw291_4)).trans hw291_4))
                    generalize wr.drew = w19 at HB hx291_0 hx291_1 hx291_2 hx291_3 hx291_4 hL0_ hL1_ hL2_ hL3_ hL4_ ⊢
                    clear hx291_0 hx291_1 hx291_2 hx291_3 hx291_4
                    have hL0 := fun (p_ : Later w19) => (show p_.val.cell? (ad291.add ((x5_1).toNat * 5)) = some (.string ((rd_T82 l0 x5_1).f0)) from Later.cell p_ hL0_.out)
                    have hL1 := fun (p_ : Later w19) => (show p_.val.cell? ⟨(ad291.add ((x5_1).toNat * 5)).block, (ad291.add ((x5_1).toNat * 5)).off + 1, none⟩ = some (.string ((rd_T82 l0 x5_1).f1)) from Later.cell p_ hL1_.out)
                    have hL2 := fun (p_ : Later w19) => (show p_.val.cell? ⟨(ad291.add ((x5_1).toNat * 5)).block, (ad291.add ((x5_1).toNat * 5)).off + 2, none⟩ = some (.string ((rd_T82 l0 x5_1).f2)) from Later.cell p_ hL2_.out)
                    have hL3 := fun (p_ : Later w19) => (show p_.val.cell? ⟨(ad291.add ((x5_1).toNat * 5)).block, (ad291.add ((x5_1).toNat * 5)).off + 3, none⟩ = some (.bool ((rd_T82 l0 x5_1).f3)) from Later.cell p_ hL3_.out)
                    have hL4 := fun (p_ : Later w19) => (show p_.val.cell? ⟨(ad291.add ((x5_1).toNat * 5)).block, (ad291.add ((x5_1).toNat * 5)).off + 4, none⟩ = some (.bool ((rd_T82 l0 x5_1).f4)) from Later.cell p_ hL4_.out)
                    clear hL0_ hL1_ hL2_ hL3_ hL4_
                    repeat (first | go_big_quiet_step ((first | (go_at_call 59; exact Calls.later_of (laws_markText.calls k1 x1_1 t292 _ A5.out)))) | quiet_step ((first | (go_at_call 59; exact Calls.later_of (laws_markText.calls k1 x1_1 t292 _ A5.out)))))
                    refine wpQuiet_nil ?_
                    rintro w20 ⟨⟨wq_, hbL⟩, hq_⟩
                    have hq2_ : w20 = wq_ := hq_
                    clear hq_
                    subst hq2_
                    clear hL0 hL1 hL2 hL3 hL4
                    have nHB_ := by first | exact Aside0.mk (below_step HB.out hbL) | exact Aside0.mk (Kd.R_below HB.out hbL) | exact Aside0.mk (Kd.S_below HB.out hbL) | exact Aside0.mk (Kd.N_below HB.out hbL) | exact Aside0.mk (Kd.V_below HB.out hbL) | exact Aside0.mk (Kd.Q_below HB.out hbL) | exact Aside0.mk (Kd.C_below HB.out hbL) | exact Aside0.mk ((hbL.block _ (blk_lt HB.out)).trans HB.out)
                    clear HB
                    have HB := nHB_
                    clear nHB_
                    clear hbL
                    try go_wp2
                    have n0_ := Aside0.mk (below_drew1 HB.out)
                    clear HB
                    have HB := n0_
                    clear n0_
                    have p293 : 0 ≤ (x5_1 : Int) := of_decide_eq_true (by first | (with_reducible assumption) | assumption)
                    have q293 : x5_1 < (l0.length : Int) := of_decide_eq_true (by first | (with_reducible assumption) | assumption)
                    obtain ⟨ad293, e293, hx293_0, hx293_1, hx293_2, hx293_3, hx293_4⟩ := at_T82 HR0.out x5_1 p293 q293
                    have hw293_4 := hx293_4
                    have hw293_3 := hx293_3
                    have hw293_2 := hx293_2
                    have hw293_1 := hx293_1
                    have hw293_0 := hx293_0
                    obtain rfl : ad291 = ad293 := (by injection e293)
                    replace hx293_0 := (HB.out.cell (World.block_lt_of_cell? w _ hx293_0)).trans hx293_0
                    replace hx293_1 := (HB.out.cell (World.block_lt_of_cell? w _ hx293_1)).trans hx293_1
                    replace hx293_2 := (HB.out.cell (World.block_lt_of_cell? w _ hx293_2)).trans hx293_2
                    replace hx293_3 := (HB.out.cell (World.block_lt_of_cell? w _ hx293_3)).trans hx293_3
                    replace hx293_4 := (HB.out.cell (World.block_lt_of_cell? w _ hx293_4)).trans hx293_4
                    replace p293 := eq_true p293
                    replace q293 := eq_true q293
                    refine wp_region_later (by kernel_rfl) (by kernel_rfl) ?_
                    have hL0_ := Aside0.mk (show w20.drew.cell? (ad291.add ((x5_1).toNat * 5)) = some (.string ((rd_T82 l0 x5_1).f0)) from ((HB.out.cell (World.block_lt_of_cell? w _ hw293_0)).trans hw293_0))
                    have hL1_ := Aside0.mk (show w20.drew.cell? ⟨(ad291.add ((x5_1).toNat * 5)).block, (ad291.add ((x5_1).toNat * 5)).off + 1, none⟩ = some (.string ((rd_T82 l0 x5_1).f1)) from ((HB.out.cell (World.block_lt_of_cell? w _ hw293_1)).trans hw293_1))
                    have hL2_ := Aside0.mk (show w20.drew.cell? ⟨(ad291.add ((x5_1).toNat * 5)).block, (ad291.add ((x5_1).toNat * 5)).off + 2, none⟩ = some (.string ((rd_T82 l0 x5_1).f2)) from ((HB.out.cell (World.block_lt_of_cell? w _ hw293_2)).trans hw293_2))
                    have hL3_ := Aside0.mk (show w20.drew.cell? ⟨(ad291.add ((x5_1).toNat * 5)).block, (ad291.add ((x5_1).toNat * 5)).off + 3, none⟩ = some (.bool ((rd_T82 l0 x5_1).f3)) from ((HB.out.cell (World.block_lt_of_cell? w _ hw293_3)).trans hw293_3))
                    have hL4_ := Aside0.mk (show w20.drew.cell? ⟨(ad291.add ((x5_1).toNat * 5)).block, (ad291.add ((x5_1).toNat * 5)).off + 4, none⟩ = some (.bool ((rd_T82 l0 x5_1).f4)) from ((HB.out.cell (World.block_lt_of_cell? w _ hw293_4)).trans hw293_4))
                    generalize w20.drew = w21 at HB hx293_0 hx293_1 hx293_2 hx293_3 hx293_4 hL0_ hL1_ hL2_ hL3_ hL4_ ⊢
                    clear hx293_0 hx293_1 hx293_2 hx293_3 hx293_4
                    have hL0 := fun (p_ : Later w21) => (show p_.val.cell? (ad291.add ((x5_1).toNat * 5)) = some (.string ((rd_T82 l0 x5_1).f0)) from Later.cell p_ hL0_.out)
                    have hL1 := fun (p_ : Later w21) => (show p_.val.cell? ⟨(ad291.add ((x5_1).toNat * 5)).block, (ad291.add ((x5_1).toNat * 5)).off + 1, none⟩ = some (.string ((rd_T82 l0 x5_1).f1)) from Later.cell p_ hL1_.out)
                    have hL2 := fun (p_ : Later w21) => (show p_.val.cell? ⟨(ad291.add ((x5_1).toNat * 5)).block, (ad291.add ((x5_1).toNat * 5)).off + 2, none⟩ = some (.string ((rd_T82 l0 x5_1).f2)) from Later.cell p_ hL2_.out)
                    have hL3 := fun (p_ : Later w21) => (show p_.val.cell? ⟨(ad291.add ((x5_1).toNat * 5)).block, (ad291.add ((x5_1).toNat * 5)).off + 3, none⟩ = some (.bool ((rd_T82 l0 x5_1).f3)) from Later.cell p_ hL3_.out)
                    have hL4 := fun (p_ : Later w21) => (show p_.val.cell? ⟨(ad291.add ((x5_1).toNat * 5)).block, (ad291.add ((x5_1).toNat * 5)).off + 4, none⟩ = some (.bool ((rd_T82 l0 x5_1).f4)) from Later.cell p_ hL4_.out)
                    clear hL0_ hL1_ hL2_ hL3_ hL4_
                    repeat (first | go_big_quiet_step ((first | (go_at_call 59; exact Calls.later_of (laws_markText.calls k1 (wrap64 (x1_1 + 1)) t294 _ A7.out)))) | quiet_step ((first | (go_at_call 59; exact Calls.later_of (laws_markText.calls k1 (wrap64 (x1_1 + 1)) t294 _ A7.out)))))
                    refine wpQuiet_nil ?_
                    rintro w22 ⟨⟨wq_, hbL⟩, hq_⟩
                    have hq2_ : w22 = wq_ := hq_
                    clear hq_
                    subst hq2_
                    clear hL0 hL1 hL2 hL3 hL4
                    have nHB_ := by first | exact Aside0.mk (below_step HB.out hbL) | exact Aside0.mk (Kd.R_below HB.out hbL) | exact Aside0.mk (Kd.S_below HB.out hbL) | exact Aside0.mk (Kd.N_below HB.out hbL) | exact Aside0.mk (Kd.V_below HB.out hbL) | exact Aside0.mk (Kd.Q_below HB.out hbL) | exact Aside0.mk (Kd.C_below HB.out hbL) | exact Aside0.mk ((hbL.block _ (blk_lt HB.out)).trans HB.out)
                    clear HB
                    have HB := nHB_
                    clear nHB_
                    clear hbL
                    try go_wp2
                    have n0_ := Aside0.mk (below_drew1 HB.out)
                    clear HB
                    have HB := n0_
                    clear n0_
                    have p295 : 0 ≤ (x5_1 : Int) := of_decide_eq_true (by first | (with_reducible assumption) | assumption)
                    have q295 : x5_1 < (l0.length : Int) := of_decide_eq_true (by first | (with_reducible assumption) | assumption)
                    obtain ⟨ad295, e295, hx295_0, hx295_1, hx295_2, hx295_3, hx295_4⟩ := at_T82 HR0.out x5_1 p295 q295
                    have hw295_4 := hx295_4
                    have hw295_3 := hx295_3
                    have hw295_2 := hx295_2
                    have hw295_1 := hx295_1
                    have hw295_0 := hx295_0
                    obtain rfl : ad291 = ad295 := (by injection e295)
                    replace hx295_0 := (HB.out.cell (World.block_lt_of_cell? w _ hx295_0)).trans hx295_0
                    replace hx295_1 := (HB.out.cell (World.block_lt_of_cell? w _ hx295_1)).trans hx295_1
                    replace hx295_2 := (HB.out.cell (World.block_lt_of_cell? w _ hx295_2)).trans hx295_2
                    replace hx295_3 := (HB.out.cell (World.block_lt_of_cell? w _ hx295_3)).trans hx295_3
                    replace hx295_4 := (HB.out.cell (World.block_lt_of_cell? w _ hx295_4)).trans hx295_4
                    replace p295 := eq_true p295
                    replace q295 := eq_true q295
                    refine wp_region_later (by kernel_rfl) (by kernel_rfl) ?_
                    have hL0_ := Aside0.mk (show w22.drew.cell? (ad291.add ((x5_1).toNat * 5)) = some (.string ((rd_T82 l0 x5_1).f0)) from ((HB.out.cell (World.block_lt_of_cell? w _ hw295_0)).trans hw295_0))
                    have hL1_ := Aside0.mk (show w22.drew.cell? ⟨(ad291.add ((x5_1).toNat * 5)).block, (ad291.add ((x5_1).toNat * 5)).off + 1, none⟩ = some (.string ((rd_T82 l0 x5_1).f1)) from ((HB.out.cell (World.block_lt_of_cell? w _ hw295_1)).trans hw295_1))
                    have hL2_ := Aside0.mk (show w22.drew.cell? ⟨(ad291.add ((x5_1).toNat * 5)).block, (ad291.add ((x5_1).toNat * 5)).off + 2, none⟩ = some (.string ((rd_T82 l0 x5_1).f2)) from ((HB.out.cell (World.block_lt_of_cell? w _ hw295_2)).trans hw295_2))
                    have hL3_ := Aside0.mk (show w22.drew.cell? ⟨(ad291.add ((x5_1).toNat * 5)).block, (ad291.add ((x5_1).toNat * 5)).off + 3, none⟩ = some (.bool ((rd_T82 l0 x5_1).f3)) from ((HB.out.cell (World.block_lt_of_cell? w _ hw295_3)).trans hw295_3))
                    have hL4_ := Aside0.mk (show w22.drew.cell? ⟨(ad291.add ((x5_1).toNat * 5)).block, (ad291.add ((x5_1).toNat * 5)).off + 4, none⟩ = some (.bool ((rd_T82 l0 x5_1).f4)) from ((HB.out.cell (World.block_lt_of_cell? w _ hw295_4)).trans hw295_4))
                    generalize w22.drew = w23 at HB hx295_0 hx295_1 hx295_2 hx295_3 hx295_4 hL0_ hL1_ hL2_ hL3_ hL4_ ⊢
                    clear hx295_0 hx295_1 hx295_2 hx295_3 hx295_4
                    have hL0 := fun (p_ : Later w23) => (show p_.val.cell? (ad291.add ((x5_1).toNat * 5)) = some (.string ((rd_T82 l0 x5_1).f0)) from Later.cell p_ hL0_.out)
                    have hL1 := fun (p_ : Later w23) => (show p_.val.cell? ⟨(ad291.add ((x5_1).toNat * 5)).block, (ad291.add ((x5_1).toNat * 5)).off + 1, none⟩ = some (.string ((rd_T82 l0 x5_1).f1)) from Later.cell p_ hL1_.out)
                    have hL2 := fun (p_ : Later w23) => (show p_.val.cell? ⟨(ad291.add ((x5_1).toNat * 5)).block, (ad291.add ((x5_1).toNat * 5)).off + 2, none⟩ = some (.string ((rd_T82 l0 x5_1).f2)) from Later.cell p_ hL2_.out)
                    have hL3 := fun (p_ : Later w23) => (show p_.val.cell? ⟨(ad291.add ((x5_1).toNat * 5)).block, (ad291.add ((x5_1).toNat * 5)).off + 3, none⟩ = some (.bool ((rd_T82 l0 x5_1).f3)) from Later.cell p_ hL3_.out)
                    have hL4 := fun (p_ : Later w23) => (show p_.val.cell? ⟨(ad291.add ((x5_1).toNat * 5)).block, (ad291.add ((x5_1).toNat * 5)).off + 4, none⟩ = some (.bool ((rd_T82 l0 x5_1).f4)) from Later.cell p_ hL4_.out)
                    clear hL0_ hL1_ hL2_ hL3_ hL4_
                    repeat (first | go_big_quiet_step ((first | (go_at_call 59; exact Calls.later_of (laws_markText.calls k1 (wrap64 ((wrap64 (x1_1 + 1)) + 1)) t296 _ A9.out)))) | quiet_step ((first | (go_at_call 59; exact Calls.later_of (laws_markText.calls k1 (wrap64 ((wrap64 (x1_1 + 1)) + 1)) t296 _ A9.out)))))
                    refine wpQuiet_nil ?_
                    rintro w24 ⟨⟨wq_, hbL⟩, hq_⟩
                    have hq2_ : w24 = wq_ := hq_
                    clear hq_
                    subst hq2_
                    clear hL0 hL1 hL2 hL3 hL4
                    have nHB_ := by first | exact Aside0.mk (below_step HB.out hbL) | exact Aside0.mk (Kd.R_below HB.out hbL) | exact Aside0.mk (Kd.S_below HB.out hbL) | exact Aside0.mk (Kd.N_below HB.out hbL) | exact Aside0.mk (Kd.V_below HB.out hbL) | exact Aside0.mk (Kd.Q_below HB.out hbL) | exact Aside0.mk (Kd.C_below HB.out hbL) | exact Aside0.mk ((hbL.block _ (blk_lt HB.out)).trans HB.out)
                    clear HB
                    have HB := nHB_
                    clear nHB_
                    clear hbL
                    have p297 : 0 ≤ (x5_1 : Int) := of_decide_eq_true (by first | (with_reducible assumption) | assumption)
                    have q297 : x5_1 < (l0.length : Int) := of_decide_eq_true (by first | (with_reducible assumption) | assumption)
                    obtain ⟨ad297, e297, hx297_0, hx297_1, hx297_2, hx297_3, hx297_4⟩ := at_T82 HR0.out x5_1 p297 q297
                    obtain rfl : ad291 = ad297 := (by injection e297)
                    replace hx297_0 := (HB.out.cell (World.block_lt_of_cell? w _ hx297_0)).trans hx297_0
                    replace hx297_1 := (HB.out.cell (World.block_lt_of_cell? w _ hx297_1)).trans hx297_1
                    replace hx297_2 := (HB.out.cell (World.block_lt_of_cell? w _ hx297_2)).trans hx297_2
                    replace hx297_3 := (HB.out.cell (World.block_lt_of_cell? w _ hx297_3)).trans hx297_3
                    replace hx297_4 := (HB.out.cell (World.block_lt_of_cell? w _ hx297_4)).trans hx297_4
                    replace p297 := eq_true p297
                    replace q297 := eq_true q297
                    have p298 : 0 ≤ (x5_1 : Int) := of_decide_eq_true (by first | (with_reducible assumption) | assumption)
                    have q298 : x5_1 < (l0.length : Int) := of_decide_eq_true (by first | (with_reducible assumption) | assumption)
                    obtain ⟨ad298, e298, hx298_0, hx298_1, hx298_2, hx298_3, hx298_4⟩ := at_T82 HR0.out x5_1 p298 q298
                    obtain rfl : ad291 = ad298 := (by injection e298)
                    replace hx298_0 := (HB.out.cell (World.block_lt_of_cell? w _ hx298_0)).trans hx298_0
                    replace hx298_1 := (HB.out.cell (World.block_lt_of_cell? w _ hx298_1)).trans hx298_1
                    replace hx298_2 := (HB.out.cell (World.block_lt_of_cell? w _ hx298_2)).trans hx298_2
                    replace hx298_3 := (HB.out.cell (World.block_lt_of_cell? w _ hx298_3)).trans hx298_3
                    replace hx298_4 := (HB.out.cell (World.block_lt_of_cell? w _ hx298_4)).trans hx298_4
                    replace p298 := eq_true p298
                    replace q298 := eq_true q298
                    try go_wp2
                    go_ret
                    exact ⟨by first | rfl | (simp [errW_none, errW_some] <;> rfl) | (simp [*, errW_none, errW_some] <;> rfl), by repeat (first | (with_reducible first | exact HB.out | apply below_alloc | apply pw_below_drewN | apply below_drew1) | exact HB.out)⟩
                  · rw [if_neg c18] at H
                    have c18b0 : (((rd_T82 l0 x5_1).f4) != ((Int.tmod (wrap64 ((wrap64 ((wrap64 ((wrap64 (x1_1 + 1)) + 1)) + 1)) + 1)) 3) == 0)) = false := by simpa using c18
                    (try (have c18b1 : decide (((rd_T82 l0 x5_1).f4) = ((Int.tmod (wrap64 ((wrap64 ((wrap64 ((wrap64 (x1_1 + 1)) + 1)) + 1)) + 1)) 3) == 0)) = true := by simpa using c18))
                    (try (have c18b2 : (((rd_T82 l0 x5_1).f4) == ((Int.tmod (wrap64 ((wrap64 ((wrap64 ((wrap64 (x1_1 + 1)) + 1)) + 1)) + 1)) 3) == 0)) = true := by simpa using c18))
                    clear c18
                    have H' := Aside0.mk H
                    clear H
                    try go_wp2
                    have n0_ := Aside0.mk (below_drew1 HB.out)
                    clear HB
                    have HB := n0_
                    clear n0_
                    have p291 : 0 ≤ (x5_1 : Int) := of_decide_eq_true (by first | (with_reducible assumption) | assumption)
                    have q291 : x5_1 < (l0.length : Int) := of_decide_eq_true (by first | (with_reducible assumption) | assumption)
                    obtain ⟨ad291, e291, hx291_0, hx291_1, hx291_2, hx291_3, hx291_4⟩ := at_T82 HR0.out x5_1 p291 q291
                    have hw291_4 := hx291_4
                    have hw291_3 := hx291_3
                    have hw291_2 := hx291_2
                    have hw291_1 := hx291_1
                    have hw291_0 := hx291_0
                    cases e291
                    replace hx291_0 := (HB.out.cell (World.block_lt_of_cell? w _ hx291_0)).trans hx291_0
                    replace hx291_1 := (HB.out.cell (World.block_lt_of_cell? w _ hx291_1)).trans hx291_1
                    replace hx291_2 := (HB.out.cell (World.block_lt_of_cell? w _ hx291_2)).trans hx291_2
                    replace hx291_3 := (HB.out.cell (World.block_lt_of_cell? w _ hx291_3)).trans hx291_3
                    replace hx291_4 := (HB.out.cell (World.block_lt_of_cell? w _ hx291_4)).trans hx291_4
                    replace p291 := eq_true p291
                    replace q291 := eq_true q291
                    refine wp_region_later (by kernel_rfl) (by kernel_rfl) ?_
                    have hL0_ := Aside0.mk (show wr.drew.cell? (ad291.add ((x5_1).toNat * 5)) = some (.string ((rd_T82 l0 x5_1).f0)) from ((HB.out.cell (World.block_lt_of_cell? w _ hw291_0)).trans hw291_0))
                    have hL1_ := Aside0.mk (show wr.drew.cell? ⟨(ad291.add ((x5_1).toNat * 5)).block, (ad291.add ((x5_1).toNat * 5)).off + 1, none⟩ = some (.string ((rd_T82 l0 x5_1).f1)) from ((HB.out.cell (World.block_lt_of_cell? w _ hw291_1)).trans hw291_1))
                    have hL2_ := Aside0.mk (show wr.drew.cell? ⟨(ad291.add ((x5_1).toNat * 5)).block, (ad291.add ((x5_1).toNat * 5)).off + 2, none⟩ = some (.string ((rd_T82 l0 x5_1).f2)) from ((HB.out.cell (World.block_lt_of_cell? w _ hw291_2)).trans hw291_2))
                    have hL3_ := Aside0.mk (show wr.drew.cell? ⟨(ad291.add ((x5_1).toNat * 5)).block, (ad291.add ((x5_1).toNat * 5)).off + 3, none⟩ = some (.bool ((rd_T82 l0 x5_1).f3)) from ((HB.out.cell (World.block_lt_of_cell? w _ hw291_3)).trans hw291_3))
                    have hL4_ := Aside0.mk (show wr.drew.cell? ⟨(ad291.add ((x5_1).toNat * 5)).block, (ad291.add ((x5_1).toNat * 5)).off + 4, none⟩ = some (.bool ((rd_T82 l0 x5_1).f4)) from ((HB.out.cell (World.block_lt_of_cell? w _ hw291_4)).trans hw291_4))
                    generalize wr.drew = w25 at HB hx291_0 hx291_1 hx291_2 hx291_3 hx291_4 hL0_ hL1_ hL2_ hL3_ hL4_ ⊢
                    clear hx291_0 hx291_1 hx291_2 hx291_3 hx291_4
                    have hL0 := fun (p_ : Later w25) => (show p_.val.cell? (ad291.add ((x5_1).toNat * 5)) = some (.string ((rd_T82 l0 x5_1).f0)) from Later.cell p_ hL0_.out)
                    have hL1 := fun (p_ : Later w25) => (show p_.val.cell? ⟨(ad291.add ((x5_1).toNat * 5)).block, (ad291.add ((x5_1).toNat * 5)).off + 1, none⟩ = some (.string ((rd_T82 l0 x5_1).f1)) from Later.cell p_ hL1_.out)
                    have hL2 := fun (p_ : Later w25) => (show p_.val.cell? ⟨(ad291.add ((x5_1).toNat * 5)).block, (ad291.add ((x5_1).toNat * 5)).off + 2, none⟩ = some (.string ((rd_T82 l0 x5_1).f2)) from Later.cell p_ hL2_.out)
                    have hL3 := fun (p_ : Later w25) => (show p_.val.cell? ⟨(ad291.add ((x5_1).toNat * 5)).block, (ad291.add ((x5_1).toNat * 5)).off + 3, none⟩ = some (.bool ((rd_T82 l0 x5_1).f3)) from Later.cell p_ hL3_.out)
                    have hL4 := fun (p_ : Later w25) => (show p_.val.cell? ⟨(ad291.add ((x5_1).toNat * 5)).block, (ad291.add ((x5_1).toNat * 5)).off + 4, none⟩ = some (.bool ((rd_T82 l0 x5_1).f4)) from Later.cell p_ hL4_.out)
                    clear hL0_ hL1_ hL2_ hL3_ hL4_
                    repeat (first | go_big_quiet_step ((first | (go_at_call 59; exact Calls.later_of (laws_markText.calls k1 x1_1 t292 _ A5.out)))) | quiet_step ((first | (go_at_call 59; exact Calls.later_of (laws_markText.calls k1 x1_1 t292 _ A5.out)))))
                    refine wpQuiet_nil ?_
                    rintro w26 ⟨⟨wq_, hbL⟩, hq_⟩
                    have hq2_ : w26 = wq_ := hq_
                    clear hq_
                    subst hq2_
                    clear hL0 hL1 hL2 hL3 hL4
                    have nHB_ := by first | exact Aside0.mk (below_step HB.out hbL) | exact Aside0.mk (Kd.R_below HB.out hbL) | exact Aside0.mk (Kd.S_below HB.out hbL) | exact Aside0.mk (Kd.N_below HB.out hbL) | exact Aside0.mk (Kd.V_below HB.out hbL) | exact Aside0.mk (Kd.Q_below HB.out hbL) | exact Aside0.mk (Kd.C_below HB.out hbL) | exact Aside0.mk ((hbL.block _ (blk_lt HB.out)).trans HB.out)
                    clear HB
                    have HB := nHB_
                    clear nHB_
                    clear hbL
                    try go_wp2
                    have n0_ := Aside0.mk (below_drew1 HB.out)
                    clear HB
                    have HB := n0_
                    clear n0_
                    have p293 : 0 ≤ (x5_1 : Int) := of_decide_eq_true (by first | (with_reducible assumption) | assumption)
                    have q293 : x5_1 < (l0.length : Int) := of_decide_eq_true (by first | (with_reducible assumption) | assumption)
                    obtain ⟨ad293, e293, hx293_0, hx293_1, hx293_2, hx293_3, hx293_4⟩ := at_T82 HR0.out x5_1 p293 q293
                    have hw293_4 := hx293_4
                    have hw293_3 := hx293_3
                    have hw293_2 := hx293_2
                    have hw293_1 := hx293_1
                    have hw293_0 := hx293_0
                    obtain rfl : ad291 = ad293 := (by injection e293)
                    replace hx293_0 := (HB.out.cell (World.block_lt_of_cell? w _ hx293_0)).trans hx293_0
                    replace hx293_1 := (HB.out.cell (World.block_lt_of_cell? w _ hx293_1)).trans hx293_1
                    replace hx293_2 := (HB.out.cell (World.block_lt_of_cell? w _ hx293_2)).trans hx293_2
                    replace hx293_3 := (HB.out.cell (World.block_lt_of_cell? w _ hx293_3)).trans hx293_3
                    replace hx293_4 := (HB.out.cell (World.block_lt_of_cell? w _ hx293_4)).trans hx293_4
                    replace p293 := eq_true p293
                    replace q293 := eq_true q293
                    refine wp_region_later (by kernel_rfl) (by kernel_rfl) ?_
                    have hL0_ := Aside0.mk (show w26.drew.cell? (ad291.add ((x5_1).toNat * 5)) = some (.string ((rd_T82 l0 x5_1).f0)) from ((HB.out.cell (World.block_lt_of_cell? w _ hw293_0)).trans hw293_0))
                    have hL1_ := Aside0.mk (show w26.drew.cell? ⟨(ad291.add ((x5_1).toNat * 5)).block, (ad291.add ((x5_1).toNat * 5)).off + 1, none⟩ = some (.string ((rd_T82 l0 x5_1).f1)) from ((HB.out.cell (World.block_lt_of_cell? w _ hw293_1)).trans hw293_1))
                    have hL2_ := Aside0.mk (show w26.drew.cell? ⟨(ad291.add ((x5_1).toNat * 5)).block, (ad291.add ((x5_1).toNat * 5)).off + 2, none⟩ = some (.string ((rd_T82 l0 x5_1).f2)) from ((HB.out.cell (World.block_lt_of_cell? w _ hw293_2)).trans hw293_2))
                    have hL3_ := Aside0.mk (show w26.drew.cell? ⟨(ad291.add ((x5_1).toNat * 5)).block, (ad291.add ((x5_1).toNat * 5)).off + 3, none⟩ = some (.bool ((rd_T82 l0 x5_1).f3)) from ((HB.out.cell (World.block_lt_of_cell? w _ hw293_3)).trans hw293_3))
                    have hL4_ := Aside0.mk (show w26.drew.cell? ⟨(ad291.add ((x5_1).toNat * 5)).block, (ad291.add ((x5_1).toNat * 5)).off + 4, none⟩ = some (.bool ((rd_T82 l0 x5_1).f4)) from ((HB.out.cell (World.block_lt_of_cell? w _ hw293_4)).trans hw293_4))
                    generalize w26.drew = w27 at HB hx293_0 hx293_1 hx293_2 hx293_3 hx293_4 hL0_ hL1_ hL2_ hL3_ hL4_ ⊢
                    clear hx293_0 hx293_1 hx293_2 hx293_3 hx293_4
                    have hL0 := fun (p_ : Later w27) => (show p_.val.cell? (ad291.add ((x5_1).toNat * 5)) = some (.string ((rd_T82 l0 x5_1).f0)) from Later.cell p_ hL0_.out)
                    have hL1 := fun (p_ : Later w27) => (show p_.val.cell? ⟨(ad291.add ((x5_1).toNat * 5)).block, (ad291.add ((x5_1).toNat * 5)).off + 1, none⟩ = some (.string ((rd_T82 l0 x5_1).f1)) from Later.cell p_ hL1_.out)
                    have hL2 := fun (p_ : Later w27) => (show p_.val.cell? ⟨(ad291.add ((x5_1).toNat * 5)).block, (ad291.add ((x5_1).toNat * 5)).off + 2, none⟩ = some (.string ((rd_T82 l0 x5_1).f2)) from Later.cell p_ hL2_.out)
                    have hL3 := fun (p_ : Later w27) => (show p_.val.cell? ⟨(ad291.add ((x5_1).toNat * 5)).block, (ad291.add ((x5_1).toNat * 5)).off + 3, none⟩ = some (.bool ((rd_T82 l0 x5_1).f3)) from Later.cell p_ hL3_.out)
                    have hL4 := fun (p_ : Later w27) => (show p_.val.cell? ⟨(ad291.add ((x5_1).toNat * 5)).block, (ad291.add ((x5_1).toNat * 5)).off + 4, none⟩ = some (.bool ((rd_T82 l0 x5_1).f4)) from Later.cell p_ hL4_.out)
                    clear hL0_ hL1_ hL2_ hL3_ hL4_
                    repeat (first | go_big_quiet_step ((first | (go_at_call 59; exact Calls.later_of (laws_markText.calls k1 (wrap64 (x1_1 + 1)) t294 _ A7.out)))) | quiet_step ((first | (go_at_call 59; exact Calls.later_of (laws_markText.calls k1 (wrap64 (x1_1 + 1)) t294 _ A7.out)))))
                    refine wpQuiet_nil ?_
                    rintro w28 ⟨⟨wq_, hbL⟩, hq_⟩
                    have hq2_ : w28 = wq_ := hq_
                    clear hq_
                    subst hq2_
                    clear hL0 hL1 hL2 hL3 hL4
                    have nHB_ := by first | exact Aside0.mk (below_step HB.out hbL) | exact Aside0.mk (Kd.R_below HB.out hbL) | exact Aside0.mk (Kd.S_below HB.out hbL) | exact Aside0.mk (Kd.N_below HB.out hbL) | exact Aside0.mk (Kd.V_below HB.out hbL) | exact Aside0.mk (Kd.Q_below HB.out hbL) | exact Aside0.mk (Kd.C_below HB.out hbL) | exact Aside0.mk ((hbL.block _ (blk_lt HB.out)).trans HB.out)
                    clear HB
                    have HB := nHB_
                    clear nHB_
                    clear hbL
                    try go_wp2
                    have n0_ := Aside0.mk (below_drew1 HB.out)
                    clear HB
                    have HB := n0_
                    clear n0_
                    have p295 : 0 ≤ (x5_1 : Int) := of_decide_eq_true (by first | (with_reducible assumption) | assumption)
                    have q295 : x5_1 < (l0.length : Int) := of_decide_eq_true (by first | (with_reducible assumption) | assumption)
                    obtain ⟨ad295, e295, hx295_0, hx295_1, hx295_2, hx295_3, hx295_4⟩ := at_T82 HR0.out x5_1 p295 q295
                    have hw295_4 := hx295_4
                    have hw295_3 := hx295_3
                    have hw295_2 := hx295_2
                    have hw295_1 := hx295_1
                    have hw295_0 := hx295_0
                    obtain rfl : ad291 = ad295 := (by injection e295)
                    replace hx295_0 := (HB.out.cell (World.block_lt_of_cell? w _ hx295_0)).trans hx295_0
                    replace hx295_1 := (HB.out.cell (World.block_lt_of_cell? w _ hx295_1)).trans hx295_1
                    replace hx295_2 := (HB.out.cell (World.block_lt_of_cell? w _ hx295_2)).trans hx295_2
                    replace hx295_3 := (HB.out.cell (World.block_lt_of_cell? w _ hx295_3)).trans hx295_3
                    replace hx295_4 := (HB.out.cell (World.block_lt_of_cell? w _ hx295_4)).trans hx295_4
                    replace p295 := eq_true p295
                    replace q295 := eq_true q295
                    refine wp_region_later (by kernel_rfl) (by kernel_rfl) ?_
                    have hL0_ := Aside0.mk (show w28.drew.cell? (ad291.add ((x5_1).toNat * 5)) = some (.string ((rd_T82 l0 x5_1).f0)) from ((HB.out.cell (World.block_lt_of_cell? w _ hw295_0)).trans hw295_0))
                    have hL1_ := Aside0.mk (show w28.drew.cell? ⟨(ad291.add ((x5_1).toNat * 5)).block, (ad291.add ((x5_1).toNat * 5)).off + 1, none⟩ = some (.string ((rd_T82 l0 x5_1).f1)) from ((HB.out.cell (World.block_lt_of_cell? w _ hw295_1)).trans hw295_1))
                    have hL2_ := Aside0.mk (show w28.drew.cell? ⟨(ad291.add ((x5_1).toNat * 5)).block, (ad291.add ((x5_1).toNat * 5)).off + 2, none⟩ = some (.string ((rd_T82 l0 x5_1).f2)) from ((HB.out.cell (World.block_lt_of_cell? w _ hw295_2)).trans hw295_2))
                    have hL3_ := Aside0.mk (show w28.drew.cell? ⟨(ad291.add ((x5_1).toNat * 5)).block, (ad291.add ((x5_1).toNat * 5)).off + 3, none⟩ = some (.bool ((rd_T82 l0 x5_1).f3)) from ((HB.out.cell (World.block_lt_of_cell? w _ hw295_3)).trans hw295_3))
                    have hL4_ := Aside0.mk (show w28.drew.cell? ⟨(ad291.add ((x5_1).toNat * 5)).block, (ad291.add ((x5_1).toNat * 5)).off + 4, none⟩ = some (.bool ((rd_T82 l0 x5_1).f4)) from ((HB.out.cell (World.block_lt_of_cell? w _ hw295_4)).trans hw295_4))
                    generalize w28.drew = w29 at HB hx295_0 hx295_1 hx295_2 hx295_3 hx295_4 hL0_ hL1_ hL2_ hL3_ hL4_ ⊢
                    clear hx295_0 hx295_1 hx295_2 hx295_3 hx295_4
                    have hL0 := fun (p_ : Later w29) => (show p_.val.cell? (ad291.add ((x5_1).toNat * 5)) = some (.string ((rd_T82 l0 x5_1).f0)) from Later.cell p_ hL0_.out)
                    have hL1 := fun (p_ : Later w29) => (show p_.val.cell? ⟨(ad291.add ((x5_1).toNat * 5)).block, (ad291.add ((x5_1).toNat * 5)).off + 1, none⟩ = some (.string ((rd_T82 l0 x5_1).f1)) from Later.cell p_ hL1_.out)
                    have hL2 := fun (p_ : Later w29) => (show p_.val.cell? ⟨(ad291.add ((x5_1).toNat * 5)).block, (ad291.add ((x5_1).toNat * 5)).off + 2, none⟩ = some (.string ((rd_T82 l0 x5_1).f2)) from Later.cell p_ hL2_.out)
                    have hL3 := fun (p_ : Later w29) => (show p_.val.cell? ⟨(ad291.add ((x5_1).toNat * 5)).block, (ad291.add ((x5_1).toNat * 5)).off + 3, none⟩ = some (.bool ((rd_T82 l0 x5_1).f3)) from Later.cell p_ hL3_.out)
                    have hL4 := fun (p_ : Later w29) => (show p_.val.cell? ⟨(ad291.add ((x5_1).toNat * 5)).block, (ad291.add ((x5_1).toNat * 5)).off + 4, none⟩ = some (.bool ((rd_T82 l0 x5_1).f4)) from Later.cell p_ hL4_.out)
                    clear hL0_ hL1_ hL2_ hL3_ hL4_
                    repeat (first | go_big_quiet_step ((first | (go_at_call 59; exact Calls.later_of (laws_markText.calls k1 (wrap64 ((wrap64 (x1_1 + 1)) + 1)) t296 _ A9.out)))) | quiet_step ((first | (go_at_call 59; exact Calls.later_of (laws_markText.calls k1 (wrap64 ((wrap64 (x1_1 + 1)) + 1)) t296 _ A9.out)))))
                    refine wpQuiet_nil ?_
                    rintro w30 ⟨⟨wq_, hbL⟩, hq_⟩
                    have hq2_ : w30 = wq_ := hq_
                    clear hq_
                    subst hq2_
                    clear hL0 hL1 hL2 hL3 hL4
                    have nHB_ := by first | exact Aside0.mk (below_step HB.out hbL) | exact Aside0.mk (Kd.R_below HB.out hbL) | exact Aside0.mk (Kd.S_below HB.out hbL) | exact Aside0.mk (Kd.N_below HB.out hbL) | exact Aside0.mk (Kd.V_below HB.out hbL) | exact Aside0.mk (Kd.Q_below HB.out hbL) | exact Aside0.mk (Kd.C_below HB.out hbL) | exact Aside0.mk ((hbL.block _ (blk_lt HB.out)).trans HB.out)
                    clear HB
                    have HB := nHB_
                    clear nHB_
                    clear hbL
                    have p297 : 0 ≤ (x5_1 : Int) := of_decide_eq_true (by first | (with_reducible assumption) | assumption)
                    have q297 : x5_1 < (l0.length : Int) := of_decide_eq_true (by first | (with_reducible assumption) | assumption)
                    obtain ⟨ad297, e297, hx297_0, hx297_1, hx297_2, hx297_3, hx297_4⟩ := at_T82 HR0.out x5_1 p297 q297
                    obtain rfl : ad291 = ad297 := (by injection e297)
                    replace hx297_0 := (HB.out.cell (World.block_lt_of_cell? w _ hx297_0)).trans hx297_0
                    replace hx297_1 := (HB.out.cell (World.block_lt_of_cell? w _ hx297_1)).trans hx297_1
                    replace hx297_2 := (HB.out.cell (World.block_lt_of_cell? w _ hx297_2)).trans hx297_2
                    replace hx297_3 := (HB.out.cell (World.block_lt_of_cell? w _ hx297_3)).trans hx297_3
                    replace hx297_4 := (HB.out.cell (World.block_lt_of_cell? w _ hx297_4)).trans hx297_4
                    replace p297 := eq_true p297
                    replace q297 := eq_true q297
                    have p298 : 0 ≤ (x5_1 : Int) := of_decide_eq_true (by first | (with_reducible assumption) | assumption)
                    have q298 : x5_1 < (l0.length : Int) := of_decide_eq_true (by first | (with_reducible assumption) | assumption)
                    obtain ⟨ad298, e298, hx298_0, hx298_1, hx298_2, hx298_3, hx298_4⟩ := at_T82 HR0.out x5_1 p298 q298
                    obtain rfl : ad291 = ad298 := (by injection e298)
                    replace hx298_0 := (HB.out.cell (World.block_lt_of_cell? w _ hx298_0)).trans hx298_0
                    replace hx298_1 := (HB.out.cell (World.block_lt_of_cell? w _ hx298_1)).trans hx298_1
                    replace hx298_2 := (HB.out.cell (World.block_lt_of_cell? w _ hx298_2)).trans hx298_2
                    replace hx298_3 := (HB.out.cell (World.block_lt_of_cell? w _ hx298_3)).trans hx298_3
                    replace hx298_4 := (HB.out.cell (World.block_lt_of_cell? w _ hx298_4)).trans hx298_4
                    replace p298 := eq_true p298
                    replace q298 := eq_true q298
                    try go_wp2
                    go_roundg k1
                    case measure => have := HK1.out; omega
                    case rel => exact ⟨(wrap64 ((wrap64 ((wrap64 ((wrap64 ((wrap64 (x1_1 + 1)) + 1)) + 1)) + 1)) + 1)), (wrap64 (x5_1 + 1)), (by first | rfl | (simp; done) | (simp [*]; done)), (by first | rfl | (simp; done) | (simp [*]; done)), H', ⟨by have := HK1.out; omega⟩, ⟨by repeat (first | (with_reducible first | exact HB.out | apply below_alloc | apply pw_below_drewN | apply below_drew1) | exact HB.out)⟩⟩
              · rw [if_neg c10] at H
                have c10b0 : (((rd_T82 l0 x5_1).f2).toList == t296.toList) = false := beq_eq_false_iff_ne.mpr c10
                have c10b1 : (((rd_T82 l0 x5_1).f2).toList != t296.toList) = true := bne_iff_ne.mpr c10
                obtain rfl := Option.some.inj H
                try go_wp2
                have n0_ := Aside0.mk (below_drew1 HB.out)
                clear HB
                have HB := n0_
                clear n0_
                have p291 : 0 ≤ (x5_1 : Int) := of_decide_eq_true (by first | (with_reducible assumption) | assumption)
                have q291 : x5_1 < (l0.length : Int) := of_decide_eq_true (by first | (with_reducible assumption) | assumption)
                obtain ⟨ad291, e291, hx291_0, hx291_1, hx291_2, hx291_3, hx291_4⟩ := at_T82 HR0.out x5_1 p291 q291
                have hw291_4 := hx291_4
                have hw291_3 := hx291_3
                have hw291_2 := hx291_2
                have hw291_1 := hx291_1
                have hw291_0 := hx291_0
                cases e291
                replace hx291_0 := (HB.out.cell (World.block_lt_of_cell? w _ hx291_0)).trans hx291_0
                replace hx291_1 := (HB.out.cell (World.block_lt_of_cell? w _ hx291_1)).trans hx291_1
                replace hx291_2 := (HB.out.cell (World.block_lt_of_cell? w _ hx291_2)).trans hx291_2
                replace hx291_3 := (HB.out.cell (World.block_lt_of_cell? w _ hx291_3)).trans hx291_3
                replace hx291_4 := (HB.out.cell (World.block_lt_of_cell? w _ hx291_4)).trans hx291_4
                replace p291 := eq_true p291
                replace q291 := eq_true q291
                refine wp_region_later (by kernel_rfl) (by kernel_rfl) ?_
                have hL0_ := Aside0.mk (show wr.drew.cell? (ad291.add ((x5_1).toNat * 5)) = some (.string ((rd_T82 l0 x5_1).f0)) from ((HB.out.cell (World.block_lt_of_cell? w _ hw291_0)).trans hw291_0))
                have hL1_ := Aside0.mk (show wr.drew.cell? ⟨(ad291.add ((x5_1).toNat * 5)).block, (ad291.add ((x5_1).toNat * 5)).off + 1, none⟩ = some (.string ((rd_T82 l0 x5_1).f1)) from ((HB.out.cell (World.block_lt_of_cell? w _ hw291_1)).trans hw291_1))
                have hL2_ := Aside0.mk (show wr.drew.cell? ⟨(ad291.add ((x5_1).toNat * 5)).block, (ad291.add ((x5_1).toNat * 5)).off + 2, none⟩ = some (.string ((rd_T82 l0 x5_1).f2)) from ((HB.out.cell (World.block_lt_of_cell? w _ hw291_2)).trans hw291_2))
                have hL3_ := Aside0.mk (show wr.drew.cell? ⟨(ad291.add ((x5_1).toNat * 5)).block, (ad291.add ((x5_1).toNat * 5)).off + 3, none⟩ = some (.bool ((rd_T82 l0 x5_1).f3)) from ((HB.out.cell (World.block_lt_of_cell? w _ hw291_3)).trans hw291_3))
                have hL4_ := Aside0.mk (show wr.drew.cell? ⟨(ad291.add ((x5_1).toNat * 5)).block, (ad291.add ((x5_1).toNat * 5)).off + 4, none⟩ = some (.bool ((rd_T82 l0 x5_1).f4)) from ((HB.out.cell (World.block_lt_of_cell? w _ hw291_4)).trans hw291_4))
                generalize wr.drew = w31 at HB hx291_0 hx291_1 hx291_2 hx291_3 hx291_4 hL0_ hL1_ hL2_ hL3_ hL4_ ⊢
                clear hx291_0 hx291_1 hx291_2 hx291_3 hx291_4
                have hL0 := fun (p_ : Later w31) => (show p_.val.cell? (ad291.add ((x5_1).toNat * 5)) = some (.string ((rd_T82 l0 x5_1).f0)) from Later.cell p_ hL0_.out)
                have hL1 := fun (p_ : Later w31) => (show p_.val.cell? ⟨(ad291.add ((x5_1).toNat * 5)).block, (ad291.add ((x5_1).toNat * 5)).off + 1, none⟩ = some (.string ((rd_T82 l0 x5_1).f1)) from Later.cell p_ hL1_.out)
                have hL2 := fun (p_ : Later w31) => (show p_.val.cell? ⟨(ad291.add ((x5_1).toNat * 5)).block, (ad291.add ((x5_1).toNat * 5)).off + 2, none⟩ = some (.string ((rd_T82 l0 x5_1).f2)) from Later.cell p_ hL2_.out)
                have hL3 := fun (p_ : Later w31) => (show p_.val.cell? ⟨(ad291.add ((x5_1).toNat * 5)).block, (ad291.add ((x5_1).toNat * 5)).off + 3, none⟩ = some (.bool ((rd_T82 l0 x5_1).f3)) from Later.cell p_ hL3_.out)
                have hL4 := fun (p_ : Later w31) => (show p_.val.cell? ⟨(ad291.add ((x5_1).toNat * 5)).block, (ad291.add ((x5_1).toNat * 5)).off + 4, none⟩ = some (.bool ((rd_T82 l0 x5_1).f4)) from Later.cell p_ hL4_.out)
                clear hL0_ hL1_ hL2_ hL3_ hL4_
                repeat (first | go_big_quiet_step ((first | (go_at_call 59; exact Calls.later_of (laws_markText.calls k1 x1_1 t292 _ A5.out)))) | quiet_step ((first | (go_at_call 59; exact Calls.later_of (laws_markText.calls k1 x1_1 t292 _ A5.out)))))
                refine wpQuiet_nil ?_
                rintro w32 ⟨⟨wq_, hbL⟩, hq_⟩
                have hq2_ : w32 = wq_ := hq_
                clear hq_
                subst hq2_
                clear hL0 hL1 hL2 hL3 hL4
                have nHB_ := by first | exact Aside0.mk (below_step HB.out hbL) | exact Aside0.mk (Kd.R_below HB.out hbL) | exact Aside0.mk (Kd.S_below HB.out hbL) | exact Aside0.mk (Kd.N_below HB.out hbL) | exact Aside0.mk (Kd.V_below HB.out hbL) | exact Aside0.mk (Kd.Q_below HB.out hbL) | exact Aside0.mk (Kd.C_below HB.out hbL) | exact Aside0.mk ((hbL.block _ (blk_lt HB.out)).trans HB.out)
                clear HB
                have HB := nHB_
                clear nHB_
                clear hbL
                try go_wp2
                have n0_ := Aside0.mk (below_drew1 HB.out)
                clear HB
                have HB := n0_
                clear n0_
                have p293 : 0 ≤ (x5_1 : Int) := of_decide_eq_true (by first | (with_reducible assumption) | assumption)
                have q293 : x5_1 < (l0.length : Int) := of_decide_eq_true (by first | (with_reducible assumption) | assumption)
                obtain ⟨ad293, e293, hx293_0, hx293_1, hx293_2, hx293_3, hx293_4⟩ := at_T82 HR0.out x5_1 p293 q293
                have hw293_4 := hx293_4
                have hw293_3 := hx293_3
                have hw293_2 := hx293_2
                have hw293_1 := hx293_1
                have hw293_0 := hx293_0
                obtain rfl : ad291 = ad293 := (by injection e293)
                replace hx293_0 := (HB.out.cell (World.block_lt_of_cell? w _ hx293_0)).trans hx293_0
                replace hx293_1 := (HB.out.cell (World.block_lt_of_cell? w _ hx293_1)).trans hx293_1
                replace hx293_2 := (HB.out.cell (World.block_lt_of_cell? w _ hx293_2)).trans hx293_2
                replace hx293_3 := (HB.out.cell (World.block_lt_of_cell? w _ hx293_3)).trans hx293_3
                replace hx293_4 := (HB.out.cell (World.block_lt_of_cell? w _ hx293_4)).trans hx293_4
                replace p293 := eq_true p293
                replace q293 := eq_true q293
                refine wp_region_later (by kernel_rfl) (by kernel_rfl) ?_
                have hL0_ := Aside0.mk (show w32.drew.cell? (ad291.add ((x5_1).toNat * 5)) = some (.string ((rd_T82 l0 x5_1).f0)) from ((HB.out.cell (World.block_lt_of_cell? w _ hw293_0)).trans hw293_0))
                have hL1_ := Aside0.mk (show w32.drew.cell? ⟨(ad291.add ((x5_1).toNat * 5)).block, (ad291.add ((x5_1).toNat * 5)).off + 1, none⟩ = some (.string ((rd_T82 l0 x5_1).f1)) from ((HB.out.cell (World.block_lt_of_cell? w _ hw293_1)).trans hw293_1))
                have hL2_ := Aside0.mk (show w32.drew.cell? ⟨(ad291.add ((x5_1).toNat * 5)).block, (ad291.add ((x5_1).toNat * 5)).off + 2, none⟩ = some (.string ((rd_T82 l0 x5_1).f2)) from ((HB.out.cell (World.block_lt_of_cell? w _ hw293_2)).trans hw293_2))
                have hL3_ := Aside0.mk (show w32.drew.cell? ⟨(ad291.add ((x5_1).toNat * 5)).block, (ad291.add ((x5_1).toNat * 5)).off + 3, none⟩ = some (.bool ((rd_T82 l0 x5_1).f3)) from ((HB.out.cell (World.block_lt_of_cell? w _ hw293_3)).trans hw293_3))
                have hL4_ := Aside0.mk (show w32.drew.cell? ⟨(ad291.add ((x5_1).toNat * 5)).block, (ad291.add ((x5_1).toNat * 5)).off + 4, none⟩ = some (.bool ((rd_T82 l0 x5_1).f4)) from ((HB.out.cell (World.block_lt_of_cell? w _ hw293_4)).trans hw293_4))
                generalize w32.drew = w33 at HB hx293_0 hx293_1 hx293_2 hx293_3 hx293_4 hL0_ hL1_ hL2_ hL3_ hL4_ ⊢
                clear hx293_0 hx293_1 hx293_2 hx293_3 hx293_4
                have hL0 := fun (p_ : Later w33) => (show p_.val.cell? (ad291.add ((x5_1).toNat * 5)) = some (.string ((rd_T82 l0 x5_1).f0)) from Later.cell p_ hL0_.out)
                have hL1 := fun (p_ : Later w33) => (show p_.val.cell? ⟨(ad291.add ((x5_1).toNat * 5)).block, (ad291.add ((x5_1).toNat * 5)).off + 1, none⟩ = some (.string ((rd_T82 l0 x5_1).f1)) from Later.cell p_ hL1_.out)
                have hL2 := fun (p_ : Later w33) => (show p_.val.cell? ⟨(ad291.add ((x5_1).toNat * 5)).block, (ad291.add ((x5_1).toNat * 5)).off + 2, none⟩ = some (.string ((rd_T82 l0 x5_1).f2)) from Later.cell p_ hL2_.out)
                have hL3 := fun (p_ : Later w33) => (show p_.val.cell? ⟨(ad291.add ((x5_1).toNat * 5)).block, (ad291.add ((x5_1).toNat * 5)).off + 3, none⟩ = some (.bool ((rd_T82 l0 x5_1).f3)) from Later.cell p_ hL3_.out)
                have hL4 := fun (p_ : Later w33) => (show p_.val.cell? ⟨(ad291.add ((x5_1).toNat * 5)).block, (ad291.add ((x5_1).toNat * 5)).off + 4, none⟩ = some (.bool ((rd_T82 l0 x5_1).f4)) from Later.cell p_ hL4_.out)
                clear hL0_ hL1_ hL2_ hL3_ hL4_
                repeat (first | go_big_quiet_step ((first | (go_at_call 59; exact Calls.later_of (laws_markText.calls k1 (wrap64 (x1_1 + 1)) t294 _ A7.out)))) | quiet_step ((first | (go_at_call 59; exact Calls.later_of (laws_markText.calls k1 (wrap64 (x1_1 + 1)) t294 _ A7.out)))))
                refine wpQuiet_nil ?_
                rintro w34 ⟨⟨wq_, hbL⟩, hq_⟩
                have hq2_ : w34 = wq_ := hq_
                clear hq_
                subst hq2_
                clear hL0 hL1 hL2 hL3 hL4
                have nHB_ := by first | exact Aside0.mk (below_step HB.out hbL) | exact Aside0.mk (Kd.R_below HB.out hbL) | exact Aside0.mk (Kd.S_below HB.out hbL) | exact Aside0.mk (Kd.N_below HB.out hbL) | exact Aside0.mk (Kd.V_below HB.out hbL) | exact Aside0.mk (Kd.Q_below HB.out hbL) | exact Aside0.mk (Kd.C_below HB.out hbL) | exact Aside0.mk ((hbL.block _ (blk_lt HB.out)).trans HB.out)
                clear HB
                have HB := nHB_
                clear nHB_
                clear hbL
                try go_wp2
                have n0_ := Aside0.mk (below_drew1 HB.out)
                clear HB
                have HB := n0_
                clear n0_
                have p295 : 0 ≤ (x5_1 : Int) := of_decide_eq_true (by first | (with_reducible assumption) | assumption)
                have q295 : x5_1 < (l0.length : Int) := of_decide_eq_true (by first | (with_reducible assumption) | assumption)
                obtain ⟨ad295, e295, hx295_0, hx295_1, hx295_2, hx295_3, hx295_4⟩ := at_T82 HR0.out x5_1 p295 q295
                have hw295_4 := hx295_4
                have hw295_3 := hx295_3
                have hw295_2 := hx295_2
                have hw295_1 := hx295_1
                have hw295_0 := hx295_0
                obtain rfl : ad291 = ad295 := (by injection e295)
                replace hx295_0 := (HB.out.cell (World.block_lt_of_cell? w _ hx295_0)).trans hx295_0
                replace hx295_1 := (HB.out.cell (World.block_lt_of_cell? w _ hx295_1)).trans hx295_1
                replace hx295_2 := (HB.out.cell (World.block_lt_of_cell? w _ hx295_2)).trans hx295_2
                replace hx295_3 := (HB.out.cell (World.block_lt_of_cell? w _ hx295_3)).trans hx295_3
                replace hx295_4 := (HB.out.cell (World.block_lt_of_cell? w _ hx295_4)).trans hx295_4
                replace p295 := eq_true p295
                replace q295 := eq_true q295
                refine wp_region_later (by kernel_rfl) (by kernel_rfl) ?_
                have hL0_ := Aside0.mk (show w34.drew.cell? (ad291.add ((x5_1).toNat * 5)) = some (.string ((rd_T82 l0 x5_1).f0)) from ((HB.out.cell (World.block_lt_of_cell? w _ hw295_0)).trans hw295_0))
                have hL1_ := Aside0.mk (show w34.drew.cell? ⟨(ad291.add ((x5_1).toNat * 5)).block, (ad291.add ((x5_1).toNat * 5)).off + 1, none⟩ = some (.string ((rd_T82 l0 x5_1).f1)) from ((HB.out.cell (World.block_lt_of_cell? w _ hw295_1)).trans hw295_1))
                have hL2_ := Aside0.mk (show w34.drew.cell? ⟨(ad291.add ((x5_1).toNat * 5)).block, (ad291.add ((x5_1).toNat * 5)).off + 2, none⟩ = some (.string ((rd_T82 l0 x5_1).f2)) from ((HB.out.cell (World.block_lt_of_cell? w _ hw295_2)).trans hw295_2))
                have hL3_ := Aside0.mk (show w34.drew.cell? ⟨(ad291.add ((x5_1).toNat * 5)).block, (ad291.add ((x5_1).toNat * 5)).off + 3, none⟩ = some (.bool ((rd_T82 l0 x5_1).f3)) from ((HB.out.cell (World.block_lt_of_cell? w _ hw295_3)).trans hw295_3))
                have hL4_ := Aside0.mk (show w34.drew.cell? ⟨(ad291.add ((x5_1).toNat * 5)).block, (ad291.add ((x5_1).toNat * 5)).off + 4, none⟩ = some (.bool ((rd_T82 l0 x5_1).f4)) from ((HB.out.cell (World.block_lt_of_cell? w _ hw295_4)).trans hw295_4))
                generalize w34.drew = w35 at HB hx295_0 hx295_1 hx295_2 hx295_3 hx295_4 hL0_ hL1_ hL2_ hL3_ hL4_ ⊢
                clear hx295_0 hx295_1 hx295_2 hx295_3 hx295_4
                have hL0 := fun (p_ : Later w35) => (show p_.val.cell? (ad291.add ((x5_1).toNat * 5)) = some (.string ((rd_T82 l0 x5_1).f0)) from Later.cell p_ hL0_.out)
                have hL1 := fun (p_ : Later w35) => (show p_.val.cell? ⟨(ad291.add ((x5_1).toNat * 5)).block, (ad291.add ((x5_1).toNat * 5)).off + 1, none⟩ = some (.string ((rd_T82 l0 x5_1).f1)) from Later.cell p_ hL1_.out)
                have hL2 := fun (p_ : Later w35) => (show p_.val.cell? ⟨(ad291.add ((x5_1).toNat * 5)).block, (ad291.add ((x5_1).toNat * 5)).off + 2, none⟩ = some (.string ((rd_T82 l0 x5_1).f2)) from Later.cell p_ hL2_.out)
                have hL3 := fun (p_ : Later w35) => (show p_.val.cell? ⟨(ad291.add ((x5_1).toNat * 5)).block, (ad291.add ((x5_1).toNat * 5)).off + 3, none⟩ = some (.bool ((rd_T82 l0 x5_1).f3)) from Later.cell p_ hL3_.out)
                have hL4 := fun (p_ : Later w35) => (show p_.val.cell? ⟨(ad291.add ((x5_1).toNat * 5)).block, (ad291.add ((x5_1).toNat * 5)).off + 4, none⟩ = some (.bool ((rd_T82 l0 x5_1).f4)) from Later.cell p_ hL4_.out)
                clear hL0_ hL1_ hL2_ hL3_ hL4_
                repeat (first | go_big_quiet_step ((first | (go_at_call 59; exact Calls.later_of (laws_markText.calls k1 (wrap64 ((wrap64 (x1_1 + 1)) + 1)) t296 _ A9.out)))) | quiet_step ((first | (go_at_call 59; exact Calls.later_of (laws_markText.calls k1 (wrap64 ((wrap64 (x1_1 + 1)) + 1)) t296 _ A9.out)))))
                refine wpQuiet_nil ?_
                rintro w36 ⟨⟨wq_, hbL⟩, hq_⟩
                have hq2_ : w36 = wq_ := hq_
                clear hq_
                subst hq2_
                clear hL0 hL1 hL2 hL3 hL4
                have nHB_ := by first | exact Aside0.mk (below_step HB.out hbL) | exact Aside0.mk (Kd.R_below HB.out hbL) | exact Aside0.mk (Kd.S_below HB.out hbL) | exact Aside0.mk (Kd.N_below HB.out hbL) | exact Aside0.mk (Kd.V_below HB.out hbL) | exact Aside0.mk (Kd.Q_below HB.out hbL) | exact Aside0.mk (Kd.C_below HB.out hbL) | exact Aside0.mk ((hbL.block _ (blk_lt HB.out)).trans HB.out)
                clear HB
                have HB := nHB_
                clear nHB_
                clear hbL
                try go_wp2
                go_ret
                exact ⟨by first | rfl | (simp [errW_none, errW_some] <;> rfl) | (simp [*, errW_none, errW_some] <;> rfl), by repeat (first | (with_reducible first | exact HB.out | apply below_alloc | apply pw_below_drewN | apply below_drew1) | exact HB.out)⟩
            · rw [if_neg c8] at H
              have c8b0 : (((rd_T82 l0 x5_1).f1).toList == t294.toList) = false := beq_eq_false_iff_ne.mpr c8
              have c8b1 : (((rd_T82 l0 x5_1).f1).toList != t294.toList) = true := bne_iff_ne.mpr c8
              obtain rfl := Option.some.inj H
              try go_wp2
              have n0_ := Aside0.mk (below_drew1 HB.out)
              clear HB
              have HB := n0_
              clear n0_
              have p291 : 0 ≤ (x5_1 : Int) := of_decide_eq_true (by first | (with_reducible assumption) | assumption)
              have q291 : x5_1 < (l0.length : Int) := of_decide_eq_true (by first | (with_reducible assumption) | assumption)
              obtain ⟨ad291, e291, hx291_0, hx291_1, hx291_2, hx291_3, hx291_4⟩ := at_T82 HR0.out x5_1 p291 q291
              have hw291_4 := hx291_4
              have hw291_3 := hx291_3
              have hw291_2 := hx291_2
              have hw291_1 := hx291_1
              have hw291_0 := hx291_0
              cases e291
              replace hx291_0 := (HB.out.cell (World.block_lt_of_cell? w _ hx291_0)).trans hx291_0
              replace hx291_1 := (HB.out.cell (World.block_lt_of_cell? w _ hx291_1)).trans hx291_1
              replace hx291_2 := (HB.out.cell (World.block_lt_of_cell? w _ hx291_2)).trans hx291_2
              replace hx291_3 := (HB.out.cell (World.block_lt_of_cell? w _ hx291_3)).trans hx291_3
              replace hx291_4 := (HB.out.cell (World.block_lt_of_cell? w _ hx291_4)).trans hx291_4
              replace p291 := eq_true p291
              replace q291 := eq_true q291
              refine wp_region_later (by kernel_rfl) (by kernel_rfl) ?_
              have hL0_ := Aside0.mk (show wr.drew.cell? (ad291.add ((x5_1).toNat * 5)) = some (.string ((rd_T82 l0 x5_1).f0)) from ((HB.out.cell (World.block_lt_of_cell? w _ hw291_0)).trans hw291_0))
              have hL1_ := Aside0.mk (show wr.drew.cell? ⟨(ad291.add ((x5_1).toNat * 5)).block, (ad291.add ((x5_1).toNat * 5)).off + 1, none⟩ = some (.string ((rd_T82 l0 x5_1).f1)) from ((HB.out.cell (World.block_lt_of_cell? w _ hw291_1)).trans hw291_1))
              have hL2_ := Aside0.mk (show wr.drew.cell? ⟨(ad291.add ((x5_1).toNat * 5)).block, (ad291.add ((x5_1).toNat * 5)).off + 2, none⟩ = some (.string ((rd_T82 l0 x5_1).f2)) from ((HB.out.cell (World.block_lt_of_cell? w _ hw291_2)).trans hw291_2))
              have hL3_ := Aside0.mk (show wr.drew.cell? ⟨(ad291.add ((x5_1).toNat * 5)).block, (ad291.add ((x5_1).toNat * 5)).off + 3, none⟩ = some (.bool ((rd_T82 l0 x5_1).f3)) from ((HB.out.cell (World.block_lt_of_cell? w _ hw291_3)).trans hw291_3))
              have hL4_ := Aside0.mk (show wr.drew.cell? ⟨(ad291.add ((x5_1).toNat * 5)).block, (ad291.add ((x5_1).toNat * 5)).off + 4, none⟩ = some (.bool ((rd_T82 l0 x5_1).f4)) from ((HB.out.cell (World.block_lt_of_cell? w _ hw291_4)).trans hw291_4))
              generalize wr.drew = w37 at HB hx291_0 hx291_1 hx291_2 hx291_3 hx291_4 hL0_ hL1_ hL2_ hL3_ hL4_ ⊢
              clear hx291_0 hx291_1 hx291_2 hx291_3 hx291_4
              have hL0 := fun (p_ : Later w37) => (show p_.val.cell? (ad291.add ((x5_1).toNat * 5)) = some (.string ((rd_T82 l0 x5_1).f0)) from Later.cell p_ hL0_.out)
              have hL1 := fun (p_ : Later w37) => (show p_.val.cell? ⟨(ad291.add ((x5_1).toNat * 5)).block, (ad291.add ((x5_1).toNat * 5)).off + 1, none⟩ = some (.string ((rd_T82 l0 x5_1).f1)) from Later.cell p_ hL1_.out)
              have hL2 := fun (p_ : Later w37) => (show p_.val.cell? ⟨(ad291.add ((x5_1).toNat * 5)).block, (ad291.add ((x5_1).toNat * 5)).off + 2, none⟩ = some (.string ((rd_T82 l0 x5_1).f2)) from Later.cell p_ hL2_.out)
              have hL3 := fun (p_ : Later w37) => (show p_.val.cell? ⟨(ad291.add ((x5_1).toNat * 5)).block, (ad291.add ((x5_1).toNat * 5)).off + 3, none⟩ = some (.bool ((rd_T82 l0 x5_1).f3)) from Later.cell p_ hL3_.out)
              have hL4 := fun (p_ : Later w37) => (show p_.val.cell? ⟨(ad291.add ((x5_1).toNat * 5)).block, (ad291.add ((x5_1).toNat * 5)).off + 4, none⟩ = some (.bool ((rd_T82 l0 x5_1).f4)) from Later.cell p_ hL4_.out)
              clear hL0_ hL1_ hL2_ hL3_ hL4_
              repeat (first | go_big_quiet_step ((first | (go_at_call 59; exact Calls.later_of (laws_markText.calls k1 x1_1 t292 _ A5.out)))) | quiet_step ((first | (go_at_call 59; exact Calls.later_of (laws_markText.calls k1 x1_1 t292 _ A5.out)))))
              refine wpQuiet_nil ?_
              rintro w38 ⟨⟨wq_, hbL⟩, hq_⟩
              have hq2_ : w38 = wq_ := hq_
              clear hq_
              subst hq2_
              clear hL0 hL1 hL2 hL3 hL4
              have nHB_ := by first | exact Aside0.mk (below_step HB.out hbL) | exact Aside0.mk (Kd.R_below HB.out hbL) | exact Aside0.mk (Kd.S_below HB.out hbL) | exact Aside0.mk (Kd.N_below HB.out hbL) | exact Aside0.mk (Kd.V_below HB.out hbL) | exact Aside0.mk (Kd.Q_below HB.out hbL) | exact Aside0.mk (Kd.C_below HB.out hbL) | exact Aside0.mk ((hbL.block _ (blk_lt HB.out)).trans HB.out)
              clear HB
              have HB := nHB_
              clear nHB_
              clear hbL
              try go_wp2
              have n0_ := Aside0.mk (below_drew1 HB.out)
              clear HB
              have HB := n0_
              clear n0_
              have p293 : 0 ≤ (x5_1 : Int) := of_decide_eq_true (by first | (with_reducible assumption) | assumption)
              have q293 : x5_1 < (l0.length : Int) := of_decide_eq_true (by first | (with_reducible assumption) | assumption)
              obtain ⟨ad293, e293, hx293_0, hx293_1, hx293_2, hx293_3, hx293_4⟩ := at_T82 HR0.out x5_1 p293 q293
              have hw293_4 := hx293_4
              have hw293_3 := hx293_3
              have hw293_2 := hx293_2
              have hw293_1 := hx293_1
              have hw293_0 := hx293_0
              obtain rfl : ad291 = ad293 := (by injection e293)
              replace hx293_0 := (HB.out.cell (World.block_lt_of_cell? w _ hx293_0)).trans hx293_0
              replace hx293_1 := (HB.out.cell (World.block_lt_of_cell? w _ hx293_1)).trans hx293_1
              replace hx293_2 := (HB.out.cell (World.block_lt_of_cell? w _ hx293_2)).trans hx293_2
              replace hx293_3 := (HB.out.cell (World.block_lt_of_cell? w _ hx293_3)).trans hx293_3
              replace hx293_4 := (HB.out.cell (World.block_lt_of_cell? w _ hx293_4)).trans hx293_4
              replace p293 := eq_true p293
              replace q293 := eq_true q293
              refine wp_region_later (by kernel_rfl) (by kernel_rfl) ?_
              have hL0_ := Aside0.mk (show w38.drew.cell? (ad291.add ((x5_1).toNat * 5)) = some (.string ((rd_T82 l0 x5_1).f0)) from ((HB.out.cell (World.block_lt_of_cell? w _ hw293_0)).trans hw293_0))
              have hL1_ := Aside0.mk (show w38.drew.cell? ⟨(ad291.add ((x5_1).toNat * 5)).block, (ad291.add ((x5_1).toNat * 5)).off + 1, none⟩ = some (.string ((rd_T82 l0 x5_1).f1)) from ((HB.out.cell (World.block_lt_of_cell? w _ hw293_1)).trans hw293_1))
              have hL2_ := Aside0.mk (show w38.drew.cell? ⟨(ad291.add ((x5_1).toNat * 5)).block, (ad291.add ((x5_1).toNat * 5)).off + 2, none⟩ = some (.string ((rd_T82 l0 x5_1).f2)) from ((HB.out.cell (World.block_lt_of_cell? w _ hw293_2)).trans hw293_2))
              have hL3_ := Aside0.mk (show w38.drew.cell? ⟨(ad291.add ((x5_1).toNat * 5)).block, (ad291.add ((x5_1).toNat * 5)).off + 3, none⟩ = some (.bool ((rd_T82 l0 x5_1).f3)) from ((HB.out.cell (World.block_lt_of_cell? w _ hw293_3)).trans hw293_3))
              have hL4_ := Aside0.mk (show w38.drew.cell? ⟨(ad291.add ((x5_1).toNat * 5)).block, (ad291.add ((x5_1).toNat * 5)).off + 4, none⟩ = some (.bool ((rd_T82 l0 x5_1).f4)) from ((HB.out.cell (World.block_lt_of_cell? w _ hw293_4)).trans hw293_4))
              generalize w38.drew = w39 at HB hx293_0 hx293_1 hx293_2 hx293_3 hx293_4 hL0_ hL1_ hL2_ hL3_ hL4_ ⊢
              clear hx293_0 hx293_1 hx293_2 hx293_3 hx293_4
              have hL0 := fun (p_ : Later w39) => (show p_.val.cell? (ad291.add ((x5_1).toNat * 5)) = some (.string ((rd_T82 l0 x5_1).f0)) from Later.cell p_ hL0_.out)
              have hL1 := fun (p_ : Later w39) => (show p_.val.cell? ⟨(ad291.add ((x5_1).toNat * 5)).block, (ad291.add ((x5_1).toNat * 5)).off + 1, none⟩ = some (.string ((rd_T82 l0 x5_1).f1)) from Later.cell p_ hL1_.out)
              have hL2 := fun (p_ : Later w39) => (show p_.val.cell? ⟨(ad291.add ((x5_1).toNat * 5)).block, (ad291.add ((x5_1).toNat * 5)).off + 2, none⟩ = some (.string ((rd_T82 l0 x5_1).f2)) from Later.cell p_ hL2_.out)
              have hL3 := fun (p_ : Later w39) => (show p_.val.cell? ⟨(ad291.add ((x5_1).toNat * 5)).block, (ad291.add ((x5_1).toNat * 5)).off + 3, none⟩ = some (.bool ((rd_T82 l0 x5_1).f3)) from Later.cell p_ hL3_.out)
              have hL4 := fun (p_ : Later w39) => (show p_.val.cell? ⟨(ad291.add ((x5_1).toNat * 5)).block, (ad291.add ((x5_1).toNat * 5)).off + 4, none⟩ = some (.bool ((rd_T82 l0 x5_1).f4)) from Later.cell p_ hL4_.out)
              clear hL0_ hL1_ hL2_ hL3_ hL4_
              repeat (first | go_big_quiet_step ((first | (go_at_call 59; exact Calls.later_of (laws_markText.calls k1 (wrap64 (x1_1 + 1)) t294 _ A7.out)))) | quiet_step ((first | (go_at_call 59; exact Calls.later_of (laws_markText.calls k1 (wrap64 (x1_1 + 1)) t294 _ A7.out)))))
              refine wpQuiet_nil ?_
              rintro w40 ⟨⟨wq_, hbL⟩, hq_⟩
              have hq2_ : w40 = wq_ := hq_
              clear hq_
              subst hq2_
              clear hL0 hL1 hL2 hL3 hL4
              have nHB_ := by first | exact Aside0.mk (below_step HB.out hbL) | exact Aside0.mk (Kd.R_below HB.out hbL) | exact Aside0.mk (Kd.S_below HB.out hbL) | exact Aside0.mk (Kd.N_below HB.out hbL) | exact Aside0.mk (Kd.V_below HB.out hbL) | exact Aside0.mk (Kd.Q_below HB.out hbL) | exact Aside0.mk (Kd.C_below HB.out hbL) | exact Aside0.mk ((hbL.block _ (blk_lt HB.out)).trans HB.out)
              clear HB
              have HB := nHB_
              clear nHB_
              clear hbL
              try go_wp2
              go_ret
              exact ⟨by first | rfl | (simp [errW_none, errW_some] <;> rfl) | (simp [*, errW_none, errW_some] <;> rfl), by repeat (first | (with_reducible first | exact HB.out | apply below_alloc | apply pw_below_drewN | apply below_drew1) | exact HB.out)⟩
          · rw [if_neg c6] at H
            have c6b0 : (((rd_T82 l0 x5_1).f0).toList == t292.toList) = false := beq_eq_false_iff_ne.mpr c6
            have c6b1 : (((rd_T82 l0 x5_1).f0).toList != t292.toList) = true := bne_iff_ne.mpr c6
            obtain rfl := Option.some.inj H
            try go_wp2
            have n0_ := Aside0.mk (below_drew1 HB.out)
            clear HB
            have HB := n0_
            clear n0_
            have p291 : 0 ≤ (x5_1 : Int) := of_decide_eq_true (by first | (with_reducible assumption) | assumption)
            have q291 : x5_1 < (l0.length : Int) := of_decide_eq_true (by first | (with_reducible assumption) | assumption)
            obtain ⟨ad291, e291, hx291_0, hx291_1, hx291_2, hx291_3, hx291_4⟩ := at_T82 HR0.out x5_1 p291 q291
            have hw291_4 := hx291_4
            have hw291_3 := hx291_3
            have hw291_2 := hx291_2
            have hw291_1 := hx291_1
            have hw291_0 := hx291_0
            cases e291
            replace hx291_0 := (HB.out.cell (World.block_lt_of_cell? w _ hx291_0)).trans hx291_0
            replace hx291_1 := (HB.out.cell (World.block_lt_of_cell? w _ hx291_1)).trans hx291_1
            replace hx291_2 := (HB.out.cell (World.block_lt_of_cell? w _ hx291_2)).trans hx291_2
            replace hx291_3 := (HB.out.cell (World.block_lt_of_cell? w _ hx291_3)).trans hx291_3
            replace hx291_4 := (HB.out.cell (World.block_lt_of_cell? w _ hx291_4)).trans hx291_4
            replace p291 := eq_true p291
            replace q291 := eq_true q291
            refine wp_region_later (by kernel_rfl) (by kernel_rfl) ?_
            have hL0_ := Aside0.mk (show wr.drew.cell? (ad291.add ((x5_1).toNat * 5)) = some (.string ((rd_T82 l0 x5_1).f0)) from ((HB.out.cell (World.block_lt_of_cell? w _ hw291_0)).trans hw291_0))
            have hL1_ := Aside0.mk (show wr.drew.cell? ⟨(ad291.add ((x5_1).toNat * 5)).block, (ad291.add ((x5_1).toNat * 5)).off + 1, none⟩ = some (.string ((rd_T82 l0 x5_1).f1)) from ((HB.out.cell (World.block_lt_of_cell? w _ hw291_1)).trans hw291_1))
            have hL2_ := Aside0.mk (show wr.drew.cell? ⟨(ad291.add ((x5_1).toNat * 5)).block, (ad291.add ((x5_1).toNat * 5)).off + 2, none⟩ = some (.string ((rd_T82 l0 x5_1).f2)) from ((HB.out.cell (World.block_lt_of_cell? w _ hw291_2)).trans hw291_2))
            have hL3_ := Aside0.mk (show wr.drew.cell? ⟨(ad291.add ((x5_1).toNat * 5)).block, (ad291.add ((x5_1).toNat * 5)).off + 3, none⟩ = some (.bool ((rd_T82 l0 x5_1).f3)) from ((HB.out.cell (World.block_lt_of_cell? w _ hw291_3)).trans hw291_3))
            have hL4_ := Aside0.mk (show wr.drew.cell? ⟨(ad291.add ((x5_1).toNat * 5)).block, (ad291.add ((x5_1).toNat * 5)).off + 4, none⟩ = some (.bool ((rd_T82 l0 x5_1).f4)) from ((HB.out.cell (World.block_lt_of_cell? w _ hw291_4)).trans hw291_4))
            generalize wr.drew = w41 at HB hx291_0 hx291_1 hx291_2 hx291_3 hx291_4 hL0_ hL1_ hL2_ hL3_ hL4_ ⊢
            clear hx291_0 hx291_1 hx291_2 hx291_3 hx291_4
            have hL0 := fun (p_ : Later w41) => (show p_.val.cell? (ad291.add ((x5_1).toNat * 5)) = some (.string ((rd_T82 l0 x5_1).f0)) from Later.cell p_ hL0_.out)
            have hL1 := fun (p_ : Later w41) => (show p_.val.cell? ⟨(ad291.add ((x5_1).toNat * 5)).block, (ad291.add ((x5_1).toNat * 5)).off + 1, none⟩ = some (.string ((rd_T82 l0 x5_1).f1)) from Later.cell p_ hL1_.out)
            have hL2 := fun (p_ : Later w41) => (show p_.val.cell? ⟨(ad291.add ((x5_1).toNat * 5)).block, (ad291.add ((x5_1).toNat * 5)).off + 2, none⟩ = some (.string ((rd_T82 l0 x5_1).f2)) from Later.cell p_ hL2_.out)
            have hL3 := fun (p_ : Later w41) => (show p_.val.cell? ⟨(ad291.add ((x5_1).toNat * 5)).block, (ad291.add ((x5_1).toNat * 5)).off + 3, none⟩ = some (.bool ((rd_T82 l0 x5_1).f3)) from Later.cell p_ hL3_.out)
            have hL4 := fun (p_ : Later w41) => (show p_.val.cell? ⟨(ad291.add ((x5_1).toNat * 5)).block, (ad291.add ((x5_1).toNat * 5)).off + 4, none⟩ = some (.bool ((rd_T82 l0 x5_1).f4)) from Later.cell p_ hL4_.out)
            clear hL0_ hL1_ hL2_ hL3_ hL4_
            repeat (first | go_big_quiet_step ((first | (go_at_call 59; exact Calls.later_of (laws_markText.calls k1 x1_1 t292 _ A5.out)))) | quiet_step ((first | (go_at_call 59; exact Calls.later_of (laws_markText.calls k1 x1_1 t292 _ A5.out)))))
            refine wpQuiet_nil ?_
            rintro w42 ⟨⟨wq_, hbL⟩, hq_⟩
            have hq2_ : w42 = wq_ := hq_
            clear hq_
            subst hq2_
            clear hL0 hL1 hL2 hL3 hL4
            have nHB_ := by first | exact Aside0.mk (below_step HB.out hbL) | exact Aside0.mk (Kd.R_below HB.out hbL) | exact Aside0.mk (Kd.S_below HB.out hbL) | exact Aside0.mk (Kd.N_below HB.out hbL) | exact Aside0.mk (Kd.V_below HB.out hbL) | exact Aside0.mk (Kd.Q_below HB.out hbL) | exact Aside0.mk (Kd.C_below HB.out hbL) | exact Aside0.mk ((hbL.block _ (blk_lt HB.out)).trans HB.out)
            clear HB
            have HB := nHB_
            clear nHB_
            clear hbL
            try go_wp2
            go_ret
            exact ⟨by first | rfl | (simp [errW_none, errW_some] <;> rfl) | (simp [*, errW_none, errW_some] <;> rfl), by repeat (first | (with_reducible first | exact HB.out | apply below_alloc | apply pw_below_drewN | apply below_drew1) | exact HB.out)⟩
        · rw [if_neg c4] at H
          exact absurd H (by simp)
      · rw [if_neg c3] at H
        have c3b0 : decide (x5_1 < (l0.length : Int)) = false := decide_eq_false c3
        clear c3
        obtain rfl := Option.some.inj H
        go_wp2
        go_ret
        exact ⟨by first | rfl | (simp [errW_none, errW_some] <;> rfl) | (simp [*, errW_none, errW_some] <;> rfl), by repeat (first | (with_reducible first | exact HB.out | apply below_alloc | apply pw_below_drewN | apply below_drew1) | exact HB.out)⟩
end Go.Proofs.Ytgcncphdjabjjaa.X
