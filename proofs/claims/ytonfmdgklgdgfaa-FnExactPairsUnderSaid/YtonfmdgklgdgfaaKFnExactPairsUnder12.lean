import Derived.Test.YtonfmdgklgdgfaaKFnExactPairsUnder2
import Derived.Test.YtonfmdgklgdgfaaKFnExactPairsUnder3
import Derived.Test.YtonfmdgklgdgfaaKFnExactPairsUnder11
namespace Go.Proofs.Ytonfmdgklgdgfaa.X
open Go.RowKit Go.Proofs.YtonfmdgklgdgfaaW.PrintWords Go.Proofs.YtonfmdgklgdgfaaW.PrintLast Go.Proofs.YtonfmdgklgdgfaaW.PrintMore
attribute [local go_sem] xbin_geq xbin_leq xbin_gtr max2_int min2_int max_two min_two max_three min_three max_four min_four
set_option linter.unusedVariables false
set_option linter.unusedSimpArgs false
def laws_heldPairS.l0 : Nat → List (S65) → Int → Int → Option (Int)
 | 0, _, _, _ => none
 | k + 1, x0, x1, x5 => if x5 < (x0.length : Int) then (if 0 ≤ x5 then ((laws_markText.f k x1).bind fun t325 => (if ((rd_T65 x0 x5).f0).toList = t325.toList then ((laws_markText.f k (wrap64 (x1 + 1))).bind fun t327 => (if ((rd_T65 x0 x5).f1).toList = t327.toList then (laws_heldPairS.l0 k x0 (wrap64 ((wrap64 (x1 + 1)) + 1)) (wrap64 (x5 + 1))) else (some (-1)))) else (some (-1)))) else (none)) else (some x1)
def laws_heldPairS.f (k : Nat) (l0 : List (S65)) (a1 : Int) : Option (Int) := laws_heldPairS.l0 k l0 a1 0
theorem laws_heldPairS.mono_l : ∀ k, (∀ y0 y1 y2, LeO (laws_heldPairS.l0 k y0 y1 y2) (laws_heldPairS.l0 (k + 1) y0 y1 y2))
 | 0 => fun _ _ _ r h => by simp [laws_heldPairS.l0] at h
 | k + 1 => by
  have ih0 := laws_heldPairS.mono_l k
  ·intro y0 y1 y2
   unfold laws_heldPairS.l0
   repeat' first
   | (with_reducible exact ih0 _ _ _)
   | (with_reducible exact laws_markText.mono _ _)
   | (with_reducible exact LeO.refl _)
   | (with_reducible exact LeO.none _)
   | (with_reducible refine LeO.ite ?_ ?_)
   | (with_reducible refine LeO.bind ?_ (fun _ => ?_))
   | exact ih0 _ _ _
   | exact laws_markText.mono _ _
   | exact LeO.none _
   | refine LeO.ite ?_ ?_
   | refine LeO.bind ?_ (fun _ => ?_)
theorem laws_heldPairS.mono : ∀ a0 a1 k, LeO (laws_heldPairS.f k a0 a1) (laws_heldPairS.f (k + 1) a0 a1) := by
 intro a0 a1 k
 have ih0 := laws_heldPairS.mono_l k
 unfold laws_heldPairS.f
 repeat' first
   | (with_reducible exact ih0 _ _ _)
   | (with_reducible exact laws_markText.mono _ _)
   | (with_reducible exact LeO.refl _)
   | (with_reducible exact LeO.none _)
   | (with_reducible refine LeO.ite ?_ ?_)
   | (with_reducible refine LeO.bind ?_ (fun _ => ?_))
   | exact ih0 _ _ _
   | exact laws_markText.mono _ _
   | exact LeO.none _
   | refine LeO.ite ?_ ?_
   | refine LeO.bind ?_ (fun _ => ?_)
set_option maxHeartbeats 8000000 in
set_option maxRecDepth 100000 in
theorem laws_heldPairS.calls (k : Nat) (A0 : Option Addr) (c0 : Nat) (l0 : List (S65)) (a1 : Int) (r : Int) (w : World) (hr0 : Kd.C k65 w A0 l0.length l0) (hc0 : l0.length ≤ c0) (h : laws_heldPairS.f k l0 a1 = some r) :
  Calls Try.prog 44 #[.slice A0 l0.length c0, .int .i64 a1] w fun e w' => e = .returned (.int .i64 r) ∧ Below w.heap.size w w' := by
 have HR0 := Aside0.mk hr0
 have HC0 := Aside0.mk hc0
 clear hr0 hc0
 have HB := Aside0.mk (Below.refl w.heap.size w)
 have H : (laws_heldPairS.l0 k l0 a1 0) = some r := h
 clear h
 have H' := Aside0.mk H
 clear H
 go_enter Try.func44, Try.ntmps44
 go_wp2
 go_loopg [1, 5] k (fun kq v1 v5 w' => ∃ (x1_1 : Int) (x5_1 : Int), v1 = .int .i64 x1_1 ∧ v5 = .int .i64 x5_1 ∧ Aside0 (laws_heldPairS.l0 kq l0 x1_1 x5_1 = some r) ∧ Aside0 (kq ≤ k) ∧ Aside0 (Below w.heap.size w w'))
 case atStart => exact ⟨(a1), (0), (by first | rfl | (simp; done) | (simp [*]; done)), (by first | rfl | (simp; done) | (simp [*]; done)), H', ⟨Nat.le_refl _⟩, ⟨by repeat (first | (with_reducible first | exact HB.out | apply below_alloc | apply pw_below_drewN | apply below_drew1) | exact HB.out)⟩⟩
 case round =>
  clear H'
  try clear p2
  obtain ⟨x1_1, x5_1, rfl, rfl, HA, HK1, HB⟩ := hrel
  cases gk with
  | zero => exact absurd HA.out (by simp [laws_heldPairS.l0])
  | succ k1 =>
   have H := HA.out
   clear HA
   simp only [laws_heldPairS.l0] at H
   by_cases c3 : x5_1 < (l0.length : Int)
   ·rw [if_pos c3] at H
    have c3b0 : decide (x5_1 < (l0.length : Int)) = true := decide_eq_true c3
    clear c3
    by_cases c4 : 0 ≤ x5_1
    ·rw [if_pos c4] at H
     have c4b0 : decide (0 ≤ x5_1) = true := decide_eq_true c4
     clear c4
     replace H := Option.bind_eq_some_iff.mp H
     obtain ⟨t325, A50, H⟩ := H
     replace H : (if ((rd_T65 l0 x5_1).f0).toList = t325.toList then ((laws_markText.f k1 (wrap64 (x1_1 + 1))).bind fun t327 => (if ((rd_T65 l0 x5_1).f1).toList = t327.toList then (laws_heldPairS.l0 k1 l0 (wrap64 ((wrap64 (x1_1 + 1)) + 1)) (wrap64 (x5_1 + 1))) else (some (-1)))) else (some (-1))) = some r := H
     have A5 := Aside0.mk A50
     clear A50
     by_cases c6 : ((rd_T65 l0 x5_1).f0).toList = t325.toList
     ·rw [if_pos c6] at H
      have c6b0 : (((rd_T65 l0 x5_1).f0).toList == t325.toList) = true := beq_iff_eq.mpr c6
      have c6b1 : (((rd_T65 l0 x5_1).f0).toList != t325.toList) = false := bne_eq_false_iff_eq.mpr c6
      clear c6
      replace H := Option.bind_eq_some_iff.mp H
      obtain ⟨t327, A70, H⟩ := H
      replace H : (if ((rd_T65 l0 x5_1).f1).toList = t327.toList then (laws_heldPairS.l0 k1 l0 (wrap64 ((wrap64 (x1_1 + 1)) + 1)) (wrap64 (x5_1 + 1))) else (some (-1))) = some r := H
      have A7 := Aside0.mk A70
      clear A70
      by_cases c8 : ((rd_T65 l0 x5_1).f1).toList = t327.toList
      ·rw [if_pos c8] at H
       have c8b0 : (((rd_T65 l0 x5_1).f1).toList == t327.toList) = true := beq_iff_eq.mpr c8
       have c8b1 : (((rd_T65 l0 x5_1).f1).toList != t327.toList) = false := bne_eq_false_iff_eq.mpr c8
       clear c8
       have H' := Aside0.mk H
       clear H
       try go_wp2
       have n0_ := Aside0.mk (below_drew1 HB.out)
       clear HB
       have HB := n0_
       clear n0_
       have p324 : 0 ≤ (x5_1 : Int) := of_decide_eq_true (by first | (with_reducible assumption) | assumption)
       have q324 : x5_1 < (l0.length : Int) := of_decide_eq_true (by first | (with_reducible assumption) | assumption)
       obtain ⟨ad324, e324, hx324_0, hx324_1⟩ := at_T65 HR0.out x5_1 p324 q324
       have hw324_1 := hx324_1
       have hw324_0 := hx324_0
       cases e324
       replace hx324_0 := (HB.out.cell (World.block_lt_of_cell? w _ hx324_0)).trans hx324_0
       replace hx324_1 := (HB.out.cell (World.block_lt_of_cell? w _ hx324_1)).trans hx324_1
       replace p324 := eq_true p324
       replace q324 := eq_true q324
       refine wp_region_later (by kernel_rfl) (by kernel_rfl) ?_
       have hL0_ := Aside0.mk (show wr.drew.cell? (ad324.add ((x5_1).toNat * 2)) = some (.string ((rd_T65 l0 x5_1).f0)) from ((HB.out.cell (World.block_lt_of_cell? w _ hw324_0)).trans hw324_0))
       have hL1_ := Aside0.mk (show wr.drew.cell? ⟨(ad324.add ((x5_1).toNat * 2)).block, (ad324.add ((x5_1).toNat * 2)).off + 1, none⟩ = some (.string ((rd_T65 l0 x5_1).f1)) from ((HB.out.cell (World.block_lt_of_cell? w _ hw324_1)).trans hw324_1))
       generalize wr.drew = w9 at HB hx324_0 hx324_1 hL0_ hL1_ ⊢
       clear hx324_0 hx324_1
       have hL0 := fun (p_ : Later w9) => Later.cell p_ hL0_.out
       have hL1 := fun (p_ : Later w9) => Later.cell p_ hL1_.out
       clear hL0_ hL1_
       repeat (first | go_big_quiet_step ((first | (go_at_call 66; exact Calls.later_of (laws_markText.calls k1 x1_1 t325 _ A5.out)))) | quiet_step ((first | (go_at_call 66; exact Calls.later_of (laws_markText.calls k1 x1_1 t325 _ A5.out)))))
       refine wpQuiet_nil ?_
       rintro w10 ⟨⟨wq_, hbL⟩, hq_⟩
       have hq2_ : w10 = wq_ := hq_
       clear hq_
       subst hq2_
       clear hL0 hL1
       have nHB_ := Aside0.mk (below_step HB.out hbL)
       clear HB
       have HB := nHB_
       clear nHB_
       clear hbL
       try go_wp2
       have n0_ := Aside0.mk (below_drew1 HB.out)
       clear HB
       have HB := n0_
       clear n0_
       have p326 : 0 ≤ (x5_1 : Int) := of_decide_eq_true (by first | (with_reducible assumption) | assumption)
       have q326 : x5_1 < (l0.length : Int) := of_decide_eq_true (by first | (with_reducible assumption) | assumption)
       obtain ⟨ad326, e326, hx326_0, hx326_1⟩ := at_T65 HR0.out x5_1 p326 q326
       have hw326_1 := hx326_1
       have hw326_0 := hx326_0
       obtain rfl : ad324 = ad326 := (by injection e326)
       replace hx326_0 := (HB.out.cell (World.block_lt_of_cell? w _ hx326_0)).trans hx326_0
       replace hx326_1 := (HB.out.cell (World.block_lt_of_cell? w _ hx326_1)).trans hx326_1
       replace p326 := eq_true p326
       replace q326 := eq_true q326
       refine wp_region_later (by kernel_rfl) (by kernel_rfl) ?_
       have hL0_ := Aside0.mk (show w10.drew.cell? (ad324.add ((x5_1).toNat * 2)) = some (.string ((rd_T65 l0 x5_1).f0)) from ((HB.out.cell (World.block_lt_of_cell? w _ hw326_0)).trans hw326_0))
       have hL1_ := Aside0.mk (show w10.drew.cell? ⟨(ad324.add ((x5_1).toNat * 2)).block, (ad324.add ((x5_1).toNat * 2)).off + 1, none⟩ = some (.string ((rd_T65 l0 x5_1).f1)) from ((HB.out.cell (World.block_lt_of_cell? w _ hw326_1)).trans hw326_1))
       generalize w10.drew = w11 at HB hx326_0 hx326_1 hL0_ hL1_ ⊢
       clear hx326_0 hx326_1
       have hL0 := fun (p_ : Later w11) => Later.cell p_ hL0_.out
       have hL1 := fun (p_ : Later w11) => Later.cell p_ hL1_.out
       clear hL0_ hL1_
       repeat (first | go_big_quiet_step ((first | (go_at_call 66; exact Calls.later_of (laws_markText.calls k1 (wrap64 (x1_1 + 1)) t327 _ A7.out)))) | quiet_step ((first | (go_at_call 66; exact Calls.later_of (laws_markText.calls k1 (wrap64 (x1_1 + 1)) t327 _ A7.out)))))
       refine wpQuiet_nil ?_
       rintro w12 ⟨⟨wq_, hbL⟩, hq_⟩
       have hq2_ : w12 = wq_ := hq_
       clear hq_
       subst hq2_
       clear hL0 hL1
       have nHB_ := Aside0.mk (below_step HB.out hbL)
       clear HB
       have HB := nHB_
       clear nHB_
       clear hbL
       try go_wp2
       go_roundg k1
       case measure => have := HK1.out; omega
       case rel => exact ⟨(wrap64 ((wrap64 (x1_1 + 1)) + 1)), (wrap64 (x5_1 + 1)), (by first | rfl | (simp; done) | (simp [*]; done)), (by first | rfl | (simp; done) | (simp [*]; done)), H', ⟨by have := HK1.out; omega⟩, ⟨by repeat (first | (with_reducible first | exact HB.out | apply below_alloc | apply pw_below_drewN | apply below_drew1) | exact HB.out)⟩⟩
      ·rw [if_neg c8] at H
       have c8b0 : (((rd_T65 l0 x5_1).f1).toList == t327.toList) = false := beq_eq_false_iff_ne.mpr c8
       have c8b1 : (((rd_T65 l0 x5_1).f1).toList != t327.toList) = true := bne_iff_ne.mpr c8
       obtain rfl := Option.some.inj H
       try go_wp2
       have n0_ := Aside0.mk (below_drew1 HB.out)
       clear HB
       have HB := n0_
       clear n0_
       have p324 : 0 ≤ (x5_1 : Int) := of_decide_eq_true (by first | (with_reducible assumption) | assumption)
       have q324 : x5_1 < (l0.length : Int) := of_decide_eq_true (by first | (with_reducible assumption) | assumption)
       obtain ⟨ad324, e324, hx324_0, hx324_1⟩ := at_T65 HR0.out x5_1 p324 q324
       have hw324_1 := hx324_1
       have hw324_0 := hx324_0
       cases e324
       replace hx324_0 := (HB.out.cell (World.block_lt_of_cell? w _ hx324_0)).trans hx324_0
       replace hx324_1 := (HB.out.cell (World.block_lt_of_cell? w _ hx324_1)).trans hx324_1
       replace p324 := eq_true p324
       replace q324 := eq_true q324
       refine wp_region_later (by kernel_rfl) (by kernel_rfl) ?_
       have hL0_ := Aside0.mk (show wr.drew.cell? (ad324.add ((x5_1).toNat * 2)) = some (.string ((rd_T65 l0 x5_1).f0)) from ((HB.out.cell (World.block_lt_of_cell? w _ hw324_0)).trans hw324_0))
       have hL1_ := Aside0.mk (show wr.drew.cell? ⟨(ad324.add ((x5_1).toNat * 2)).block, (ad324.add ((x5_1).toNat * 2)).off + 1, none⟩ = some (.string ((rd_T65 l0 x5_1).f1)) from ((HB.out.cell (World.block_lt_of_cell? w _ hw324_1)).trans hw324_1))
       generalize wr.drew = w13 at HB hx324_0 hx324_1 hL0_ hL1_ ⊢
       clear hx324_0 hx324_1
       have hL0 := fun (p_ : Later w13) => Later.cell p_ hL0_.out
       have hL1 := fun (p_ : Later w13) => Later.cell p_ hL1_.out
       clear hL0_ hL1_
       repeat (first | go_big_quiet_step ((first | (go_at_call 66; exact Calls.later_of (laws_markText.calls k1 x1_1 t325 _ A5.out)))) | quiet_step ((first | (go_at_call 66; exact Calls.later_of (laws_markText.calls k1 x1_1 t325 _ A5.out)))))
       refine wpQuiet_nil ?_
       rintro w14 ⟨⟨wq_, hbL⟩, hq_⟩
       have hq2_ : w14 = wq_ := hq_
       clear hq_
       subst hq2_
       clear hL0 hL1
       have nHB_ := Aside0.mk (below_step HB.out hbL)
       clear HB
       have HB := nHB_
       clear nHB_
       clear hbL
       try go_wp2
       have n0_ := Aside0.mk (below_drew1 HB.out)
       clear HB
       have HB := n0_
       clear n0_
       have p326 : 0 ≤ (x5_1 : Int) := of_decide_eq_true (by first | (with_reducible assumption) | assumption)
       have q326 : x5_1 < (l0.length : Int) := of_decide_eq_true (by first | (with_reducible assumption) | assumption)
       obtain ⟨ad326, e326, hx326_0, hx326_1⟩ := at_T65 HR0.out x5_1 p326 q326
       have hw326_1 := hx326_1
       have hw326_0 := hx326_0
       obtain rfl : ad324 = ad326 := (by injection e326)
       replace hx326_0 := (HB.out.cell (World.block_lt_of_cell? w _ hx326_0)).trans hx326_0
       replace hx326_1 := (HB.out.cell (World.block_lt_of_cell? w _ hx326_1)).trans hx326_1
       replace p326 := eq_true p326
       replace q326 := eq_true q326
       refine wp_region_later (by kernel_rfl) (by kernel_rfl) ?_
       have hL0_ := Aside0.mk (show w14.drew.cell? (ad324.add ((x5_1).toNat * 2)) = some (.string ((rd_T65 l0 x5_1).f0)) from ((HB.out.cell (World.block_lt_of_cell? w _ hw326_0)).trans hw326_0))
       have hL1_ := Aside0.mk (show w14.drew.cell? ⟨(ad324.add ((x5_1).toNat * 2)).block, (ad324.add ((x5_1).toNat * 2)).off + 1, none⟩ = some (.string ((rd_T65 l0 x5_1).f1)) from ((HB.out.cell (World.block_lt_of_cell? w _ hw326_1)).trans hw326_1))
       generalize w14.drew = w15 at HB hx326_0 hx326_1 hL0_ hL1_ ⊢
       clear hx326_0 hx326_1
       have hL0 := fun (p_ : Later w15) => Later.cell p_ hL0_.out
       have hL1 := fun (p_ : Later w15) => Later.cell p_ hL1_.out
       clear hL0_ hL1_
       repeat (first | go_big_quiet_step ((first | (go_at_call 66; exact Calls.later_of (laws_markText.calls k1 (wrap64 (x1_1 + 1)) t327 _ A7.out)))) | quiet_step ((first | (go_at_call 66; exact Calls.later_of (laws_markText.calls k1 (wrap64 (x1_1 + 1)) t327 _ A7.out)))))
       refine wpQuiet_nil ?_
       rintro w16 ⟨⟨wq_, hbL⟩, hq_⟩
       have hq2_ : w16 = wq_ := hq_
       clear hq_
       subst hq2_
       clear hL0 hL1
       have nHB_ := Aside0.mk (below_step HB.out hbL)
       clear HB
       have HB := nHB_
       clear nHB_
       clear hbL
       try go_wp2
       go_ret
       exact ⟨by first | rfl | (simp [errW_none, errW_some] <;> rfl) | (simp [*, errW_none, errW_some] <;> rfl), by repeat (first | (with_reducible first | exact HB.out | apply below_alloc | apply pw_below_drewN | apply below_drew1) | exact HB.out)⟩
     ·rw [if_neg c6] at H
      have c6b0 : (((rd_T65 l0 x5_1).f0).toList == t325.toList) = false := beq_eq_false_iff_ne.mpr c6
      have c6b1 : (((rd_T65 l0 x5_1).f0).toList != t325.toList) = true := bne_iff_ne.mpr c6
      obtain rfl := Option.some.inj H
      try go_wp2
      have n0_ := Aside0.mk (below_drew1 HB.out)
      clear HB
      have HB := n0_
      clear n0_
      have p324 : 0 ≤ (x5_1 : Int) := of_decide_eq_true (by first | (with_reducible assumption) | assumption)
      have q324 : x5_1 < (l0.length : Int) := of_decide_eq_true (by first | (with_reducible assumption) | assumption)
      obtain ⟨ad324, e324, hx324_0, hx324_1⟩ := at_T65 HR0.out x5_1 p324 q324
      have hw324_1 := hx324_1
      have hw324_0 := hx324_0
      cases e324
      replace hx324_0 := (HB.out.cell (World.block_lt_of_cell? w _ hx324_0)).trans hx324_0
      replace hx324_1 := (HB.out.cell (World.block_lt_of_cell? w _ hx324_1)).trans hx324_1
      replace p324 := eq_true p324
      replace q324 := eq_true q324
      refine wp_region_later (by kernel_rfl) (by kernel_rfl) ?_
      have hL0_ := Aside0.mk (show wr.drew.cell? (ad324.add ((x5_1).toNat * 2)) = some (.string ((rd_T65 l0 x5_1).f0)) from ((HB.out.cell (World.block_lt_of_cell? w _ hw324_0)).trans hw324_0))
      have hL1_ := Aside0.mk (show wr.drew.cell? ⟨(ad324.add ((x5_1).toNat * 2)).block, (ad324.add ((x5_1).toNat * 2)).off + 1, none⟩ = some (.string ((rd_T65 l0 x5_1).f1)) from ((HB.out.cell (World.block_lt_of_cell? w _ hw324_1)).trans hw324_1))
      generalize wr.drew = w17 at HB hx324_0 hx324_1 hL0_ hL1_ ⊢
      clear hx324_0 hx324_1
      have hL0 := fun (p_ : Later w17) => Later.cell p_ hL0_.out
      have hL1 := fun (p_ : Later w17) => Later.cell p_ hL1_.out
      clear hL0_ hL1_
      repeat (first | go_big_quiet_step ((first | (go_at_call 66; exact Calls.later_of (laws_markText.calls k1 x1_1 t325 _ A5.out)))) | quiet_step ((first | (go_at_call 66; exact Calls.later_of (laws_markText.calls k1 x1_1 t325 _ A5.out)))))
      refine wpQuiet_nil ?_
      rintro w18 ⟨⟨wq_, hbL⟩, hq_⟩
      have hq2_ : w18 = wq_ := hq_
      clear hq_
      subst hq2_
      clear hL0 hL1
      have nHB_ := Aside0.mk (below_step HB.out hbL)
      clear HB
      have HB := nHB_
      clear nHB_
      clear hbL
      try go_wp2
      go_ret
      exact ⟨by first | rfl | (simp [errW_none, errW_some] <;> rfl) | (simp [*, errW_none, errW_some] <;> rfl), by repeat (first | (with_reducible first | exact HB.out | apply below_alloc | apply pw_below_drewN | apply below_drew1) | exact HB.out)⟩
    ·rw [if_neg c4] at H
     exact absurd H (by simp)
   ·rw [if_neg c3] at H
    have c3b0 : decide (x5_1 < (l0.length : Int)) = false := decide_eq_false c3
    clear c3
    obtain rfl := Option.some.inj H
    go_wp2
    go_ret
    exact ⟨by first | rfl | (simp [errW_none, errW_some] <;> rfl) | (simp [*, errW_none, errW_some] <;> rfl), by repeat (first | (with_reducible first | exact HB.out | apply below_alloc | apply pw_below_drewN | apply below_drew1) | exact HB.out)⟩
end Go.Proofs.Ytonfmdgklgdgfaa.X
