import Derived.Test.YtgcncphdjabjjaaKFnExactMakeBackup3
import Derived.Test.YtgcncphdjabjjaaKFnExactMakeBackup4
namespace Go.Proofs.Ytgcncphdjabjjaa.X
open Go.RowKit Go.Proofs.YtgcncphdjabjjaaW.PrintWords Go.Proofs.YtgcncphdjabjjaaW.PrintLast Go.Proofs.YtgcncphdjabjjaaW.PrintMore
attribute [local go_sem] qaT qaU qaV qaP qaQ qa3 qa4 qaJ qaK qaR qaS
set_option linter.unusedVariables false
set_option linter.unusedSimpArgs false
def qaD.l0 : Nat → List (S82) → Int → Int → Option (Int)
 | 0, _, _, _ => none
 | k + 1, x0, x1, x5 => if x5 < (x0.length : Int) then (if 0 ≤ x5 then ((qap.f k x1).bind fun t298 => (if ((qao x0 x5).f0).toList = t298.toList then ((qap.f k (wrap64 (x1 + 1))).bind fun t300 => (if ((qao x0 x5).f1).toList = t300.toList then ((qap.f k (wrap64 ((wrap64 (x1 + 1)) + 1))).bind fun t302 => (if ((qao x0 x5).f2).toList = t302.toList then (if (((qao x0 x5).f3) != ((Int.tmod (wrap64 ((wrap64 ((wrap64 (x1 + 1)) + 1)) + 1)) 3) == 0)) = true then (some (-1)) else (if (((qao x0 x5).f4) != ((Int.tmod (wrap64 ((wrap64 ((wrap64 ((wrap64 (x1 + 1)) + 1)) + 1)) + 1)) 3) == 0)) = true then (some (-1)) else (qaD.l0 k x0 (wrap64 ((wrap64 ((wrap64 ((wrap64 ((wrap64 (x1 + 1)) + 1)) + 1)) + 1)) + 1)) (wrap64 (x5 + 1))))) else (some (-1)))) else (some (-1)))) else (some (-1)))) else (none)) else (some x1)
def qaD.f (k : Nat) (l0 : List (S82)) (a1 : Int) : Option (Int) := qaD.l0 k l0 a1 0
theorem qaD.qbs : ∀ k, (∀ y0 y1 y2, LeO (qaD.l0 k y0 y1 y2) (qaD.l0 (k + 1) y0 y1 y2))
 | 0 => fun _ _ _ r h => by simp [qaD.l0] at h
 | k + 1 => by
  have ih0 := qaD.qbs k
  ·intro y0 y1 y2
   unfold qaD.l0
   repeat' first
   | (with_reducible exact ih0 _ _ _)
   | (with_reducible exact qap.mono _ _)
   | (with_reducible exact LeO.refl _)
   | (with_reducible exact LeO.none _)
   | (with_reducible refine LeO.ite ?_ ?_)
   | (with_reducible refine LeO.bind ?_ (fun _ => ?_))
   | exact ih0 _ _ _
   | exact qap.mono _ _
   | exact LeO.none _
   | refine LeO.ite ?_ ?_
   | refine LeO.bind ?_ (fun _ => ?_)
theorem qaD.mono : ∀ a0 a1 k, LeO (qaD.f k a0 a1) (qaD.f (k + 1) a0 a1) := by
 intro a0 a1 k
 have ih0 := qaD.qbs k
 unfold qaD.f
 repeat' first
   | (with_reducible exact ih0 _ _ _)
   | (with_reducible exact qap.mono _ _)
   | (with_reducible exact LeO.refl _)
   | (with_reducible exact LeO.none _)
   | (with_reducible refine LeO.ite ?_ ?_)
   | (with_reducible refine LeO.bind ?_ (fun _ => ?_))
   | exact ih0 _ _ _
   | exact qap.mono _ _
   | exact LeO.none _
   | refine LeO.ite ?_ ?_
   | refine LeO.bind ?_ (fun _ => ?_)
def qaD.T4 : Bool × List (List Nat × List Nat) := (true, [([], []), ([], []), ([0, 1], [0, 1]), ([2], [2]), ([3], [3]), ([], []), ([5], [5]), ([4, 6], [4, 6])])
def qaD.B4 : List Nat := [0, 0, 3, 7, 15, 0, 32, 127]
theorem qaD.tab4 : rtab .any (opsOf Try.f21 4) = qaD.T4 := by kernel_rfl
theorem qaD.bits4 : waitsOk qaD.T4.2 qaD.B4 = true := by kernel_rfl
def qaD.T7 : Bool × List (List Nat × List Nat) := (true, [([], []), ([], []), ([0, 1], [0, 1]), ([2], [2]), ([3], [3]), ([], []), ([5], [5]), ([4, 6], [4, 6])])
def qaD.B7 : List Nat := [0, 0, 3, 7, 15, 0, 32, 127]
theorem qaD.tab7 : rtab .any (opsOf Try.f21 7) = qaD.T7 := by kernel_rfl
theorem qaD.bits7 : waitsOk qaD.T7.2 qaD.B7 = true := by kernel_rfl
def qaD.T10 : Bool × List (List Nat × List Nat) := (true, [([], []), ([], []), ([0, 1], [0, 1]), ([2], [2]), ([3], [3]), ([], []), ([5], [5]), ([4, 6], [4, 6])])
def qaD.B10 : List Nat := [0, 0, 3, 7, 15, 0, 32, 127]
theorem qaD.tab10 : rtab .any (opsOf Try.f21 10) = qaD.T10 := by kernel_rfl
theorem qaD.bits10 : waitsOk qaD.T10.2 qaD.B10 = true := by kernel_rfl
set_option maxHeartbeats 8000000 in
set_option maxRecDepth 100000 in
theorem qaD.calls (k : Nat) (A0 : Option Addr) (c0 : Nat) (l0 : List (S82)) (a1 : Int) (r : Int) (w : World) (hr0 : Kd.C k82 w A0 l0.length l0) (hc0 : l0.length ≤ c0) (h : qaD.f k l0 a1 = some r) :
  Calls Try.prog 21 #[.slice A0 l0.length c0, .int .i64 a1] w fun e w' => e = .returned (.int .i64 r) ∧ Below w.heap.size w w' := by
 have HR0 := Aside0.mk hr0
 have HC0 := Aside0.mk hc0
 clear hr0 hc0
 have HB := Aside0.mk (Below.refl w.heap.size w)
 have H : (qaD.l0 k l0 a1 0) = some r := h
 clear h
 have H' := Aside0.mk H
 clear H
 go_enter Try.func21, Try.ntmps21
 go_wp2
 go_loopg [1, 5] k (fun kq v1 v5 w' => ∃ (x1_1 : Int) (x5_1 : Int), v1 = .int .i64 x1_1 ∧ v5 = .int .i64 x5_1 ∧ Aside0 (qaD.l0 kq l0 x1_1 x5_1 = some r) ∧ Aside0 (kq ≤ k) ∧ Aside0 (Below w.heap.size w w'))
 case atStart => exact ⟨(a1), (0), (by first | rfl | (simp; done) | (simp [*]; done)), (by first | rfl | (simp; done) | (simp [*]; done)), H', ⟨Nat.le_refl _⟩, ⟨by repeat (first | (with_reducible first | exact HB.out | apply qac | apply qaa | apply qab) | exact HB.out)⟩⟩
 case round =>
  clear H'
  try clear c2
  try clear p2
  obtain ⟨x1_1, x5_1, rfl, rfl, HA, HK1, HB⟩ := hrel
  cases gk with
  | zero => exact absurd HA.out (by simp [qaD.l0])
  | succ k1 =>
   have H := HA.out
   clear HA
   simp only [qaD.l0] at H
   by_cases c3 : x5_1 < (l0.length : Int)
   ·rw [if_pos c3] at H
    have c3b0 : decide (x5_1 < (l0.length : Int)) = true := decide_eq_true c3
    clear c3
    by_cases c4 : 0 ≤ x5_1
    ·rw [if_pos c4] at H
     have c4b0 : decide (0 ≤ x5_1) = true := decide_eq_true c4
     clear c4
     replace H := Option.bind_eq_some_iff.mp H
     obtain ⟨t298, A50, H⟩ := H
     replace H : (if ((qao l0 x5_1).f0).toList = t298.toList then ((qap.f k1 (wrap64 (x1_1 + 1))).bind fun t300 => (if ((qao l0 x5_1).f1).toList = t300.toList then ((qap.f k1 (wrap64 ((wrap64 (x1_1 + 1)) + 1))).bind fun t302 => (if ((qao l0 x5_1).f2).toList = t302.toList then (if (((qao l0 x5_1).f3) != ((Int.tmod (wrap64 ((wrap64 ((wrap64 (x1_1 + 1)) + 1)) + 1)) 3) == 0)) = true then (some (-1)) else (if (((qao l0 x5_1).f4) != ((Int.tmod (wrap64 ((wrap64 ((wrap64 ((wrap64 (x1_1 + 1)) + 1)) + 1)) + 1)) 3) == 0)) = true then (some (-1)) else (qaD.l0 k1 l0 (wrap64 ((wrap64 ((wrap64 ((wrap64 ((wrap64 (x1_1 + 1)) + 1)) + 1)) + 1)) + 1)) (wrap64 (x5_1 + 1))))) else (some (-1)))) else (some (-1)))) else (some (-1))) = some r := H
     have A5 := Aside0.mk A50
     clear A50
     by_cases c6 : ((qao l0 x5_1).f0).toList = t298.toList
     ·rw [if_pos c6] at H
      have c6b0 : (((qao l0 x5_1).f0).toList == t298.toList) = true := beq_iff_eq.mpr c6
      have c6b1 : (((qao l0 x5_1).f0).toList != t298.toList) = false := bne_eq_false_iff_eq.mpr c6
      clear c6
      replace H := Option.bind_eq_some_iff.mp H
      obtain ⟨t300, A70, H⟩ := H
      replace H : (if ((qao l0 x5_1).f1).toList = t300.toList then ((qap.f k1 (wrap64 ((wrap64 (x1_1 + 1)) + 1))).bind fun t302 => (if ((qao l0 x5_1).f2).toList = t302.toList then (if (((qao l0 x5_1).f3) != ((Int.tmod (wrap64 ((wrap64 ((wrap64 (x1_1 + 1)) + 1)) + 1)) 3) == 0)) = true then (some (-1)) else (if (((qao l0 x5_1).f4) != ((Int.tmod (wrap64 ((wrap64 ((wrap64 ((wrap64 (x1_1 + 1)) + 1)) + 1)) + 1)) 3) == 0)) = true then (some (-1)) else (qaD.l0 k1 l0 (wrap64 ((wrap64 ((wrap64 ((wrap64 ((wrap64 (x1_1 + 1)) + 1)) + 1)) + 1)) + 1)) (wrap64 (x5_1 + 1))))) else (some (-1)))) else (some (-1))) = some r := H
      have A7 := Aside0.mk A70
      clear A70
      by_cases c8 : ((qao l0 x5_1).f1).toList = t300.toList
      ·rw [if_pos c8] at H
       have c8b0 : (((qao l0 x5_1).f1).toList == t300.toList) = true := beq_iff_eq.mpr c8
       have c8b1 : (((qao l0 x5_1).f1).toList != t300.toList) = false := bne_eq_false_iff_eq.mpr c8
       clear c8
       replace H := Option.bind_eq_some_iff.mp H
       obtain ⟨t302, A90, H⟩ := H
       replace H : (if ((qao l0 x5_1).f2).toList = t302.toList then (if (((qao l0 x5_1).f3) != ((Int.tmod (wrap64 ((wrap64 ((wrap64 (x1_1 + 1)) + 1)) + 1)) 3) == 0)) = true then (some (-1)) else (if (((qao l0 x5_1).f4) != ((Int.tmod (wrap64 ((wrap64 ((wrap64 ((wrap64 (x1_1 + 1)) + 1)) + 1)) + 1)) 3) == 0)) = true then (some (-1)) else (qaD.l0 k1 l0 (wrap64 ((wrap64 ((wrap64 ((wrap64 ((wrap64 (x1_1 + 1)) + 1)) + 1)) + 1)) + 1)) (wrap64 (x5_1 + 1))))) else (some (-1))) = some r := H
       have A9 := Aside0.mk A90
       clear A90
       by_cases c10 : ((qao l0 x5_1).f2).toList = t302.toList
       ·rw [if_pos c10] at H
        have c10b0 : (((qao l0 x5_1).f2).toList == t302.toList) = true := beq_iff_eq.mpr c10
        have c10b1 : (((qao l0 x5_1).f2).toList != t302.toList) = false := bne_eq_false_iff_eq.mpr c10
        clear c10
        by_cases c11 : (((qao l0 x5_1).f3) != ((Int.tmod (wrap64 ((wrap64 ((wrap64 (x1_1 + 1)) + 1)) + 1)) 3) == 0)) = true
        ·rw [if_pos c11] at H
         have c11b0 : (((qao l0 x5_1).f3) != ((Int.tmod (wrap64 ((wrap64 ((wrap64 (x1_1 + 1)) + 1)) + 1)) 3) == 0)) = true := c11
         (try (have c11b1 : decide (((qao l0 x5_1).f3) = ((Int.tmod (wrap64 ((wrap64 ((wrap64 (x1_1 + 1)) + 1)) + 1)) 3) == 0)) = false := by simpa using c11))
         (try (have c11b2 : (((qao l0 x5_1).f3) == ((Int.tmod (wrap64 ((wrap64 ((wrap64 (x1_1 + 1)) + 1)) + 1)) 3) == 0)) = false := by simpa using c11))
         (try (have c11b3 : ¬ (((qao l0 x5_1).f3) = ((Int.tmod (wrap64 ((wrap64 ((wrap64 (x1_1 + 1)) + 1)) + 1)) 3) == 0)) := by simpa using c11))
         clear c11
         obtain rfl := Option.some.inj H
         try go_wp2
         have n0_ := Aside0.mk (qab HB.out)
         clear HB
         have HB := n0_
         clear n0_
         have p297 : 0 ≤ (x5_1 : Int) := of_decide_eq_true (by first | (with_reducible assumption) | assumption)
         have q297 : x5_1 < (l0.length : Int) := of_decide_eq_true (by first | (with_reducible assumption) | assumption)
         obtain ⟨ad297, e297, hx297_0, hx297_1, hx297_2, hx297_3, hx297_4⟩ := qb3 HR0.out x5_1 p297 q297
         have hw297_4 := hx297_4
         have hw297_3 := hx297_3
         have hw297_2 := hx297_2
         have hw297_1 := hx297_1
         have hw297_0 := hx297_0
         cases e297
         replace hx297_0 := (HB.out.cell (World.block_lt_of_cell? w _ hx297_0)).trans hx297_0
         replace hx297_1 := (HB.out.cell (World.block_lt_of_cell? w _ hx297_1)).trans hx297_1
         replace hx297_2 := (HB.out.cell (World.block_lt_of_cell? w _ hx297_2)).trans hx297_2
         replace hx297_3 := (HB.out.cell (World.block_lt_of_cell? w _ hx297_3)).trans hx297_3
         replace hx297_4 := (HB.out.cell (World.block_lt_of_cell? w _ hx297_4)).trans hx297_4
         replace p297 := eq_true p297
         replace q297 := eq_true q297
         refine qaF (by kernel_rfl) (by kernel_rfl) ?_
         have hL0_ := Aside0.mk (show wr.drew.cell? (ad297.add ((x5_1).toNat * 5)) = some (.string ((qao l0 x5_1).f0)) from ((HB.out.cell (World.block_lt_of_cell? w _ hw297_0)).trans hw297_0))
         have hL1_ := Aside0.mk (show wr.drew.cell? ⟨(ad297.add ((x5_1).toNat * 5)).block, (ad297.add ((x5_1).toNat * 5)).off + 1, none⟩ = some (.string ((qao l0 x5_1).f1)) from ((HB.out.cell (World.block_lt_of_cell? w _ hw297_1)).trans hw297_1))
         have hL2_ := Aside0.mk (show wr.drew.cell? ⟨(ad297.add ((x5_1).toNat * 5)).block, (ad297.add ((x5_1).toNat * 5)).off + 2, none⟩ = some (.string ((qao l0 x5_1).f2)) from ((HB.out.cell (World.block_lt_of_cell? w _ hw297_2)).trans hw297_2))
         have hL3_ := Aside0.mk (show wr.drew.cell? ⟨(ad297.add ((x5_1).toNat * 5)).block, (ad297.add ((x5_1).toNat * 5)).off + 3, none⟩ = some (.bool ((qao l0 x5_1).f3)) from ((HB.out.cell (World.block_lt_of_cell? w _ hw297_3)).trans hw297_3))
         have hL4_ := Aside0.mk (show wr.drew.cell? ⟨(ad297.add ((x5_1).toNat * 5)).block, (ad297.add ((x5_1).toNat * 5)).off + 4, none⟩ = some (.bool ((qao l0 x5_1).f4)) from ((HB.out.cell (World.block_lt_of_cell? w _ hw297_4)).trans hw297_4))
         generalize wr.drew = w12 at HB hx297_0 hx297_1 hx297_2 hx297_3 hx297_4 hL0_ hL1_ hL2_ hL3_ hL4_ ⊢
         clear hx297_0 hx297_1 hx297_2 hx297_3 hx297_4
         have hL0 := fun (p_ : Later w12) => Later.cell p_ hL0_.out
         have hL1 := fun (p_ : Later w12) => Later.cell p_ hL1_.out
         have hL2 := fun (p_ : Later w12) => Later.cell p_ hL2_.out
         have hL3 := fun (p_ : Later w12) => Later.cell p_ hL3_.out
         have hL4 := fun (p_ : Later w12) => Later.cell p_ hL4_.out
         clear hL0_ hL1_ hL2_ hL3_ hL4_
         repeat (first | go_big_quiet_step ((first | (go_at_call 59; exact Calls.qbb (qap.calls k1 x1_1 t298 _ A5.out)))) | quiet_step ((first | (go_at_call 59; exact Calls.qbb (qap.calls k1 x1_1 t298 _ A5.out)))))
         refine wpQuiet_nil ?_
         rintro w13 ⟨⟨wq_, hbL⟩, hq_⟩
         have hq2_ : w13 = wq_ := hq_
         clear hq_
         subst hq2_
         clear hL0 hL1 hL2 hL3 hL4
         have nHB_ := Aside0.mk (qak HB.out hbL)
         clear HB
         have HB := nHB_
         clear nHB_
         clear hbL
         try go_wp2
         have n0_ := Aside0.mk (qab HB.out)
         clear HB
         have HB := n0_
         clear n0_
         have p299 : 0 ≤ (x5_1 : Int) := of_decide_eq_true (by first | (with_reducible assumption) | assumption)
         have q299 : x5_1 < (l0.length : Int) := of_decide_eq_true (by first | (with_reducible assumption) | assumption)
         obtain ⟨ad299, e299, hx299_0, hx299_1, hx299_2, hx299_3, hx299_4⟩ := qb3 HR0.out x5_1 p299 q299
         have hw299_4 := hx299_4
         have hw299_3 := hx299_3
         have hw299_2 := hx299_2
         have hw299_1 := hx299_1
         have hw299_0 := hx299_0
         obtain rfl : ad297 = ad299 := (by injection e299)
         replace hx299_0 := (HB.out.cell (World.block_lt_of_cell? w _ hx299_0)).trans hx299_0
         replace hx299_1 := (HB.out.cell (World.block_lt_of_cell? w _ hx299_1)).trans hx299_1
         replace hx299_2 := (HB.out.cell (World.block_lt_of_cell? w _ hx299_2)).trans hx299_2
         replace hx299_3 := (HB.out.cell (World.block_lt_of_cell? w _ hx299_3)).trans hx299_3
         replace hx299_4 := (HB.out.cell (World.block_lt_of_cell? w _ hx299_4)).trans hx299_4
         replace p299 := eq_true p299
         replace q299 := eq_true q299
         refine qaF (by kernel_rfl) (by kernel_rfl) ?_
         have hL0_ := Aside0.mk (show w13.drew.cell? (ad297.add ((x5_1).toNat * 5)) = some (.string ((qao l0 x5_1).f0)) from ((HB.out.cell (World.block_lt_of_cell? w _ hw299_0)).trans hw299_0))
         have hL1_ := Aside0.mk (show w13.drew.cell? ⟨(ad297.add ((x5_1).toNat * 5)).block, (ad297.add ((x5_1).toNat * 5)).off + 1, none⟩ = some (.string ((qao l0 x5_1).f1)) from ((HB.out.cell (World.block_lt_of_cell? w _ hw299_1)).trans hw299_1))
         have hL2_ := Aside0.mk (show w13.drew.cell? ⟨(ad297.add ((x5_1).toNat * 5)).block, (ad297.add ((x5_1).toNat * 5)).off + 2, none⟩ = some (.string ((qao l0 x5_1).f2)) from ((HB.out.cell (World.block_lt_of_cell? w _ hw299_2)).trans hw299_2))
         have hL3_ := Aside0.mk (show w13.drew.cell? ⟨(ad297.add ((x5_1).toNat * 5)).block, (ad297.add ((x5_1).toNat * 5)).off + 3, none⟩ = some (.bool ((qao l0 x5_1).f3)) from ((HB.out.cell (World.block_lt_of_cell? w _ hw299_3)).trans hw299_3))
         have hL4_ := Aside0.mk (show w13.drew.cell? ⟨(ad297.add ((x5_1).toNat * 5)).block, (ad297.add ((x5_1).toNat * 5)).off + 4, none⟩ = some (.bool ((qao l0 x5_1).f4)) from ((HB.out.cell (World.block_lt_of_cell? w _ hw299_4)).trans hw299_4))
         generalize w13.drew = w14 at HB hx299_0 hx299_1 hx299_2 hx299_3 hx299_4 hL0_ hL1_ hL2_ hL3_ hL4_ ⊢
         clear hx299_0 hx299_1 hx299_2 hx299_3 hx299_4
         have hL0 := fun (p_ : Later w14) => Later.cell p_ hL0_.out
         have hL1 := fun (p_ : Later w14) => Later.cell p_ hL1_.out
         have hL2 := fun (p_ : Later w14) => Later.cell p_ hL2_.out
         have hL3 := fun (p_ : Later w14) => Later.cell p_ hL3_.out
         have hL4 := fun (p_ : Later w14) => Later.cell p_ hL4_.out
         clear hL0_ hL1_ hL2_ hL3_ hL4_
         repeat (first | go_big_quiet_step ((first | (go_at_call 59; exact Calls.qbb (qap.calls k1 (wrap64 (x1_1 + 1)) t300 _ A7.out)))) | quiet_step ((first | (go_at_call 59; exact Calls.qbb (qap.calls k1 (wrap64 (x1_1 + 1)) t300 _ A7.out)))))
         refine wpQuiet_nil ?_
         rintro w15 ⟨⟨wq_, hbL⟩, hq_⟩
         have hq2_ : w15 = wq_ := hq_
         clear hq_
         subst hq2_
         clear hL0 hL1 hL2 hL3 hL4
         have nHB_ := Aside0.mk (qak HB.out hbL)
         clear HB
         have HB := nHB_
         clear nHB_
         clear hbL
         try go_wp2
         have n0_ := Aside0.mk (qab HB.out)
         clear HB
         have HB := n0_
         clear n0_
         have p301 : 0 ≤ (x5_1 : Int) := of_decide_eq_true (by first | (with_reducible assumption) | assumption)
         have q301 : x5_1 < (l0.length : Int) := of_decide_eq_true (by first | (with_reducible assumption) | assumption)
         obtain ⟨ad301, e301, hx301_0, hx301_1, hx301_2, hx301_3, hx301_4⟩ := qb3 HR0.out x5_1 p301 q301
         have hw301_4 := hx301_4
         have hw301_3 := hx301_3
         have hw301_2 := hx301_2
         have hw301_1 := hx301_1
         have hw301_0 := hx301_0
         obtain rfl : ad297 = ad301 := (by injection e301)
         replace hx301_0 := (HB.out.cell (World.block_lt_of_cell? w _ hx301_0)).trans hx301_0
         replace hx301_1 := (HB.out.cell (World.block_lt_of_cell? w _ hx301_1)).trans hx301_1
         replace hx301_2 := (HB.out.cell (World.block_lt_of_cell? w _ hx301_2)).trans hx301_2
         replace hx301_3 := (HB.out.cell (World.block_lt_of_cell? w _ hx301_3)).trans hx301_3
         replace hx301_4 := (HB.out.cell (World.block_lt_of_cell? w _ hx301_4)).trans hx301_4
         replace p301 := eq_true p301
         replace q301 := eq_true q301
         refine qaF (by kernel_rfl) (by kernel_rfl) ?_
         have hL0_ := Aside0.mk (show w15.drew.cell? (ad297.add ((x5_1).toNat * 5)) = some (.string ((qao l0 x5_1).f0)) from ((HB.out.cell (World.block_lt_of_cell? w _ hw301_0)).trans hw301_0))
         have hL1_ := Aside0.mk (show w15.drew.cell? ⟨(ad297.add ((x5_1).toNat * 5)).block, (ad297.add ((x5_1).toNat * 5)).off + 1, none⟩ = some (.string ((qao l0 x5_1).f1)) from ((HB.out.cell (World.block_lt_of_cell? w _ hw301_1)).trans hw301_1))
         have hL2_ := Aside0.mk (show w15.drew.cell? ⟨(ad297.add ((x5_1).toNat * 5)).block, (ad297.add ((x5_1).toNat * 5)).off + 2, none⟩ = some (.string ((qao l0 x5_1).f2)) from ((HB.out.cell (World.block_lt_of_cell? w _ hw301_2)).trans hw301_2))
         have hL3_ := Aside0.mk (show w15.drew.cell? ⟨(ad297.add ((x5_1).toNat * 5)).block, (ad297.add ((x5_1).toNat * 5)).off + 3, none⟩ = some (.bool ((qao l0 x5_1).f3)) from ((HB.out.cell (World.block_lt_of_cell? w _ hw301_3)).trans hw301_3))
         have hL4_ := Aside0.mk (show w15.drew.cell? ⟨(ad297.add ((x5_1).toNat * 5)).block, (ad297.add ((x5_1).toNat * 5)).off + 4, none⟩ = some (.bool ((qao l0 x5_1).f4)) from ((HB.out.cell (World.block_lt_of_cell? w _ hw301_4)).trans hw301_4))
         generalize w15.drew = w16 at HB hx301_0 hx301_1 hx301_2 hx301_3 hx301_4 hL0_ hL1_ hL2_ hL3_ hL4_ ⊢
         clear hx301_0 hx301_1 hx301_2 hx301_3 hx301_4
         have hL0 := fun (p_ : Later w16) => Later.cell p_ hL0_.out
         have hL1 := fun (p_ : Later w16) => Later.cell p_ hL1_.out
         have hL2 := fun (p_ : Later w16) => Later.cell p_ hL2_.out
         have hL3 := fun (p_ : Later w16) => Later.cell p_ hL3_.out
         have hL4 := fun (p_ : Later w16) => Later.cell p_ hL4_.out
         clear hL0_ hL1_ hL2_ hL3_ hL4_
         repeat (first | go_big_quiet_step ((first | (go_at_call 59; exact Calls.qbb (qap.calls k1 (wrap64 ((wrap64 (x1_1 + 1)) + 1)) t302 _ A9.out)))) | quiet_step ((first | (go_at_call 59; exact Calls.qbb (qap.calls k1 (wrap64 ((wrap64 (x1_1 + 1)) + 1)) t302 _ A9.out)))))
         refine wpQuiet_nil ?_
         rintro w17 ⟨⟨wq_, hbL⟩, hq_⟩
         have hq2_ : w17 = wq_ := hq_
         clear hq_
         subst hq2_
         clear hL0 hL1 hL2 hL3 hL4
         have nHB_ := Aside0.mk (qak HB.out hbL)
         clear HB
         have HB := nHB_
         clear nHB_
         clear hbL
         have p303 : 0 ≤ (x5_1 : Int) := of_decide_eq_true (by first | (with_reducible assumption) | assumption)
         have q303 : x5_1 < (l0.length : Int) := of_decide_eq_true (by first | (with_reducible assumption) | assumption)
         obtain ⟨ad303, e303, hx303_0, hx303_1, hx303_2, hx303_3, hx303_4⟩ := qb3 HR0.out x5_1 p303 q303
         obtain rfl : ad297 = ad303 := (by injection e303)
         replace hx303_0 := (HB.out.cell (World.block_lt_of_cell? w _ hx303_0)).trans hx303_0
         replace hx303_1 := (HB.out.cell (World.block_lt_of_cell? w _ hx303_1)).trans hx303_1
         replace hx303_2 := (HB.out.cell (World.block_lt_of_cell? w _ hx303_2)).trans hx303_2
         replace hx303_3 := (HB.out.cell (World.block_lt_of_cell? w _ hx303_3)).trans hx303_3
         replace hx303_4 := (HB.out.cell (World.block_lt_of_cell? w _ hx303_4)).trans hx303_4
         replace p303 := eq_true p303
         replace q303 := eq_true q303
         try go_wp2
         go_ret
         exact ⟨by first | rfl | (simp [qam, qan] <;> rfl) | (simp [*, qam, qan] <;> rfl), by repeat (first | (with_reducible first | exact HB.out | apply qac | apply qaa | apply qab) | exact HB.out)⟩
        ·rw [if_neg c11] at H
         have c11b0 : (((qao l0 x5_1).f3) != ((Int.tmod (wrap64 ((wrap64 ((wrap64 (x1_1 + 1)) + 1)) + 1)) 3) == 0)) = false := by simpa using c11
         (try (have c11b1 : decide (((qao l0 x5_1).f3) = ((Int.tmod (wrap64 ((wrap64 ((wrap64 (x1_1 + 1)) + 1)) + 1)) 3) == 0)) = true := by simpa using c11))
         (try (have c11b2 : (((qao l0 x5_1).f3) == ((Int.tmod (wrap64 ((wrap64 ((wrap64 (x1_1 + 1)) + 1)) + 1)) 3) == 0)) = true := by simpa using c11))
         clear c11
         by_cases c18 : (((qao l0 x5_1).f4) != ((Int.tmod (wrap64 ((wrap64 ((wrap64 ((wrap64 (x1_1 + 1)) + 1)) + 1)) + 1)) 3) == 0)) = true
         ·rw [if_pos c18] at H
          have c18b0 : (((qao l0 x5_1).f4) != ((Int.tmod (wrap64 ((wrap64 ((wrap64 ((wrap64 (x1_1 + 1)) + 1)) + 1)) + 1)) 3) == 0)) = true := c18
          (try (have c18b1 : decide (((qao l0 x5_1).f4) = ((Int.tmod (wrap64 ((wrap64 ((wrap64 ((wrap64 (x1_1 + 1)) + 1)) + 1)) + 1)) 3) == 0)) = false := by simpa using c18))
          (try (have c18b2 : (((qao l0 x5_1).f4) == ((Int.tmod (wrap64 ((wrap64 ((wrap64 ((wrap64 (x1_1 + 1)) + 1)) + 1)) + 1)) 3) == 0)) = false := by simpa using c18))
          (try (have c18b3 : ¬ (((qao l0 x5_1).f4) = ((Int.tmod (wrap64 ((wrap64 ((wrap64 ((wrap64 (x1_1 + 1)) + 1)) + 1)) + 1)) 3) == 0)) := by simpa using c18))
          clear c18
          obtain rfl := Option.some.inj H
          try go_wp2
          have n0_ := Aside0.mk (qab HB.out)
          clear HB
          have HB := n0_
          clear n0_
          have p297 : 0 ≤ (x5_1 : Int) := of_decide_eq_true (by first | (with_reducible assumption) | assumption)
          have q297 : x5_1 < (l0.length : Int) := of_decide_eq_true (by first | (with_reducible assumption) | assumption)
          obtain ⟨ad297, e297, hx297_0, hx297_1, hx297_2, hx297_3, hx297_4⟩ := qb3 HR0.out x5_1 p297 q297
          have hw297_4 := hx297_4
          have hw297_3 := hx297_3
          have hw297_2 := hx297_2
          have hw297_1 := hx297_1
          have hw297_0 := hx297_0
          cases e297
          replace hx297_0 := (HB.out.cell (World.block_lt_of_cell? w _ hx297_0)).trans hx297_0
          replace hx297_1 := (HB.out.cell (World.block_lt_of_cell? w _ hx297_1)).trans hx297_1
          replace hx297_2 := (HB.out.cell (World.block_lt_of_cell? w _ hx297_2)).trans hx297_2
          replace hx297_3 := (HB.out.cell (World.block_lt_of_cell? w _ hx297_3)).trans hx297_3
          replace hx297_4 := (HB.out.cell (World.block_lt_of_cell? w _ hx297_4)).trans hx297_4
          replace p297 := eq_true p297
          replace q297 := eq_true q297
          refine qaF (by kernel_rfl) (by kernel_rfl) ?_
          have hL0_ := Aside0.mk (show wr.drew.cell? (ad297.add ((x5_1).toNat * 5)) = some (.string ((qao l0 x5_1).f0)) from ((HB.out.cell (World.block_lt_of_cell? w _ hw297_0)).trans hw297_0))
          have hL1_ := Aside0.mk (show wr.drew.cell? ⟨(ad297.add ((x5_1).toNat * 5)).block, (ad297.add ((x5_1).toNat * 5)).off + 1, none⟩ = some (.string ((qao l0 x5_1).f1)) from ((HB.out.cell (World.block_lt_of_cell? w _ hw297_1)).trans hw297_1))
          have hL2_ := Aside0.mk (show wr.drew.cell? ⟨(ad297.add ((x5_1).toNat * 5)).block, (ad297.add ((x5_1).toNat * 5)).off + 2, none⟩ = some (.string ((qao l0 x5_1).f2)) from ((HB.out.cell (World.block_lt_of_cell? w _ hw297_2)).trans hw297_2))
          have hL3_ := Aside0.mk (show wr.drew.cell? ⟨(ad297.add ((x5_1).toNat * 5)).block, (ad297.add ((x5_1).toNat * 5)).off + 3, none⟩ = some (.bool ((qao l0 x5_1).f3)) from ((HB.out.cell (World.block_lt_of_cell? w _ hw297_3)).trans hw297_3))
          have hL4_ := Aside0.mk (show wr.drew.cell? ⟨(ad297.add ((x5_1).toNat * 5)).block, (ad297.add ((x5_1).toNat * 5)).off + 4, none⟩ = some (.bool ((qao l0 x5_1).f4)) from ((HB.out.cell (World.block_lt_of_cell? w _ hw297_4)).trans hw297_4))
          generalize wr.drew = w19 at HB hx297_0 hx297_1 hx297_2 hx297_3 hx297_4 hL0_ hL1_ hL2_ hL3_ hL4_ ⊢
          clear hx297_0 hx297_1 hx297_2 hx297_3 hx297_4
          have hL0 := fun (p_ : Later w19) => Later.cell p_ hL0_.out
          have hL1 := fun (p_ : Later w19) => Later.cell p_ hL1_.out
          have hL2 := fun (p_ : Later w19) => Later.cell p_ hL2_.out
          have hL3 := fun (p_ : Later w19) => Later.cell p_ hL3_.out
          have hL4 := fun (p_ : Later w19) => Later.cell p_ hL4_.out
          clear hL0_ hL1_ hL2_ hL3_ hL4_
          repeat (first | go_big_quiet_step ((first | (go_at_call 59; exact Calls.qbb (qap.calls k1 x1_1 t298 _ A5.out)))) | quiet_step ((first | (go_at_call 59; exact Calls.qbb (qap.calls k1 x1_1 t298 _ A5.out)))))
          refine wpQuiet_nil ?_
          rintro w20 ⟨⟨wq_, hbL⟩, hq_⟩
          have hq2_ : w20 = wq_ := hq_
          clear hq_
          subst hq2_
          clear hL0 hL1 hL2 hL3 hL4
          have nHB_ := Aside0.mk (qak HB.out hbL)
          clear HB
          have HB := nHB_
          clear nHB_
          clear hbL
          try go_wp2
          have n0_ := Aside0.mk (qab HB.out)
          clear HB
          have HB := n0_
          clear n0_
          have p299 : 0 ≤ (x5_1 : Int) := of_decide_eq_true (by first | (with_reducible assumption) | assumption)
          have q299 : x5_1 < (l0.length : Int) := of_decide_eq_true (by first | (with_reducible assumption) | assumption)
          obtain ⟨ad299, e299, hx299_0, hx299_1, hx299_2, hx299_3, hx299_4⟩ := qb3 HR0.out x5_1 p299 q299
          have hw299_4 := hx299_4
          have hw299_3 := hx299_3
          have hw299_2 := hx299_2
          have hw299_1 := hx299_1
          have hw299_0 := hx299_0
          obtain rfl : ad297 = ad299 := (by injection e299)
          replace hx299_0 := (HB.out.cell (World.block_lt_of_cell? w _ hx299_0)).trans hx299_0
          replace hx299_1 := (HB.out.cell (World.block_lt_of_cell? w _ hx299_1)).trans hx299_1
          replace hx299_2 := (HB.out.cell (World.block_lt_of_cell? w _ hx299_2)).trans hx299_2
          replace hx299_3 := (HB.out.cell (World.block_lt_of_cell? w _ hx299_3)).trans hx299_3
          replace hx299_4 := (HB.out.cell (World.block_lt_of_cell? w _ hx299_4)).trans hx299_4
          replace p299 := eq_true p299
          replace q299 := eq_true q299
          refine qaF (by kernel_rfl) (by kernel_rfl) ?_
          have hL0_ := Aside0.mk (show w20.drew.cell? (ad297.add ((x5_1).toNat * 5)) = some (.string ((qao l0 x5_1).f0)) from ((HB.out.cell (World.block_lt_of_cell? w _ hw299_0)).trans hw299_0))
          have hL1_ := Aside0.mk (show w20.drew.cell? ⟨(ad297.add ((x5_1).toNat * 5)).block, (ad297.add ((x5_1).toNat * 5)).off + 1, none⟩ = some (.string ((qao l0 x5_1).f1)) from ((HB.out.cell (World.block_lt_of_cell? w _ hw299_1)).trans hw299_1))
          have hL2_ := Aside0.mk (show w20.drew.cell? ⟨(ad297.add ((x5_1).toNat * 5)).block, (ad297.add ((x5_1).toNat * 5)).off + 2, none⟩ = some (.string ((qao l0 x5_1).f2)) from ((HB.out.cell (World.block_lt_of_cell? w _ hw299_2)).trans hw299_2))
          have hL3_ := Aside0.mk (show w20.drew.cell? ⟨(ad297.add ((x5_1).toNat * 5)).block, (ad297.add ((x5_1).toNat * 5)).off + 3, none⟩ = some (.bool ((qao l0 x5_1).f3)) from ((HB.out.cell (World.block_lt_of_cell? w _ hw299_3)).trans hw299_3))
          have hL4_ := Aside0.mk (show w20.drew.cell? ⟨(ad297.add ((x5_1).toNat * 5)).block, (ad297.add ((x5_1).toNat * 5)).off + 4, none⟩ = some (.bool ((qao l0 x5_1).f4)) from ((HB.out.cell (World.block_lt_of_cell? w _ hw299_4)).trans hw299_4))
          generalize w20.drew = w21 at HB hx299_0 hx299_1 hx299_2 hx299_3 hx299_4 hL0_ hL1_ hL2_ hL3_ hL4_ ⊢
          clear hx299_0 hx299_1 hx299_2 hx299_3 hx299_4
          have hL0 := fun (p_ : Later w21) => Later.cell p_ hL0_.out
          have hL1 := fun (p_ : Later w21) => Later.cell p_ hL1_.out
          have hL2 := fun (p_ : Later w21) => Later.cell p_ hL2_.out
          have hL3 := fun (p_ : Later w21) => Later.cell p_ hL3_.out
          have hL4 := fun (p_ : Later w21) => Later.cell p_ hL4_.out
          clear hL0_ hL1_ hL2_ hL3_ hL4_
          repeat (first | go_big_quiet_step ((first | (go_at_call 59; exact Calls.qbb (qap.calls k1 (wrap64 (x1_1 + 1)) t300 _ A7.out)))) | quiet_step ((first | (go_at_call 59; exact Calls.qbb (qap.calls k1 (wrap64 (x1_1 + 1)) t300 _ A7.out)))))
          refine wpQuiet_nil ?_
          rintro w22 ⟨⟨wq_, hbL⟩, hq_⟩
          have hq2_ : w22 = wq_ := hq_
          clear hq_
          subst hq2_
          clear hL0 hL1 hL2 hL3 hL4
          have nHB_ := Aside0.mk (qak HB.out hbL)
          clear HB
          have HB := nHB_
          clear nHB_
          clear hbL
          try go_wp2
          have n0_ := Aside0.mk (qab HB.out)
          clear HB
          have HB := n0_
          clear n0_
          have p301 : 0 ≤ (x5_1 : Int) := of_decide_eq_true (by first | (with_reducible assumption) | assumption)
          have q301 : x5_1 < (l0.length : Int) := of_decide_eq_true (by first | (with_reducible assumption) | assumption)
          obtain ⟨ad301, e301, hx301_0, hx301_1, hx301_2, hx301_3, hx301_4⟩ := qb3 HR0.out x5_1 p301 q301
          have hw301_4 := hx301_4
          have hw301_3 := hx301_3
          have hw301_2 := hx301_2
          have hw301_1 := hx301_1
          have hw301_0 := hx301_0
          obtain rfl : ad297 = ad301 := (by injection e301)
          replace hx301_0 := (HB.out.cell (World.block_lt_of_cell? w _ hx301_0)).trans hx301_0
          replace hx301_1 := (HB.out.cell (World.block_lt_of_cell? w _ hx301_1)).trans hx301_1
          replace hx301_2 := (HB.out.cell (World.block_lt_of_cell? w _ hx301_2)).trans hx301_2
          replace hx301_3 := (HB.out.cell (World.block_lt_of_cell? w _ hx301_3)).trans hx301_3
          replace hx301_4 := (HB.out.cell (World.block_lt_of_cell? w _ hx301_4)).trans hx301_4
          replace p301 := eq_true p301
          replace q301 := eq_true q301
          refine qaF (by kernel_rfl) (by kernel_rfl) ?_
          have hL0_ := Aside0.mk (show w22.drew.cell? (ad297.add ((x5_1).toNat * 5)) = some (.string ((qao l0 x5_1).f0)) from ((HB.out.cell (World.block_lt_of_cell? w _ hw301_0)).trans hw301_0))
          have hL1_ := Aside0.mk (show w22.drew.cell? ⟨(ad297.add ((x5_1).toNat * 5)).block, (ad297.add ((x5_1).toNat * 5)).off + 1, none⟩ = some (.string ((qao l0 x5_1).f1)) from ((HB.out.cell (World.block_lt_of_cell? w _ hw301_1)).trans hw301_1))
          have hL2_ := Aside0.mk (show w22.drew.cell? ⟨(ad297.add ((x5_1).toNat * 5)).block, (ad297.add ((x5_1).toNat * 5)).off + 2, none⟩ = some (.string ((qao l0 x5_1).f2)) from ((HB.out.cell (World.block_lt_of_cell? w _ hw301_2)).trans hw301_2))
          have hL3_ := Aside0.mk (show w22.drew.cell? ⟨(ad297.add ((x5_1).toNat * 5)).block, (ad297.add ((x5_1).toNat * 5)).off + 3, none⟩ = some (.bool ((qao l0 x5_1).f3)) from ((HB.out.cell (World.block_lt_of_cell? w _ hw301_3)).trans hw301_3))
          have hL4_ := Aside0.mk (show w22.drew.cell? ⟨(ad297.add ((x5_1).toNat * 5)).block, (ad297.add ((x5_1).toNat * 5)).off + 4, none⟩ = some (.bool ((qao l0 x5_1).f4)) from ((HB.out.cell (World.block_lt_of_cell? w _ hw301_4)).trans hw301_4))
          generalize w22.drew = w23 at HB hx301_0 hx301_1 hx301_2 hx301_3 hx301_4 hL0_ hL1_ hL2_ hL3_ hL4_ ⊢
          clear hx301_0 hx301_1 hx301_2 hx301_3 hx301_4
          have hL0 := fun (p_ : Later w23) => Later.cell p_ hL0_.out
          have hL1 := fun (p_ : Later w23) => Later.cell p_ hL1_.out
          have hL2 := fun (p_ : Later w23) => Later.cell p_ hL2_.out
          have hL3 := fun (p_ : Later w23) => Later.cell p_ hL3_.out
          have hL4 := fun (p_ : Later w23) => Later.cell p_ hL4_.out
          clear hL0_ hL1_ hL2_ hL3_ hL4_
          repeat (first | go_big_quiet_step ((first | (go_at_call 59; exact Calls.qbb (qap.calls k1 (wrap64 ((wrap64 (x1_1 + 1)) + 1)) t302 _ A9.out)))) | quiet_step ((first | (go_at_call 59; exact Calls.qbb (qap.calls k1 (wrap64 ((wrap64 (x1_1 + 1)) + 1)) t302 _ A9.out)))))
          refine wpQuiet_nil ?_
          rintro w24 ⟨⟨wq_, hbL⟩, hq_⟩
          have hq2_ : w24 = wq_ := hq_
          clear hq_
          subst hq2_
          clear hL0 hL1 hL2 hL3 hL4
          have nHB_ := Aside0.mk (qak HB.out hbL)
          clear HB
          have HB := nHB_
          clear nHB_
          clear hbL
          have p303 : 0 ≤ (x5_1 : Int) := of_decide_eq_true (by first | (with_reducible assumption) | assumption)
          have q303 : x5_1 < (l0.length : Int) := of_decide_eq_true (by first | (with_reducible assumption) | assumption)
          obtain ⟨ad303, e303, hx303_0, hx303_1, hx303_2, hx303_3, hx303_4⟩ := qb3 HR0.out x5_1 p303 q303
          obtain rfl : ad297 = ad303 := (by injection e303)
          replace hx303_0 := (HB.out.cell (World.block_lt_of_cell? w _ hx303_0)).trans hx303_0
          replace hx303_1 := (HB.out.cell (World.block_lt_of_cell? w _ hx303_1)).trans hx303_1
          replace hx303_2 := (HB.out.cell (World.block_lt_of_cell? w _ hx303_2)).trans hx303_2
          replace hx303_3 := (HB.out.cell (World.block_lt_of_cell? w _ hx303_3)).trans hx303_3
          replace hx303_4 := (HB.out.cell (World.block_lt_of_cell? w _ hx303_4)).trans hx303_4
          replace p303 := eq_true p303
          replace q303 := eq_true q303
          have p304 : 0 ≤ (x5_1 : Int) := of_decide_eq_true (by first | (with_reducible assumption) | assumption)
          have q304 : x5_1 < (l0.length : Int) := of_decide_eq_true (by first | (with_reducible assumption) | assumption)
          obtain ⟨ad304, e304, hx304_0, hx304_1, hx304_2, hx304_3, hx304_4⟩ := qb3 HR0.out x5_1 p304 q304
          obtain rfl : ad297 = ad304 := (by injection e304)
          replace hx304_0 := (HB.out.cell (World.block_lt_of_cell? w _ hx304_0)).trans hx304_0
          replace hx304_1 := (HB.out.cell (World.block_lt_of_cell? w _ hx304_1)).trans hx304_1
          replace hx304_2 := (HB.out.cell (World.block_lt_of_cell? w _ hx304_2)).trans hx304_2
          replace hx304_3 := (HB.out.cell (World.block_lt_of_cell? w _ hx304_3)).trans hx304_3
          replace hx304_4 := (HB.out.cell (World.block_lt_of_cell? w _ hx304_4)).trans hx304_4
          replace p304 := eq_true p304
          replace q304 := eq_true q304
          try go_wp2
          go_ret
          exact ⟨by first | rfl | (simp [qam, qan] <;> rfl) | (simp [*, qam, qan] <;> rfl), by repeat (first | (with_reducible first | exact HB.out | apply qac | apply qaa | apply qab) | exact HB.out)⟩
         ·rw [if_neg c18] at H
          have c18b0 : (((qao l0 x5_1).f4) != ((Int.tmod (wrap64 ((wrap64 ((wrap64 ((wrap64 (x1_1 + 1)) + 1)) + 1)) + 1)) 3) == 0)) = false := by simpa using c18
          (try (have c18b1 : decide (((qao l0 x5_1).f4) = ((Int.tmod (wrap64 ((wrap64 ((wrap64 ((wrap64 (x1_1 + 1)) + 1)) + 1)) + 1)) 3) == 0)) = true := by simpa using c18))
          (try (have c18b2 : (((qao l0 x5_1).f4) == ((Int.tmod (wrap64 ((wrap64 ((wrap64 ((wrap64 (x1_1 + 1)) + 1)) + 1)) + 1)) 3) == 0)) = true := by simpa using c18))
          clear c18
          have H' := Aside0.mk H
          clear H
          try go_wp2
          have n0_ := Aside0.mk (qab HB.out)
          clear HB
          have HB := n0_
          clear n0_
          have p297 : 0 ≤ (x5_1 : Int) := of_decide_eq_true (by first | (with_reducible assumption) | assumption)
          have q297 : x5_1 < (l0.length : Int) := of_decide_eq_true (by first | (with_reducible assumption) | assumption)
          obtain ⟨ad297, e297, hx297_0, hx297_1, hx297_2, hx297_3, hx297_4⟩ := qb3 HR0.out x5_1 p297 q297
          have hw297_4 := hx297_4
          have hw297_3 := hx297_3
          have hw297_2 := hx297_2
          have hw297_1 := hx297_1
          have hw297_0 := hx297_0
          cases e297
          replace hx297_0 := (HB.out.cell (World.block_lt_of_cell? w _ hx297_0)).trans hx297_0
          replace hx297_1 := (HB.out.cell (World.block_lt_of_cell? w _ hx297_1)).trans hx297_1
          replace hx297_2 := (HB.out.cell (World.block_lt_of_cell? w _ hx297_2)).trans hx297_2
          replace hx297_3 := (HB.out.cell (World.block_lt_of_cell? w _ hx297_3)).trans hx297_3
          replace hx297_4 := (HB.out.cell (World.block_lt_of_cell? w _ hx297_4)).trans hx297_4
          replace p297 := eq_true p297
          replace q297 := eq_true q297
          refine qaF (by kernel_rfl) (by kernel_rfl) ?_
          have hL0_ := Aside0.mk (show wr.drew.cell? (ad297.add ((x5_1).toNat * 5)) = some (.string ((qao l0 x5_1).f0)) from ((HB.out.cell (World.block_lt_of_cell? w _ hw297_0)).trans hw297_0))
          have hL1_ := Aside0.mk (show wr.drew.cell? ⟨(ad297.add ((x5_1).toNat * 5)).block, (ad297.add ((x5_1).toNat * 5)).off + 1, none⟩ = some (.string ((qao l0 x5_1).f1)) from ((HB.out.cell (World.block_lt_of_cell? w _ hw297_1)).trans hw297_1))
          have hL2_ := Aside0.mk (show wr.drew.cell? ⟨(ad297.add ((x5_1).toNat * 5)).block, (ad297.add ((x5_1).toNat * 5)).off + 2, none⟩ = some (.string ((qao l0 x5_1).f2)) from ((HB.out.cell (World.block_lt_of_cell? w _ hw297_2)).trans hw297_2))
          have hL3_ := Aside0.mk (show wr.drew.cell? ⟨(ad297.add ((x5_1).toNat * 5)).block, (ad297.add ((x5_1).toNat * 5)).off + 3, none⟩ = some (.bool ((qao l0 x5_1).f3)) from ((HB.out.cell (World.block_lt_of_cell? w _ hw297_3)).trans hw297_3))
          have hL4_ := Aside0.mk (show wr.drew.cell? ⟨(ad297.add ((x5_1).toNat * 5)).block, (ad297.add ((x5_1).toNat * 5)).off + 4, none⟩ = some (.bool ((qao l0 x5_1).f4)) from ((HB.out.cell (World.block_lt_of_cell? w _ hw297_4)).trans hw297_4))
          generalize wr.drew = w25 at HB hx297_0 hx297_1 hx297_2 hx297_3 hx297_4 hL0_ hL1_ hL2_ hL3_ hL4_ ⊢
          clear hx297_0 hx297_1 hx297_2 hx297_3 hx297_4
          have hL0 := fun (p_ : Later w25) => Later.cell p_ hL0_.out
          have hL1 := fun (p_ : Later w25) => Later.cell p_ hL1_.out
          have hL2 := fun (p_ : Later w25) => Later.cell p_ hL2_.out
          have hL3 := fun (p_ : Later w25) => Later.cell p_ hL3_.out
          have hL4 := fun (p_ : Later w25) => Later.cell p_ hL4_.out
          clear hL0_ hL1_ hL2_ hL3_ hL4_
          repeat (first | go_big_quiet_step ((first | (go_at_call 59; exact Calls.qbb (qap.calls k1 x1_1 t298 _ A5.out)))) | quiet_step ((first | (go_at_call 59; exact Calls.qbb (qap.calls k1 x1_1 t298 _ A5.out)))))
          refine wpQuiet_nil ?_
          rintro w26 ⟨⟨wq_, hbL⟩, hq_⟩
          have hq2_ : w26 = wq_ := hq_
          clear hq_
          subst hq2_
          clear hL0 hL1 hL2 hL3 hL4
          have nHB_ := Aside0.mk (qak HB.out hbL)
          clear HB
          have HB := nHB_
          clear nHB_
          clear hbL
          try go_wp2
          have n0_ := Aside0.mk (qab HB.out)
          clear HB
          have HB := n0_
          clear n0_
          have p299 : 0 ≤ (x5_1 : Int) := of_decide_eq_true (by first | (with_reducible assumption) | assumption)
          have q299 : x5_1 < (l0.length : Int) := of_decide_eq_true (by first | (with_reducible assumption) | assumption)
          obtain ⟨ad299, e299, hx299_0, hx299_1, hx299_2, hx299_3, hx299_4⟩ := qb3 HR0.out x5_1 p299 q299
          have hw299_4 := hx299_4
          have hw299_3 := hx299_3
          have hw299_2 := hx299_2
          have hw299_1 := hx299_1
          have hw299_0 := hx299_0
          obtain rfl : ad297 = ad299 := (by injection e299)
          replace hx299_0 := (HB.out.cell (World.block_lt_of_cell? w _ hx299_0)).trans hx299_0
          replace hx299_1 := (HB.out.cell (World.block_lt_of_cell? w _ hx299_1)).trans hx299_1
          replace hx299_2 := (HB.out.cell (World.block_lt_of_cell? w _ hx299_2)).trans hx299_2
          replace hx299_3 := (HB.out.cell (World.block_lt_of_cell? w _ hx299_3)).trans hx299_3
          replace hx299_4 := (HB.out.cell (World.block_lt_of_cell? w _ hx299_4)).trans hx299_4
          replace p299 := eq_true p299
          replace q299 := eq_true q299
          refine qaF (by kernel_rfl) (by kernel_rfl) ?_
          have hL0_ := Aside0.mk (show w26.drew.cell? (ad297.add ((x5_1).toNat * 5)) = some (.string ((qao l0 x5_1).f0)) from ((HB.out.cell (World.block_lt_of_cell? w _ hw299_0)).trans hw299_0))
          have hL1_ := Aside0.mk (show w26.drew.cell? ⟨(ad297.add ((x5_1).toNat * 5)).block, (ad297.add ((x5_1).toNat * 5)).off + 1, none⟩ = some (.string ((qao l0 x5_1).f1)) from ((HB.out.cell (World.block_lt_of_cell? w _ hw299_1)).trans hw299_1))
          have hL2_ := Aside0.mk (show w26.drew.cell? ⟨(ad297.add ((x5_1).toNat * 5)).block, (ad297.add ((x5_1).toNat * 5)).off + 2, none⟩ = some (.string ((qao l0 x5_1).f2)) from ((HB.out.cell (World.block_lt_of_cell? w _ hw299_2)).trans hw299_2))
          have hL3_ := Aside0.mk (show w26.drew.cell? ⟨(ad297.add ((x5_1).toNat * 5)).block, (ad297.add ((x5_1).toNat * 5)).off + 3, none⟩ = some (.bool ((qao l0 x5_1).f3)) from ((HB.out.cell (World.block_lt_of_cell? w _ hw299_3)).trans hw299_3))
          have hL4_ := Aside0.mk (show w26.drew.cell? ⟨(ad297.add ((x5_1).toNat * 5)).block, (ad297.add ((x5_1).toNat * 5)).off + 4, none⟩ = some (.bool ((qao l0 x5_1).f4)) from ((HB.out.cell (World.block_lt_of_cell? w _ hw299_4)).trans hw299_4))
          generalize w26.drew = w27 at HB hx299_0 hx299_1 hx299_2 hx299_3 hx299_4 hL0_ hL1_ hL2_ hL3_ hL4_ ⊢
          clear hx299_0 hx299_1 hx299_2 hx299_3 hx299_4
          have hL0 := fun (p_ : Later w27) => Later.cell p_ hL0_.out
          have hL1 := fun (p_ : Later w27) => Later.cell p_ hL1_.out
          have hL2 := fun (p_ : Later w27) => Later.cell p_ hL2_.out
          have hL3 := fun (p_ : Later w27) => Later.cell p_ hL3_.out
          have hL4 := fun (p_ : Later w27) => Later.cell p_ hL4_.out
          clear hL0_ hL1_ hL2_ hL3_ hL4_
          repeat (first | go_big_quiet_step ((first | (go_at_call 59; exact Calls.qbb (qap.calls k1 (wrap64 (x1_1 + 1)) t300 _ A7.out)))) | quiet_step ((first | (go_at_call 59; exact Calls.qbb (qap.calls k1 (wrap64 (x1_1 + 1)) t300 _ A7.out)))))
          refine wpQuiet_nil ?_
          rintro w28 ⟨⟨wq_, hbL⟩, hq_⟩
          have hq2_ : w28 = wq_ := hq_
          clear hq_
          subst hq2_
          clear hL0 hL1 hL2 hL3 hL4
          have nHB_ := Aside0.mk (qak HB.out hbL)
          clear HB
          have HB := nHB_
          clear nHB_
          clear hbL
          try go_wp2
          have n0_ := Aside0.mk (qab HB.out)
          clear HB
          have HB := n0_
          clear n0_
          have p301 : 0 ≤ (x5_1 : Int) := of_decide_eq_true (by first | (with_reducible assumption) | assumption)
          have q301 : x5_1 < (l0.length : Int) := of_decide_eq_true (by first | (with_reducible assumption) | assumption)
          obtain ⟨ad301, e301, hx301_0, hx301_1, hx301_2, hx301_3, hx301_4⟩ := qb3 HR0.out x5_1 p301 q301
          have hw301_4 := hx301_4
          have hw301_3 := hx301_3
          have hw301_2 := hx301_2
          have hw301_1 := hx301_1
          have hw301_0 := hx301_0
          obtain rfl : ad297 = ad301 := (by injection e301)
          replace hx301_0 := (HB.out.cell (World.block_lt_of_cell? w _ hx301_0)).trans hx301_0
          replace hx301_1 := (HB.out.cell (World.block_lt_of_cell? w _ hx301_1)).trans hx301_1
          replace hx301_2 := (HB.out.cell (World.block_lt_of_cell? w _ hx301_2)).trans hx301_2
          replace hx301_3 := (HB.out.cell (World.block_lt_of_cell? w _ hx301_3)).trans hx301_3
          replace hx301_4 := (HB.out.cell (World.block_lt_of_cell? w _ hx301_4)).trans hx301_4
          replace p301 := eq_true p301
          replace q301 := eq_true q301
          refine qaF (by kernel_rfl) (by kernel_rfl) ?_
          have hL0_ := Aside0.mk (show w28.drew.cell? (ad297.add ((x5_1).toNat * 5)) = some (.string ((qao l0 x5_1).f0)) from ((HB.out.cell (World.block_lt_of_cell? w _ hw301_0)).trans hw301_0))
          have hL1_ := Aside0.mk (show w28.drew.cell? ⟨(ad297.add ((x5_1).toNat * 5)).block, (ad297.add ((x5_1).toNat * 5)).off + 1, none⟩ = some (.string ((qao l0 x5_1).f1)) from ((HB.out.cell (World.block_lt_of_cell? w _ hw301_1)).trans hw301_1))
          have hL2_ := Aside0.mk (show w28.drew.cell? ⟨(ad297.add ((x5_1).toNat * 5)).block, (ad297.add ((x5_1).toNat * 5)).off + 2, none⟩ = some (.string ((qao l0 x5_1).f2)) from ((HB.out.cell (World.block_lt_of_cell? w _ hw301_2)).trans hw301_2))
          have hL3_ := Aside0.mk (show w28.drew.cell? ⟨(ad297.add ((x5_1).toNat * 5)).block, (ad297.add ((x5_1).toNat * 5)).off + 3, none⟩ = some (.bool ((qao l0 x5_1).f3)) from ((HB.out.cell (World.block_lt_of_cell? w _ hw301_3)).trans hw301_3))
          have hL4_ := Aside0.mk (show w28.drew.cell? ⟨(ad297.add ((x5_1).toNat * 5)).block, (ad297.add ((x5_1).toNat * 5)).off + 4, none⟩ = some (.bool ((qao l0 x5_1).f4)) from ((HB.out.cell (World.block_lt_of_cell? w _ hw301_4)).trans hw301_4))
          generalize w28.drew = w29 at HB hx301_0 hx301_1 hx301_2 hx301_3 hx301_4 hL0_ hL1_ hL2_ hL3_ hL4_ ⊢
          clear hx301_0 hx301_1 hx301_2 hx301_3 hx301_4
          have hL0 := fun (p_ : Later w29) => Later.cell p_ hL0_.out
          have hL1 := fun (p_ : Later w29) => Later.cell p_ hL1_.out
          have hL2 := fun (p_ : Later w29) => Later.cell p_ hL2_.out
          have hL3 := fun (p_ : Later w29) => Later.cell p_ hL3_.out
          have hL4 := fun (p_ : Later w29) => Later.cell p_ hL4_.out
          clear hL0_ hL1_ hL2_ hL3_ hL4_
          repeat (first | go_big_quiet_step ((first | (go_at_call 59; exact Calls.qbb (qap.calls k1 (wrap64 ((wrap64 (x1_1 + 1)) + 1)) t302 _ A9.out)))) | quiet_step ((first | (go_at_call 59; exact Calls.qbb (qap.calls k1 (wrap64 ((wrap64 (x1_1 + 1)) + 1)) t302 _ A9.out)))))
          refine wpQuiet_nil ?_
          rintro w30 ⟨⟨wq_, hbL⟩, hq_⟩
          have hq2_ : w30 = wq_ := hq_
          clear hq_
          subst hq2_
          clear hL0 hL1 hL2 hL3 hL4
          have nHB_ := Aside0.mk (qak HB.out hbL)
          clear HB
          have HB := nHB_
          clear nHB_
          clear hbL
          have p303 : 0 ≤ (x5_1 : Int) := of_decide_eq_true (by first | (with_reducible assumption) | assumption)
          have q303 : x5_1 < (l0.length : Int) := of_decide_eq_true (by first | (with_reducible assumption) | assumption)
          obtain ⟨ad303, e303, hx303_0, hx303_1, hx303_2, hx303_3, hx303_4⟩ := qb3 HR0.out x5_1 p303 q303
          obtain rfl : ad297 = ad303 := (by injection e303)
          replace hx303_0 := (HB.out.cell (World.block_lt_of_cell? w _ hx303_0)).trans hx303_0
          replace hx303_1 := (HB.out.cell (World.block_lt_of_cell? w _ hx303_1)).trans hx303_1
          replace hx303_2 := (HB.out.cell (World.block_lt_of_cell? w _ hx303_2)).trans hx303_2
          replace hx303_3 := (HB.out.cell (World.block_lt_of_cell? w _ hx303_3)).trans hx303_3
          replace hx303_4 := (HB.out.cell (World.block_lt_of_cell? w _ hx303_4)).trans hx303_4
          replace p303 := eq_true p303
          replace q303 := eq_true q303
          have p304 : 0 ≤ (x5_1 : Int) := of_decide_eq_true (by first | (with_reducible assumption) | assumption)
          have q304 : x5_1 < (l0.length : Int) := of_decide_eq_true (by first | (with_reducible assumption) | assumption)
          obtain ⟨ad304, e304, hx304_0, hx304_1, hx304_2, hx304_3, hx304_4⟩ := qb3 HR0.out x5_1 p304 q304
          obtain rfl : ad297 = ad304 := (by injection e304)
          replace hx304_0 := (HB.out.cell (World.block_lt_of_cell? w _ hx304_0)).trans hx304_0
          replace hx304_1 := (HB.out.cell (World.block_lt_of_cell? w _ hx304_1)).trans hx304_1
          replace hx304_2 := (HB.out.cell (World.block_lt_of_cell? w _ hx304_2)).trans hx304_2
          replace hx304_3 := (HB.out.cell (World.block_lt_of_cell? w _ hx304_3)).trans hx304_3
          replace hx304_4 := (HB.out.cell (World.block_lt_of_cell? w _ hx304_4)).trans hx304_4
          replace p304 := eq_true p304
          replace q304 := eq_true q304
          try go_wp2
          go_roundg k1
          case measure => have := HK1.out; omega
          case rel => exact ⟨(wrap64 ((wrap64 ((wrap64 ((wrap64 ((wrap64 (x1_1 + 1)) + 1)) + 1)) + 1)) + 1)), (wrap64 (x5_1 + 1)), (by first | rfl | (simp; done) | (simp [*]; done)), (by first | rfl | (simp; done) | (simp [*]; done)), H', ⟨by have := HK1.out; omega⟩, ⟨by repeat (first | (with_reducible first | exact HB.out | apply qac | apply qaa | apply qab) | exact HB.out)⟩⟩
       ·rw [if_neg c10] at H
        have c10b0 : (((qao l0 x5_1).f2).toList == t302.toList) = false := beq_eq_false_iff_ne.mpr c10
        have c10b1 : (((qao l0 x5_1).f2).toList != t302.toList) = true := bne_iff_ne.mpr c10
        obtain rfl := Option.some.inj H
        try go_wp2
        have n0_ := Aside0.mk (qab HB.out)
        clear HB
        have HB := n0_
        clear n0_
        have p297 : 0 ≤ (x5_1 : Int) := of_decide_eq_true (by first | (with_reducible assumption) | assumption)
        have q297 : x5_1 < (l0.length : Int) := of_decide_eq_true (by first | (with_reducible assumption) | assumption)
        obtain ⟨ad297, e297, hx297_0, hx297_1, hx297_2, hx297_3, hx297_4⟩ := qb3 HR0.out x5_1 p297 q297
        have hw297_4 := hx297_4
        have hw297_3 := hx297_3
        have hw297_2 := hx297_2
        have hw297_1 := hx297_1
        have hw297_0 := hx297_0
        cases e297
        replace hx297_0 := (HB.out.cell (World.block_lt_of_cell? w _ hx297_0)).trans hx297_0
        replace hx297_1 := (HB.out.cell (World.block_lt_of_cell? w _ hx297_1)).trans hx297_1
        replace hx297_2 := (HB.out.cell (World.block_lt_of_cell? w _ hx297_2)).trans hx297_2
        replace hx297_3 := (HB.out.cell (World.block_lt_of_cell? w _ hx297_3)).trans hx297_3
        replace hx297_4 := (HB.out.cell (World.block_lt_of_cell? w _ hx297_4)).trans hx297_4
        replace p297 := eq_true p297
        replace q297 := eq_true q297
        refine qaF (by kernel_rfl) (by kernel_rfl) ?_
        have hL0_ := Aside0.mk (show wr.drew.cell? (ad297.add ((x5_1).toNat * 5)) = some (.string ((qao l0 x5_1).f0)) from ((HB.out.cell (World.block_lt_of_cell? w _ hw297_0)).trans hw297_0))
        have hL1_ := Aside0.mk (show wr.drew.cell? ⟨(ad297.add ((x5_1).toNat * 5)).block, (ad297.add ((x5_1).toNat * 5)).off + 1, none⟩ = some (.string ((qao l0 x5_1).f1)) from ((HB.out.cell (World.block_lt_of_cell? w _ hw297_1)).trans hw297_1))
        have hL2_ := Aside0.mk (show wr.drew.cell? ⟨(ad297.add ((x5_1).toNat * 5)).block, (ad297.add ((x5_1).toNat * 5)).off + 2, none⟩ = some (.string ((qao l0 x5_1).f2)) from ((HB.out.cell (World.block_lt_of_cell? w _ hw297_2)).trans hw297_2))
        have hL3_ := Aside0.mk (show wr.drew.cell? ⟨(ad297.add ((x5_1).toNat * 5)).block, (ad297.add ((x5_1).toNat * 5)).off + 3, none⟩ = some (.bool ((qao l0 x5_1).f3)) from ((HB.out.cell (World.block_lt_of_cell? w _ hw297_3)).trans hw297_3))
        have hL4_ := Aside0.mk (show wr.drew.cell? ⟨(ad297.add ((x5_1).toNat * 5)).block, (ad297.add ((x5_1).toNat * 5)).off + 4, none⟩ = some (.bool ((qao l0 x5_1).f4)) from ((HB.out.cell (World.block_lt_of_cell? w _ hw297_4)).trans hw297_4))
        generalize wr.drew = w31 at HB hx297_0 hx297_1 hx297_2 hx297_3 hx297_4 hL0_ hL1_ hL2_ hL3_ hL4_ ⊢
        clear hx297_0 hx297_1 hx297_2 hx297_3 hx297_4
        have hL0 := fun (p_ : Later w31) => Later.cell p_ hL0_.out
        have hL1 := fun (p_ : Later w31) => Later.cell p_ hL1_.out
        have hL2 := fun (p_ : Later w31) => Later.cell p_ hL2_.out
        have hL3 := fun (p_ : Later w31) => Later.cell p_ hL3_.out
        have hL4 := fun (p_ : Later w31) => Later.cell p_ hL4_.out
        clear hL0_ hL1_ hL2_ hL3_ hL4_
        repeat (first | go_big_quiet_step ((first | (go_at_call 59; exact Calls.qbb (qap.calls k1 x1_1 t298 _ A5.out)))) | quiet_step ((first | (go_at_call 59; exact Calls.qbb (qap.calls k1 x1_1 t298 _ A5.out)))))
        refine wpQuiet_nil ?_
        rintro w32 ⟨⟨wq_, hbL⟩, hq_⟩
        have hq2_ : w32 = wq_ := hq_
        clear hq_
        subst hq2_
        clear hL0 hL1 hL2 hL3 hL4
        have nHB_ := Aside0.mk (qak HB.out hbL)
        clear HB
        have HB := nHB_
        clear nHB_
        clear hbL
        try go_wp2
        have n0_ := Aside0.mk (qab HB.out)
        clear HB
        have HB := n0_
        clear n0_
        have p299 : 0 ≤ (x5_1 : Int) := of_decide_eq_true (by first | (with_reducible assumption) | assumption)
        have q299 : x5_1 < (l0.length : Int) := of_decide_eq_true (by first | (with_reducible assumption) | assumption)
        obtain ⟨ad299, e299, hx299_0, hx299_1, hx299_2, hx299_3, hx299_4⟩ := qb3 HR0.out x5_1 p299 q299
        have hw299_4 := hx299_4
        have hw299_3 := hx299_3
        have hw299_2 := hx299_2
        have hw299_1 := hx299_1
        have hw299_0 := hx299_0
        obtain rfl : ad297 = ad299 := (by injection e299)
        replace hx299_0 := (HB.out.cell (World.block_lt_of_cell? w _ hx299_0)).trans hx299_0
        replace hx299_1 := (HB.out.cell (World.block_lt_of_cell? w _ hx299_1)).trans hx299_1
        replace hx299_2 := (HB.out.cell (World.block_lt_of_cell? w _ hx299_2)).trans hx299_2
        replace hx299_3 := (HB.out.cell (World.block_lt_of_cell? w _ hx299_3)).trans hx299_3
        replace hx299_4 := (HB.out.cell (World.block_lt_of_cell? w _ hx299_4)).trans hx299_4
        replace p299 := eq_true p299
        replace q299 := eq_true q299
        refine qaF (by kernel_rfl) (by kernel_rfl) ?_
        have hL0_ := Aside0.mk (show w32.drew.cell? (ad297.add ((x5_1).toNat * 5)) = some (.string ((qao l0 x5_1).f0)) from ((HB.out.cell (World.block_lt_of_cell? w _ hw299_0)).trans hw299_0))
        have hL1_ := Aside0.mk (show w32.drew.cell? ⟨(ad297.add ((x5_1).toNat * 5)).block, (ad297.add ((x5_1).toNat * 5)).off + 1, none⟩ = some (.string ((qao l0 x5_1).f1)) from ((HB.out.cell (World.block_lt_of_cell? w _ hw299_1)).trans hw299_1))
        have hL2_ := Aside0.mk (show w32.drew.cell? ⟨(ad297.add ((x5_1).toNat * 5)).block, (ad297.add ((x5_1).toNat * 5)).off + 2, none⟩ = some (.string ((qao l0 x5_1).f2)) from ((HB.out.cell (World.block_lt_of_cell? w _ hw299_2)).trans hw299_2))
        have hL3_ := Aside0.mk (show w32.drew.cell? ⟨(ad297.add ((x5_1).toNat * 5)).block, (ad297.add ((x5_1).toNat * 5)).off + 3, none⟩ = some (.bool ((qao l0 x5_1).f3)) from ((HB.out.cell (World.block_lt_of_cell? w _ hw299_3)).trans hw299_3))
        have hL4_ := Aside0.mk (show w32.drew.cell? ⟨(ad297.add ((x5_1).toNat * 5)).block, (ad297.add ((x5_1).toNat * 5)).off + 4, none⟩ = some (.bool ((qao l0 x5_1).f4)) from ((HB.out.cell (World.block_lt_of_cell? w _ hw299_4)).trans hw299_4))
        generalize w32.drew = w33 at HB hx299_0 hx299_1 hx299_2 hx299_3 hx299_4 hL0_ hL1_ hL2_ hL3_ hL4_ ⊢
        clear hx299_0 hx299_1 hx299_2 hx299_3 hx299_4
        have hL0 := fun (p_ : Later w33) => Later.cell p_ hL0_.out
        have hL1 := fun (p_ : Later w33) => Later.cell p_ hL1_.out
        have hL2 := fun (p_ : Later w33) => Later.cell p_ hL2_.out
        have hL3 := fun (p_ : Later w33) => Later.cell p_ hL3_.out
        have hL4 := fun (p_ : Later w33) => Later.cell p_ hL4_.out
        clear hL0_ hL1_ hL2_ hL3_ hL4_
        repeat (first | go_big_quiet_step ((first | (go_at_call 59; exact Calls.qbb (qap.calls k1 (wrap64 (x1_1 + 1)) t300 _ A7.out)))) | quiet_step ((first | (go_at_call 59; exact Calls.qbb (qap.calls k1 (wrap64 (x1_1 + 1)) t300 _ A7.out)))))
        refine wpQuiet_nil ?_
        rintro w34 ⟨⟨wq_, hbL⟩, hq_⟩
        have hq2_ : w34 = wq_ := hq_
        clear hq_
        subst hq2_
        clear hL0 hL1 hL2 hL3 hL4
        have nHB_ := Aside0.mk (qak HB.out hbL)
        clear HB
        have HB := nHB_
        clear nHB_
        clear hbL
        try go_wp2
        have n0_ := Aside0.mk (qab HB.out)
        clear HB
        have HB := n0_
        clear n0_
        have p301 : 0 ≤ (x5_1 : Int) := of_decide_eq_true (by first | (with_reducible assumption) | assumption)
        have q301 : x5_1 < (l0.length : Int) := of_decide_eq_true (by first | (with_reducible assumption) | assumption)
        obtain ⟨ad301, e301, hx301_0, hx301_1, hx301_2, hx301_3, hx301_4⟩ := qb3 HR0.out x5_1 p301 q301
        have hw301_4 := hx301_4
        have hw301_3 := hx301_3
        have hw301_2 := hx301_2
        have hw301_1 := hx301_1
        have hw301_0 := hx301_0
        obtain rfl : ad297 = ad301 := (by injection e301)
        replace hx301_0 := (HB.out.cell (World.block_lt_of_cell? w _ hx301_0)).trans hx301_0
        replace hx301_1 := (HB.out.cell (World.block_lt_of_cell? w _ hx301_1)).trans hx301_1
        replace hx301_2 := (HB.out.cell (World.block_lt_of_cell? w _ hx301_2)).trans hx301_2
        replace hx301_3 := (HB.out.cell (World.block_lt_of_cell? w _ hx301_3)).trans hx301_3
        replace hx301_4 := (HB.out.cell (World.block_lt_of_cell? w _ hx301_4)).trans hx301_4
        replace p301 := eq_true p301
        replace q301 := eq_true q301
        refine qaF (by kernel_rfl) (by kernel_rfl) ?_
        have hL0_ := Aside0.mk (show w34.drew.cell? (ad297.add ((x5_1).toNat * 5)) = some (.string ((qao l0 x5_1).f0)) from ((HB.out.cell (World.block_lt_of_cell? w _ hw301_0)).trans hw301_0))
        have hL1_ := Aside0.mk (show w34.drew.cell? ⟨(ad297.add ((x5_1).toNat * 5)).block, (ad297.add ((x5_1).toNat * 5)).off + 1, none⟩ = some (.string ((qao l0 x5_1).f1)) from ((HB.out.cell (World.block_lt_of_cell? w _ hw301_1)).trans hw301_1))
        have hL2_ := Aside0.mk (show w34.drew.cell? ⟨(ad297.add ((x5_1).toNat * 5)).block, (ad297.add ((x5_1).toNat * 5)).off + 2, none⟩ = some (.string ((qao l0 x5_1).f2)) from ((HB.out.cell (World.block_lt_of_cell? w _ hw301_2)).trans hw301_2))
        have hL3_ := Aside0.mk (show w34.drew.cell? ⟨(ad297.add ((x5_1).toNat * 5)).block, (ad297.add ((x5_1).toNat * 5)).off + 3, none⟩ = some (.bool ((qao l0 x5_1).f3)) from ((HB.out.cell (World.block_lt_of_cell? w _ hw301_3)).trans hw301_3))
        have hL4_ := Aside0.mk (show w34.drew.cell? ⟨(ad297.add ((x5_1).toNat * 5)).block, (ad297.add ((x5_1).toNat * 5)).off + 4, none⟩ = some (.bool ((qao l0 x5_1).f4)) from ((HB.out.cell (World.block_lt_of_cell? w _ hw301_4)).trans hw301_4))
        generalize w34.drew = w35 at HB hx301_0 hx301_1 hx301_2 hx301_3 hx301_4 hL0_ hL1_ hL2_ hL3_ hL4_ ⊢
        clear hx301_0 hx301_1 hx301_2 hx301_3 hx301_4
        have hL0 := fun (p_ : Later w35) => Later.cell p_ hL0_.out
        have hL1 := fun (p_ : Later w35) => Later.cell p_ hL1_.out
        have hL2 := fun (p_ : Later w35) => Later.cell p_ hL2_.out
        have hL3 := fun (p_ : Later w35) => Later.cell p_ hL3_.out
        have hL4 := fun (p_ : Later w35) => Later.cell p_ hL4_.out
        clear hL0_ hL1_ hL2_ hL3_ hL4_
        repeat (first | go_big_quiet_step ((first | (go_at_call 59; exact Calls.qbb (qap.calls k1 (wrap64 ((wrap64 (x1_1 + 1)) + 1)) t302 _ A9.out)))) | quiet_step ((first | (go_at_call 59; exact Calls.qbb (qap.calls k1 (wrap64 ((wrap64 (x1_1 + 1)) + 1)) t302 _ A9.out)))))
        refine wpQuiet_nil ?_
        rintro w36 ⟨⟨wq_, hbL⟩, hq_⟩
        have hq2_ : w36 = wq_ := hq_
        clear hq_
        subst hq2_
        clear hL0 hL1 hL2 hL3 hL4
        have nHB_ := Aside0.mk (qak HB.out hbL)
        clear HB
        have HB := nHB_
        clear nHB_
        clear hbL
        try go_wp2
        go_ret
        exact ⟨by first | rfl | (simp [qam, qan] <;> rfl) | (simp [*, qam, qan] <;> rfl), by repeat (first | (with_reducible first | exact HB.out | apply qac | apply qaa | apply qab) | exact HB.out)⟩
      ·rw [if_neg c8] at H
       have c8b0 : (((qao l0 x5_1).f1).toList == t300.toList) = false := beq_eq_false_iff_ne.mpr c8
       have c8b1 : (((qao l0 x5_1).f1).toList != t300.toList) = true := bne_iff_ne.mpr c8
       obtain rfl := Option.some.inj H
       try go_wp2
       have n0_ := Aside0.mk (qab HB.out)
       clear HB
       have HB := n0_
       clear n0_
       have p297 : 0 ≤ (x5_1 : Int) := of_decide_eq_true (by first | (with_reducible assumption) | assumption)
       have q297 : x5_1 < (l0.length : Int) := of_decide_eq_true (by first | (with_reducible assumption) | assumption)
       obtain ⟨ad297, e297, hx297_0, hx297_1, hx297_2, hx297_3, hx297_4⟩ := qb3 HR0.out x5_1 p297 q297
       have hw297_4 := hx297_4
       have hw297_3 := hx297_3
       have hw297_2 := hx297_2
       have hw297_1 := hx297_1
       have hw297_0 := hx297_0
       cases e297
       replace hx297_0 := (HB.out.cell (World.block_lt_of_cell? w _ hx297_0)).trans hx297_0
       replace hx297_1 := (HB.out.cell (World.block_lt_of_cell? w _ hx297_1)).trans hx297_1
       replace hx297_2 := (HB.out.cell (World.block_lt_of_cell? w _ hx297_2)).trans hx297_2
       replace hx297_3 := (HB.out.cell (World.block_lt_of_cell? w _ hx297_3)).trans hx297_3
       replace hx297_4 := (HB.out.cell (World.block_lt_of_cell? w _ hx297_4)).trans hx297_4
       replace p297 := eq_true p297
       replace q297 := eq_true q297
       refine qaF (by kernel_rfl) (by kernel_rfl) ?_
       have hL0_ := Aside0.mk (show wr.drew.cell? (ad297.add ((x5_1).toNat * 5)) = some (.string ((qao l0 x5_1).f0)) from ((HB.out.cell (World.block_lt_of_cell? w _ hw297_0)).trans hw297_0))
       have hL1_ := Aside0.mk (show wr.drew.cell? ⟨(ad297.add ((x5_1).toNat * 5)).block, (ad297.add ((x5_1).toNat * 5)).off + 1, none⟩ = some (.string ((qao l0 x5_1).f1)) from ((HB.out.cell (World.block_lt_of_cell? w _ hw297_1)).trans hw297_1))
       have hL2_ := Aside0.mk (show wr.drew.cell? ⟨(ad297.add ((x5_1).toNat * 5)).block, (ad297.add ((x5_1).toNat * 5)).off + 2, none⟩ = some (.string ((qao l0 x5_1).f2)) from ((HB.out.cell (World.block_lt_of_cell? w _ hw297_2)).trans hw297_2))
       have hL3_ := Aside0.mk (show wr.drew.cell? ⟨(ad297.add ((x5_1).toNat * 5)).block, (ad297.add ((x5_1).toNat * 5)).off + 3, none⟩ = some (.bool ((qao l0 x5_1).f3)) from ((HB.out.cell (World.block_lt_of_cell? w _ hw297_3)).trans hw297_3))
       have hL4_ := Aside0.mk (show wr.drew.cell? ⟨(ad297.add ((x5_1).toNat * 5)).block, (ad297.add ((x5_1).toNat * 5)).off + 4, none⟩ = some (.bool ((qao l0 x5_1).f4)) from ((HB.out.cell (World.block_lt_of_cell? w _ hw297_4)).trans hw297_4))
       generalize wr.drew = w37 at HB hx297_0 hx297_1 hx297_2 hx297_3 hx297_4 hL0_ hL1_ hL2_ hL3_ hL4_ ⊢
       clear hx297_0 hx297_1 hx297_2 hx297_3 hx297_4
       have hL0 := fun (p_ : Later w37) => Later.cell p_ hL0_.out
       have hL1 := fun (p_ : Later w37) => Later.cell p_ hL1_.out
       have hL2 := fun (p_ : Later w37) => Later.cell p_ hL2_.out
       have hL3 := fun (p_ : Later w37) => Later.cell p_ hL3_.out
       have hL4 := fun (p_ : Later w37) => Later.cell p_ hL4_.out
       clear hL0_ hL1_ hL2_ hL3_ hL4_
       repeat (first | go_big_quiet_step ((first | (go_at_call 59; exact Calls.qbb (qap.calls k1 x1_1 t298 _ A5.out)))) | quiet_step ((first | (go_at_call 59; exact Calls.qbb (qap.calls k1 x1_1 t298 _ A5.out)))))
       refine wpQuiet_nil ?_
       rintro w38 ⟨⟨wq_, hbL⟩, hq_⟩
       have hq2_ : w38 = wq_ := hq_
       clear hq_
       subst hq2_
       clear hL0 hL1 hL2 hL3 hL4
       have nHB_ := Aside0.mk (qak HB.out hbL)
       clear HB
       have HB := nHB_
       clear nHB_
       clear hbL
       try go_wp2
       have n0_ := Aside0.mk (qab HB.out)
       clear HB
       have HB := n0_
       clear n0_
       have p299 : 0 ≤ (x5_1 : Int) := of_decide_eq_true (by first | (with_reducible assumption) | assumption)
       have q299 : x5_1 < (l0.length : Int) := of_decide_eq_true (by first | (with_reducible assumption) | assumption)
       obtain ⟨ad299, e299, hx299_0, hx299_1, hx299_2, hx299_3, hx299_4⟩ := qb3 HR0.out x5_1 p299 q299
       have hw299_4 := hx299_4
       have hw299_3 := hx299_3
       have hw299_2 := hx299_2
       have hw299_1 := hx299_1
       have hw299_0 := hx299_0
       obtain rfl : ad297 = ad299 := (by injection e299)
       replace hx299_0 := (HB.out.cell (World.block_lt_of_cell? w _ hx299_0)).trans hx299_0
       replace hx299_1 := (HB.out.cell (World.block_lt_of_cell? w _ hx299_1)).trans hx299_1
       replace hx299_2 := (HB.out.cell (World.block_lt_of_cell? w _ hx299_2)).trans hx299_2
       replace hx299_3 := (HB.out.cell (World.block_lt_of_cell? w _ hx299_3)).trans hx299_3
       replace hx299_4 := (HB.out.cell (World.block_lt_of_cell? w _ hx299_4)).trans hx299_4
       replace p299 := eq_true p299
       replace q299 := eq_true q299
       refine qaF (by kernel_rfl) (by kernel_rfl) ?_
       have hL0_ := Aside0.mk (show w38.drew.cell? (ad297.add ((x5_1).toNat * 5)) = some (.string ((qao l0 x5_1).f0)) from ((HB.out.cell (World.block_lt_of_cell? w _ hw299_0)).trans hw299_0))
       have hL1_ := Aside0.mk (show w38.drew.cell? ⟨(ad297.add ((x5_1).toNat * 5)).block, (ad297.add ((x5_1).toNat * 5)).off + 1, none⟩ = some (.string ((qao l0 x5_1).f1)) from ((HB.out.cell (World.block_lt_of_cell? w _ hw299_1)).trans hw299_1))
       have hL2_ := Aside0.mk (show w38.drew.cell? ⟨(ad297.add ((x5_1).toNat * 5)).block, (ad297.add ((x5_1).toNat * 5)).off + 2, none⟩ = some (.string ((qao l0 x5_1).f2)) from ((HB.out.cell (World.block_lt_of_cell? w _ hw299_2)).trans hw299_2))
       have hL3_ := Aside0.mk (show w38.drew.cell? ⟨(ad297.add ((x5_1).toNat * 5)).block, (ad297.add ((x5_1).toNat * 5)).off + 3, none⟩ = some (.bool ((qao l0 x5_1).f3)) from ((HB.out.cell (World.block_lt_of_cell? w _ hw299_3)).trans hw299_3))
       have hL4_ := Aside0.mk (show w38.drew.cell? ⟨(ad297.add ((x5_1).toNat * 5)).block, (ad297.add ((x5_1).toNat * 5)).off + 4, none⟩ = some (.bool ((qao l0 x5_1).f4)) from ((HB.out.cell (World.block_lt_of_cell? w _ hw299_4)).trans hw299_4))
       generalize w38.drew = w39 at HB hx299_0 hx299_1 hx299_2 hx299_3 hx299_4 hL0_ hL1_ hL2_ hL3_ hL4_ ⊢
       clear hx299_0 hx299_1 hx299_2 hx299_3 hx299_4
       have hL0 := fun (p_ : Later w39) => Later.cell p_ hL0_.out
       have hL1 := fun (p_ : Later w39) => Later.cell p_ hL1_.out
       have hL2 := fun (p_ : Later w39) => Later.cell p_ hL2_.out
       have hL3 := fun (p_ : Later w39) => Later.cell p_ hL3_.out
       have hL4 := fun (p_ : Later w39) => Later.cell p_ hL4_.out
       clear hL0_ hL1_ hL2_ hL3_ hL4_
       repeat (first | go_big_quiet_step ((first | (go_at_call 59; exact Calls.qbb (qap.calls k1 (wrap64 (x1_1 + 1)) t300 _ A7.out)))) | quiet_step ((first | (go_at_call 59; exact Calls.qbb (qap.calls k1 (wrap64 (x1_1 + 1)) t300 _ A7.out)))))
       refine wpQuiet_nil ?_
       rintro w40 ⟨⟨wq_, hbL⟩, hq_⟩
       have hq2_ : w40 = wq_ := hq_
       clear hq_
       subst hq2_
       clear hL0 hL1 hL2 hL3 hL4
       have nHB_ := Aside0.mk (qak HB.out hbL)
       clear HB
       have HB := nHB_
       clear nHB_
       clear hbL
       try go_wp2
       go_ret
       exact ⟨by first | rfl | (simp [qam, qan] <;> rfl) | (simp [*, qam, qan] <;> rfl), by repeat (first | (with_reducible first | exact HB.out | apply qac | apply qaa | apply qab) | exact HB.out)⟩
     ·rw [if_neg c6] at H
      have c6b0 : (((qao l0 x5_1).f0).toList == t298.toList) = false := beq_eq_false_iff_ne.mpr c6
      have c6b1 : (((qao l0 x5_1).f0).toList != t298.toList) = true := bne_iff_ne.mpr c6
      obtain rfl := Option.some.inj H
      try go_wp2
      have n0_ := Aside0.mk (qab HB.out)
      clear HB
      have HB := n0_
      clear n0_
      have p297 : 0 ≤ (x5_1 : Int) := of_decide_eq_true (by first | (with_reducible assumption) | assumption)
      have q297 : x5_1 < (l0.length : Int) := of_decide_eq_true (by first | (with_reducible assumption) | assumption)
      obtain ⟨ad297, e297, hx297_0, hx297_1, hx297_2, hx297_3, hx297_4⟩ := qb3 HR0.out x5_1 p297 q297
      have hw297_4 := hx297_4
      have hw297_3 := hx297_3
      have hw297_2 := hx297_2
      have hw297_1 := hx297_1
      have hw297_0 := hx297_0
      cases e297
      replace hx297_0 := (HB.out.cell (World.block_lt_of_cell? w _ hx297_0)).trans hx297_0
      replace hx297_1 := (HB.out.cell (World.block_lt_of_cell? w _ hx297_1)).trans hx297_1
      replace hx297_2 := (HB.out.cell (World.block_lt_of_cell? w _ hx297_2)).trans hx297_2
      replace hx297_3 := (HB.out.cell (World.block_lt_of_cell? w _ hx297_3)).trans hx297_3
      replace hx297_4 := (HB.out.cell (World.block_lt_of_cell? w _ hx297_4)).trans hx297_4
      replace p297 := eq_true p297
      replace q297 := eq_true q297
      refine qaF (by kernel_rfl) (by kernel_rfl) ?_
      have hL0_ := Aside0.mk (show wr.drew.cell? (ad297.add ((x5_1).toNat * 5)) = some (.string ((qao l0 x5_1).f0)) from ((HB.out.cell (World.block_lt_of_cell? w _ hw297_0)).trans hw297_0))
      have hL1_ := Aside0.mk (show wr.drew.cell? ⟨(ad297.add ((x5_1).toNat * 5)).block, (ad297.add ((x5_1).toNat * 5)).off + 1, none⟩ = some (.string ((qao l0 x5_1).f1)) from ((HB.out.cell (World.block_lt_of_cell? w _ hw297_1)).trans hw297_1))
      have hL2_ := Aside0.mk (show wr.drew.cell? ⟨(ad297.add ((x5_1).toNat * 5)).block, (ad297.add ((x5_1).toNat * 5)).off + 2, none⟩ = some (.string ((qao l0 x5_1).f2)) from ((HB.out.cell (World.block_lt_of_cell? w _ hw297_2)).trans hw297_2))
      have hL3_ := Aside0.mk (show wr.drew.cell? ⟨(ad297.add ((x5_1).toNat * 5)).block, (ad297.add ((x5_1).toNat * 5)).off + 3, none⟩ = some (.bool ((qao l0 x5_1).f3)) from ((HB.out.cell (World.block_lt_of_cell? w _ hw297_3)).trans hw297_3))
      have hL4_ := Aside0.mk (show wr.drew.cell? ⟨(ad297.add ((x5_1).toNat * 5)).block, (ad297.add ((x5_1).toNat * 5)).off + 4, none⟩ = some (.bool ((qao l0 x5_1).f4)) from ((HB.out.cell (World.block_lt_of_cell? w _ hw297_4)).trans hw297_4))
      generalize wr.drew = w41 at HB hx297_0 hx297_1 hx297_2 hx297_3 hx297_4 hL0_ hL1_ hL2_ hL3_ hL4_ ⊢
      clear hx297_0 hx297_1 hx297_2 hx297_3 hx297_4
      have hL0 := fun (p_ : Later w41) => Later.cell p_ hL0_.out
      have hL1 := fun (p_ : Later w41) => Later.cell p_ hL1_.out
      have hL2 := fun (p_ : Later w41) => Later.cell p_ hL2_.out
      have hL3 := fun (p_ : Later w41) => Later.cell p_ hL3_.out
      have hL4 := fun (p_ : Later w41) => Later.cell p_ hL4_.out
      clear hL0_ hL1_ hL2_ hL3_ hL4_
      repeat (first | go_big_quiet_step ((first | (go_at_call 59; exact Calls.qbb (qap.calls k1 x1_1 t298 _ A5.out)))) | quiet_step ((first | (go_at_call 59; exact Calls.qbb (qap.calls k1 x1_1 t298 _ A5.out)))))
      refine wpQuiet_nil ?_
      rintro w42 ⟨⟨wq_, hbL⟩, hq_⟩
      have hq2_ : w42 = wq_ := hq_
      clear hq_
      subst hq2_
      clear hL0 hL1 hL2 hL3 hL4
      have nHB_ := Aside0.mk (qak HB.out hbL)
      clear HB
      have HB := nHB_
      clear nHB_
      clear hbL
      try go_wp2
      go_ret
      exact ⟨by first | rfl | (simp [qam, qan] <;> rfl) | (simp [*, qam, qan] <;> rfl), by repeat (first | (with_reducible first | exact HB.out | apply qac | apply qaa | apply qab) | exact HB.out)⟩
    ·rw [if_neg c4] at H
     exact absurd H (by simp)
   ·rw [if_neg c3] at H
    have c3b0 : decide (x5_1 < (l0.length : Int)) = false := decide_eq_false c3
    clear c3
    obtain rfl := Option.some.inj H
    go_wp2
    go_ret
    exact ⟨by first | rfl | (simp [qam, qan] <;> rfl) | (simp [*, qam, qan] <;> rfl), by repeat (first | (with_reducible first | exact HB.out | apply qac | apply qaa | apply qab) | exact HB.out)⟩
end Go.Proofs.Ytgcncphdjabjjaa.X
