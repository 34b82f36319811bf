import Derived.Test.YtcpcifgpcemaeaaKFnExactNewHeap5
import Derived.Test.YtcpcifgpcemaeaaKFnExactNewHeap8
import Derived.Test.YtcpcifgpcemaeaaKFnExactNewHeap9
namespace Go.Proofs.Ytcpcifgpcemaeaa.X
open Go.RowKit Go.Proofs.YtcpcifgpcemaeaaW.PrintWords Go.Proofs.YtcpcifgpcemaeaaW.PrintLast Go.Proofs.YtcpcifgpcemaeaaW.PrintMore
attribute [local go_sem] xbin_geq xbin_leq xbin_gtr max2_int min2_int max_two min_two max_three min_three max_four min_four
set_option linter.unusedVariables false
set_option linter.unusedSimpArgs false
def laws_heldNodeS.l0 : Nat → List (S72) → Int → Int → Option (Int)
 | 0, _, _, _ => none
 | k + 1, x0, x1, x5 => if x5 < (x0.length : Int) then (if 0 ≤ x5 then (if (((rd_T72 x0 x5).f0) != ((Int.tmod x1 3) == 0)) = true then (some (-1)) else ((laws_heldPairS.f k ((rd_T72 x0 x5).f1) (wrap64 (x1 + 1))).bind fun t779 => (if t779 < 0 then (some (-1)) else ((laws_heldStringS.f k ((rd_T72 x0 x5).f2) t779).bind fun t781 => (if t781 < 0 then (some (-1)) else ((laws_heldIntS.f k ((rd_T72 x0 x5).f3) t781).bind fun t783 => (if t783 < 0 then (some (-1)) else (laws_heldNodeS.l0 k x0 t783 (wrap64 (x5 + 1)))))))))) else (none)) else (some x1)
def laws_heldNodeS.f (k : Nat) (l0 : List (S72)) (a1 : Int) : Option (Int) := laws_heldNodeS.l0 k l0 a1 0
theorem laws_heldNodeS.mono_l : ∀ k, (∀ y0 y1 y2, LeO (laws_heldNodeS.l0 k y0 y1 y2) (laws_heldNodeS.l0 (k + 1) y0 y1 y2))
 | 0 => fun _ _ _ r h => by simp [laws_heldNodeS.l0] at h
 | k + 1 => by
  have ih0 := laws_heldNodeS.mono_l k
  ·intro y0 y1 y2
   unfold laws_heldNodeS.l0
   repeat' first
   | (with_reducible exact ih0 _ _ _)
   | (with_reducible exact laws_heldIntS.mono _ _ _)
   | (with_reducible exact laws_heldPairS.mono _ _ _)
   | (with_reducible exact laws_heldStringS.mono _ _ _)
   | (with_reducible exact LeO.refl _)
   | (with_reducible exact LeO.none _)
   | (with_reducible refine LeO.ite ?_ ?_)
   | (with_reducible refine LeO.bind ?_ (fun _ => ?_))
   | exact ih0 _ _ _
   | exact laws_heldIntS.mono _ _ _
   | exact laws_heldPairS.mono _ _ _
   | exact laws_heldStringS.mono _ _ _
   | exact LeO.none _
   | refine LeO.ite ?_ ?_
   | refine LeO.bind ?_ (fun _ => ?_)
theorem laws_heldNodeS.mono : ∀ a0 a1 k, LeO (laws_heldNodeS.f k a0 a1) (laws_heldNodeS.f (k + 1) a0 a1) := by
 intro a0 a1 k
 have ih0 := laws_heldNodeS.mono_l k
 unfold laws_heldNodeS.f
 repeat' first
   | (with_reducible exact ih0 _ _ _)
   | (with_reducible exact laws_heldIntS.mono _ _ _)
   | (with_reducible exact laws_heldPairS.mono _ _ _)
   | (with_reducible exact laws_heldStringS.mono _ _ _)
   | (with_reducible exact LeO.refl _)
   | (with_reducible exact LeO.none _)
   | (with_reducible refine LeO.ite ?_ ?_)
   | (with_reducible refine LeO.bind ?_ (fun _ => ?_))
   | exact ih0 _ _ _
   | exact laws_heldIntS.mono _ _ _
   | exact laws_heldPairS.mono _ _ _
   | exact laws_heldStringS.mono _ _ _
   | exact LeO.none _
   | refine LeO.ite ?_ ?_
   | refine LeO.bind ?_ (fun _ => ?_)
set_option maxHeartbeats 8000000 in
set_option maxRecDepth 100000 in
theorem laws_heldNodeS.calls (k : Nat) (A0 : Option Addr) (c0 : Nat) (l0 : List (S72)) (a1 : Int) (r : Int) (w : World) (hr0 : Kd.C k72 w A0 l0.length l0) (hc0 : l0.length ≤ c0) (h : laws_heldNodeS.f k l0 a1 = some r) :
  Calls Try.prog 96 #[.slice A0 l0.length c0, .int .i64 a1] w fun e w' => e = .returned (.int .i64 r) ∧ Below w.heap.size w w' := by
 have HR0 := Aside0.mk hr0
 have HC0 := Aside0.mk hc0
 clear hr0 hc0
 have HB := Aside0.mk (Below.refl w.heap.size w)
 have H : (laws_heldNodeS.l0 k l0 a1 0) = some r := h
 clear h
 have H' := Aside0.mk H
 clear H
 go_enter Try.func96, Try.ntmps96
 go_wp2
 go_loopg [1, 5] k (fun kq v1 v5 w' => ∃ (x1_1 : Int) (x5_1 : Int), v1 = .int .i64 x1_1 ∧ v5 = .int .i64 x5_1 ∧ Aside0 (laws_heldNodeS.l0 kq l0 x1_1 x5_1 = some r) ∧ Aside0 (kq ≤ k) ∧ Aside0 (Below w.heap.size w w'))
 case atStart => exact ⟨(a1), (0), (by first | rfl | (simp; done) | (simp [*]; done)), (by first | rfl | (simp; done) | (simp [*]; done)), H', ⟨Nat.le_refl _⟩, ⟨by repeat (first | (with_reducible first | exact HB.out | apply below_alloc | apply pw_below_drewN | apply below_drew1) | exact HB.out)⟩⟩
 case round =>
  clear H'
  try clear p2
  obtain ⟨x1_1, x5_1, rfl, rfl, HA, HK1, HB⟩ := hrel
  cases gk with
  | zero => exact absurd HA.out (by simp [laws_heldNodeS.l0])
  | succ k1 =>
   have H := HA.out
   clear HA
   simp only [laws_heldNodeS.l0] at H
   by_cases c3 : x5_1 < (l0.length : Int)
   ·rw [if_pos c3] at H
    have c3b0 : decide (x5_1 < (l0.length : Int)) = true := decide_eq_true c3
    clear c3
    by_cases c4 : 0 ≤ x5_1
    ·rw [if_pos c4] at H
     have c4b0 : decide (0 ≤ x5_1) = true := decide_eq_true c4
     clear c4
     by_cases c5 : (((rd_T72 l0 x5_1).f0) != ((Int.tmod x1_1 3) == 0)) = true
     ·rw [if_pos c5] at H
      have c5b0 : (((rd_T72 l0 x5_1).f0) != ((Int.tmod x1_1 3) == 0)) = true := c5
      (try (have c5b1 : decide (((rd_T72 l0 x5_1).f0) = ((Int.tmod x1_1 3) == 0)) = false := by simpa using c5))
      (try (have c5b2 : (((rd_T72 l0 x5_1).f0) == ((Int.tmod x1_1 3) == 0)) = false := by simpa using c5))
      (try (have c5b3 : ¬ (((rd_T72 l0 x5_1).f0) = ((Int.tmod x1_1 3) == 0)) := by simpa using c5))
      clear c5
      obtain rfl := Option.some.inj H
      have p777 : 0 ≤ (x5_1 : Int) := of_decide_eq_true (by first | (with_reducible assumption) | assumption)
      have q777 : x5_1 < (l0.length : Int) := of_decide_eq_true (by first | (with_reducible assumption) | assumption)
      obtain ⟨ad777, A777_1, c777_1, A777_2, c777_2, A777_3, c777_3, e777, hx777_0, hx777_1, hx777_2, hx777_3, hl777_1, hi777_1, hl777_2, hi777_2, hl777_3, hi777_3⟩ := at_T72 HR0.out x5_1 p777 q777
      cases e777
      replace hx777_0 := (HB.out.cell (World.block_lt_of_cell? w _ hx777_0)).trans hx777_0
      replace hx777_1 := (HB.out.cell (World.block_lt_of_cell? w _ hx777_1)).trans hx777_1
      replace hx777_2 := (HB.out.cell (World.block_lt_of_cell? w _ hx777_2)).trans hx777_2
      replace hx777_3 := (HB.out.cell (World.block_lt_of_cell? w _ hx777_3)).trans hx777_3
      have HR777_1 := Aside0.mk hi777_1
      have HC777_1 := Aside0.mk hl777_1
      clear hi777_1 hl777_1
      have HR777_2 := Aside0.mk hi777_2
      have HC777_2 := Aside0.mk hl777_2
      clear hi777_2 hl777_2
      have HR777_3 := Aside0.mk hi777_3
      have HC777_3 := Aside0.mk hl777_3
      clear hi777_3 hl777_3
      replace p777 := eq_true p777
      replace q777 := eq_true q777
      go_wp2
      go_ret
      exact ⟨by first | rfl | (simp [errW_none, errW_some] <;> rfl) | (simp [*, errW_none, errW_some] <;> rfl), by repeat (first | (with_reducible first | exact HB.out | apply below_alloc | apply pw_below_drewN | apply below_drew1) | exact HB.out)⟩
     ·rw [if_neg c5] at H
      have c5b0 : (((rd_T72 l0 x5_1).f0) != ((Int.tmod x1_1 3) == 0)) = false := by simpa using c5
      (try (have c5b1 : decide (((rd_T72 l0 x5_1).f0) = ((Int.tmod x1_1 3) == 0)) = true := by simpa using c5))
      (try (have c5b2 : (((rd_T72 l0 x5_1).f0) == ((Int.tmod x1_1 3) == 0)) = true := by simpa using c5))
      clear c5
      replace H := Option.bind_eq_some_iff.mp H
      obtain ⟨t779, A60, H⟩ := H
      replace H : (if t779 < 0 then (some (-1)) else ((laws_heldStringS.f k1 ((rd_T72 l0 x5_1).f2) t779).bind fun t781 => (if t781 < 0 then (some (-1)) else ((laws_heldIntS.f k1 ((rd_T72 l0 x5_1).f3) t781).bind fun t783 => (if t783 < 0 then (some (-1)) else (laws_heldNodeS.l0 k1 l0 t783 (wrap64 (x5_1 + 1)))))))) = some r := H
      have A6 := Aside0.mk A60
      clear A60
      by_cases c7 : t779 < 0
      ·rw [if_pos c7] at H
       have c7b0 : decide (t779 < 0) = true := decide_eq_true c7
       clear c7
       obtain rfl := Option.some.inj H
       have p777 : 0 ≤ (x5_1 : Int) := of_decide_eq_true (by first | (with_reducible assumption) | assumption)
       have q777 : x5_1 < (l0.length : Int) := of_decide_eq_true (by first | (with_reducible assumption) | assumption)
       obtain ⟨ad777, A777_1, c777_1, A777_2, c777_2, A777_3, c777_3, e777, hx777_0, hx777_1, hx777_2, hx777_3, hl777_1, hi777_1, hl777_2, hi777_2, hl777_3, hi777_3⟩ := at_T72 HR0.out x5_1 p777 q777
       cases e777
       replace hx777_0 := (HB.out.cell (World.block_lt_of_cell? w _ hx777_0)).trans hx777_0
       replace hx777_1 := (HB.out.cell (World.block_lt_of_cell? w _ hx777_1)).trans hx777_1
       replace hx777_2 := (HB.out.cell (World.block_lt_of_cell? w _ hx777_2)).trans hx777_2
       replace hx777_3 := (HB.out.cell (World.block_lt_of_cell? w _ hx777_3)).trans hx777_3
       have HR777_1 := Aside0.mk hi777_1
       have HC777_1 := Aside0.mk hl777_1
       clear hi777_1 hl777_1
       have HR777_2 := Aside0.mk hi777_2
       have HC777_2 := Aside0.mk hl777_2
       clear hi777_2 hl777_2
       have HR777_3 := Aside0.mk hi777_3
       have HC777_3 := Aside0.mk hl777_3
       clear hi777_3 hl777_3
       replace p777 := eq_true p777
       replace q777 := eq_true q777
       have p778 : 0 ≤ (x5_1 : Int) := of_decide_eq_true (by first | (with_reducible assumption) | assumption)
       have q778 : x5_1 < (l0.length : Int) := of_decide_eq_true (by first | (with_reducible assumption) | assumption)
       obtain ⟨ad778, A778_1, c778_1, A778_2, c778_2, A778_3, c778_3, e778, hx778_0, hx778_1, hx778_2, hx778_3, hl778_1, hi778_1, hl778_2, hi778_2, hl778_3, hi778_3⟩ := at_T72 HR0.out x5_1 p778 q778
       obtain rfl : ad777 = ad778 := (by injection e778)
       replace hx778_0 := (HB.out.cell (World.block_lt_of_cell? w _ hx778_0)).trans hx778_0
       replace hx778_1 := (HB.out.cell (World.block_lt_of_cell? w _ hx778_1)).trans hx778_1
       replace hx778_2 := (HB.out.cell (World.block_lt_of_cell? w _ hx778_2)).trans hx778_2
       replace hx778_3 := (HB.out.cell (World.block_lt_of_cell? w _ hx778_3)).trans hx778_3
       have HR778_1 := Aside0.mk hi778_1
       have HC778_1 := Aside0.mk hl778_1
       clear hi778_1 hl778_1
       have HR778_2 := Aside0.mk hi778_2
       have HC778_2 := Aside0.mk hl778_2
       clear hi778_2 hl778_2
       have HR778_3 := Aside0.mk hi778_3
       have HC778_3 := Aside0.mk hl778_3
       clear hi778_3 hl778_3
       replace p778 := eq_true p778
       replace q778 := eq_true q778
       have ea_ := Option.some.inj (hx777_1.symm.trans hx778_1)
       injection ea_ with ea_ en_ ec_
       subst ea_
       subst ec_
       clear en_
       have ea_ := Option.some.inj (hx777_2.symm.trans hx778_2)
       injection ea_ with ea_ en_ ec_
       subst ea_
       subst ec_
       clear en_
       have ea_ := Option.some.inj (hx777_3.symm.trans hx778_3)
       injection ea_ with ea_ en_ ec_
       subst ea_
       subst ec_
       clear en_
       go_wp2_with (first | ((with_reducible refine gate_callee (f := 128) rfl ?_); refine goesL_ (some 29) rfl rfl Try.func128 (by kernel_rfl) rfl #[.slice A777_1 ((rd_T72 l0 x5_1).f1).length c777_1, .int .i64 (wrap64 (x1_1 + 1))] rfl (by (try simp only [List.map_toArray, List.map_cons, List.map_nil]); first | done | rfl | (simp only [List.length_drop, List.length_take]; rfl)) ?_; (with_reducible refine (laws_heldPairS.calls k1 _ _ ((rd_T72 l0 x5_1).f1) (wrap64 (x1_1 + 1)) t779 _ ?side1 ?side2 A6.out).mono ?_); (case side1 => repeat (first | exact (Kd.C_below HR778_1.out HB.out) | (with_reducible refine Kd.C_alloc ?_ _) | (with_reducible refine Kd.C_drewN ?_ _) | (with_reducible refine Kd.C_drew ?_))); (case side2 => exact HC778_1.out); rintro e w8 ⟨rfl, hb⟩; refine ⟨_, rfl, ?_⟩; have n0_ := Aside0.mk (below_step (by repeat (first | (with_reducible first | exact HB.out | apply below_alloc | apply pw_below_drewN | apply below_drew1) | exact HB.out)) hb); clear HB; have HB := n0_; clear n0_; (try clear hb); (try clear hb2); (try clear hk); (try clear hi)))
       go_ret
       exact ⟨by first | rfl | (simp [errW_none, errW_some] <;> rfl) | (simp [*, errW_none, errW_some] <;> rfl), by repeat (first | (with_reducible first | exact HB.out | apply below_alloc | apply pw_below_drewN | apply below_drew1) | exact HB.out)⟩
      ·rw [if_neg c7] at H
       have c7b0 : decide (t779 < 0) = false := decide_eq_false c7
       clear c7
       replace H := Option.bind_eq_some_iff.mp H
       obtain ⟨t781, A90, H⟩ := H
       replace H : (if t781 < 0 then (some (-1)) else ((laws_heldIntS.f k1 ((rd_T72 l0 x5_1).f3) t781).bind fun t783 => (if t783 < 0 then (some (-1)) else (laws_heldNodeS.l0 k1 l0 t783 (wrap64 (x5_1 + 1)))))) = some r := H
       have A9 := Aside0.mk A90
       clear A90
       by_cases c10 : t781 < 0
       ·rw [if_pos c10] at H
        have c10b0 : decide (t781 < 0) = true := decide_eq_true c10
        clear c10
        obtain rfl := Option.some.inj H
        have p777 : 0 ≤ (x5_1 : Int) := of_decide_eq_true (by first | (with_reducible assumption) | assumption)
        have q777 : x5_1 < (l0.length : Int) := of_decide_eq_true (by first | (with_reducible assumption) | assumption)
        obtain ⟨ad777, A777_1, c777_1, A777_2, c777_2, A777_3, c777_3, e777, hx777_0, hx777_1, hx777_2, hx777_3, hl777_1, hi777_1, hl777_2, hi777_2, hl777_3, hi777_3⟩ := at_T72 HR0.out x5_1 p777 q777
        cases e777
        replace hx777_0 := (HB.out.cell (World.block_lt_of_cell? w _ hx777_0)).trans hx777_0
        replace hx777_1 := (HB.out.cell (World.block_lt_of_cell? w _ hx777_1)).trans hx777_1
        replace hx777_2 := (HB.out.cell (World.block_lt_of_cell? w _ hx777_2)).trans hx777_2
        replace hx777_3 := (HB.out.cell (World.block_lt_of_cell? w _ hx777_3)).trans hx777_3
        have HR777_1 := Aside0.mk hi777_1
        have HC777_1 := Aside0.mk hl777_1
        clear hi777_1 hl777_1
        have HR777_2 := Aside0.mk hi777_2
        have HC777_2 := Aside0.mk hl777_2
        clear hi777_2 hl777_2
        have HR777_3 := Aside0.mk hi777_3
        have HC777_3 := Aside0.mk hl777_3
        clear hi777_3 hl777_3
        replace p777 := eq_true p777
        replace q777 := eq_true q777
        have p778 : 0 ≤ (x5_1 : Int) := of_decide_eq_true (by first | (with_reducible assumption) | assumption)
        have q778 : x5_1 < (l0.length : Int) := of_decide_eq_true (by first | (with_reducible assumption) | assumption)
        obtain ⟨ad778, A778_1, c778_1, A778_2, c778_2, A778_3, c778_3, e778, hx778_0, hx778_1, hx778_2, hx778_3, hl778_1, hi778_1, hl778_2, hi778_2, hl778_3, hi778_3⟩ := at_T72 HR0.out x5_1 p778 q778
        obtain rfl : ad777 = ad778 := (by injection e778)
        replace hx778_0 := (HB.out.cell (World.block_lt_of_cell? w _ hx778_0)).trans hx778_0
        replace hx778_1 := (HB.out.cell (World.block_lt_of_cell? w _ hx778_1)).trans hx778_1
        replace hx778_2 := (HB.out.cell (World.block_lt_of_cell? w _ hx778_2)).trans hx778_2
        replace hx778_3 := (HB.out.cell (World.block_lt_of_cell? w _ hx778_3)).trans hx778_3
        have HR778_1 := Aside0.mk hi778_1
        have HC778_1 := Aside0.mk hl778_1
        clear hi778_1 hl778_1
        have HR778_2 := Aside0.mk hi778_2
        have HC778_2 := Aside0.mk hl778_2
        clear hi778_2 hl778_2
        have HR778_3 := Aside0.mk hi778_3
        have HC778_3 := Aside0.mk hl778_3
        clear hi778_3 hl778_3
        replace p778 := eq_true p778
        replace q778 := eq_true q778
        have ea_ := Option.some.inj (hx777_1.symm.trans hx778_1)
        injection ea_ with ea_ en_ ec_
        subst ea_
        subst ec_
        clear en_
        have ea_ := Option.some.inj (hx777_2.symm.trans hx778_2)
        injection ea_ with ea_ en_ ec_
        subst ea_
        subst ec_
        clear en_
        have ea_ := Option.some.inj (hx777_3.symm.trans hx778_3)
        injection ea_ with ea_ en_ ec_
        subst ea_
        subst ec_
        clear en_
        go_wp2_with (first | ((with_reducible refine gate_callee (f := 128) rfl ?_); refine goesL_ (some 29) rfl rfl Try.func128 (by kernel_rfl) rfl #[.slice A777_1 ((rd_T72 l0 x5_1).f1).length c777_1, .int .i64 (wrap64 (x1_1 + 1))] rfl (by (try simp only [List.map_toArray, List.map_cons, List.map_nil]); first | done | rfl | (simp only [List.length_drop, List.length_take]; rfl)) ?_; (with_reducible refine (laws_heldPairS.calls k1 _ _ ((rd_T72 l0 x5_1).f1) (wrap64 (x1_1 + 1)) t779 _ ?side1 ?side2 A6.out).mono ?_); (case side1 => repeat (first | exact (Kd.C_below HR778_1.out HB.out) | (with_reducible refine Kd.C_alloc ?_ _) | (with_reducible refine Kd.C_drewN ?_ _) | (with_reducible refine Kd.C_drew ?_))); (case side2 => exact HC778_1.out); rintro e w11 ⟨rfl, hb⟩; refine ⟨_, rfl, ?_⟩; have n0_ := Aside0.mk (below_step (by repeat (first | (with_reducible first | exact HB.out | apply below_alloc | apply pw_below_drewN | apply below_drew1) | exact HB.out)) hb); clear HB; have HB := n0_; clear n0_; (try clear hb); (try clear hb2); (try clear hk); (try clear hi); have p780 : 0 ≤ (x5_1 : Int) := of_decide_eq_true (by first | (with_reducible assumption) | assumption); have q780 : x5_1 < (l0.length : Int) := of_decide_eq_true (by first | (with_reducible assumption) | assumption); obtain ⟨ad780, A780_1, c780_1, A780_2, c780_2, A780_3, c780_3, e780, hx780_0, hx780_1, hx780_2, hx780_3, hl780_1, hi780_1, hl780_2, hi780_2, hl780_3, hi780_3⟩ := at_T72 HR0.out x5_1 p780 q780; obtain rfl : ad777 = ad780 := (by injection e780); replace hx780_0 := (HB.out.cell (World.block_lt_of_cell? w _ hx780_0)).trans hx780_0; replace hx780_1 := (HB.out.cell (World.block_lt_of_cell? w _ hx780_1)).trans hx780_1; replace hx780_2 := (HB.out.cell (World.block_lt_of_cell? w _ hx780_2)).trans hx780_2; replace hx780_3 := (HB.out.cell (World.block_lt_of_cell? w _ hx780_3)).trans hx780_3; have HR780_1 := Aside0.mk hi780_1; have HC780_1 := Aside0.mk hl780_1; clear hi780_1 hl780_1; have HR780_2 := Aside0.mk hi780_2; have HC780_2 := Aside0.mk hl780_2; clear hi780_2 hl780_2; have HR780_3 := Aside0.mk hi780_3; have HC780_3 := Aside0.mk hl780_3; clear hi780_3 hl780_3; replace p780 := eq_true p780; replace q780 := eq_true q780) | ((with_reducible refine gate_callee (f := 66) rfl ?_); refine goesL_ (some 38) rfl rfl Try.func66 (by kernel_rfl) rfl #[.slice A780_2 ((rd_T72 l0 x5_1).f2).length c780_2, .int .i64 t779] rfl (by (try simp only [List.map_toArray, List.map_cons, List.map_nil]); first | done | rfl | (simp only [List.length_drop, List.length_take]; rfl)) ?_; (with_reducible refine (laws_heldStringS.calls k1 _ _ ((rd_T72 l0 x5_1).f2) t779 t781 _ ?side1 ?side2 A9.out).mono ?_); (case side1 => repeat (first | exact (Kd.C_below HR780_2.out HB.out) | (with_reducible refine Kd.C_alloc ?_ _) | (with_reducible refine Kd.C_drewN ?_ _) | (with_reducible refine Kd.C_drew ?_))); (case side2 => exact HC780_2.out); rintro e w12 ⟨rfl, hb⟩; refine ⟨_, rfl, ?_⟩; have n0_ := Aside0.mk (below_step (by repeat (first | (with_reducible first | exact HB.out | apply below_alloc | apply pw_below_drewN | apply below_drew1) | exact HB.out)) hb); clear HB; have HB := n0_; clear n0_; (try clear hb); (try clear hb2); (try clear hk); (try clear hi)))
        go_ret
        exact ⟨by first | rfl | (simp [errW_none, errW_some] <;> rfl) | (simp [*, errW_none, errW_some] <;> rfl), by repeat (first | (with_reducible first | exact HB.out | apply below_alloc | apply pw_below_drewN | apply below_drew1) | exact HB.out)⟩
       ·rw [if_neg c10] at H
        have c10b0 : decide (t781 < 0) = false := decide_eq_false c10
        clear c10
        replace H := Option.bind_eq_some_iff.mp H
        obtain ⟨t783, A130, H⟩ := H
        replace H : (if t783 < 0 then (some (-1)) else (laws_heldNodeS.l0 k1 l0 t783 (wrap64 (x5_1 + 1)))) = some r := H
        have A13 := Aside0.mk A130
        clear A130
        by_cases c14 : t783 < 0
        ·rw [if_pos c14] at H
         have c14b0 : decide (t783 < 0) = true := decide_eq_true c14
         clear c14
         obtain rfl := Option.some.inj H
         have p777 : 0 ≤ (x5_1 : Int) := of_decide_eq_true (by first | (with_reducible assumption) | assumption)
         have q777 : x5_1 < (l0.length : Int) := of_decide_eq_true (by first | (with_reducible assumption) | assumption)
         obtain ⟨ad777, A777_1, c777_1, A777_2, c777_2, A777_3, c777_3, e777, hx777_0, hx777_1, hx777_2, hx777_3, hl777_1, hi777_1, hl777_2, hi777_2, hl777_3, hi777_3⟩ := at_T72 HR0.out x5_1 p777 q777
         cases e777
         replace hx777_0 := (HB.out.cell (World.block_lt_of_cell? w _ hx777_0)).trans hx777_0
         replace hx777_1 := (HB.out.cell (World.block_lt_of_cell? w _ hx777_1)).trans hx777_1
         replace hx777_2 := (HB.out.cell (World.block_lt_of_cell? w _ hx777_2)).trans hx777_2
         replace hx777_3 := (HB.out.cell (World.block_lt_of_cell? w _ hx777_3)).trans hx777_3
         have HR777_1 := Aside0.mk hi777_1
         have HC777_1 := Aside0.mk hl777_1
         clear hi777_1 hl777_1
         have HR777_2 := Aside0.mk hi777_2
         have HC777_2 := Aside0.mk hl777_2
         clear hi777_2 hl777_2
         have HR777_3 := Aside0.mk hi777_3
         have HC777_3 := Aside0.mk hl777_3
         clear hi777_3 hl777_3
         replace p777 := eq_true p777
         replace q777 := eq_true q777
         have p778 : 0 ≤ (x5_1 : Int) := of_decide_eq_true (by first | (with_reducible assumption) | assumption)
         have q778 : x5_1 < (l0.length : Int) := of_decide_eq_true (by first | (with_reducible assumption) | assumption)
         obtain ⟨ad778, A778_1, c778_1, A778_2, c778_2, A778_3, c778_3, e778, hx778_0, hx778_1, hx778_2, hx778_3, hl778_1, hi778_1, hl778_2, hi778_2, hl778_3, hi778_3⟩ := at_T72 HR0.out x5_1 p778 q778
         obtain rfl : ad777 = ad778 := (by injection e778)
         replace hx778_0 := (HB.out.cell (World.block_lt_of_cell? w _ hx778_0)).trans hx778_0
         replace hx778_1 := (HB.out.cell (World.block_lt_of_cell? w _ hx778_1)).trans hx778_1
         replace hx778_2 := (HB.out.cell (World.block_lt_of_cell? w _ hx778_2)).trans hx778_2
         replace hx778_3 := (HB.out.cell (World.block_lt_of_cell? w _ hx778_3)).trans hx778_3
         have HR778_1 := Aside0.mk hi778_1
         have HC778_1 := Aside0.mk hl778_1
         clear hi778_1 hl778_1
         have HR778_2 := Aside0.mk hi778_2
         have HC778_2 := Aside0.mk hl778_2
         clear hi778_2 hl778_2
         have HR778_3 := Aside0.mk hi778_3
         have HC778_3 := Aside0.mk hl778_3
         clear hi778_3 hl778_3
         replace p778 := eq_true p778
         replace q778 := eq_true q778
         have ea_ := Option.some.inj (hx777_1.symm.trans hx778_1)
         injection ea_ with ea_ en_ ec_
         subst ea_
         subst ec_
         clear en_
         have ea_ := Option.some.inj (hx777_2.symm.trans hx778_2)
         injection ea_ with ea_ en_ ec_
         subst ea_
         subst ec_
         clear en_
         have ea_ := Option.some.inj (hx777_3.symm.trans hx778_3)
         injection ea_ with ea_ en_ ec_
         subst ea_
         subst ec_
         clear en_
         go_wp2_with (first | ((with_reducible refine gate_callee (f := 128) rfl ?_); refine goesL_ (some 29) rfl rfl Try.func128 (by kernel_rfl) rfl #[.slice A777_1 ((rd_T72 l0 x5_1).f1).length c777_1, .int .i64 (wrap64 (x1_1 + 1))] rfl (by (try simp only [List.map_toArray, List.map_cons, List.map_nil]); first | done | rfl | (simp only [List.length_drop, List.length_take]; rfl)) ?_; (with_reducible refine (laws_heldPairS.calls k1 _ _ ((rd_T72 l0 x5_1).f1) (wrap64 (x1_1 + 1)) t779 _ ?side1 ?side2 A6.out).mono ?_); (case side1 => repeat (first | exact (Kd.C_below HR778_1.out HB.out) | (with_reducible refine Kd.C_alloc ?_ _) | (with_reducible refine Kd.C_drewN ?_ _) | (with_reducible refine Kd.C_drew ?_))); (case side2 => exact HC778_1.out); rintro e w15 ⟨rfl, hb⟩; refine ⟨_, rfl, ?_⟩; have n0_ := Aside0.mk (below_step (by repeat (first | (with_reducible first | exact HB.out | apply below_alloc | apply pw_below_drewN | apply below_drew1) | exact HB.out)) hb); clear HB; have HB := n0_; clear n0_; (try clear hb); (try clear hb2); (try clear hk); (try clear hi); have p780 : 0 ≤ (x5_1 : Int) := of_decide_eq_true (by first | (with_reducible assumption) | assumption); have q780 : x5_1 < (l0.length : Int) := of_decide_eq_true (by first | (with_reducible assumption) | assumption); obtain ⟨ad780, A780_1, c780_1, A780_2, c780_2, A780_3, c780_3, e780, hx780_0, hx780_1, hx780_2, hx780_3, hl780_1, hi780_1, hl780_2, hi780_2, hl780_3, hi780_3⟩ := at_T72 HR0.out x5_1 p780 q780; obtain rfl : ad777 = ad780 := (by injection e780); replace hx780_0 := (HB.out.cell (World.block_lt_of_cell? w _ hx780_0)).trans hx780_0; replace hx780_1 := (HB.out.cell (World.block_lt_of_cell? w _ hx780_1)).trans hx780_1; replace hx780_2 := (HB.out.cell (World.block_lt_of_cell? w _ hx780_2)).trans hx780_2; replace hx780_3 := (HB.out.cell (World.block_lt_of_cell? w _ hx780_3)).trans hx780_3; have HR780_1 := Aside0.mk hi780_1; have HC780_1 := Aside0.mk hl780_1; clear hi780_1 hl780_1; have HR780_2 := Aside0.mk hi780_2; have HC780_2 := Aside0.mk hl780_2; clear hi780_2 hl780_2; have HR780_3 := Aside0.mk hi780_3; have HC780_3 := Aside0.mk hl780_3; clear hi780_3 hl780_3; replace p780 := eq_true p780; replace q780 := eq_true q780) | ((with_reducible refine gate_callee (f := 66) rfl ?_); refine goesL_ (some 38) rfl rfl Try.func66 (by kernel_rfl) rfl #[.slice A780_2 ((rd_T72 l0 x5_1).f2).length c780_2, .int .i64 t779] rfl (by (try simp only [List.map_toArray, List.map_cons, List.map_nil]); first | done | rfl | (simp only [List.length_drop, List.length_take]; rfl)) ?_; (with_reducible refine (laws_heldStringS.calls k1 _ _ ((rd_T72 l0 x5_1).f2) t779 t781 _ ?side1 ?side2 A9.out).mono ?_); (case side1 => repeat (first | exact (Kd.C_below HR780_2.out HB.out) | (with_reducible refine Kd.C_alloc ?_ _) | (with_reducible refine Kd.C_drewN ?_ _) | (with_reducible refine Kd.C_drew ?_))); (case side2 => exact HC780_2.out); rintro e w16 ⟨rfl, hb⟩; refine ⟨_, rfl, ?_⟩; have n0_ := Aside0.mk (below_step (by repeat (first | (with_reducible first | exact HB.out | apply below_alloc | apply pw_below_drewN | apply below_drew1) | exact HB.out)) hb); clear HB; have HB := n0_; clear n0_; (try clear hb); (try clear hb2); (try clear hk); (try clear hi); have p782 : 0 ≤ (x5_1 : Int) := of_decide_eq_true (by first | (with_reducible assumption) | assumption); have q782 : x5_1 < (l0.length : Int) := of_decide_eq_true (by first | (with_reducible assumption) | assumption); obtain ⟨ad782, A782_1, c782_1, A782_2, c782_2, A782_3, c782_3, e782, hx782_0, hx782_1, hx782_2, hx782_3, hl782_1, hi782_1, hl782_2, hi782_2, hl782_3, hi782_3⟩ := at_T72 HR0.out x5_1 p782 q782; obtain rfl : ad777 = ad782 := (by injection e782); replace hx782_0 := (HB.out.cell (World.block_lt_of_cell? w _ hx782_0)).trans hx782_0; replace hx782_1 := (HB.out.cell (World.block_lt_of_cell? w _ hx782_1)).trans hx782_1; replace hx782_2 := (HB.out.cell (World.block_lt_of_cell? w _ hx782_2)).trans hx782_2; replace hx782_3 := (HB.out.cell (World.block_lt_of_cell? w _ hx782_3)).trans hx782_3; have HR782_1 := Aside0.mk hi782_1; have HC782_1 := Aside0.mk hl782_1; clear hi782_1 hl782_1; have HR782_2 := Aside0.mk hi782_2; have HC782_2 := Aside0.mk hl782_2; clear hi782_2 hl782_2; have HR782_3 := Aside0.mk hi782_3; have HC782_3 := Aside0.mk hl782_3; clear hi782_3 hl782_3; replace p782 := eq_true p782; replace q782 := eq_true q782) | ((with_reducible refine gate_callee (f := 39) rfl ?_); refine goesL_ (some 47) rfl rfl Try.func39 (by kernel_rfl) rfl #[.slice A782_3 ((rd_T72 l0 x5_1).f3).length c782_3, .int .i64 t781] rfl (by (try simp only [List.map_toArray, List.map_cons, List.map_nil]); first | done | rfl | (simp only [List.length_drop, List.length_take]; rfl)) ?_; (with_reducible refine (laws_heldIntS.calls k1 _ _ ((rd_T72 l0 x5_1).f3) t781 t783 _ ?side1 ?side2 A13.out).mono ?_); (case side1 => repeat (first | exact (Kd.C_below HR782_3.out HB.out) | (with_reducible refine Kd.C_alloc ?_ _) | (with_reducible refine Kd.C_drewN ?_ _) | (with_reducible refine Kd.C_drew ?_))); (case side2 => exact HC782_3.out); rintro e w' ⟨rfl, ⟨nd, rfl⟩⟩; refine ⟨_, rfl, ?_⟩))
         go_ret
         exact ⟨by first | rfl | (simp [errW_none, errW_some] <;> rfl) | (simp [*, errW_none, errW_some] <;> rfl), by repeat (first | (with_reducible first | exact HB.out | apply below_alloc | apply pw_below_drewN | apply below_drew1) | exact HB.out)⟩
        ·rw [if_neg c14] at H
         have c14b0 : decide (t783 < 0) = false := decide_eq_false c14
         clear c14
         have H' := Aside0.mk H
         clear H
         have p777 : 0 ≤ (x5_1 : Int) := of_decide_eq_true (by first | (with_reducible assumption) | assumption)
         have q777 : x5_1 < (l0.length : Int) := of_decide_eq_true (by first | (with_reducible assumption) | assumption)
         obtain ⟨ad777, A777_1, c777_1, A777_2, c777_2, A777_3, c777_3, e777, hx777_0, hx777_1, hx777_2, hx777_3, hl777_1, hi777_1, hl777_2, hi777_2, hl777_3, hi777_3⟩ := at_T72 HR0.out x5_1 p777 q777
         cases e777
         replace hx777_0 := (HB.out.cell (World.block_lt_of_cell? w _ hx777_0)).trans hx777_0
         replace hx777_1 := (HB.out.cell (World.block_lt_of_cell? w _ hx777_1)).trans hx777_1
         replace hx777_2 := (HB.out.cell (World.block_lt_of_cell? w _ hx777_2)).trans hx777_2
         replace hx777_3 := (HB.out.cell (World.block_lt_of_cell? w _ hx777_3)).trans hx777_3
         have HR777_1 := Aside0.mk hi777_1
         have HC777_1 := Aside0.mk hl777_1
         clear hi777_1 hl777_1
         have HR777_2 := Aside0.mk hi777_2
         have HC777_2 := Aside0.mk hl777_2
         clear hi777_2 hl777_2
         have HR777_3 := Aside0.mk hi777_3
         have HC777_3 := Aside0.mk hl777_3
         clear hi777_3 hl777_3
         replace p777 := eq_true p777
         replace q777 := eq_true q777
         have p778 : 0 ≤ (x5_1 : Int) := of_decide_eq_true (by first | (with_reducible assumption) | assumption)
         have q778 : x5_1 < (l0.length : Int) := of_decide_eq_true (by first | (with_reducible assumption) | assumption)
         obtain ⟨ad778, A778_1, c778_1, A778_2, c778_2, A778_3, c778_3, e778, hx778_0, hx778_1, hx778_2, hx778_3, hl778_1, hi778_1, hl778_2, hi778_2, hl778_3, hi778_3⟩ := at_T72 HR0.out x5_1 p778 q778
         obtain rfl : ad777 = ad778 := (by injection e778)
         replace hx778_0 := (HB.out.cell (World.block_lt_of_cell? w _ hx778_0)).trans hx778_0
         replace hx778_1 := (HB.out.cell (World.block_lt_of_cell? w _ hx778_1)).trans hx778_1
         replace hx778_2 := (HB.out.cell (World.block_lt_of_cell? w _ hx778_2)).trans hx778_2
         replace hx778_3 := (HB.out.cell (World.block_lt_of_cell? w _ hx778_3)).trans hx778_3
         have HR778_1 := Aside0.mk hi778_1
         have HC778_1 := Aside0.mk hl778_1
         clear hi778_1 hl778_1
         have HR778_2 := Aside0.mk hi778_2
         have HC778_2 := Aside0.mk hl778_2
         clear hi778_2 hl778_2
         have HR778_3 := Aside0.mk hi778_3
         have HC778_3 := Aside0.mk hl778_3
         clear hi778_3 hl778_3
         replace p778 := eq_true p778
         replace q778 := eq_true q778
         have ea_ := Option.some.inj (hx777_1.symm.trans hx778_1)
         injection ea_ with ea_ en_ ec_
         subst ea_
         subst ec_
         clear en_
         have ea_ := Option.some.inj (hx777_2.symm.trans hx778_2)
         injection ea_ with ea_ en_ ec_
         subst ea_
         subst ec_
         clear en_
         have ea_ := Option.some.inj (hx777_3.symm.trans hx778_3)
         injection ea_ with ea_ en_ ec_
         subst ea_
         subst ec_
         clear en_
         go_wp2_with (first | ((with_reducible refine gate_callee (f := 128) rfl ?_); refine goesL_ (some 29) rfl rfl Try.func128 (by kernel_rfl) rfl #[.slice A777_1 ((rd_T72 l0 x5_1).f1).length c777_1, .int .i64 (wrap64 (x1_1 + 1))] rfl (by (try simp only [List.map_toArray, List.map_cons, List.map_nil]); first | done | rfl | (simp only [List.length_drop, List.length_take]; rfl)) ?_; (with_reducible refine (laws_heldPairS.calls k1 _ _ ((rd_T72 l0 x5_1).f1) (wrap64 (x1_1 + 1)) t779 _ ?side1 ?side2 A6.out).mono ?_); (case side1 => repeat (first | exact (Kd.C_below HR778_1.out HB.out) | (with_reducible refine Kd.C_alloc ?_ _) | (with_reducible refine Kd.C_drewN ?_ _) | (with_reducible refine Kd.C_drew ?_))); (case side2 => exact HC778_1.out); rintro e w17 ⟨rfl, hb⟩; refine ⟨_, rfl, ?_⟩; have n0_ := Aside0.mk (below_step (by repeat (first | (with_reducible first | exact HB.out | apply below_alloc | apply pw_below_drewN | apply below_drew1) | exact HB.out)) hb); clear HB; have HB := n0_; clear n0_; (try clear hb); (try clear hb2); (try clear hk); (try clear hi); have p780 : 0 ≤ (x5_1 : Int) := of_decide_eq_true (by first | (with_reducible assumption) | assumption); have q780 : x5_1 < (l0.length : Int) := of_decide_eq_true (by first | (with_reducible assumption) | assumption); obtain ⟨ad780, A780_1, c780_1, A780_2, c780_2, A780_3, c780_3, e780, hx780_0, hx780_1, hx780_2, hx780_3, hl780_1, hi780_1, hl780_2, hi780_2, hl780_3, hi780_3⟩ := at_T72 HR0.out x5_1 p780 q780; obtain rfl : ad777 = ad780 := (by injection e780); replace hx780_0 := (HB.out.cell (World.block_lt_of_cell? w _ hx780_0)).trans hx780_0; replace hx780_1 := (HB.out.cell (World.block_lt_of_cell? w _ hx780_1)).trans hx780_1; replace hx780_2 := (HB.out.cell (World.block_lt_of_cell? w _ hx780_2)).trans hx780_2; replace hx780_3 := (HB.out.cell (World.block_lt_of_cell? w _ hx780_3)).trans hx780_3; have HR780_1 := Aside0.mk hi780_1; have HC780_1 := Aside0.mk hl780_1; clear hi780_1 hl780_1; have HR780_2 := Aside0.mk hi780_2; have HC780_2 := Aside0.mk hl780_2; clear hi780_2 hl780_2; have HR780_3 := Aside0.mk hi780_3; have HC780_3 := Aside0.mk hl780_3; clear hi780_3 hl780_3; replace p780 := eq_true p780; replace q780 := eq_true q780) | ((with_reducible refine gate_callee (f := 66) rfl ?_); refine goesL_ (some 38) rfl rfl Try.func66 (by kernel_rfl) rfl #[.slice A780_2 ((rd_T72 l0 x5_1).f2).length c780_2, .int .i64 t779] rfl (by (try simp only [List.map_toArray, List.map_cons, List.map_nil]); first | done | rfl | (simp only [List.length_drop, List.length_take]; rfl)) ?_; (with_reducible refine (laws_heldStringS.calls k1 _ _ ((rd_T72 l0 x5_1).f2) t779 t781 _ ?side1 ?side2 A9.out).mono ?_); (case side1 => repeat (first | exact (Kd.C_below HR780_2.out HB.out) | (with_reducible refine Kd.C_alloc ?_ _) | (with_reducible refine Kd.C_drewN ?_ _) | (with_reducible refine Kd.C_drew ?_))); (case side2 => exact HC780_2.out); rintro e w18 ⟨rfl, hb⟩; refine ⟨_, rfl, ?_⟩; have n0_ := Aside0.mk (below_step (by repeat (first | (with_reducible first | exact HB.out | apply below_alloc | apply pw_below_drewN | apply below_drew1) | exact HB.out)) hb); clear HB; have HB := n0_; clear n0_; (try clear hb); (try clear hb2); (try clear hk); (try clear hi); have p782 : 0 ≤ (x5_1 : Int) := of_decide_eq_true (by first | (with_reducible assumption) | assumption); have q782 : x5_1 < (l0.length : Int) := of_decide_eq_true (by first | (with_reducible assumption) | assumption); obtain ⟨ad782, A782_1, c782_1, A782_2, c782_2, A782_3, c782_3, e782, hx782_0, hx782_1, hx782_2, hx782_3, hl782_1, hi782_1, hl782_2, hi782_2, hl782_3, hi782_3⟩ := at_T72 HR0.out x5_1 p782 q782; obtain rfl : ad777 = ad782 := (by injection e782); replace hx782_0 := (HB.out.cell (World.block_lt_of_cell? w _ hx782_0)).trans hx782_0; replace hx782_1 := (HB.out.cell (World.block_lt_of_cell? w _ hx782_1)).trans hx782_1; replace hx782_2 := (HB.out.cell (World.block_lt_of_cell? w _ hx782_2)).trans hx782_2; replace hx782_3 := (HB.out.cell (World.block_lt_of_cell? w _ hx782_3)).trans hx782_3; have HR782_1 := Aside0.mk hi782_1; have HC782_1 := Aside0.mk hl782_1; clear hi782_1 hl782_1; have HR782_2 := Aside0.mk hi782_2; have HC782_2 := Aside0.mk hl782_2; clear hi782_2 hl782_2; have HR782_3 := Aside0.mk hi782_3; have HC782_3 := Aside0.mk hl782_3; clear hi782_3 hl782_3; replace p782 := eq_true p782; replace q782 := eq_true q782) | ((with_reducible refine gate_callee (f := 39) rfl ?_); refine goesL_ (some 47) rfl rfl Try.func39 (by kernel_rfl) rfl #[.slice A782_3 ((rd_T72 l0 x5_1).f3).length c782_3, .int .i64 t781] rfl (by (try simp only [List.map_toArray, List.map_cons, List.map_nil]); first | done | rfl | (simp only [List.length_drop, List.length_take]; rfl)) ?_; (with_reducible refine (laws_heldIntS.calls k1 _ _ ((rd_T72 l0 x5_1).f3) t781 t783 _ ?side1 ?side2 A13.out).mono ?_); (case side1 => repeat (first | exact (Kd.C_below HR782_3.out HB.out) | (with_reducible refine Kd.C_alloc ?_ _) | (with_reducible refine Kd.C_drewN ?_ _) | (with_reducible refine Kd.C_drew ?_))); (case side2 => exact HC782_3.out); rintro e w' ⟨rfl, ⟨nd, rfl⟩⟩; refine ⟨_, rfl, ?_⟩))
         go_roundg k1
         case measure => have := HK1.out; omega
         case rel => exact ⟨(t783), (wrap64 (x5_1 + 1)), (by first | rfl | (simp; done) | (simp [*]; done)), (by first | rfl | (simp; done) | (simp [*]; done)), H', ⟨by have := HK1.out; omega⟩, ⟨by repeat (first | (with_reducible first | exact HB.out | apply below_alloc | apply pw_below_drewN | apply below_drew1) | exact HB.out)⟩⟩
    ·rw [if_neg c4] at H
     exact absurd H (by simp)
   ·rw [if_neg c3] at H
    have c3b0 : decide (x5_1 < (l0.length : Int)) = false := decide_eq_false c3
    clear c3
    obtain rfl := Option.some.inj H
    go_wp2
    go_ret
    exact ⟨by first | rfl | (simp [errW_none, errW_some] <;> rfl) | (simp [*, errW_none, errW_some] <;> rfl), by repeat (first | (with_reducible first | exact HB.out | apply below_alloc | apply pw_below_drewN | apply below_drew1) | exact HB.out)⟩
end Go.Proofs.Ytcpcifgpcemaeaa.X
