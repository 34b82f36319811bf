import Derived.Test.YtgcncphdjabjjaaKFnExactApplyDiff3
import Derived.Test.YtgcncphdjabjjaaKFnExactApplyDiff4
import Derived.Test.YtgcncphdjabjjaaKFnExactApplyDiff11
namespace Go.Proofs.Ytgcncphdjabjjaa.X
open Go.RowKit Go.Proofs.YtgcncphdjabjjaaW.PrintWords Go.Proofs.YtgcncphdjabjjaaW.PrintLast Go.Proofs.YtgcncphdjabjjaaW.PrintMore
attribute [local go_sem] xbin_geq xbin_leq xbin_gtr max2_int min2_int max_two min_two max_three min_three max_four min_four
set_option linter.unusedVariables false
set_option linter.unusedSimpArgs false
def impl_risingPairs.l0 : Nat → List (S76) → List (S76) → Int → Int → Option (Bool)
 | 0, _, _, _, _ => none
 | k + 1, x0, x5, x6, x7 => if x7 < x6 then (if 0 ≤ x7 then (if x7 < (x5.length : Int) then ((impl_pairOK.f ((rd_T76 x5 x7).f0) ((rd_T76 x5 x7).f1)).bind fun t148 => (if t148 = true then (if x7 > 0 then (if 0 ≤ (wrap64 (x7 - 1)) then (if (wrap64 (x7 - 1)) < (x0.length : Int) then (if ((Op.bytesLess (((rd_T76 x0 (wrap64 (x7 - 1))).f0).toList) (((rd_T76 x5 x7).f0).toList)) = true) then (impl_risingPairs.l0 k x0 x5 x6 (wrap64 (x7 + 1))) else (some false)) else (none)) else (none)) else (impl_risingPairs.l0 k x0 x5 x6 (wrap64 (x7 + 1)))) else (some false))) else (none)) else (none)) else (some true)
def impl_risingPairs.f (k : Nat) (l0 : List (S76)) : Option (Bool) := impl_risingPairs.l0 k l0 l0 (l0.length : Int) 0
theorem impl_risingPairs.mono_l : ∀ k, (∀ y0 y1 y2 y3, LeO (impl_risingPairs.l0 k y0 y1 y2 y3) (impl_risingPairs.l0 (k + 1) y0 y1 y2 y3))
 | 0 => fun _ _ _ _ r h => by simp [impl_risingPairs.l0] at h
 | k + 1 => by
  have ih0 := impl_risingPairs.mono_l k
  ·intro y0 y1 y2 y3
   unfold impl_risingPairs.l0
   repeat' first
   | (with_reducible exact ih0 _ _ _ _)
   | (with_reducible exact LeO.refl _)
   | (with_reducible exact LeO.none _)
   | (with_reducible refine LeO.ite ?_ ?_)
   | (with_reducible refine LeO.bind ?_ (fun _ => ?_))
   | exact ih0 _ _ _ _
   | exact LeO.none _
   | refine LeO.ite ?_ ?_
   | refine LeO.bind ?_ (fun _ => ?_)
theorem impl_risingPairs.mono : ∀ a0 k, LeO (impl_risingPairs.f k a0) (impl_risingPairs.f (k + 1) a0) := by
 intro a0 k
 have ih0 := impl_risingPairs.mono_l k
 unfold impl_risingPairs.f
 repeat' first
   | (with_reducible exact ih0 _ _ _ _)
   | (with_reducible exact LeO.refl _)
   | (with_reducible exact LeO.none _)
   | (with_reducible refine LeO.ite ?_ ?_)
   | (with_reducible refine LeO.bind ?_ (fun _ => ?_))
   | exact ih0 _ _ _ _
   | exact LeO.none _
   | refine LeO.ite ?_ ?_
   | refine LeO.bind ?_ (fun _ => ?_)
set_option maxHeartbeats 8000000 in
set_option maxRecDepth 100000 in
theorem impl_risingPairs.calls (k : Nat) (A0 : Option Addr) (c0 : Nat) (l0 : List (S76)) (r : Bool) (w : World) (hr0 : Kd.C k76 w A0 l0.length l0) (hc0 : l0.length ≤ c0) (h : impl_risingPairs.f k l0 = some r) :
  Calls Try.prog 82 #[.slice A0 l0.length c0] w fun e w' => e = .returned (.bool r) ∧ Below w.heap.size w w' := by
 have hu76 := Try.underlying76
 have HR0 := Aside0.mk hr0
 have HC0 := Aside0.mk hc0
 clear hr0 hc0
 have HB := Aside0.mk (Below.refl w.heap.size w)
 have H : (impl_risingPairs.l0 k l0 l0 (l0.length : Int) 0) = some r := h
 clear h
 have H' := Aside0.mk H
 clear H
 go_enter Try.func82, Try.ntmps82
 go_wp2
 go_loopg [7] k (fun kq v7 w' => ∃ (x7_1 : Int), v7 = .int .i64 x7_1 ∧ Aside0 (impl_risingPairs.l0 kq l0 l0 (l0.length : Int) x7_1 = some r) ∧ Aside0 (kq ≤ k) ∧ Aside0 (Below w.heap.size w w'))
 case atStart => exact ⟨(0), (by first | rfl | (simp; done) | (simp [*]; done)), H', ⟨Nat.le_refl _⟩, ⟨by repeat (first | (with_reducible first | exact HB.out | apply below_alloc | apply pw_below_drewN | apply below_drew1) | exact HB.out)⟩⟩
 case round =>
  clear H'
  obtain ⟨x7_1, rfl, HA, HK1, HB⟩ := hrel
  cases gk with
  | zero => exact absurd HA.out (by simp [impl_risingPairs.l0])
  | succ k1 =>
   have H := HA.out
   clear HA
   simp only [impl_risingPairs.l0] at H
   by_cases c2 : x7_1 < (l0.length : Int)
   ·rw [if_pos c2] at H
    have c2b0 : decide (x7_1 < (l0.length : Int)) = true := decide_eq_true c2
    clear c2
    by_cases c3 : 0 ≤ x7_1
    ·rw [if_pos c3] at H
     have c3b0 : decide (0 ≤ x7_1) = true := decide_eq_true c3
     clear c3
     by_cases c4 : x7_1 < (l0.length : Int)
     ·rw [if_pos c4] at H
      have c4b0 : decide (x7_1 < (l0.length : Int)) = true := decide_eq_true c4
      clear c4
      replace H := Option.bind_eq_some_iff.mp H
      obtain ⟨t148, A50, H⟩ := H
      replace H : (if t148 = true then (if x7_1 > 0 then (if 0 ≤ (wrap64 (x7_1 - 1)) then (if (wrap64 (x7_1 - 1)) < (l0.length : Int) then (if ((Op.bytesLess (((rd_T76 l0 (wrap64 (x7_1 - 1))).f0).toList) (((rd_T76 l0 x7_1).f0).toList)) = true) then (impl_risingPairs.l0 k1 l0 l0 (l0.length : Int) (wrap64 (x7_1 + 1))) else (some false)) else (none)) else (none)) else (impl_risingPairs.l0 k1 l0 l0 (l0.length : Int) (wrap64 (x7_1 + 1)))) else (some false)) = some r := H
      have A5 := Aside0.mk A50
      clear A50
      by_cases c6 : t148 = true
      ·subst c6
       have H1 : (if x7_1 > 0 then (if 0 ≤ (wrap64 (x7_1 - 1)) then (if (wrap64 (x7_1 - 1)) < (l0.length : Int) then (if ((Op.bytesLess (((rd_T76 l0 (wrap64 (x7_1 - 1))).f0).toList) (((rd_T76 l0 x7_1).f0).toList)) = true) then (impl_risingPairs.l0 k1 l0 l0 (l0.length : Int) (wrap64 (x7_1 + 1))) else (some false)) else (none)) else (none)) else (impl_risingPairs.l0 k1 l0 l0 (l0.length : Int) (wrap64 (x7_1 + 1)))) = some r := by rw [if_pos rfl] at H; exact H
       clear H
       have H := H1
       clear H1
       by_cases c7 : x7_1 > 0
       ·rw [if_pos c7] at H
        have c7b0 : decide (0 < x7_1) = true := decide_eq_true c7
        clear c7
        obtain ⟨ji8, hji8⟩ : ∃ j_ : Int, (wrap64 (x7_1 - 1)) = j_ := ⟨_, rfl⟩
        replace H : (if 0 ≤ (ji8) then (if (ji8) < (l0.length : Int) then (if ((Op.bytesLess (((rd_T76 l0 (ji8)).f0).toList) (((rd_T76 l0 x7_1).f0).toList)) = true) then (impl_risingPairs.l0 k1 l0 l0 (l0.length : Int) (wrap64 (x7_1 + 1))) else (some false)) else (none)) else (none)) = some r := by first | (rw [hji8] at H; exact H) | (simp only [hji8] at H ⊢; exact H)
        (try rw [hji8] at A5)
        have hji8w : (IntKind.i64.wrap (x7_1 - 1)) = ji8 := (i64_w _).trans hji8
        by_cases c9 : 0 ≤ (ji8)
        ·rw [if_pos c9] at H
         have c9b0 : decide (0 ≤ (ji8)) = true := decide_eq_true c9
         clear c9
         by_cases c10 : (ji8) < (l0.length : Int)
         ·rw [if_pos c10] at H
          have c10b0 : decide ((ji8) < (l0.length : Int)) = true := decide_eq_true c10
          clear c10
          by_cases c11 : ((Op.bytesLess (((rd_T76 l0 (ji8)).f0).toList) (((rd_T76 l0 x7_1).f0).toList)) = true)
          ·rw [if_pos c11] at H
           have c11b0 : (Op.bytesLess (((rd_T76 l0 (ji8)).f0).toList) (((rd_T76 l0 x7_1).f0).toList)) = true := c11
           clear c11
           have H' := Aside0.mk H
           clear H
           have p146 : 0 ≤ (x7_1 : Int) := of_decide_eq_true (by first | (with_reducible assumption) | assumption)
           have q146 : x7_1 < (l0.length : Int) := of_decide_eq_true (by first | (with_reducible assumption) | assumption)
           obtain ⟨ad146, e146, hx146_0, hx146_1⟩ := at_T76 HR0.out x7_1 p146 q146
           cases e146
           replace hx146_0 := (HB.out.cell (World.block_lt_of_cell? w _ hx146_0)).trans hx146_0
           replace hx146_1 := (HB.out.cell (World.block_lt_of_cell? w _ hx146_1)).trans hx146_1
           replace p146 := eq_true p146
           replace q146 := eq_true q146
           try go_wp2_with (first | ((with_reducible refine gate_dst (N := 4) rfl ?_); refine box_event ?hg (N := 4) ?hd (cs := #[.string (⟨#[]⟩ : ByteArray), .string (⟨#[]⟩ : ByteArray)]) (t := 76) ?hr ?_; (case hd => rfl); (case hg => rfl); (case hr => first | (go_simp; done) | (go_simp; rfl)); intro gb147 hg w12 hbox hb; have n0_ := Aside0.mk (below_step (by repeat (first | (with_reducible first | exact HB.out | apply below_alloc | apply pw_below_drewN | apply below_drew1) | exact HB.out)) hb); have n1_ := Aside0.mk (hbox); have n2_ := Aside0.mk ((by rw [hg]; exact (below_size (by repeat (first | (with_reducible first | exact HB.out | apply below_alloc | apply pw_below_drewN | apply below_drew1) | exact HB.out))) : w.heap.size ≤ gb147)); have n3_ := Aside0.mk ((by rw [hg]; exact (below_size (by repeat (first | (with_reducible first | exact HB.out | apply below_alloc | apply pw_below_drewN | apply below_drew1) | exact HB.out))) : w.heap.size ≤ gb147)); clear HB; have HB := n0_; have BK147 := n1_; have GW147 := n2_; have GE147 := n3_; clear n0_ n1_ n2_ n3_; clear hb hbox hg; have hcz13_0 : w12.cell? ⟨gb147, 0, none⟩ = some (.string (⟨#[]⟩ : ByteArray)) := (blk_cell BK147.out 0).trans rfl; have hcz13_1 : w12.cell? ⟨gb147, 1, none⟩ = some (.string (⟨#[]⟩ : ByteArray)) := (blk_cell BK147.out 1).trans rfl; have hfz13_0 := blk_frozen BK147.out 0; have hfz13_1 := blk_frozen BK147.out 1))
           have n0_ : Aside0 (((w12.setCell ⟨gb147, 0, none⟩ (.string ((rd_T76 l0 x7_1).f0))).setCell ⟨gb147, 1, none⟩ (.string ((rd_T76 l0 x7_1).f1))).heap[gb147]? = some (.cells #[.string ((rd_T76 l0 x7_1).f0), .string ((rd_T76 l0 x7_1).f1)] 76 (0, 0))) := ⟨by (with_reducible repeat (first | refine blk_drewN ?_ _ | refine blk_drew ?_ | refine blk_alloc ?_ _)); refine blk_put (cs := #[.string ((rd_T76 l0 x7_1).f0), .string (⟨#[]⟩ : ByteArray)]) ?_ 1 _ rfl; (with_reducible repeat (first | refine blk_drewN ?_ _ | refine blk_drew ?_ | refine blk_alloc ?_ _)); refine blk_put (cs := #[.string (⟨#[]⟩ : ByteArray), .string (⟨#[]⟩ : ByteArray)]) ?_ 0 _ rfl; (with_reducible repeat (first | refine blk_drewN ?_ _ | refine blk_drew ?_ | refine blk_alloc ?_ _)); exact BK147.out⟩
           have n1_ : Aside0 (Below w.heap.size w ((w12.setCell ⟨gb147, 0, none⟩ (.string ((rd_T76 l0 x7_1).f0))).setCell ⟨gb147, 1, none⟩ (.string ((rd_T76 l0 x7_1).f1)))) := ⟨by repeat (first | (with_reducible first | exact HB.out | apply below_alloc | apply pw_below_drewN | apply below_drew1 | refine below_set ?_ GE147.out) | exact HB.out)⟩
           (try clear BK147)
           (try clear HB)
           generalize ((w12.setCell ⟨gb147, 0, none⟩ (.string ((rd_T76 l0 x7_1).f0))).setCell ⟨gb147, 1, none⟩ (.string ((rd_T76 l0 x7_1).f1))) = w14 at n0_ n1_ ⊢
           have BK147 := n0_
           have HB := n1_
           clear n0_ n1_
           have n0_ := Aside0.mk (blk_drew BK147.out)
           have n1_ := Aside0.mk (below_drew1 HB.out)
           clear BK147
           clear HB
           have BK147 := n0_
           have HB := n1_
           clear n0_ n1_
           have p149 : 0 ≤ ((ji8) : Int) := of_decide_eq_true (by first | (with_reducible assumption) | assumption)
           have q149 : (ji8) < (l0.length : Int) := of_decide_eq_true (by first | (with_reducible assumption) | assumption)
           obtain ⟨ad149, e149, hx149_0, hx149_1⟩ := at_T76 HR0.out (ji8) p149 q149
           have hw149_1 := hx149_1
           have hw149_0 := hx149_0
           obtain rfl : ad146 = ad149 := (by injection e149)
           replace hx149_0 := (HB.out.cell (World.block_lt_of_cell? w _ hx149_0)).trans hx149_0
           replace hx149_1 := (HB.out.cell (World.block_lt_of_cell? w _ hx149_1)).trans hx149_1
           replace p149 := eq_true p149
           replace q149 := eq_true q149
           refine wp_region_later (by kernel_rfl) (by kernel_rfl) ?_
           have hL0_ := Aside0.mk (show w14.drew.cell? ⟨gb147, 0, none⟩ = some (.string ((rd_T76 l0 x7_1).f0)) from (blk_cell BK147.out 0).trans rfl)
           have hL1_ := Aside0.mk (show w14.drew.cell? ⟨gb147, 1, none⟩ = some (.string ((rd_T76 l0 x7_1).f1)) from (blk_cell BK147.out 1).trans rfl)
           have hL2_ := Aside0.mk (show w14.drew.cell? (ad146.add (((ji8)).toNat * 2)) = some (.string ((rd_T76 l0 (ji8)).f0)) from ((HB.out.cell (World.block_lt_of_cell? w _ hw149_0)).trans hw149_0))
           have hL3_ := Aside0.mk (show w14.drew.cell? ⟨(ad146.add (((ji8)).toNat * 2)).block, (ad146.add (((ji8)).toNat * 2)).off + 1, none⟩ = some (.string ((rd_T76 l0 (ji8)).f1)) from ((HB.out.cell (World.block_lt_of_cell? w _ hw149_1)).trans hw149_1))
           generalize w14.drew = w15 at BK147 HB hx149_0 hx149_1 hL0_ hL1_ hL2_ hL3_ ⊢
           clear hx149_0 hx149_1
           have hL0 := fun (p_ : Later w15) => Later.cell p_ hL0_.out
           have hL1 := fun (p_ : Later w15) => Later.cell p_ hL1_.out
           have hL2 := fun (p_ : Later w15) => Later.cell p_ hL2_.out
           have hL3 := fun (p_ : Later w15) => Later.cell p_ hL3_.out
           clear hL0_ hL1_ hL2_ hL3_
           repeat (first | go_big_quiet_step ((first | (go_at_call 104; exact Calls.later_of (impl_pairOK.calls ((rd_T76 l0 x7_1).f0) ((rd_T76 l0 x7_1).f1) true _ A5.out)))) | quiet_step ((first | (go_at_call 104; exact Calls.later_of (impl_pairOK.calls ((rd_T76 l0 x7_1).f0) ((rd_T76 l0 x7_1).f1) true _ A5.out)))))
           refine wpQuiet_nil ?_
           rintro w16 ⟨⟨wq_, hbL⟩, hq_⟩
           have hq2_ : w16 = wq_ := hq_
           clear hq_
           subst hq2_
           clear hL0 hL1 hL2 hL3
           have nBK147_ := Aside0.mk ((hbL.block _ (blk_lt BK147.out)).trans BK147.out)
           have nHB_ := Aside0.mk (below_step HB.out hbL)
           clear BK147
           clear HB
           have BK147 := nBK147_
           have HB := nHB_
           clear nBK147_
           clear nHB_
           clear hbL
           try go_wp2
           go_roundg k1
           case measure => have := HK1.out; omega
           case rel => exact ⟨(wrap64 (x7_1 + 1)), (by first | rfl | (simp; done) | (simp [*]; done)), H', ⟨by have := HK1.out; omega⟩, ⟨by repeat (first | (with_reducible first | exact HB.out | apply below_alloc | apply pw_below_drewN | apply below_drew1 | refine below_set ?_ GE147.out) | exact HB.out)⟩⟩
          ·rw [if_neg c11] at H
           have c11b0 : (Op.bytesLess (((rd_T76 l0 (ji8)).f0).toList) (((rd_T76 l0 x7_1).f0).toList)) = false := by simpa using c11
           clear c11
           obtain rfl := Option.some.inj H
           have p146 : 0 ≤ (x7_1 : Int) := of_decide_eq_true (by first | (with_reducible assumption) | assumption)
           have q146 : x7_1 < (l0.length : Int) := of_decide_eq_true (by first | (with_reducible assumption) | assumption)
           obtain ⟨ad146, e146, hx146_0, hx146_1⟩ := at_T76 HR0.out x7_1 p146 q146
           cases e146
           replace hx146_0 := (HB.out.cell (World.block_lt_of_cell? w _ hx146_0)).trans hx146_0
           replace hx146_1 := (HB.out.cell (World.block_lt_of_cell? w _ hx146_1)).trans hx146_1
           replace p146 := eq_true p146
           replace q146 := eq_true q146
           try go_wp2_with (first | ((with_reducible refine gate_dst (N := 4) rfl ?_); refine box_event ?hg (N := 4) ?hd (cs := #[.string (⟨#[]⟩ : ByteArray), .string (⟨#[]⟩ : ByteArray)]) (t := 76) ?hr ?_; (case hd => rfl); (case hg => rfl); (case hr => first | (go_simp; done) | (go_simp; rfl)); intro gb147 hg w17 hbox hb; have n0_ := Aside0.mk (below_step (by repeat (first | (with_reducible first | exact HB.out | apply below_alloc | apply pw_below_drewN | apply below_drew1) | exact HB.out)) hb); have n1_ := Aside0.mk (hbox); have n2_ := Aside0.mk ((by rw [hg]; exact (below_size (by repeat (first | (with_reducible first | exact HB.out | apply below_alloc | apply pw_below_drewN | apply below_drew1) | exact HB.out))) : w.heap.size ≤ gb147)); have n3_ := Aside0.mk ((by rw [hg]; exact (below_size (by repeat (first | (with_reducible first | exact HB.out | apply below_alloc | apply pw_below_drewN | apply below_drew1) | exact HB.out))) : w.heap.size ≤ gb147)); clear HB; have HB := n0_; have BK147 := n1_; have GW147 := n2_; have GE147 := n3_; clear n0_ n1_ n2_ n3_; clear hb hbox hg; have hcz18_0 : w17.cell? ⟨gb147, 0, none⟩ = some (.string (⟨#[]⟩ : ByteArray)) := (blk_cell BK147.out 0).trans rfl; have hcz18_1 : w17.cell? ⟨gb147, 1, none⟩ = some (.string (⟨#[]⟩ : ByteArray)) := (blk_cell BK147.out 1).trans rfl; have hfz18_0 := blk_frozen BK147.out 0; have hfz18_1 := blk_frozen BK147.out 1))
           have n0_ : Aside0 (((w17.setCell ⟨gb147, 0, none⟩ (.string ((rd_T76 l0 x7_1).f0))).setCell ⟨gb147, 1, none⟩ (.string ((rd_T76 l0 x7_1).f1))).heap[gb147]? = some (.cells #[.string ((rd_T76 l0 x7_1).f0), .string ((rd_T76 l0 x7_1).f1)] 76 (0, 0))) := ⟨by (with_reducible repeat (first | refine blk_drewN ?_ _ | refine blk_drew ?_ | refine blk_alloc ?_ _)); refine blk_put (cs := #[.string ((rd_T76 l0 x7_1).f0), .string (⟨#[]⟩ : ByteArray)]) ?_ 1 _ rfl; (with_reducible repeat (first | refine blk_drewN ?_ _ | refine blk_drew ?_ | refine blk_alloc ?_ _)); refine blk_put (cs := #[.string (⟨#[]⟩ : ByteArray), .string (⟨#[]⟩ : ByteArray)]) ?_ 0 _ rfl; (with_reducible repeat (first | refine blk_drewN ?_ _ | refine blk_drew ?_ | refine blk_alloc ?_ _)); exact BK147.out⟩
           have n1_ : Aside0 (Below w.heap.size w ((w17.setCell ⟨gb147, 0, none⟩ (.string ((rd_T76 l0 x7_1).f0))).setCell ⟨gb147, 1, none⟩ (.string ((rd_T76 l0 x7_1).f1)))) := ⟨by repeat (first | (with_reducible first | exact HB.out | apply below_alloc | apply pw_below_drewN | apply below_drew1 | refine below_set ?_ GE147.out) | exact HB.out)⟩
           (try clear BK147)
           (try clear HB)
           generalize ((w17.setCell ⟨gb147, 0, none⟩ (.string ((rd_T76 l0 x7_1).f0))).setCell ⟨gb147, 1, none⟩ (.string ((rd_T76 l0 x7_1).f1))) = w19 at n0_ n1_ ⊢
           have BK147 := n0_
           have HB := n1_
           clear n0_ n1_
           have n0_ := Aside0.mk (blk_drew BK147.out)
           have n1_ := Aside0.mk (below_drew1 HB.out)
           clear BK147
           clear HB
           have BK147 := n0_
           have HB := n1_
           clear n0_ n1_
           have p149 : 0 ≤ ((ji8) : Int) := of_decide_eq_true (by first | (with_reducible assumption) | assumption)
           have q149 : (ji8) < (l0.length : Int) := of_decide_eq_true (by first | (with_reducible assumption) | assumption)
           obtain ⟨ad149, e149, hx149_0, hx149_1⟩ := at_T76 HR0.out (ji8) p149 q149
           have hw149_1 := hx149_1
           have hw149_0 := hx149_0
           obtain rfl : ad146 = ad149 := (by injection e149)
           replace hx149_0 := (HB.out.cell (World.block_lt_of_cell? w _ hx149_0)).trans hx149_0
           replace hx149_1 := (HB.out.cell (World.block_lt_of_cell? w _ hx149_1)).trans hx149_1
           replace p149 := eq_true p149
           replace q149 := eq_true q149
           refine wp_region_later (by kernel_rfl) (by kernel_rfl) ?_
           have hL0_ := Aside0.mk (show w19.drew.cell? ⟨gb147, 0, none⟩ = some (.string ((rd_T76 l0 x7_1).f0)) from (blk_cell BK147.out 0).trans rfl)
           have hL1_ := Aside0.mk (show w19.drew.cell? ⟨gb147, 1, none⟩ = some (.string ((rd_T76 l0 x7_1).f1)) from (blk_cell BK147.out 1).trans rfl)
           have hL2_ := Aside0.mk (show w19.drew.cell? (ad146.add (((ji8)).toNat * 2)) = some (.string ((rd_T76 l0 (ji8)).f0)) from ((HB.out.cell (World.block_lt_of_cell? w _ hw149_0)).trans hw149_0))
           have hL3_ := Aside0.mk (show w19.drew.cell? ⟨(ad146.add (((ji8)).toNat * 2)).block, (ad146.add (((ji8)).toNat * 2)).off + 1, none⟩ = some (.string ((rd_T76 l0 (ji8)).f1)) from ((HB.out.cell (World.block_lt_of_cell? w _ hw149_1)).trans hw149_1))
           generalize w19.drew = w20 at BK147 HB hx149_0 hx149_1 hL0_ hL1_ hL2_ hL3_ ⊢
           clear hx149_0 hx149_1
           have hL0 := fun (p_ : Later w20) => Later.cell p_ hL0_.out
           have hL1 := fun (p_ : Later w20) => Later.cell p_ hL1_.out
           have hL2 := fun (p_ : Later w20) => Later.cell p_ hL2_.out
           have hL3 := fun (p_ : Later w20) => Later.cell p_ hL3_.out
           clear hL0_ hL1_ hL2_ hL3_
           repeat (first | go_big_quiet_step ((first | (go_at_call 104; exact Calls.later_of (impl_pairOK.calls ((rd_T76 l0 x7_1).f0) ((rd_T76 l0 x7_1).f1) true _ A5.out)))) | quiet_step ((first | (go_at_call 104; exact Calls.later_of (impl_pairOK.calls ((rd_T76 l0 x7_1).f0) ((rd_T76 l0 x7_1).f1) true _ A5.out)))))
           refine wpQuiet_nil ?_
           rintro w21 ⟨⟨wq_, hbL⟩, hq_⟩
           have hq2_ : w21 = wq_ := hq_
           clear hq_
           subst hq2_
           clear hL0 hL1 hL2 hL3
           have nBK147_ := Aside0.mk ((hbL.block _ (blk_lt BK147.out)).trans BK147.out)
           have nHB_ := Aside0.mk (below_step HB.out hbL)
           clear BK147
           clear HB
           have BK147 := nBK147_
           have HB := nHB_
           clear nBK147_
           clear nHB_
           clear hbL
           try go_wp2
           go_ret
           exact ⟨by first | rfl | (simp [errW_none, errW_some] <;> rfl) | (simp only [← hji8]; first | rfl | (simp [errW_none, errW_some] <;> rfl)) | (simp [*, errW_none, errW_some] <;> rfl), by repeat (first | (with_reducible first | exact HB.out | apply below_alloc | apply pw_below_drewN | apply below_drew1 | refine below_set ?_ GE147.out) | exact HB.out)⟩
         ·rw [if_neg c10] at H
          exact absurd H (by simp)
        ·rw [if_neg c9] at H
         exact absurd H (by simp)
       ·rw [if_neg c7] at H
        have c7b0 : decide (0 < x7_1) = false := decide_eq_false c7
        clear c7
        have H' := Aside0.mk H
        clear H
        have p146 : 0 ≤ (x7_1 : Int) := of_decide_eq_true (by first | (with_reducible assumption) | assumption)
        have q146 : x7_1 < (l0.length : Int) := of_decide_eq_true (by first | (with_reducible assumption) | assumption)
        obtain ⟨ad146, e146, hx146_0, hx146_1⟩ := at_T76 HR0.out x7_1 p146 q146
        cases e146
        replace hx146_0 := (HB.out.cell (World.block_lt_of_cell? w _ hx146_0)).trans hx146_0
        replace hx146_1 := (HB.out.cell (World.block_lt_of_cell? w _ hx146_1)).trans hx146_1
        replace p146 := eq_true p146
        replace q146 := eq_true q146
        try go_wp2_with (first | ((with_reducible refine gate_dst (N := 4) rfl ?_); refine box_event ?hg (N := 4) ?hd (cs := #[.string (⟨#[]⟩ : ByteArray), .string (⟨#[]⟩ : ByteArray)]) (t := 76) ?hr ?_; (case hd => rfl); (case hg => rfl); (case hr => first | (go_simp; done) | (go_simp; rfl)); intro gb147 hg w22 hbox hb; have n0_ := Aside0.mk (below_step (by repeat (first | (with_reducible first | exact HB.out | apply below_alloc | apply pw_below_drewN | apply below_drew1) | exact HB.out)) hb); have n1_ := Aside0.mk (hbox); have n2_ := Aside0.mk ((by rw [hg]; exact (below_size (by repeat (first | (with_reducible first | exact HB.out | apply below_alloc | apply pw_below_drewN | apply below_drew1) | exact HB.out))) : w.heap.size ≤ gb147)); have n3_ := Aside0.mk ((by rw [hg]; exact (below_size (by repeat (first | (with_reducible first | exact HB.out | apply below_alloc | apply pw_below_drewN | apply below_drew1) | exact HB.out))) : w.heap.size ≤ gb147)); clear HB; have HB := n0_; have BK147 := n1_; have GW147 := n2_; have GE147 := n3_; clear n0_ n1_ n2_ n3_; clear hb hbox hg; have hcz23_0 : w22.cell? ⟨gb147, 0, none⟩ = some (.string (⟨#[]⟩ : ByteArray)) := (blk_cell BK147.out 0).trans rfl; have hcz23_1 : w22.cell? ⟨gb147, 1, none⟩ = some (.string (⟨#[]⟩ : ByteArray)) := (blk_cell BK147.out 1).trans rfl; have hfz23_0 := blk_frozen BK147.out 0; have hfz23_1 := blk_frozen BK147.out 1))
        have n0_ : Aside0 (((w22.setCell ⟨gb147, 0, none⟩ (.string ((rd_T76 l0 x7_1).f0))).setCell ⟨gb147, 1, none⟩ (.string ((rd_T76 l0 x7_1).f1))).heap[gb147]? = some (.cells #[.string ((rd_T76 l0 x7_1).f0), .string ((rd_T76 l0 x7_1).f1)] 76 (0, 0))) := ⟨by (with_reducible repeat (first | refine blk_drewN ?_ _ | refine blk_drew ?_ | refine blk_alloc ?_ _)); refine blk_put (cs := #[.string ((rd_T76 l0 x7_1).f0), .string (⟨#[]⟩ : ByteArray)]) ?_ 1 _ rfl; (with_reducible repeat (first | refine blk_drewN ?_ _ | refine blk_drew ?_ | refine blk_alloc ?_ _)); refine blk_put (cs := #[.string (⟨#[]⟩ : ByteArray), .string (⟨#[]⟩ : ByteArray)]) ?_ 0 _ rfl; (with_reducible repeat (first | refine blk_drewN ?_ _ | refine blk_drew ?_ | refine blk_alloc ?_ _)); exact BK147.out⟩
        have n1_ : Aside0 (Below w.heap.size w ((w22.setCell ⟨gb147, 0, none⟩ (.string ((rd_T76 l0 x7_1).f0))).setCell ⟨gb147, 1, none⟩ (.string ((rd_T76 l0 x7_1).f1)))) := ⟨by repeat (first | (with_reducible first | exact HB.out | apply below_alloc | apply pw_below_drewN | apply below_drew1 | refine below_set ?_ GE147.out) | exact HB.out)⟩
        (try clear BK147)
        (try clear HB)
        generalize ((w22.setCell ⟨gb147, 0, none⟩ (.string ((rd_T76 l0 x7_1).f0))).setCell ⟨gb147, 1, none⟩ (.string ((rd_T76 l0 x7_1).f1))) = w24 at n0_ n1_ ⊢
        have BK147 := n0_
        have HB := n1_
        clear n0_ n1_
        have n0_ := Aside0.mk (blk_drew BK147.out)
        have n1_ := Aside0.mk (below_drew1 HB.out)
        clear BK147
        clear HB
        have BK147 := n0_
        have HB := n1_
        clear n0_ n1_
        refine wp_region_later (by kernel_rfl) (by kernel_rfl) ?_
        have hL0_ := Aside0.mk (show w24.drew.cell? ⟨gb147, 0, none⟩ = some (.string ((rd_T76 l0 x7_1).f0)) from (blk_cell BK147.out 0).trans rfl)
        have hL1_ := Aside0.mk (show w24.drew.cell? ⟨gb147, 1, none⟩ = some (.string ((rd_T76 l0 x7_1).f1)) from (blk_cell BK147.out 1).trans rfl)
        generalize w24.drew = w25 at BK147 HB hL0_ hL1_ ⊢
        have hL0 := fun (p_ : Later w25) => Later.cell p_ hL0_.out
        have hL1 := fun (p_ : Later w25) => Later.cell p_ hL1_.out
        clear hL0_ hL1_
        repeat (first | go_big_quiet_step ((first | (go_at_call 104; exact Calls.later_of (impl_pairOK.calls ((rd_T76 l0 x7_1).f0) ((rd_T76 l0 x7_1).f1) true _ A5.out)))) | quiet_step ((first | (go_at_call 104; exact Calls.later_of (impl_pairOK.calls ((rd_T76 l0 x7_1).f0) ((rd_T76 l0 x7_1).f1) true _ A5.out)))))
        refine wpQuiet_nil ?_
        rintro w26 ⟨⟨wq_, hbL⟩, hq_⟩
        have hq2_ : w26 = wq_ := hq_
        clear hq_
        subst hq2_
        clear hL0 hL1
        have nBK147_ := Aside0.mk ((hbL.block _ (blk_lt BK147.out)).trans BK147.out)
        have nHB_ := Aside0.mk (below_step HB.out hbL)
        clear BK147
        clear HB
        have BK147 := nBK147_
        have HB := nHB_
        clear nBK147_
        clear nHB_
        clear hbL
        try go_wp2
        go_roundg k1
        case measure => have := HK1.out; omega
        case rel => exact ⟨(wrap64 (x7_1 + 1)), (by first | rfl | (simp; done) | (simp [*]; done)), H', ⟨by have := HK1.out; omega⟩, ⟨by repeat (first | (with_reducible first | exact HB.out | apply below_alloc | apply pw_below_drewN | apply below_drew1 | refine below_set ?_ GE147.out) | exact HB.out)⟩⟩
      ·replace c6 := Bool.eq_false_iff.mpr c6
       subst c6
       have H1 : (some false) = some r := by rw [if_neg (show ¬ (false = true) by decide)] at H; exact H
       clear H
       have H := H1
       clear H1
       obtain rfl := Option.some.inj H
       have p146 : 0 ≤ (x7_1 : Int) := of_decide_eq_true (by first | (with_reducible assumption) | assumption)
       have q146 : x7_1 < (l0.length : Int) := of_decide_eq_true (by first | (with_reducible assumption) | assumption)
       obtain ⟨ad146, e146, hx146_0, hx146_1⟩ := at_T76 HR0.out x7_1 p146 q146
       cases e146
       replace hx146_0 := (HB.out.cell (World.block_lt_of_cell? w _ hx146_0)).trans hx146_0
       replace hx146_1 := (HB.out.cell (World.block_lt_of_cell? w _ hx146_1)).trans hx146_1
       replace p146 := eq_true p146
       replace q146 := eq_true q146
       try go_wp2_with (first | ((with_reducible refine gate_dst (N := 4) rfl ?_); refine box_event ?hg (N := 4) ?hd (cs := #[.string (⟨#[]⟩ : ByteArray), .string (⟨#[]⟩ : ByteArray)]) (t := 76) ?hr ?_; (case hd => rfl); (case hg => rfl); (case hr => first | (go_simp; done) | (go_simp; rfl)); intro gb147 hg w27 hbox hb; have n0_ := Aside0.mk (below_step (by repeat (first | (with_reducible first | exact HB.out | apply below_alloc | apply pw_below_drewN | apply below_drew1) | exact HB.out)) hb); have n1_ := Aside0.mk (hbox); have n2_ := Aside0.mk ((by rw [hg]; exact (below_size (by repeat (first | (with_reducible first | exact HB.out | apply below_alloc | apply pw_below_drewN | apply below_drew1) | exact HB.out))) : w.heap.size ≤ gb147)); have n3_ := Aside0.mk ((by rw [hg]; exact (below_size (by repeat (first | (with_reducible first | exact HB.out | apply below_alloc | apply pw_below_drewN | apply below_drew1) | exact HB.out))) : w.heap.size ≤ gb147)); clear HB; have HB := n0_; have BK147 := n1_; have GW147 := n2_; have GE147 := n3_; clear n0_ n1_ n2_ n3_; clear hb hbox hg; have hcz28_0 : w27.cell? ⟨gb147, 0, none⟩ = some (.string (⟨#[]⟩ : ByteArray)) := (blk_cell BK147.out 0).trans rfl; have hcz28_1 : w27.cell? ⟨gb147, 1, none⟩ = some (.string (⟨#[]⟩ : ByteArray)) := (blk_cell BK147.out 1).trans rfl; have hfz28_0 := blk_frozen BK147.out 0; have hfz28_1 := blk_frozen BK147.out 1))
       have n0_ : Aside0 (((w27.setCell ⟨gb147, 0, none⟩ (.string ((rd_T76 l0 x7_1).f0))).setCell ⟨gb147, 1, none⟩ (.string ((rd_T76 l0 x7_1).f1))).heap[gb147]? = some (.cells #[.string ((rd_T76 l0 x7_1).f0), .string ((rd_T76 l0 x7_1).f1)] 76 (0, 0))) := ⟨by (with_reducible repeat (first | refine blk_drewN ?_ _ | refine blk_drew ?_ | refine blk_alloc ?_ _)); refine blk_put (cs := #[.string ((rd_T76 l0 x7_1).f0), .string (⟨#[]⟩ : ByteArray)]) ?_ 1 _ rfl; (with_reducible repeat (first | refine blk_drewN ?_ _ | refine blk_drew ?_ | refine blk_alloc ?_ _)); refine blk_put (cs := #[.string (⟨#[]⟩ : ByteArray), .string (⟨#[]⟩ : ByteArray)]) ?_ 0 _ rfl; (with_reducible repeat (first | refine blk_drewN ?_ _ | refine blk_drew ?_ | refine blk_alloc ?_ _)); exact BK147.out⟩
       have n1_ : Aside0 (Below w.heap.size w ((w27.setCell ⟨gb147, 0, none⟩ (.string ((rd_T76 l0 x7_1).f0))).setCell ⟨gb147, 1, none⟩ (.string ((rd_T76 l0 x7_1).f1)))) := ⟨by repeat (first | (with_reducible first | exact HB.out | apply below_alloc | apply pw_below_drewN | apply below_drew1 | refine below_set ?_ GE147.out) | exact HB.out)⟩
       (try clear BK147)
       (try clear HB)
       generalize ((w27.setCell ⟨gb147, 0, none⟩ (.string ((rd_T76 l0 x7_1).f0))).setCell ⟨gb147, 1, none⟩ (.string ((rd_T76 l0 x7_1).f1))) = w29 at n0_ n1_ ⊢
       have BK147 := n0_
       have HB := n1_
       clear n0_ n1_
       have n0_ := Aside0.mk (blk_drew BK147.out)
       have n1_ := Aside0.mk (below_drew1 HB.out)
       clear BK147
       clear HB
       have BK147 := n0_
       have HB := n1_
       clear n0_ n1_
       refine wp_region_later (by kernel_rfl) (by kernel_rfl) ?_
       have hL0_ := Aside0.mk (show w29.drew.cell? ⟨gb147, 0, none⟩ = some (.string ((rd_T76 l0 x7_1).f0)) from (blk_cell BK147.out 0).trans rfl)
       have hL1_ := Aside0.mk (show w29.drew.cell? ⟨gb147, 1, none⟩ = some (.string ((rd_T76 l0 x7_1).f1)) from (blk_cell BK147.out 1).trans rfl)
       generalize w29.drew = w30 at BK147 HB hL0_ hL1_ ⊢
       have hL0 := fun (p_ : Later w30) => Later.cell p_ hL0_.out
       have hL1 := fun (p_ : Later w30) => Later.cell p_ hL1_.out
       clear hL0_ hL1_
       repeat (first | go_big_quiet_step ((first | (go_at_call 104; exact Calls.later_of (impl_pairOK.calls ((rd_T76 l0 x7_1).f0) ((rd_T76 l0 x7_1).f1) false _ A5.out)))) | quiet_step ((first | (go_at_call 104; exact Calls.later_of (impl_pairOK.calls ((rd_T76 l0 x7_1).f0) ((rd_T76 l0 x7_1).f1) false _ A5.out)))))
       refine wpQuiet_nil ?_
       rintro w31 ⟨⟨wq_, hbL⟩, hq_⟩
       have hq2_ : w31 = wq_ := hq_
       clear hq_
       subst hq2_
       clear hL0 hL1
       have nBK147_ := Aside0.mk ((hbL.block _ (blk_lt BK147.out)).trans BK147.out)
       have nHB_ := Aside0.mk (below_step HB.out hbL)
       clear BK147
       clear HB
       have BK147 := nBK147_
       have HB := nHB_
       clear nBK147_
       clear nHB_
       clear hbL
       try go_wp2
       go_ret
       exact ⟨by first | rfl | (simp [errW_none, errW_some] <;> rfl) | (simp [*, errW_none, errW_some] <;> rfl), by repeat (first | (with_reducible first | exact HB.out | apply below_alloc | apply pw_below_drewN | apply below_drew1 | refine below_set ?_ GE147.out) | exact HB.out)⟩
     ·rw [if_neg c4] at H
      exact absurd H (by simp)
    ·rw [if_neg c3] at H
     exact absurd H (by simp)
   ·rw [if_neg c2] at H
    have c2b0 : decide (x7_1 < (l0.length : Int)) = false := decide_eq_false c2
    clear c2
    obtain rfl := Option.some.inj H
    go_wp2
    go_ret
    exact ⟨by first | rfl | (simp [errW_none, errW_some] <;> rfl) | (simp [*, errW_none, errW_some] <;> rfl), by repeat (first | (with_reducible first | exact HB.out | apply below_alloc | apply pw_below_drewN | apply below_drew1) | exact HB.out)⟩
end Go.Proofs.Ytgcncphdjabjjaa.X
