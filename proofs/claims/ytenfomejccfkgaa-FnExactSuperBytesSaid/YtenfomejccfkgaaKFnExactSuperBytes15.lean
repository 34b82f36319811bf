import Derived.Test.YtenfomejccfkgaaKFnExactSuperBytes4
import Derived.Test.YtenfomejccfkgaaKFnExactSuperBytes6
import Derived.Test.YtenfomejccfkgaaKFnExactSuperBytes11
import Derived.Test.YtenfomejccfkgaaKFnExactSuperBytes12
import Derived.Test.YtenfomejccfkgaaKFnExactSuperBytes14
namespace Go.Proofs.Ytenfomejccfkgaa.X
open Go.RowKit Go.Proofs.YtenfomejccfkgaaW.PrintWords Go.Proofs.YtenfomejccfkgaaW.PrintLast Go.Proofs.YtenfomejccfkgaaW.PrintMore
attribute [local go_sem] xbin_geq xbin_leq xbin_gtr max2_int min2_int max_two min_two max_three min_three max_four min_four
set_option linter.unusedVariables false
set_option linter.unusedSimpArgs false
def impl_snapsOK.l0 : Nat → List (S192) → List (S192) → Int → Int → Option (Bool)
 | 0, _, _, _, _ => none
 | k + 1, x0, x5, x6, x7 => if x7 < x6 then (if 0 ≤ x7 then (if x7 < (x5.length : Int) then ((impl_shortName.f k ((rd_T192 x5 x7).f0)).bind fun t921 => (if t921 = true then ((impl_rootOK.f ((rd_T192 x5 x7).f1)).bind fun t922 => (if t922 = true then ((impl_within.f ((rd_T192 x5 x7).f2) 0 60000).bind fun t923 => (if t923 = true then (if x7 > 0 then (if 0 ≤ (wrap64 (x7 - 1)) then (if (wrap64 (x7 - 1)) < (x0.length : Int) then (if ((Op.bytesLess (((rd_T192 x0 (wrap64 (x7 - 1))).f0).toList) (((rd_T192 x5 x7).f0).toList)) = true) then (impl_snapsOK.l0 k x0 x5 x6 (wrap64 (x7 + 1))) else (some false)) else (none)) else (none)) else (impl_snapsOK.l0 k x0 x5 x6 (wrap64 (x7 + 1)))) else (some false))) else (some false))) else (some false))) else (none)) else (none)) else (some (decide ((x0.length : Int) ≤ 4)))
def impl_snapsOK.f (k : Nat) (l0 : List (S192)) : Option (Bool) := impl_snapsOK.l0 k l0 l0 (l0.length : Int) 0
theorem impl_snapsOK.mono_l : ∀ k, (∀ y0 y1 y2 y3, LeO (impl_snapsOK.l0 k y0 y1 y2 y3) (impl_snapsOK.l0 (k + 1) y0 y1 y2 y3))
 | 0 => fun _ _ _ _ r h => by simp [impl_snapsOK.l0] at h
 | k + 1 => by
  have ih0 := impl_snapsOK.mono_l k
  ·intro y0 y1 y2 y3
   unfold impl_snapsOK.l0
   repeat' first
   | (with_reducible exact ih0 _ _ _ _)
   | (with_reducible exact impl_shortName.mono _ _)
   | (with_reducible exact LeO.refl _)
   | (with_reducible exact LeO.none _)
   | (with_reducible refine LeO.ite ?_ ?_)
   | (with_reducible refine LeO.bind ?_ (fun _ => ?_))
   | exact ih0 _ _ _ _
   | exact impl_shortName.mono _ _
   | exact LeO.none _
   | refine LeO.ite ?_ ?_
   | refine LeO.bind ?_ (fun _ => ?_)
theorem impl_snapsOK.mono : ∀ a0 k, LeO (impl_snapsOK.f k a0) (impl_snapsOK.f (k + 1) a0) := by
 intro a0 k
 have ih0 := impl_snapsOK.mono_l k
 unfold impl_snapsOK.f
 repeat' first
   | (with_reducible exact ih0 _ _ _ _)
   | (with_reducible exact impl_shortName.mono _ _)
   | (with_reducible exact LeO.refl _)
   | (with_reducible exact LeO.none _)
   | (with_reducible refine LeO.ite ?_ ?_)
   | (with_reducible refine LeO.bind ?_ (fun _ => ?_))
   | exact ih0 _ _ _ _
   | exact impl_shortName.mono _ _
   | exact LeO.none _
   | refine LeO.ite ?_ ?_
   | refine LeO.bind ?_ (fun _ => ?_)
set_option maxHeartbeats 8000000 in
set_option maxRecDepth 100000 in
theorem impl_snapsOK.calls (k : Nat) (A0 : Option Addr) (c0 : Nat) (l0 : List (S192)) (r : Bool) (w : World) (hr0 : Kd.C k192 w A0 l0.length l0) (hc0 : l0.length ≤ c0) (h : impl_snapsOK.f k l0 = some r) :
  Calls Try.prog 159 #[.slice A0 l0.length c0] w fun e w' => e = .returned (.bool r) ∧ Below w.heap.size w w' := by
 have hu192 := Try.underlying192
 have HR0 := Aside0.mk hr0
 have HC0 := Aside0.mk hc0
 clear hr0 hc0
 have HB := Aside0.mk (Below.refl w.heap.size w)
 have H : (impl_snapsOK.l0 k l0 l0 (l0.length : Int) 0) = some r := h
 clear h
 have H' := Aside0.mk H
 clear H
 go_enter Try.func159, Try.ntmps159
 go_wp2
 go_loopg [7] k (fun kq v7 w' => ∃ (x7_1 : Int), v7 = .int .i64 x7_1 ∧ Aside0 (impl_snapsOK.l0 kq l0 l0 (l0.length : Int) x7_1 = some r) ∧ Aside0 (kq ≤ k) ∧ Aside0 (Below w.heap.size w w'))
 case atStart => exact ⟨(0), (by first | rfl | (simp; done) | (simp [*]; done)), H', ⟨Nat.le_refl _⟩, ⟨by repeat (first | (with_reducible first | exact HB.out | apply below_alloc | apply pw_below_drewN | apply below_drew1) | exact HB.out)⟩⟩
 case round =>
  clear H'
  try clear c1
  obtain ⟨x7_1, rfl, HA, HK1, HB⟩ := hrel
  cases gk with
  | zero => exact absurd HA.out (by simp [impl_snapsOK.l0])
  | succ k1 =>
   have H := HA.out
   clear HA
   simp only [impl_snapsOK.l0] at H
   by_cases c2 : x7_1 < (l0.length : Int)
   ·rw [if_pos c2] at H
    have c2b0 : decide (x7_1 < (l0.length : Int)) = true := decide_eq_true c2
    clear c2
    by_cases c3 : 0 ≤ x7_1
    ·rw [if_pos c3] at H
     have c3b0 : decide (0 ≤ x7_1) = true := decide_eq_true c3
     clear c3
     by_cases c4 : x7_1 < (l0.length : Int)
     ·rw [if_pos c4] at H
      have c4b0 : decide (x7_1 < (l0.length : Int)) = true := decide_eq_true c4
      clear c4
      replace H := Option.bind_eq_some_iff.mp H
      obtain ⟨t921, A50, H⟩ := H
      replace H : (if t921 = true then ((impl_rootOK.f ((rd_T192 l0 x7_1).f1)).bind fun t922 => (if t922 = true then ((impl_within.f ((rd_T192 l0 x7_1).f2) 0 60000).bind fun t923 => (if t923 = true then (if x7_1 > 0 then (if 0 ≤ (wrap64 (x7_1 - 1)) then (if (wrap64 (x7_1 - 1)) < (l0.length : Int) then (if ((Op.bytesLess (((rd_T192 l0 (wrap64 (x7_1 - 1))).f0).toList) (((rd_T192 l0 x7_1).f0).toList)) = true) then (impl_snapsOK.l0 k1 l0 l0 (l0.length : Int) (wrap64 (x7_1 + 1))) else (some false)) else (none)) else (none)) else (impl_snapsOK.l0 k1 l0 l0 (l0.length : Int) (wrap64 (x7_1 + 1)))) else (some false))) else (some false))) else (some false)) = some r := H
      have A5 := Aside0.mk A50
      clear A50
      by_cases c6 : t921 = true
      ·subst c6
       have H1 : ((impl_rootOK.f ((rd_T192 l0 x7_1).f1)).bind fun t922 => (if t922 = true then ((impl_within.f ((rd_T192 l0 x7_1).f2) 0 60000).bind fun t923 => (if t923 = true then (if x7_1 > 0 then (if 0 ≤ (wrap64 (x7_1 - 1)) then (if (wrap64 (x7_1 - 1)) < (l0.length : Int) then (if ((Op.bytesLess (((rd_T192 l0 (wrap64 (x7_1 - 1))).f0).toList) (((rd_T192 l0 x7_1).f0).toList)) = true) then (impl_snapsOK.l0 k1 l0 l0 (l0.length : Int) (wrap64 (x7_1 + 1))) else (some false)) else (none)) else (none)) else (impl_snapsOK.l0 k1 l0 l0 (l0.length : Int) (wrap64 (x7_1 + 1)))) else (some false))) else (some false))) = some r := by rw [if_pos rfl] at H; exact H
       clear H
       have H := H1
       clear H1
       replace H := Option.bind_eq_some_iff.mp H
       obtain ⟨t922, A70, H⟩ := H
       replace H : (if t922 = true then ((impl_within.f ((rd_T192 l0 x7_1).f2) 0 60000).bind fun t923 => (if t923 = true then (if x7_1 > 0 then (if 0 ≤ (wrap64 (x7_1 - 1)) then (if (wrap64 (x7_1 - 1)) < (l0.length : Int) then (if ((Op.bytesLess (((rd_T192 l0 (wrap64 (x7_1 - 1))).f0).toList) (((rd_T192 l0 x7_1).f0).toList)) = true) then (impl_snapsOK.l0 k1 l0 l0 (l0.length : Int) (wrap64 (x7_1 + 1))) else (some false)) else (none)) else (none)) else (impl_snapsOK.l0 k1 l0 l0 (l0.length : Int) (wrap64 (x7_1 + 1)))) else (some false))) else (some false)) = some r := H
       have A7 := Aside0.mk A70
       clear A70
       by_cases c8 : t922 = true
       ·subst c8
        have H1 : ((impl_within.f ((rd_T192 l0 x7_1).f2) 0 60000).bind fun t923 => (if t923 = true then (if x7_1 > 0 then (if 0 ≤ (wrap64 (x7_1 - 1)) then (if (wrap64 (x7_1 - 1)) < (l0.length : Int) then (if ((Op.bytesLess (((rd_T192 l0 (wrap64 (x7_1 - 1))).f0).toList) (((rd_T192 l0 x7_1).f0).toList)) = true) then (impl_snapsOK.l0 k1 l0 l0 (l0.length : Int) (wrap64 (x7_1 + 1))) else (some false)) else (none)) else (none)) else (impl_snapsOK.l0 k1 l0 l0 (l0.length : Int) (wrap64 (x7_1 + 1)))) else (some false))) = some r := by rw [if_pos rfl] at H; exact H
        clear H
        have H := H1
        clear H1
        replace H := Option.bind_eq_some_iff.mp H
        obtain ⟨t923, A90, H⟩ := H
        replace H : (if t923 = true then (if x7_1 > 0 then (if 0 ≤ (wrap64 (x7_1 - 1)) then (if (wrap64 (x7_1 - 1)) < (l0.length : Int) then (if ((Op.bytesLess (((rd_T192 l0 (wrap64 (x7_1 - 1))).f0).toList) (((rd_T192 l0 x7_1).f0).toList)) = true) then (impl_snapsOK.l0 k1 l0 l0 (l0.length : Int) (wrap64 (x7_1 + 1))) else (some false)) else (none)) else (none)) else (impl_snapsOK.l0 k1 l0 l0 (l0.length : Int) (wrap64 (x7_1 + 1)))) else (some false)) = some r := H
        have A9 := Aside0.mk A90
        clear A90
        by_cases c10 : t923 = true
        ·subst c10
         have H1 : (if x7_1 > 0 then (if 0 ≤ (wrap64 (x7_1 - 1)) then (if (wrap64 (x7_1 - 1)) < (l0.length : Int) then (if ((Op.bytesLess (((rd_T192 l0 (wrap64 (x7_1 - 1))).f0).toList) (((rd_T192 l0 x7_1).f0).toList)) = true) then (impl_snapsOK.l0 k1 l0 l0 (l0.length : Int) (wrap64 (x7_1 + 1))) else (some false)) else (none)) else (none)) else (impl_snapsOK.l0 k1 l0 l0 (l0.length : Int) (wrap64 (x7_1 + 1)))) = some r := by rw [if_pos rfl] at H; exact H
         clear H
         have H := H1
         clear H1
         by_cases c11 : x7_1 > 0
         ·rw [if_pos c11] at H
          have c11b0 : decide (0 < x7_1) = true := decide_eq_true c11
          clear c11
          obtain ⟨ji12, hji12⟩ : ∃ j_ : Int, (wrap64 (x7_1 - 1)) = j_ := ⟨_, rfl⟩
          replace H : (if 0 ≤ (ji12) then (if (ji12) < (l0.length : Int) then (if ((Op.bytesLess (((rd_T192 l0 (ji12)).f0).toList) (((rd_T192 l0 x7_1).f0).toList)) = true) then (impl_snapsOK.l0 k1 l0 l0 (l0.length : Int) (wrap64 (x7_1 + 1))) else (some false)) else (none)) else (none)) = some r := by first | (rw [hji12] at H; exact H) | (simp only [hji12] at H ⊢; exact H)
          (try rw [hji12] at A5)
          (try rw [hji12] at A7)
          (try rw [hji12] at A9)
          have hji12w : (IntKind.i64.wrap (x7_1 - 1)) = ji12 := (i64_w _).trans hji12
          by_cases c13 : 0 ≤ (ji12)
          ·rw [if_pos c13] at H
           have c13b0 : decide (0 ≤ (ji12)) = true := decide_eq_true c13
           clear c13
           by_cases c14 : (ji12) < (l0.length : Int)
           ·rw [if_pos c14] at H
            have c14b0 : decide ((ji12) < (l0.length : Int)) = true := decide_eq_true c14
            clear c14
            by_cases c15 : ((Op.bytesLess (((rd_T192 l0 (ji12)).f0).toList) (((rd_T192 l0 x7_1).f0).toList)) = true)
            ·rw [if_pos c15] at H
             have c15b0 : (Op.bytesLess (((rd_T192 l0 (ji12)).f0).toList) (((rd_T192 l0 x7_1).f0).toList)) = true := c15
             clear c15
             have H' := Aside0.mk H
             clear H
             have p919 : 0 ≤ (x7_1 : Int) := of_decide_eq_true (by first | (with_reducible assumption) | assumption)
             have q919 : x7_1 < (l0.length : Int) := of_decide_eq_true (by first | (with_reducible assumption) | assumption)
             obtain ⟨ad919, e919, hx919_0, hx919_1, hx919_2⟩ := at_T192 HR0.out x7_1 p919 q919
             cases e919
             replace hx919_0 := (HB.out.cell (World.block_lt_of_cell? w _ hx919_0)).trans hx919_0
             replace hx919_1 := (HB.out.cell (World.block_lt_of_cell? w _ hx919_1)).trans hx919_1
             replace hx919_2 := (HB.out.cell (World.block_lt_of_cell? w _ hx919_2)).trans hx919_2
             replace p919 := eq_true p919
             replace q919 := eq_true q919
             try go_wp2_with (first | ((with_reducible refine gate_dst (N := 4) rfl ?_); refine box_event ?hg (N := 4) ?hd (cs := #[.string (⟨#[]⟩ : ByteArray), .int .i64 0, .int .i64 0]) (t := 192) ?hr ?_; (case hd => rfl); (case hg => rfl); (case hr => first | (go_simp; done) | (go_simp; rfl)); intro gb920 hg w16 hbox hb; have n0_ := Aside0.mk (below_step (by repeat (first | (with_reducible first | exact HB.out | apply below_alloc | apply pw_below_drewN | apply below_drew1) | exact HB.out)) hb); have n1_ := Aside0.mk (hbox); have n2_ := Aside0.mk ((by rw [hg]; exact (below_size (by repeat (first | (with_reducible first | exact HB.out | apply below_alloc | apply pw_below_drewN | apply below_drew1) | exact HB.out))) : w.heap.size ≤ gb920)); have n3_ := Aside0.mk ((by rw [hg]; exact (below_size (by repeat (first | (with_reducible first | exact HB.out | apply below_alloc | apply pw_below_drewN | apply below_drew1) | exact HB.out))) : w.heap.size ≤ gb920)); clear HB; have HB := n0_; have BK920 := n1_; have GW920 := n2_; have GE920 := n3_; clear n0_ n1_ n2_ n3_; clear hb hbox hg; have hcz17_0 : w16.cell? ⟨gb920, 0, none⟩ = some (.string (⟨#[]⟩ : ByteArray)) := (blk_cell BK920.out 0).trans rfl; have hcz17_1 : w16.cell? ⟨gb920, 1, none⟩ = some (.int .i64 0) := (blk_cell BK920.out 1).trans rfl; have hcz17_2 : w16.cell? ⟨gb920, 2, none⟩ = some (.int .i64 0) := (blk_cell BK920.out 2).trans rfl; have hfz17_0 := blk_frozen BK920.out 0; have hfz17_1 := blk_frozen BK920.out 1; have hfz17_2 := blk_frozen BK920.out 2))
             have n0_ : Aside0 ((((w16.setCell ⟨gb920, 0, none⟩ (.string ((rd_T192 l0 x7_1).f0))).setCell ⟨gb920, 1, none⟩ (.int .i64 ((rd_T192 l0 x7_1).f1))).setCell ⟨gb920, 2, none⟩ (.int .i64 ((rd_T192 l0 x7_1).f2))).heap[gb920]? = some (.cells #[.string ((rd_T192 l0 x7_1).f0), .int .i64 ((rd_T192 l0 x7_1).f1), .int .i64 ((rd_T192 l0 x7_1).f2)] 192 (0, 0))) := ⟨by (with_reducible repeat (first | refine blk_drewN ?_ _ | refine blk_drew ?_ | refine blk_alloc ?_ _)); refine blk_put (cs := #[.string ((rd_T192 l0 x7_1).f0), .int .i64 ((rd_T192 l0 x7_1).f1), .int .i64 0]) ?_ 2 _ rfl; (with_reducible repeat (first | refine blk_drewN ?_ _ | refine blk_drew ?_ | refine blk_alloc ?_ _)); refine blk_put (cs := #[.string ((rd_T192 l0 x7_1).f0), .int .i64 0, .int .i64 0]) ?_ 1 _ rfl; (with_reducible repeat (first | refine blk_drewN ?_ _ | refine blk_drew ?_ | refine blk_alloc ?_ _)); refine blk_put (cs := #[.string (⟨#[]⟩ : ByteArray), .int .i64 0, .int .i64 0]) ?_ 0 _ rfl; (with_reducible repeat (first | refine blk_drewN ?_ _ | refine blk_drew ?_ | refine blk_alloc ?_ _)); exact BK920.out⟩
             have n1_ : Aside0 (Below w.heap.size w (((w16.setCell ⟨gb920, 0, none⟩ (.string ((rd_T192 l0 x7_1).f0))).setCell ⟨gb920, 1, none⟩ (.int .i64 ((rd_T192 l0 x7_1).f1))).setCell ⟨gb920, 2, none⟩ (.int .i64 ((rd_T192 l0 x7_1).f2)))) := ⟨by repeat (first | (with_reducible first | exact HB.out | apply below_alloc | apply pw_below_drewN | apply below_drew1 | refine below_set ?_ GE920.out) | exact HB.out)⟩
             (try clear BK920)
             (try clear HB)
             generalize (((w16.setCell ⟨gb920, 0, none⟩ (.string ((rd_T192 l0 x7_1).f0))).setCell ⟨gb920, 1, none⟩ (.int .i64 ((rd_T192 l0 x7_1).f1))).setCell ⟨gb920, 2, none⟩ (.int .i64 ((rd_T192 l0 x7_1).f2))) = w18 at n0_ n1_ ⊢
             have BK920 := n0_
             have HB := n1_
             clear n0_ n1_
             have n0_ := Aside0.mk (blk_drew BK920.out)
             have n1_ := Aside0.mk (below_drew1 HB.out)
             clear BK920
             clear HB
             have BK920 := n0_
             have HB := n1_
             clear n0_ n1_
             have p924 : 0 ≤ ((ji12) : Int) := of_decide_eq_true (by first | (with_reducible assumption) | assumption)
             have q924 : (ji12) < (l0.length : Int) := of_decide_eq_true (by first | (with_reducible assumption) | assumption)
             obtain ⟨ad924, e924, hx924_0, hx924_1, hx924_2⟩ := at_T192 HR0.out (ji12) p924 q924
             have hw924_2 := hx924_2
             have hw924_1 := hx924_1
             have hw924_0 := hx924_0
             obtain rfl : ad919 = ad924 := (by injection e924)
             replace hx924_0 := (HB.out.cell (World.block_lt_of_cell? w _ hx924_0)).trans hx924_0
             replace hx924_1 := (HB.out.cell (World.block_lt_of_cell? w _ hx924_1)).trans hx924_1
             replace hx924_2 := (HB.out.cell (World.block_lt_of_cell? w _ hx924_2)).trans hx924_2
             replace p924 := eq_true p924
             replace q924 := eq_true q924
             refine wp_region_later (by kernel_rfl) (by kernel_rfl) ?_
             have hL0_ := Aside0.mk (show w18.drew.cell? ⟨gb920, 0, none⟩ = some (.string ((rd_T192 l0 x7_1).f0)) from (blk_cell BK920.out 0).trans rfl)
             have hL1_ := Aside0.mk (show w18.drew.cell? ⟨gb920, 1, none⟩ = some (.int .i64 ((rd_T192 l0 x7_1).f1)) from (blk_cell BK920.out 1).trans rfl)
             have hL2_ := Aside0.mk (show w18.drew.cell? ⟨gb920, 2, none⟩ = some (.int .i64 ((rd_T192 l0 x7_1).f2)) from (blk_cell BK920.out 2).trans rfl)
             have hL3_ := Aside0.mk (show w18.drew.cell? (ad919.add (((ji12)).toNat * 3)) = some (.string ((rd_T192 l0 (ji12)).f0)) from ((HB.out.cell (World.block_lt_of_cell? w _ hw924_0)).trans hw924_0))
             have hL4_ := Aside0.mk (show w18.drew.cell? ⟨(ad919.add (((ji12)).toNat * 3)).block, (ad919.add (((ji12)).toNat * 3)).off + 1, none⟩ = some (.int .i64 ((rd_T192 l0 (ji12)).f1)) from ((HB.out.cell (World.block_lt_of_cell? w _ hw924_1)).trans hw924_1))
             have hL5_ := Aside0.mk (show w18.drew.cell? ⟨(ad919.add (((ji12)).toNat * 3)).block, (ad919.add (((ji12)).toNat * 3)).off + 2, none⟩ = some (.int .i64 ((rd_T192 l0 (ji12)).f2)) from ((HB.out.cell (World.block_lt_of_cell? w _ hw924_2)).trans hw924_2))
             generalize w18.drew = w19b at BK920 HB hx924_0 hx924_1 hx924_2 hL0_ hL1_ hL2_ hL3_ hL4_ hL5_ ⊢
             clear hx924_0 hx924_1 hx924_2
             have hL0 := fun (p_ : Later w19b) => Later.cell p_ hL0_.out
             have hL1 := fun (p_ : Later w19b) => Later.cell p_ hL1_.out
             have hL2 := fun (p_ : Later w19b) => Later.cell p_ hL2_.out
             have hL3 := fun (p_ : Later w19b) => Later.cell p_ hL3_.out
             have hL4 := fun (p_ : Later w19b) => Later.cell p_ hL4_.out
             have hL5 := fun (p_ : Later w19b) => Later.cell p_ hL5_.out
             clear hL0_ hL1_ hL2_ hL3_ hL4_ hL5_
             repeat (first | go_big_quiet_step ((first | (go_at_call 185; with_reducible exact Calls.later_drawn (impl_shortName.calls k1 ((rd_T192 l0 x7_1).f0) true _ A5.out)) | (go_at_call 158; with_reducible exact Calls.later_drawn (impl_rootOK.calls ((rd_T192 l0 x7_1).f1) true _ A7.out)) | (go_at_call 120; with_reducible exact Calls.later_drawn (impl_within.calls ((rd_T192 l0 x7_1).f2) 0 60000 true _ A9.out)) | (go_at_call 185; exact Calls.later_drawn (impl_shortName.calls k1 ((rd_T192 l0 x7_1).f0) true _ A5.out)) | (go_at_call 158; exact Calls.later_drawn (impl_rootOK.calls ((rd_T192 l0 x7_1).f1) true _ A7.out)) | (go_at_call 120; exact Calls.later_drawn (impl_within.calls ((rd_T192 l0 x7_1).f2) 0 60000 true _ A9.out)))) | quiet_step ((first | (go_at_call 185; with_reducible exact Calls.later_drawn (impl_shortName.calls k1 ((rd_T192 l0 x7_1).f0) true _ A5.out)) | (go_at_call 158; with_reducible exact Calls.later_drawn (impl_rootOK.calls ((rd_T192 l0 x7_1).f1) true _ A7.out)) | (go_at_call 120; with_reducible exact Calls.later_drawn (impl_within.calls ((rd_T192 l0 x7_1).f2) 0 60000 true _ A9.out)) | (go_at_call 185; exact Calls.later_drawn (impl_shortName.calls k1 ((rd_T192 l0 x7_1).f0) true _ A5.out)) | (go_at_call 158; exact Calls.later_drawn (impl_rootOK.calls ((rd_T192 l0 x7_1).f1) true _ A7.out)) | (go_at_call 120; exact Calls.later_drawn (impl_within.calls ((rd_T192 l0 x7_1).f2) 0 60000 true _ A9.out)))))
             refine wpQuiet_nil ?_
             rintro w19 ⟨⟨wq_, hbL⟩, hq_⟩
             have hq2_ : w19 = wq_ := hq_
             clear hq_
             subst hq2_
             clear hL0 hL1 hL2 hL3 hL4 hL5
             have nBK920_ := Aside0.mk ((hbL.block _ (blk_lt BK920.out)).trans BK920.out)
             have nHB_ := Aside0.mk (below_step HB.out hbL)
             clear BK920
             clear HB
             have BK920 := nBK920_
             have HB := nHB_
             clear nBK920_
             clear nHB_
             clear hbL
             try go_wp2
             go_roundg k1
             case measure => have := HK1.out; omega
             case rel => exact ⟨(wrap64 (x7_1 + 1)), (by first | rfl | (simp; done) | (simp [*]; done)), H', ⟨by have := HK1.out; omega⟩, ⟨by repeat (first | (with_reducible first | exact HB.out | apply below_alloc | apply pw_below_drewN | apply below_drew1 | refine below_set ?_ GE920.out) | exact HB.out)⟩⟩
            ·rw [if_neg c15] at H
             have c15b0 : (Op.bytesLess (((rd_T192 l0 (ji12)).f0).toList) (((rd_T192 l0 x7_1).f0).toList)) = false := by simpa using c15
             clear c15
             obtain rfl := Option.some.inj H
             have p919 : 0 ≤ (x7_1 : Int) := of_decide_eq_true (by first | (with_reducible assumption) | assumption)
             have q919 : x7_1 < (l0.length : Int) := of_decide_eq_true (by first | (with_reducible assumption) | assumption)
             obtain ⟨ad919, e919, hx919_0, hx919_1, hx919_2⟩ := at_T192 HR0.out x7_1 p919 q919
             cases e919
             replace hx919_0 := (HB.out.cell (World.block_lt_of_cell? w _ hx919_0)).trans hx919_0
             replace hx919_1 := (HB.out.cell (World.block_lt_of_cell? w _ hx919_1)).trans hx919_1
             replace hx919_2 := (HB.out.cell (World.block_lt_of_cell? w _ hx919_2)).trans hx919_2
             replace p919 := eq_true p919
             replace q919 := eq_true q919
             try go_wp2_with (first | ((with_reducible refine gate_dst (N := 4) rfl ?_); refine box_event ?hg (N := 4) ?hd (cs := #[.string (⟨#[]⟩ : ByteArray), .int .i64 0, .int .i64 0]) (t := 192) ?hr ?_; (case hd => rfl); (case hg => rfl); (case hr => first | (go_simp; done) | (go_simp; rfl)); intro gb920 hg w20 hbox hb; have n0_ := Aside0.mk (below_step (by repeat (first | (with_reducible first | exact HB.out | apply below_alloc | apply pw_below_drewN | apply below_drew1) | exact HB.out)) hb); have n1_ := Aside0.mk (hbox); have n2_ := Aside0.mk ((by rw [hg]; exact (below_size (by repeat (first | (with_reducible first | exact HB.out | apply below_alloc | apply pw_below_drewN | apply below_drew1) | exact HB.out))) : w.heap.size ≤ gb920)); have n3_ := Aside0.mk ((by rw [hg]; exact (below_size (by repeat (first | (with_reducible first | exact HB.out | apply below_alloc | apply pw_below_drewN | apply below_drew1) | exact HB.out))) : w.heap.size ≤ gb920)); clear HB; have HB := n0_; have BK920 := n1_; have GW920 := n2_; have GE920 := n3_; clear n0_ n1_ n2_ n3_; clear hb hbox hg; have hcz21_0 : w20.cell? ⟨gb920, 0, none⟩ = some (.string (⟨#[]⟩ : ByteArray)) := (blk_cell BK920.out 0).trans rfl; have hcz21_1 : w20.cell? ⟨gb920, 1, none⟩ = some (.int .i64 0) := (blk_cell BK920.out 1).trans rfl; have hcz21_2 : w20.cell? ⟨gb920, 2, none⟩ = some (.int .i64 0) := (blk_cell BK920.out 2).trans rfl; have hfz21_0 := blk_frozen BK920.out 0; have hfz21_1 := blk_frozen BK920.out 1; have hfz21_2 := blk_frozen BK920.out 2))
             have n0_ : Aside0 ((((w20.setCell ⟨gb920, 0, none⟩ (.string ((rd_T192 l0 x7_1).f0))).setCell ⟨gb920, 1, none⟩ (.int .i64 ((rd_T192 l0 x7_1).f1))).setCell ⟨gb920, 2, none⟩ (.int .i64 ((rd_T192 l0 x7_1).f2))).heap[gb920]? = some (.cells #[.string ((rd_T192 l0 x7_1).f0), .int .i64 ((rd_T192 l0 x7_1).f1), .int .i64 ((rd_T192 l0 x7_1).f2)] 192 (0, 0))) := ⟨by (with_reducible repeat (first | refine blk_drewN ?_ _ | refine blk_drew ?_ | refine blk_alloc ?_ _)); refine blk_put (cs := #[.string ((rd_T192 l0 x7_1).f0), .int .i64 ((rd_T192 l0 x7_1).f1), .int .i64 0]) ?_ 2 _ rfl; (with_reducible repeat (first | refine blk_drewN ?_ _ | refine blk_drew ?_ | refine blk_alloc ?_ _)); refine blk_put (cs := #[.string ((rd_T192 l0 x7_1).f0), .int .i64 0, .int .i64 0]) ?_ 1 _ rfl; (with_reducible repeat (first | refine blk_drewN ?_ _ | refine blk_drew ?_ | refine blk_alloc ?_ _)); refine blk_put (cs := #[.string (⟨#[]⟩ : ByteArray), .int .i64 0, .int .i64 0]) ?_ 0 _ rfl; (with_reducible repeat (first | refine blk_drewN ?_ _ | refine blk_drew ?_ | refine blk_alloc ?_ _)); exact BK920.out⟩
             have n1_ : Aside0 (Below w.heap.size w (((w20.setCell ⟨gb920, 0, none⟩ (.string ((rd_T192 l0 x7_1).f0))).setCell ⟨gb920, 1, none⟩ (.int .i64 ((rd_T192 l0 x7_1).f1))).setCell ⟨gb920, 2, none⟩ (.int .i64 ((rd_T192 l0 x7_1).f2)))) := ⟨by repeat (first | (with_reducible first | exact HB.out | apply below_alloc | apply pw_below_drewN | apply below_drew1 | refine below_set ?_ GE920.out) | exact HB.out)⟩
             (try clear BK920)
             (try clear HB)
             generalize (((w20.setCell ⟨gb920, 0, none⟩ (.string ((rd_T192 l0 x7_1).f0))).setCell ⟨gb920, 1, none⟩ (.int .i64 ((rd_T192 l0 x7_1).f1))).setCell ⟨gb920, 2, none⟩ (.int .i64 ((rd_T192 l0 x7_1).f2))) = w22 at n0_ n1_ ⊢
             have BK920 := n0_
             have HB := n1_
             clear n0_ n1_
             have n0_ := Aside0.mk (blk_drew BK920.out)
             have n1_ := Aside0.mk (below_drew1 HB.out)
             clear BK920
             clear HB
             have BK920 := n0_
             have HB := n1_
             clear n0_ n1_
             have p924 : 0 ≤ ((ji12) : Int) := of_decide_eq_true (by first | (with_reducible assumption) | assumption)
             have q924 : (ji12) < (l0.length : Int) := of_decide_eq_true (by first | (with_reducible assumption) | assumption)
             obtain ⟨ad924, e924, hx924_0, hx924_1, hx924_2⟩ := at_T192 HR0.out (ji12) p924 q924
             have hw924_2 := hx924_2
             have hw924_1 := hx924_1
             have hw924_0 := hx924_0
             obtain rfl : ad919 = ad924 := (by injection e924)
             replace hx924_0 := (HB.out.cell (World.block_lt_of_cell? w _ hx924_0)).trans hx924_0
             replace hx924_1 := (HB.out.cell (World.block_lt_of_cell? w _ hx924_1)).trans hx924_1
             replace hx924_2 := (HB.out.cell (World.block_lt_of_cell? w _ hx924_2)).trans hx924_2
             replace p924 := eq_true p924
             replace q924 := eq_true q924
             refine wp_region_later (by kernel_rfl) (by kernel_rfl) ?_
             have hL0_ := Aside0.mk (show w22.drew.cell? ⟨gb920, 0, none⟩ = some (.string ((rd_T192 l0 x7_1).f0)) from (blk_cell BK920.out 0).trans rfl)
             have hL1_ := Aside0.mk (show w22.drew.cell? ⟨gb920, 1, none⟩ = some (.int .i64 ((rd_T192 l0 x7_1).f1)) from (blk_cell BK920.out 1).trans rfl)
             have hL2_ := Aside0.mk (show w22.drew.cell? ⟨gb920, 2, none⟩ = some (.int .i64 ((rd_T192 l0 x7_1).f2)) from (blk_cell BK920.out 2).trans rfl)
             have hL3_ := Aside0.mk (show w22.drew.cell? (ad919.add (((ji12)).toNat * 3)) = some (.string ((rd_T192 l0 (ji12)).f0)) from ((HB.out.cell (World.block_lt_of_cell? w _ hw924_0)).trans hw924_0))
             have hL4_ := Aside0.mk (show w22.drew.cell? ⟨(ad919.add (((ji12)).toNat * 3)).block, (ad919.add (((ji12)).toNat * 3)).off + 1, none⟩ = some (.int .i64 ((rd_T192 l0 (ji12)).f1)) from ((HB.out.cell (World.block_lt_of_cell? w _ hw924_1)).trans hw924_1))
             have hL5_ := Aside0.mk (show w22.drew.cell? ⟨(ad919.add (((ji12)).toNat * 3)).block, (ad919.add (((ji12)).toNat * 3)).off + 2, none⟩ = some (.int .i64 ((rd_T192 l0 (ji12)).f2)) from ((HB.out.cell (World.block_lt_of_cell? w _ hw924_2)).trans hw924_2))
             generalize w22.drew = w23b at BK920 HB hx924_0 hx924_1 hx924_2 hL0_ hL1_ hL2_ hL3_ hL4_ hL5_ ⊢
             clear hx924_0 hx924_1 hx924_2
             have hL0 := fun (p_ : Later w23b) => Later.cell p_ hL0_.out
             have hL1 := fun (p_ : Later w23b) => Later.cell p_ hL1_.out
             have hL2 := fun (p_ : Later w23b) => Later.cell p_ hL2_.out
             have hL3 := fun (p_ : Later w23b) => Later.cell p_ hL3_.out
             have hL4 := fun (p_ : Later w23b) => Later.cell p_ hL4_.out
             have hL5 := fun (p_ : Later w23b) => Later.cell p_ hL5_.out
             clear hL0_ hL1_ hL2_ hL3_ hL4_ hL5_
             repeat (first | go_big_quiet_step ((first | (go_at_call 185; with_reducible exact Calls.later_drawn (impl_shortName.calls k1 ((rd_T192 l0 x7_1).f0) true _ A5.out)) | (go_at_call 158; with_reducible exact Calls.later_drawn (impl_rootOK.calls ((rd_T192 l0 x7_1).f1) true _ A7.out)) | (go_at_call 120; with_reducible exact Calls.later_drawn (impl_within.calls ((rd_T192 l0 x7_1).f2) 0 60000 true _ A9.out)) | (go_at_call 185; exact Calls.later_drawn (impl_shortName.calls k1 ((rd_T192 l0 x7_1).f0) true _ A5.out)) | (go_at_call 158; exact Calls.later_drawn (impl_rootOK.calls ((rd_T192 l0 x7_1).f1) true _ A7.out)) | (go_at_call 120; exact Calls.later_drawn (impl_within.calls ((rd_T192 l0 x7_1).f2) 0 60000 true _ A9.out)))) | quiet_step ((first | (go_at_call 185; with_reducible exact Calls.later_drawn (impl_shortName.calls k1 ((rd_T192 l0 x7_1).f0) true _ A5.out)) | (go_at_call 158; with_reducible exact Calls.later_drawn (impl_rootOK.calls ((rd_T192 l0 x7_1).f1) true _ A7.out)) | (go_at_call 120; with_reducible exact Calls.later_drawn (impl_within.calls ((rd_T192 l0 x7_1).f2) 0 60000 true _ A9.out)) | (go_at_call 185; exact Calls.later_drawn (impl_shortName.calls k1 ((rd_T192 l0 x7_1).f0) true _ A5.out)) | (go_at_call 158; exact Calls.later_drawn (impl_rootOK.calls ((rd_T192 l0 x7_1).f1) true _ A7.out)) | (go_at_call 120; exact Calls.later_drawn (impl_within.calls ((rd_T192 l0 x7_1).f2) 0 60000 true _ A9.out)))))
             refine wpQuiet_nil ?_
             rintro w23 ⟨⟨wq_, hbL⟩, hq_⟩
             have hq2_ : w23 = wq_ := hq_
             clear hq_
             subst hq2_
             clear hL0 hL1 hL2 hL3 hL4 hL5
             have nBK920_ := Aside0.mk ((hbL.block _ (blk_lt BK920.out)).trans BK920.out)
             have nHB_ := Aside0.mk (below_step HB.out hbL)
             clear BK920
             clear HB
             have BK920 := nBK920_
             have HB := nHB_
             clear nBK920_
             clear nHB_
             clear hbL
             try go_wp2
             go_ret
             exact ⟨by first | rfl | (simp [errW_none, errW_some] <;> rfl) | (simp only [← hji12]; first | rfl | (simp [errW_none, errW_some] <;> rfl)) | (simp [*, errW_none, errW_some] <;> rfl), by repeat (first | (with_reducible first | exact HB.out | apply below_alloc | apply pw_below_drewN | apply below_drew1 | refine below_set ?_ GE920.out) | exact HB.out)⟩
           ·rw [if_neg c14] at H
            exact absurd H (by simp)
          ·rw [if_neg c13] at H
           exact absurd H (by simp)
         ·rw [if_neg c11] at H
          have c11b0 : decide (0 < x7_1) = false := decide_eq_false c11
          clear c11
          have H' := Aside0.mk H
          clear H
          have p919 : 0 ≤ (x7_1 : Int) := of_decide_eq_true (by first | (with_reducible assumption) | assumption)
          have q919 : x7_1 < (l0.length : Int) := of_decide_eq_true (by first | (with_reducible assumption) | assumption)
          obtain ⟨ad919, e919, hx919_0, hx919_1, hx919_2⟩ := at_T192 HR0.out x7_1 p919 q919
          cases e919
          replace hx919_0 := (HB.out.cell (World.block_lt_of_cell? w _ hx919_0)).trans hx919_0
          replace hx919_1 := (HB.out.cell (World.block_lt_of_cell? w _ hx919_1)).trans hx919_1
          replace hx919_2 := (HB.out.cell (World.block_lt_of_cell? w _ hx919_2)).trans hx919_2
          replace p919 := eq_true p919
          replace q919 := eq_true q919
          try go_wp2_with (first | ((with_reducible refine gate_dst (N := 4) rfl ?_); refine box_event ?hg (N := 4) ?hd (cs := #[.string (⟨#[]⟩ : ByteArray), .int .i64 0, .int .i64 0]) (t := 192) ?hr ?_; (case hd => rfl); (case hg => rfl); (case hr => first | (go_simp; done) | (go_simp; rfl)); intro gb920 hg w24 hbox hb; have n0_ := Aside0.mk (below_step (by repeat (first | (with_reducible first | exact HB.out | apply below_alloc | apply pw_below_drewN | apply below_drew1) | exact HB.out)) hb); have n1_ := Aside0.mk (hbox); have n2_ := Aside0.mk ((by rw [hg]; exact (below_size (by repeat (first | (with_reducible first | exact HB.out | apply below_alloc | apply pw_below_drewN | apply below_drew1) | exact HB.out))) : w.heap.size ≤ gb920)); have n3_ := Aside0.mk ((by rw [hg]; exact (below_size (by repeat (first | (with_reducible first | exact HB.out | apply below_alloc | apply pw_below_drewN | apply below_drew1) | exact HB.out))) : w.heap.size ≤ gb920)); clear HB; have HB := n0_; have BK920 := n1_; have GW920 := n2_; have GE920 := n3_; clear n0_ n1_ n2_ n3_; clear hb hbox hg; have hcz25_0 : w24.cell? ⟨gb920, 0, none⟩ = some (.string (⟨#[]⟩ : ByteArray)) := (blk_cell BK920.out 0).trans rfl; have hcz25_1 : w24.cell? ⟨gb920, 1, none⟩ = some (.int .i64 0) := (blk_cell BK920.out 1).trans rfl; have hcz25_2 : w24.cell? ⟨gb920, 2, none⟩ = some (.int .i64 0) := (blk_cell BK920.out 2).trans rfl; have hfz25_0 := blk_frozen BK920.out 0; have hfz25_1 := blk_frozen BK920.out 1; have hfz25_2 := blk_frozen BK920.out 2))
          have n0_ : Aside0 ((((w24.setCell ⟨gb920, 0, none⟩ (.string ((rd_T192 l0 x7_1).f0))).setCell ⟨gb920, 1, none⟩ (.int .i64 ((rd_T192 l0 x7_1).f1))).setCell ⟨gb920, 2, none⟩ (.int .i64 ((rd_T192 l0 x7_1).f2))).heap[gb920]? = some (.cells #[.string ((rd_T192 l0 x7_1).f0), .int .i64 ((rd_T192 l0 x7_1).f1), .int .i64 ((rd_T192 l0 x7_1).f2)] 192 (0, 0))) := ⟨by (with_reducible repeat (first | refine blk_drewN ?_ _ | refine blk_drew ?_ | refine blk_alloc ?_ _)); refine blk_put (cs := #[.string ((rd_T192 l0 x7_1).f0), .int .i64 ((rd_T192 l0 x7_1).f1), .int .i64 0]) ?_ 2 _ rfl; (with_reducible repeat (first | refine blk_drewN ?_ _ | refine blk_drew ?_ | refine blk_alloc ?_ _)); refine blk_put (cs := #[.string ((rd_T192 l0 x7_1).f0), .int .i64 0, .int .i64 0]) ?_ 1 _ rfl; (with_reducible repeat (first | refine blk_drewN ?_ _ | refine blk_drew ?_ | refine blk_alloc ?_ _)); refine blk_put (cs := #[.string (⟨#[]⟩ : ByteArray), .int .i64 0, .int .i64 0]) ?_ 0 _ rfl; (with_reducible repeat (first | refine blk_drewN ?_ _ | refine blk_drew ?_ | refine blk_alloc ?_ _)); exact BK920.out⟩
          have n1_ : Aside0 (Below w.heap.size w (((w24.setCell ⟨gb920, 0, none⟩ (.string ((rd_T192 l0 x7_1).f0))).setCell ⟨gb920, 1, none⟩ (.int .i64 ((rd_T192 l0 x7_1).f1))).setCell ⟨gb920, 2, none⟩ (.int .i64 ((rd_T192 l0 x7_1).f2)))) := ⟨by repeat (first | (with_reducible first | exact HB.out | apply below_alloc | apply pw_below_drewN | apply below_drew1 | refine below_set ?_ GE920.out) | exact HB.out)⟩
          (try clear BK920)
          (try clear HB)
          generalize (((w24.setCell ⟨gb920, 0, none⟩ (.string ((rd_T192 l0 x7_1).f0))).setCell ⟨gb920, 1, none⟩ (.int .i64 ((rd_T192 l0 x7_1).f1))).setCell ⟨gb920, 2, none⟩ (.int .i64 ((rd_T192 l0 x7_1).f2))) = w26 at n0_ n1_ ⊢
          have BK920 := n0_
          have HB := n1_
          clear n0_ n1_
          have n0_ := Aside0.mk (blk_drew BK920.out)
          have n1_ := Aside0.mk (below_drew1 HB.out)
          clear BK920
          clear HB
          have BK920 := n0_
          have HB := n1_
          clear n0_ n1_
          refine wp_region_later (by kernel_rfl) (by kernel_rfl) ?_
          have hL0_ := Aside0.mk (show w26.drew.cell? ⟨gb920, 0, none⟩ = some (.string ((rd_T192 l0 x7_1).f0)) from (blk_cell BK920.out 0).trans rfl)
          have hL1_ := Aside0.mk (show w26.drew.cell? ⟨gb920, 1, none⟩ = some (.int .i64 ((rd_T192 l0 x7_1).f1)) from (blk_cell BK920.out 1).trans rfl)
          have hL2_ := Aside0.mk (show w26.drew.cell? ⟨gb920, 2, none⟩ = some (.int .i64 ((rd_T192 l0 x7_1).f2)) from (blk_cell BK920.out 2).trans rfl)
          generalize w26.drew = w27b at BK920 HB hL0_ hL1_ hL2_ ⊢
          have hL0 := fun (p_ : Later w27b) => Later.cell p_ hL0_.out
          have hL1 := fun (p_ : Later w27b) => Later.cell p_ hL1_.out
          have hL2 := fun (p_ : Later w27b) => Later.cell p_ hL2_.out
          clear hL0_ hL1_ hL2_
          repeat (first | go_big_quiet_step ((first | (go_at_call 185; with_reducible exact Calls.later_drawn (impl_shortName.calls k1 ((rd_T192 l0 x7_1).f0) true _ A5.out)) | (go_at_call 158; with_reducible exact Calls.later_drawn (impl_rootOK.calls ((rd_T192 l0 x7_1).f1) true _ A7.out)) | (go_at_call 120; with_reducible exact Calls.later_drawn (impl_within.calls ((rd_T192 l0 x7_1).f2) 0 60000 true _ A9.out)) | (go_at_call 185; exact Calls.later_drawn (impl_shortName.calls k1 ((rd_T192 l0 x7_1).f0) true _ A5.out)) | (go_at_call 158; exact Calls.later_drawn (impl_rootOK.calls ((rd_T192 l0 x7_1).f1) true _ A7.out)) | (go_at_call 120; exact Calls.later_drawn (impl_within.calls ((rd_T192 l0 x7_1).f2) 0 60000 true _ A9.out)))) | quiet_step ((first | (go_at_call 185; with_reducible exact Calls.later_drawn (impl_shortName.calls k1 ((rd_T192 l0 x7_1).f0) true _ A5.out)) | (go_at_call 158; with_reducible exact Calls.later_drawn (impl_rootOK.calls ((rd_T192 l0 x7_1).f1) true _ A7.out)) | (go_at_call 120; with_reducible exact Calls.later_drawn (impl_within.calls ((rd_T192 l0 x7_1).f2) 0 60000 true _ A9.out)) | (go_at_call 185; exact Calls.later_drawn (impl_shortName.calls k1 ((rd_T192 l0 x7_1).f0) true _ A5.out)) | (go_at_call 158; exact Calls.later_drawn (impl_rootOK.calls ((rd_T192 l0 x7_1).f1) true _ A7.out)) | (go_at_call 120; exact Calls.later_drawn (impl_within.calls ((rd_T192 l0 x7_1).f2) 0 60000 true _ A9.out)))))
          refine wpQuiet_nil ?_
          rintro w27 ⟨⟨wq_, hbL⟩, hq_⟩
          have hq2_ : w27 = wq_ := hq_
          clear hq_
          subst hq2_
          clear hL0 hL1 hL2
          have nBK920_ := Aside0.mk ((hbL.block _ (blk_lt BK920.out)).trans BK920.out)
          have nHB_ := Aside0.mk (below_step HB.out hbL)
          clear BK920
          clear HB
          have BK920 := nBK920_
          have HB := nHB_
          clear nBK920_
          clear nHB_
          clear hbL
          try go_wp2
          go_roundg k1
          case measure => have := HK1.out; omega
          case rel => exact ⟨(wrap64 (x7_1 + 1)), (by first | rfl | (simp; done) | (simp [*]; done)), H', ⟨by have := HK1.out; omega⟩, ⟨by repeat (first | (with_reducible first | exact HB.out | apply below_alloc | apply pw_below_drewN | apply below_drew1 | refine below_set ?_ GE920.out) | exact HB.out)⟩⟩
        ·replace c10 := Bool.eq_false_iff.mpr c10
         subst c10
         have H1 : (some false) = some r := by rw [if_neg (show ¬ (false = true) by decide)] at H; exact H
         clear H
         have H := H1
         clear H1
         obtain rfl := Option.some.inj H
         have p919 : 0 ≤ (x7_1 : Int) := of_decide_eq_true (by first | (with_reducible assumption) | assumption)
         have q919 : x7_1 < (l0.length : Int) := of_decide_eq_true (by first | (with_reducible assumption) | assumption)
         obtain ⟨ad919, e919, hx919_0, hx919_1, hx919_2⟩ := at_T192 HR0.out x7_1 p919 q919
         cases e919
         replace hx919_0 := (HB.out.cell (World.block_lt_of_cell? w _ hx919_0)).trans hx919_0
         replace hx919_1 := (HB.out.cell (World.block_lt_of_cell? w _ hx919_1)).trans hx919_1
         replace hx919_2 := (HB.out.cell (World.block_lt_of_cell? w _ hx919_2)).trans hx919_2
         replace p919 := eq_true p919
         replace q919 := eq_true q919
         try go_wp2_with (first | ((with_reducible refine gate_dst (N := 4) rfl ?_); refine box_event ?hg (N := 4) ?hd (cs := #[.string (⟨#[]⟩ : ByteArray), .int .i64 0, .int .i64 0]) (t := 192) ?hr ?_; (case hd => rfl); (case hg => rfl); (case hr => first | (go_simp; done) | (go_simp; rfl)); intro gb920 hg w28 hbox hb; have n0_ := Aside0.mk (below_step (by repeat (first | (with_reducible first | exact HB.out | apply below_alloc | apply pw_below_drewN | apply below_drew1) | exact HB.out)) hb); have n1_ := Aside0.mk (hbox); have n2_ := Aside0.mk ((by rw [hg]; exact (below_size (by repeat (first | (with_reducible first | exact HB.out | apply below_alloc | apply pw_below_drewN | apply below_drew1) | exact HB.out))) : w.heap.size ≤ gb920)); have n3_ := Aside0.mk ((by rw [hg]; exact (below_size (by repeat (first | (with_reducible first | exact HB.out | apply below_alloc | apply pw_below_drewN | apply below_drew1) | exact HB.out))) : w.heap.size ≤ gb920)); clear HB; have HB := n0_; have BK920 := n1_; have GW920 := n2_; have GE920 := n3_; clear n0_ n1_ n2_ n3_; clear hb hbox hg; have hcz29_0 : w28.cell? ⟨gb920, 0, none⟩ = some (.string (⟨#[]⟩ : ByteArray)) := (blk_cell BK920.out 0).trans rfl; have hcz29_1 : w28.cell? ⟨gb920, 1, none⟩ = some (.int .i64 0) := (blk_cell BK920.out 1).trans rfl; have hcz29_2 : w28.cell? ⟨gb920, 2, none⟩ = some (.int .i64 0) := (blk_cell BK920.out 2).trans rfl; have hfz29_0 := blk_frozen BK920.out 0; have hfz29_1 := blk_frozen BK920.out 1; have hfz29_2 := blk_frozen BK920.out 2))
         have n0_ : Aside0 ((((w28.setCell ⟨gb920, 0, none⟩ (.string ((rd_T192 l0 x7_1).f0))).setCell ⟨gb920, 1, none⟩ (.int .i64 ((rd_T192 l0 x7_1).f1))).setCell ⟨gb920, 2, none⟩ (.int .i64 ((rd_T192 l0 x7_1).f2))).heap[gb920]? = some (.cells #[.string ((rd_T192 l0 x7_1).f0), .int .i64 ((rd_T192 l0 x7_1).f1), .int .i64 ((rd_T192 l0 x7_1).f2)] 192 (0, 0))) := ⟨by (with_reducible repeat (first | refine blk_drewN ?_ _ | refine blk_drew ?_ | refine blk_alloc ?_ _)); refine blk_put (cs := #[.string ((rd_T192 l0 x7_1).f0), .int .i64 ((rd_T192 l0 x7_1).f1), .int .i64 0]) ?_ 2 _ rfl; (with_reducible repeat (first | refine blk_drewN ?_ _ | refine blk_drew ?_ | refine blk_alloc ?_ _)); refine blk_put (cs := #[.string ((rd_T192 l0 x7_1).f0), .int .i64 0, .int .i64 0]) ?_ 1 _ rfl; (with_reducible repeat (first | refine blk_drewN ?_ _ | refine blk_drew ?_ | refine blk_alloc ?_ _)); refine blk_put (cs := #[.string (⟨#[]⟩ : ByteArray), .int .i64 0, .int .i64 0]) ?_ 0 _ rfl; (with_reducible repeat (first | refine blk_drewN ?_ _ | refine blk_drew ?_ | refine blk_alloc ?_ _)); exact BK920.out⟩
         have n1_ : Aside0 (Below w.heap.size w (((w28.setCell ⟨gb920, 0, none⟩ (.string ((rd_T192 l0 x7_1).f0))).setCell ⟨gb920, 1, none⟩ (.int .i64 ((rd_T192 l0 x7_1).f1))).setCell ⟨gb920, 2, none⟩ (.int .i64 ((rd_T192 l0 x7_1).f2)))) := ⟨by repeat (first | (with_reducible first | exact HB.out | apply below_alloc | apply pw_below_drewN | apply below_drew1 | refine below_set ?_ GE920.out) | exact HB.out)⟩
         (try clear BK920)
         (try clear HB)
         generalize (((w28.setCell ⟨gb920, 0, none⟩ (.string ((rd_T192 l0 x7_1).f0))).setCell ⟨gb920, 1, none⟩ (.int .i64 ((rd_T192 l0 x7_1).f1))).setCell ⟨gb920, 2, none⟩ (.int .i64 ((rd_T192 l0 x7_1).f2))) = w30 at n0_ n1_ ⊢
         have BK920 := n0_
         have HB := n1_
         clear n0_ n1_
         have n0_ := Aside0.mk (blk_drew BK920.out)
         have n1_ := Aside0.mk (below_drew1 HB.out)
         clear BK920
         clear HB
         have BK920 := n0_
         have HB := n1_
         clear n0_ n1_
         refine wp_region_later (by kernel_rfl) (by kernel_rfl) ?_
         have hL0_ := Aside0.mk (show w30.drew.cell? ⟨gb920, 0, none⟩ = some (.string ((rd_T192 l0 x7_1).f0)) from (blk_cell BK920.out 0).trans rfl)
         have hL1_ := Aside0.mk (show w30.drew.cell? ⟨gb920, 1, none⟩ = some (.int .i64 ((rd_T192 l0 x7_1).f1)) from (blk_cell BK920.out 1).trans rfl)
         have hL2_ := Aside0.mk (show w30.drew.cell? ⟨gb920, 2, none⟩ = some (.int .i64 ((rd_T192 l0 x7_1).f2)) from (blk_cell BK920.out 2).trans rfl)
         generalize w30.drew = w31b at BK920 HB hL0_ hL1_ hL2_ ⊢
         have hL0 := fun (p_ : Later w31b) => Later.cell p_ hL0_.out
         have hL1 := fun (p_ : Later w31b) => Later.cell p_ hL1_.out
         have hL2 := fun (p_ : Later w31b) => Later.cell p_ hL2_.out
         clear hL0_ hL1_ hL2_
         repeat (first | go_big_quiet_step ((first | (go_at_call 185; with_reducible exact Calls.later_drawn (impl_shortName.calls k1 ((rd_T192 l0 x7_1).f0) true _ A5.out)) | (go_at_call 158; with_reducible exact Calls.later_drawn (impl_rootOK.calls ((rd_T192 l0 x7_1).f1) true _ A7.out)) | (go_at_call 120; with_reducible exact Calls.later_drawn (impl_within.calls ((rd_T192 l0 x7_1).f2) 0 60000 false _ A9.out)) | (go_at_call 185; exact Calls.later_drawn (impl_shortName.calls k1 ((rd_T192 l0 x7_1).f0) true _ A5.out)) | (go_at_call 158; exact Calls.later_drawn (impl_rootOK.calls ((rd_T192 l0 x7_1).f1) true _ A7.out)) | (go_at_call 120; exact Calls.later_drawn (impl_within.calls ((rd_T192 l0 x7_1).f2) 0 60000 false _ A9.out)))) | quiet_step ((first | (go_at_call 185; with_reducible exact Calls.later_drawn (impl_shortName.calls k1 ((rd_T192 l0 x7_1).f0) true _ A5.out)) | (go_at_call 158; with_reducible exact Calls.later_drawn (impl_rootOK.calls ((rd_T192 l0 x7_1).f1) true _ A7.out)) | (go_at_call 120; with_reducible exact Calls.later_drawn (impl_within.calls ((rd_T192 l0 x7_1).f2) 0 60000 false _ A9.out)) | (go_at_call 185; exact Calls.later_drawn (impl_shortName.calls k1 ((rd_T192 l0 x7_1).f0) true _ A5.out)) | (go_at_call 158; exact Calls.later_drawn (impl_rootOK.calls ((rd_T192 l0 x7_1).f1) true _ A7.out)) | (go_at_call 120; exact Calls.later_drawn (impl_within.calls ((rd_T192 l0 x7_1).f2) 0 60000 false _ A9.out)))))
         refine wpQuiet_nil ?_
         rintro w31 ⟨⟨wq_, hbL⟩, hq_⟩
         have hq2_ : w31 = wq_ := hq_
         clear hq_
         subst hq2_
         clear hL0 hL1 hL2
         have nBK920_ := Aside0.mk ((hbL.block _ (blk_lt BK920.out)).trans BK920.out)
         have nHB_ := Aside0.mk (below_step HB.out hbL)
         clear BK920
         clear HB
         have BK920 := nBK920_
         have HB := nHB_
         clear nBK920_
         clear nHB_
         clear hbL
         try go_wp2
         go_ret
         exact ⟨by first | rfl | (simp [errW_none, errW_some] <;> rfl) | (simp [*, errW_none, errW_some] <;> rfl), by repeat (first | (with_reducible first | exact HB.out | apply below_alloc | apply pw_below_drewN | apply below_drew1 | refine below_set ?_ GE920.out) | exact HB.out)⟩
       ·replace c8 := Bool.eq_false_iff.mpr c8
        subst c8
        have H1 : (some false) = some r := by rw [if_neg (show ¬ (false = true) by decide)] at H; exact H
        clear H
        have H := H1
        clear H1
        obtain rfl := Option.some.inj H
        have p919 : 0 ≤ (x7_1 : Int) := of_decide_eq_true (by first | (with_reducible assumption) | assumption)
        have q919 : x7_1 < (l0.length : Int) := of_decide_eq_true (by first | (with_reducible assumption) | assumption)
        obtain ⟨ad919, e919, hx919_0, hx919_1, hx919_2⟩ := at_T192 HR0.out x7_1 p919 q919
        cases e919
        replace hx919_0 := (HB.out.cell (World.block_lt_of_cell? w _ hx919_0)).trans hx919_0
        replace hx919_1 := (HB.out.cell (World.block_lt_of_cell? w _ hx919_1)).trans hx919_1
        replace hx919_2 := (HB.out.cell (World.block_lt_of_cell? w _ hx919_2)).trans hx919_2
        replace p919 := eq_true p919
        replace q919 := eq_true q919
        try go_wp2_with (first | ((with_reducible refine gate_dst (N := 4) rfl ?_); refine box_event ?hg (N := 4) ?hd (cs := #[.string (⟨#[]⟩ : ByteArray), .int .i64 0, .int .i64 0]) (t := 192) ?hr ?_; (case hd => rfl); (case hg => rfl); (case hr => first | (go_simp; done) | (go_simp; rfl)); intro gb920 hg w32 hbox hb; have n0_ := Aside0.mk (below_step (by repeat (first | (with_reducible first | exact HB.out | apply below_alloc | apply pw_below_drewN | apply below_drew1) | exact HB.out)) hb); have n1_ := Aside0.mk (hbox); have n2_ := Aside0.mk ((by rw [hg]; exact (below_size (by repeat (first | (with_reducible first | exact HB.out | apply below_alloc | apply pw_below_drewN | apply below_drew1) | exact HB.out))) : w.heap.size ≤ gb920)); have n3_ := Aside0.mk ((by rw [hg]; exact (below_size (by repeat (first | (with_reducible first | exact HB.out | apply below_alloc | apply pw_below_drewN | apply below_drew1) | exact HB.out))) : w.heap.size ≤ gb920)); clear HB; have HB := n0_; have BK920 := n1_; have GW920 := n2_; have GE920 := n3_; clear n0_ n1_ n2_ n3_; clear hb hbox hg; have hcz33_0 : w32.cell? ⟨gb920, 0, none⟩ = some (.string (⟨#[]⟩ : ByteArray)) := (blk_cell BK920.out 0).trans rfl; have hcz33_1 : w32.cell? ⟨gb920, 1, none⟩ = some (.int .i64 0) := (blk_cell BK920.out 1).trans rfl; have hcz33_2 : w32.cell? ⟨gb920, 2, none⟩ = some (.int .i64 0) := (blk_cell BK920.out 2).trans rfl; have hfz33_0 := blk_frozen BK920.out 0; have hfz33_1 := blk_frozen BK920.out 1; have hfz33_2 := blk_frozen BK920.out 2))
        have n0_ : Aside0 ((((w32.setCell ⟨gb920, 0, none⟩ (.string ((rd_T192 l0 x7_1).f0))).setCell ⟨gb920, 1, none⟩ (.int .i64 ((rd_T192 l0 x7_1).f1))).setCell ⟨gb920, 2, none⟩ (.int .i64 ((rd_T192 l0 x7_1).f2))).heap[gb920]? = some (.cells #[.string ((rd_T192 l0 x7_1).f0), .int .i64 ((rd_T192 l0 x7_1).f1), .int .i64 ((rd_T192 l0 x7_1).f2)] 192 (0, 0))) := ⟨by (with_reducible repeat (first | refine blk_drewN ?_ _ | refine blk_drew ?_ | refine blk_alloc ?_ _)); refine blk_put (cs := #[.string ((rd_T192 l0 x7_1).f0), .int .i64 ((rd_T192 l0 x7_1).f1), .int .i64 0]) ?_ 2 _ rfl; (with_reducible repeat (first | refine blk_drewN ?_ _ | refine blk_drew ?_ | refine blk_alloc ?_ _)); refine blk_put (cs := #[.string ((rd_T192 l0 x7_1).f0), .int .i64 0, .int .i64 0]) ?_ 1 _ rfl; (with_reducible repeat (first | refine blk_drewN ?_ _ | refine blk_drew ?_ | refine blk_alloc ?_ _)); refine blk_put (cs := #[.string (⟨#[]⟩ : ByteArray), .int .i64 0, .int .i64 0]) ?_ 0 _ rfl; (with_reducible repeat (first | refine blk_drewN ?_ _ | refine blk_drew ?_ | refine blk_alloc ?_ _)); exact BK920.out⟩
        have n1_ : Aside0 (Below w.heap.size w (((w32.setCell ⟨gb920, 0, none⟩ (.string ((rd_T192 l0 x7_1).f0))).setCell ⟨gb920, 1, none⟩ (.int .i64 ((rd_T192 l0 x7_1).f1))).setCell ⟨gb920, 2, none⟩ (.int .i64 ((rd_T192 l0 x7_1).f2)))) := ⟨by repeat (first | (with_reducible first | exact HB.out | apply below_alloc | apply pw_below_drewN | apply below_drew1 | refine below_set ?_ GE920.out) | exact HB.out)⟩
        (try clear BK920)
        (try clear HB)
        generalize (((w32.setCell ⟨gb920, 0, none⟩ (.string ((rd_T192 l0 x7_1).f0))).setCell ⟨gb920, 1, none⟩ (.int .i64 ((rd_T192 l0 x7_1).f1))).setCell ⟨gb920, 2, none⟩ (.int .i64 ((rd_T192 l0 x7_1).f2))) = w34 at n0_ n1_ ⊢
        have BK920 := n0_
        have HB := n1_
        clear n0_ n1_
        have n0_ := Aside0.mk (blk_drew BK920.out)
        have n1_ := Aside0.mk (below_drew1 HB.out)
        clear BK920
        clear HB
        have BK920 := n0_
        have HB := n1_
        clear n0_ n1_
        refine wp_region_later (by kernel_rfl) (by kernel_rfl) ?_
        have hL0_ := Aside0.mk (show w34.drew.cell? ⟨gb920, 0, none⟩ = some (.string ((rd_T192 l0 x7_1).f0)) from (blk_cell BK920.out 0).trans rfl)
        have hL1_ := Aside0.mk (show w34.drew.cell? ⟨gb920, 1, none⟩ = some (.int .i64 ((rd_T192 l0 x7_1).f1)) from (blk_cell BK920.out 1).trans rfl)
        have hL2_ := Aside0.mk (show w34.drew.cell? ⟨gb920, 2, none⟩ = some (.int .i64 ((rd_T192 l0 x7_1).f2)) from (blk_cell BK920.out 2).trans rfl)
        generalize w34.drew = w35b at BK920 HB hL0_ hL1_ hL2_ ⊢
        have hL0 := fun (p_ : Later w35b) => Later.cell p_ hL0_.out
        have hL1 := fun (p_ : Later w35b) => Later.cell p_ hL1_.out
        have hL2 := fun (p_ : Later w35b) => Later.cell p_ hL2_.out
        clear hL0_ hL1_ hL2_
        repeat (first | go_big_quiet_step ((first | (go_at_call 185; with_reducible exact Calls.later_drawn (impl_shortName.calls k1 ((rd_T192 l0 x7_1).f0) true _ A5.out)) | (go_at_call 158; with_reducible exact Calls.later_drawn (impl_rootOK.calls ((rd_T192 l0 x7_1).f1) false _ A7.out)) | (go_at_call 185; exact Calls.later_drawn (impl_shortName.calls k1 ((rd_T192 l0 x7_1).f0) true _ A5.out)) | (go_at_call 158; exact Calls.later_drawn (impl_rootOK.calls ((rd_T192 l0 x7_1).f1) false _ A7.out)))) | quiet_step ((first | (go_at_call 185; with_reducible exact Calls.later_drawn (impl_shortName.calls k1 ((rd_T192 l0 x7_1).f0) true _ A5.out)) | (go_at_call 158; with_reducible exact Calls.later_drawn (impl_rootOK.calls ((rd_T192 l0 x7_1).f1) false _ A7.out)) | (go_at_call 185; exact Calls.later_drawn (impl_shortName.calls k1 ((rd_T192 l0 x7_1).f0) true _ A5.out)) | (go_at_call 158; exact Calls.later_drawn (impl_rootOK.calls ((rd_T192 l0 x7_1).f1) false _ A7.out)))))
        refine wpQuiet_nil ?_
        rintro w35 ⟨⟨wq_, hbL⟩, hq_⟩
        have hq2_ : w35 = wq_ := hq_
        clear hq_
        subst hq2_
        clear hL0 hL1 hL2
        have nBK920_ := Aside0.mk ((hbL.block _ (blk_lt BK920.out)).trans BK920.out)
        have nHB_ := Aside0.mk (below_step HB.out hbL)
        clear BK920
        clear HB
        have BK920 := nBK920_
        have HB := nHB_
        clear nBK920_
        clear nHB_
        clear hbL
        try go_wp2
        go_ret
        exact ⟨by first | rfl | (simp [errW_none, errW_some] <;> rfl) | (simp [*, errW_none, errW_some] <;> rfl), by repeat (first | (with_reducible first | exact HB.out | apply below_alloc | apply pw_below_drewN | apply below_drew1 | refine below_set ?_ GE920.out) | exact HB.out)⟩
      ·replace c6 := Bool.eq_false_iff.mpr c6
       subst c6
       have H1 : (some false) = some r := by rw [if_neg (show ¬ (false = true) by decide)] at H; exact H
       clear H
       have H := H1
       clear H1
       obtain rfl := Option.some.inj H
       have p919 : 0 ≤ (x7_1 : Int) := of_decide_eq_true (by first | (with_reducible assumption) | assumption)
       have q919 : x7_1 < (l0.length : Int) := of_decide_eq_true (by first | (with_reducible assumption) | assumption)
       obtain ⟨ad919, e919, hx919_0, hx919_1, hx919_2⟩ := at_T192 HR0.out x7_1 p919 q919
       cases e919
       replace hx919_0 := (HB.out.cell (World.block_lt_of_cell? w _ hx919_0)).trans hx919_0
       replace hx919_1 := (HB.out.cell (World.block_lt_of_cell? w _ hx919_1)).trans hx919_1
       replace hx919_2 := (HB.out.cell (World.block_lt_of_cell? w _ hx919_2)).trans hx919_2
       replace p919 := eq_true p919
       replace q919 := eq_true q919
       try go_wp2_with (first | ((with_reducible refine gate_dst (N := 4) rfl ?_); refine box_event ?hg (N := 4) ?hd (cs := #[.string (⟨#[]⟩ : ByteArray), .int .i64 0, .int .i64 0]) (t := 192) ?hr ?_; (case hd => rfl); (case hg => rfl); (case hr => first | (go_simp; done) | (go_simp; rfl)); intro gb920 hg w36 hbox hb; have n0_ := Aside0.mk (below_step (by repeat (first | (with_reducible first | exact HB.out | apply below_alloc | apply pw_below_drewN | apply below_drew1) | exact HB.out)) hb); have n1_ := Aside0.mk (hbox); have n2_ := Aside0.mk ((by rw [hg]; exact (below_size (by repeat (first | (with_reducible first | exact HB.out | apply below_alloc | apply pw_below_drewN | apply below_drew1) | exact HB.out))) : w.heap.size ≤ gb920)); have n3_ := Aside0.mk ((by rw [hg]; exact (below_size (by repeat (first | (with_reducible first | exact HB.out | apply below_alloc | apply pw_below_drewN | apply below_drew1) | exact HB.out))) : w.heap.size ≤ gb920)); clear HB; have HB := n0_; have BK920 := n1_; have GW920 := n2_; have GE920 := n3_; clear n0_ n1_ n2_ n3_; clear hb hbox hg; have hcz37_0 : w36.cell? ⟨gb920, 0, none⟩ = some (.string (⟨#[]⟩ : ByteArray)) := (blk_cell BK920.out 0).trans rfl; have hcz37_1 : w36.cell? ⟨gb920, 1, none⟩ = some (.int .i64 0) := (blk_cell BK920.out 1).trans rfl; have hcz37_2 : w36.cell? ⟨gb920, 2, none⟩ = some (.int .i64 0) := (blk_cell BK920.out 2).trans rfl; have hfz37_0 := blk_frozen BK920.out 0; have hfz37_1 := blk_frozen BK920.out 1; have hfz37_2 := blk_frozen BK920.out 2))
       have n0_ : Aside0 ((((w36.setCell ⟨gb920, 0, none⟩ (.string ((rd_T192 l0 x7_1).f0))).setCell ⟨gb920, 1, none⟩ (.int .i64 ((rd_T192 l0 x7_1).f1))).setCell ⟨gb920, 2, none⟩ (.int .i64 ((rd_T192 l0 x7_1).f2))).heap[gb920]? = some (.cells #[.string ((rd_T192 l0 x7_1).f0), .int .i64 ((rd_T192 l0 x7_1).f1), .int .i64 ((rd_T192 l0 x7_1).f2)] 192 (0, 0))) := ⟨by (with_reducible repeat (first | refine blk_drewN ?_ _ | refine blk_drew ?_ | refine blk_alloc ?_ _)); refine blk_put (cs := #[.string ((rd_T192 l0 x7_1).f0), .int .i64 ((rd_T192 l0 x7_1).f1), .int .i64 0]) ?_ 2 _ rfl; (with_reducible repeat (first | refine blk_drewN ?_ _ | refine blk_drew ?_ | refine blk_alloc ?_ _)); refine blk_put (cs := #[.string ((rd_T192 l0 x7_1).f0), .int .i64 0, .int .i64 0]) ?_ 1 _ rfl; (with_reducible repeat (first | refine blk_drewN ?_ _ | refine blk_drew ?_ | refine blk_alloc ?_ _)); refine blk_put (cs := #[.string (⟨#[]⟩ : ByteArray), .int .i64 0, .int .i64 0]) ?_ 0 _ rfl; (with_reducible repeat (first | refine blk_drewN ?_ _ | refine blk_drew ?_ | refine blk_alloc ?_ _)); exact BK920.out⟩
       have n1_ : Aside0 (Below w.heap.size w (((w36.setCell ⟨gb920, 0, none⟩ (.string ((rd_T192 l0 x7_1).f0))).setCell ⟨gb920, 1, none⟩ (.int .i64 ((rd_T192 l0 x7_1).f1))).setCell ⟨gb920, 2, none⟩ (.int .i64 ((rd_T192 l0 x7_1).f2)))) := ⟨by repeat (first | (with_reducible first | exact HB.out | apply below_alloc | apply pw_below_drewN | apply below_drew1 | refine below_set ?_ GE920.out) | exact HB.out)⟩
       (try clear BK920)
       (try clear HB)
       generalize (((w36.setCell ⟨gb920, 0, none⟩ (.string ((rd_T192 l0 x7_1).f0))).setCell ⟨gb920, 1, none⟩ (.int .i64 ((rd_T192 l0 x7_1).f1))).setCell ⟨gb920, 2, none⟩ (.int .i64 ((rd_T192 l0 x7_1).f2))) = w38 at n0_ n1_ ⊢
       have BK920 := n0_
       have HB := n1_
       clear n0_ n1_
       have n0_ := Aside0.mk (blk_drew BK920.out)
       have n1_ := Aside0.mk (below_drew1 HB.out)
       clear BK920
       clear HB
       have BK920 := n0_
       have HB := n1_
       clear n0_ n1_
       refine wp_region_later (by kernel_rfl) (by kernel_rfl) ?_
       have hL0_ := Aside0.mk (show w38.drew.cell? ⟨gb920, 0, none⟩ = some (.string ((rd_T192 l0 x7_1).f0)) from (blk_cell BK920.out 0).trans rfl)
       have hL1_ := Aside0.mk (show w38.drew.cell? ⟨gb920, 1, none⟩ = some (.int .i64 ((rd_T192 l0 x7_1).f1)) from (blk_cell BK920.out 1).trans rfl)
       have hL2_ := Aside0.mk (show w38.drew.cell? ⟨gb920, 2, none⟩ = some (.int .i64 ((rd_T192 l0 x7_1).f2)) from (blk_cell BK920.out 2).trans rfl)
       generalize w38.drew = w39b at BK920 HB hL0_ hL1_ hL2_ ⊢
       have hL0 := fun (p_ : Later w39b) => Later.cell p_ hL0_.out
       have hL1 := fun (p_ : Later w39b) => Later.cell p_ hL1_.out
       have hL2 := fun (p_ : Later w39b) => Later.cell p_ hL2_.out
       clear hL0_ hL1_ hL2_
       repeat (first | go_big_quiet_step ((first | (go_at_call 185; exact Calls.later_drawn (impl_shortName.calls k1 ((rd_T192 l0 x7_1).f0) false _ A5.out)))) | quiet_step ((first | (go_at_call 185; exact Calls.later_drawn (impl_shortName.calls k1 ((rd_T192 l0 x7_1).f0) false _ A5.out)))))
       refine wpQuiet_nil ?_
       rintro w39 ⟨⟨wq_, hbL⟩, hq_⟩
       have hq2_ : w39 = wq_ := hq_
       clear hq_
       subst hq2_
       clear hL0 hL1 hL2
       have nBK920_ := Aside0.mk ((hbL.block _ (blk_lt BK920.out)).trans BK920.out)
       have nHB_ := Aside0.mk (below_step HB.out hbL)
       clear BK920
       clear HB
       have BK920 := nBK920_
       have HB := nHB_
       clear nBK920_
       clear nHB_
       clear hbL
       try go_wp2
       go_ret
       exact ⟨by first | rfl | (simp [errW_none, errW_some] <;> rfl) | (simp [*, errW_none, errW_some] <;> rfl), by repeat (first | (with_reducible first | exact HB.out | apply below_alloc | apply pw_below_drewN | apply below_drew1 | refine below_set ?_ GE920.out) | exact HB.out)⟩
     ·rw [if_neg c4] at H
      exact absurd H (by simp)
    ·rw [if_neg c3] at H
     exact absurd H (by simp)
   ·rw [if_neg c2] at H
    have c2b0 : decide (x7_1 < (l0.length : Int)) = false := decide_eq_false c2
    clear c2
    obtain rfl := Option.some.inj H
    go_wp2
    go_ret
    exact ⟨by first | rfl | (simp [errW_none, errW_some] <;> rfl) | (simp [*, errW_none, errW_some] <;> rfl), by repeat (first | (with_reducible first | exact HB.out | apply below_alloc | apply pw_below_drewN | apply below_drew1) | exact HB.out)⟩
end Go.Proofs.Ytenfomejccfkgaa.X
