import Derived.Test.YtgcncphdjabjjaaKFnExactReplay3
import Derived.Test.YtgcncphdjabjjaaKFnExactReplay4
import Derived.Test.YtgcncphdjabjjaaKFnExactReplay5
import Derived.Lib.Bytealg
import Derived.Laws.Externs
import Derived.Laws.Strings
import Derived.Sort.Walk0
import Derived.LoopTactic
import Derived.BigQuiet
namespace Go.Proofs.Ytgcncphdjabjjaa.X
open Go.RowKit Go.Proofs.YtgcncphdjabjjaaW.PrintWords Go.Proofs.YtgcncphdjabjjaaW.PrintLast Go.Proofs.YtgcncphdjabjjaaW.PrintMore
attribute [local go_sem] qaC qaD qaE qay qaz qaN qaO qat qau qaA qaB
set_option linter.unusedVariables false
set_option linter.unusedSimpArgs false
def qaP.l0 : Nat → List (S76) → Int → Option (Bool)
 | 0, _, _ => none
 | k + 1, x0, x3 => if x3 < (x0.length : Int) then (if 0 ≤ x3 then ((qbr.f ((qap x0 x3).f0) ((qap x0 x3).f1)).bind fun t107 => (if t107 = true then (if x3 > 0 then (if 0 ≤ (wrap64 (x3 - 1)) then (if (wrap64 (x3 - 1)) < (x0.length : Int) then (if ((Op.bytesLess (((qap x0 (wrap64 (x3 - 1))).f0).toList) (((qap x0 x3).f0).toList)) = true) then (qaP.l0 k x0 (wrap64 (x3 + 1))) else (some false)) else (none)) else (none)) else (qaP.l0 k x0 (wrap64 (x3 + 1)))) else (some false))) else (none)) else (some true)
def qaP.f (k : Nat) (l0 : List (S76)) : Option (Bool) := if (l0.length : Int) > 4096 then (some false) else (if (l0.length : Int) > 60 then (some false) else (qaP.l0 k l0 0))
theorem qaP.qbm : ∀ k, (∀ y0 y1, LeO (qaP.l0 k y0 y1) (qaP.l0 (k + 1) y0 y1))
 | 0 => fun _ _ r h => by simp [qaP.l0] at h
 | k + 1 => by
  have ih0 := qaP.qbm k
  ·intro y0 y1
   unfold qaP.l0
   repeat' first
   | (with_reducible exact ih0 _ _)
   | (with_reducible exact LeO.refl _)
   | (with_reducible exact LeO.none _)
   | (with_reducible refine LeO.ite ?_ ?_)
   | (with_reducible refine LeO.bind ?_ (fun _ => ?_))
   | exact ih0 _ _
   | exact LeO.none _
   | refine LeO.ite ?_ ?_
   | refine LeO.bind ?_ (fun _ => ?_)
theorem qaP.mono : ∀ a0 k, LeO (qaP.f k a0) (qaP.f (k + 1) a0) := by
 intro a0 k
 have ih0 := qaP.qbm k
 unfold qaP.f
 repeat' first
   | (with_reducible exact ih0 _ _)
   | (with_reducible exact LeO.refl _)
   | (with_reducible exact LeO.none _)
   | (with_reducible refine LeO.ite ?_ ?_)
   | (with_reducible refine LeO.bind ?_ (fun _ => ?_))
   | exact ih0 _ _
   | exact LeO.none _
   | refine LeO.ite ?_ ?_
   | refine LeO.bind ?_ (fun _ => ?_)
set_option maxHeartbeats 8000000 in
set_option maxRecDepth 100000 in
theorem qaP.calls (k : Nat) (A0 : Option Addr) (c0 : Nat) (l0 : List (S76)) (r : Bool) (w : World) (hr0 : Kd.C k76 w A0 l0.length l0) (hc0 : l0.length ≤ c0) (h : qaP.f k l0 = some r) :
  Calls Try.prog 50 #[.slice A0 l0.length c0] w fun e w' => e = .returned (.bool r) ∧ Below w.heap.size w w' := by
 have hu76 := Try.underlying76
 have HR0 := Aside0.mk hr0
 have HC0 := Aside0.mk hc0
 clear hr0 hc0
 have HB := Aside0.mk (Below.refl w.heap.size w)
 have H : (if (l0.length : Int) > 4096 then (some false) else (if (l0.length : Int) > 60 then (some false) else (qaP.l0 k l0 0))) = some r := h
 clear h
 by_cases c2 : (l0.length : Int) > 4096
 ·rw [if_pos c2] at H
  have c2b0 : decide (4096 < (l0.length : Int)) = true := decide_eq_true c2
  have c2b1 : decide (4096 < l0.length) = true := decide_eq_true (by omega)
  clear c2
  obtain rfl := Option.some.inj H
  go_enter Try.func50, Try.ntmps50
  go_wp2
  go_ret
  exact ⟨by first | rfl | (simp [qam, qan] <;> rfl) | (simp [*, qam, qan] <;> rfl), by repeat (first | (with_reducible first | exact HB.out | apply qac | apply qaa | apply qab) | exact HB.out)⟩
 ·rw [if_neg c2] at H
  have c2b0 : decide (4096 < (l0.length : Int)) = false := decide_eq_false c2
  have c2b1 : decide (4096 < l0.length) = false := decide_eq_false (by omega)
  clear c2
  by_cases c3 : (l0.length : Int) > 60
  ·rw [if_pos c3] at H
   have c3b0 : decide (60 < (l0.length : Int)) = true := decide_eq_true c3
   have c3b1 : decide (60 < l0.length) = true := decide_eq_true (by omega)
   clear c3
   obtain rfl := Option.some.inj H
   go_enter Try.func50, Try.ntmps50
   go_wp2
   go_ret
   exact ⟨by first | rfl | (simp [qam, qan] <;> rfl) | (simp [*, qam, qan] <;> rfl), by repeat (first | (with_reducible first | exact HB.out | apply qac | apply qaa | apply qab) | exact HB.out)⟩
  ·rw [if_neg c3] at H
   have c3b0 : decide (60 < (l0.length : Int)) = false := decide_eq_false c3
   have c3b1 : decide (60 < l0.length) = false := decide_eq_false (by omega)
   clear c3
   have H' := Aside0.mk H
   clear H
   go_enter Try.func50, Try.ntmps50
   go_wp2
   go_loopg [3] k (fun kq v3 w' => ∃ (x3_1 : Int), v3 = .int .i64 x3_1 ∧ Aside0 (qaP.l0 kq l0 x3_1 = some r) ∧ Aside0 (kq ≤ k) ∧ Aside0 (Below w.heap.size w w'))
   case atStart => exact ⟨(0), (by first | rfl | (simp; done) | (simp [*]; done)), H', ⟨Nat.le_refl _⟩, ⟨by repeat (first | (with_reducible first | exact HB.out | apply qac | apply qaa | apply qab) | exact HB.out)⟩⟩
   case round =>
    clear H'
    try clear c2
    try clear c2b0
    try clear c2b1
    try clear p2
    try clear c3
    try clear c3b0
    try clear c3b1
    obtain ⟨x3_1, rfl, HA, HK1, HB⟩ := hrel
    cases gk with
    | zero => exact absurd HA.out (by simp [qaP.l0])
    | succ k1 =>
     have H := HA.out
     clear HA
     simp only [qaP.l0] at H
     by_cases c4 : x3_1 < (l0.length : Int)
     ·rw [if_pos c4] at H
      have c4b0 : decide (x3_1 < (l0.length : Int)) = true := decide_eq_true c4
      clear c4
      by_cases c5 : 0 ≤ x3_1
      ·rw [if_pos c5] at H
       have c5b0 : decide (0 ≤ x3_1) = true := decide_eq_true c5
       clear c5
       replace H := Option.bind_eq_some_iff.mp H
       obtain ⟨t107, A60, H⟩ := H
       replace H : (if t107 = true then (if x3_1 > 0 then (if 0 ≤ (wrap64 (x3_1 - 1)) then (if (wrap64 (x3_1 - 1)) < (l0.length : Int) then (if ((Op.bytesLess (((qap l0 (wrap64 (x3_1 - 1))).f0).toList) (((qap l0 x3_1).f0).toList)) = true) then (qaP.l0 k1 l0 (wrap64 (x3_1 + 1))) else (some false)) else (none)) else (none)) else (qaP.l0 k1 l0 (wrap64 (x3_1 + 1)))) else (some false)) = some r := H
       have A6 := Aside0.mk A60
       clear A60
       by_cases c7 : t107 = true
       ·subst c7
        have H1 : (if x3_1 > 0 then (if 0 ≤ (wrap64 (x3_1 - 1)) then (if (wrap64 (x3_1 - 1)) < (l0.length : Int) then (if ((Op.bytesLess (((qap l0 (wrap64 (x3_1 - 1))).f0).toList) (((qap l0 x3_1).f0).toList)) = true) then (qaP.l0 k1 l0 (wrap64 (x3_1 + 1))) else (some false)) else (none)) else (none)) else (qaP.l0 k1 l0 (wrap64 (x3_1 + 1)))) = some r := by rw [if_pos rfl] at H; exact H
        clear H
        have H := H1
        clear H1
        by_cases c8 : x3_1 > 0
        ·rw [if_pos c8] at H
         have c8b0 : decide (0 < x3_1) = true := decide_eq_true c8
         clear c8
         obtain ⟨ji9, hji9⟩ : ∃ j_ : Int, (wrap64 (x3_1 - 1)) = j_ := ⟨_, rfl⟩
         replace H : (if 0 ≤ (ji9) then (if (ji9) < (l0.length : Int) then (if ((Op.bytesLess (((qap l0 (ji9)).f0).toList) (((qap l0 x3_1).f0).toList)) = true) then (qaP.l0 k1 l0 (wrap64 (x3_1 + 1))) else (some false)) else (none)) else (none)) = some r := by first | (rw [hji9] at H; exact H) | (simp only [hji9] at H ⊢; exact H)
         (try rw [hji9] at A6)
         have hji9w : (IntKind.i64.wrap (x3_1 - 1)) = ji9 := (qbS _).trans hji9
         by_cases c10 : 0 ≤ (ji9)
         ·rw [if_pos c10] at H
          have c10b0 : decide (0 ≤ (ji9)) = true := decide_eq_true c10
          clear c10
          by_cases c11 : (ji9) < (l0.length : Int)
          ·rw [if_pos c11] at H
           have c11b0 : decide ((ji9) < (l0.length : Int)) = true := decide_eq_true c11
           clear c11
           by_cases c12 : ((Op.bytesLess (((qap l0 (ji9)).f0).toList) (((qap l0 x3_1).f0).toList)) = true)
           ·rw [if_pos c12] at H
            have c12b0 : (Op.bytesLess (((qap l0 (ji9)).f0).toList) (((qap l0 x3_1).f0).toList)) = true := c12
            clear c12
            have H' := Aside0.mk H
            clear H
            try go_wp2
            have n0_ := Aside0.mk (qab HB.out)
            clear HB
            have HB := n0_
            clear n0_
            have p106 : 0 ≤ (x3_1 : Int) := of_decide_eq_true (by first | (with_reducible assumption) | assumption)
            have q106 : x3_1 < (l0.length : Int) := of_decide_eq_true (by first | (with_reducible assumption) | assumption)
            obtain ⟨ad106, e106, hx106_0, hx106_1⟩ := qbO HR0.out x3_1 p106 q106
            have hw106_1 := hx106_1
            have hw106_0 := hx106_0
            cases e106
            replace hx106_0 := (HB.out.cell (World.block_lt_of_cell? w _ hx106_0)).trans hx106_0
            replace hx106_1 := (HB.out.cell (World.block_lt_of_cell? w _ hx106_1)).trans hx106_1
            replace p106 := eq_true p106
            replace q106 := eq_true q106
            have p108 : 0 ≤ ((ji9) : Int) := of_decide_eq_true (by first | (with_reducible assumption) | assumption)
            have q108 : (ji9) < (l0.length : Int) := of_decide_eq_true (by first | (with_reducible assumption) | assumption)
            obtain ⟨ad108, e108, hx108_0, hx108_1⟩ := qbO HR0.out (ji9) p108 q108
            have hw108_1 := hx108_1
            have hw108_0 := hx108_0
            obtain rfl : ad106 = ad108 := (by injection e108)
            replace hx108_0 := (HB.out.cell (World.block_lt_of_cell? w _ hx108_0)).trans hx108_0
            replace hx108_1 := (HB.out.cell (World.block_lt_of_cell? w _ hx108_1)).trans hx108_1
            replace p108 := eq_true p108
            replace q108 := eq_true q108
            have p109 : 0 ≤ (x3_1 : Int) := of_decide_eq_true (by first | (with_reducible assumption) | assumption)
            have q109 : x3_1 < (l0.length : Int) := of_decide_eq_true (by first | (with_reducible assumption) | assumption)
            obtain ⟨ad109, e109, hx109_0, hx109_1⟩ := qbO HR0.out x3_1 p109 q109
            have hw109_1 := hx109_1
            have hw109_0 := hx109_0
            obtain rfl : ad106 = ad109 := (by injection e109)
            replace hx109_0 := (HB.out.cell (World.block_lt_of_cell? w _ hx109_0)).trans hx109_0
            replace hx109_1 := (HB.out.cell (World.block_lt_of_cell? w _ hx109_1)).trans hx109_1
            replace p109 := eq_true p109
            replace q109 := eq_true q109
            refine qa8 (by kernel_rfl) (by kernel_rfl) ?_
            have hL0_ := Aside0.mk (show wr.drew.cell? (ad106.add ((x3_1).toNat * 2)) = some (.string ((qap l0 x3_1).f0)) from ((HB.out.cell (World.block_lt_of_cell? w _ hw106_0)).trans hw106_0))
            have hL1_ := Aside0.mk (show wr.drew.cell? ⟨(ad106.add ((x3_1).toNat * 2)).block, (ad106.add ((x3_1).toNat * 2)).off + 1, none⟩ = some (.string ((qap l0 x3_1).f1)) from ((HB.out.cell (World.block_lt_of_cell? w _ hw106_1)).trans hw106_1))
            have hL2_ := Aside0.mk (show wr.drew.cell? (ad106.add (((ji9)).toNat * 2)) = some (.string ((qap l0 (ji9)).f0)) from ((HB.out.cell (World.block_lt_of_cell? w _ hw108_0)).trans hw108_0))
            have hL3_ := Aside0.mk (show wr.drew.cell? ⟨(ad106.add (((ji9)).toNat * 2)).block, (ad106.add (((ji9)).toNat * 2)).off + 1, none⟩ = some (.string ((qap l0 (ji9)).f1)) from ((HB.out.cell (World.block_lt_of_cell? w _ hw108_1)).trans hw108_1))
            have hL4_ := Aside0.mk (show wr.drew.cell? (ad106.add ((x3_1).toNat * 2)) = some (.string ((qap l0 x3_1).f0)) from ((HB.out.cell (World.block_lt_of_cell? w _ hw109_0)).trans hw109_0))
            have hL5_ := Aside0.mk (show wr.drew.cell? ⟨(ad106.add ((x3_1).toNat * 2)).block, (ad106.add ((x3_1).toNat * 2)).off + 1, none⟩ = some (.string ((qap l0 x3_1).f1)) from ((HB.out.cell (World.block_lt_of_cell? w _ hw109_1)).trans hw109_1))
            generalize wr.drew = w13 at HB hx106_0 hx106_1 hx108_0 hx108_1 hx109_0 hx109_1 hL0_ hL1_ hL2_ hL3_ hL4_ hL5_ ⊢
            clear hx106_0 hx106_1 hx108_0 hx108_1 hx109_0 hx109_1
            have hL0 := fun (p_ : Later w13) => Later.cell p_ hL0_.out
            have hL1 := fun (p_ : Later w13) => Later.cell p_ hL1_.out
            have hL2 := fun (p_ : Later w13) => Later.cell p_ hL2_.out
            have hL3 := fun (p_ : Later w13) => Later.cell p_ hL3_.out
            have hL4 := fun (p_ : Later w13) => Later.cell p_ hL4_.out
            have hL5 := fun (p_ : Later w13) => Later.cell p_ hL5_.out
            clear hL0_ hL1_ hL2_ hL3_ hL4_ hL5_
            repeat (first | go_big_quiet_step ((first | (go_at_call 79; exact Calls.qbk (qbr.calls ((qap l0 x3_1).f0) ((qap l0 x3_1).f1) true _ A6.out)))) | quiet_step ((first | (go_at_call 79; exact Calls.qbk (qbr.calls ((qap l0 x3_1).f0) ((qap l0 x3_1).f1) true _ A6.out)))))
            refine wpQuiet_nil ?_
            rintro w14 ⟨⟨wq_, hbL⟩, hq_⟩
            have hq2_ : w14 = wq_ := hq_
            clear hq_
            subst hq2_
            clear hL0 hL1 hL2 hL3 hL4 hL5
            have nHB_ := Aside0.mk (qag HB.out hbL)
            clear HB
            have HB := nHB_
            clear nHB_
            clear hbL
            try go_wp2
            go_roundg k1
            case measure => have := HK1.out; omega
            case rel => exact ⟨(wrap64 (x3_1 + 1)), (by first | rfl | (simp; done) | (simp [*]; done)), H', ⟨by have := HK1.out; omega⟩, ⟨by repeat (first | (with_reducible first | exact HB.out | apply qac | apply qaa | apply qab) | exact HB.out)⟩⟩
           ·rw [if_neg c12] at H
            have c12b0 : (Op.bytesLess (((qap l0 (ji9)).f0).toList) (((qap l0 x3_1).f0).toList)) = false := by simpa using c12
            clear c12
            obtain rfl := Option.some.inj H
            try go_wp2
            have n0_ := Aside0.mk (qab HB.out)
            clear HB
            have HB := n0_
            clear n0_
            have p106 : 0 ≤ (x3_1 : Int) := of_decide_eq_true (by first | (with_reducible assumption) | assumption)
            have q106 : x3_1 < (l0.length : Int) := of_decide_eq_true (by first | (with_reducible assumption) | assumption)
            obtain ⟨ad106, e106, hx106_0, hx106_1⟩ := qbO HR0.out x3_1 p106 q106
            have hw106_1 := hx106_1
            have hw106_0 := hx106_0
            cases e106
            replace hx106_0 := (HB.out.cell (World.block_lt_of_cell? w _ hx106_0)).trans hx106_0
            replace hx106_1 := (HB.out.cell (World.block_lt_of_cell? w _ hx106_1)).trans hx106_1
            replace p106 := eq_true p106
            replace q106 := eq_true q106
            have p108 : 0 ≤ ((ji9) : Int) := of_decide_eq_true (by first | (with_reducible assumption) | assumption)
            have q108 : (ji9) < (l0.length : Int) := of_decide_eq_true (by first | (with_reducible assumption) | assumption)
            obtain ⟨ad108, e108, hx108_0, hx108_1⟩ := qbO HR0.out (ji9) p108 q108
            have hw108_1 := hx108_1
            have hw108_0 := hx108_0
            obtain rfl : ad106 = ad108 := (by injection e108)
            replace hx108_0 := (HB.out.cell (World.block_lt_of_cell? w _ hx108_0)).trans hx108_0
            replace hx108_1 := (HB.out.cell (World.block_lt_of_cell? w _ hx108_1)).trans hx108_1
            replace p108 := eq_true p108
            replace q108 := eq_true q108
            have p109 : 0 ≤ (x3_1 : Int) := of_decide_eq_true (by first | (with_reducible assumption) | assumption)
            have q109 : x3_1 < (l0.length : Int) := of_decide_eq_true (by first | (with_reducible assumption) | assumption)
            obtain ⟨ad109, e109, hx109_0, hx109_1⟩ := qbO HR0.out x3_1 p109 q109
            have hw109_1 := hx109_1
            have hw109_0 := hx109_0
            obtain rfl : ad106 = ad109 := (by injection e109)
            replace hx109_0 := (HB.out.cell (World.block_lt_of_cell? w _ hx109_0)).trans hx109_0
            replace hx109_1 := (HB.out.cell (World.block_lt_of_cell? w _ hx109_1)).trans hx109_1
            replace p109 := eq_true p109
            replace q109 := eq_true q109
            refine qa8 (by kernel_rfl) (by kernel_rfl) ?_
            have hL0_ := Aside0.mk (show wr.drew.cell? (ad106.add ((x3_1).toNat * 2)) = some (.string ((qap l0 x3_1).f0)) from ((HB.out.cell (World.block_lt_of_cell? w _ hw106_0)).trans hw106_0))
            have hL1_ := Aside0.mk (show wr.drew.cell? ⟨(ad106.add ((x3_1).toNat * 2)).block, (ad106.add ((x3_1).toNat * 2)).off + 1, none⟩ = some (.string ((qap l0 x3_1).f1)) from ((HB.out.cell (World.block_lt_of_cell? w _ hw106_1)).trans hw106_1))
            have hL2_ := Aside0.mk (show wr.drew.cell? (ad106.add (((ji9)).toNat * 2)) = some (.string ((qap l0 (ji9)).f0)) from ((HB.out.cell (World.block_lt_of_cell? w _ hw108_0)).trans hw108_0))
            have hL3_ := Aside0.mk (show wr.drew.cell? ⟨(ad106.add (((ji9)).toNat * 2)).block, (ad106.add (((ji9)).toNat * 2)).off + 1, none⟩ = some (.string ((qap l0 (ji9)).f1)) from ((HB.out.cell (World.block_lt_of_cell? w _ hw108_1)).trans hw108_1))
            have hL4_ := Aside0.mk (show wr.drew.cell? (ad106.add ((x3_1).toNat * 2)) = some (.string ((qap l0 x3_1).f0)) from ((HB.out.cell (World.block_lt_of_cell? w _ hw109_0)).trans hw109_0))
            have hL5_ := Aside0.mk (show wr.drew.cell? ⟨(ad106.add ((x3_1).toNat * 2)).block, (ad106.add ((x3_1).toNat * 2)).off + 1, none⟩ = some (.string ((qap l0 x3_1).f1)) from ((HB.out.cell (World.block_lt_of_cell? w _ hw109_1)).trans hw109_1))
            generalize wr.drew = w15 at HB hx106_0 hx106_1 hx108_0 hx108_1 hx109_0 hx109_1 hL0_ hL1_ hL2_ hL3_ hL4_ hL5_ ⊢
            clear hx106_0 hx106_1 hx108_0 hx108_1 hx109_0 hx109_1
            have hL0 := fun (p_ : Later w15) => Later.cell p_ hL0_.out
            have hL1 := fun (p_ : Later w15) => Later.cell p_ hL1_.out
            have hL2 := fun (p_ : Later w15) => Later.cell p_ hL2_.out
            have hL3 := fun (p_ : Later w15) => Later.cell p_ hL3_.out
            have hL4 := fun (p_ : Later w15) => Later.cell p_ hL4_.out
            have hL5 := fun (p_ : Later w15) => Later.cell p_ hL5_.out
            clear hL0_ hL1_ hL2_ hL3_ hL4_ hL5_
            repeat (first | go_big_quiet_step ((first | (go_at_call 79; exact Calls.qbk (qbr.calls ((qap l0 x3_1).f0) ((qap l0 x3_1).f1) true _ A6.out)))) | quiet_step ((first | (go_at_call 79; exact Calls.qbk (qbr.calls ((qap l0 x3_1).f0) ((qap l0 x3_1).f1) true _ A6.out)))))
            refine wpQuiet_nil ?_
            rintro w16 ⟨⟨wq_, hbL⟩, hq_⟩
            have hq2_ : w16 = wq_ := hq_
            clear hq_
            subst hq2_
            clear hL0 hL1 hL2 hL3 hL4 hL5
            have nHB_ := Aside0.mk (qag HB.out hbL)
            clear HB
            have HB := nHB_
            clear nHB_
            clear hbL
            try go_wp2
            go_ret
            exact ⟨by first | rfl | (simp [qam, qan] <;> rfl) | (simp only [← hji9]; first | rfl | (simp [qam, qan] <;> rfl)) | (simp [*, qam, qan] <;> rfl), by repeat (first | (with_reducible first | exact HB.out | apply qac | apply qaa | apply qab) | exact HB.out)⟩
          ·rw [if_neg c11] at H
           exact absurd H (by simp)
         ·rw [if_neg c10] at H
          exact absurd H (by simp)
        ·rw [if_neg c8] at H
         have c8b0 : decide (0 < x3_1) = false := decide_eq_false c8
         clear c8
         have H' := Aside0.mk H
         clear H
         try go_wp2
         have n0_ := Aside0.mk (qab HB.out)
         clear HB
         have HB := n0_
         clear n0_
         have p106 : 0 ≤ (x3_1 : Int) := of_decide_eq_true (by first | (with_reducible assumption) | assumption)
         have q106 : x3_1 < (l0.length : Int) := of_decide_eq_true (by first | (with_reducible assumption) | assumption)
         obtain ⟨ad106, e106, hx106_0, hx106_1⟩ := qbO HR0.out x3_1 p106 q106
         have hw106_1 := hx106_1
         have hw106_0 := hx106_0
         cases e106
         replace hx106_0 := (HB.out.cell (World.block_lt_of_cell? w _ hx106_0)).trans hx106_0
         replace hx106_1 := (HB.out.cell (World.block_lt_of_cell? w _ hx106_1)).trans hx106_1
         replace p106 := eq_true p106
         replace q106 := eq_true q106
         refine qa8 (by kernel_rfl) (by kernel_rfl) ?_
         have hL0_ := Aside0.mk (show wr.drew.cell? (ad106.add ((x3_1).toNat * 2)) = some (.string ((qap l0 x3_1).f0)) from ((HB.out.cell (World.block_lt_of_cell? w _ hw106_0)).trans hw106_0))
         have hL1_ := Aside0.mk (show wr.drew.cell? ⟨(ad106.add ((x3_1).toNat * 2)).block, (ad106.add ((x3_1).toNat * 2)).off + 1, none⟩ = some (.string ((qap l0 x3_1).f1)) from ((HB.out.cell (World.block_lt_of_cell? w _ hw106_1)).trans hw106_1))
         generalize wr.drew = w17 at HB hx106_0 hx106_1 hL0_ hL1_ ⊢
         clear hx106_0 hx106_1
         have hL0 := fun (p_ : Later w17) => Later.cell p_ hL0_.out
         have hL1 := fun (p_ : Later w17) => Later.cell p_ hL1_.out
         clear hL0_ hL1_
         repeat (first | go_big_quiet_step ((first | (go_at_call 79; exact Calls.qbk (qbr.calls ((qap l0 x3_1).f0) ((qap l0 x3_1).f1) true _ A6.out)))) | quiet_step ((first | (go_at_call 79; exact Calls.qbk (qbr.calls ((qap l0 x3_1).f0) ((qap l0 x3_1).f1) true _ A6.out)))))
         refine wpQuiet_nil ?_
         rintro w18 ⟨⟨wq_, hbL⟩, hq_⟩
         have hq2_ : w18 = wq_ := hq_
         clear hq_
         subst hq2_
         clear hL0 hL1
         have nHB_ := Aside0.mk (qag HB.out hbL)
         clear HB
         have HB := nHB_
         clear nHB_
         clear hbL
         try go_wp2
         go_roundg k1
         case measure => have := HK1.out; omega
         case rel => exact ⟨(wrap64 (x3_1 + 1)), (by first | rfl | (simp; done) | (simp [*]; done)), H', ⟨by have := HK1.out; omega⟩, ⟨by repeat (first | (with_reducible first | exact HB.out | apply qac | apply qaa | apply qab) | exact HB.out)⟩⟩
       ·replace c7 := Bool.eq_false_iff.mpr c7
        subst c7
        have H1 : (some false) = some r := by rw [if_neg (show ¬ (false = true) by decide)] at H; exact H
        clear H
        have H := H1
        clear H1
        obtain rfl := Option.some.inj H
        try go_wp2
        have n0_ := Aside0.mk (qab HB.out)
        clear HB
        have HB := n0_
        clear n0_
        have p106 : 0 ≤ (x3_1 : Int) := of_decide_eq_true (by first | (with_reducible assumption) | assumption)
        have q106 : x3_1 < (l0.length : Int) := of_decide_eq_true (by first | (with_reducible assumption) | assumption)
        obtain ⟨ad106, e106, hx106_0, hx106_1⟩ := qbO HR0.out x3_1 p106 q106
        have hw106_1 := hx106_1
        have hw106_0 := hx106_0
        cases e106
        replace hx106_0 := (HB.out.cell (World.block_lt_of_cell? w _ hx106_0)).trans hx106_0
        replace hx106_1 := (HB.out.cell (World.block_lt_of_cell? w _ hx106_1)).trans hx106_1
        replace p106 := eq_true p106
        replace q106 := eq_true q106
        refine qa8 (by kernel_rfl) (by kernel_rfl) ?_
        have hL0_ := Aside0.mk (show wr.drew.cell? (ad106.add ((x3_1).toNat * 2)) = some (.string ((qap l0 x3_1).f0)) from ((HB.out.cell (World.block_lt_of_cell? w _ hw106_0)).trans hw106_0))
        have hL1_ := Aside0.mk (show wr.drew.cell? ⟨(ad106.add ((x3_1).toNat * 2)).block, (ad106.add ((x3_1).toNat * 2)).off + 1, none⟩ = some (.string ((qap l0 x3_1).f1)) from ((HB.out.cell (World.block_lt_of_cell? w _ hw106_1)).trans hw106_1))
        generalize wr.drew = w19 at HB hx106_0 hx106_1 hL0_ hL1_ ⊢
        clear hx106_0 hx106_1
        have hL0 := fun (p_ : Later w19) => Later.cell p_ hL0_.out
        have hL1 := fun (p_ : Later w19) => Later.cell p_ hL1_.out
        clear hL0_ hL1_
        repeat (first | go_big_quiet_step ((first | (go_at_call 79; exact Calls.qbk (qbr.calls ((qap l0 x3_1).f0) ((qap l0 x3_1).f1) false _ A6.out)))) | quiet_step ((first | (go_at_call 79; exact Calls.qbk (qbr.calls ((qap l0 x3_1).f0) ((qap l0 x3_1).f1) false _ A6.out)))))
        refine wpQuiet_nil ?_
        rintro w20 ⟨⟨wq_, hbL⟩, hq_⟩
        have hq2_ : w20 = wq_ := hq_
        clear hq_
        subst hq2_
        clear hL0 hL1
        have nHB_ := Aside0.mk (qag HB.out hbL)
        clear HB
        have HB := nHB_
        clear nHB_
        clear hbL
        try go_wp2
        go_ret
        exact ⟨by first | rfl | (simp [qam, qan] <;> rfl) | (simp [*, qam, qan] <;> rfl), by repeat (first | (with_reducible first | exact HB.out | apply qac | apply qaa | apply qab) | exact HB.out)⟩
      ·rw [if_neg c5] at H
       exact absurd H (by simp)
     ·rw [if_neg c4] at H
      have c4b0 : decide (x3_1 < (l0.length : Int)) = false := decide_eq_false c4
      clear c4
      obtain rfl := Option.some.inj H
      go_wp2
      go_ret
      exact ⟨by first | rfl | (simp [qam, qan] <;> rfl) | (simp [*, qam, qan] <;> rfl), by repeat (first | (with_reducible first | exact HB.out | apply qac | apply qaa | apply qab) | exact HB.out)⟩
end Go.Proofs.Ytgcncphdjabjjaa.X
namespace Go.Proofs.Ytgcncphdjabjjaa.X
open Go.RowKit Go.Proofs.YtgcncphdjabjjaaW.PrintWords Go.Proofs.YtgcncphdjabjjaaW.PrintLast Go.Proofs.YtgcncphdjabjjaaW.PrintMore
attribute [local go_sem] qaC qaD qaE qay qaz qaN qaO qat qau qaA qaB
set_option linter.unusedVariables false
set_option linter.unusedSimpArgs false
def Rises (l : List S76) : Prop := l.Pairwise fun a b => Op.bytesLess a.f0.toList b.f0.toList = true
instance risesDec (l : List S76) : Decidable (Rises l) := by unfold Rises; infer_instance
theorem qd1 {l : List S76} (h : Rises l) {i j : Nat} (hj : j < l.length) (hij : i < j) : Op.bytesLess (l[i]'(by omega)).f0.toList l[j].f0.toList = true := (List.pairwise_iff_getElem.1 h) i j (by omega) hj hij
def okP (p : S76) : Bool := keyB p.f0 && decide (p.f1.size ≤ 90)
def chainB : Option S76 → List S76 → Bool
 | _, [] => true
 | none, p :: r => okP p && chainB (some p) r
 | some q, p :: r => okP p && (Op.bytesLess q.f0.toList p.f0.toList && chainB (some p) r)
def qd2 (l : List S76) : Bool := decide (l.length ≤ 60) && chainB none l
theorem qfV (l : List S76) : ∀ q, chainB (some q) l = true → (∀ p ∈ l, okP p = true) ∧ (q :: l).Pairwise fun a b => Op.bytesLess a.f0.toList b.f0.toList = true := by
 induction l with
 | nil => intro q _; exact ⟨fun p hp => (by cases hp), List.pairwise_singleton _ _⟩
 | cons p r ih =>
  intro q h
  simp only [chainB, Bool.and_eq_true] at h
  obtain ⟨h1, h2, h3⟩ := h
  obtain ⟨i1, i2⟩ := ih p h3
  refine ⟨fun x hx => ?_, List.pairwise_cons.2 ⟨fun x hx => ?_, i2⟩⟩
  ·rcases List.mem_cons.1 hx with rfl | hx
   ·exact h1
   ·exact i1 x hx
  ·rcases List.mem_cons.1 hx with rfl | hx
   ·exact h2
   ·exact qdb h2 ((List.pairwise_cons.1 i2).1 x hx)
theorem qgs {l : List S76} (h : chainB none l = true) : (∀ p ∈ l, okP p = true) ∧ Rises l := by
 cases l with
 | nil => exact ⟨fun p hp => (by cases hp), List.Pairwise.nil⟩
 | cons p r =>
  simp only [chainB, Bool.and_eq_true] at h
  obtain ⟨i1, i2⟩ := qfV r p h.2
  refine ⟨fun x hx => ?_, i2⟩
  rcases List.mem_cons.1 hx with rfl | hx
  ·exact h.1
  ·exact i1 x hx
theorem qhM (l : List S76) : ∀ q, (∀ p ∈ l, okP p = true) → ((q :: l).Pairwise fun a b => Op.bytesLess a.f0.toList b.f0.toList = true) → chainB (some q) l = true := by
 induction l with
 | nil => intro q _ _; rfl
 | cons p r ih =>
  intro q h1 h2
  simp only [chainB, Bool.and_eq_true]
  exact ⟨h1 p List.mem_cons_self, (List.pairwise_cons.1 h2).1 p List.mem_cons_self, ih p (fun x hx => h1 x (List.mem_cons_of_mem _ hx)) (List.pairwise_cons.1 h2).2⟩
theorem qeR {l : List S76} (h1 : ∀ p ∈ l, okP p = true) (h2 : Rises l) : chainB none l = true := by
 cases l with
 | nil => rfl
 | cons p r =>
  simp only [chainB, Bool.and_eq_true]
  exact ⟨h1 p List.mem_cons_self, qhM r p (fun x hx => h1 x (List.mem_cons_of_mem _ hx)) h2⟩
theorem qfW {l : List S76} : qd2 l = true ↔ l.length ≤ 60 ∧ (∀ p ∈ l, okP p = true) ∧ Rises l := by
 unfold qd2
 rw [Bool.and_eq_true, decide_eq_true_eq]
 exact ⟨fun h => ⟨h.1, qgs h.2⟩, fun h => ⟨h.1, qeR h.2.1 h.2.2⟩⟩
theorem qfh (l : List S76) (pre rest : List S76) (x : S76) (h : l = pre ++ x :: rest) : qap l ((pre.length : Nat) : Int) = x := by
 subst h
 simp [qap, List.getD_eq_getElem?_getD]
theorem qeA (p : S76) : qbr.f p.f0 p.f1 = some (okP p) := by
 unfold qbr.f okP
 have e : ((p.f1.size : Int) ≤ 90) = (p.f1.size ≤ 90) := propext (by omega)
 rw [qfg, Option.bind_some]
 cases keyB p.f0 <;> simp [e]
theorem qfX (p : S76) : qbT.f p.f0 p.f1 = some (okP p) := by
 unfold qbT.f okP
 have e : ((p.f1.size : Int) ≤ 90) = (p.f1.size ≤ 90) := propext (by omega)
 rw [qgQ, Option.bind_some]
 cases keyB p.f0 <;> simp [e]
theorem qeS (l : List S76) (hl : l.length ≤ 60) (rest : List S76) : ∀ (pre : List S76) (q : S76), l = (pre ++ [q]) ++ rest →
  Ev (fun k => qaP.l0 k l (((pre ++ [q]).length : Nat) : Int)) (chainB (some q) rest) := by
 induction rest with
 | nil =>
  intro pre q h
  refine Ev.succ ?_
  simp only [qaP.l0]
  exact Ev.neg (by rw [h]; simp) (Ev.is rfl)
 | cons p r ih =>
  intro pre q h
  have hx := qfh l (pre ++ [q]) r p h
  have hq := qfh l pre (p :: r) q (by rw [h]; simp)
  have hlen : (pre ++ [q]).length < l.length := by rw [h]; simp
  have hw := qci (n := (pre ++ [q]).length) (by omega)
  have hp : wrap64 ((((pre ++ [q]).length : Nat) : Int) - 1) = ((pre.length : Nat) : Int) := by rw [← qb8]; exact qfU (by simp at hlen <;> omega)
  have hi := ih (pre ++ [q]) p (by rw [h]; simp)
  rw [← qb8] at hi
  refine Ev.succ ?_
  simp only [qaP.l0, hx, hp, hq, hw]
  refine Ev.pos (by omega) (Ev.pos (by omega) (Ev.bindk (qeA p) ?_))
  cases ho : okP p with
  | false => exact Ev.neg (by simp) (Ev.is (by simp [chainB, ho]))
  | true =>
   refine Ev.pos rfl (Ev.pos (by simp <;> omega) (Ev.pos (by omega) (Ev.pos (by simp at hlen <;> omega) ?_)))
   cases hb : Op.bytesLess q.f0.toList p.f0.toList with
   | false => exact Ev.neg (by simp) (Ev.is (by simp [chainB, ho, hb]))
   | true => exact Ev.pos rfl (Ev.same hi (by simp [chainB, ho, hb]))
theorem qhN (l : List S76) (hl : l.length ≤ 60) : Ev (fun k => qaP.l0 k l 0) (chainB none l) := by
 cases l with
 | nil =>
  refine Ev.succ ?_
  simp only [qaP.l0]
  exact Ev.neg (by simp) (Ev.is rfl)
 | cons p r =>
  have hx := qfh (p :: r) [] r p rfl
  simp only [List.length_nil, Int.natCast_zero] at hx
  have hi := qeS (p :: r) hl r [] p rfl
  refine Ev.succ ?_
  simp only [qaP.l0, hx]
  refine Ev.pos (by simp <;> omega) (Ev.pos (by omega) (Ev.bindk (qeA p) ?_))
  cases ho : okP p with
  | false => exact Ev.neg (by simp) (Ev.is (by simp [chainB, ho]))
  | true =>
   have e0 : ((([] ++ [p] : List S76).length : Nat) : Int) = wrap64 (0 + 1) := by unfold wrap64; simp
   rw [e0] at hi
   exact Ev.pos rfl (Ev.neg (by omega) (Ev.same hi (by simp [chainB, ho])))
theorem qfY (l : List S76) : Ev (fun k => qaP.f k l) (qd2 l) := by
 unfold qaP.f qd2
 by_cases h1 : (l.length : Int) > 4096
 ·exact Ev.pos h1 (Ev.is (by simp [show ¬ l.length ≤ 60 by omega]))
 ·by_cases h2 : (l.length : Int) > 60
  ·exact Ev.neg h1 (Ev.pos h2 (Ev.is (by simp [show ¬ l.length ≤ 60 by omega])))
  ·exact Ev.neg h1 (Ev.neg h2 (Ev.same (qhN l (by omega)) (by simp [show l.length ≤ 60 by omega])))
theorem qeT (l : List S76) (hl : l.length < 9223372036854775807) (rest : List S76) : ∀ (pre : List S76) (q : S76), l = (pre ++ [q]) ++ rest →
  Ev (fun k => qaJ.l0 k l l (l.length : Int) (((pre ++ [q]).length : Nat) : Int)) (chainB (some q) rest) := by
 induction rest with
 | nil =>
  intro pre q h
  refine Ev.succ ?_
  simp only [qaJ.l0]
  exact Ev.neg (by rw [h]; simp) (Ev.is rfl)
 | cons p r ih =>
  intro pre q h
  have hx := qfh l (pre ++ [q]) r p h
  have hq := qfh l pre (p :: r) q (by rw [h]; simp)
  have hlen : (pre ++ [q]).length < l.length := by rw [h]; simp
  have hw := qci (n := (pre ++ [q]).length) (by omega)
  have hp : wrap64 ((((pre ++ [q]).length : Nat) : Int) - 1) = ((pre.length : Nat) : Int) := by rw [← qb8]; exact qfU (by simp at hlen <;> omega)
  have hi := ih (pre ++ [q]) p (by rw [h]; simp)
  rw [← qb8] at hi
  refine Ev.succ ?_
  simp only [qaJ.l0, hx, hp, hq, hw]
  refine Ev.pos (by omega) (Ev.pos (by omega) (Ev.pos (by omega) (Ev.bindk (qfX p) ?_)))
  cases ho : okP p with
  | false => exact Ev.neg (by simp) (Ev.is (by simp [chainB, ho]))
  | true =>
   refine Ev.pos rfl (Ev.pos (by simp <;> omega) (Ev.pos (by omega) (Ev.pos (by simp at hlen <;> omega) ?_)))
   cases hb : Op.bytesLess q.f0.toList p.f0.toList with
   | false => exact Ev.neg (by simp) (Ev.is (by simp [chainB, ho, hb]))
   | true => exact Ev.pos rfl (Ev.same hi (by simp [chainB, ho, hb]))
theorem qgt (l : List S76) (hl : l.length < 9223372036854775807) : Ev (fun k => qaJ.f k l) (chainB none l) := by
 unfold qaJ.f
 cases l with
 | nil =>
  refine Ev.succ ?_
  simp only [qaJ.l0]
  exact Ev.neg (by simp) (Ev.is rfl)
 | cons p r =>
  have hx := qfh (p :: r) [] r p rfl
  simp only [List.length_nil, Int.natCast_zero] at hx
  have hi := qeT (p :: r) hl r [] p rfl
  refine Ev.succ ?_
  simp only [qaJ.l0, hx]
  refine Ev.pos (by simp <;> omega) (Ev.pos (by omega) (Ev.pos (by simp <;> omega) (Ev.bindk (qfX p) ?_)))
  cases ho : okP p with
  | false => exact Ev.neg (by simp) (Ev.is (by simp [chainB, ho]))
  | true =>
   have e0 : ((([] ++ [p] : List S76).length : Nat) : Int) = wrap64 (0 + 1) := by unfold wrap64; simp
   rw [e0] at hi
   exact Ev.pos rfl (Ev.neg (by omega) (Ev.same hi (by simp [chainB, ho])))
end Go.Proofs.Ytgcncphdjabjjaa.X
namespace Go.Proofs.Ytgcncphdjabjjaa.X
open Go.RowKit Go.Proofs.YtgcncphdjabjjaaW.PrintWords Go.Proofs.YtgcncphdjabjjaaW.PrintLast Go.Proofs.YtgcncphdjabjjaaW.PrintMore
attribute [local go_sem] qaC qaD qaE qay qaz qaN qaO qat qau qaA qaB
set_option linter.unusedVariables false
set_option linter.unusedSimpArgs false
def cmpS (a b : ByteArray) : Int := if Op.bytesLess a.toList b.toList = true then -1 else if a.toList = b.toList then 0 else 1
theorem qeB (a b : List UInt8) : Lib.compareBytes a b = if Op.bytesLess a b = true then -1 else if a = b then 0 else 1 := by
 induction a generalizing b with
 | nil => cases b <;> simp [Lib.compareBytes, Op.bytesLess]
 | cons x a ih =>
  cases b with
  | nil => simp [Lib.compareBytes, Op.bytesLess]
  | cons y b =>
   simp only [Lib.compareBytes, Op.bytesLess]
   by_cases h1 : x < y
   ·simp [h1]
   ·by_cases h2 : y < x
    ·have h3 : ¬ x = y := by rintro rfl; exact h1 h2
     simp [h1, h2, h3]
    ·have h3 : x = y := by simp [UInt8.lt_iff_toNat_lt, ← UInt8.toNat_inj] at *; omega
     subst h3
     simp [h1, ih b]
theorem cmpS_is (a b : ByteArray) : Lib.compareBytes a.data.toList b.data.toList = cmpS a b := by
 unfold cmpS
 rw [qeB, ByteArray.toList_eq, ByteArray.toList_eq]
set_option maxHeartbeats 1000000 in
set_option maxRecDepth 100000 in
theorem bytealg_CompareString (a b : ByteArray) (w : World) :
  Calls Try.prog 119 #[.string a, .string b] w fun e w' => e = .returned (.int .i64 (cmpS a b)) ∧ w' = w := by
 rw [← cmpS_is]
 go_enter Try.func119, Try.ntmps119
 go_wp2
 rw [run_callFunc_extern Try.func126 (by kernel_rfl) (by kernel_rfl) (by kernel_rfl) (e := Extern.BytealgCompare.compare) (by kernel_rfl), Lib.run_compareString]
 simp only [Result.andThen]
 rw [Oper.upon_value]
 go_wp2
 go_ret
 exact ⟨rfl, rfl⟩
set_option maxHeartbeats 1000000 in
theorem qef (a b : ByteArray) (w : World) :
  Calls Try.prog 111 #[.string a, .string b] w fun e w' => e = .returned (.int .i64 (cmpS a b)) ∧ w' = w := by
 go_enter Try.func111, Try.ntmps111
 go_wp2_with fail
 refine (bytealg_CompareString _ _ _).mono ?_
 rintro e w' ⟨rfl, rfl⟩
 go_wp2_with fail
 go_ret
 exact ⟨rfl, rfl⟩
end Go.Proofs.Ytgcncphdjabjjaa.X
namespace Go.Proofs.Ytgcncphdjabjjaa.X
open Go.RowKit Go.Proofs.YtgcncphdjabjjaaW.PrintWords Go.Proofs.YtgcncphdjabjjaaW.PrintLast Go.Proofs.YtgcncphdjabjjaaW.PrintMore
attribute [local go_sem] qaC qaD qaE qay qaz qaN qaO qat qau qaA qaB
set_option linter.unusedVariables false
set_option linter.unusedSimpArgs false
def lowAt (l : List S76) (key : ByteArray) : Nat := l.findIdx fun p => !Op.bytesLess p.f0.toList key.toList
def hasAt (l : List S76) (key : ByteArray) : Bool := decide (lowAt l key < l.length) && decide ((qap l (lowAt l key)).f0.toList = key.toList)
theorem lowAt_is {l : List S76} {key : ByteArray} {i : Nat} (hi : i ≤ l.length) (h0 : ∀ j (hj : j < l.length), j < i → Op.bytesLess l[j].f0.toList key.toList = true) (h1 : ∀ (hj : i < l.length), Op.bytesLess l[i].f0.toList key.toList = false) : lowAt l key = i := by
 unfold lowAt
 rcases Nat.lt_or_ge i l.length with h | h
 ·exact (List.findIdx_eq h).2 ⟨by simp [h1 h], fun j hj => by simp [h0 j (by omega) hj]⟩
 ·have e : i = l.length := by omega
  rw [e]
  exact List.findIdx_eq_length.2 fun x hx => by
   obtain ⟨j, hj, rfl⟩ := List.getElem_of_mem hx
   simp [h0 j hj (by omega)]
def qbx.f (l0 : List S76) (a1 : ByteArray) : Option (Int × Bool) := if Rises l0 ∧ l0.length ≤ 1000000 then some ((lowAt l0 a1 : Int), hasAt l0 a1) else none
set_option maxHeartbeats 1000000 in
set_option maxRecDepth 100000 in
theorem qcP (x : S76) (key : ByteArray) (w : World) : Calls Try.prog 110 #[.agg #[.string x.f0, .string x.f1], .string key] w fun e w' => e = .returned (.int .i64 (cmpS x.f0 key)) ∧ Below w.heap.size w w' := by
 have hu := Try.underlying76
 go_enter Try.func110, Try.ntmps110
 go_wp2_with fail
 refine (qef _ _ _).mono ?_
 rintro e w' ⟨rfl, rfl⟩
 go_wp2_with fail
 go_ret
 exact ⟨rfl, (Below.refl _ _).alloc (Nat.le_refl _) _⟩
theorem cmpS_neg {a b : ByteArray} (h : Op.bytesLess a.toList b.toList = true) : cmpS a b = -1 := by unfold cmpS; rw [if_pos h]
theorem qgu {a b : ByteArray} (h : Op.bytesLess a.toList b.toList = false) : 0 ≤ cmpS a b := by unfold cmpS; rw [if_neg (by rw [h]; decide)]; split <;> omega
theorem qfZ {a b : ByteArray} : cmpS a b = 0 ↔ a.toList = b.toList := by
 unfold cmpS
 by_cases h : Op.bytesLess a.toList b.toList = true
 ·rw [if_pos h]
  exact ⟨fun e => by omega, fun e => by rw [e, qdD] at h; cases h⟩
 ·rw [if_neg h]
  by_cases k : a.toList = b.toList
  ·simp [k]
  ·simp [k]
set_option maxHeartbeats 4000000 in
set_option maxRecDepth 100000 in
theorem qd3 (A0 : Option Addr) (c0 : Nat) (l0 : List S76) (a1 : ByteArray) (w : World) (hr0 : Kd.C k76 w A0 l0.length l0) (hs : Rises l0) (hl : l0.length ≤ 1000000) :
  Calls Try.prog 109 #[.slice A0 l0.length c0, .string a1, .func (.func 110) #[] #[]] w
   fun e w' => e = .returned (.tuple #[.int .i64 (lowAt l0 a1), .bool (hasAt l0 a1)]) ∧ Below w.heap.size w w' := by
 have hu := Try.underlying76
 have HR0 := Aside0.mk hr0
 have HS := Aside0.mk hs
 clear hr0 hs
 go_enter Try.func109, Try.ntmps109
 go_wp2_with fail
 go_loopw [9, 10] (fun v9 v10 wr => ∃ i j : Nat, i ≤ j ∧ j ≤ l0.length ∧ v9 = .int .i64 i ∧ v10 = .int .i64 j ∧ Aside0 (∀ m (hm : m < l0.length), m < i → Op.bytesLess l0[m].f0.toList a1.toList = true) ∧ Aside0 (∀ m (hm : m < l0.length), j ≤ m → Op.bytesLess l0[m].f0.toList a1.toList = false) ∧ Aside0 (Below w.heap.size w wr)) (fun v9 v10 _ => (intOf v10).toNat - (intOf v9).toNat)
 case atStart => exact ⟨0, l0.length, Nat.zero_le _, Nat.le_refl _, rfl, rfl, ⟨fun m hm h => absurd h (by omega)⟩, ⟨fun m hm h => absurd h (by omega)⟩, ⟨Below.refl _ _⟩⟩
 case round =>
  obtain ⟨i, j, hij, hj, rfl, rfl, HL, HG, HB⟩ := hrel
  by_cases hlt : i < j
  ·obtain ⟨h, hh⟩ : ∃ h : Nat, h = (i + j) / 2 := ⟨_, rfl⟩
   have hh1 : i ≤ h := by omega
   have hh2 : h < j := by omega
   have hh3 : h < l0.length := by omega
   have p1 : 0 ≤ (h : Int) := by omega
   have q1 : (h : Int) < (l0.length : Int) := by omega
   obtain ⟨ad1, e1, hx0, hx1⟩ := qbO HR0.out (h : Int) p1 q1
   have hx : qap l0 (h : Int) = l0[h] := by unfold qap; rw [Int.toNat_natCast]; simp [List.getD_eq_getElem?_getD, hh3]
   rw [hx] at hx0 hx1
   cases e1
   replace hx0 := (HB.out.cell (World.block_lt_of_cell? w _ hx0)).trans hx0
   replace hx1 := (HB.out.cell (World.block_lt_of_cell? w _ hx1)).trans hx1
   rw [Int.toNat_natCast] at hx0 hx1
   clear hx
   obtain ⟨x, hx⟩ : ∃ x, x = l0[h] := ⟨_, rfl⟩
   rw [← hx] at hx0 hx1
   have HX := Aside0.mk hx
   clear hx
   subst hh
   cases hb : Op.bytesLess x.f0.toList a1.toList with
   | true =>
    have HC := Aside0.mk (cmpS_neg hb)
    have HX2 := Aside0.mk hb
    clear hb
    go_wp2_with fail
    refine (qcP x a1 _).mono ?_
    rintro e w1 ⟨rfl, hb1⟩
    rw [HC.out]
    go_wp2_with fail
    go_roundw
    case rel => exact ⟨(i + j) / 2 + 1, j, by omega, by omega, by go_num, rfl, ⟨fun m hm h => by
     by_cases e : m = (i + j) / 2
     ·subst e; rw [← HX.out]; exact HX2.out
     ·have hm2 : m < (i + j) / 2 := by omega
      have := qd1 HS.out hh3 hm2
      rw [← HX.out] at this
      exact qdb this HX2.out⟩, HG, ⟨qag HB.out hb1⟩⟩
    case measure => simp [intOf]; omega
   | false =>
    have hc := qgu hb
    obtain ⟨c, hcc⟩ : ∃ c, c = cmpS x.f0 a1 := ⟨_, rfl⟩
    rw [← hcc] at hc
    have HC := Aside0.mk hcc
    have hc2 : decide (c < 0) = false := decide_eq_false (by omega)
    have HX2 := Aside0.mk hb
    clear hb hcc hc
    go_wp2_with fail
    refine (qcP x a1 _).mono ?_
    rintro e w1 ⟨rfl, hb1⟩
    rw [← HC.out]
    go_wp2_with fail
    go_roundw
    case rel => exact ⟨i, (i + j) / 2, by omega, by omega, rfl, by go_num, HL, ⟨fun m hm h => by
     by_cases e : m = (i + j) / 2
     ·subst e; rw [← HX.out]; exact HX2.out
     ·have hm2 : (i + j) / 2 < m := by omega
      have h2 := qd1 HS.out hm hm2
      rw [← HX.out] at h2
      cases h3 : Op.bytesLess l0[m].f0.toList a1.toList with
      | false => rfl
      | true => have := qdb h2 h3; rw [HX2.out] at this; cases this⟩, ⟨qag HB.out hb1⟩⟩
    case measure => simp [intOf]; omega
  ·have hie : i = j := by omega
   subst hie
   have HI := Aside0.mk (lowAt_is hj HL.out (fun h => HG.out i h (Nat.le_refl _)))
   by_cases hn : i < l0.length
   ·have p1 : 0 ≤ (i : Int) := by omega
    have q1 : (i : Int) < (l0.length : Int) := by omega
    obtain ⟨ad1, e1, hx0, hx1⟩ := qbO HR0.out (i : Int) p1 q1
    cases e1
    replace hx0 := (HB.out.cell (World.block_lt_of_cell? w _ hx0)).trans hx0
    replace hx1 := (HB.out.cell (World.block_lt_of_cell? w _ hx1)).trans hx1
    rw [Int.toNat_natCast] at hx0 hx1
    obtain ⟨x, hx⟩ : ∃ x, x = qap l0 (i : Int) := ⟨_, rfl⟩
    rw [← hx] at hx0 hx1
    have HX := Aside0.mk hx
    clear hx
    obtain ⟨c, hcc⟩ : ∃ c, c = cmpS x.f0 a1 := ⟨_, rfl⟩
    have HC := Aside0.mk hcc
    clear hcc
    by_cases hz : c = 0
    ·have HZ : hasAt l0 a1 = true := by
      unfold hasAt
      rw [HI.out, ← HX.out, decide_eq_true hn, decide_eq_true (qfZ.1 (HC.out ▸ hz))]
      rfl
     have HZ2 := Aside0.mk HZ
     clear HZ
     have hz2 : (c == 0) = true := beq_iff_eq.2 hz
     have HZ3 := Aside0.mk hz
     clear hz
     go_wp2_with fail
     refine (qcP x a1 _).mono ?_
     rintro e w1 ⟨rfl, hb1⟩
     rw [← HC.out]
     go_wp2_with fail
     go_ret2
     exact ⟨by rw [HI.out, HZ2.out]; rfl, qag HB.out hb1⟩
    ·have HZ : hasAt l0 a1 = false := by
      unfold hasAt
      rw [HI.out, ← HX.out, decide_eq_false (fun e => hz (HC.out.trans (qfZ.2 e)))]
      simp
     have HZ2 := Aside0.mk HZ
     clear HZ
     have hz2 : (c == 0) = false := beq_eq_false_iff_ne.2 hz
     have HZ3 := Aside0.mk hz
     clear hz
     go_wp2_with fail
     refine (qcP x a1 _).mono ?_
     rintro e w1 ⟨rfl, hb1⟩
     rw [← HC.out]
     go_wp2_with fail
     go_ret2
     exact ⟨by rw [HI.out, HZ2.out]; rfl, qag HB.out hb1⟩
   ·have HZ : hasAt l0 a1 = false := by
     unfold hasAt
     rw [HI.out, decide_eq_false hn]
     rfl
    have HZ2 := Aside0.mk HZ
    clear HZ
    go_wp2_with fail
    go_ret2
    exact ⟨by rw [HI.out, HZ2.out]; rfl, HB.out⟩
set_option maxHeartbeats 1000000 in
set_option maxRecDepth 100000 in
theorem qbx.calls (A0 : Option Addr) (c0 : Nat) (l0 : List (S76)) (a1 : ByteArray) (r1 : Int) (r2 : Bool) (w : World) (hr0 : Kd.C k76 w A0 l0.length l0) (hc0 : l0.length ≤ c0) (h : qbx.f l0 a1 = some (r1, r2)) :
  Calls Try.prog 91 #[.slice A0 l0.length c0, .string a1] w fun e w' => e = .returned (.tuple #[.int .i64 r1, .bool r2]) ∧ Below w.heap.size w w' := by
 unfold qbx.f at h
 by_cases hs : Rises l0 ∧ l0.length ≤ 1000000
 ·rw [if_pos hs] at h
  have h' := Option.some.inj h
  clear h
  obtain ⟨rfl, rfl⟩ := Prod.mk.inj h'
  clear h'
  have HC := Aside0.mk (qd3 A0 c0 l0 a1 w hr0 hs.1 hs.2)
  clear hr0 hs
  generalize hasAt l0 a1 = b at HC ⊢
  generalize lowAt l0 a1 = i at HC ⊢
  go_enter Try.func91, Try.ntmps91
  go_wp2_with fail
  refine HC.out.mono ?_
  rintro e w1 ⟨rfl, hb1⟩
  go_wp2_with fail
  go_ret2
  exact ⟨rfl, hb1⟩
 ·rw [if_neg hs] at h
  cases h
end Go.Proofs.Ytgcncphdjabjjaa.X
