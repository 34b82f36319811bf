import Derived.Test.YtenfomejccfkgaaKFnExactCountRefs4
import Derived.Test.YtenfomejccfkgaaKFnExactCountRefs6
namespace Go.Proofs.Ytenfomejccfkgaa.X
open Go.RowKit Go.Proofs.YtenfomejccfkgaaW.PrintWords Go.Proofs.YtenfomejccfkgaaW.PrintLast Go.Proofs.YtenfomejccfkgaaW.PrintMore
attribute [local go_sem] qaC qaD qaE qay qaz qaO qaP qas qat qaA qaB
set_option linter.unusedVariables false
set_option linter.unusedSimpArgs false
def qap.l0 : Nat → List (S99) → List (S99) → Int → Int → Option (Bool)
 | 0, _, _, _, _ => none
 | k + 1, x0, x5, x6, x7 => if x7 < x6 then (if 0 ≤ x7 then (if x7 < (x5.length : Int) then ((qbI.f ((qaF x5 x7).f0) ((qaF x5 x7).f1)).bind fun t204 => (if t204 = true then (if x7 > 0 then (if 0 ≤ (wrap64 (x7 - 1)) then (if (wrap64 (x7 - 1)) < (x0.length : Int) then (if ((Op.bytesLess (((qaF x0 (wrap64 (x7 - 1))).f0).toList) (((qaF x5 x7).f0).toList)) = true) then (qap.l0 k x0 x5 x6 (wrap64 (x7 + 1))) else (some false)) else (none)) else (none)) else (qap.l0 k x0 x5 x6 (wrap64 (x7 + 1)))) else (some false))) else (none)) else (none)) else (some true)
def qap.f (k : Nat) (l0 : List (S99)) : Option (Bool) := qap.l0 k l0 l0 (l0.length : Int) 0
theorem qap.qbm : ∀ k, (∀ y0 y1 y2 y3, LeO (qap.l0 k y0 y1 y2 y3) (qap.l0 (k + 1) y0 y1 y2 y3))
 | 0 => fun _ _ _ _ r h => by simp [qap.l0] at h
 | k + 1 => by
  have ih0 := qap.qbm k
  ·intro y0 y1 y2 y3
   unfold qap.l0
   repeat' first
   | (with_reducible exact ih0 _ _ _ _)
   | (with_reducible exact LeO.refl _)
   | (with_reducible exact LeO.none _)
   | (with_reducible refine LeO.ite ?_ ?_)
   | (with_reducible refine LeO.bind ?_ (fun _ => ?_))
   | exact ih0 _ _ _ _
   | exact LeO.none _
   | refine LeO.ite ?_ ?_
   | refine LeO.bind ?_ (fun _ => ?_)
theorem qap.mono : ∀ a0 k, LeO (qap.f k a0) (qap.f (k + 1) a0) := by
 intro a0 k
 have ih0 := qap.qbm k
 unfold qap.f
 repeat' first
   | (with_reducible exact ih0 _ _ _ _)
   | (with_reducible exact LeO.refl _)
   | (with_reducible exact LeO.none _)
   | (with_reducible refine LeO.ite ?_ ?_)
   | (with_reducible refine LeO.bind ?_ (fun _ => ?_))
   | exact ih0 _ _ _ _
   | exact LeO.none _
   | refine LeO.ite ?_ ?_
   | refine LeO.bind ?_ (fun _ => ?_)
def qap.T4 : Bool × List (List Nat × List Nat) := (true, [([], []), ([0], [0]), ([1], [1]), ([2, 1], [2]), ([3], [3]), ([4, 3], [3, 4]), ([5, 3, 3], [3, 5]), ([6], [6]), ([6], [6]), ([8, 6], [6, 8]), ([7, 9, 6], [6, 7, 9]), ([10, 6], [6, 10]), ([11, 6], [6, 11]), ([6], [6]), ([13, 6], [6, 13]), ([12, 14, 6], [6, 12, 14]), ([6, 15, 3], [3, 6, 15]), ([3, 16], [3, 16])])
def qap.B4 : List Nat := [0, 1, 3, 7, 15, 31, 63, 127, 127, 383, 1023, 2047, 4095, 127, 8319, 32767, 65535, 131071]
theorem qap.tab4 : rtab .any (opsOf Try.f129 4) = qap.T4 := by kernel_rfl
theorem qap.bits4 : qbX qap.T4.2 qap.B4 = true := by kernel_rfl
set_option maxHeartbeats 8000000 in
set_option maxRecDepth 100000 in
theorem qap.calls (k : Nat) (A0 : Option Addr) (c0 : Nat) (l0 : List (S99)) (r : Bool) (w : World) (hr0 : Kd.C k99 w A0 l0.length l0) (hc0 : l0.length ≤ c0) (h : qap.f k l0 = some r) :
  Calls Try.prog 129 #[.slice A0 l0.length c0] w fun e w' => e = .returned (.bool r) ∧ Below w.heap.size w w' := by
 have hu99 := Try.underlying99
 have HR0 := Aside0.mk hr0
 have HC0 := Aside0.mk hc0
 clear hr0 hc0
 have HB := Aside0.mk (Below.refl w.heap.size w)
 have H : (qap.l0 k l0 l0 (l0.length : Int) 0) = some r := h
 clear h
 have H' := Aside0.mk H
 clear H
 go_enter Try.func129, Try.ntmps129
 go_wp2
 go_loopg [7] k (fun kq v7 w' => ∃ (x7_1 : Int), v7 = .int .i64 x7_1 ∧ Aside0 (qap.l0 kq l0 l0 (l0.length : Int) x7_1 = some r) ∧ Aside0 (kq ≤ k) ∧ Aside0 (Below w.heap.size w w'))
 case atStart => exact ⟨(0), (by first | rfl | (simp; done) | (simp [*]; done)), H', ⟨Nat.le_refl _⟩, ⟨by repeat (first | (with_reducible first | exact HB.out | apply qab | apply qaa | apply qac) | exact HB.out)⟩⟩
 case round =>
  clear H'
  try clear c1
  obtain ⟨x7_1, rfl, HA, HK1, HB⟩ := hrel
  cases gk with
  | zero => exact absurd HA.out (by simp [qap.l0])
  | succ k1 =>
   have H := HA.out
   clear HA
   simp only [qap.l0] at H
   by_cases c2 : x7_1 < (l0.length : Int)
   ·rw [if_pos c2] at H
    have c2b0 : decide (x7_1 < (l0.length : Int)) = true := decide_eq_true c2
    clear c2
    by_cases c3 : 0 ≤ x7_1
    ·rw [if_pos c3] at H
     have c3b0 : decide (0 ≤ x7_1) = true := decide_eq_true c3
     clear c3
     by_cases c4 : x7_1 < (l0.length : Int)
     ·rw [if_pos c4] at H
      have c4b0 : decide (x7_1 < (l0.length : Int)) = true := decide_eq_true c4
      clear c4
      replace H := Option.bind_eq_some_iff.mp H
      obtain ⟨t204, A50, H⟩ := H
      replace H : (if t204 = true then (if x7_1 > 0 then (if 0 ≤ (wrap64 (x7_1 - 1)) then (if (wrap64 (x7_1 - 1)) < (l0.length : Int) then (if ((Op.bytesLess (((qaF l0 (wrap64 (x7_1 - 1))).f0).toList) (((qaF l0 x7_1).f0).toList)) = true) then (qap.l0 k1 l0 l0 (l0.length : Int) (wrap64 (x7_1 + 1))) else (some false)) else (none)) else (none)) else (qap.l0 k1 l0 l0 (l0.length : Int) (wrap64 (x7_1 + 1)))) else (some false)) = some r := H
      have A5 := Aside0.mk A50
      clear A50
      by_cases c6 : t204 = true
      ·subst c6
       have H1 : (if x7_1 > 0 then (if 0 ≤ (wrap64 (x7_1 - 1)) then (if (wrap64 (x7_1 - 1)) < (l0.length : Int) then (if ((Op.bytesLess (((qaF l0 (wrap64 (x7_1 - 1))).f0).toList) (((qaF l0 x7_1).f0).toList)) = true) then (qap.l0 k1 l0 l0 (l0.length : Int) (wrap64 (x7_1 + 1))) else (some false)) else (none)) else (none)) else (qap.l0 k1 l0 l0 (l0.length : Int) (wrap64 (x7_1 + 1)))) = some r := by rw [if_pos rfl] at H; exact H
       clear H
       have H := H1
       clear H1
       by_cases c7 : x7_1 > 0
       ·rw [if_pos c7] at H
        have c7b0 : decide (0 < x7_1) = true := decide_eq_true c7
        clear c7
        obtain ⟨ji8, hji8⟩ : ∃ j_ : Int, (wrap64 (x7_1 - 1)) = j_ := ⟨_, rfl⟩
        replace H : (if 0 ≤ (ji8) then (if (ji8) < (l0.length : Int) then (if ((Op.bytesLess (((qaF l0 (ji8)).f0).toList) (((qaF l0 x7_1).f0).toList)) = true) then (qap.l0 k1 l0 l0 (l0.length : Int) (wrap64 (x7_1 + 1))) else (some false)) else (none)) else (none)) = some r := by first | (rw [hji8] at H; exact H) | (simp only [hji8] at H ⊢; exact H)
        (try rw [hji8] at A5)
        have hji8w : (IntKind.i64.wrap (x7_1 - 1)) = ji8 := (qaS _).trans hji8
        by_cases c9 : 0 ≤ (ji8)
        ·rw [if_pos c9] at H
         have c9b0 : decide (0 ≤ (ji8)) = true := decide_eq_true c9
         clear c9
         by_cases c10 : (ji8) < (l0.length : Int)
         ·rw [if_pos c10] at H
          have c10b0 : decide ((ji8) < (l0.length : Int)) = true := decide_eq_true c10
          clear c10
          by_cases c11 : ((Op.bytesLess (((qaF l0 (ji8)).f0).toList) (((qaF l0 x7_1).f0).toList)) = true)
          ·rw [if_pos c11] at H
           have c11b0 : (Op.bytesLess (((qaF l0 (ji8)).f0).toList) (((qaF l0 x7_1).f0).toList)) = true := c11
           clear c11
           have H' := Aside0.mk H
           clear H
           have p202 : 0 ≤ (x7_1 : Int) := of_decide_eq_true (by first | (with_reducible assumption) | assumption)
           have q202 : x7_1 < (l0.length : Int) := of_decide_eq_true (by first | (with_reducible assumption) | assumption)
           obtain ⟨ad202, e202, hx202_0, hx202_1⟩ := qcs HR0.out x7_1 p202 q202
           cases e202
           replace hx202_0 := (HB.out.cell (World.block_lt_of_cell? w _ hx202_0)).trans hx202_0
           replace hx202_1 := (HB.out.cell (World.block_lt_of_cell? w _ hx202_1)).trans hx202_1
           replace p202 := eq_true p202
           replace q202 := eq_true q202
           try go_wp2_with (first | ((with_reducible refine qaQ (N := 4) rfl ?_); refine qaL ?hg (N := 4) ?hd (cs := #[.string (⟨#[]⟩ : ByteArray), .string (⟨#[]⟩ : ByteArray)]) (t := 99) ?hr ?_; (case hd => rfl); (case hg => rfl); (case hr => first | (go_simp; done) | (go_simp; rfl)); intro gb203 hg w12 hbox hb; have n0_ := Aside0.mk (qai (by repeat (first | (with_reducible first | exact HB.out | apply qab | apply qaa | apply qac) | exact HB.out)) hb); have n1_ := Aside0.mk (hbox); have n2_ := Aside0.mk ((by rw [hg]; exact (qaj (by repeat (first | (with_reducible first | exact HB.out | apply qab | apply qaa | apply qac) | exact HB.out))) : w.heap.size ≤ gb203)); have n3_ := Aside0.mk ((by rw [hg]; exact (qaj (by repeat (first | (with_reducible first | exact HB.out | apply qab | apply qaa | apply qac) | exact HB.out))) : w.heap.size ≤ gb203)); clear HB; have HB := n0_; have BK203 := n1_; have GW203 := n2_; have GE203 := n3_; clear n0_ n1_ n2_ n3_; clear hb hbox hg; have hcz13_0 : w12.cell? ⟨gb203, 0, none⟩ = some (.string (⟨#[]⟩ : ByteArray)) := (qae BK203.out 0).trans rfl; have hcz13_1 : w12.cell? ⟨gb203, 1, none⟩ = some (.string (⟨#[]⟩ : ByteArray)) := (qae BK203.out 1).trans rfl; have hfz13_0 := qad BK203.out 0; have hfz13_1 := qad BK203.out 1))
           have n0_ : Aside0 (((w12.setCell ⟨gb203, 0, none⟩ (.string ((qaF l0 x7_1).f0))).setCell ⟨gb203, 1, none⟩ (.string ((qaF l0 x7_1).f1))).heap[gb203]? = some (.cells #[.string ((qaF l0 x7_1).f0), .string ((qaF l0 x7_1).f1)] 99 (0, 0))) := ⟨by (with_reducible repeat (first | refine qan ?_ _ | refine qao ?_ | refine qak ?_ _)); refine qb9 (cs := #[.string ((qaF l0 x7_1).f0), .string (⟨#[]⟩ : ByteArray)]) ?_ 1 _ rfl; (with_reducible repeat (first | refine qan ?_ _ | refine qao ?_ | refine qak ?_ _)); refine qb9 (cs := #[.string (⟨#[]⟩ : ByteArray), .string (⟨#[]⟩ : ByteArray)]) ?_ 0 _ rfl; (with_reducible repeat (first | refine qan ?_ _ | refine qao ?_ | refine qak ?_ _)); exact BK203.out⟩
           have n1_ : Aside0 (Below w.heap.size w ((w12.setCell ⟨gb203, 0, none⟩ (.string ((qaF l0 x7_1).f0))).setCell ⟨gb203, 1, none⟩ (.string ((qaF l0 x7_1).f1)))) := ⟨by repeat (first | (with_reducible first | exact HB.out | apply qab | apply qaa | apply qac | refine qaf ?_ GE203.out) | exact HB.out)⟩
           (try clear BK203)
           (try clear HB)
           generalize ((w12.setCell ⟨gb203, 0, none⟩ (.string ((qaF l0 x7_1).f0))).setCell ⟨gb203, 1, none⟩ (.string ((qaF l0 x7_1).f1))) = w14 at n0_ n1_ ⊢
           have BK203 := n0_
           have HB := n1_
           clear n0_ n1_
           have n0_ := Aside0.mk (qao BK203.out)
           have n1_ := Aside0.mk (qac HB.out)
           clear BK203
           clear HB
           have BK203 := n0_
           have HB := n1_
           clear n0_ n1_
           have p205 : 0 ≤ ((ji8) : Int) := of_decide_eq_true (by first | (with_reducible assumption) | assumption)
           have q205 : (ji8) < (l0.length : Int) := of_decide_eq_true (by first | (with_reducible assumption) | assumption)
           obtain ⟨ad205, e205, hx205_0, hx205_1⟩ := qcs HR0.out (ji8) p205 q205
           have hw205_1 := hx205_1
           have hw205_0 := hx205_0
           obtain rfl : ad202 = ad205 := (by injection e205)
           replace hx205_0 := (HB.out.cell (World.block_lt_of_cell? w _ hx205_0)).trans hx205_0
           replace hx205_1 := (HB.out.cell (World.block_lt_of_cell? w _ hx205_1)).trans hx205_1
           replace p205 := eq_true p205
           replace q205 := eq_true q205
           refine qbn (by kernel_rfl) (by kernel_rfl) ?_
           have hL0_ := Aside0.mk (show w14.drew.cell? ⟨gb203, 0, none⟩ = some (.string ((qaF l0 x7_1).f0)) from (qae BK203.out 0).trans rfl)
           have hL1_ := Aside0.mk (show w14.drew.cell? ⟨gb203, 1, none⟩ = some (.string ((qaF l0 x7_1).f1)) from (qae BK203.out 1).trans rfl)
           have hL2_ := Aside0.mk (show w14.drew.cell? (ad202.add (((ji8)).toNat * 2)) = some (.string ((qaF l0 (ji8)).f0)) from ((HB.out.cell (World.block_lt_of_cell? w _ hw205_0)).trans hw205_0))
           have hL3_ := Aside0.mk (show w14.drew.cell? ⟨(ad202.add (((ji8)).toNat * 2)).block, (ad202.add (((ji8)).toNat * 2)).off + 1, none⟩ = some (.string ((qaF l0 (ji8)).f1)) from ((HB.out.cell (World.block_lt_of_cell? w _ hw205_1)).trans hw205_1))
           generalize w14.drew = w15 at BK203 HB hx205_0 hx205_1 hL0_ hL1_ hL2_ hL3_ ⊢
           clear hx205_0 hx205_1
           have hL0 := fun (p_ : Later w15) => Later.cell p_ hL0_.out
           have hL1 := fun (p_ : Later w15) => Later.cell p_ hL1_.out
           have hL2 := fun (p_ : Later w15) => Later.cell p_ hL2_.out
           have hL3 := fun (p_ : Later w15) => Later.cell p_ hL3_.out
           clear hL0_ hL1_ hL2_ hL3_
           repeat (first | go_big_quiet_step ((first | (go_at_call 164; exact Calls.qbK (qbI.calls ((qaF l0 x7_1).f0) ((qaF l0 x7_1).f1) true _ A5.out)))) | quiet_step ((first | (go_at_call 164; exact Calls.qbK (qbI.calls ((qaF l0 x7_1).f0) ((qaF l0 x7_1).f1) true _ A5.out)))))
           refine wpQuiet_nil ?_
           rintro w16 ⟨⟨wq_, hbL⟩, hq_⟩
           have hq2_ : w16 = wq_ := hq_
           clear hq_
           subst hq2_
           clear hL0 hL1 hL2 hL3
           have nBK203_ := Aside0.mk ((hbL.block _ (qbt BK203.out)).trans BK203.out)
           have nHB_ := Aside0.mk (qai HB.out hbL)
           clear BK203
           clear HB
           have BK203 := nBK203_
           have HB := nHB_
           clear nBK203_
           clear nHB_
           clear hbL
           try go_wp2
           go_roundg k1
           case measure => have := HK1.out; omega
           case rel => exact ⟨(wrap64 (x7_1 + 1)), (by first | rfl | (simp; done) | (simp [*]; done)), H', ⟨by have := HK1.out; omega⟩, ⟨by repeat (first | (with_reducible first | exact HB.out | apply qab | apply qaa | apply qac | refine qaf ?_ GE203.out) | exact HB.out)⟩⟩
          ·rw [if_neg c11] at H
           have c11b0 : (Op.bytesLess (((qaF l0 (ji8)).f0).toList) (((qaF l0 x7_1).f0).toList)) = false := by simpa using c11
           clear c11
           obtain rfl := Option.some.inj H
           have p202 : 0 ≤ (x7_1 : Int) := of_decide_eq_true (by first | (with_reducible assumption) | assumption)
           have q202 : x7_1 < (l0.length : Int) := of_decide_eq_true (by first | (with_reducible assumption) | assumption)
           obtain ⟨ad202, e202, hx202_0, hx202_1⟩ := qcs HR0.out x7_1 p202 q202
           cases e202
           replace hx202_0 := (HB.out.cell (World.block_lt_of_cell? w _ hx202_0)).trans hx202_0
           replace hx202_1 := (HB.out.cell (World.block_lt_of_cell? w _ hx202_1)).trans hx202_1
           replace p202 := eq_true p202
           replace q202 := eq_true q202
           try go_wp2_with (first | ((with_reducible refine qaQ (N := 4) rfl ?_); refine qaL ?hg (N := 4) ?hd (cs := #[.string (⟨#[]⟩ : ByteArray), .string (⟨#[]⟩ : ByteArray)]) (t := 99) ?hr ?_; (case hd => rfl); (case hg => rfl); (case hr => first | (go_simp; done) | (go_simp; rfl)); intro gb203 hg w17 hbox hb; have n0_ := Aside0.mk (qai (by repeat (first | (with_reducible first | exact HB.out | apply qab | apply qaa | apply qac) | exact HB.out)) hb); have n1_ := Aside0.mk (hbox); have n2_ := Aside0.mk ((by rw [hg]; exact (qaj (by repeat (first | (with_reducible first | exact HB.out | apply qab | apply qaa | apply qac) | exact HB.out))) : w.heap.size ≤ gb203)); have n3_ := Aside0.mk ((by rw [hg]; exact (qaj (by repeat (first | (with_reducible first | exact HB.out | apply qab | apply qaa | apply qac) | exact HB.out))) : w.heap.size ≤ gb203)); clear HB; have HB := n0_; have BK203 := n1_; have GW203 := n2_; have GE203 := n3_; clear n0_ n1_ n2_ n3_; clear hb hbox hg; have hcz18_0 : w17.cell? ⟨gb203, 0, none⟩ = some (.string (⟨#[]⟩ : ByteArray)) := (qae BK203.out 0).trans rfl; have hcz18_1 : w17.cell? ⟨gb203, 1, none⟩ = some (.string (⟨#[]⟩ : ByteArray)) := (qae BK203.out 1).trans rfl; have hfz18_0 := qad BK203.out 0; have hfz18_1 := qad BK203.out 1))
           have n0_ : Aside0 (((w17.setCell ⟨gb203, 0, none⟩ (.string ((qaF l0 x7_1).f0))).setCell ⟨gb203, 1, none⟩ (.string ((qaF l0 x7_1).f1))).heap[gb203]? = some (.cells #[.string ((qaF l0 x7_1).f0), .string ((qaF l0 x7_1).f1)] 99 (0, 0))) := ⟨by (with_reducible repeat (first | refine qan ?_ _ | refine qao ?_ | refine qak ?_ _)); refine qb9 (cs := #[.string ((qaF l0 x7_1).f0), .string (⟨#[]⟩ : ByteArray)]) ?_ 1 _ rfl; (with_reducible repeat (first | refine qan ?_ _ | refine qao ?_ | refine qak ?_ _)); refine qb9 (cs := #[.string (⟨#[]⟩ : ByteArray), .string (⟨#[]⟩ : ByteArray)]) ?_ 0 _ rfl; (with_reducible repeat (first | refine qan ?_ _ | refine qao ?_ | refine qak ?_ _)); exact BK203.out⟩
           have n1_ : Aside0 (Below w.heap.size w ((w17.setCell ⟨gb203, 0, none⟩ (.string ((qaF l0 x7_1).f0))).setCell ⟨gb203, 1, none⟩ (.string ((qaF l0 x7_1).f1)))) := ⟨by repeat (first | (with_reducible first | exact HB.out | apply qab | apply qaa | apply qac | refine qaf ?_ GE203.out) | exact HB.out)⟩
           (try clear BK203)
           (try clear HB)
           generalize ((w17.setCell ⟨gb203, 0, none⟩ (.string ((qaF l0 x7_1).f0))).setCell ⟨gb203, 1, none⟩ (.string ((qaF l0 x7_1).f1))) = w19 at n0_ n1_ ⊢
           have BK203 := n0_
           have HB := n1_
           clear n0_ n1_
           have n0_ := Aside0.mk (qao BK203.out)
           have n1_ := Aside0.mk (qac HB.out)
           clear BK203
           clear HB
           have BK203 := n0_
           have HB := n1_
           clear n0_ n1_
           have p205 : 0 ≤ ((ji8) : Int) := of_decide_eq_true (by first | (with_reducible assumption) | assumption)
           have q205 : (ji8) < (l0.length : Int) := of_decide_eq_true (by first | (with_reducible assumption) | assumption)
           obtain ⟨ad205, e205, hx205_0, hx205_1⟩ := qcs HR0.out (ji8) p205 q205
           have hw205_1 := hx205_1
           have hw205_0 := hx205_0
           obtain rfl : ad202 = ad205 := (by injection e205)
           replace hx205_0 := (HB.out.cell (World.block_lt_of_cell? w _ hx205_0)).trans hx205_0
           replace hx205_1 := (HB.out.cell (World.block_lt_of_cell? w _ hx205_1)).trans hx205_1
           replace p205 := eq_true p205
           replace q205 := eq_true q205
           refine qbn (by kernel_rfl) (by kernel_rfl) ?_
           have hL0_ := Aside0.mk (show w19.drew.cell? ⟨gb203, 0, none⟩ = some (.string ((qaF l0 x7_1).f0)) from (qae BK203.out 0).trans rfl)
           have hL1_ := Aside0.mk (show w19.drew.cell? ⟨gb203, 1, none⟩ = some (.string ((qaF l0 x7_1).f1)) from (qae BK203.out 1).trans rfl)
           have hL2_ := Aside0.mk (show w19.drew.cell? (ad202.add (((ji8)).toNat * 2)) = some (.string ((qaF l0 (ji8)).f0)) from ((HB.out.cell (World.block_lt_of_cell? w _ hw205_0)).trans hw205_0))
           have hL3_ := Aside0.mk (show w19.drew.cell? ⟨(ad202.add (((ji8)).toNat * 2)).block, (ad202.add (((ji8)).toNat * 2)).off + 1, none⟩ = some (.string ((qaF l0 (ji8)).f1)) from ((HB.out.cell (World.block_lt_of_cell? w _ hw205_1)).trans hw205_1))
           generalize w19.drew = w20 at BK203 HB hx205_0 hx205_1 hL0_ hL1_ hL2_ hL3_ ⊢
           clear hx205_0 hx205_1
           have hL0 := fun (p_ : Later w20) => Later.cell p_ hL0_.out
           have hL1 := fun (p_ : Later w20) => Later.cell p_ hL1_.out
           have hL2 := fun (p_ : Later w20) => Later.cell p_ hL2_.out
           have hL3 := fun (p_ : Later w20) => Later.cell p_ hL3_.out
           clear hL0_ hL1_ hL2_ hL3_
           repeat (first | go_big_quiet_step ((first | (go_at_call 164; exact Calls.qbK (qbI.calls ((qaF l0 x7_1).f0) ((qaF l0 x7_1).f1) true _ A5.out)))) | quiet_step ((first | (go_at_call 164; exact Calls.qbK (qbI.calls ((qaF l0 x7_1).f0) ((qaF l0 x7_1).f1) true _ A5.out)))))
           refine wpQuiet_nil ?_
           rintro w21 ⟨⟨wq_, hbL⟩, hq_⟩
           have hq2_ : w21 = wq_ := hq_
           clear hq_
           subst hq2_
           clear hL0 hL1 hL2 hL3
           have nBK203_ := Aside0.mk ((hbL.block _ (qbt BK203.out)).trans BK203.out)
           have nHB_ := Aside0.mk (qai HB.out hbL)
           clear BK203
           clear HB
           have BK203 := nBK203_
           have HB := nHB_
           clear nBK203_
           clear nHB_
           clear hbL
           try go_wp2
           go_ret
           exact ⟨by first | rfl | (simp [qal, qam] <;> rfl) | (simp only [← hji8]; first | rfl | (simp [qal, qam] <;> rfl)) | (simp [*, qal, qam] <;> rfl), by repeat (first | (with_reducible first | exact HB.out | apply qab | apply qaa | apply qac | refine qaf ?_ GE203.out) | exact HB.out)⟩
         ·rw [if_neg c10] at H
          exact absurd H (by simp)
        ·rw [if_neg c9] at H
         exact absurd H (by simp)
       ·rw [if_neg c7] at H
        have c7b0 : decide (0 < x7_1) = false := decide_eq_false c7
        clear c7
        have H' := Aside0.mk H
        clear H
        have p202 : 0 ≤ (x7_1 : Int) := of_decide_eq_true (by first | (with_reducible assumption) | assumption)
        have q202 : x7_1 < (l0.length : Int) := of_decide_eq_true (by first | (with_reducible assumption) | assumption)
        obtain ⟨ad202, e202, hx202_0, hx202_1⟩ := qcs HR0.out x7_1 p202 q202
        cases e202
        replace hx202_0 := (HB.out.cell (World.block_lt_of_cell? w _ hx202_0)).trans hx202_0
        replace hx202_1 := (HB.out.cell (World.block_lt_of_cell? w _ hx202_1)).trans hx202_1
        replace p202 := eq_true p202
        replace q202 := eq_true q202
        try go_wp2_with (first | ((with_reducible refine qaQ (N := 4) rfl ?_); refine qaL ?hg (N := 4) ?hd (cs := #[.string (⟨#[]⟩ : ByteArray), .string (⟨#[]⟩ : ByteArray)]) (t := 99) ?hr ?_; (case hd => rfl); (case hg => rfl); (case hr => first | (go_simp; done) | (go_simp; rfl)); intro gb203 hg w22 hbox hb; have n0_ := Aside0.mk (qai (by repeat (first | (with_reducible first | exact HB.out | apply qab | apply qaa | apply qac) | exact HB.out)) hb); have n1_ := Aside0.mk (hbox); have n2_ := Aside0.mk ((by rw [hg]; exact (qaj (by repeat (first | (with_reducible first | exact HB.out | apply qab | apply qaa | apply qac) | exact HB.out))) : w.heap.size ≤ gb203)); have n3_ := Aside0.mk ((by rw [hg]; exact (qaj (by repeat (first | (with_reducible first | exact HB.out | apply qab | apply qaa | apply qac) | exact HB.out))) : w.heap.size ≤ gb203)); clear HB; have HB := n0_; have BK203 := n1_; have GW203 := n2_; have GE203 := n3_; clear n0_ n1_ n2_ n3_; clear hb hbox hg; have hcz23_0 : w22.cell? ⟨gb203, 0, none⟩ = some (.string (⟨#[]⟩ : ByteArray)) := (qae BK203.out 0).trans rfl; have hcz23_1 : w22.cell? ⟨gb203, 1, none⟩ = some (.string (⟨#[]⟩ : ByteArray)) := (qae BK203.out 1).trans rfl; have hfz23_0 := qad BK203.out 0; have hfz23_1 := qad BK203.out 1))
        have n0_ : Aside0 (((w22.setCell ⟨gb203, 0, none⟩ (.string ((qaF l0 x7_1).f0))).setCell ⟨gb203, 1, none⟩ (.string ((qaF l0 x7_1).f1))).heap[gb203]? = some (.cells #[.string ((qaF l0 x7_1).f0), .string ((qaF l0 x7_1).f1)] 99 (0, 0))) := ⟨by (with_reducible repeat (first | refine qan ?_ _ | refine qao ?_ | refine qak ?_ _)); refine qb9 (cs := #[.string ((qaF l0 x7_1).f0), .string (⟨#[]⟩ : ByteArray)]) ?_ 1 _ rfl; (with_reducible repeat (first | refine qan ?_ _ | refine qao ?_ | refine qak ?_ _)); refine qb9 (cs := #[.string (⟨#[]⟩ : ByteArray), .string (⟨#[]⟩ : ByteArray)]) ?_ 0 _ rfl; (with_reducible repeat (first | refine qan ?_ _ | refine qao ?_ | refine qak ?_ _)); exact BK203.out⟩
        have n1_ : Aside0 (Below w.heap.size w ((w22.setCell ⟨gb203, 0, none⟩ (.string ((qaF l0 x7_1).f0))).setCell ⟨gb203, 1, none⟩ (.string ((qaF l0 x7_1).f1)))) := ⟨by repeat (first | (with_reducible first | exact HB.out | apply qab | apply qaa | apply qac | refine qaf ?_ GE203.out) | exact HB.out)⟩
        (try clear BK203)
        (try clear HB)
        generalize ((w22.setCell ⟨gb203, 0, none⟩ (.string ((qaF l0 x7_1).f0))).setCell ⟨gb203, 1, none⟩ (.string ((qaF l0 x7_1).f1))) = w24 at n0_ n1_ ⊢
        have BK203 := n0_
        have HB := n1_
        clear n0_ n1_
        have n0_ := Aside0.mk (qao BK203.out)
        have n1_ := Aside0.mk (qac HB.out)
        clear BK203
        clear HB
        have BK203 := n0_
        have HB := n1_
        clear n0_ n1_
        refine qbn (by kernel_rfl) (by kernel_rfl) ?_
        have hL0_ := Aside0.mk (show w24.drew.cell? ⟨gb203, 0, none⟩ = some (.string ((qaF l0 x7_1).f0)) from (qae BK203.out 0).trans rfl)
        have hL1_ := Aside0.mk (show w24.drew.cell? ⟨gb203, 1, none⟩ = some (.string ((qaF l0 x7_1).f1)) from (qae BK203.out 1).trans rfl)
        generalize w24.drew = w25 at BK203 HB hL0_ hL1_ ⊢
        have hL0 := fun (p_ : Later w25) => Later.cell p_ hL0_.out
        have hL1 := fun (p_ : Later w25) => Later.cell p_ hL1_.out
        clear hL0_ hL1_
        repeat (first | go_big_quiet_step ((first | (go_at_call 164; exact Calls.qbK (qbI.calls ((qaF l0 x7_1).f0) ((qaF l0 x7_1).f1) true _ A5.out)))) | quiet_step ((first | (go_at_call 164; exact Calls.qbK (qbI.calls ((qaF l0 x7_1).f0) ((qaF l0 x7_1).f1) true _ A5.out)))))
        refine wpQuiet_nil ?_
        rintro w26 ⟨⟨wq_, hbL⟩, hq_⟩
        have hq2_ : w26 = wq_ := hq_
        clear hq_
        subst hq2_
        clear hL0 hL1
        have nBK203_ := Aside0.mk ((hbL.block _ (qbt BK203.out)).trans BK203.out)
        have nHB_ := Aside0.mk (qai HB.out hbL)
        clear BK203
        clear HB
        have BK203 := nBK203_
        have HB := nHB_
        clear nBK203_
        clear nHB_
        clear hbL
        try go_wp2
        go_roundg k1
        case measure => have := HK1.out; omega
        case rel => exact ⟨(wrap64 (x7_1 + 1)), (by first | rfl | (simp; done) | (simp [*]; done)), H', ⟨by have := HK1.out; omega⟩, ⟨by repeat (first | (with_reducible first | exact HB.out | apply qab | apply qaa | apply qac | refine qaf ?_ GE203.out) | exact HB.out)⟩⟩
      ·replace c6 := Bool.eq_false_iff.mpr c6
       subst c6
       have H1 : (some false) = some r := by rw [if_neg (show ¬ (false = true) by decide)] at H; exact H
       clear H
       have H := H1
       clear H1
       obtain rfl := Option.some.inj H
       have p202 : 0 ≤ (x7_1 : Int) := of_decide_eq_true (by first | (with_reducible assumption) | assumption)
       have q202 : x7_1 < (l0.length : Int) := of_decide_eq_true (by first | (with_reducible assumption) | assumption)
       obtain ⟨ad202, e202, hx202_0, hx202_1⟩ := qcs HR0.out x7_1 p202 q202
       cases e202
       replace hx202_0 := (HB.out.cell (World.block_lt_of_cell? w _ hx202_0)).trans hx202_0
       replace hx202_1 := (HB.out.cell (World.block_lt_of_cell? w _ hx202_1)).trans hx202_1
       replace p202 := eq_true p202
       replace q202 := eq_true q202
       try go_wp2_with (first | ((with_reducible refine qaQ (N := 4) rfl ?_); refine qaL ?hg (N := 4) ?hd (cs := #[.string (⟨#[]⟩ : ByteArray), .string (⟨#[]⟩ : ByteArray)]) (t := 99) ?hr ?_; (case hd => rfl); (case hg => rfl); (case hr => first | (go_simp; done) | (go_simp; rfl)); intro gb203 hg w27 hbox hb; have n0_ := Aside0.mk (qai (by repeat (first | (with_reducible first | exact HB.out | apply qab | apply qaa | apply qac) | exact HB.out)) hb); have n1_ := Aside0.mk (hbox); have n2_ := Aside0.mk ((by rw [hg]; exact (qaj (by repeat (first | (with_reducible first | exact HB.out | apply qab | apply qaa | apply qac) | exact HB.out))) : w.heap.size ≤ gb203)); have n3_ := Aside0.mk ((by rw [hg]; exact (qaj (by repeat (first | (with_reducible first | exact HB.out | apply qab | apply qaa | apply qac) | exact HB.out))) : w.heap.size ≤ gb203)); clear HB; have HB := n0_; have BK203 := n1_; have GW203 := n2_; have GE203 := n3_; clear n0_ n1_ n2_ n3_; clear hb hbox hg; have hcz28_0 : w27.cell? ⟨gb203, 0, none⟩ = some (.string (⟨#[]⟩ : ByteArray)) := (qae BK203.out 0).trans rfl; have hcz28_1 : w27.cell? ⟨gb203, 1, none⟩ = some (.string (⟨#[]⟩ : ByteArray)) := (qae BK203.out 1).trans rfl; have hfz28_0 := qad BK203.out 0; have hfz28_1 := qad BK203.out 1))
       have n0_ : Aside0 (((w27.setCell ⟨gb203, 0, none⟩ (.string ((qaF l0 x7_1).f0))).setCell ⟨gb203, 1, none⟩ (.string ((qaF l0 x7_1).f1))).heap[gb203]? = some (.cells #[.string ((qaF l0 x7_1).f0), .string ((qaF l0 x7_1).f1)] 99 (0, 0))) := ⟨by (with_reducible repeat (first | refine qan ?_ _ | refine qao ?_ | refine qak ?_ _)); refine qb9 (cs := #[.string ((qaF l0 x7_1).f0), .string (⟨#[]⟩ : ByteArray)]) ?_ 1 _ rfl; (with_reducible repeat (first | refine qan ?_ _ | refine qao ?_ | refine qak ?_ _)); refine qb9 (cs := #[.string (⟨#[]⟩ : ByteArray), .string (⟨#[]⟩ : ByteArray)]) ?_ 0 _ rfl; (with_reducible repeat (first | refine qan ?_ _ | refine qao ?_ | refine qak ?_ _)); exact BK203.out⟩
       have n1_ : Aside0 (Below w.heap.size w ((w27.setCell ⟨gb203, 0, none⟩ (.string ((qaF l0 x7_1).f0))).setCell ⟨gb203, 1, none⟩ (.string ((qaF l0 x7_1).f1)))) := ⟨by repeat (first | (with_reducible first | exact HB.out | apply qab | apply qaa | apply qac | refine qaf ?_ GE203.out) | exact HB.out)⟩
       (try clear BK203)
       (try clear HB)
       generalize ((w27.setCell ⟨gb203, 0, none⟩ (.string ((qaF l0 x7_1).f0))).setCell ⟨gb203, 1, none⟩ (.string ((qaF l0 x7_1).f1))) = w29 at n0_ n1_ ⊢
       have BK203 := n0_
       have HB := n1_
       clear n0_ n1_
       have n0_ := Aside0.mk (qao BK203.out)
       have n1_ := Aside0.mk (qac HB.out)
       clear BK203
       clear HB
       have BK203 := n0_
       have HB := n1_
       clear n0_ n1_
       refine qbn (by kernel_rfl) (by kernel_rfl) ?_
       have hL0_ := Aside0.mk (show w29.drew.cell? ⟨gb203, 0, none⟩ = some (.string ((qaF l0 x7_1).f0)) from (qae BK203.out 0).trans rfl)
       have hL1_ := Aside0.mk (show w29.drew.cell? ⟨gb203, 1, none⟩ = some (.string ((qaF l0 x7_1).f1)) from (qae BK203.out 1).trans rfl)
       generalize w29.drew = w30 at BK203 HB hL0_ hL1_ ⊢
       have hL0 := fun (p_ : Later w30) => Later.cell p_ hL0_.out
       have hL1 := fun (p_ : Later w30) => Later.cell p_ hL1_.out
       clear hL0_ hL1_
       repeat (first | go_big_quiet_step ((first | (go_at_call 164; exact Calls.qbK (qbI.calls ((qaF l0 x7_1).f0) ((qaF l0 x7_1).f1) false _ A5.out)))) | quiet_step ((first | (go_at_call 164; exact Calls.qbK (qbI.calls ((qaF l0 x7_1).f0) ((qaF l0 x7_1).f1) false _ A5.out)))))
       refine wpQuiet_nil ?_
       rintro w31 ⟨⟨wq_, hbL⟩, hq_⟩
       have hq2_ : w31 = wq_ := hq_
       clear hq_
       subst hq2_
       clear hL0 hL1
       have nBK203_ := Aside0.mk ((hbL.block _ (qbt BK203.out)).trans BK203.out)
       have nHB_ := Aside0.mk (qai HB.out hbL)
       clear BK203
       clear HB
       have BK203 := nBK203_
       have HB := nHB_
       clear nBK203_
       clear nHB_
       clear hbL
       try go_wp2
       go_ret
       exact ⟨by first | rfl | (simp [qal, qam] <;> rfl) | (simp [*, qal, qam] <;> rfl), by repeat (first | (with_reducible first | exact HB.out | apply qab | apply qaa | apply qac | refine qaf ?_ GE203.out) | exact HB.out)⟩
     ·rw [if_neg c4] at H
      exact absurd H (by simp)
    ·rw [if_neg c3] at H
     exact absurd H (by simp)
   ·rw [if_neg c2] at H
    have c2b0 : decide (x7_1 < (l0.length : Int)) = false := decide_eq_false c2
    clear c2
    obtain rfl := Option.some.inj H
    go_wp2
    go_ret
    exact ⟨by first | rfl | (simp [qal, qam] <;> rfl) | (simp [*, qal, qam] <;> rfl), by repeat (first | (with_reducible first | exact HB.out | apply qab | apply qaa | apply qac) | exact HB.out)⟩
end Go.Proofs.Ytenfomejccfkgaa.X
namespace Go.Proofs.Ytenfomejccfkgaa.X
open Go.RowKit Go.Proofs.YtenfomejccfkgaaW.PrintWords Go.Proofs.YtenfomejccfkgaaW.PrintLast Go.Proofs.YtenfomejccfkgaaW.PrintMore
attribute [local go_sem] qaC qaD qaE qay qaz qaO qaP qas qat qaA qaB
set_option linter.unusedVariables false
set_option linter.unusedSimpArgs false
def Rises (l : List S99) : Prop := l.Pairwise fun a b => Op.bytesLess a.f0.toList b.f0.toList = true
instance risesDec (l : List S99) : Decidable (Rises l) := by unfold Rises; infer_instance
theorem rises_lt {l : List S99} (h : Rises l) {i j : Nat} (hj : j < l.length) (hij : i < j) : Op.bytesLess (l[i]'(by omega)).f0.toList l[j].f0.toList = true := (List.pairwise_iff_getElem.1 h) i j (by omega) hj hij
def okP (p : S99) : Bool := keyB p.f0 && decide (p.f1.size ≤ 90)
def chainB : Option S99 → List S99 → Bool
 | _, [] => true
 | none, p :: r => okP p && chainB (some p) r
 | some q, p :: r => okP p && (Op.bytesLess q.f0.toList p.f0.toList && chainB (some p) r)
def qcF (l : List S99) : Bool := decide (l.length ≤ 60) && chainB none l
theorem qfH (l : List S99) : ∀ q, chainB (some q) l = true → (∀ p ∈ l, okP p = true) ∧ (q :: l).Pairwise fun a b => Op.bytesLess a.f0.toList b.f0.toList = true := by
 induction l with
 | nil => intro q _; exact ⟨fun p hp => (by cases hp), List.pairwise_singleton _ _⟩
 | cons p r ih =>
  intro q h
  simp only [chainB, Bool.and_eq_true] at h
  obtain ⟨h1, h2, h3⟩ := h
  obtain ⟨i1, i2⟩ := ih p h3
  refine ⟨fun x hx => ?_, List.pairwise_cons.2 ⟨fun x hx => ?_, i2⟩⟩
  ·rcases List.mem_cons.1 hx with rfl | hx
   ·exact h1
   ·exact i1 x hx
  ·rcases List.mem_cons.1 hx with rfl | hx
   ·exact h2
   ·exact qei h2 ((List.pairwise_cons.1 i2).1 x hx)
theorem qga {l : List S99} (h : chainB none l = true) : (∀ p ∈ l, okP p = true) ∧ Rises l := by
 cases l with
 | nil => exact ⟨fun p hp => (by cases hp), List.Pairwise.nil⟩
 | cons p r =>
  simp only [chainB, Bool.and_eq_true] at h
  obtain ⟨i1, i2⟩ := qfH r p h.2
  refine ⟨fun x hx => ?_, i2⟩
  rcases List.mem_cons.1 hx with rfl | hx
  ·exact h.1
  ·exact i1 x hx
theorem qhe (l : List S99) : ∀ q, (∀ p ∈ l, okP p = true) → ((q :: l).Pairwise fun a b => Op.bytesLess a.f0.toList b.f0.toList = true) → chainB (some q) l = true := by
 induction l with
 | nil => intro q _ _; rfl
 | cons p r ih =>
  intro q h1 h2
  simp only [chainB, Bool.and_eq_true]
  exact ⟨h1 p List.mem_cons_self, (List.pairwise_cons.1 h2).1 p List.mem_cons_self, ih p (fun x hx => h1 x (List.mem_cons_of_mem _ hx)) (List.pairwise_cons.1 h2).2⟩
theorem qeG {l : List S99} (h1 : ∀ p ∈ l, okP p = true) (h2 : Rises l) : chainB none l = true := by
 cases l with
 | nil => rfl
 | cons p r =>
  simp only [chainB, Bool.and_eq_true]
  exact ⟨h1 p List.mem_cons_self, qhe r p (fun x hx => h1 x (List.mem_cons_of_mem _ hx)) h2⟩
theorem qfI {l : List S99} : qcF l = true ↔ l.length ≤ 60 ∧ (∀ p ∈ l, okP p = true) ∧ Rises l := by
 unfold qcF
 rw [Bool.and_eq_true, decide_eq_true_eq]
 exact ⟨fun h => ⟨h.1, qga h.2⟩, fun h => ⟨h.1, qeG h.2.1 h.2.2⟩⟩
theorem qgB (l : List S99) (pre rest : List S99) (x : S99) (h : l = pre ++ x :: rest) : qaF l ((pre.length : Nat) : Int) = x := by
 subst h
 simp [qaF, List.getD_eq_getElem?_getD]
theorem qfJ (p : S99) : qbD.f p.f0 p.f1 = some (okP p) := by
 unfold qbD.f okP
 have e : ((p.f1.size : Int) ≤ 90) = (p.f1.size ≤ 90) := propext (by omega)
 rw [spec_key, Option.bind_some]
 cases keyB p.f0 <;> simp [e]
theorem qfK (p : S99) : qbI.f p.f0 p.f1 = some (okP p) := by
 unfold qbI.f okP
 have e : ((p.f1.size : Int) ≤ 90) = (p.f1.size ≤ 90) := propext (by omega)
 rw [qgo, Option.bind_some]
 cases keyB p.f0 <;> simp [e]
theorem qeH (l : List S99) (hl : l.length ≤ 60) (rest : List S99) : ∀ (pre : List S99) (q : S99), l = (pre ++ [q]) ++ rest →
  Ev (fun k => qaI.l0 k l (((pre ++ [q]).length : Nat) : Int)) (chainB (some q) rest) := by
 induction rest with
 | nil =>
  intro pre q h
  refine Ev.succ ?_
  simp only [qaI.l0]
  exact Ev.neg (by rw [h]; simp) (Ev.is rfl)
 | cons p r ih =>
  intro pre q h
  have hx := qgB l (pre ++ [q]) r p h
  have hq := qgB l pre (p :: r) q (by rw [h]; simp)
  have hlen : (pre ++ [q]).length < l.length := by rw [h]; simp
  have hw := qb5 (n := (pre ++ [q]).length) (by omega)
  have hp : wrap64 ((((pre ++ [q]).length : Nat) : Int) - 1) = ((pre.length : Nat) : Int) := by rw [← qbV]; exact qfG (by simp at hlen <;> omega)
  have hi := ih (pre ++ [q]) p (by rw [h]; simp)
  rw [← qbV] at hi
  refine Ev.succ ?_
  simp only [qaI.l0, hx, hp, hq, hw]
  refine Ev.pos (by omega) (Ev.pos (by omega) (Ev.bindk (qfJ p) ?_))
  cases ho : okP p with
  | false => exact Ev.neg (by simp) (Ev.is (by simp [chainB, ho]))
  | true =>
   refine Ev.pos rfl (Ev.pos (by simp <;> omega) (Ev.pos (by omega) (Ev.pos (by simp at hlen <;> omega) ?_)))
   cases hb : Op.bytesLess q.f0.toList p.f0.toList with
   | false => exact Ev.neg (by simp) (Ev.is (by simp [chainB, ho, hb]))
   | true => exact Ev.pos rfl (Ev.same hi (by simp [chainB, ho, hb]))
theorem qhf (l : List S99) (hl : l.length ≤ 60) : Ev (fun k => qaI.l0 k l 0) (chainB none l) := by
 cases l with
 | nil =>
  refine Ev.succ ?_
  simp only [qaI.l0]
  exact Ev.neg (by simp) (Ev.is rfl)
 | cons p r =>
  have hx := qgB (p :: r) [] r p rfl
  simp only [List.length_nil, Int.natCast_zero] at hx
  have hi := qeH (p :: r) hl r [] p rfl
  refine Ev.succ ?_
  simp only [qaI.l0, hx]
  refine Ev.pos (by simp <;> omega) (Ev.pos (by omega) (Ev.bindk (qfJ p) ?_))
  cases ho : okP p with
  | false => exact Ev.neg (by simp) (Ev.is (by simp [chainB, ho]))
  | true =>
   have e0 : ((([] ++ [p] : List S99).length : Nat) : Int) = wrap64 (0 + 1) := by unfold wrap64; simp
   rw [e0] at hi
   exact Ev.pos rfl (Ev.neg (by omega) (Ev.same hi (by simp [chainB, ho])))
theorem qfL (l : List S99) : Ev (fun k => qaI.f k l) (qcF l) := by
 unfold qaI.f qcF
 by_cases h1 : (l.length : Int) > 4096
 ·exact Ev.pos h1 (Ev.is (by simp [show ¬ l.length ≤ 60 by omega]))
 ·by_cases h2 : (l.length : Int) > 60
  ·exact Ev.neg h1 (Ev.pos h2 (Ev.is (by simp [show ¬ l.length ≤ 60 by omega])))
  ·exact Ev.neg h1 (Ev.neg h2 (Ev.same (qhf l (by omega)) (by simp [show l.length ≤ 60 by omega])))
theorem qeI (l : List S99) (hl : l.length < 9223372036854775807) (rest : List S99) : ∀ (pre : List S99) (q : S99), l = (pre ++ [q]) ++ rest →
  Ev (fun k => qap.l0 k l l (l.length : Int) (((pre ++ [q]).length : Nat) : Int)) (chainB (some q) rest) := by
 induction rest with
 | nil =>
  intro pre q h
  refine Ev.succ ?_
  simp only [qap.l0]
  exact Ev.neg (by rw [h]; simp) (Ev.is rfl)
 | cons p r ih =>
  intro pre q h
  have hx := qgB l (pre ++ [q]) r p h
  have hq := qgB l pre (p :: r) q (by rw [h]; simp)
  have hlen : (pre ++ [q]).length < l.length := by rw [h]; simp
  have hw := qb5 (n := (pre ++ [q]).length) (by omega)
  have hp : wrap64 ((((pre ++ [q]).length : Nat) : Int) - 1) = ((pre.length : Nat) : Int) := by rw [← qbV]; exact qfG (by simp at hlen <;> omega)
  have hi := ih (pre ++ [q]) p (by rw [h]; simp)
  rw [← qbV] at hi
  refine Ev.succ ?_
  simp only [qap.l0, hx, hp, hq, hw]
  refine Ev.pos (by omega) (Ev.pos (by omega) (Ev.pos (by omega) (Ev.bindk (qfK p) ?_)))
  cases ho : okP p with
  | false => exact Ev.neg (by simp) (Ev.is (by simp [chainB, ho]))
  | true =>
   refine Ev.pos rfl (Ev.pos (by simp <;> omega) (Ev.pos (by omega) (Ev.pos (by simp at hlen <;> omega) ?_)))
   cases hb : Op.bytesLess q.f0.toList p.f0.toList with
   | false => exact Ev.neg (by simp) (Ev.is (by simp [chainB, ho, hb]))
   | true => exact Ev.pos rfl (Ev.same hi (by simp [chainB, ho, hb]))
theorem qej (l : List S99) (hl : l.length < 9223372036854775807) : Ev (fun k => qap.f k l) (chainB none l) := by
 unfold qap.f
 cases l with
 | nil =>
  refine Ev.succ ?_
  simp only [qap.l0]
  exact Ev.neg (by simp) (Ev.is rfl)
 | cons p r =>
  have hx := qgB (p :: r) [] r p rfl
  simp only [List.length_nil, Int.natCast_zero] at hx
  have hi := qeI (p :: r) hl r [] p rfl
  refine Ev.succ ?_
  simp only [qap.l0, hx]
  refine Ev.pos (by simp <;> omega) (Ev.pos (by omega) (Ev.pos (by simp <;> omega) (Ev.bindk (qfK p) ?_)))
  cases ho : okP p with
  | false => exact Ev.neg (by simp) (Ev.is (by simp [chainB, ho]))
  | true =>
   have e0 : ((([] ++ [p] : List S99).length : Nat) : Int) = wrap64 (0 + 1) := by unfold wrap64; simp
   rw [e0] at hi
   exact Ev.pos rfl (Ev.neg (by omega) (Ev.same hi (by simp [chainB, ho])))
end Go.Proofs.Ytenfomejccfkgaa.X
