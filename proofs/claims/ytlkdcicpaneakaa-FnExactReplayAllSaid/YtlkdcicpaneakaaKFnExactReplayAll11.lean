import Derived.Test.YtlkdcicpaneakaaKFnExactReplayAll2
import Derived.Test.YtlkdcicpaneakaaKFnExactReplayAll3
import Derived.Test.YtlkdcicpaneakaaKFnExactReplayAll4
import Derived.Test.YtlkdcicpaneakaaKFnExactReplayAll10
import Derived.LoopTactic
import Derived.WalkSpells
import Derived.Deep.QuietTactic
namespace Go.Proofs.Ytlkdcicpaneakaa.X
open Go.RowKit Go.Proofs.YtlkdcicpaneakaaW.PrintWords Go.Proofs.YtlkdcicpaneakaaW.PrintLast Go.Proofs.YtlkdcicpaneakaaW.PrintMore
attribute [local go_sem] qaA qaB qaC qaw qax qaH qaI qap qaq qay qaz
set_option linter.unusedVariables false
set_option linter.unusedSimpArgs false
def qcv.f (a b : ByteArray) (n : Int) (l : List S56) (s : Int) : Option Bool := if l.length ≤ 2000000 then some (qdY a b n l s) else none
set_option maxHeartbeats 8000000 in
set_option maxRecDepth 100000 in
theorem qcv.calls (a b : ByteArray) (n : Int) (A : Option Addr) (c : Nat) (l : List S56) (s : Int) (r : Bool) (w : World) (hr0 : Kd.C k56 w A l.length l) (hc0 : l.length ≤ c) (h : qcv.f a b n l s = some r) :
  Calls Try.prog 14 #[.agg #[.string a, .string b, .int .i64 n, .slice A l.length c, .int .i64 s]] w fun e w' => e = .returned (.bool r) ∧ Below w.heap.size w w' := by
 unfold qcv.f at h
 by_cases hl : l.length ≤ 2000000
 ·rw [if_pos hl] at h
  have hr := Option.some.inj h
  have hr2 : qdY a b n l s = ((headB a b n && (inB s 0 4294967295 && decide (l.length ≤ 120))) && allB (qbU l) l.length) := by unfold qdY; simp only [Bool.and_assoc]
  rw [hr2] at hr
  have HE := Aside0.mk hr
  clear h hr hr2
  have HR := Aside0.mk hr0
  clear hr0
  have hu := Try.underlying56
  have hu2 := Try.underlying41
  obtain ⟨Ka, hKa⟩ := qfP a
  have HSa := Aside0.mk (show qbY.f Ka a = some (qcW a) from hKa Ka (Nat.le_refl _))
  obtain ⟨Kb, hKb⟩ := qfP b
  have HSb := Aside0.mk (show qbY.f Kb b = some (qcW b) from hKb Kb (Nat.le_refl _))
  clear hKa hKb
  have HB0 := Aside0.mk ((Below.refl w.heap.size w).alloc (Nat.le_refl _) (.cells #[.string a, .string b, .int .i64 n, .slice A l.length c, .int .i64 s] 41 (0, 0)))
  have HK0 := Aside0.mk (qdw w (.cells #[.string a, .string b, .int .i64 n, .slice A l.length c, .int .i64 s] 41 (0, 0)))
  go_enter Try.func14, Try.ntmps14
  have b0 := qad HK0.out 0
  have b1 := qad HK0.out 1
  have b2 := qad HK0.out 2
  have b3 := qad HK0.out 3
  have b4 := qad HK0.out 4
  simp only [List.getElem?_toArray, List.getElem?_cons_zero, List.getElem?_cons_succ] at b0 b1 b2 b3 b4
  go_upto_region 1 with fail
  go_cut [47] (fun v47 wc => v47 = .bool (!(headB a b n && (inB s 0 4294967295 && decide (l.length ≤ 120)))) ∧ Aside0 (Below w.heap.size w wc) ∧ Aside0 (wc.heap[w.heap.size]? = some (.cells #[.string a, .string b, .int .i64 n, .slice A l.length c, .int .i64 s] 41 (0, 0))))
  case first =>
   by_cases ha : a.toList = ([] : List UInt8)
   ·have e1 : (a.toList != ([] : List UInt8)) = false := by simp [ha]
    have e2 : (a.toList == ([] : List UInt8)) = true := by simp [ha]
    go_wp2_with fail
    cases hsb : qcW b with
    | false =>
     refine (qbY.calls Kb b false _ (by rw [HSb.out, hsb])).mono ?_
     rintro e w1 ⟨rfl, hd1⟩
     have HB1 := Aside0.mk (qag HB0.out hd1.below)
     have HK1 := Aside0.mk (qao HK0.out hd1.below)
     clear hd1 b0 b1 b2 b3 b4
     have b0 := qad HK1.out 0
     have b1 := qad HK1.out 1
     have b2 := qad HK1.out 2
     have b3 := qad HK1.out 3
     have b4 := qad HK1.out 4
     simp only [List.getElem?_toArray, List.getElem?_cons_zero, List.getElem?_cons_succ] at b0 b1 b2 b3 b4
     go_wp2_with fail
     go_meet
     case rel => exact ⟨by rw [show (headB a b n && (inB s 0 4294967295 && decide (l.length ≤ 120))) = false from by simp [headB, hsb, ha]]; rfl, HB1, HK1⟩
    | true =>
     refine (qbY.calls Kb b true _ (by rw [HSb.out, hsb])).mono ?_
     rintro e w2 ⟨rfl, hd2⟩
     have HB2 := Aside0.mk (qag HB0.out hd2.below)
     have HK2 := Aside0.mk (qao HK0.out hd2.below)
     clear hd2 b0 b1 b2 b3 b4
     have b0 := qad HK2.out 0
     have b1 := qad HK2.out 1
     have b2 := qad HK2.out 2
     have b3 := qad HK2.out 3
     have b4 := qad HK2.out 4
     simp only [List.getElem?_toArray, List.getElem?_cons_zero, List.getElem?_cons_succ] at b0 b1 b2 b3 b4
     go_wp2_with fail
     cases hi1 : inB n 0 4294967295 with
     | false =>
      refine (qaT.calls n 0 4294967295 false _ (by rw [qdq, hi1])).mono ?_
      rintro e w3 ⟨rfl, hd3⟩
      have HB3 := Aside0.mk (qag HB2.out hd3.below)
      have HK3 := Aside0.mk (qao HK2.out hd3.below)
      clear hd3 b0 b1 b2 b3 b4
      have b0 := qad HK3.out 0
      have b1 := qad HK3.out 1
      have b2 := qad HK3.out 2
      have b3 := qad HK3.out 3
      have b4 := qad HK3.out 4
      simp only [List.getElem?_toArray, List.getElem?_cons_zero, List.getElem?_cons_succ] at b0 b1 b2 b3 b4
      go_wp2_with fail
      go_meet
      case rel => exact ⟨by rw [show (headB a b n && (inB s 0 4294967295 && decide (l.length ≤ 120))) = false from by simp [headB, hi1, hsb, ha]]; rfl, HB3, HK3⟩
     | true =>
      by_cases hz : n = 0
      ·have z1 : (n != 0) = false := by simp [hz]
       have z2 : (n == 0) = true := by simp [hz]
       have z3 : decide (n = 0) = true := by simp [hz]
       clear hz
       refine (qaT.calls n 0 4294967295 true _ (by rw [qdq, hi1])).mono ?_
       rintro e w4 ⟨rfl, hd4⟩
       have HB4 := Aside0.mk (qag HB2.out hd4.below)
       have HK4 := Aside0.mk (qao HK2.out hd4.below)
       clear hd4 b0 b1 b2 b3 b4
       have b0 := qad HK4.out 0
       have b1 := qad HK4.out 1
       have b2 := qad HK4.out 2
       have b3 := qad HK4.out 3
       have b4 := qad HK4.out 4
       simp only [List.getElem?_toArray, List.getElem?_cons_zero, List.getElem?_cons_succ] at b0 b1 b2 b3 b4
       go_wp2_with fail
       cases hi2 : inB s 0 4294967295 with
       | false =>
        refine (qaT.calls s 0 4294967295 false _ (by rw [qdq, hi2])).mono ?_
        rintro e w5 ⟨rfl, hd5⟩
        have HB5 := Aside0.mk (qag HB4.out hd5.below)
        have HK5 := Aside0.mk (qao HK4.out hd5.below)
        clear hd5 b0 b1 b2 b3 b4
        have b0 := qad HK5.out 0
        have b1 := qad HK5.out 1
        have b2 := qad HK5.out 2
        have b3 := qad HK5.out 3
        have b4 := qad HK5.out 4
        simp only [List.getElem?_toArray, List.getElem?_cons_zero, List.getElem?_cons_succ] at b0 b1 b2 b3 b4
        go_wp2_with fail
        go_meet
        case rel => exact ⟨by rw [show (headB a b n && (inB s 0 4294967295 && decide (l.length ≤ 120))) = false from by simp [headB, hi2, hi1, z3, hsb, ha]]; rfl, HB5, HK5⟩
       | true =>
        by_cases hn : l.length ≤ 120
        ·have g1 : decide (120 < (l.length : Int)) = false := decide_eq_false (by omega)
         refine (qaT.calls s 0 4294967295 true _ (by rw [qdq, hi2])).mono ?_
         rintro e w6 ⟨rfl, hd6⟩
         have HB6 := Aside0.mk (qag HB4.out hd6.below)
         have HK6 := Aside0.mk (qao HK4.out hd6.below)
         clear hd6 b0 b1 b2 b3 b4
         have b0 := qad HK6.out 0
         have b1 := qad HK6.out 1
         have b2 := qad HK6.out 2
         have b3 := qad HK6.out 3
         have b4 := qad HK6.out 4
         simp only [List.getElem?_toArray, List.getElem?_cons_zero, List.getElem?_cons_succ] at b0 b1 b2 b3 b4
         go_wp2_with fail
         go_meet
         case rel => exact ⟨by rw [show (headB a b n && (inB s 0 4294967295 && decide (l.length ≤ 120))) = true from by simp [headB, hn, hi2, hi1, z3, hsb, ha]]; rfl, HB6, HK6⟩
        ·have g1 : decide (120 < (l.length : Int)) = true := decide_eq_true (by omega)
         refine (qaT.calls s 0 4294967295 true _ (by rw [qdq, hi2])).mono ?_
         rintro e w7 ⟨rfl, hd7⟩
         have HB7 := Aside0.mk (qag HB4.out hd7.below)
         have HK7 := Aside0.mk (qao HK4.out hd7.below)
         clear hd7 b0 b1 b2 b3 b4
         have b0 := qad HK7.out 0
         have b1 := qad HK7.out 1
         have b2 := qad HK7.out 2
         have b3 := qad HK7.out 3
         have b4 := qad HK7.out 4
         simp only [List.getElem?_toArray, List.getElem?_cons_zero, List.getElem?_cons_succ] at b0 b1 b2 b3 b4
         go_wp2_with fail
         go_meet
         case rel => exact ⟨by rw [show (headB a b n && (inB s 0 4294967295 && decide (l.length ≤ 120))) = false from by simp [headB, hn, hi2, hi1, z3, hsb, ha]]; rfl, HB7, HK7⟩
      ·have z1 : (n != 0) = true := by simp [hz]
       have z2 : (n == 0) = false := by simp [hz]
       have z3 : decide (n = 0) = false := by simp [hz]
       refine (qaT.calls n 0 4294967295 true _ (by rw [qdq, hi1])).mono ?_
       rintro e w8 ⟨rfl, hd8⟩
       have HB8 := Aside0.mk (qag HB2.out hd8.below)
       have HK8 := Aside0.mk (qao HK2.out hd8.below)
       clear hd8 b0 b1 b2 b3 b4
       have b0 := qad HK8.out 0
       have b1 := qad HK8.out 1
       have b2 := qad HK8.out 2
       have b3 := qad HK8.out 3
       have b4 := qad HK8.out 4
       simp only [List.getElem?_toArray, List.getElem?_cons_zero, List.getElem?_cons_succ] at b0 b1 b2 b3 b4
       go_wp2_with fail
       go_meet
       case rel => exact ⟨by rw [show (headB a b n && (inB s 0 4294967295 && decide (l.length ≤ 120))) = false from by simp [headB, hi1, hz, hsb, ha]]; rfl, HB8, HK8⟩
   ·have e1 : (a.toList != ([] : List UInt8)) = true := by simp [ha]
    have e2 : (a.toList == ([] : List UInt8)) = false := by simp [ha]
    go_wp2_with fail
    cases hsa : qcW a with
    | false =>
     refine (qbY.calls Ka a false _ (by rw [HSa.out, hsa])).mono ?_
     rintro e w9 ⟨rfl, hd9⟩
     have HB9 := Aside0.mk (qag HB0.out hd9.below)
     have HK9 := Aside0.mk (qao HK0.out hd9.below)
     clear hd9 b0 b1 b2 b3 b4
     have b0 := qad HK9.out 0
     have b1 := qad HK9.out 1
     have b2 := qad HK9.out 2
     have b3 := qad HK9.out 3
     have b4 := qad HK9.out 4
     simp only [List.getElem?_toArray, List.getElem?_cons_zero, List.getElem?_cons_succ] at b0 b1 b2 b3 b4
     go_wp2_with fail
     go_meet
     case rel => exact ⟨by rw [show (headB a b n && (inB s 0 4294967295 && decide (l.length ≤ 120))) = false from by simp [headB, hsa, ha]]; rfl, HB9, HK9⟩
    | true =>
     refine (qbY.calls Ka a true _ (by rw [HSa.out, hsa])).mono ?_
     rintro e w10 ⟨rfl, hd10⟩
     have HB10 := Aside0.mk (qag HB0.out hd10.below)
     have HK10 := Aside0.mk (qao HK0.out hd10.below)
     clear hd10 b0 b1 b2 b3 b4
     have b0 := qad HK10.out 0
     have b1 := qad HK10.out 1
     have b2 := qad HK10.out 2
     have b3 := qad HK10.out 3
     have b4 := qad HK10.out 4
     simp only [List.getElem?_toArray, List.getElem?_cons_zero, List.getElem?_cons_succ] at b0 b1 b2 b3 b4
     go_wp2_with fail
     cases hsb : qcW b with
     | false =>
      refine (qbY.calls Kb b false _ (by rw [HSb.out, hsb])).mono ?_
      rintro e w11 ⟨rfl, hd11⟩
      have HB11 := Aside0.mk (qag HB10.out hd11.below)
      have HK11 := Aside0.mk (qao HK10.out hd11.below)
      clear hd11 b0 b1 b2 b3 b4
      have b0 := qad HK11.out 0
      have b1 := qad HK11.out 1
      have b2 := qad HK11.out 2
      have b3 := qad HK11.out 3
      have b4 := qad HK11.out 4
      simp only [List.getElem?_toArray, List.getElem?_cons_zero, List.getElem?_cons_succ] at b0 b1 b2 b3 b4
      go_wp2_with fail
      go_meet
      case rel => exact ⟨by rw [show (headB a b n && (inB s 0 4294967295 && decide (l.length ≤ 120))) = false from by simp [headB, hsb, hsa, ha]]; rfl, HB11, HK11⟩
     | true =>
      refine (qbY.calls Kb b true _ (by rw [HSb.out, hsb])).mono ?_
      rintro e w12 ⟨rfl, hd12⟩
      have HB12 := Aside0.mk (qag HB10.out hd12.below)
      have HK12 := Aside0.mk (qao HK10.out hd12.below)
      clear hd12 b0 b1 b2 b3 b4
      have b0 := qad HK12.out 0
      have b1 := qad HK12.out 1
      have b2 := qad HK12.out 2
      have b3 := qad HK12.out 3
      have b4 := qad HK12.out 4
      simp only [List.getElem?_toArray, List.getElem?_cons_zero, List.getElem?_cons_succ] at b0 b1 b2 b3 b4
      go_wp2_with fail
      cases hi1 : inB n 0 4294967295 with
      | false =>
       refine (qaT.calls n 0 4294967295 false _ (by rw [qdq, hi1])).mono ?_
       rintro e w13 ⟨rfl, hd13⟩
       have HB13 := Aside0.mk (qag HB12.out hd13.below)
       have HK13 := Aside0.mk (qao HK12.out hd13.below)
       clear hd13 b0 b1 b2 b3 b4
       have b0 := qad HK13.out 0
       have b1 := qad HK13.out 1
       have b2 := qad HK13.out 2
       have b3 := qad HK13.out 3
       have b4 := qad HK13.out 4
       simp only [List.getElem?_toArray, List.getElem?_cons_zero, List.getElem?_cons_succ] at b0 b1 b2 b3 b4
       go_wp2_with fail
       go_meet
       case rel => exact ⟨by rw [show (headB a b n && (inB s 0 4294967295 && decide (l.length ≤ 120))) = false from by simp [headB, hi1, hsb, hsa, ha]]; rfl, HB13, HK13⟩
      | true =>
       refine (qaT.calls n 0 4294967295 true _ (by rw [qdq, hi1])).mono ?_
       rintro e w14 ⟨rfl, hd14⟩
       have HB14 := Aside0.mk (qag HB12.out hd14.below)
       have HK14 := Aside0.mk (qao HK12.out hd14.below)
       clear hd14 b0 b1 b2 b3 b4
       have b0 := qad HK14.out 0
       have b1 := qad HK14.out 1
       have b2 := qad HK14.out 2
       have b3 := qad HK14.out 3
       have b4 := qad HK14.out 4
       simp only [List.getElem?_toArray, List.getElem?_cons_zero, List.getElem?_cons_succ] at b0 b1 b2 b3 b4
       go_wp2_with fail
       cases hi2 : inB s 0 4294967295 with
       | false =>
        refine (qaT.calls s 0 4294967295 false _ (by rw [qdq, hi2])).mono ?_
        rintro e w15 ⟨rfl, hd15⟩
        have HB15 := Aside0.mk (qag HB14.out hd15.below)
        have HK15 := Aside0.mk (qao HK14.out hd15.below)
        clear hd15 b0 b1 b2 b3 b4
        have b0 := qad HK15.out 0
        have b1 := qad HK15.out 1
        have b2 := qad HK15.out 2
        have b3 := qad HK15.out 3
        have b4 := qad HK15.out 4
        simp only [List.getElem?_toArray, List.getElem?_cons_zero, List.getElem?_cons_succ] at b0 b1 b2 b3 b4
        go_wp2_with fail
        go_meet
        case rel => exact ⟨by rw [show (headB a b n && (inB s 0 4294967295 && decide (l.length ≤ 120))) = false from by simp [headB, hi2, hi1, hsb, hsa, ha]]; rfl, HB15, HK15⟩
       | true =>
        by_cases hn : l.length ≤ 120
        ·have g1 : decide (120 < (l.length : Int)) = false := decide_eq_false (by omega)
         refine (qaT.calls s 0 4294967295 true _ (by rw [qdq, hi2])).mono ?_
         rintro e w16 ⟨rfl, hd16⟩
         have HB16 := Aside0.mk (qag HB14.out hd16.below)
         have HK16 := Aside0.mk (qao HK14.out hd16.below)
         clear hd16 b0 b1 b2 b3 b4
         have b0 := qad HK16.out 0
         have b1 := qad HK16.out 1
         have b2 := qad HK16.out 2
         have b3 := qad HK16.out 3
         have b4 := qad HK16.out 4
         simp only [List.getElem?_toArray, List.getElem?_cons_zero, List.getElem?_cons_succ] at b0 b1 b2 b3 b4
         go_wp2_with fail
         go_meet
         case rel => exact ⟨by rw [show (headB a b n && (inB s 0 4294967295 && decide (l.length ≤ 120))) = true from by simp [headB, hn, hi2, hi1, hsb, hsa, ha]]; rfl, HB16, HK16⟩
        ·have g1 : decide (120 < (l.length : Int)) = true := decide_eq_true (by omega)
         refine (qaT.calls s 0 4294967295 true _ (by rw [qdq, hi2])).mono ?_
         rintro e w17 ⟨rfl, hd17⟩
         have HB17 := Aside0.mk (qag HB14.out hd17.below)
         have HK17 := Aside0.mk (qao HK14.out hd17.below)
         clear hd17 b0 b1 b2 b3 b4
         have b0 := qad HK17.out 0
         have b1 := qad HK17.out 1
         have b2 := qad HK17.out 2
         have b3 := qad HK17.out 3
         have b4 := qad HK17.out 4
         simp only [List.getElem?_toArray, List.getElem?_cons_zero, List.getElem?_cons_succ] at b0 b1 b2 b3 b4
         go_wp2_with fail
         go_meet
         case rel => exact ⟨by rw [show (headB a b n && (inB s 0 4294967295 && decide (l.length ≤ 120))) = false from by simp [headB, hn, hi2, hi1, hsb, hsa, ha]]; rfl, HB17, HK17⟩
  case rest =>
   obtain ⟨rfl, HB, HK⟩ := hcut
   clear HB0 HK0 HSa HSb b0 b1 b2 b3 b4
   have b0 := qad HK.out 0
   have b1 := qad HK.out 1
   have b2 := qad HK.out 2
   have b3 := qad HK.out 3
   have b4 := qad HK.out 4
   simp only [List.getElem?_toArray, List.getElem?_cons_zero, List.getElem?_cons_succ] at b0 b1 b2 b3 b4
   cases hall : (headB a b n && (inB s 0 4294967295 && decide (l.length ≤ 120))) with
   | false =>
    go_wp2_with fail
    go_ret
    have he := HE.out
    rw [hall] at he
    exact ⟨by rw [← he]; rfl, HB.out⟩
   | true =>
    go_wp2_with fail
    go_loopw [3] (fun v3 wr => ∃ i : Nat, i ≤ l.length ∧ v3 = .int .i64 i ∧ Aside0 (∀ j, j < i → qbU l j = true) ∧ Aside0 (Below w.heap.size w wr) ∧ Aside0 (wr.heap[w.heap.size]? = some (.cells #[.string a, .string b, .int .i64 n, .slice A l.length c, .int .i64 s] 41 (0, 0)))) (fun v3 _ => l.length - (intOf v3).toNat)
    case atStart => exact ⟨0, Nat.zero_le _, rfl, ⟨fun j hj => absurd hj (by omega)⟩, HB, HK⟩
    case round =>
     clear HB HK b0 b1 b2 b3 b4
     obtain ⟨i, hi, rfl, HJ, HB, HK⟩ := hrel
     have b0 := qad HK.out 0
     have b1 := qad HK.out 1
     have b2 := qad HK.out 2
     have b3 := qad HK.out 3
     have b4 := qad HK.out 4
     simp only [List.getElem?_toArray, List.getElem?_cons_zero, List.getElem?_cons_succ] at b0 b1 b2 b3 b4
     by_cases hlt : i < l.length
     ·have c1 : decide ((i : Int) < (l.length : Int)) = true := decide_eq_true (by omega)
      have p1 : 0 ≤ (i : Int) := by omega
      have q1 : (i : Int) < (l.length : Int) := by omega
      obtain ⟨ad, e, hx0, hx1, hx2, hx3, hx4⟩ := qdd HR.out (i : Int) p1 q1
      cases e
      replace hx0 := (HB.out.cell (World.block_lt_of_cell? w _ hx0)).trans hx0
      replace hx1 := (HB.out.cell (World.block_lt_of_cell? w _ hx1)).trans hx1
      replace hx2 := (HB.out.cell (World.block_lt_of_cell? w _ hx2)).trans hx2
      replace hx3 := (HB.out.cell (World.block_lt_of_cell? w _ hx3)).trans hx3
      replace hx4 := (HB.out.cell (World.block_lt_of_cell? w _ hx4)).trans hx4
      rw [Int.toNat_natCast] at hx0 hx1 hx2 hx3 hx4
      obtain ⟨d, hd⟩ : ∃ d, d = qaf l (i : Int) := ⟨_, rfl⟩
      rw [← hd] at hx0 hx1 hx2 hx3 hx4
      have HD := Aside0.mk hd
      clear hd
      obtain ⟨dk, dold, dnew, dwas, dis⟩ := d
      simp only at hx0 hx1 hx2 hx3 hx4
      replace p1 := eq_true p1
      replace q1 := eq_true q1
      have HBd := Aside0.mk (HB.out.alloc HB.out.size (.cells #[.string dk, .string dold, .string dnew, .bool dwas, .bool dis] 56 (0, 0)))
      have HKd := Aside0.mk (qdw wr (.cells #[.string dk, .string dold, .string dnew, .bool dwas, .bool dis] 56 (0, 0)))
      have HKb := Aside0.mk (qai HK.out (.cells #[.string dk, .string dold, .string dnew, .bool dwas, .bool dis] 56 (0, 0)))
      have hxb := HR.out
      go_upto_region 7 with fail
      clear hxb
      go_cut [122] (fun v122 wc => v122 = .bool (!(qbU l i)) ∧ Aside0 (Below w.heap.size w wc) ∧ Aside0 (wc.heap[w.heap.size]? = some (.cells #[.string a, .string b, .int .i64 n, .slice (some ad) l.length c, .int .i64 s] 41 (0, 0))))
      case first =>
       have hpv : ∀ j : Nat, j < l.length → w.cell? (ad.add (j * 5)) = some (.string (qaf l (j : Int)).f0) := fun j hj => by
        obtain ⟨ad2, e2, h2, _⟩ := qdd HR.out (j : Int) (by omega) (by omega)
        cases e2
        rw [Int.toNat_natCast] at h2
        exact h2
       refine qbq (by kernel_rfl) (by kernel_rfl) ?_
       have hL0_ := Aside0.mk (show (wr.alloc (.cells #[.string dk, .string dold, .string dnew, .bool dwas, .bool dis] 56 (0, 0))).drew.cell? ⟨wr.heap.size, 0, none⟩ = some (.string dk) from (qad (qal HKd.out) 0).trans rfl)
       have hL1_ := Aside0.mk (show (wr.alloc (.cells #[.string dk, .string dold, .string dnew, .bool dwas, .bool dis] 56 (0, 0))).drew.cell? ⟨wr.heap.size, 1, none⟩ = some (.string dold) from (qad (qal HKd.out) 1).trans rfl)
       have hL2_ := Aside0.mk (show (wr.alloc (.cells #[.string dk, .string dold, .string dnew, .bool dwas, .bool dis] 56 (0, 0))).drew.cell? ⟨wr.heap.size, 2, none⟩ = some (.string dnew) from (qad (qal HKd.out) 2).trans rfl)
       have hL3_ := Aside0.mk (show (wr.alloc (.cells #[.string dk, .string dold, .string dnew, .bool dwas, .bool dis] 56 (0, 0))).drew.cell? ⟨wr.heap.size, 3, none⟩ = some (.bool dwas) from (qad (qal HKd.out) 3).trans rfl)
       have hL4_ := Aside0.mk (show (wr.alloc (.cells #[.string dk, .string dold, .string dnew, .bool dwas, .bool dis] 56 (0, 0))).drew.cell? ⟨wr.heap.size, 4, none⟩ = some (.bool dis) from (qad (qal HKd.out) 4).trans rfl)
       have hL5_ := Aside0.mk (show (wr.alloc (.cells #[.string dk, .string dold, .string dnew, .bool dwas, .bool dis] 56 (0, 0))).drew.cell? ⟨w.heap.size, 3, none⟩ = some (.slice (some ad) l.length c) from (qad (qal HKb.out) 3).trans rfl)
       have hLp_ := Aside0.mk (show ∀ j : Nat, j < l.length → (wr.alloc (.cells #[.string dk, .string dold, .string dnew, .bool dwas, .bool dis] 56 (0, 0))).drew.cell? (ad.add (j * 5)) = some (.string (qaf l (j : Int)).f0) from fun j hj => (((qcf HBd.out).cell (World.block_lt_of_cell? w _ (hpv j hj))).trans (hpv j hj)))
       have HBw := Aside0.mk (qcf HBd.out)
       have HKw := Aside0.mk (qal HKb.out)
       generalize (wr.alloc (.cells #[.string dk, .string dold, .string dnew, .bool dwas, .bool dis] 56 (0, 0))).drew = wd at HBw HKw hLp_ hL0_ hL1_ hL2_ hL3_ hL4_ hL5_ ⊢
       have hL0 := fun (p_ : Later wd) => Later.cell p_ hL0_.out
       have hL1 := fun (p_ : Later wd) => Later.cell p_ hL1_.out
       have hL2 := fun (p_ : Later wd) => Later.cell p_ hL2_.out
       have hL3 := fun (p_ : Later wd) => Later.cell p_ hL3_.out
       have hL4 := fun (p_ : Later wd) => Later.cell p_ hL4_.out
       have hL5 := fun (p_ : Later wd) => Later.cell p_ hL5_.out
       clear hpv hL0_ hL1_ hL2_ hL3_ hL4_ hL5_
       cases hk : keyB dk with
       | false =>
        have HIN := Aside0.mk (show qaT.f (dk.size : Int) 1 30 = some false from by rw [qf3, hk])
        repeat (first | go_big_quiet_step ((first | (go_at_call 28; exact Calls.qbp (qaT.calls _ 1 30 false _ HIN.out)))) | quiet_step ((first | (go_at_call 28; exact Calls.qbp (qaT.calls _ 1 30 false _ HIN.out)))))
        refine wpQuiet_nil ?_
        rintro w41 ⟨⟨wq_, hbL⟩, hq_⟩
        obtain rfl : w41 = wq_ := hq_
        clear hL0 hL1 hL2 hL3 hL4 hL5
        try go_wp2_with fail
        go_meet
        case rel => exact ⟨by rw [show qbU l i = false from by unfold qbU; rw [← HD.out]; simp [qbW, hk]]; try rfl, ⟨qag HBw.out hbL⟩, ⟨qao HKw.out hbL⟩⟩
       | true =>
        have HIN := Aside0.mk (show qaT.f (dk.size : Int) 1 30 = some true from by rw [qf3, hk])
        by_cases h1 : 90 < dold.size
        ·have g1 : decide (90 < (dold.size : Int)) = true := decide_eq_true (by omega)
         have g3 : ¬ dold.size ≤ 90 := by omega
         repeat (first | go_big_quiet_step ((first | (go_at_call 28; exact Calls.qbp (qaT.calls _ 1 30 true _ HIN.out)))) | quiet_step ((first | (go_at_call 28; exact Calls.qbp (qaT.calls _ 1 30 true _ HIN.out)))))
         refine wpQuiet_nil ?_
         rintro w41 ⟨⟨wq_, hbL⟩, hq_⟩
         obtain rfl : w41 = wq_ := hq_
         clear hL0 hL1 hL2 hL3 hL4 hL5
         try go_wp2_with fail
         go_meet
         case rel => exact ⟨by rw [show qbU l i = false from by unfold qbU; rw [← HD.out]; simp [qbW, hk, g3]]; try rfl, ⟨qag HBw.out hbL⟩, ⟨qao HKw.out hbL⟩⟩
        ·have g1 : decide (90 < (dold.size : Int)) = false := decide_eq_false (by omega)
         have g3 : dold.size ≤ 90 := by omega
         by_cases h2 : 90 < dnew.size
         ·have g2 : decide (90 < (dnew.size : Int)) = true := decide_eq_true (by omega)
          have g4 : ¬ dnew.size ≤ 90 := by omega
          repeat (first | go_big_quiet_step ((first | (go_at_call 28; exact Calls.qbp (qaT.calls _ 1 30 true _ HIN.out)))) | quiet_step ((first | (go_at_call 28; exact Calls.qbp (qaT.calls _ 1 30 true _ HIN.out)))))
          refine wpQuiet_nil ?_
          rintro w41 ⟨⟨wq_, hbL⟩, hq_⟩
          obtain rfl : w41 = wq_ := hq_
          clear hL0 hL1 hL2 hL3 hL4 hL5
          try go_wp2_with fail
          go_meet
          case rel => exact ⟨by rw [show qbU l i = false from by unfold qbU; rw [← HD.out]; simp [qbW, hk, g3, g4]]; try rfl, ⟨qag HBw.out hbL⟩, ⟨qao HKw.out hbL⟩⟩
         ·have g2 : decide (90 < (dnew.size : Int)) = false := decide_eq_false (by omega)
          have g4 : dnew.size ≤ 90 := by omega
          cases dwas with
          | false =>
           cases dis with
           | false =>
            repeat (first | go_big_quiet_step ((first | (go_at_call 28; exact Calls.qbp (qaT.calls _ 1 30 true _ HIN.out)))) | quiet_step ((first | (go_at_call 28; exact Calls.qbp (qaT.calls _ 1 30 true _ HIN.out)))))
            refine wpQuiet_nil ?_
            rintro w41 ⟨⟨wq_, hbL⟩, hq_⟩
            obtain rfl : w41 = wq_ := hq_
            clear hL0 hL1 hL2 hL3 hL4 hL5
            try go_wp2_with fail
            go_meet
            case rel => exact ⟨by rw [show qbU l i = false from by unfold qbU; rw [← HD.out]; simp [qbW, hk, g3, g4]]; try rfl, ⟨qag HBw.out hbL⟩, ⟨qao HKw.out hbL⟩⟩
           | true =>
            by_cases hv : dold.toList = ([] : List UInt8)
            ·have e1 : (dold.toList != ([] : List UInt8)) = false := by simp [hv]
             have e2 : (dold.toList == ([] : List UInt8)) = true := by simp [hv]
             have hone : qbW (qaf l (i : Int)) = true := by rw [← HD.out]; simp [qbW, hk, g3, g4, hv]
             by_cases h0 : i = 0
             ·have k1 : decide (0 < (i : Int)) = false := decide_eq_false (by omega)
              repeat (first | go_big_quiet_step ((first | (go_at_call 28; exact Calls.qbp (qaT.calls _ 1 30 true _ HIN.out)))) | quiet_step ((first | (go_at_call 28; exact Calls.qbp (qaT.calls _ 1 30 true _ HIN.out)))))
              refine wpQuiet_nil ?_
              rintro w41 ⟨⟨wq_, hbL⟩, hq_⟩
              obtain rfl : w41 = wq_ := hq_
              clear hL0 hL1 hL2 hL3 hL4 hL5
              try go_wp2_with fail
              go_meet
              case rel => exact ⟨by rw [show qbU l i = true from by unfold qbU; rw [hone]; simp [h0]]; try rfl, ⟨qag HBw.out hbL⟩, ⟨qao HKw.out hbL⟩⟩
             ·obtain ⟨j, rfl⟩ : ∃ j, i = j + 1 := ⟨i - 1, by omega⟩
              have k1 : decide (0 < ((j : Int) + 1)) = true := decide_eq_true (by omega)
              have k2 : IntKind.i64.wrap ((j : Int) + 1 - 1) = (j : Int) := by rw [IntKind.wrap_i64]; omega
              have k3 : IntKind.i64.wrap (j : Int) = (j : Int) := by rw [IntKind.wrap_i64]; omega
              have k4 : (0 ≤ (j : Int)) = True := eq_true (by omega)
              have k5 : ((j : Int) < (l.length : Int)) = True := eq_true (by omega)
              obtain ⟨pk, hpk⟩ : ∃ pk, pk = (qaf l (j : Int)).f0 := ⟨_, rfl⟩
              have HPK := Aside0.mk hpk
              clear hpk
              have hL6 : ∀ p_ : Later wd, p_.val.cell? (ad.add (j * 5)) = some (.string pk) := fun p_ => by rw [HPK.out]; exact Later.cell p_ (hLp_.out j (by omega))
              repeat (first | go_big_quiet_step ((first | (go_at_call 28; exact Calls.qbp (qaT.calls _ 1 30 true _ HIN.out)))) | quiet_step ((first | (go_at_call 28; exact Calls.qbp (qaT.calls _ 1 30 true _ HIN.out)))))
              refine wpQuiet_nil ?_
              rintro w41 ⟨⟨wq_, hbL⟩, hq_⟩
              obtain rfl : w41 = wq_ := hq_
              clear hL0 hL1 hL2 hL3 hL4 hL5 hL6
              try go_wp2_with fail
              go_meet
              case rel => exact ⟨by rw [show qbU l (j + 1) = Op.bytesLess pk.toList dk.toList from by simp only [qbU, hone, Bool.true_and]; rw [HPK.out, ← HD.out]; try simp]; try rfl, ⟨qag HBw.out hbL⟩, ⟨qao HKw.out hbL⟩⟩
            ·have e1 : (dold.toList != ([] : List UInt8)) = true := by simp [hv]
             have e2 : (dold.toList == ([] : List UInt8)) = false := by simp [hv]
             repeat (first | go_big_quiet_step ((first | (go_at_call 28; exact Calls.qbp (qaT.calls _ 1 30 true _ HIN.out)))) | quiet_step ((first | (go_at_call 28; exact Calls.qbp (qaT.calls _ 1 30 true _ HIN.out)))))
             refine wpQuiet_nil ?_
             rintro w41 ⟨⟨wq_, hbL⟩, hq_⟩
             obtain rfl : w41 = wq_ := hq_
             clear hL0 hL1 hL2 hL3 hL4 hL5
             try go_wp2_with fail
             go_meet
             case rel => exact ⟨by rw [show qbU l i = false from by unfold qbU; rw [← HD.out]; simp [qbW, hk, g3, g4, hv]]; try rfl, ⟨qag HBw.out hbL⟩, ⟨qao HKw.out hbL⟩⟩
          | true =>
           cases dis with
           | true =>
            have hone : qbW (qaf l (i : Int)) = true := by rw [← HD.out]; simp [qbW, hk, g3, g4]
            by_cases h0 : i = 0
            ·have k1 : decide (0 < (i : Int)) = false := decide_eq_false (by omega)
             repeat (first | go_big_quiet_step ((first | (go_at_call 28; exact Calls.qbp (qaT.calls _ 1 30 true _ HIN.out)))) | quiet_step ((first | (go_at_call 28; exact Calls.qbp (qaT.calls _ 1 30 true _ HIN.out)))))
             refine wpQuiet_nil ?_
             rintro w41 ⟨⟨wq_, hbL⟩, hq_⟩
             obtain rfl : w41 = wq_ := hq_
             clear hL0 hL1 hL2 hL3 hL4 hL5
             try go_wp2_with fail
             go_meet
             case rel => exact ⟨by rw [show qbU l i = true from by unfold qbU; rw [hone]; simp [h0]]; try rfl, ⟨qag HBw.out hbL⟩, ⟨qao HKw.out hbL⟩⟩
            ·obtain ⟨j, rfl⟩ : ∃ j, i = j + 1 := ⟨i - 1, by omega⟩
             have k1 : decide (0 < ((j : Int) + 1)) = true := decide_eq_true (by omega)
             have k2 : IntKind.i64.wrap ((j : Int) + 1 - 1) = (j : Int) := by rw [IntKind.wrap_i64]; omega
             have k3 : IntKind.i64.wrap (j : Int) = (j : Int) := by rw [IntKind.wrap_i64]; omega
             have k4 : (0 ≤ (j : Int)) = True := eq_true (by omega)
             have k5 : ((j : Int) < (l.length : Int)) = True := eq_true (by omega)
             obtain ⟨pk, hpk⟩ : ∃ pk, pk = (qaf l (j : Int)).f0 := ⟨_, rfl⟩
             have HPK := Aside0.mk hpk
             clear hpk
             have hL6 : ∀ p_ : Later wd, p_.val.cell? (ad.add (j * 5)) = some (.string pk) := fun p_ => by rw [HPK.out]; exact Later.cell p_ (hLp_.out j (by omega))
             repeat (first | go_big_quiet_step ((first | (go_at_call 28; exact Calls.qbp (qaT.calls _ 1 30 true _ HIN.out)))) | quiet_step ((first | (go_at_call 28; exact Calls.qbp (qaT.calls _ 1 30 true _ HIN.out)))))
             refine wpQuiet_nil ?_
             rintro w41 ⟨⟨wq_, hbL⟩, hq_⟩
             obtain rfl : w41 = wq_ := hq_
             clear hL0 hL1 hL2 hL3 hL4 hL5 hL6
             try go_wp2_with fail
             go_meet
             case rel => exact ⟨by rw [show qbU l (j + 1) = Op.bytesLess pk.toList dk.toList from by simp only [qbU, hone, Bool.true_and]; rw [HPK.out, ← HD.out]; try simp]; try rfl, ⟨qag HBw.out hbL⟩, ⟨qao HKw.out hbL⟩⟩
           | false =>
            by_cases hv : dnew.toList = ([] : List UInt8)
            ·have e1 : (dnew.toList != ([] : List UInt8)) = false := by simp [hv]
             have e2 : (dnew.toList == ([] : List UInt8)) = true := by simp [hv]
             have hone : qbW (qaf l (i : Int)) = true := by rw [← HD.out]; simp [qbW, hk, g3, g4, hv]
             by_cases h0 : i = 0
             ·have k1 : decide (0 < (i : Int)) = false := decide_eq_false (by omega)
              repeat (first | go_big_quiet_step ((first | (go_at_call 28; exact Calls.qbp (qaT.calls _ 1 30 true _ HIN.out)))) | quiet_step ((first | (go_at_call 28; exact Calls.qbp (qaT.calls _ 1 30 true _ HIN.out)))))
              refine wpQuiet_nil ?_
              rintro w41 ⟨⟨wq_, hbL⟩, hq_⟩
              obtain rfl : w41 = wq_ := hq_
              clear hL0 hL1 hL2 hL3 hL4 hL5
              try go_wp2_with fail
              go_meet
              case rel => exact ⟨by rw [show qbU l i = true from by unfold qbU; rw [hone]; simp [h0]]; try rfl, ⟨qag HBw.out hbL⟩, ⟨qao HKw.out hbL⟩⟩
             ·obtain ⟨j, rfl⟩ : ∃ j, i = j + 1 := ⟨i - 1, by omega⟩
              have k1 : decide (0 < ((j : Int) + 1)) = true := decide_eq_true (by omega)
              have k2 : IntKind.i64.wrap ((j : Int) + 1 - 1) = (j : Int) := by rw [IntKind.wrap_i64]; omega
              have k3 : IntKind.i64.wrap (j : Int) = (j : Int) := by rw [IntKind.wrap_i64]; omega
              have k4 : (0 ≤ (j : Int)) = True := eq_true (by omega)
              have k5 : ((j : Int) < (l.length : Int)) = True := eq_true (by omega)
              obtain ⟨pk, hpk⟩ : ∃ pk, pk = (qaf l (j : Int)).f0 := ⟨_, rfl⟩
              have HPK := Aside0.mk hpk
              clear hpk
              have hL6 : ∀ p_ : Later wd, p_.val.cell? (ad.add (j * 5)) = some (.string pk) := fun p_ => by rw [HPK.out]; exact Later.cell p_ (hLp_.out j (by omega))
              repeat (first | go_big_quiet_step ((first | (go_at_call 28; exact Calls.qbp (qaT.calls _ 1 30 true _ HIN.out)))) | quiet_step ((first | (go_at_call 28; exact Calls.qbp (qaT.calls _ 1 30 true _ HIN.out)))))
              refine wpQuiet_nil ?_
              rintro w41 ⟨⟨wq_, hbL⟩, hq_⟩
              obtain rfl : w41 = wq_ := hq_
              clear hL0 hL1 hL2 hL3 hL4 hL5 hL6
              try go_wp2_with fail
              go_meet
              case rel => exact ⟨by rw [show qbU l (j + 1) = Op.bytesLess pk.toList dk.toList from by simp only [qbU, hone, Bool.true_and]; rw [HPK.out, ← HD.out]; try simp]; try rfl, ⟨qag HBw.out hbL⟩, ⟨qao HKw.out hbL⟩⟩
            ·have e1 : (dnew.toList != ([] : List UInt8)) = true := by simp [hv]
             have e2 : (dnew.toList == ([] : List UInt8)) = false := by simp [hv]
             repeat (first | go_big_quiet_step ((first | (go_at_call 28; exact Calls.qbp (qaT.calls _ 1 30 true _ HIN.out)))) | quiet_step ((first | (go_at_call 28; exact Calls.qbp (qaT.calls _ 1 30 true _ HIN.out)))))
             refine wpQuiet_nil ?_
             rintro w41 ⟨⟨wq_, hbL⟩, hq_⟩
             obtain rfl : w41 = wq_ := hq_
             clear hL0 hL1 hL2 hL3 hL4 hL5
             try go_wp2_with fail
             go_meet
             case rel => exact ⟨by rw [show qbU l i = false from by unfold qbU; rw [← HD.out]; simp [qbW, hk, g3, g4, hv]]; try rfl, ⟨qag HBw.out hbL⟩, ⟨qao HKw.out hbL⟩⟩
      case rest =>
       obtain ⟨rfl, HBc, HKc⟩ := hcut
       clear HB HK HBd HKd HKb HD
       cases hda : qbU l i with
       | false =>
        go_wp2_with fail
        go_ret
        have he := HE.out
        rw [hall, show allB (qbU l) l.length = false from by
         cases hq : allB (qbU l) l.length with
         | false => rfl
         | true => rw [qf1.1 hq i hlt] at hda; cases hda] at he
        exact ⟨by rw [← he]; rfl, HBc.out⟩
       | true =>
        have wi : IntKind.i64.wrap ((i : Int) + 1) = (i : Int) + 1 := by rw [IntKind.wrap_i64]; omega
        go_wp2_with fail
        go_roundw
        case rel => exact ⟨i + 1, by omega, by go_num, ⟨fun j hj => by
         by_cases e : j = i
         ·subst e; exact hda
         ·exact HJ.out j (by omega)⟩, HBc, HKc⟩
        case measure => simp [intOf]; omega
     ·have hi2 : i = l.length := by omega
      have c1 : decide ((i : Int) < (l.length : Int)) = false := decide_eq_false (by omega)
      go_wp2_with fail
      go_ret
      have he := HE.out
      rw [hall, show allB (qbU l) l.length = true from qf1.2 (by rw [← hi2]; exact HJ.out)] at he
      exact ⟨by rw [← he]; rfl, HB.out⟩
 ·rw [if_neg hl] at h
  cases h
end Go.Proofs.Ytlkdcicpaneakaa.X
