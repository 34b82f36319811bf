import Derived.Test.YtenfomejccfkgaaKFnExactCountRefs4
import Derived.Test.YtenfomejccfkgaaKFnExactCountRefs5
import Derived.Test.YtenfomejccfkgaaKFnExactCountRefs16
import Derived.Test.YtenfomejccfkgaaKFnExactCountRefs18
import Derived.Test.YtenfomejccfkgaaKFnExactCountRefs19
import Derived.Test.YtenfomejccfkgaaKFnExactCountRefs20
import Derived.Test.YtenfomejccfkgaaKFnExactCountRefs21
import Derived.Test.YtenfomejccfkgaaKFnExactCountRefs26
import Derived.Test.YtenfomejccfkgaaKFnExactCountRefs28
import Derived.Test.YtenfomejccfkgaaKFnExactCountRefs30
import Derived.LoopTactic
import Derived.WalkSpells
import Derived.Deep.RegionHeld3
import Derived.Test.YtenfomejccfkgaaRows
import Derived.WalkKit
import Derived.ProofKit
import Derived.OpenShut
import Derived.ShutString
import Derived.ChangeOld
import Derived.Below
import Derived.SizedLaws
namespace Go.Proofs.Ytenfomejccfkgaa.X
open Go.RowKit Go.Proofs.YtenfomejccfkgaaW.PrintWords Go.Proofs.YtenfomejccfkgaaW.PrintLast Go.Proofs.YtenfomejccfkgaaW.PrintMore
attribute [local go_sem] qaC qaD qaE qay qaz qaO qaP qas qat qaA qaB
set_option linter.unusedVariables false
set_option linter.unusedSimpArgs false
set_option maxHeartbeats 8000000 in
set_option maxRecDepth 100000 in
theorem qeN (A0 : Option Addr) (c0 : Nat) (l : List S50) (A1 : Option Addr) (c1 : Nat) (rs : List Int) (w : World) (hr0 : Kd.C k50 w A0 l.length l) (hc0 : l.length ≤ c0) (hr1 : Kd.C (Kd.int .i64) w A1 rs.length rs) (hc1 : rs.length ≤ c1) (hll : 1048576 < (rs.length : Int)) :
  Calls Try.prog 8 #[.agg #[.slice A0 l.length c0], .slice A1 rs.length c1] w fun e w' => e = .returned (.bool true) ∧ Below w.heap.size w w' := by
 have t0 : decide (1048576 < (rs.length : Int)) = true := decide_eq_true hll
 have hu := Try.underlying29
 have hu2 := Try.underlying24
 have HR0 := Aside0.mk hr0
 have HR1 := Aside0.mk hr1
 have HBi := Aside0.mk (Below.refl w.heap.size w)
 clear hr0 hr1
 have HB1 := Aside0.mk (qab HBi.out (.cells #[.slice A0 l.length c0] 24 (0, 0)))
 have KA1 := Aside0.mk (qcn w (.cells #[.slice A0 l.length c0] 24 (0, 0)))
 have Z1_0 := Aside0.mk (show (w.alloc (.cells #[.slice A0 l.length c0] 24 (0, 0))).heap.size = (w).heap.size + 1 from by show ((w).heap.push _).size = _; rw [Array.size_push])
 clear HBi
 go_enter Try.func8, Try.ntmps8
 go_wp2_with fail
 go_ret
 exact ⟨rfl, HB1.out⟩
set_option maxHeartbeats 8000000 in
set_option maxRecDepth 100000 in
theorem qez (kz : Nat) (z : Int) (A0 : Option Addr) (c0 : Nat) (l : List S50) (A1 : Option Addr) (c1 : Nat) (rs : List Int) (w : World) (hr0 : Kd.C k50 w A0 l.length l) (hc0 : l.length ≤ c0) (hr1 : Kd.C (Kd.int .i64) w A1 rs.length rs) (hc1 : rs.length ≤ c1) (hz : qbQ.f kz l 1048576 = some z) (hll : ¬ 1048576 < (rs.length : Int)) (hzn : z < 0) :
  Calls Try.prog 8 #[.agg #[.slice A0 l.length c0], .slice A1 rs.length c1] w fun e w' => e = .returned (.bool true) ∧ Below w.heap.size w w' := by
 have t0 : decide (1048576 < (rs.length : Int)) = false := decide_eq_false hll
 have t1 : decide (z < 0) = true := decide_eq_true hzn
 have hu := Try.underlying29
 have hu2 := Try.underlying24
 have HR0 := Aside0.mk hr0
 have HR1 := Aside0.mk hr1
 have Ahz := Aside0.mk hz
 have HBi := Aside0.mk (Below.refl w.heap.size w)
 clear hr0 hr1 hz
 have HB1 := Aside0.mk (qab HBi.out (.cells #[.slice A0 l.length c0] 24 (0, 0)))
 have KA1 := Aside0.mk (qcn w (.cells #[.slice A0 l.length c0] 24 (0, 0)))
 have Z1_0 := Aside0.mk (show (w.alloc (.cells #[.slice A0 l.length c0] 24 (0, 0))).heap.size = (w).heap.size + 1 from by show ((w).heap.push _).size = _; rw [Array.size_push])
 clear HBi
 go_enter Try.func8, Try.ntmps8
 go_wp2_with fail
 refine (qbQ.calls (hr0_0 := Kd.qav HR0.out HB1.out) (hc0_0 := hc0) (h := Ahz.out)).mono ?_
 rintro e w2 ⟨rfl, hb2⟩
 have hb2 := (show Below ((w.alloc (.cells #[.slice A0 l.length c0] 24 (0, 0)))).heap.size ((w.alloc (.cells #[.slice A0 l.length c0] 24 (0, 0)))) w2 from by first | exact hb2 | exact hb2.below)
 have HB2 := Aside0.mk (qai HB1.out hb2)
 have KA2 := Aside0.mk (qar KA1.out hb2)
 have Z2_1 := Aside0.mk (show ((w.alloc (.cells #[.slice A0 l.length c0] 24 (0, 0)))).heap.size ≤ w2.heap.size from hb2.size)
 clear hb2 HB1 KA1
 have bA_0_2 := qae KA2.out 0
 simp only [List.getElem?_toArray, List.getElem?_cons_zero, List.getElem?_cons_succ] at bA_0_2
 go_wp2_with fail
 clear bA_0_2
 go_ret
 exact ⟨rfl, HB2.out⟩
set_option maxHeartbeats 8000000 in
set_option maxRecDepth 100000 in
theorem qeO (kz kt kti ks ki keR keY keX kmY km kh : Nat) (z : Int) (A0 : Option Addr) (c0 : Nat) (l : List S50) (A1 : Option Addr) (c1 : Nat) (rs : List Int) (x : List S56) (R : List Int) (code mY : Int) (yY : List Int) (w : World) (hr0 : Kd.C k50 w A0 l.length l) (hc0 : l.length ≤ c0) (hr1 : Kd.C (Kd.int .i64) w A1 rs.length rs) (hc1 : rs.length ≤ c1) (hz : qbQ.f kz l 1048576 = some z) (hll : ¬ 1048576 < (rs.length : Int)) (hzn : ¬ z < 0)
  (ht : qbJ.f kt l = some x) (hti : qba.f kti rs = some rs) (hsp : qbE.f ks x rs = some (R, code)) (him : qbA.f ki x rs = some (R, code)) (heR : qa5.f keR R R = some true) (heY : qa5.f keY rs rs = some true) (heX : qbZ.f keX x x = some true) (hmY : qa9.f kmY rs (1 + (qcl x : Int)) = some (mY, yY)) (hm1 : qa9.f km R 1 = some (1 + (R.length : Int), qcb R 1)) (hh : qbf.f kh (qcb R 1) 1 = some (1 + (R.length : Int))) (hcost : 1 + (qcl x : Int) ≤ 4611686018427387904) (hmYn : ¬ mY < 0) (hRl : (R.length : Int) ≤ 1000000) :
  Calls Try.prog 8 #[.agg #[.slice A0 l.length c0], .slice A1 rs.length c1] w fun e w' => e = .returned (.bool true) ∧ Below w.heap.size w w' := by
 have t0 : decide (1048576 < (rs.length : Int)) = false := decide_eq_false hll
 have t1 : decide (z < 0) = false := decide_eq_false hzn
 have t2 : decide (mY < 0) = false := decide_eq_false hmYn
 have t5 : (code != code) = false := bne_self_eq_false _
 obtain ⟨m, hm⟩ : ∃ m : Int, m = 1 + (R.length : Int) := ⟨_, rfl⟩
 rw [← hm] at hh hm1
 have HM := Aside0.mk hm
 have t4 : decide (m < 0) = false := decide_eq_false (by omega)
 have t6 : (m != m) = false := bne_self_eq_false _
 have HRL := Aside0.mk hRl
 have HCO := Aside0.mk hcost
 clear hm hRl hcost
 have hu := Try.underlying29
 have hu2 := Try.underlying24
 have HR0 := Aside0.mk hr0
 have HR1 := Aside0.mk hr1
 have Ahz := Aside0.mk hz
 have Aht := Aside0.mk ht
 have Ahti := Aside0.mk hti
 have Ahsp := Aside0.mk hsp
 have Ahim := Aside0.mk him
 have AheR := Aside0.mk heR
 have AheY := Aside0.mk heY
 have AheX := Aside0.mk heX
 have AhmY := Aside0.mk hmY
 have Ahm1 := Aside0.mk hm1
 have Ahh := Aside0.mk hh
 have HBi := Aside0.mk (Below.refl w.heap.size w)
 clear hr0 hr1 hz ht hti hsp him heR heY heX hmY hm1 hh
 have HB1 := Aside0.mk (qab HBi.out (.cells #[.slice A0 l.length c0] 24 (0, 0)))
 have KA1 := Aside0.mk (qcn w (.cells #[.slice A0 l.length c0] 24 (0, 0)))
 have Z1_0 := Aside0.mk (show (w.alloc (.cells #[.slice A0 l.length c0] 24 (0, 0))).heap.size = (w).heap.size + 1 from by show ((w).heap.push _).size = _; rw [Array.size_push])
 clear HBi
 go_enter Try.func8, Try.ntmps8
 go_wp2_with fail
 refine (qbQ.calls (hr0_0 := Kd.qav HR0.out HB1.out) (hc0_0 := hc0) (h := Ahz.out)).mono ?_
 rintro e w2 ⟨rfl, hb2⟩
 have hb2 := (show Below ((w.alloc (.cells #[.slice A0 l.length c0] 24 (0, 0)))).heap.size ((w.alloc (.cells #[.slice A0 l.length c0] 24 (0, 0)))) w2 from by first | exact hb2 | exact hb2.below)
 have HB2 := Aside0.mk (qai HB1.out hb2)
 have KA2 := Aside0.mk (qar KA1.out hb2)
 have Z2_1 := Aside0.mk (show ((w.alloc (.cells #[.slice A0 l.length c0] 24 (0, 0)))).heap.size ≤ w2.heap.size from hb2.size)
 clear hb2 HB1 KA1
 have bA_0_2 := qae KA2.out 0
 simp only [List.getElem?_toArray, List.getElem?_cons_zero, List.getElem?_cons_succ] at bA_0_2
 go_wp2_with fail
 clear bA_0_2
 refine (qbJ.calls (hr0_0 := Kd.qav HR0.out HB2.out) (hc0_0 := hc0) (h := Aht.out)).mono ?_
 rintro e w3 ⟨v3_0, rfl, ho3_0, hb3⟩
 have hb3 := (show Below (w2).heap.size (w2) w3 from by first | exact hb3 | exact hb3.below)
 obtain ⟨A3X0, c3X0, rfl, _, _⟩ := Kd.qe5 ho3_0
 have nho3_0 := Aside0.mk (Kd.qdC (Kd.qc7 (Kd.qdB ho3_0) (fun k hk => (show (w2).heap.size ≤ k ∧ k < w3.heap.size from ⟨hk.2.1, hk.2.2.1⟩))) HB2.out.size)
 have HB3 := Aside0.mk (qai HB2.out hb3)
 have KA3 := Aside0.mk (qar KA2.out hb3)
 have Z3_2 := Aside0.mk (show (w2).heap.size ≤ w3.heap.size from hb3.size)
 clear hb3 ho3_0 HB2 KA2
 have bA_0_3 := qae KA3.out 0
 simp only [List.getElem?_toArray, List.getElem?_cons_zero, List.getElem?_cons_succ] at bA_0_3
 go_wp2_with fail
 clear bA_0_3
 refine (qba.calls (hr0 := Kd.qav HR1.out HB3.out) (hc0 := hc1) (h := Ahti.out)).mono ?_
 rintro e w4 ⟨v4_0, rfl, ho4_0, hb4⟩
 have hb4 := (show Below (w3).heap.size (w3) w4 from by first | exact hb4 | exact hb4.below)
 obtain ⟨A4R0, c4R0, rfl, _, _⟩ := Kd.qbP ho4_0
 have nho4_0 := Aside0.mk (Kd.qby (Kd.qbv (Kd.qb4 ho4_0) (fun k hk => (show (w3).heap.size ≤ k ∧ k < w4.heap.size from ⟨hk.2.1, hk.2.2.1⟩))) HB3.out.size)
 have HB4 := Aside0.mk (qai HB3.out hb4)
 have HX04 := Aside0.mk (Kd.qcg nho3_0.out hb4)
 have KA4 := Aside0.mk (qar KA3.out hb4)
 have Z4_3 := Aside0.mk (show (w3).heap.size ≤ w4.heap.size from hb4.size)
 clear hb4 ho4_0 HB3 nho3_0 KA3
 have bA_0_4 := qae KA4.out 0
 simp only [List.getElem?_toArray, List.getElem?_cons_zero, List.getElem?_cons_succ] at bA_0_4
 go_wp2_with fail
 clear bA_0_4
 refine (qbE.calls (hr0_0 := (Kd.qb1 HX04.out).2.2) (hc0_0 := (Kd.qb1 HX04.out).2.1) (hr1 := (Kd.qbe nho4_0.out).2.2) (hc1 := (Kd.qbe nho4_0.out).2.1) (h := Ahsp.out)).mono ?_
 rintro e w5 ⟨v5_0, rfl, ho5_0, hb5⟩
 have hb5 := (show Below (w4).heap.size (w4) w5 from by first | exact hb5 | exact hb5.below)
 obtain ⟨A5W, c5W, rfl, _, _⟩ := Kd.qbP ho5_0
 have nho5_0 := Aside0.mk (Kd.qby (Kd.qbv (Kd.qb4 ho5_0) (fun k hk => (show (w4).heap.size ≤ k ∧ k < w5.heap.size from ⟨hk.2.1, hk.2.2.1⟩))) HB4.out.size)
 have HB5 := Aside0.mk (qai HB4.out hb5)
 have HX05 := Aside0.mk (Kd.qcg HX04.out hb5)
 have HR05 := Aside0.mk (Kd.qbj nho4_0.out hb5)
 have KA5 := Aside0.mk (qar KA4.out hb5)
 have Z5_4 := Aside0.mk (show (w4).heap.size ≤ w5.heap.size from hb5.size)
 clear hb5 ho5_0 HB4 HX04 nho4_0 KA4
 have bA_0_5 := qae KA5.out 0
 simp only [List.getElem?_toArray, List.getElem?_cons_zero, List.getElem?_cons_succ] at bA_0_5
 go_wp2_with fail
 clear bA_0_5
 refine (qbJ.calls (hr0_0 := Kd.qav HR0.out HB5.out) (hc0_0 := hc0) (h := Aht.out)).mono ?_
 rintro e w6 ⟨v6_0, rfl, ho6_0, hb6⟩
 have hb6 := (show Below (w5).heap.size (w5) w6 from by first | exact hb6 | exact hb6.below)
 obtain ⟨A6X, c6X, rfl, _, _⟩ := Kd.qe5 ho6_0
 have nho6_0 := Aside0.mk (Kd.qdC (Kd.qc7 (Kd.qdB ho6_0) (fun k hk => (show (w5).heap.size ≤ k ∧ k < w6.heap.size from ⟨hk.2.1, hk.2.2.1⟩))) HB5.out.size)
 have HB6 := Aside0.mk (qai HB5.out hb6)
 have HW6 := Aside0.mk (Kd.qbj nho5_0.out hb6)
 have KA6 := Aside0.mk (qar KA5.out hb6)
 have Z6_5 := Aside0.mk (show (w5).heap.size ≤ w6.heap.size from hb6.size)
 clear hb6 ho6_0 HB5 nho5_0 KA5
 have HB7 := Aside0.mk (qab HB6.out (.cells #[.slice A6X x.length c6X] 29 (0, 0)))
 have HW7 := Aside0.mk (Kd.qa3 HW6.out (.cells #[.slice A6X x.length c6X] 29 (0, 0)))
 have HX7 := Aside0.mk (Kd.qc8 nho6_0.out (.cells #[.slice A6X x.length c6X] 29 (0, 0)))
 have KA7 := Aside0.mk (qak KA6.out (.cells #[.slice A6X x.length c6X] 29 (0, 0)))
 have KB7 := Aside0.mk (qcn w6 (.cells #[.slice A6X x.length c6X] 29 (0, 0)))
 have Z7_6 := Aside0.mk (show (w6.alloc (.cells #[.slice A6X x.length c6X] 29 (0, 0))).heap.size = (w6).heap.size + 1 from by show ((w6).heap.push _).size = _; rw [Array.size_push])
 clear HB6 HW6 nho6_0 KA6
 have bA_0_7 := qae KA7.out 0
 have bB_0_7 := qae KB7.out 0
 simp only [List.getElem?_toArray, List.getElem?_cons_zero, List.getElem?_cons_succ] at bA_0_7 bB_0_7
 go_wp2_with fail
 clear bA_0_7 bB_0_7
 refine (qba.calls (hr0 := Kd.qav HR1.out HB7.out) (hc0 := hc1) (h := Ahti.out)).mono ?_
 rintro e w8 ⟨v8_0, rfl, ho8_0, hb8⟩
 have hb8 := (show Below ((w6.alloc (.cells #[.slice A6X x.length c6X] 29 (0, 0)))).heap.size ((w6.alloc (.cells #[.slice A6X x.length c6X] 29 (0, 0)))) w8 from by first | exact hb8 | exact hb8.below)
 obtain ⟨A8Y, c8Y, rfl, _, _⟩ := Kd.qbP ho8_0
 have nho8_0 := Aside0.mk (Kd.qby (Kd.qbv (Kd.qb4 ho8_0) (fun k hk => (show ((w6.alloc (.cells #[.slice A6X x.length c6X] 29 (0, 0)))).heap.size ≤ k ∧ k < w8.heap.size from ⟨hk.2.1, hk.2.2.1⟩))) HB7.out.size)
 have HB8 := Aside0.mk (qai HB7.out hb8)
 have HW8 := Aside0.mk (Kd.qbj HW7.out hb8)
 have HX8 := Aside0.mk (Kd.qcg HX7.out hb8)
 have KA8 := Aside0.mk (qar KA7.out hb8)
 have KB8 := Aside0.mk (qar KB7.out hb8)
 have Z8_7 := Aside0.mk (show ((w6.alloc (.cells #[.slice A6X x.length c6X] 29 (0, 0)))).heap.size ≤ w8.heap.size from hb8.size)
 clear hb8 ho8_0 HB7 HW7 HX7 KA7 KB7
 have bA_0_8 := qae KA8.out 0
 have bB_0_8 := qae KB8.out 0
 simp only [List.getElem?_toArray, List.getElem?_cons_zero, List.getElem?_cons_succ] at bA_0_8 bB_0_8
 go_wp2_with fail
 clear bA_0_8 bB_0_8
 refine (qbA.calls (hr0_0 := (Kd.qb1 HX8.out).2.2) (hc0_0 := (Kd.qb1 HX8.out).2.1) (hr1 := (Kd.qbe nho8_0.out).2.2) (hc1 := (Kd.qbe nho8_0.out).2.1) (h := Ahim.out)).mono ?_
 rintro e w9 ⟨v9_0, rfl, ho9_0, hb9⟩
 have hb9 := (show Below (w8).heap.size (w8) w9 from by first | exact hb9 | exact hb9.below)
 obtain ⟨A9G, c9G, rfl, _, _⟩ := Kd.qbP ho9_0
 have nho9_0 := Aside0.mk (Kd.qby (Kd.qbv (Kd.qb4 ho9_0) (fun k hk => (show (w8).heap.size ≤ k ∧ k < w9.heap.size from ⟨hk.2.1, hk.2.2.1⟩))) HB8.out.size)
 have HB9 := Aside0.mk (qai HB8.out hb9)
 have HW9 := Aside0.mk (Kd.qbj HW8.out hb9)
 have HX9 := Aside0.mk (Kd.qcg HX8.out hb9)
 have HY9 := Aside0.mk (Kd.qbj nho8_0.out hb9)
 have KA9 := Aside0.mk (qar KA8.out hb9)
 have KB9 := Aside0.mk (qar KB8.out hb9)
 have Z9_8 := Aside0.mk (show (w8).heap.size ≤ w9.heap.size from hb9.size)
 clear hb9 ho9_0 HB8 HW8 HX8 nho8_0 KA8 KB8
 have bA_0_9 := qae KA9.out 0
 have bB_0_9 := qae KB9.out 0
 simp only [List.getElem?_toArray, List.getElem?_cons_zero, List.getElem?_cons_succ] at bA_0_9 bB_0_9
 go_wp2_with fail
 clear bA_0_9 bB_0_9
 refine (qa5.calls (hr0 := (Kd.qbe nho9_0.out).2.2) (hc0 := (Kd.qbe nho9_0.out).2.1) (hr1 := (Kd.qbe HW9.out).2.2) (hc1 := (Kd.qbe HW9.out).2.1) (h := AheR.out)).mono ?_
 rintro e w10 ⟨rfl, hb10⟩
 have hb10 := (show Below (w9).heap.size (w9) w10 from by first | exact hb10 | exact hb10.below)
 have HB10 := Aside0.mk (qai HB9.out hb10)
 have HW10 := Aside0.mk (Kd.qbj HW9.out hb10)
 have HX10 := Aside0.mk (Kd.qcg HX9.out hb10)
 have HY10 := Aside0.mk (Kd.qbj HY9.out hb10)
 have HG10 := Aside0.mk (Kd.qbj nho9_0.out hb10)
 have KA10 := Aside0.mk (qar KA9.out hb10)
 have KB10 := Aside0.mk (qar KB9.out hb10)
 have Z10_9 := Aside0.mk (show (w9).heap.size ≤ w10.heap.size from hb10.size)
 clear hb10 HB9 HW9 HX9 HY9 nho9_0 KA9 KB9
 have bA_0_10 := qae KA10.out 0
 have bB_0_10 := qae KB10.out 0
 simp only [List.getElem?_toArray, List.getElem?_cons_zero, List.getElem?_cons_succ] at bA_0_10 bB_0_10
 go_wp2_with fail
 have HB11 := Aside0.mk (qbr HB10.out)
 have HW11 := Aside0.mk (Kd.qbi HW10.out)
 have HX11 := Aside0.mk (Kd.qea HX10.out)
 have HY11 := Aside0.mk (Kd.qbi HY10.out)
 have HG11 := Aside0.mk (Kd.qbi HG10.out)
 have KA11 := Aside0.mk (qao KA10.out)
 have KB11 := Aside0.mk (qao KB10.out)
 have Z11_10 := Aside0.mk (show (w10).drew.heap.size = (w10).heap.size from rfl)
 go_region_held3 (fun W => W.cell? ⟨(w).heap.size, 0, none⟩ = some (.slice A0 l.length c0) ∧ W.cell? ⟨(w6).heap.size, 0, none⟩ = some (.slice A6X x.length c6X))
  (first | exact ⟨bA_0_10, bB_0_10⟩ | exact ⟨dA_0_12, dB_0_12⟩ | exact ⟨dA_0_13, dB_0_13⟩)
  (first
   | (go_at_call 15; refine (qbJ.calls (hr0_0 := Kd.qav HR0.out HB11.out) (hc0_0 := hc0) (h := Aht.out)).mono ?_; rintro e w12 ⟨v12_0, rfl, ho12_0, hb12⟩; have hb12 := (show Below ((w10).drew).heap.size ((w10).drew) w12 from by first | exact hb12 | exact hb12.below); obtain ⟨A12T1, c12T1, rfl, _, _⟩ := Kd.qe5 ho12_0; have nho12_0 := Aside0.mk (Kd.qdC (Kd.qc7 (Kd.qdB ho12_0) (fun k hk => (show ((w10).drew).heap.size ≤ k ∧ k < w12.heap.size from ⟨hk.2.1, hk.2.2.1⟩))) HB11.out.size); have HB12 := Aside0.mk (qai HB11.out hb12); have HW12 := Aside0.mk (Kd.qbj HW11.out hb12); have HX12 := Aside0.mk (Kd.qcg HX11.out hb12); have HY12 := Aside0.mk (Kd.qbj HY11.out hb12); have HG12 := Aside0.mk (Kd.qbj HG11.out hb12); have KA12 := Aside0.mk (qar KA11.out hb12); have KB12 := Aside0.mk (qar KB11.out hb12); have Z12_11 := Aside0.mk (show ((w10).drew).heap.size ≤ w12.heap.size from hb12.size); have dA_0_12 := qae KA12.out 0; have dB_0_12 := qae KB12.out 0; simp only [List.getElem?_toArray, List.getElem?_cons_zero, List.getElem?_cons_succ] at dA_0_12 dB_0_12; dsimp only)
   | (go_at_call 17; refine (qbZ.calls (hr0_0 := (Kd.qb1 HX12.out).2.2) (hc0_0 := (Kd.qb1 HX12.out).2.1) (hr1_0 := (Kd.qb1 nho12_0.out).2.2) (hc1_0 := (Kd.qb1 nho12_0.out).2.1) (h := AheX.out)).mono ?_; rintro e w13 ⟨rfl, hb13⟩; have hb13 := (show Below (w12).heap.size (w12) w13 from by first | exact hb13 | exact hb13.below); have HB13 := Aside0.mk (qai HB12.out hb13); have HW13 := Aside0.mk (Kd.qbj HW12.out hb13); have HX13 := Aside0.mk (Kd.qcg HX12.out hb13); have HY13 := Aside0.mk (Kd.qbj HY12.out hb13); have HG13 := Aside0.mk (Kd.qbj HG12.out hb13); have HT113 := Aside0.mk (Kd.qcg nho12_0.out hb13); have KA13 := Aside0.mk (qar KA12.out hb13); have KB13 := Aside0.mk (qar KB12.out hb13); have Z13_12 := Aside0.mk (show (w12).heap.size ≤ w13.heap.size from hb13.size); have dA_0_13 := qae KA13.out 0; have dB_0_13 := qae KB13.out 0; simp only [List.getElem?_toArray, List.getElem?_cons_zero, List.getElem?_cons_succ] at dA_0_13 dB_0_13; dsimp only)
   | fail)
 clear bA_0_10 bB_0_10 dA_0_12 dB_0_12
 have bA_0_13 := qae KA13.out 0
 have bB_0_13 := qae KB13.out 0
 simp only [List.getElem?_toArray, List.getElem?_cons_zero, List.getElem?_cons_succ] at bA_0_13 bB_0_13
 go_wp2_with fail
 clear bA_0_13 bB_0_13
 refine (qba.calls (hr0 := Kd.qav HR1.out HB13.out) (hc0 := hc1) (h := Ahti.out)).mono ?_
 rintro e w14 ⟨v14_0, rfl, ho14_0, hb14⟩
 have hb14 := (show Below (w13).heap.size (w13) w14 from by first | exact hb14 | exact hb14.below)
 obtain ⟨A14T2, c14T2, rfl, _, _⟩ := Kd.qbP ho14_0
 have nho14_0 := Aside0.mk (Kd.qby (Kd.qbv (Kd.qb4 ho14_0) (fun k hk => (show (w13).heap.size ≤ k ∧ k < w14.heap.size from ⟨hk.2.1, hk.2.2.1⟩))) HB13.out.size)
 have HB14 := Aside0.mk (qai HB13.out hb14)
 have HW14 := Aside0.mk (Kd.qbj HW13.out hb14)
 have HX14 := Aside0.mk (Kd.qcg HX13.out hb14)
 have HY14 := Aside0.mk (Kd.qbj HY13.out hb14)
 have HG14 := Aside0.mk (Kd.qbj HG13.out hb14)
 have KA14 := Aside0.mk (qar KA13.out hb14)
 have KB14 := Aside0.mk (qar KB13.out hb14)
 have Z14_13 := Aside0.mk (show (w13).heap.size ≤ w14.heap.size from hb14.size)
 clear hb14 ho14_0 HB13 HW13 HX13 HY13 HG13 KA13 KB13
 have bA_0_14 := qae KA14.out 0
 have bB_0_14 := qae KB14.out 0
 simp only [List.getElem?_toArray, List.getElem?_cons_zero, List.getElem?_cons_succ] at bA_0_14 bB_0_14
 go_wp2_with fail
 clear bA_0_14 bB_0_14
 refine (qa5.calls (hr0 := (Kd.qbe HY14.out).2.2) (hc0 := (Kd.qbe HY14.out).2.1) (hr1 := (Kd.qbe nho14_0.out).2.2) (hc1 := (Kd.qbe nho14_0.out).2.1) (h := AheY.out)).mono ?_
 rintro e w15 ⟨rfl, hb15⟩
 have hb15 := (show Below (w14).heap.size (w14) w15 from by first | exact hb15 | exact hb15.below)
 have HB15 := Aside0.mk (qai HB14.out hb15)
 have HW15 := Aside0.mk (Kd.qbj HW14.out hb15)
 have HX15 := Aside0.mk (Kd.qcg HX14.out hb15)
 have HY15 := Aside0.mk (Kd.qbj HY14.out hb15)
 have HG15 := Aside0.mk (Kd.qbj HG14.out hb15)
 have HT215 := Aside0.mk (Kd.qbj nho14_0.out hb15)
 have KA15 := Aside0.mk (qar KA14.out hb15)
 have KB15 := Aside0.mk (qar KB14.out hb15)
 have Z15_14 := Aside0.mk (show (w14).heap.size ≤ w15.heap.size from hb15.size)
 clear hb15 HB14 HW14 HX14 HY14 HG14 nho14_0 KA14 KB14
 have bA_0_15 := qae KA15.out 0
 have bB_0_15 := qae KB15.out 0
 simp only [List.getElem?_toArray, List.getElem?_cons_zero, List.getElem?_cons_succ] at bA_0_15 bB_0_15
 go_wp2_with fail
 clear bA_0_15 bB_0_15
 have ZA16 := Aside0.mk (And.intro Z1_0.out (And.intro Z2_1.out (And.intro Z3_2.out (And.intro Z4_3.out (And.intro Z5_4.out (And.intro Z6_5.out (And.intro Z7_6.out (And.intro Z8_7.out (And.intro Z9_8.out (And.intro Z10_9.out (And.intro Z11_10.out (And.intro Z12_11.out (And.intro Z13_12.out (And.intro Z14_13.out (Z15_14.out)))))))))))))))
 refine (qfE (fun k => (w5).heap.size ≤ k ∧ k < w6.heap.size) A6X _ c6X x 1 w _ HB15.out HX15.out (by omega) HCO.out).mono ?_
 rintro e w16 ⟨rfl, hr16, hb16, hk16⟩
 have hr16 := Aside0.mk hr16
 have HB16 := Aside0.mk (hb16)
 have HW16 := Aside0.mk (Kd.qcX HW15.out hk16 (fun k hk h => (by have h1 := hk.1; have h2 := hk.2; have h3 := h.1; have h4 := h.2; have z := ZA16.out; omega)))
 have HY16 := Aside0.mk (Kd.qcX HY15.out hk16 (fun k hk h => (by have h1 := hk.1; have h2 := hk.2; have h3 := h.1; have h4 := h.2; have z := ZA16.out; omega)))
 have HG16 := Aside0.mk (Kd.qcX HG15.out hk16 (fun k hk h => (by have h1 := hk.1; have h2 := hk.2; have h3 := h.1; have h4 := h.2; have z := ZA16.out; omega)))
 have KA16 := Aside0.mk (qdW KA15.out hk16 (fun h => (by have h3 := h.1; have h4 := h.2; have z := ZA16.out; omega)))
 have KB16 := Aside0.mk (qdW KB15.out hk16 (fun h => (by have h3 := h.1; have h4 := h.2; have z := ZA16.out; omega)))
 have Z16_15 := Aside0.mk (show (w15).heap.size ≤ w16.heap.size from hk16.1)
 clear hb16 hk16 HB15 HW15 HY15 HG15 KA15 KB15 HX15
 have bA_0_16 := qae KA16.out 0
 simp only [List.getElem?_toArray, List.getElem?_cons_zero, List.getElem?_cons_succ] at bA_0_16
 go_wp2_with fail
 clear bA_0_16
 have ZA17 := Aside0.mk (And.intro Z1_0.out (And.intro Z2_1.out (And.intro Z3_2.out (And.intro Z4_3.out (And.intro Z5_4.out (And.intro Z6_5.out (And.intro Z7_6.out (And.intro Z8_7.out (And.intro Z9_8.out (And.intro Z10_9.out (And.intro Z11_10.out (And.intro Z12_11.out (And.intro Z13_12.out (And.intro Z14_13.out (And.intro Z15_14.out (Z16_15.out))))))))))))))))
 refine (qa9.calls (w0 := w) (hB := HB16.out) (ho0 := HY16.out) (h := AhmY.out)).mono ?_
 rintro e w17 ⟨rfl, hr17, hb17, hk17⟩
 have hr17 := Aside0.mk (Kd.qfA (ok := (fun k => ((w6.alloc (.cells #[.slice A6X x.length c6X] 29 (0, 0)))).heap.size ≤ k ∧ k < w8.heap.size)) rfl hr17 (fun k hk => HY16.out.1 k hk))
 have HB17 := Aside0.mk (hb17)
 have HW17 := Aside0.mk (Kd.qcX HW16.out hk17 (fun k hk h => (by have h1 := hk.1; have h2 := hk.2; have h3 := h.1; have h4 := h.2; have z := ZA17.out; omega)))
 have HG17 := Aside0.mk (Kd.qcX HG16.out hk17 (fun k hk h => (by have h1 := hk.1; have h2 := hk.2; have h3 := h.1; have h4 := h.2; have z := ZA17.out; omega)))
 have KA17 := Aside0.mk (qdW KA16.out hk17 (fun h => (by have h3 := h.1; have h4 := h.2; have z := ZA17.out; omega)))
 have Z17_16 := Aside0.mk (show (w16).heap.size ≤ w17.heap.size from hk17.1)
 clear hb17 hk17 HB16 HW16 HG16 KA16 HY16
 have bA_0_17 := qae KA17.out 0
 simp only [List.getElem?_toArray, List.getElem?_cons_zero, List.getElem?_cons_succ] at bA_0_17
 go_wp2_with fail
 clear bA_0_17
 refine (qa5.calls (hr0 := (Kd.qbe HG17.out).2.2) (hc0 := (Kd.qbe HG17.out).2.1) (hr1 := (Kd.qbe HW17.out).2.2) (hc1 := (Kd.qbe HW17.out).2.1) (h := AheR.out)).mono ?_
 rintro e w18 ⟨rfl, hb18⟩
 have hb18 := (show Below (w17).heap.size (w17) w18 from by first | exact hb18 | exact hb18.below)
 have HB18 := Aside0.mk (qai HB17.out hb18)
 have HW18 := Aside0.mk (Kd.qbj HW17.out hb18)
 have HG18 := Aside0.mk (Kd.qbj HG17.out hb18)
 have KA18 := Aside0.mk (qar KA17.out hb18)
 have Z18_17 := Aside0.mk (show (w17).heap.size ≤ w18.heap.size from hb18.size)
 clear hb18 HB17 HW17 HG17 KA17
 have bA_0_18 := qae KA18.out 0
 simp only [List.getElem?_toArray, List.getElem?_cons_zero, List.getElem?_cons_succ] at bA_0_18
 go_wp2_with fail
 clear bA_0_18
 have ZA19 := Aside0.mk (And.intro Z1_0.out (And.intro Z2_1.out (And.intro Z3_2.out (And.intro Z4_3.out (And.intro Z5_4.out (And.intro Z6_5.out (And.intro Z7_6.out (And.intro Z8_7.out (And.intro Z9_8.out (And.intro Z10_9.out (And.intro Z11_10.out (And.intro Z12_11.out (And.intro Z13_12.out (And.intro Z14_13.out (And.intro Z15_14.out (And.intro Z16_15.out (And.intro Z17_16.out (Z18_17.out))))))))))))))))))
 refine (qa9.calls (w0 := w) (hB := HB18.out) (ho0 := HG18.out) (h := Ahm1.out)).mono ?_
 rintro e w19 ⟨rfl, hr19, hb19, hk19⟩
 have hr19 := Aside0.mk (Kd.qfA (ok := (fun k => (w8).heap.size ≤ k ∧ k < w9.heap.size)) rfl hr19 (fun k hk => HG18.out.1 k hk))
 have HB19 := Aside0.mk (hb19)
 have HW19 := Aside0.mk (Kd.qcX HW18.out hk19 (fun k hk h => (by have h1 := hk.1; have h2 := hk.2; have h3 := h.1; have h4 := h.2; have z := ZA19.out; omega)))
 have KA19 := Aside0.mk (qdW KA18.out hk19 (fun h => (by have h3 := h.1; have h4 := h.2; have z := ZA19.out; omega)))
 have Z19_18 := Aside0.mk (show (w18).heap.size ≤ w19.heap.size from hk19.1)
 clear hb19 hk19 HB18 HW18 KA18 HG18
 have bA_0_19 := qae KA19.out 0
 simp only [List.getElem?_toArray, List.getElem?_cons_zero, List.getElem?_cons_succ] at bA_0_19
 go_wp2_with fail
 clear bA_0_19
 have hl19 := (Kd.qbe hr19.out).1
 have hh19 := qbf.calls (A0 := A9G) (c0 := c9G) (hr0 := by exact (Kd.qbe hr19.out).2.2) (hc0 := by rw [← hl19]; exact (Kd.qbe hr19.out).2.1) (h := Ahh.out)
 rw [← hl19] at hh19
 clear hl19
 refine (hh19).mono ?_
 rintro e w20 ⟨rfl, hb20⟩
 have hb20 := (show Below (w19).heap.size (w19) w20 from by first | exact hb20 | exact hb20.below)
 have HB20 := Aside0.mk (qai HB19.out hb20)
 have HW20 := Aside0.mk (Kd.qbj HW19.out hb20)
 have HG20 := Aside0.mk (Kd.qbj hr19.out hb20)
 have KA20 := Aside0.mk (qar KA19.out hb20)
 have Z20_19 := Aside0.mk (show (w19).heap.size ≤ w20.heap.size from hb20.size)
 clear hb20 HB19 HW19 hr19 KA19
 clear hh19
 have bA_0_20 := qae KA20.out 0
 simp only [List.getElem?_toArray, List.getElem?_cons_zero, List.getElem?_cons_succ] at bA_0_20
 go_wp2_with fail
 clear bA_0_20
 refine (qbJ.calls (hr0_0 := Kd.qav HR0.out HB20.out) (hc0_0 := hc0) (h := Aht.out)).mono ?_
 rintro e w21 ⟨v21_0, rfl, ho21_0, hb21⟩
 have hb21 := (show Below (w20).heap.size (w20) w21 from by first | exact hb21 | exact hb21.below)
 obtain ⟨A21T3, c21T3, rfl, _, _⟩ := Kd.qe5 ho21_0
 have nho21_0 := Aside0.mk (Kd.qdC (Kd.qc7 (Kd.qdB ho21_0) (fun k hk => (show (w20).heap.size ≤ k ∧ k < w21.heap.size from ⟨hk.2.1, hk.2.2.1⟩))) HB20.out.size)
 have HB21 := Aside0.mk (qai HB20.out hb21)
 have HW21 := Aside0.mk (Kd.qbj HW20.out hb21)
 have HG21 := Aside0.mk (Kd.qbj HG20.out hb21)
 have KA21 := Aside0.mk (qar KA20.out hb21)
 have Z21_20 := Aside0.mk (show (w20).heap.size ≤ w21.heap.size from hb21.size)
 clear hb21 ho21_0 HB20 HW20 HG20 KA20
 have bA_0_21 := qae KA21.out 0
 simp only [List.getElem?_toArray, List.getElem?_cons_zero, List.getElem?_cons_succ] at bA_0_21
 go_wp2_with fail
 clear bA_0_21
 refine (qba.calls (hr0 := Kd.qav HR1.out HB21.out) (hc0 := hc1) (h := Ahti.out)).mono ?_
 rintro e w22 ⟨v22_0, rfl, ho22_0, hb22⟩
 have hb22 := (show Below (w21).heap.size (w21) w22 from by first | exact hb22 | exact hb22.below)
 obtain ⟨A22T4, c22T4, rfl, _, _⟩ := Kd.qbP ho22_0
 have nho22_0 := Aside0.mk (Kd.qby (Kd.qbv (Kd.qb4 ho22_0) (fun k hk => (show (w21).heap.size ≤ k ∧ k < w22.heap.size from ⟨hk.2.1, hk.2.2.1⟩))) HB21.out.size)
 have HB22 := Aside0.mk (qai HB21.out hb22)
 have HW22 := Aside0.mk (Kd.qbj HW21.out hb22)
 have HG22 := Aside0.mk (Kd.qbj HG21.out hb22)
 have HT322 := Aside0.mk (Kd.qcg nho21_0.out hb22)
 have KA22 := Aside0.mk (qar KA21.out hb22)
 have Z22_21 := Aside0.mk (show (w21).heap.size ≤ w22.heap.size from hb22.size)
 clear hb22 ho22_0 HB21 HW21 HG21 nho21_0 KA21
 have bA_0_22 := qae KA22.out 0
 simp only [List.getElem?_toArray, List.getElem?_cons_zero, List.getElem?_cons_succ] at bA_0_22
 go_wp2_with fail
 clear bA_0_22
 refine (qbA.calls (hr0_0 := (Kd.qb1 HT322.out).2.2) (hc0_0 := (Kd.qb1 HT322.out).2.1) (hr1 := (Kd.qbe nho22_0.out).2.2) (hc1 := (Kd.qbe nho22_0.out).2.1) (h := Ahim.out)).mono ?_
 rintro e w23 ⟨v23_0, rfl, ho23_0, hb23⟩
 have hb23 := (show Below (w22).heap.size (w22) w23 from by first | exact hb23 | exact hb23.below)
 obtain ⟨A23Q, c23Q, rfl, _, _⟩ := Kd.qbP ho23_0
 have nho23_0 := Aside0.mk (Kd.qby (Kd.qbv (Kd.qb4 ho23_0) (fun k hk => (show (w22).heap.size ≤ k ∧ k < w23.heap.size from ⟨hk.2.1, hk.2.2.1⟩))) HB22.out.size)
 have HB23 := Aside0.mk (qai HB22.out hb23)
 have HW23 := Aside0.mk (Kd.qbj HW22.out hb23)
 have HG23 := Aside0.mk (Kd.qbj HG22.out hb23)
 have HT323 := Aside0.mk (Kd.qcg HT322.out hb23)
 have HT423 := Aside0.mk (Kd.qbj nho22_0.out hb23)
 have KA23 := Aside0.mk (qar KA22.out hb23)
 have Z23_22 := Aside0.mk (show (w22).heap.size ≤ w23.heap.size from hb23.size)
 clear hb23 ho23_0 HB22 HW22 HG22 HT322 nho22_0 KA22
 have bA_0_23 := qae KA23.out 0
 simp only [List.getElem?_toArray, List.getElem?_cons_zero, List.getElem?_cons_succ] at bA_0_23
 go_wp2_with fail
 clear bA_0_23
 refine (qa5.calls (hr0 := (Kd.qbe nho23_0.out).2.2) (hc0 := (Kd.qbe nho23_0.out).2.1) (hr1 := (Kd.qbe HW23.out).2.2) (hc1 := (Kd.qbe HW23.out).2.1) (h := AheR.out)).mono ?_
 rintro e w24 ⟨rfl, hb24⟩
 have hb24 := (show Below (w23).heap.size (w23) w24 from by first | exact hb24 | exact hb24.below)
 have HB24 := Aside0.mk (qai HB23.out hb24)
 have HW24 := Aside0.mk (Kd.qbj HW23.out hb24)
 have HG24 := Aside0.mk (Kd.qbj HG23.out hb24)
 have HQ24 := Aside0.mk (Kd.qbj nho23_0.out hb24)
 have KA24 := Aside0.mk (qar KA23.out hb24)
 have Z24_23 := Aside0.mk (show (w23).heap.size ≤ w24.heap.size from hb24.size)
 clear hb24 HB23 HW23 HG23 nho23_0 KA23
 have bA_0_24 := qae KA24.out 0
 simp only [List.getElem?_toArray, List.getElem?_cons_zero, List.getElem?_cons_succ] at bA_0_24
 go_wp2_with fail
 clear bA_0_24
 have hl24 := (Kd.qbe HG24.out).1
 have hh24 := qbf.calls (A0 := A9G) (c0 := c9G) (hr0 := by exact (Kd.qbe HG24.out).2.2) (hc0 := by rw [← hl24]; exact (Kd.qbe HG24.out).2.1) (h := Ahh.out)
 rw [← hl24] at hh24
 clear hl24
 refine (hh24).mono ?_
 rintro e w25 ⟨rfl, hb25⟩
 have hb25 := (show Below (w24).heap.size (w24) w25 from by first | exact hb25 | exact hb25.below)
 have HB25 := Aside0.mk (qai HB24.out hb25)
 have HW25 := Aside0.mk (Kd.qbj HW24.out hb25)
 have HG25 := Aside0.mk (Kd.qbj HG24.out hb25)
 have HQ25 := Aside0.mk (Kd.qbj HQ24.out hb25)
 have KA25 := Aside0.mk (qar KA24.out hb25)
 have Z25_24 := Aside0.mk (show (w24).heap.size ≤ w25.heap.size from hb25.size)
 clear hb25 HB24 HW24 HG24 HQ24 KA24
 clear hh24
 have bA_0_25 := qae KA25.out 0
 simp only [List.getElem?_toArray, List.getElem?_cons_zero, List.getElem?_cons_succ] at bA_0_25
 go_wp2_with fail
 clear bA_0_25
 go_ret
 exact ⟨rfl, HB25.out⟩
open Classical in
noncomputable def qbu.f (l0_0 : List S50) (l1 : List Int) : Option Bool := if wl24 ⟨l0_0⟩ ∧ l1.length ≤ maxLen then some true else none
theorem qbu.calls (A0_0 : Option Addr) (c0_0 : Nat) (l0_0 : List (S50)) (A1 : Option Addr) (c1 : Nat) (l1 : List Int) (r : Bool) (w : World) (hr0_0 : Kd.C k50 w A0_0 l0_0.length l0_0) (hc0_0 : l0_0.length ≤ c0_0) (hr1 : Kd.C (Kd.int .i64) w A1 l1.length l1) (hc1 : l1.length ≤ c1) (h : qbu.f l0_0 l1 = some r) :
  Calls Try.prog 8 #[.agg #[.slice A0_0 l0_0.length c0_0], .slice A1 l1.length c1] w fun e w' => e = .returned (.bool r) ∧ Below w.heap.size w w' := by
 unfold qbu.f at h
 by_cases hw : wl24 ⟨l0_0⟩ ∧ l1.length ≤ maxLen
 ·rw [if_pos hw] at h
  obtain rfl := Option.some.inj h
  clear h
  by_cases hll : 1048576 < (l1.length : Int)
  ·exact qeN A0_0 c0_0 l0_0 A1 c1 l1 w hr0_0 hc0_0 hr1 hc1 hll
  obtain ⟨z, hz, hq⟩ := sz_Heap ⟨l0_0⟩ hw.1 1048576 1048576 (by omega) (by omega) (by omega)
  obtain ⟨kz, hz⟩ := Ev.rounds hz
  by_cases hzn : z < 0
  ·exact qez kz z A0_0 c0_0 l0_0 A1 c1 l1 w hr0_0 hc0_0 hr1 hc1 hz hll hzn
  have hs := (hq (by omega)).2
  obtain ⟨kt, ht⟩ := Ev.rounds (to_Heap ⟨l0_0⟩ hs)
  obtain ⟨kti, hti⟩ := Ev.rounds (qhk l1 (by omega))
  have hsm := qgG hs
  have hco := qhl hs
  obtain ⟨keX, heX⟩ := Ev.rounds (eq_Heap ⟨l0_0.map cv50⟩ (heap_len hs))
  simp only at ht
  generalize l0_0.map cv50 = x at *
  have hn := qgM x l1
  obtain ⟨ks, hsp⟩ := Ev.rounds (qdJ l1 hsm)
  obtain ⟨ki, him⟩ := Ev.rounds (qdK l1 hsm)
  obtain ⟨RR, hR⟩ : ∃ RR, countR x l1 = RR := ⟨_, rfl⟩
  rw [hR] at hsp him hn
  obtain ⟨R, code⟩ := RR
  simp only at hn
  obtain ⟨keR, heR⟩ := Ev.rounds (qge R (by omega))
  obtain ⟨keY, heY⟩ := Ev.rounds (qge l1 (by omega))
  obtain ⟨kmY, hmY⟩ := Ev.rounds (qee l1 (1 + (qcl x : Int)) (by omega) (by omega) (by omega))
  obtain ⟨km, hm1⟩ := Ev.rounds (qee R 1 (by omega) (by omega) (by omega))
  obtain ⟨kh, hh⟩ := Ev.rounds (qhv R 1 (by omega) (by omega) (by omega))
  simp only [Int.one_mul] at heX hm1 hh
  exact qeO kz kt kti ks ki keR keY keX kmY km kh z A0_0 c0_0 l0_0 A1 c1 l1 x R code _ _ w hr0_0 hc0_0 hr1 hc1 hz hll hzn ht hti hsp him heR heY heX hmY hm1 hh (by omega) (by omega) (by omega)
 ·rw [if_neg hw] at h
  cases h
end Go.Proofs.Ytenfomejccfkgaa.X
namespace Go.Proofs.Ytenfomejccfkgaa.X
open Go.RowKit Go.Proofs.YtenfomejccfkgaaW.PrintWords Go.Proofs.YtenfomejccfkgaaW.PrintLast Go.Proofs.YtenfomejccfkgaaW.PrintMore
attribute [local go_sem] qaC qaD qaE qay qaz qaO qaP qas qat qaA qaB
set_option linter.unusedVariables false
set_option linter.unusedSimpArgs false
theorem opens4 : Opens Try.prog 4 Kd.bool (fun _ => True) := Opens.bool_ Try.underlying4 (by kernel_rfl)
theorem qhw : Opens Try.prog 9 Kd.string (fun x => x.size ≤ maxLen) := Opens.string_ Try.underlying9 (by kernel_rfl)
def wf159 (x : S159) : Prop := x.f0.size ≤ maxLen ∧ x.f1.size ≤ maxLen
set_option maxRecDepth 100000 in
theorem opens159 : Opens Try.prog 159 k159 wf159 := by
 refine ⟨by kernel_rfl, fun {H enc w base spare held fuel cs x} h => ?_⟩
 obtain ⟨xs, n, _, _, hl, hlen, hf⟩ := DataW.trod_struct Try.underlying159 h
 have hl' : cs.length = 2 := hl.trans (by kernel_rfl)
 match cs, hl', xs, hlen with
 | [c0, c1], _, [y0, y1], _ =>
  obtain ⟨v0, g0, w0⟩ := qhw.2 (by simpa [show Try.prog.cellsOf 9 = 1 from by kernel_rfl] using hf 0 _ rfl)
  obtain ⟨v1, g1, w1⟩ := qhw.2 (by simpa [show Try.prog.cellsOf 9 = 1 from by kernel_rfl] using hf 1 _ rfl)
  exact ⟨(⟨v0, v1⟩ : S159), ⟨[c0], [c1], rfl, g0, g1⟩, ⟨w0, w1⟩⟩
def wfL159 (xs : List (S159)) : Prop := xs.length ≤ maxLen ∧ ∀ x ∈ xs, wf159 x
theorem opens47 : Opens Try.prog 47 (Kd.slice 159 k159) wfL159 := Opens.qfo Try.underlying47 (by kernel_rfl) opens159
def wfL9 (xs : List ByteArray) : Prop := xs.length ≤ maxLen ∧ ∀ x ∈ xs, x.size ≤ maxLen
theorem opens48 : Opens Try.prog 48 (Kd.slice 9 Kd.string) wfL9 := Opens.qfo Try.underlying48 (by kernel_rfl) qhw
theorem opens3 : Opens Try.prog 3 (Kd.int .i64) (fun x => (Lit.int .i64 x).wf = true) := Opens.int_ Try.underlying3 (by kernel_rfl)
def wfL3 (xs : List Int) : Prop := xs.length ≤ maxLen ∧ ∀ x ∈ xs, (Lit.int .i64 x).wf = true
theorem qhx : Opens Try.prog 42 (Kd.slice 3 (Kd.int .i64)) wfL3 := Opens.qfo Try.underlying42 (by kernel_rfl) opens3
def wf50 (x : S50) : Prop := True ∧ wfL159 x.f1 ∧ wfL9 x.f2 ∧ wfL3 x.f3
set_option maxRecDepth 100000 in
theorem opens50 : Opens Try.prog 50 k50 wf50 := by
 refine ⟨by kernel_rfl, fun {H enc w base spare held fuel cs x} h => ?_⟩
 obtain ⟨xs, n, _, _, hl, hlen, hf⟩ := DataW.trod_struct Try.underlying50 h
 have hl' : cs.length = 4 := hl.trans (by kernel_rfl)
 match cs, hl', xs, hlen with
 | [c0, c1, c2, c3], _, [y0, y1, y2, y3], _ =>
  obtain ⟨v0, g0, w0⟩ := opens4.2 (by simpa [show Try.prog.cellsOf 4 = 1 from by kernel_rfl] using hf 0 _ rfl)
  obtain ⟨v1, g1, w1⟩ := opens47.2 (by simpa [show Try.prog.cellsOf 47 = 1 from by kernel_rfl] using hf 1 _ rfl)
  obtain ⟨v2, g2, w2⟩ := opens48.2 (by simpa [show Try.prog.cellsOf 48 = 1 from by kernel_rfl] using hf 2 _ rfl)
  obtain ⟨v3, g3, w3⟩ := qhx.2 (by simpa [show Try.prog.cellsOf 42 = 1 from by kernel_rfl] using hf 3 _ rfl)
  exact ⟨(⟨v0, v1, v2, v3⟩ : S50), ⟨[c0], [c1, c2, c3], rfl, g0, ⟨[c1], [c2, c3], rfl, g1, ⟨[c2], [c3], rfl, g2, g3⟩⟩⟩, ⟨w0, w1, w2, w3⟩⟩
def wfL50 (xs : List (S50)) : Prop := xs.length ≤ maxLen ∧ ∀ x ∈ xs, wf50 x
theorem opens22 : Opens Try.prog 22 (Kd.slice 50 k50) wfL50 := Opens.qfo Try.underlying22 (by kernel_rfl) opens50
def wf24 (x : S24) : Prop := wfL50 x.f0
set_option maxRecDepth 100000 in
theorem opens24 : Opens Try.prog 24 k24 wf24 := by
 refine ⟨by kernel_rfl, fun {H enc w base spare held fuel cs x} h => ?_⟩
 obtain ⟨xs, n, _, _, hl, hlen, hf⟩ := DataW.trod_struct Try.underlying24 h
 have hl' : cs.length = 1 := hl.trans (by kernel_rfl)
 match cs, hl', xs, hlen with
 | [c0], _, [y0], _ =>
  obtain ⟨v0, g0, w0⟩ := opens22.2 (by simpa [show Try.prog.cellsOf 22 = 1 from by kernel_rfl] using hf 0 _ rfl)
  exact ⟨(⟨v0⟩ : S24), g0, w0⟩
def qbu.Pure : Prop := ∀ (l0_0 : List (S50)) (l1 : List Int), (wfL50 l0_0) → (wfL3 l1) → qbu.f l0_0 l1 = some true
end Go.Proofs.Ytenfomejccfkgaa.X
set_option linter.unusedSimpArgs false
set_option linter.unusedVariables false
namespace Go.Proofs.Ytenfomejccfkgaa.X.Pure
open Go.RowKit Go.Proofs.Ytenfomejccfkgaa.X Go.Proofs.YtenfomejccfkgaaW.PrintWords Go.Proofs.YtenfomejccfkgaaW.PrintLast
theorem FnExactCountRefs : qbu.Pure := by
 intro l rs hw hr
 unfold qbu.f
 exact if_pos ⟨⟨hw.1, fun y hy => ⟨trivial, (hw.2 y hy).2.1, (hw.2 y hy).2.2.1, (hw.2 y hy).2.2.2.1⟩⟩, hr.1⟩
end Go.Proofs.Ytenfomejccfkgaa.X.Pure
namespace Go.Proofs.Ytenfomejccfkgaa.fnExactCountRefs
open Go.ChangeShapes Go.WideShapes Go.ChangeAt Go.RowKit Go.Proofs.Ytenfomejccfkgaa.X Go.Proofs.YtenfomejccfkgaaW.PrintWords
open Go.ChangeMaps (open_string shut_string)
set_option linter.unusedVariables false
theorem own : ownKnob Try.prog.godebug = none := by kernel_rfl
theorem laidOut : laidOutB Try.prog = true := by kernel_rfl
set_option maxRecDepth 100000 in
theorem lifted (os : Os) (started : os.Started) (H : Type) (enc : TypeId × Value → H) :
  ReturnsInHanded {} Try.checked os 8 .any (Rows.fnExactCountRefsSpec.pre6 enc Try.prog Try.f8 Rows.fnExactCountRefsRow.domain false) (Rows.fnExactCountRefsSpec.post enc Try.prog Try.f8 false true false false) := by
 refine returnsInHanded_of_change_sized (C := Try.checked) own started (by kernel_rfl) Try.func8
  (ChangeSpec.witness6 (enc := enc) (C := Try.checked) false ⟨#[], #[.agg #[.slice none 0 0], .slice none 0 0], []⟩ 8 (by kernel_rfl) (by kernel_rfl) (by kernel_rfl) (by kernel_rfl)) ?_
 intro W base args ds gs before hval0 hW hcnd hsz0 _
 have hsz : (DataW.weightsEach Try.prog (Try.f8.params.toList ++ Rows.fnExactCountRefsSpec.plain.varTypes Try.prog) (ds ++ gs)).all (· ≤ reachBytes) = true := hsz0
 have hval : ∀ (j : Nat) t v, Try.f8.params[j]? = some t → args[j]? = some v → Value.okWide Try.prog W .any base t v := hval0
 have hW' := hW
 obtain ⟨p, q, hA0, hV, rfl, hfz, hnd⟩ := hW
 have hA : DataW.TrodAll enc Try.prog W 0 (fun _ => true) true Try.f8.params.toList args.toList ds p := hA0
 rw [Try.params8] at hA hval hsz
 obtain ⟨v0, vs0, d0, ds0, p0, q0, hargs, rfl, rfl, h0, r0⟩ := trodAll_cons hA
 obtain ⟨v1, vs1, d1, ds1, p1, q1, rfl, rfl, rfl, h1, r1⟩ := trodAll_cons r0
 obtain ⟨rfl, rfl, rfl⟩ := trodAll_nil r1
 obtain rfl : args = #[v0, v1] := by cases args; simp_all
 obtain ⟨rfl, rfl⟩ := trodVars_none hV
 have k0 := h0
 have lt0 : ∀ x ∈ p0, x.block < W.heap.size := by obtain ⟨m, hm⟩ := k0; exact DataW.trod_lt m _ _ _ hm
 obtain ⟨x0, cs0, rfl, hK0, hw0⟩ := Opens.agg_arg opens24 Try.underlying24 (hval 0 24 v0 rfl rfl) h0
 obtain ⟨A0_0, c0_0, rfl, hc0_0, hr0_0⟩ := k24_open hK0
 obtain ⟨l0_0⟩ := x0
 have k1 := h1
 have lt1 : ∀ x ∈ p1, x.block < W.heap.size := by obtain ⟨m, hm⟩ := k1; exact DataW.trod_lt m _ _ _ hm
 obtain ⟨A1, len1, c1, rfl⟩ := okWide_slice Try.underlying42 (hval 1 42 v1 rfl rfl)
 obtain ⟨l1, rfl, hc1, hr1, hw1⟩ := Opens.qhc qhx h1
 clear hA0 hval0 hsz0 hsz
 have hP := X.Pure.FnExactCountRefs l0_0 l1 hw0 hw1
 refine (qbu.calls A0_0 c0_0 l0_0 A1 c1 l1 true W hr0_0 hc0_0 hr1 hc1 hP).mono fun e W' hQ => ?_
 obtain ⟨he, bel0⟩ := hQ
 subst he
 have bel : Below W.heap.size W W' := bel0
 exact ⟨_, rfl, _, _, _, [], _, [], hW', trodAll_mk1 (shut_bool Try.underlying4 _), (trodAll_cons_mk (Below.trod laidOut (by kernel_rfl) (of_decide_eq_true (by kernel_rfl)) k0 bel lt0) (trodAll_cons_mk (Below.trod laidOut (by kernel_rfl) (of_decide_eq_true (by kernel_rfl)) k1 bel lt1) trodAll_mk0)), rfl, bel.frame _, fun h => by cases h⟩
theorem over : Rows.fnExactCountRefsRow.holds Try.pinned (OpenSpec.ofChange Rows.fnExactCountRefsSpec) :=
 OpenClaim.holds_of_wide 8 Try.f8 rfl rfl rfl rfl rfl rfl rfl ⟨rfl, rfl, rfl, rfl, rfl⟩ rfl rfl rfl rfl rfl (by kernel_rfl) Try.func8 (by kernel_rfl)
  (of_decide_eq_true (by kernel_rfl)) (by unfold Func.isWrapper; first | (rw [if_pos (by decide +kernel)]; kernel_rfl) | (rw [if_neg (by decide +kernel)]; exact ⟨rfl, rfl⟩))
  (fun os started H enc _ => lifted os started H enc)
theorem proved : Rows.FnExactCountRefsSaid := over
end Go.Proofs.Ytenfomejccfkgaa.fnExactCountRefs
namespace Go.Proofs.Ytenfomejccfkgaa
theorem fnExactCountRefs_holds : Rows.FnExactCountRefsSaid := fnExactCountRefs.proved
end Go.Proofs.Ytenfomejccfkgaa
