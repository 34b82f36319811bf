import Derived.Test.YtenfomejccfkgaaKFnExactNodeBytes3
import Derived.Test.YtenfomejccfkgaaKFnExactNodeBytes15
import Derived.Test.YtenfomejccfkgaaKFnExactNodeBytes17
import Derived.Test.YtenfomejccfkgaaKFnExactNodeBytes20
import Derived.Test.YtenfomejccfkgaaKFnExactNodeBytes21
import Derived.Test.YtenfomejccfkgaaKFnExactNodeBytes22
import Derived.Test.YtenfomejccfkgaaKFnExactNodeBytes23
import Derived.Test.YtenfomejccfkgaaKFnExactNodeBytes26
import Derived.Test.YtenfomejccfkgaaKFnExactNodeBytes27
import Derived.Test.YtenfomejccfkgaaKFnExactNodeBytes28
import Derived.LoopTactic
import Derived.WalkSpells
import Derived.Deep.RegionHeld3
namespace Go.Proofs.Ytenfomejccfkgaa.X
open Go.RowKit Go.Proofs.YtenfomejccfkgaaW.PrintWords Go.Proofs.YtenfomejccfkgaaW.PrintLast Go.Proofs.YtenfomejccfkgaaW.PrintMore
attribute [local go_sem] qaE qaF qaG qaz qaA qaS qaT qau qav qaB qaC
set_option linter.unusedVariables false
set_option linter.unusedSimpArgs false
set_option maxHeartbeats 8000000 in
set_option maxRecDepth 100000 in
theorem qdZ (kz : Nat) (z : Int) (b : Bool) (A1 : Option Addr) (c1 : Nat) (l1 : List S159) (A2 : Option Addr) (c2 : Nat) (l2 : List ByteArray) (A3 : Option Addr) (c3 : Nat) (l3 : List Int) (w : World) (hr1 : Kd.C k159 w A1 l1.length l1) (hc1 : l1.length ≤ c1) (hr2 : Kd.C Kd.string w A2 l2.length l2) (hc2 : l2.length ≤ c2) (hr3 : Kd.C (Kd.int .i64) w A3 l3.length l3) (hc3 : l3.length ≤ c3) (hz : qbG.f kz b l1 l2 l3 1048576 = some z) (hzn : z < 0) :
  Calls Try.prog 7 #[.agg #[.bool b, .slice A1 l1.length c1, .slice A2 l2.length c2, .slice A3 l3.length c3]] w fun e w' => e = .returned (.bool true) ∧ Below w.heap.size w w' := by
 have t1 : decide (z < 0) = true := decide_eq_true hzn
 have hu := Try.underlying56
 have hu2 := Try.underlying50
 have HR1 := Aside0.mk hr1
 have HR2 := Aside0.mk hr2
 have HR3 := Aside0.mk hr3
 have Ahz := Aside0.mk hz
 have HBi := Aside0.mk (Below.refl w.heap.size w)
 clear hr1 hr2 hr3 hz
 have HB1 := Aside0.mk (qac HBi.out (.cells #[.bool b, .slice A1 l1.length c1, .slice A2 l2.length c2, .slice A3 l3.length c3] 50 (0, 0)))
 have KA1 := Aside0.mk (qcz w (.cells #[.bool b, .slice A1 l1.length c1, .slice A2 l2.length c2, .slice A3 l3.length c3] 50 (0, 0)))
 have Z1_0 := Aside0.mk (show (w.alloc (.cells #[.bool b, .slice A1 l1.length c1, .slice A2 l2.length c2, .slice A3 l3.length c3] 50 (0, 0))).heap.size = (w).heap.size + 1 from by show ((w).heap.push _).size = _; rw [Array.size_push])
 clear HBi
 go_enter Try.func7, Try.ntmps7
 go_wp2_with fail
 refine (qbG.calls (hr0_1 := Kd.qaw HR1.out HB1.out) (hc0_1 := hc1) (hr0_2 := Kd.qaw HR2.out HB1.out) (hc0_2 := hc2) (hr0_3 := Kd.qaw HR3.out HB1.out) (hc0_3 := hc3) (h := Ahz.out)).mono ?_
 rintro e w2 ⟨rfl, hb2⟩
 have hb2 := (show Below ((w.alloc (.cells #[.bool b, .slice A1 l1.length c1, .slice A2 l2.length c2, .slice A3 l3.length c3] 50 (0, 0)))).heap.size ((w.alloc (.cells #[.bool b, .slice A1 l1.length c1, .slice A2 l2.length c2, .slice A3 l3.length c3] 50 (0, 0)))) w2 from by first | exact hb2 | exact hb2.below)
 have HB2 := Aside0.mk (qag HB1.out hb2)
 have KA2 := Aside0.mk (qas KA1.out hb2)
 have Z2_1 := Aside0.mk (show ((w.alloc (.cells #[.bool b, .slice A1 l1.length c1, .slice A2 l2.length c2, .slice A3 l3.length c3] 50 (0, 0)))).heap.size ≤ w2.heap.size from hb2.size)
 clear hb2 HB1 KA1
 have bA_0_2 := qae KA2.out 0
 have bA_1_2 := qae KA2.out 1
 have bA_2_2 := qae KA2.out 2
 have bA_3_2 := qae KA2.out 3
 simp only [List.getElem?_toArray, List.getElem?_cons_zero, List.getElem?_cons_succ] at bA_0_2 bA_1_2 bA_2_2 bA_3_2
 go_wp2_with fail
 clear bA_0_2 bA_1_2 bA_2_2 bA_3_2
 go_ret
 exact ⟨rfl, HB2.out⟩
set_option maxHeartbeats 8000000 in
set_option maxRecDepth 100000 in
theorem qef (kz kt ks keR keX kmX kh : Nat) (z : Int) (b : Bool) (A1 : Option Addr) (c1 : Nat) (l1 : List S159) (A2 : Option Addr) (c2 : Nat) (l2 : List ByteArray) (A3 : Option Addr) (c3 : Nat) (l3 : List Int) (x y1 : List S99) (y2 : List ByteArray) (y3 R : List Int) (code : Int) (mX : Int) (w : World) (hr1 : Kd.C k159 w A1 l1.length l1) (hc1 : l1.length ≤ c1) (hr2 : Kd.C Kd.string w A2 l2.length l2) (hc2 : l2.length ≤ c2) (hr3 : Kd.C (Kd.int .i64) w A3 l3.length l3) (hc3 : l3.length ≤ c3) (hz : qbG.f kz b l1 l2 l3 1048576 = some z) (hzn : ¬ z < 0)
  (ht : qbA.f kt b l1 l2 l3 = some (b, x, l2, l3)) (hsp : qbx.f ks b x l2 l3 = some (R, code)) (him : nodeR b x l2 l3 = (R, code)) (heR : qa7.f keR R R = some true) (heX : qbN.f keX b x l2 l3 b x l2 l3 = some true) (hmX : qbD.f kmX b x l2 l3 1 = some (mX, y1, y2, y3)) (hh : qaX.f kh (qbQ R 1) 1 = some (1 + (R.length : Int))) (hmXn : ¬ mX < 0) (hxl : l3.length ≤ 1000000000) (hRl : (R.length : Int) ≤ 4611686018427387000) :
  Calls Try.prog 7 #[.agg #[.bool b, .slice A1 l1.length c1, .slice A2 l2.length c2, .slice A3 l3.length c3]] w fun e w' => e = .returned (.bool true) ∧ Below w.heap.size w w' := by
 have t1 : decide (z < 0) = false := decide_eq_false hzn
 have t2 : decide (mX < 0) = false := decide_eq_false hmXn
 have t5 : (code != code) = false := bne_self_eq_false _
 obtain ⟨m, hm⟩ : ∃ m : Int, m = 1 + (R.length : Int) := ⟨_, rfl⟩
 rw [← hm] at hh
 have HM := Aside0.mk hm
 have t4 : decide (m < 0) = false := decide_eq_false (by omega)
 have t6 : (m != m) = false := bne_self_eq_false _
 have HRL := Aside0.mk hRl
 have HXL := Aside0.mk hxl
 clear hm hRl hxl
 have hu := Try.underlying56
 have hu2 := Try.underlying50
 have HR1 := Aside0.mk hr1
 have HR2 := Aside0.mk hr2
 have HR3 := Aside0.mk hr3
 have Ahz := Aside0.mk hz
 have Aht := Aside0.mk ht
 have Ahsp := Aside0.mk hsp
 have Ahim := Aside0.mk him
 have AheR := Aside0.mk heR
 have AheX := Aside0.mk heX
 have AhmX := Aside0.mk hmX
 have Ahh := Aside0.mk hh
 have HBi := Aside0.mk (Below.refl w.heap.size w)
 clear hr1 hr2 hr3 hz ht hsp him heR heX hmX hh
 have HB1 := Aside0.mk (qac HBi.out (.cells #[.bool b, .slice A1 l1.length c1, .slice A2 l2.length c2, .slice A3 l3.length c3] 50 (0, 0)))
 have KA1 := Aside0.mk (qcz w (.cells #[.bool b, .slice A1 l1.length c1, .slice A2 l2.length c2, .slice A3 l3.length c3] 50 (0, 0)))
 have Z1_0 := Aside0.mk (show (w.alloc (.cells #[.bool b, .slice A1 l1.length c1, .slice A2 l2.length c2, .slice A3 l3.length c3] 50 (0, 0))).heap.size = (w).heap.size + 1 from by show ((w).heap.push _).size = _; rw [Array.size_push])
 clear HBi
 go_enter Try.func7, Try.ntmps7
 go_wp2_with fail
 refine (qbG.calls (hr0_1 := Kd.qaw HR1.out HB1.out) (hc0_1 := hc1) (hr0_2 := Kd.qaw HR2.out HB1.out) (hc0_2 := hc2) (hr0_3 := Kd.qaw HR3.out HB1.out) (hc0_3 := hc3) (h := Ahz.out)).mono ?_
 rintro e w2 ⟨rfl, hb2⟩
 have hb2 := (show Below ((w.alloc (.cells #[.bool b, .slice A1 l1.length c1, .slice A2 l2.length c2, .slice A3 l3.length c3] 50 (0, 0)))).heap.size ((w.alloc (.cells #[.bool b, .slice A1 l1.length c1, .slice A2 l2.length c2, .slice A3 l3.length c3] 50 (0, 0)))) w2 from by first | exact hb2 | exact hb2.below)
 have HB2 := Aside0.mk (qag HB1.out hb2)
 have KA2 := Aside0.mk (qas KA1.out hb2)
 have Z2_1 := Aside0.mk (show ((w.alloc (.cells #[.bool b, .slice A1 l1.length c1, .slice A2 l2.length c2, .slice A3 l3.length c3] 50 (0, 0)))).heap.size ≤ w2.heap.size from hb2.size)
 clear hb2 HB1 KA1
 have bA_0_2 := qae KA2.out 0
 have bA_1_2 := qae KA2.out 1
 have bA_2_2 := qae KA2.out 2
 have bA_3_2 := qae KA2.out 3
 simp only [List.getElem?_toArray, List.getElem?_cons_zero, List.getElem?_cons_succ] at bA_0_2 bA_1_2 bA_2_2 bA_3_2
 go_wp2_with fail
 clear bA_0_2 bA_1_2 bA_2_2 bA_3_2
 refine (qbA.calls (hr0_1 := Kd.qaw HR1.out HB2.out) (hc0_1 := hc1) (hr0_2 := Kd.qaw HR2.out HB2.out) (hc0_2 := hc2) (hr0_3 := Kd.qaw HR3.out HB2.out) (hc0_3 := hc3) (h := Aht.out)).mono ?_
 rintro e w3 ⟨v3_0, v3_1, v3_2, rfl, ho3_0, ho3_1, ho3_2, hb3⟩
 have hb3 := (show Below (w2).heap.size (w2) w3 from by first | exact hb3 | exact hb3.below)
 obtain ⟨A3X01, c3X01, rfl, _, _⟩ := Kd.qbM ho3_0
 have nho3_0 := Aside0.mk (Kd.qbt (Kd.qbp (Kd.qbH ho3_0) (fun k hk => (show (w2).heap.size ≤ k ∧ k < w3.heap.size from ⟨hk.2.1, hk.2.2.1⟩))) HB2.out.size)
 obtain ⟨A3X02, c3X02, rfl, _, _⟩ := Kd.qbM ho3_1
 have nho3_1 := Aside0.mk (Kd.qbt (Kd.qbp (Kd.qbH ho3_1) (fun k hk => (show (w2).heap.size ≤ k ∧ k < w3.heap.size from ⟨hk.2.1, hk.2.2.1⟩))) HB2.out.size)
 obtain ⟨A3X03, c3X03, rfl, _, _⟩ := Kd.qbM ho3_2
 have nho3_2 := Aside0.mk (Kd.qbt (Kd.qbp (Kd.qbH ho3_2) (fun k hk => (show (w2).heap.size ≤ k ∧ k < w3.heap.size from ⟨hk.2.1, hk.2.2.1⟩))) HB2.out.size)
 have HB3 := Aside0.mk (qag HB2.out hb3)
 have KA3 := Aside0.mk (qas KA2.out hb3)
 have Z3_2 := Aside0.mk (show (w2).heap.size ≤ w3.heap.size from hb3.size)
 clear hb3 ho3_0 ho3_1 ho3_2 HB2 KA2
 have bA_0_3 := qae KA3.out 0
 have bA_1_3 := qae KA3.out 1
 have bA_2_3 := qae KA3.out 2
 have bA_3_3 := qae KA3.out 3
 simp only [List.getElem?_toArray, List.getElem?_cons_zero, List.getElem?_cons_succ] at bA_0_3 bA_1_3 bA_2_3 bA_3_3
 go_wp2_with fail
 clear bA_0_3 bA_1_3 bA_2_3 bA_3_3
 refine (qbx.calls (hr0_1 := (Kd.qa3 nho3_0.out).2.2) (hc0_1 := (Kd.qa3 nho3_0.out).2.1) (hr0_2 := (Kd.qa3 nho3_1.out).2.2) (hc0_2 := (Kd.qa3 nho3_1.out).2.1) (hr0_3 := (Kd.qa3 nho3_2.out).2.2) (hc0_3 := (Kd.qa3 nho3_2.out).2.1) (h := Ahsp.out)).mono ?_
 rintro e w4 ⟨v4_0, rfl, ho4_0, hb4⟩
 have hb4 := (show Below (w3).heap.size (w3) w4 from by first | exact hb4 | exact hb4.below)
 obtain ⟨A4W, c4W, rfl, _, _⟩ := Kd.qbM ho4_0
 have nho4_0 := Aside0.mk (Kd.qbt (Kd.qbp (Kd.qbH ho4_0) (fun k hk => (show (w3).heap.size ≤ k ∧ k < w4.heap.size from ⟨hk.2.1, hk.2.2.1⟩))) HB3.out.size)
 have HB4 := Aside0.mk (qag HB3.out hb4)
 have HX014 := Aside0.mk (Kd.qbe nho3_0.out hb4)
 have HX024 := Aside0.mk (Kd.qbe nho3_1.out hb4)
 have HX034 := Aside0.mk (Kd.qbe nho3_2.out hb4)
 have KA4 := Aside0.mk (qas KA3.out hb4)
 have Z4_3 := Aside0.mk (show (w3).heap.size ≤ w4.heap.size from hb4.size)
 clear hb4 ho4_0 HB3 nho3_0 nho3_1 nho3_2 KA3
 have bA_0_4 := qae KA4.out 0
 have bA_1_4 := qae KA4.out 1
 have bA_2_4 := qae KA4.out 2
 have bA_3_4 := qae KA4.out 3
 simp only [List.getElem?_toArray, List.getElem?_cons_zero, List.getElem?_cons_succ] at bA_0_4 bA_1_4 bA_2_4 bA_3_4
 go_wp2_with fail
 clear bA_0_4 bA_1_4 bA_2_4 bA_3_4
 refine (qbA.calls (hr0_1 := Kd.qaw HR1.out HB4.out) (hc0_1 := hc1) (hr0_2 := Kd.qaw HR2.out HB4.out) (hc0_2 := hc2) (hr0_3 := Kd.qaw HR3.out HB4.out) (hc0_3 := hc3) (h := Aht.out)).mono ?_
 rintro e w5 ⟨v5_0, v5_1, v5_2, rfl, ho5_0, ho5_1, ho5_2, hb5⟩
 have hb5 := (show Below (w4).heap.size (w4) w5 from by first | exact hb5 | exact hb5.below)
 obtain ⟨A5X1, c5X1, rfl, _, _⟩ := Kd.qbM ho5_0
 have nho5_0 := Aside0.mk (Kd.qbt (Kd.qbp (Kd.qbH ho5_0) (fun k hk => (show (w4).heap.size ≤ k ∧ k < w5.heap.size from ⟨hk.2.1, hk.2.2.1⟩))) HB4.out.size)
 obtain ⟨A5X2, c5X2, rfl, _, _⟩ := Kd.qbM ho5_1
 have nho5_1 := Aside0.mk (Kd.qbt (Kd.qbp (Kd.qbH ho5_1) (fun k hk => (show (w4).heap.size ≤ k ∧ k < w5.heap.size from ⟨hk.2.1, hk.2.2.1⟩))) HB4.out.size)
 obtain ⟨A5X3, c5X3, rfl, _, _⟩ := Kd.qbM ho5_2
 have nho5_2 := Aside0.mk (Kd.qbt (Kd.qbp (Kd.qbH ho5_2) (fun k hk => (show (w4).heap.size ≤ k ∧ k < w5.heap.size from ⟨hk.2.1, hk.2.2.1⟩))) HB4.out.size)
 have HB5 := Aside0.mk (qag HB4.out hb5)
 have HW5 := Aside0.mk (Kd.qbe nho4_0.out hb5)
 have KA5 := Aside0.mk (qas KA4.out hb5)
 have Z5_4 := Aside0.mk (show (w4).heap.size ≤ w5.heap.size from hb5.size)
 clear hb5 ho5_0 ho5_1 ho5_2 HB4 nho4_0 KA4
 have HB6 := Aside0.mk (qac HB5.out (.cells #[.bool b, .slice A5X1 x.length c5X1, .slice A5X2 l2.length c5X2, .slice A5X3 l3.length c5X3] 56 (0, 0)))
 have HW6 := Aside0.mk (Kd.qaY HW5.out (.cells #[.bool b, .slice A5X1 x.length c5X1, .slice A5X2 l2.length c5X2, .slice A5X3 l3.length c5X3] 56 (0, 0)))
 have HX16 := Aside0.mk (Kd.qaY nho5_0.out (.cells #[.bool b, .slice A5X1 x.length c5X1, .slice A5X2 l2.length c5X2, .slice A5X3 l3.length c5X3] 56 (0, 0)))
 have HX26 := Aside0.mk (Kd.qaY nho5_1.out (.cells #[.bool b, .slice A5X1 x.length c5X1, .slice A5X2 l2.length c5X2, .slice A5X3 l3.length c5X3] 56 (0, 0)))
 have HX36 := Aside0.mk (Kd.qaY nho5_2.out (.cells #[.bool b, .slice A5X1 x.length c5X1, .slice A5X2 l2.length c5X2, .slice A5X3 l3.length c5X3] 56 (0, 0)))
 have KA6 := Aside0.mk (qak KA5.out (.cells #[.bool b, .slice A5X1 x.length c5X1, .slice A5X2 l2.length c5X2, .slice A5X3 l3.length c5X3] 56 (0, 0)))
 have KB6 := Aside0.mk (qcz w5 (.cells #[.bool b, .slice A5X1 x.length c5X1, .slice A5X2 l2.length c5X2, .slice A5X3 l3.length c5X3] 56 (0, 0)))
 have Z6_5 := Aside0.mk (show (w5.alloc (.cells #[.bool b, .slice A5X1 x.length c5X1, .slice A5X2 l2.length c5X2, .slice A5X3 l3.length c5X3] 56 (0, 0))).heap.size = (w5).heap.size + 1 from by show ((w5).heap.push _).size = _; rw [Array.size_push])
 clear HB5 HW5 nho5_0 nho5_1 nho5_2 KA5
 have bA_0_6 := qae KA6.out 0
 have bA_1_6 := qae KA6.out 1
 have bA_2_6 := qae KA6.out 2
 have bA_3_6 := qae KA6.out 3
 have bB_0_6 := qae KB6.out 0
 have bB_1_6 := qae KB6.out 1
 have bB_2_6 := qae KB6.out 2
 have bB_3_6 := qae KB6.out 3
 simp only [List.getElem?_toArray, List.getElem?_cons_zero, List.getElem?_cons_succ] at bA_0_6 bA_1_6 bA_2_6 bA_3_6 bB_0_6 bB_1_6 bB_2_6 bB_3_6
 go_wp2_with fail
 clear bA_0_6 bA_1_6 bA_2_6 bA_3_6 bB_0_6 bB_1_6 bB_2_6 bB_3_6
 refine (qcI b A5X1 c5X1 x A5X2 c5X2 l2 A5X3 c5X3 l3 R code _ (Kd.qa3 HX16.out).2.2 (Kd.qa3 HX16.out).2.1 (Kd.qa3 HX26.out).2.2 (Kd.qa3 HX26.out).2.1 (Kd.qa3 HX36.out).2.2 (Kd.qa3 HX36.out).2.1 HXL.out Ahim.out).mono ?_
 rintro e w7 ⟨v7_0, rfl, ho7_0, hb7⟩
 have hb7 := (show Below ((w5.alloc (.cells #[.bool b, .slice A5X1 x.length c5X1, .slice A5X2 l2.length c5X2, .slice A5X3 l3.length c5X3] 56 (0, 0)))).heap.size ((w5.alloc (.cells #[.bool b, .slice A5X1 x.length c5X1, .slice A5X2 l2.length c5X2, .slice A5X3 l3.length c5X3] 56 (0, 0)))) w7 from by first | exact hb7 | exact hb7.below)
 obtain ⟨A7G, c7G, rfl, _, _⟩ := BR.reads ho7_0
 have nho7_0 := Aside0.mk (BR.lower (BR.mono ho7_0 (fun k _ h1 h2 => (show ((w5.alloc (.cells #[.bool b, .slice A5X1 x.length c5X1, .slice A5X2 l2.length c5X2, .slice A5X3 l3.length c5X3] 56 (0, 0)))).heap.size ≤ k ∧ k < w7.heap.size from ⟨h1, h2⟩))) HB6.out.size)
 have HB7 := Aside0.mk (qag HB6.out hb7)
 have HW7 := Aside0.mk (Kd.qbe HW6.out hb7)
 have HX17 := Aside0.mk (Kd.qbe HX16.out hb7)
 have HX27 := Aside0.mk (Kd.qbe HX26.out hb7)
 have HX37 := Aside0.mk (Kd.qbe HX36.out hb7)
 have KA7 := Aside0.mk (qas KA6.out hb7)
 have KB7 := Aside0.mk (qas KB6.out hb7)
 have Z7_6 := Aside0.mk (show ((w5.alloc (.cells #[.bool b, .slice A5X1 x.length c5X1, .slice A5X2 l2.length c5X2, .slice A5X3 l3.length c5X3] 56 (0, 0)))).heap.size ≤ w7.heap.size from hb7.size)
 clear hb7 ho7_0 HB6 HW6 HX16 HX26 HX36 KA6 KB6
 have bA_0_7 := qae KA7.out 0
 have bA_1_7 := qae KA7.out 1
 have bA_2_7 := qae KA7.out 2
 have bA_3_7 := qae KA7.out 3
 have bB_0_7 := qae KB7.out 0
 have bB_1_7 := qae KB7.out 1
 have bB_2_7 := qae KB7.out 2
 have bB_3_7 := qae KB7.out 3
 simp only [List.getElem?_toArray, List.getElem?_cons_zero, List.getElem?_cons_succ] at bA_0_7 bA_1_7 bA_2_7 bA_3_7 bB_0_7 bB_1_7 bB_2_7 bB_3_7
 go_wp2_with fail
 clear bA_0_7 bA_1_7 bA_2_7 bA_3_7 bB_0_7 bB_1_7 bB_2_7 bB_3_7
 refine (qa7.calls (hr0 := (BR.qcH nho7_0.out).2.2) (hc0 := (BR.qcH nho7_0.out).2.1) (hr1 := (Kd.qa3 HW7.out).2.2) (hc1 := (Kd.qa3 HW7.out).2.1) (h := AheR.out)).mono ?_
 rintro e w8 ⟨rfl, hb8⟩
 have hb8 := (show Below (w7).heap.size (w7) w8 from by first | exact hb8 | exact hb8.below)
 have HB8 := Aside0.mk (qag HB7.out hb8)
 have HW8 := Aside0.mk (Kd.qbe HW7.out hb8)
 have HX18 := Aside0.mk (Kd.qbe HX17.out hb8)
 have HX28 := Aside0.mk (Kd.qbe HX27.out hb8)
 have HX38 := Aside0.mk (Kd.qbe HX37.out hb8)
 have HG8 := Aside0.mk (BR.below nho7_0.out hb8)
 have KA8 := Aside0.mk (qas KA7.out hb8)
 have KB8 := Aside0.mk (qas KB7.out hb8)
 have Z8_7 := Aside0.mk (show (w7).heap.size ≤ w8.heap.size from hb8.size)
 clear hb8 HB7 HW7 HX17 HX27 HX37 nho7_0 KA7 KB7
 have bA_0_8 := qae KA8.out 0
 have bA_1_8 := qae KA8.out 1
 have bA_2_8 := qae KA8.out 2
 have bA_3_8 := qae KA8.out 3
 have bB_0_8 := qae KB8.out 0
 have bB_1_8 := qae KB8.out 1
 have bB_2_8 := qae KB8.out 2
 have bB_3_8 := qae KB8.out 3
 simp only [List.getElem?_toArray, List.getElem?_cons_zero, List.getElem?_cons_succ] at bA_0_8 bA_1_8 bA_2_8 bA_3_8 bB_0_8 bB_1_8 bB_2_8 bB_3_8
 go_wp2_with fail
 have HB9 := Aside0.mk (qcc HB8.out)
 have HW9 := Aside0.mk (Kd.qa9 HW8.out)
 have HX19 := Aside0.mk (Kd.qa9 HX18.out)
 have HX29 := Aside0.mk (Kd.qa9 HX28.out)
 have HX39 := Aside0.mk (Kd.qa9 HX38.out)
 have HG9 := Aside0.mk (BR.drew HG8.out)
 have KA9 := Aside0.mk (qam KA8.out)
 have KB9 := Aside0.mk (qam KB8.out)
 have Z9_8 := Aside0.mk (show (w8).drew.heap.size = (w8).heap.size from rfl)
 go_region_held3 (fun W => W.cell? ⟨(w).heap.size, 0, none⟩ = some (.bool b) ∧ W.cell? ⟨(w).heap.size, 1, none⟩ = some (.slice A1 l1.length c1) ∧ W.cell? ⟨(w).heap.size, 2, none⟩ = some (.slice A2 l2.length c2) ∧ W.cell? ⟨(w).heap.size, 3, none⟩ = some (.slice A3 l3.length c3) ∧ W.cell? ⟨(w5).heap.size, 0, none⟩ = some (.bool b) ∧ W.cell? ⟨(w5).heap.size, 1, none⟩ = some (.slice A5X1 x.length c5X1) ∧ W.cell? ⟨(w5).heap.size, 2, none⟩ = some (.slice A5X2 l2.length c5X2) ∧ W.cell? ⟨(w5).heap.size, 3, none⟩ = some (.slice A5X3 l3.length c5X3))
  (first | exact ⟨bA_0_8, bA_1_8, bA_2_8, bA_3_8, bB_0_8, bB_1_8, bB_2_8, bB_3_8⟩ | exact ⟨dA_0_10, dA_1_10, dA_2_10, dA_3_10, dB_0_10, dB_1_10, dB_2_10, dB_3_10⟩ | exact ⟨dA_0_11, dA_1_11, dA_2_11, dA_3_11, dB_0_11, dB_1_11, dB_2_11, dB_3_11⟩)
  (first
   | (go_at_call 33; refine (qbA.calls (hr0_1 := Kd.qaw HR1.out HB9.out) (hc0_1 := hc1) (hr0_2 := Kd.qaw HR2.out HB9.out) (hc0_2 := hc2) (hr0_3 := Kd.qaw HR3.out HB9.out) (hc0_3 := hc3) (h := Aht.out)).mono ?_; rintro e w10 ⟨v10_0, v10_1, v10_2, rfl, ho10_0, ho10_1, ho10_2, hb10⟩; have hb10 := (show Below ((w8).drew).heap.size ((w8).drew) w10 from by first | exact hb10 | exact hb10.below); obtain ⟨A10T1, c10T1, rfl, _, _⟩ := Kd.qbM ho10_0; have nho10_0 := Aside0.mk (Kd.qbt (Kd.qbp (Kd.qbH ho10_0) (fun k hk => (show ((w8).drew).heap.size ≤ k ∧ k < w10.heap.size from ⟨hk.2.1, hk.2.2.1⟩))) HB9.out.size); obtain ⟨A10T2, c10T2, rfl, _, _⟩ := Kd.qbM ho10_1; have nho10_1 := Aside0.mk (Kd.qbt (Kd.qbp (Kd.qbH ho10_1) (fun k hk => (show ((w8).drew).heap.size ≤ k ∧ k < w10.heap.size from ⟨hk.2.1, hk.2.2.1⟩))) HB9.out.size); obtain ⟨A10T3, c10T3, rfl, _, _⟩ := Kd.qbM ho10_2; have nho10_2 := Aside0.mk (Kd.qbt (Kd.qbp (Kd.qbH ho10_2) (fun k hk => (show ((w8).drew).heap.size ≤ k ∧ k < w10.heap.size from ⟨hk.2.1, hk.2.2.1⟩))) HB9.out.size); have HB10 := Aside0.mk (qag HB9.out hb10); have HW10 := Aside0.mk (Kd.qbe HW9.out hb10); have HX110 := Aside0.mk (Kd.qbe HX19.out hb10); have HX210 := Aside0.mk (Kd.qbe HX29.out hb10); have HX310 := Aside0.mk (Kd.qbe HX39.out hb10); have HG10 := Aside0.mk (BR.below HG9.out hb10); have KA10 := Aside0.mk (qas KA9.out hb10); have KB10 := Aside0.mk (qas KB9.out hb10); have Z10_9 := Aside0.mk (show ((w8).drew).heap.size ≤ w10.heap.size from hb10.size); have dA_0_10 := qae KA10.out 0; have dA_1_10 := qae KA10.out 1; have dA_2_10 := qae KA10.out 2; have dA_3_10 := qae KA10.out 3; have dB_0_10 := qae KB10.out 0; have dB_1_10 := qae KB10.out 1; have dB_2_10 := qae KB10.out 2; have dB_3_10 := qae KB10.out 3; simp only [List.getElem?_toArray, List.getElem?_cons_zero, List.getElem?_cons_succ] at dA_0_10 dA_1_10 dA_2_10 dA_3_10 dB_0_10 dB_1_10 dB_2_10 dB_3_10; dsimp only)
   | (go_at_call 36; refine (qbN.calls (hr0_1 := (Kd.qa3 HX110.out).2.2) (hc0_1 := (Kd.qa3 HX110.out).2.1) (hr0_2 := (Kd.qa3 HX210.out).2.2) (hc0_2 := (Kd.qa3 HX210.out).2.1) (hr0_3 := (Kd.qa3 HX310.out).2.2) (hc0_3 := (Kd.qa3 HX310.out).2.1) (hr1_1 := (Kd.qa3 nho10_0.out).2.2) (hc1_1 := (Kd.qa3 nho10_0.out).2.1) (hr1_2 := (Kd.qa3 nho10_1.out).2.2) (hc1_2 := (Kd.qa3 nho10_1.out).2.1) (hr1_3 := (Kd.qa3 nho10_2.out).2.2) (hc1_3 := (Kd.qa3 nho10_2.out).2.1) (h := AheX.out)).mono ?_; rintro e w11 ⟨rfl, hb11⟩; have hb11 := (show Below (w10).heap.size (w10) w11 from by first | exact hb11 | exact hb11.below); have HB11 := Aside0.mk (qag HB10.out hb11); have HW11 := Aside0.mk (Kd.qbe HW10.out hb11); have HX111 := Aside0.mk (Kd.qbe HX110.out hb11); have HX211 := Aside0.mk (Kd.qbe HX210.out hb11); have HX311 := Aside0.mk (Kd.qbe HX310.out hb11); have HG11 := Aside0.mk (BR.below HG10.out hb11); have HT111 := Aside0.mk (Kd.qbe nho10_0.out hb11); have HT211 := Aside0.mk (Kd.qbe nho10_1.out hb11); have HT311 := Aside0.mk (Kd.qbe nho10_2.out hb11); have KA11 := Aside0.mk (qas KA10.out hb11); have KB11 := Aside0.mk (qas KB10.out hb11); have Z11_10 := Aside0.mk (show (w10).heap.size ≤ w11.heap.size from hb11.size); have dA_0_11 := qae KA11.out 0; have dA_1_11 := qae KA11.out 1; have dA_2_11 := qae KA11.out 2; have dA_3_11 := qae KA11.out 3; have dB_0_11 := qae KB11.out 0; have dB_1_11 := qae KB11.out 1; have dB_2_11 := qae KB11.out 2; have dB_3_11 := qae KB11.out 3; simp only [List.getElem?_toArray, List.getElem?_cons_zero, List.getElem?_cons_succ] at dA_0_11 dA_1_11 dA_2_11 dA_3_11 dB_0_11 dB_1_11 dB_2_11 dB_3_11; dsimp only)
   | fail)
 clear bA_0_8 bA_1_8 bA_2_8 bA_3_8 bB_0_8 bB_1_8 bB_2_8 bB_3_8 dA_0_10 dA_1_10 dA_2_10 dA_3_10 dB_0_10 dB_1_10 dB_2_10 dB_3_10
 have bA_0_11 := qae KA11.out 0
 have bA_1_11 := qae KA11.out 1
 have bA_2_11 := qae KA11.out 2
 have bA_3_11 := qae KA11.out 3
 have bB_0_11 := qae KB11.out 0
 have bB_1_11 := qae KB11.out 1
 have bB_2_11 := qae KB11.out 2
 have bB_3_11 := qae KB11.out 3
 simp only [List.getElem?_toArray, List.getElem?_cons_zero, List.getElem?_cons_succ] at bA_0_11 bA_1_11 bA_2_11 bA_3_11 bB_0_11 bB_1_11 bB_2_11 bB_3_11
 go_wp2_with fail
 clear bA_0_11 bA_1_11 bA_2_11 bA_3_11 bB_0_11 bB_1_11 bB_2_11 bB_3_11
 have ZA12 := Aside0.mk (And.intro Z1_0.out (And.intro Z2_1.out (And.intro Z3_2.out (And.intro Z4_3.out (And.intro Z5_4.out (And.intro Z6_5.out (And.intro Z7_6.out (And.intro Z8_7.out (And.intro Z9_8.out (And.intro Z10_9.out (Z11_10.out)))))))))))
 refine (qbD.calls (w0 := w) (hB := HB11.out) (ho0_1 := HX111.out) (ho0_2 := HX211.out) (ho0_3 := HX311.out) (h := AhmX.out)).mono ?_
 rintro e w12 ⟨rfl, _, _, _, hb12, hk12⟩
 have HB12 := Aside0.mk (hb12)
 have HW12 := Aside0.mk (Kd.qgh HW11.out hk12 (fun k hk h => (by have h1 := hk.1; have h2 := hk.2; have z := ZA12.out; rcases h with h | h | h <;> (have h3 := h.1; have h4 := h.2; omega))))
 have HG12 := Aside0.mk (BR.kept HG11.out hk12 (fun k hk h => (by have h1 := hk.1; have h2 := hk.2; have z := ZA12.out; rcases h with h | h | h <;> (have h3 := h.1; have h4 := h.2; omega))))
 have KA12 := Aside0.mk (qcT KA11.out hk12 (fun h => (by have z := ZA12.out; rcases h with h | h | h <;> (have h3 := h.1; have h4 := h.2; omega))))
 have KB12 := Aside0.mk (qcT KB11.out hk12 (fun h => (by have z := ZA12.out; rcases h with h | h | h <;> (have h3 := h.1; have h4 := h.2; omega))))
 have Z12_11 := Aside0.mk (show (w11).heap.size ≤ w12.heap.size from hk12.1)
 clear hb12 hk12 HB11 HW11 HG11 KA11 KB11 HX111 HX211 HX311
 have bA_0_12 := qae KA12.out 0
 have bA_1_12 := qae KA12.out 1
 have bA_2_12 := qae KA12.out 2
 have bA_3_12 := qae KA12.out 3
 simp only [List.getElem?_toArray, List.getElem?_cons_zero, List.getElem?_cons_succ] at bA_0_12 bA_1_12 bA_2_12 bA_3_12
 go_wp2_with fail
 clear bA_0_12 bA_1_12 bA_2_12 bA_3_12
 refine (qa7.calls (hr0 := (BR.qcH HG12.out).2.2) (hc0 := (BR.qcH HG12.out).2.1) (hr1 := (Kd.qa3 HW12.out).2.2) (hc1 := (Kd.qa3 HW12.out).2.1) (h := AheR.out)).mono ?_
 rintro e w13 ⟨rfl, hb13⟩
 have hb13 := (show Below (w12).heap.size (w12) w13 from by first | exact hb13 | exact hb13.below)
 have HB13 := Aside0.mk (qag HB12.out hb13)
 have HW13 := Aside0.mk (Kd.qbe HW12.out hb13)
 have HG13 := Aside0.mk (BR.below HG12.out hb13)
 have KA13 := Aside0.mk (qas KA12.out hb13)
 have Z13_12 := Aside0.mk (show (w12).heap.size ≤ w13.heap.size from hb13.size)
 clear hb13 HB12 HW12 HG12 KA12
 have bA_0_13 := qae KA13.out 0
 have bA_1_13 := qae KA13.out 1
 have bA_2_13 := qae KA13.out 2
 have bA_3_13 := qae KA13.out 3
 simp only [List.getElem?_toArray, List.getElem?_cons_zero, List.getElem?_cons_succ] at bA_0_13 bA_1_13 bA_2_13 bA_3_13
 go_wp2_with fail
 clear bA_0_13 bA_1_13 bA_2_13 bA_3_13
 have ZA14 := Aside0.mk (And.intro Z1_0.out (And.intro Z2_1.out (And.intro Z3_2.out (And.intro Z4_3.out (And.intro Z5_4.out (And.intro Z6_5.out (And.intro Z7_6.out (And.intro Z8_7.out (And.intro Z9_8.out (And.intro Z10_9.out (And.intro Z11_10.out (And.intro Z12_11.out (Z13_12.out)))))))))))))
 refine (qeW _ A7G c7G R 1 w w13 HB13.out HG13.out (by omega) (by have := HRL.out; omega)).mono ?_
 rintro e w14 ⟨rfl, hr14, hb14, hk14⟩
 have hr14 := Aside0.mk hr14
 have HB14 := Aside0.mk (hb14)
 have HW14 := Aside0.mk (Kd.qgh HW13.out hk14 (fun k hk h => (by have h1 := hk.1; have h2 := hk.2; have h3 := h.1; have h4 := h.2; have z := ZA14.out; omega)))
 have KA14 := Aside0.mk (qcT KA13.out hk14 (fun h => (by have h3 := h.1; have h4 := h.2; have z := ZA14.out; omega)))
 have Z14_13 := Aside0.mk (show (w13).heap.size ≤ w14.heap.size from hk14.1)
 clear hb14 hk14 HB13 HW13 KA13 HG13
 rw [← HM.out]
 have bA_0_14 := qae KA14.out 0
 have bA_1_14 := qae KA14.out 1
 have bA_2_14 := qae KA14.out 2
 have bA_3_14 := qae KA14.out 3
 simp only [List.getElem?_toArray, List.getElem?_cons_zero, List.getElem?_cons_succ] at bA_0_14 bA_1_14 bA_2_14 bA_3_14
 go_wp2_with fail
 clear bA_0_14 bA_1_14 bA_2_14 bA_3_14
 have hl14 := (BR.qcH hr14.out).1
 have hh14 := qaX.calls (A0 := A7G) (c0 := c7G) (hr0 := by exact (BR.qcH hr14.out).2.2) (hc0 := by rw [← hl14]; exact (BR.qcH hr14.out).2.1) (h := Ahh.out)
 rw [← hl14] at hh14
 clear hl14
 refine (hh14).mono ?_
 rintro e w15 ⟨rfl, hb15⟩
 have hb15 := (show Below (w14).heap.size (w14) w15 from by first | exact hb15 | exact hb15.below)
 have HB15 := Aside0.mk (qag HB14.out hb15)
 have HW15 := Aside0.mk (Kd.qbe HW14.out hb15)
 have HG15 := Aside0.mk (BR.below hr14.out hb15)
 have KA15 := Aside0.mk (qas KA14.out hb15)
 have Z15_14 := Aside0.mk (show (w14).heap.size ≤ w15.heap.size from hb15.size)
 clear hb15 HB14 HW14 hr14 KA14
 clear hh14
 have bA_0_15 := qae KA15.out 0
 have bA_1_15 := qae KA15.out 1
 have bA_2_15 := qae KA15.out 2
 have bA_3_15 := qae KA15.out 3
 simp only [List.getElem?_toArray, List.getElem?_cons_zero, List.getElem?_cons_succ] at bA_0_15 bA_1_15 bA_2_15 bA_3_15
 go_wp2_with fail
 clear bA_0_15 bA_1_15 bA_2_15 bA_3_15
 refine (qbA.calls (hr0_1 := Kd.qaw HR1.out HB15.out) (hc0_1 := hc1) (hr0_2 := Kd.qaw HR2.out HB15.out) (hc0_2 := hc2) (hr0_3 := Kd.qaw HR3.out HB15.out) (hc0_3 := hc3) (h := Aht.out)).mono ?_
 rintro e w16 ⟨v16_0, v16_1, v16_2, rfl, ho16_0, ho16_1, ho16_2, hb16⟩
 have hb16 := (show Below (w15).heap.size (w15) w16 from by first | exact hb16 | exact hb16.below)
 obtain ⟨A16U1, c16U1, rfl, _, _⟩ := Kd.qbM ho16_0
 have nho16_0 := Aside0.mk (Kd.qbt (Kd.qbp (Kd.qbH ho16_0) (fun k hk => (show (w15).heap.size ≤ k ∧ k < w16.heap.size from ⟨hk.2.1, hk.2.2.1⟩))) HB15.out.size)
 obtain ⟨A16U2, c16U2, rfl, _, _⟩ := Kd.qbM ho16_1
 have nho16_1 := Aside0.mk (Kd.qbt (Kd.qbp (Kd.qbH ho16_1) (fun k hk => (show (w15).heap.size ≤ k ∧ k < w16.heap.size from ⟨hk.2.1, hk.2.2.1⟩))) HB15.out.size)
 obtain ⟨A16U3, c16U3, rfl, _, _⟩ := Kd.qbM ho16_2
 have nho16_2 := Aside0.mk (Kd.qbt (Kd.qbp (Kd.qbH ho16_2) (fun k hk => (show (w15).heap.size ≤ k ∧ k < w16.heap.size from ⟨hk.2.1, hk.2.2.1⟩))) HB15.out.size)
 have HB16 := Aside0.mk (qag HB15.out hb16)
 have HW16 := Aside0.mk (Kd.qbe HW15.out hb16)
 have HG16 := Aside0.mk (BR.below HG15.out hb16)
 have KA16 := Aside0.mk (qas KA15.out hb16)
 have Z16_15 := Aside0.mk (show (w15).heap.size ≤ w16.heap.size from hb16.size)
 clear hb16 ho16_0 ho16_1 ho16_2 HB15 HW15 HG15 KA15
 have bA_0_16 := qae KA16.out 0
 have bA_1_16 := qae KA16.out 1
 have bA_2_16 := qae KA16.out 2
 have bA_3_16 := qae KA16.out 3
 simp only [List.getElem?_toArray, List.getElem?_cons_zero, List.getElem?_cons_succ] at bA_0_16 bA_1_16 bA_2_16 bA_3_16
 go_wp2_with fail
 clear bA_0_16 bA_1_16 bA_2_16 bA_3_16
 refine (qcI b A16U1 c16U1 x A16U2 c16U2 l2 A16U3 c16U3 l3 R code _ (Kd.qa3 nho16_0.out).2.2 (Kd.qa3 nho16_0.out).2.1 (Kd.qa3 nho16_1.out).2.2 (Kd.qa3 nho16_1.out).2.1 (Kd.qa3 nho16_2.out).2.2 (Kd.qa3 nho16_2.out).2.1 HXL.out Ahim.out).mono ?_
 rintro e w17 ⟨v17_0, rfl, ho17_0, hb17⟩
 have hb17 := (show Below (w16).heap.size (w16) w17 from by first | exact hb17 | exact hb17.below)
 obtain ⟨A17Q, c17Q, rfl, _, _⟩ := BR.reads ho17_0
 have nho17_0 := Aside0.mk (BR.lower (BR.mono ho17_0 (fun k _ h1 h2 => (show (w16).heap.size ≤ k ∧ k < w17.heap.size from ⟨h1, h2⟩))) HB16.out.size)
 have HB17 := Aside0.mk (qag HB16.out hb17)
 have HW17 := Aside0.mk (Kd.qbe HW16.out hb17)
 have HG17 := Aside0.mk (BR.below HG16.out hb17)
 have HU117 := Aside0.mk (Kd.qbe nho16_0.out hb17)
 have HU217 := Aside0.mk (Kd.qbe nho16_1.out hb17)
 have HU317 := Aside0.mk (Kd.qbe nho16_2.out hb17)
 have KA17 := Aside0.mk (qas KA16.out hb17)
 have Z17_16 := Aside0.mk (show (w16).heap.size ≤ w17.heap.size from hb17.size)
 clear hb17 ho17_0 HB16 HW16 HG16 nho16_0 nho16_1 nho16_2 KA16
 have bA_0_17 := qae KA17.out 0
 have bA_1_17 := qae KA17.out 1
 have bA_2_17 := qae KA17.out 2
 have bA_3_17 := qae KA17.out 3
 simp only [List.getElem?_toArray, List.getElem?_cons_zero, List.getElem?_cons_succ] at bA_0_17 bA_1_17 bA_2_17 bA_3_17
 go_wp2_with fail
 clear bA_0_17 bA_1_17 bA_2_17 bA_3_17
 refine (qa7.calls (hr0 := (BR.qcH nho17_0.out).2.2) (hc0 := (BR.qcH nho17_0.out).2.1) (hr1 := (Kd.qa3 HW17.out).2.2) (hc1 := (Kd.qa3 HW17.out).2.1) (h := AheR.out)).mono ?_
 rintro e w18 ⟨rfl, hb18⟩
 have hb18 := (show Below (w17).heap.size (w17) w18 from by first | exact hb18 | exact hb18.below)
 have HB18 := Aside0.mk (qag HB17.out hb18)
 have HW18 := Aside0.mk (Kd.qbe HW17.out hb18)
 have HG18 := Aside0.mk (BR.below HG17.out hb18)
 have HQ18 := Aside0.mk (BR.below nho17_0.out hb18)
 have KA18 := Aside0.mk (qas KA17.out hb18)
 have Z18_17 := Aside0.mk (show (w17).heap.size ≤ w18.heap.size from hb18.size)
 clear hb18 HB17 HW17 HG17 nho17_0 KA17
 have bA_0_18 := qae KA18.out 0
 have bA_1_18 := qae KA18.out 1
 have bA_2_18 := qae KA18.out 2
 have bA_3_18 := qae KA18.out 3
 simp only [List.getElem?_toArray, List.getElem?_cons_zero, List.getElem?_cons_succ] at bA_0_18 bA_1_18 bA_2_18 bA_3_18
 go_wp2_with fail
 clear bA_0_18 bA_1_18 bA_2_18 bA_3_18
 have hl18 := (BR.qcH HG18.out).1
 have hh18 := qaX.calls (A0 := A7G) (c0 := c7G) (hr0 := by exact (BR.qcH HG18.out).2.2) (hc0 := by rw [← hl18]; exact (BR.qcH HG18.out).2.1) (h := Ahh.out)
 rw [← hl18] at hh18
 clear hl18
 refine (hh18).mono ?_
 rintro e w19 ⟨rfl, hb19⟩
 have hb19 := (show Below (w18).heap.size (w18) w19 from by first | exact hb19 | exact hb19.below)
 have HB19 := Aside0.mk (qag HB18.out hb19)
 have HW19 := Aside0.mk (Kd.qbe HW18.out hb19)
 have HG19 := Aside0.mk (BR.below HG18.out hb19)
 have HQ19 := Aside0.mk (BR.below HQ18.out hb19)
 have KA19 := Aside0.mk (qas KA18.out hb19)
 have Z19_18 := Aside0.mk (show (w18).heap.size ≤ w19.heap.size from hb19.size)
 clear hb19 HB18 HW18 HG18 HQ18 KA18
 clear hh18
 have bA_0_19 := qae KA19.out 0
 have bA_1_19 := qae KA19.out 1
 have bA_2_19 := qae KA19.out 2
 have bA_3_19 := qae KA19.out 3
 simp only [List.getElem?_toArray, List.getElem?_cons_zero, List.getElem?_cons_succ] at bA_0_19 bA_1_19 bA_2_19 bA_3_19
 go_wp2_with fail
 clear bA_0_19 bA_1_19 bA_2_19 bA_3_19
 go_ret
 exact ⟨rfl, HB19.out⟩
open Classical in
noncomputable def qbo.f (a0_0 : Bool) (l0_1 : List S159) (l0_2 : List ByteArray) (l0_3 : List Int) : Option Bool := if wl50 ⟨a0_0, l0_1, l0_2, l0_3⟩ then some true else none
theorem qbo.calls (a0_0 : Bool) (A0_1 : Option Addr) (c0_1 : Nat) (l0_1 : List (S159)) (A0_2 : Option Addr) (c0_2 : Nat) (l0_2 : List ByteArray) (A0_3 : Option Addr) (c0_3 : Nat) (l0_3 : List Int) (r : Bool) (w : World) (hr0_1 : Kd.C k159 w A0_1 l0_1.length l0_1) (hc0_1 : l0_1.length ≤ c0_1) (hr0_2 : Kd.C Kd.string w A0_2 l0_2.length l0_2) (hc0_2 : l0_2.length ≤ c0_2) (hr0_3 : Kd.C (Kd.int .i64) w A0_3 l0_3.length l0_3) (hc0_3 : l0_3.length ≤ c0_3) (h : qbo.f a0_0 l0_1 l0_2 l0_3 = some r) :
  Calls Try.prog 7 #[.agg #[.bool a0_0, .slice A0_1 l0_1.length c0_1, .slice A0_2 l0_2.length c0_2, .slice A0_3 l0_3.length c0_3]] w fun e w' => e = .returned (.bool r) ∧ Below w.heap.size w w' := by
 unfold qbo.f at h
 by_cases hw : wl50 ⟨a0_0, l0_1, l0_2, l0_3⟩
 ·rw [if_pos hw] at h
  obtain rfl := Option.some.inj h
  clear h
  obtain ⟨z, hz, hq⟩ := sz_Node ⟨a0_0, l0_1, l0_2, l0_3⟩ hw 1048576 1048576 (by omega) (by omega) (by omega)
  obtain ⟨kz, hz⟩ := Ev.rounds hz
  by_cases hzn : z < 0
  ·exact qdZ kz z a0_0 A0_1 c0_1 l0_1 A0_2 c0_2 l0_2 A0_3 c0_3 l0_3 w hr0_1 hc0_1 hr0_2 hc0_2 hr0_3 hc0_3 hz hzn
  have hs := (hq (by omega)).2
  obtain ⟨kt, ht⟩ := Ev.rounds (to_Node ⟨a0_0, l0_1, l0_2, l0_3⟩ hs)
  have n1 : (l0_1.map cv159).length ≤ 1048576 := by rw [List.length_map]; have := hs.2.1.1; simp only at this; omega
  have n2 : l0_2.length ≤ 1048576 := by have := hs.2.2.1.1; simp only at this; omega
  have n3 : l0_3.length ≤ 1048576 := by have := hs.2.2.2; simp only at this; omega
  simp only at ht
  generalize l0_1.map cv159 = x at *
  have hn := qgI a0_0 x l0_2 l0_3
  obtain ⟨ks, hsp⟩ := Ev.rounds (qf0 a0_0 x l0_2 l0_3 (by omega))
  obtain ⟨RR, him⟩ : ∃ RR, nodeR a0_0 x l0_2 l0_3 = RR := ⟨_, rfl⟩
  rw [him] at hsp hn
  obtain ⟨R, code⟩ := RR
  simp only at hn
  obtain ⟨keX, heX⟩ := Ev.rounds (eq_Node ⟨a0_0, x, l0_2, l0_3⟩ ⟨trivial, ⟨by simp only; omega, fun y _ => ⟨trivial, trivial⟩⟩, by simp only; omega, by simp only; omega⟩)
  obtain ⟨keR, heR⟩ := Ev.rounds (eq_ByteS R (by omega))
  have hmS : Ev (fun k => qbD.f k a0_0 x l0_2 l0_3 1) (((1 + 2 * (x.length : Int)) + 1 * (l0_2.length : Int)) + 1 * (l0_3.length : Int), qcs x 1, qb8 l0_2 (1 + 2 * (x.length : Int)), qcP l0_3 ((1 + 2 * (x.length : Int)) + 1 * (l0_2.length : Int))) := by
   unfold qbD.f
   exact Ev.bind (qf3 x 1 (by omega) (by omega) (by omega)) (Ev.bind (qfa l0_2 _ (by simp only; omega) (by simp only; omega) (by omega)) (Ev.bind (qgL l0_3 _ (by simp only; omega) (by simp only; omega) (by omega)) (Ev.is rfl)))
  obtain ⟨kmX, hmX⟩ := Ev.rounds hmS
  obtain ⟨kh, hh⟩ := Ev.rounds (Ev.same (qf2 R 1 (by omega) (by omega) (by omega)) (show _ = 1 + (R.length : Int) by omega))
  simp only at heX
  exact qef kz kt ks keR keX kmX kh z a0_0 A0_1 c0_1 l0_1 A0_2 c0_2 l0_2 A0_3 c0_3 l0_3 x _ _ _ R code _ w hr0_1 hc0_1 hr0_2 hc0_2 hr0_3 hc0_3 hz hzn ht hsp him heR heX hmX hh (by omega) (by omega) (by omega)
 ·rw [if_neg hw] at h
  cases h
end Go.Proofs.Ytenfomejccfkgaa.X
