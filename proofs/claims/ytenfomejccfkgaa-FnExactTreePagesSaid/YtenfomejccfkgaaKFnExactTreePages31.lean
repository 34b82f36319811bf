import Derived.Test.YtenfomejccfkgaaKFnExactTreePages4
import Derived.Test.YtenfomejccfkgaaKFnExactTreePages5
import Derived.Test.YtenfomejccfkgaaKFnExactTreePages6
import Derived.Test.YtenfomejccfkgaaKFnExactTreePages16
import Derived.Test.YtenfomejccfkgaaKFnExactTreePages20
import Derived.Test.YtenfomejccfkgaaKFnExactTreePages22
import Derived.Test.YtenfomejccfkgaaKFnExactTreePages23
import Derived.Test.YtenfomejccfkgaaKFnExactTreePages27
import Derived.Test.YtenfomejccfkgaaKFnExactTreePages28
import Derived.Test.YtenfomejccfkgaaKFnExactTreePages30
import Derived.LoopTactic
import Derived.WalkSpells
import Derived.Deep.RegionHeld3
import Derived.Test.YtenfomejccfkgaaRows
import Derived.WalkKit
import Derived.ProofKit
import Derived.OpenShut
import Derived.ShutString
import Derived.ChangeOld
import Derived.Below
import Derived.SizedLaws
namespace Go.Proofs.Ytenfomejccfkgaa.X
open Go.RowKit Go.Proofs.YtenfomejccfkgaaW.PrintWords Go.Proofs.YtenfomejccfkgaaW.PrintLast Go.Proofs.YtenfomejccfkgaaW.PrintMore
attribute [local go_sem] qaE qaF qaG qay qaz qaP qaQ qas qat qaA qaB
set_option linter.unusedVariables false
set_option linter.unusedSimpArgs false
set_option maxHeartbeats 8000000 in
set_option maxRecDepth 100000 in
theorem qet (kz : Nat) (z : Int) (A0 : Option Addr) (c0 : Nat) (l : List S50) (root : Int) (w : World) (hr0 : Kd.C k50 w A0 l.length l) (hc0 : l.length ≤ c0) (hz : qbQ.f kz l 1048576 = some z) (hzn : z < 0) :
  Calls Try.prog 6 #[.agg #[.slice A0 l.length c0], .int .i64 root] w fun e w' => e = .returned (.bool true) ∧ Below w.heap.size w w' := by
 have t1 : decide (z < 0) = true := decide_eq_true hzn
 have hu := Try.underlying29
 have hu2 := Try.underlying24
 have HR0 := Aside0.mk hr0
 have Ahz := Aside0.mk hz
 have HBi := Aside0.mk (Below.refl w.heap.size w)
 clear hr0 hz
 have HB1 := Aside0.mk (qab HBi.out (.cells #[.slice A0 l.length c0] 24 (0, 0)))
 have KA1 := Aside0.mk (qcs w (.cells #[.slice A0 l.length c0] 24 (0, 0)))
 have Z1_0 := Aside0.mk (show (w.alloc (.cells #[.slice A0 l.length c0] 24 (0, 0))).heap.size = (w).heap.size + 1 from by show ((w).heap.push _).size = _; rw [Array.size_push])
 clear HBi
 go_enter Try.func6, Try.ntmps6
 go_wp2_with fail
 refine (qbQ.calls (hr0_0 := Kd.qaw HR0.out HB1.out) (hc0_0 := hc0) (h := Ahz.out)).mono ?_
 rintro e w2 ⟨rfl, hb2⟩
 have hb2 := (show Below ((w.alloc (.cells #[.slice A0 l.length c0] 24 (0, 0)))).heap.size ((w.alloc (.cells #[.slice A0 l.length c0] 24 (0, 0)))) w2 from by first | exact hb2 | exact hb2.below)
 have HB2 := Aside0.mk (qai HB1.out hb2)
 have KA2 := Aside0.mk (qar KA1.out hb2)
 have Z2_1 := Aside0.mk (show ((w.alloc (.cells #[.slice A0 l.length c0] 24 (0, 0)))).heap.size ≤ w2.heap.size from hb2.size)
 clear hb2 HB1 KA1
 have bA_0_2 := qae KA2.out 0
 simp only [List.getElem?_toArray, List.getElem?_cons_zero, List.getElem?_cons_succ] at bA_0_2
 go_wp2_with fail
 clear bA_0_2
 go_ret
 exact ⟨rfl, HB2.out⟩
set_option maxHeartbeats 8000000 in
set_option maxRecDepth 100000 in
theorem qeG (kz kt ks ki keR keX km kh : Nat) (z : Int) (A0 : Option Addr) (c0 : Nat) (l : List S50) (root : Int) (x : List S56) (R : (List Int)) (code : Int) (w : World) (hr0 : Kd.C k50 w A0 l.length l) (hc0 : l.length ≤ c0) (hz : qbQ.f kz l 1048576 = some z) (hzn : ¬ z < 0)
  (ht : qbN.f kt l = some x) (hsp : qaR.f ks x root = some (R, code)) (him : qaN.f ki x root = some (R, code)) (heR : qa5.f keR R R = some true) (heX : qbX.f keX x x = some true) (hm1 : qba.f km R 1 = some (1 + (R.length : Int), qb8 R 1)) (hh : qbb.f kh (qb8 R 1) 1 = some (1 + (R.length : Int))) (hcost : 1 + (qch x : Int) ≤ 4611686018427387904) (hRl : (R.length : Int) ≤ 1000000) :
  Calls Try.prog 6 #[.agg #[.slice A0 l.length c0], .int .i64 root] w fun e w' => e = .returned (.bool true) ∧ Below w.heap.size w w' := by
 have t1 : decide (z < 0) = false := decide_eq_false hzn
 have t2 : decide (1 + (qch x : Int) < 0) = false := decide_eq_false (by omega)
 have t5 : (code != code) = false := bne_self_eq_false _
 obtain ⟨m, hm⟩ : ∃ m : Int, m = 1 + (R.length : Int) := ⟨_, rfl⟩
 rw [← hm] at hh hm1
 have HM := Aside0.mk hm
 have t4 : decide (m < 0) = false := decide_eq_false (by omega)
 have t6 : (m != m) = false := bne_self_eq_false _
 have HRL := Aside0.mk hRl
 have HCO := Aside0.mk hcost
 clear hm hRl hcost
 have hu := Try.underlying29
 have hu2 := Try.underlying24
 have HR0 := Aside0.mk hr0
 have Ahz := Aside0.mk hz
 have Aht := Aside0.mk ht
 have Ahsp := Aside0.mk hsp
 have Ahim := Aside0.mk him
 have AheR := Aside0.mk heR
 have AheX := Aside0.mk heX
 have Ahm1 := Aside0.mk hm1
 have Ahh := Aside0.mk hh
 have HBi := Aside0.mk (Below.refl w.heap.size w)
 clear hr0 hz ht hsp him heR heX hm1 hh
 have HB1 := Aside0.mk (qab HBi.out (.cells #[.slice A0 l.length c0] 24 (0, 0)))
 have KA1 := Aside0.mk (qcs w (.cells #[.slice A0 l.length c0] 24 (0, 0)))
 have Z1_0 := Aside0.mk (show (w.alloc (.cells #[.slice A0 l.length c0] 24 (0, 0))).heap.size = (w).heap.size + 1 from by show ((w).heap.push _).size = _; rw [Array.size_push])
 clear HBi
 go_enter Try.func6, Try.ntmps6
 go_wp2_with fail
 refine (qbQ.calls (hr0_0 := Kd.qaw HR0.out HB1.out) (hc0_0 := hc0) (h := Ahz.out)).mono ?_
 rintro e w2 ⟨rfl, hb2⟩
 have hb2 := (show Below ((w.alloc (.cells #[.slice A0 l.length c0] 24 (0, 0)))).heap.size ((w.alloc (.cells #[.slice A0 l.length c0] 24 (0, 0)))) w2 from by first | exact hb2 | exact hb2.below)
 have HB2 := Aside0.mk (qai HB1.out hb2)
 have KA2 := Aside0.mk (qar KA1.out hb2)
 have Z2_1 := Aside0.mk (show ((w.alloc (.cells #[.slice A0 l.length c0] 24 (0, 0)))).heap.size ≤ w2.heap.size from hb2.size)
 clear hb2 HB1 KA1
 have bA_0_2 := qae KA2.out 0
 simp only [List.getElem?_toArray, List.getElem?_cons_zero, List.getElem?_cons_succ] at bA_0_2
 go_wp2_with fail
 clear bA_0_2
 refine (qbN.calls (hr0_0 := Kd.qaw HR0.out HB2.out) (hc0_0 := hc0) (h := Aht.out)).mono ?_
 rintro e w3 ⟨v3_0, rfl, ho3_0, hb3⟩
 have hb3 := (show Below (w2).heap.size (w2) w3 from by first | exact hb3 | exact hb3.below)
 obtain ⟨A3X0, c3X0, rfl, _, _⟩ := Kd.qeW ho3_0
 have nho3_0 := Aside0.mk (Kd.qdC (Kd.qda (Kd.qdB ho3_0) (fun k hk => (show (w2).heap.size ≤ k ∧ k < w3.heap.size from ⟨hk.2.1, hk.2.2.1⟩))) HB2.out.size)
 have HB3 := Aside0.mk (qai HB2.out hb3)
 have KA3 := Aside0.mk (qar KA2.out hb3)
 have Z3_2 := Aside0.mk (show (w2).heap.size ≤ w3.heap.size from hb3.size)
 clear hb3 ho3_0 HB2 KA2
 have bA_0_3 := qae KA3.out 0
 simp only [List.getElem?_toArray, List.getElem?_cons_zero, List.getElem?_cons_succ] at bA_0_3
 go_wp2_with fail
 clear bA_0_3
 refine (qaR.calls (hr0_0 := (Kd.qbZ nho3_0.out).2.2) (hc0_0 := (Kd.qbZ nho3_0.out).2.1) (h := Ahsp.out)).mono ?_
 rintro e w4 ⟨v4_0, rfl, ho4_0, hb4⟩
 have hb4 := (show Below (w3).heap.size (w3) w4 from by first | exact hb4 | exact hb4.below)
 obtain ⟨A4W, c4W, rfl, _, _⟩ := Kd.qbV ho4_0
 have nho4_0 := Aside0.mk (Kd.qbA (Kd.qbJ (Kd.qco ho4_0) (fun k hk => (show (w3).heap.size ≤ k ∧ k < w4.heap.size from ⟨hk.2.1, hk.2.2.1⟩))) HB3.out.size)
 have HB4 := Aside0.mk (qai HB3.out hb4)
 have HX04 := Aside0.mk (Kd.qcD nho3_0.out hb4)
 have KA4 := Aside0.mk (qar KA3.out hb4)
 have Z4_3 := Aside0.mk (show (w3).heap.size ≤ w4.heap.size from hb4.size)
 clear hb4 ho4_0 HB3 nho3_0 KA3
 have bA_0_4 := qae KA4.out 0
 simp only [List.getElem?_toArray, List.getElem?_cons_zero, List.getElem?_cons_succ] at bA_0_4
 go_wp2_with fail
 clear bA_0_4
 refine (qbN.calls (hr0_0 := Kd.qaw HR0.out HB4.out) (hc0_0 := hc0) (h := Aht.out)).mono ?_
 rintro e w5 ⟨v5_0, rfl, ho5_0, hb5⟩
 have hb5 := (show Below (w4).heap.size (w4) w5 from by first | exact hb5 | exact hb5.below)
 obtain ⟨A5X, c5X, rfl, _, _⟩ := Kd.qeW ho5_0
 have nho5_0 := Aside0.mk (Kd.qdC (Kd.qda (Kd.qdB ho5_0) (fun k hk => (show (w4).heap.size ≤ k ∧ k < w5.heap.size from ⟨hk.2.1, hk.2.2.1⟩))) HB4.out.size)
 have HB5 := Aside0.mk (qai HB4.out hb5)
 have HW5 := Aside0.mk (Kd.qbr nho4_0.out hb5)
 have KA5 := Aside0.mk (qar KA4.out hb5)
 have Z5_4 := Aside0.mk (show (w4).heap.size ≤ w5.heap.size from hb5.size)
 clear hb5 ho5_0 HB4 nho4_0 KA4
 have HB6 := Aside0.mk (qab HB5.out (.cells #[.slice A5X x.length c5X] 29 (0, 0)))
 have HW6 := Aside0.mk (Kd.qbg HW5.out (.cells #[.slice A5X x.length c5X] 29 (0, 0)))
 have HX6 := Aside0.mk (Kd.qdb nho5_0.out (.cells #[.slice A5X x.length c5X] 29 (0, 0)))
 have KA6 := Aside0.mk (qam KA5.out (.cells #[.slice A5X x.length c5X] 29 (0, 0)))
 have KB6 := Aside0.mk (qcs w5 (.cells #[.slice A5X x.length c5X] 29 (0, 0)))
 have Z6_5 := Aside0.mk (show (w5.alloc (.cells #[.slice A5X x.length c5X] 29 (0, 0))).heap.size = (w5).heap.size + 1 from by show ((w5).heap.push _).size = _; rw [Array.size_push])
 clear HB5 HW5 nho5_0 KA5
 have bA_0_6 := qae KA6.out 0
 have bB_0_6 := qae KB6.out 0
 simp only [List.getElem?_toArray, List.getElem?_cons_zero, List.getElem?_cons_succ] at bA_0_6 bB_0_6
 go_wp2_with fail
 clear bA_0_6 bB_0_6
 refine (qaN.calls (hr0_0 := (Kd.qbZ HX6.out).2.2) (hc0_0 := (Kd.qbZ HX6.out).2.1) (h := Ahim.out)).mono ?_
 rintro e w7 ⟨v7_0, rfl, ho7_0, hb7⟩
 have hb7 := (show Below ((w5.alloc (.cells #[.slice A5X x.length c5X] 29 (0, 0)))).heap.size ((w5.alloc (.cells #[.slice A5X x.length c5X] 29 (0, 0)))) w7 from by first | exact hb7 | exact hb7.below)
 obtain ⟨A7G, c7G, rfl, _, _⟩ := Kd.qbV ho7_0
 have nho7_0 := Aside0.mk (Kd.qbA (Kd.qbJ (Kd.qco ho7_0) (fun k hk => (show ((w5.alloc (.cells #[.slice A5X x.length c5X] 29 (0, 0)))).heap.size ≤ k ∧ k < w7.heap.size from ⟨hk.2.1, hk.2.2.1⟩))) HB6.out.size)
 have HB7 := Aside0.mk (qai HB6.out hb7)
 have HW7 := Aside0.mk (Kd.qbr HW6.out hb7)
 have HX7 := Aside0.mk (Kd.qcD HX6.out hb7)
 have KA7 := Aside0.mk (qar KA6.out hb7)
 have KB7 := Aside0.mk (qar KB6.out hb7)
 have Z7_6 := Aside0.mk (show ((w5.alloc (.cells #[.slice A5X x.length c5X] 29 (0, 0)))).heap.size ≤ w7.heap.size from hb7.size)
 clear hb7 ho7_0 HB6 HW6 HX6 KA6 KB6
 have bA_0_7 := qae KA7.out 0
 have bB_0_7 := qae KB7.out 0
 simp only [List.getElem?_toArray, List.getElem?_cons_zero, List.getElem?_cons_succ] at bA_0_7 bB_0_7
 go_wp2_with fail
 clear bA_0_7 bB_0_7
 refine (qa5.calls (hr0 := (Kd.qbi nho7_0.out).2.2) (hc0 := (Kd.qbi nho7_0.out).2.1) (hr1 := (Kd.qbi HW7.out).2.2) (hc1 := (Kd.qbi HW7.out).2.1) (h := AheR.out)).mono ?_
 rintro e w8 ⟨rfl, hb8⟩
 have hb8 := (show Below (w7).heap.size (w7) w8 from by first | exact hb8 | exact hb8.below)
 have HB8 := Aside0.mk (qai HB7.out hb8)
 have HW8 := Aside0.mk (Kd.qbr HW7.out hb8)
 have HX8 := Aside0.mk (Kd.qcD HX7.out hb8)
 have HG8 := Aside0.mk (Kd.qbr nho7_0.out hb8)
 have KA8 := Aside0.mk (qar KA7.out hb8)
 have KB8 := Aside0.mk (qar KB7.out hb8)
 have Z8_7 := Aside0.mk (show (w7).heap.size ≤ w8.heap.size from hb8.size)
 clear hb8 HB7 HW7 HX7 nho7_0 KA7 KB7
 have bA_0_8 := qae KA8.out 0
 have bB_0_8 := qae KB8.out 0
 simp only [List.getElem?_toArray, List.getElem?_cons_zero, List.getElem?_cons_succ] at bA_0_8 bB_0_8
 go_wp2_with fail
 have HB9 := Aside0.mk (qby HB8.out)
 have HW9 := Aside0.mk (Kd.qbl HW8.out)
 have HX9 := Aside0.mk (Kd.qd7 HX8.out)
 have HG9 := Aside0.mk (Kd.qbl HG8.out)
 have KA9 := Aside0.mk (qao KA8.out)
 have KB9 := Aside0.mk (qao KB8.out)
 have Z9_8 := Aside0.mk (show (w8).drew.heap.size = (w8).heap.size from rfl)
 go_region_held3 (fun W => W.cell? ⟨(w).heap.size, 0, none⟩ = some (.slice A0 l.length c0) ∧ W.cell? ⟨(w5).heap.size, 0, none⟩ = some (.slice A5X x.length c5X))
  (first | exact ⟨bA_0_8, bB_0_8⟩ | exact ⟨dA_0_10, dB_0_10⟩ | exact ⟨dA_0_11, dB_0_11⟩)
  (first
   | (go_at_call 15; refine (qbN.calls (hr0_0 := Kd.qaw HR0.out HB9.out) (hc0_0 := hc0) (h := Aht.out)).mono ?_; rintro e w10 ⟨v10_0, rfl, ho10_0, hb10⟩; have hb10 := (show Below ((w8).drew).heap.size ((w8).drew) w10 from by first | exact hb10 | exact hb10.below); obtain ⟨A10T1, c10T1, rfl, _, _⟩ := Kd.qeW ho10_0; have nho10_0 := Aside0.mk (Kd.qdC (Kd.qda (Kd.qdB ho10_0) (fun k hk => (show ((w8).drew).heap.size ≤ k ∧ k < w10.heap.size from ⟨hk.2.1, hk.2.2.1⟩))) HB9.out.size); have HB10 := Aside0.mk (qai HB9.out hb10); have HW10 := Aside0.mk (Kd.qbr HW9.out hb10); have HX10 := Aside0.mk (Kd.qcD HX9.out hb10); have HG10 := Aside0.mk (Kd.qbr HG9.out hb10); have KA10 := Aside0.mk (qar KA9.out hb10); have KB10 := Aside0.mk (qar KB9.out hb10); have Z10_9 := Aside0.mk (show ((w8).drew).heap.size ≤ w10.heap.size from hb10.size); have dA_0_10 := qae KA10.out 0; have dB_0_10 := qae KB10.out 0; simp only [List.getElem?_toArray, List.getElem?_cons_zero, List.getElem?_cons_succ] at dA_0_10 dB_0_10; dsimp only)
   | (go_at_call 17; refine (qbX.calls (hr0_0 := (Kd.qbZ HX10.out).2.2) (hc0_0 := (Kd.qbZ HX10.out).2.1) (hr1_0 := (Kd.qbZ nho10_0.out).2.2) (hc1_0 := (Kd.qbZ nho10_0.out).2.1) (h := AheX.out)).mono ?_; rintro e w11 ⟨rfl, hb11⟩; have hb11 := (show Below (w10).heap.size (w10) w11 from by first | exact hb11 | exact hb11.below); have HB11 := Aside0.mk (qai HB10.out hb11); have HW11 := Aside0.mk (Kd.qbr HW10.out hb11); have HX11 := Aside0.mk (Kd.qcD HX10.out hb11); have HG11 := Aside0.mk (Kd.qbr HG10.out hb11); have HT111 := Aside0.mk (Kd.qcD nho10_0.out hb11); have KA11 := Aside0.mk (qar KA10.out hb11); have KB11 := Aside0.mk (qar KB10.out hb11); have Z11_10 := Aside0.mk (show (w10).heap.size ≤ w11.heap.size from hb11.size); have dA_0_11 := qae KA11.out 0; have dB_0_11 := qae KB11.out 0; simp only [List.getElem?_toArray, List.getElem?_cons_zero, List.getElem?_cons_succ] at dA_0_11 dB_0_11; dsimp only)
   | fail)
 clear bA_0_8 bB_0_8 dA_0_10 dB_0_10
 have bA_0_11 := qae KA11.out 0
 have bB_0_11 := qae KB11.out 0
 simp only [List.getElem?_toArray, List.getElem?_cons_zero, List.getElem?_cons_succ] at bA_0_11 bB_0_11
 go_wp2_with fail
 clear bA_0_11 bB_0_11
 have ZA12 := Aside0.mk (And.intro Z1_0.out (And.intro Z2_1.out (And.intro Z3_2.out (And.intro Z4_3.out (And.intro Z5_4.out (And.intro Z6_5.out (And.intro Z7_6.out (And.intro Z8_7.out (And.intro Z9_8.out (And.intro Z10_9.out (Z11_10.out)))))))))))
 refine (qfx (fun k => (w4).heap.size ≤ k ∧ k < w5.heap.size) A5X _ c5X x 1 w _ HB11.out HX11.out (by omega) HCO.out).mono ?_
 rintro e w12 ⟨rfl, hr12, hb12, hk12⟩
 have hr12 := Aside0.mk hr12
 have HB12 := Aside0.mk (hb12)
 have HW12 := Aside0.mk (Kd.qdu HW11.out hk12 (fun k hk h => (by have h1 := hk.1; have h2 := hk.2; have h3 := h.1; have h4 := h.2; have z := ZA12.out; omega)))
 have HG12 := Aside0.mk (Kd.qdu HG11.out hk12 (fun k hk h => (by have h1 := hk.1; have h2 := hk.2; have h3 := h.1; have h4 := h.2; have z := ZA12.out; omega)))
 have KA12 := Aside0.mk (qeX KA11.out hk12 (fun h => (by have h3 := h.1; have h4 := h.2; have z := ZA12.out; omega)))
 have KB12 := Aside0.mk (qeX KB11.out hk12 (fun h => (by have h3 := h.1; have h4 := h.2; have z := ZA12.out; omega)))
 have Z12_11 := Aside0.mk (show (w11).heap.size ≤ w12.heap.size from hk12.1)
 clear hb12 hk12 HB11 HW11 HG11 KA11 KB11 HX11
 have bA_0_12 := qae KA12.out 0
 simp only [List.getElem?_toArray, List.getElem?_cons_zero, List.getElem?_cons_succ] at bA_0_12
 go_wp2_with fail
 clear bA_0_12
 refine (qa5.calls (hr0 := (Kd.qbi HG12.out).2.2) (hc0 := (Kd.qbi HG12.out).2.1) (hr1 := (Kd.qbi HW12.out).2.2) (hc1 := (Kd.qbi HW12.out).2.1) (h := AheR.out)).mono ?_
 rintro e w13 ⟨rfl, hb13⟩
 have hb13 := (show Below (w12).heap.size (w12) w13 from by first | exact hb13 | exact hb13.below)
 have HB13 := Aside0.mk (qai HB12.out hb13)
 have HW13 := Aside0.mk (Kd.qbr HW12.out hb13)
 have HG13 := Aside0.mk (Kd.qbr HG12.out hb13)
 have KA13 := Aside0.mk (qar KA12.out hb13)
 have Z13_12 := Aside0.mk (show (w12).heap.size ≤ w13.heap.size from hb13.size)
 clear hb13 HB12 HW12 HG12 KA12
 have bA_0_13 := qae KA13.out 0
 simp only [List.getElem?_toArray, List.getElem?_cons_zero, List.getElem?_cons_succ] at bA_0_13
 go_wp2_with fail
 clear bA_0_13
 have ZA14 := Aside0.mk (And.intro Z1_0.out (And.intro Z2_1.out (And.intro Z3_2.out (And.intro Z4_3.out (And.intro Z5_4.out (And.intro Z6_5.out (And.intro Z7_6.out (And.intro Z8_7.out (And.intro Z9_8.out (And.intro Z10_9.out (And.intro Z11_10.out (And.intro Z12_11.out (Z13_12.out)))))))))))))
 refine (qba.calls (w0 := w) (hB := HB13.out) (ho0 := HG13.out) (h := Ahm1.out)).mono ?_
 rintro e w14 ⟨rfl, hr14, hb14, hk14⟩
 have hr14 := Aside0.mk (Kd.qga (ok := (fun k => ((w5.alloc (.cells #[.slice A5X x.length c5X] 29 (0, 0)))).heap.size ≤ k ∧ k < w7.heap.size)) rfl hr14 (fun k hk => HG13.out.1 k hk))
 have HB14 := Aside0.mk (hb14)
 have HW14 := Aside0.mk (Kd.qdu HW13.out hk14 (fun k hk h => (by have h1 := hk.1; have h2 := hk.2; have h3 := h.1; have h4 := h.2; have z := ZA14.out; omega)))
 have KA14 := Aside0.mk (qeX KA13.out hk14 (fun h => (by have h3 := h.1; have h4 := h.2; have z := ZA14.out; omega)))
 have Z14_13 := Aside0.mk (show (w13).heap.size ≤ w14.heap.size from hk14.1)
 clear hb14 hk14 HB13 HW13 KA13 HG13
 have bA_0_14 := qae KA14.out 0
 simp only [List.getElem?_toArray, List.getElem?_cons_zero, List.getElem?_cons_succ] at bA_0_14
 go_wp2_with fail
 clear bA_0_14
 have hl14 := (Kd.qbi hr14.out).1
 have hh14 := qbb.calls (A0 := A7G) (c0 := c7G) (hr0 := by exact (Kd.qbi hr14.out).2.2) (hc0 := by rw [← hl14]; exact (Kd.qbi hr14.out).2.1) (h := Ahh.out)
 rw [← hl14] at hh14
 clear hl14
 refine (hh14).mono ?_
 rintro e w15 ⟨rfl, hb15⟩
 have hb15 := (show Below (w14).heap.size (w14) w15 from by first | exact hb15 | exact hb15.below)
 have HB15 := Aside0.mk (qai HB14.out hb15)
 have HW15 := Aside0.mk (Kd.qbr HW14.out hb15)
 have HG15 := Aside0.mk (Kd.qbr hr14.out hb15)
 have KA15 := Aside0.mk (qar KA14.out hb15)
 have Z15_14 := Aside0.mk (show (w14).heap.size ≤ w15.heap.size from hb15.size)
 clear hb15 HB14 HW14 hr14 KA14
 clear hh14
 have bA_0_15 := qae KA15.out 0
 simp only [List.getElem?_toArray, List.getElem?_cons_zero, List.getElem?_cons_succ] at bA_0_15
 go_wp2_with fail
 clear bA_0_15
 refine (qbN.calls (hr0_0 := Kd.qaw HR0.out HB15.out) (hc0_0 := hc0) (h := Aht.out)).mono ?_
 rintro e w16 ⟨v16_0, rfl, ho16_0, hb16⟩
 have hb16 := (show Below (w15).heap.size (w15) w16 from by first | exact hb16 | exact hb16.below)
 obtain ⟨A16T3, c16T3, rfl, _, _⟩ := Kd.qeW ho16_0
 have nho16_0 := Aside0.mk (Kd.qdC (Kd.qda (Kd.qdB ho16_0) (fun k hk => (show (w15).heap.size ≤ k ∧ k < w16.heap.size from ⟨hk.2.1, hk.2.2.1⟩))) HB15.out.size)
 have HB16 := Aside0.mk (qai HB15.out hb16)
 have HW16 := Aside0.mk (Kd.qbr HW15.out hb16)
 have HG16 := Aside0.mk (Kd.qbr HG15.out hb16)
 have KA16 := Aside0.mk (qar KA15.out hb16)
 have Z16_15 := Aside0.mk (show (w15).heap.size ≤ w16.heap.size from hb16.size)
 clear hb16 ho16_0 HB15 HW15 HG15 KA15
 have bA_0_16 := qae KA16.out 0
 simp only [List.getElem?_toArray, List.getElem?_cons_zero, List.getElem?_cons_succ] at bA_0_16
 go_wp2_with fail
 clear bA_0_16
 refine (qaN.calls (hr0_0 := (Kd.qbZ nho16_0.out).2.2) (hc0_0 := (Kd.qbZ nho16_0.out).2.1) (h := Ahim.out)).mono ?_
 rintro e w17 ⟨v17_0, rfl, ho17_0, hb17⟩
 have hb17 := (show Below (w16).heap.size (w16) w17 from by first | exact hb17 | exact hb17.below)
 obtain ⟨A17Q, c17Q, rfl, _, _⟩ := Kd.qbV ho17_0
 have nho17_0 := Aside0.mk (Kd.qbA (Kd.qbJ (Kd.qco ho17_0) (fun k hk => (show (w16).heap.size ≤ k ∧ k < w17.heap.size from ⟨hk.2.1, hk.2.2.1⟩))) HB16.out.size)
 have HB17 := Aside0.mk (qai HB16.out hb17)
 have HW17 := Aside0.mk (Kd.qbr HW16.out hb17)
 have HG17 := Aside0.mk (Kd.qbr HG16.out hb17)
 have HT317 := Aside0.mk (Kd.qcD nho16_0.out hb17)
 have KA17 := Aside0.mk (qar KA16.out hb17)
 have Z17_16 := Aside0.mk (show (w16).heap.size ≤ w17.heap.size from hb17.size)
 clear hb17 ho17_0 HB16 HW16 HG16 nho16_0 KA16
 have bA_0_17 := qae KA17.out 0
 simp only [List.getElem?_toArray, List.getElem?_cons_zero, List.getElem?_cons_succ] at bA_0_17
 go_wp2_with fail
 clear bA_0_17
 refine (qa5.calls (hr0 := (Kd.qbi nho17_0.out).2.2) (hc0 := (Kd.qbi nho17_0.out).2.1) (hr1 := (Kd.qbi HW17.out).2.2) (hc1 := (Kd.qbi HW17.out).2.1) (h := AheR.out)).mono ?_
 rintro e w18 ⟨rfl, hb18⟩
 have hb18 := (show Below (w17).heap.size (w17) w18 from by first | exact hb18 | exact hb18.below)
 have HB18 := Aside0.mk (qai HB17.out hb18)
 have HW18 := Aside0.mk (Kd.qbr HW17.out hb18)
 have HG18 := Aside0.mk (Kd.qbr HG17.out hb18)
 have HQ18 := Aside0.mk (Kd.qbr nho17_0.out hb18)
 have KA18 := Aside0.mk (qar KA17.out hb18)
 have Z18_17 := Aside0.mk (show (w17).heap.size ≤ w18.heap.size from hb18.size)
 clear hb18 HB17 HW17 HG17 nho17_0 KA17
 have bA_0_18 := qae KA18.out 0
 simp only [List.getElem?_toArray, List.getElem?_cons_zero, List.getElem?_cons_succ] at bA_0_18
 go_wp2_with fail
 clear bA_0_18
 have hl18 := (Kd.qbi HG18.out).1
 have hh18 := qbb.calls (A0 := A7G) (c0 := c7G) (hr0 := by exact (Kd.qbi HG18.out).2.2) (hc0 := by rw [← hl18]; exact (Kd.qbi HG18.out).2.1) (h := Ahh.out)
 rw [← hl18] at hh18
 clear hl18
 refine (hh18).mono ?_
 rintro e w19 ⟨rfl, hb19⟩
 have hb19 := (show Below (w18).heap.size (w18) w19 from by first | exact hb19 | exact hb19.below)
 have HB19 := Aside0.mk (qai HB18.out hb19)
 have HW19 := Aside0.mk (Kd.qbr HW18.out hb19)
 have HG19 := Aside0.mk (Kd.qbr HG18.out hb19)
 have HQ19 := Aside0.mk (Kd.qbr HQ18.out hb19)
 have KA19 := Aside0.mk (qar KA18.out hb19)
 have Z19_18 := Aside0.mk (show (w18).heap.size ≤ w19.heap.size from hb19.size)
 clear hb19 HB18 HW18 HG18 HQ18 KA18
 clear hh18
 have bA_0_19 := qae KA19.out 0
 simp only [List.getElem?_toArray, List.getElem?_cons_zero, List.getElem?_cons_succ] at bA_0_19
 go_wp2_with fail
 clear bA_0_19
 go_ret
 exact ⟨rfl, HB19.out⟩
open Classical in
noncomputable def qbx.f (l0_0 : List S50) (a1 : Int) : Option Bool := if wl24 ⟨l0_0⟩ then some true else none
theorem qbx.calls (A0_0 : Option Addr) (c0_0 : Nat) (l0_0 : List (S50)) (a1 : Int) (r : Bool) (w : World) (hr0_0 : Kd.C k50 w A0_0 l0_0.length l0_0) (hc0_0 : l0_0.length ≤ c0_0) (h : qbx.f l0_0 a1 = some r) :
  Calls Try.prog 6 #[.agg #[.slice A0_0 l0_0.length c0_0], .int .i64 a1] w fun e w' => e = .returned (.bool r) ∧ Below w.heap.size w w' := by
 unfold qbx.f at h
 by_cases hw : wl24 ⟨l0_0⟩
 ·rw [if_pos hw] at h
  obtain rfl := Option.some.inj h
  clear h
  obtain ⟨z, hz, hq⟩ := sz_Heap ⟨l0_0⟩ hw 1048576 1048576 (by omega) (by omega) (by omega)
  obtain ⟨kz, hz⟩ := Ev.rounds hz
  by_cases hzn : z < 0
  ·exact qet kz z A0_0 c0_0 l0_0 a1 w hr0_0 hc0_0 hz hzn
  have hs := (hq (by omega)).2
  obtain ⟨kt, ht⟩ := Ev.rounds (to_Heap ⟨l0_0⟩ hs)
  have hsm := qgt hs
  have hco := qg4 hs
  obtain ⟨keX, heX⟩ := Ev.rounds (eq_Heap ⟨l0_0.map cv50⟩ (heap_len hs))
  simp only at ht
  generalize l0_0.map cv50 = x at *
  have hn := qgv x a1
  obtain ⟨ks, hsp⟩ := Ev.rounds (qdJ a1 hsm)
  obtain ⟨ki, him⟩ := Ev.rounds (qdK a1 hsm)
  obtain ⟨RR, hR⟩ : ∃ RR, qdy x a1 = RR := ⟨_, rfl⟩
  rw [hR] at hsp him hn
  obtain ⟨R, code⟩ := RR
  simp only at hn
  obtain ⟨keR, heR⟩ := Ev.rounds (qg3 R (by omega))
  obtain ⟨km, hm1⟩ := Ev.rounds (qft R 1 (by omega) (by omega) (by omega))
  obtain ⟨kh, hh⟩ := Ev.rounds (qhb R 1 (by omega) (by omega) (by omega))
  simp only [Int.one_mul] at heX hm1 hh
  exact qeG kz kt ks ki keR keX km kh z A0_0 c0_0 l0_0 a1 x R code w hr0_0 hc0_0 hz hzn ht hsp him heR heX hm1 hh (by omega) (by omega)
 ·rw [if_neg hw] at h
  cases h
end Go.Proofs.Ytenfomejccfkgaa.X
namespace Go.Proofs.Ytenfomejccfkgaa.X
open Go.RowKit Go.Proofs.YtenfomejccfkgaaW.PrintWords Go.Proofs.YtenfomejccfkgaaW.PrintLast Go.Proofs.YtenfomejccfkgaaW.PrintMore
attribute [local go_sem] qaE qaF qaG qay qaz qaP qaQ qas qat qaA qaB
set_option linter.unusedVariables false
set_option linter.unusedSimpArgs false
theorem opens4 : Opens Try.prog 4 Kd.bool (fun _ => True) := Opens.bool_ Try.underlying4 (by kernel_rfl)
theorem qhc : Opens Try.prog 9 Kd.string (fun x => x.size ≤ maxLen) := Opens.string_ Try.underlying9 (by kernel_rfl)
def wf159 (x : S159) : Prop := x.f0.size ≤ maxLen ∧ x.f1.size ≤ maxLen
set_option maxRecDepth 100000 in
theorem opens159 : Opens Try.prog 159 k159 wf159 := by
 refine ⟨by kernel_rfl, fun {H enc w base spare held fuel cs x} h => ?_⟩
 obtain ⟨xs, n, _, _, hl, hlen, hf⟩ := DataW.trod_struct Try.underlying159 h
 have hl' : cs.length = 2 := hl.trans (by kernel_rfl)
 match cs, hl', xs, hlen with
 | [c0, c1], _, [y0, y1], _ =>
  obtain ⟨v0, g0, w0⟩ := qhc.2 (by simpa [show Try.prog.cellsOf 9 = 1 from by kernel_rfl] using hf 0 _ rfl)
  obtain ⟨v1, g1, w1⟩ := qhc.2 (by simpa [show Try.prog.cellsOf 9 = 1 from by kernel_rfl] using hf 1 _ rfl)
  exact ⟨(⟨v0, v1⟩ : S159), ⟨[c0], [c1], rfl, g0, g1⟩, ⟨w0, w1⟩⟩
def wfL159 (xs : List (S159)) : Prop := xs.length ≤ maxLen ∧ ∀ x ∈ xs, wf159 x
theorem opens47 : Opens Try.prog 47 (Kd.slice 159 k159) wfL159 := Opens.qff Try.underlying47 (by kernel_rfl) opens159
def wfL9 (xs : List ByteArray) : Prop := xs.length ≤ maxLen ∧ ∀ x ∈ xs, x.size ≤ maxLen
theorem opens48 : Opens Try.prog 48 (Kd.slice 9 Kd.string) wfL9 := Opens.qff Try.underlying48 (by kernel_rfl) qhc
theorem opens3 : Opens Try.prog 3 (Kd.int .i64) (fun x => (Lit.int .i64 x).wf = true) := Opens.int_ Try.underlying3 (by kernel_rfl)
def wfL3 (xs : List Int) : Prop := xs.length ≤ maxLen ∧ ∀ x ∈ xs, (Lit.int .i64 x).wf = true
theorem opens42 : Opens Try.prog 42 (Kd.slice 3 (Kd.int .i64)) wfL3 := Opens.qff Try.underlying42 (by kernel_rfl) opens3
def wf50 (x : S50) : Prop := True ∧ wfL159 x.f1 ∧ wfL9 x.f2 ∧ wfL3 x.f3
set_option maxRecDepth 100000 in
theorem opens50 : Opens Try.prog 50 k50 wf50 := by
 refine ⟨by kernel_rfl, fun {H enc w base spare held fuel cs x} h => ?_⟩
 obtain ⟨xs, n, _, _, hl, hlen, hf⟩ := DataW.trod_struct Try.underlying50 h
 have hl' : cs.length = 4 := hl.trans (by kernel_rfl)
 match cs, hl', xs, hlen with
 | [c0, c1, c2, c3], _, [y0, y1, y2, y3], _ =>
  obtain ⟨v0, g0, w0⟩ := opens4.2 (by simpa [show Try.prog.cellsOf 4 = 1 from by kernel_rfl] using hf 0 _ rfl)
  obtain ⟨v1, g1, w1⟩ := opens47.2 (by simpa [show Try.prog.cellsOf 47 = 1 from by kernel_rfl] using hf 1 _ rfl)
  obtain ⟨v2, g2, w2⟩ := opens48.2 (by simpa [show Try.prog.cellsOf 48 = 1 from by kernel_rfl] using hf 2 _ rfl)
  obtain ⟨v3, g3, w3⟩ := opens42.2 (by simpa [show Try.prog.cellsOf 42 = 1 from by kernel_rfl] using hf 3 _ rfl)
  exact ⟨(⟨v0, v1, v2, v3⟩ : S50), ⟨[c0], [c1, c2, c3], rfl, g0, ⟨[c1], [c2, c3], rfl, g1, ⟨[c2], [c3], rfl, g2, g3⟩⟩⟩, ⟨w0, w1, w2, w3⟩⟩
def wfL50 (xs : List (S50)) : Prop := xs.length ≤ maxLen ∧ ∀ x ∈ xs, wf50 x
theorem opens22 : Opens Try.prog 22 (Kd.slice 50 k50) wfL50 := Opens.qff Try.underlying22 (by kernel_rfl) opens50
def wf24 (x : S24) : Prop := wfL50 x.f0
set_option maxRecDepth 100000 in
theorem opens24 : Opens Try.prog 24 k24 wf24 := by
 refine ⟨by kernel_rfl, fun {H enc w base spare held fuel cs x} h => ?_⟩
 obtain ⟨xs, n, _, _, hl, hlen, hf⟩ := DataW.trod_struct Try.underlying24 h
 have hl' : cs.length = 1 := hl.trans (by kernel_rfl)
 match cs, hl', xs, hlen with
 | [c0], _, [y0], _ =>
  obtain ⟨v0, g0, w0⟩ := opens22.2 (by simpa [show Try.prog.cellsOf 22 = 1 from by kernel_rfl] using hf 0 _ rfl)
  exact ⟨(⟨v0⟩ : S24), g0, w0⟩
def qbx.Pure : Prop := ∀ (l0_0 : List (S50)) (a1 : Int), (wfL50 l0_0) → ((Lit.int .i64 a1).wf = true) → qbx.f l0_0 a1 = some true
end Go.Proofs.Ytenfomejccfkgaa.X
set_option linter.unusedSimpArgs false
set_option linter.unusedVariables false
namespace Go.Proofs.Ytenfomejccfkgaa.X.Pure
open Go.RowKit Go.Proofs.Ytenfomejccfkgaa.X Go.Proofs.YtenfomejccfkgaaW.PrintWords Go.Proofs.YtenfomejccfkgaaW.PrintLast
theorem FnExactTreePages : qbx.Pure := by
 intro l root hw _
 unfold qbx.f
 exact if_pos ⟨hw.1, fun y hy => ⟨trivial, (hw.2 y hy).2.1, (hw.2 y hy).2.2.1, (hw.2 y hy).2.2.2.1⟩⟩
end Go.Proofs.Ytenfomejccfkgaa.X.Pure
namespace Go.Proofs.Ytenfomejccfkgaa.fnExactTreePages
open Go.ChangeShapes Go.WideShapes Go.ChangeAt Go.RowKit Go.Proofs.Ytenfomejccfkgaa.X Go.Proofs.YtenfomejccfkgaaW.PrintWords
open Go.ChangeMaps (open_string shut_string)
set_option linter.unusedVariables false
theorem own : ownKnob Try.prog.godebug = none := by kernel_rfl
theorem laidOut : laidOutB Try.prog = true := by kernel_rfl
set_option maxRecDepth 100000 in
theorem lifted (os : Os) (started : os.Started) (H : Type) (enc : TypeId × Value → H) :
  ReturnsInHanded {} Try.checked os 6 .any (Rows.fnExactTreePagesSpec.pre6 enc Try.prog Try.f6 Rows.fnExactTreePagesRow.domain false) (Rows.fnExactTreePagesSpec.post enc Try.prog Try.f6 false true false false) := by
 refine returnsInHanded_of_change_sized (C := Try.checked) own started (by kernel_rfl) Try.func6
  (ChangeSpec.witness6 (enc := enc) (C := Try.checked) false ⟨#[], #[.agg #[.slice none 0 0], .int .i64 0], []⟩ 8 (by kernel_rfl) (by kernel_rfl) (by kernel_rfl) (by kernel_rfl)) ?_
 intro W base args ds gs before hval0 hW hcnd hsz0 _
 have hsz : (DataW.weightsEach Try.prog (Try.f6.params.toList ++ Rows.fnExactTreePagesSpec.plain.varTypes Try.prog) (ds ++ gs)).all (· ≤ reachBytes) = true := hsz0
 have hval : ∀ (j : Nat) t v, Try.f6.params[j]? = some t → args[j]? = some v → Value.okWide Try.prog W .any base t v := hval0
 have hW' := hW
 obtain ⟨p, q, hA0, hV, rfl, hfz, hnd⟩ := hW
 have hA : DataW.TrodAll enc Try.prog W 0 (fun _ => true) true Try.f6.params.toList args.toList ds p := hA0
 rw [Try.params6] at hA hval hsz
 obtain ⟨v0, vs0, d0, ds0, p0, q0, hargs, rfl, rfl, h0, r0⟩ := trodAll_cons hA
 obtain ⟨v1, vs1, d1, ds1, p1, q1, rfl, rfl, rfl, h1, r1⟩ := trodAll_cons r0
 obtain ⟨rfl, rfl, rfl⟩ := trodAll_nil r1
 obtain rfl : args = #[v0, v1] := by cases args; simp_all
 obtain ⟨rfl, rfl⟩ := trodVars_none hV
 have k0 := h0
 have lt0 : ∀ x ∈ p0, x.block < W.heap.size := by obtain ⟨m, hm⟩ := k0; exact DataW.trod_lt m _ _ _ hm
 obtain ⟨x0, cs0, rfl, hK0, hw0⟩ := Opens.agg_arg opens24 Try.underlying24 (hval 0 24 v0 rfl rfl) h0
 obtain ⟨A0_0, c0_0, rfl, hc0_0, hr0_0⟩ := k24_open hK0
 obtain ⟨l0_0⟩ := x0
 obtain ⟨a1, rfl, rfl, rfl, w1⟩ := open_int Try.underlying3 (hval 1 3 v1 rfl rfl) h1
 clear hA0 hval0 hsz0 hsz
 have hP := X.Pure.FnExactTreePages l0_0 a1 hw0 w1
 refine (qbx.calls A0_0 c0_0 l0_0 a1 true W hr0_0 hc0_0 hP).mono fun e W' hQ => ?_
 obtain ⟨he, bel0⟩ := hQ
 subst he
 have bel : Below W.heap.size W W' := bel0
 exact ⟨_, rfl, _, _, _, [], _, [], hW', trodAll_mk1 (shut_bool Try.underlying4 _), (trodAll_cons_mk (Below.trod laidOut (by kernel_rfl) (of_decide_eq_true (by kernel_rfl)) k0 bel lt0) (trodAll_cons_mk (shut_int Try.underlying3 w1) trodAll_mk0)), rfl, bel.frame _, fun h => by cases h⟩
theorem over : Rows.fnExactTreePagesRow.holds Try.pinned (OpenSpec.ofChange Rows.fnExactTreePagesSpec) :=
 OpenClaim.holds_of_wide 6 Try.f6 rfl rfl rfl rfl rfl rfl rfl ⟨rfl, rfl, rfl, rfl, rfl⟩ rfl rfl rfl rfl rfl (by kernel_rfl) Try.func6 (by kernel_rfl)
  (of_decide_eq_true (by kernel_rfl)) (by unfold Func.isWrapper; first | (rw [if_pos (by decide +kernel)]; kernel_rfl) | (rw [if_neg (by decide +kernel)]; exact ⟨rfl, rfl⟩))
  (fun os started H enc _ => lifted os started H enc)
theorem proved : Rows.FnExactTreePagesSaid := over
end Go.Proofs.Ytenfomejccfkgaa.fnExactTreePages
namespace Go.Proofs.Ytenfomejccfkgaa
theorem fnExactTreePages_holds : Rows.FnExactTreePagesSaid := fnExactTreePages.proved
end Go.Proofs.Ytenfomejccfkgaa
