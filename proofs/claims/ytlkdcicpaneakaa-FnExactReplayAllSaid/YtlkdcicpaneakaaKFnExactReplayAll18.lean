import Derived.Test.YtlkdcicpaneakaaKFnExactReplayAll2
import Derived.Test.YtlkdcicpaneakaaKFnExactReplayAll10
import Derived.Test.YtlkdcicpaneakaaKFnExactReplayAll12
import Derived.Test.YtlkdcicpaneakaaKFnExactReplayAll13
import Derived.Test.YtlkdcicpaneakaaKFnExactReplayAll15
import Derived.Test.YtlkdcicpaneakaaKFnExactReplayAll16
import Derived.Test.YtlkdcicpaneakaaKFnExactReplayAll17
import Derived.LoopTactic
import Derived.WalkSpells
import Derived.Deep.RegionHeld3
import Derived.Test.YtlkdcicpaneakaaRows
import Derived.WalkKit
import Derived.ProofKit
import Derived.OpenShut
import Derived.ShutString
import Derived.ChangeOld
import Derived.Below
import Derived.SizedLaws
namespace Go.Proofs.Ytlkdcicpaneakaa.X
open Go.RowKit Go.Proofs.YtlkdcicpaneakaaW.PrintWords Go.Proofs.YtlkdcicpaneakaaW.PrintLast Go.Proofs.YtlkdcicpaneakaaW.PrintMore
attribute [local go_sem] qaA qaB qaC qaw qax qaH qaI qap qaq qay qaz
set_option linter.unusedVariables false
set_option linter.unusedSimpArgs false
set_option maxHeartbeats 8000000 in
set_option maxRecDepth 100000 in
theorem qfv (kz : Nat) (z : Int) (A0 : Option Addr) (c0 : Nat) (l : List S37) (w : World) (hr0 : Kd.C k37 w A0 l.length l) (hc0 : l.length ≤ c0) (hz : qa6.f kz l 1048576 = some z) (hzn : z < 0) :
  Calls Try.prog 3 #[.slice A0 l.length c0] w fun e w' => e = .returned (.bool true) ∧ Below w.heap.size w w' := by
 have t1 : decide (z < 0) = true := decide_eq_true hzn
 have hu := Try.underlying41
 have hu2 := Try.underlying37
 have HR0 := Aside0.mk hr0
 have Ahz := Aside0.mk hz
 have HBi := Aside0.mk (Below.refl w.heap.size w)
 clear hr0 hz
 go_enter Try.func3, Try.ntmps3
 go_wp2_with fail
 refine (qa6.calls (hr0 := Kd.qa8 HR0.out HBi.out) (hc0 := hc0) (h := Ahz.out)).mono ?_
 rintro e w1 ⟨rfl, hb1⟩
 have hb1 := (show Below (w).heap.size (w) w1 from by first | exact hb1 | exact hb1.below)
 have HB1 := Aside0.mk (qag HBi.out hb1)
 have Z1_0 := Aside0.mk (show (w).heap.size ≤ w1.heap.size from hb1.size)
 clear hb1 HBi
 go_wp2_with fail
 go_ret
 exact ⟨rfl, HB1.out⟩
set_option maxHeartbeats 8000000 in
set_option maxRecDepth 100000 in
theorem qfG (kz kt keR keX km kh : Nat) (z : Int) (A0 : Option Addr) (c0 : Nat) (l : List S37) (x : List S41) (R : List S48) (code : Int) (w : World) (hr0 : Kd.C k37 w A0 l.length l) (hc0 : l.length ≤ c0) (hz : qa6.f kz l 1048576 = some z) (hzn : ¬ z < 0)
  (ht : qa1.f kt l = some x) (hd : ∀ b, b ∈ x → b.f3.length ≤ 2000000) (hR : allR x = (R, code)) (heR : qa2.f keR R R = some true) (heX : qaP.f keX x x = some true) (hm1 : qa5.f km R 1 = some (1 + 2 * (R.length : Int), qcm R 1)) (hh : qa7.f kh (qcm R 1) 1 = some (1 + 2 * (R.length : Int))) (hcost : 1 + (qcX x : Int) ≤ 4611686018427387904) (hRl : (R.length : Int) ≤ 1000000) :
  Calls Try.prog 3 #[.slice A0 l.length c0] w fun e w' => e = .returned (.bool true) ∧ Below w.heap.size w w' := by
 have t1 : decide (z < 0) = false := decide_eq_false hzn
 have t2 : decide (1 + (qcX x : Int) < 0) = false := decide_eq_false (by omega)
 have t5 : (code != code) = false := bne_self_eq_false _
 obtain ⟨m, hm⟩ : ∃ m : Int, m = 1 + 2 * (R.length : Int) := ⟨_, rfl⟩
 rw [← hm] at hh hm1
 have HM := Aside0.mk hm
 have t4 : decide (m < 0) = false := decide_eq_false (by omega)
 have t6 : (m != m) = false := bne_self_eq_false _
 have HRL := Aside0.mk hRl
 have HCO := Aside0.mk hcost
 clear hm hRl hcost
 have hu := Try.underlying41
 have hu2 := Try.underlying37
 have HR0 := Aside0.mk hr0
 have Ahz := Aside0.mk hz
 have Aht := Aside0.mk ht
 have Ahd := Aside0.mk hd
 have AhR := Aside0.mk hR
 have AheR := Aside0.mk heR
 have AheX := Aside0.mk heX
 have Ahm1 := Aside0.mk hm1
 have Ahh := Aside0.mk hh
 have HBi := Aside0.mk (Below.refl w.heap.size w)
 clear hr0 hz ht hd hR heR heX hm1 hh
 go_enter Try.func3, Try.ntmps3
 go_wp2_with fail
 refine (qa6.calls (hr0 := Kd.qa8 HR0.out HBi.out) (hc0 := hc0) (h := Ahz.out)).mono ?_
 rintro e w1 ⟨rfl, hb1⟩
 have hb1 := (show Below (w).heap.size (w) w1 from by first | exact hb1 | exact hb1.below)
 have HB1 := Aside0.mk (qag HBi.out hb1)
 have Z1_0 := Aside0.mk (show (w).heap.size ≤ w1.heap.size from hb1.size)
 clear hb1 HBi
 go_wp2_with fail
 refine (qa1.calls (hr0 := Kd.qa8 HR0.out HB1.out) (hc0 := hc0) (h := Aht.out)).mono ?_
 rintro e w2 ⟨v2_0, rfl, ho2_0, hb2⟩
 have hb2 := (show Below (w1).heap.size (w1) w2 from by first | exact hb2 | exact hb2.below)
 obtain ⟨A2X0, c2X0, rfl, _, _⟩ := Kd.qfY ho2_0
 have nho2_0 := Aside0.mk (Kd.qe4 (Kd.qe2 (Kd.qe3 ho2_0) (fun k hk => (show (w1).heap.size ≤ k ∧ k < w2.heap.size from ⟨hk.2.1, hk.2.2.1⟩))) HB1.out.size)
 have HB2 := Aside0.mk (qag HB1.out hb2)
 have Z2_1 := Aside0.mk (show (w1).heap.size ≤ w2.heap.size from hb2.size)
 clear hb2 ho2_0 HB1
 go_wp2_with fail
 refine ((show Calls Try.prog _ _ _ (fun e w' => ∃ v0 : Value, e = .returned (.tuple #[v0, .int .i64 code]) ∧ Kd.R k48 48 w' _ (fun _ => True) v0 R ∧ Below _ _ w') from by have h_ := qhQ A2X0 _ x _ ((Kd.qct nho2_0.out).2.2) ((Kd.qct nho2_0.out).2.1) Ahd.out; rw [AhR.out] at h_; exact h_)).mono ?_
 rintro e w3 ⟨v3_0, rfl, ho3_0, hb3⟩
 have hb3 := (show Below (w2).heap.size (w2) w3 from by first | exact hb3 | exact hb3.below)
 obtain ⟨A3W, c3W, rfl, _, _⟩ := Kd.qdx ho3_0
 have nho3_0 := Aside0.mk (Kd.qbh (Kd.qbr (Kd.qcE ho3_0) (fun k hk => (show (w2).heap.size ≤ k ∧ k < w3.heap.size from ⟨hk.2.1, hk.2.2.1⟩))) HB2.out.size)
 have HB3 := Aside0.mk (qag HB2.out hb3)
 have HX03 := Aside0.mk (Kd.qdk nho2_0.out hb3)
 have Z3_2 := Aside0.mk (show (w2).heap.size ≤ w3.heap.size from hb3.size)
 clear hb3 ho3_0 HB2 nho2_0
 go_wp2_with fail
 refine (qa1.calls (hr0 := Kd.qa8 HR0.out HB3.out) (hc0 := hc0) (h := Aht.out)).mono ?_
 rintro e w4 ⟨v4_0, rfl, ho4_0, hb4⟩
 have hb4 := (show Below (w3).heap.size (w3) w4 from by first | exact hb4 | exact hb4.below)
 obtain ⟨A4X, c4X, rfl, _, _⟩ := Kd.qfY ho4_0
 have nho4_0 := Aside0.mk (Kd.qe4 (Kd.qe2 (Kd.qe3 ho4_0) (fun k hk => (show (w3).heap.size ≤ k ∧ k < w4.heap.size from ⟨hk.2.1, hk.2.2.1⟩))) HB3.out.size)
 have HB4 := Aside0.mk (qag HB3.out hb4)
 have HW4 := Aside0.mk (Kd.qaX nho3_0.out hb4)
 have Z4_3 := Aside0.mk (show (w3).heap.size ≤ w4.heap.size from hb4.size)
 clear hb4 ho4_0 HB3 nho3_0
 go_wp2_with fail
 refine ((show Calls Try.prog _ _ _ (fun e w' => ∃ v0 : Value, e = .returned (.tuple #[v0, .int .i64 code]) ∧ Kd.R k48 48 w' _ (fun _ => True) v0 R ∧ Below _ _ w') from by have h_ := qfQ A4X _ x _ ((Kd.qct nho4_0.out).2.2) ((Kd.qct nho4_0.out).2.1) Ahd.out; rw [AhR.out] at h_; exact h_)).mono ?_
 rintro e w5 ⟨v5_0, rfl, ho5_0, hb5⟩
 have hb5 := (show Below (w4).heap.size (w4) w5 from by first | exact hb5 | exact hb5.below)
 obtain ⟨A5G, c5G, rfl, _, _⟩ := Kd.qdx ho5_0
 have nho5_0 := Aside0.mk (Kd.qbh (Kd.qbr (Kd.qcE ho5_0) (fun k hk => (show (w4).heap.size ≤ k ∧ k < w5.heap.size from ⟨hk.2.1, hk.2.2.1⟩))) HB4.out.size)
 have HB5 := Aside0.mk (qag HB4.out hb5)
 have HW5 := Aside0.mk (Kd.qaX HW4.out hb5)
 have HX5 := Aside0.mk (Kd.qdk nho4_0.out hb5)
 have Z5_4 := Aside0.mk (show (w4).heap.size ≤ w5.heap.size from hb5.size)
 clear hb5 ho5_0 HB4 HW4 nho4_0
 go_wp2_with fail
 refine (qa2.calls (hr0 := (Kd.qaO nho5_0.out).2.2) (hc0 := (Kd.qaO nho5_0.out).2.1) (hr1 := (Kd.qaO HW5.out).2.2) (hc1 := (Kd.qaO HW5.out).2.1) (h := AheR.out)).mono ?_
 rintro e w6 ⟨rfl, hb6⟩
 have hb6 := (show Below (w5).heap.size (w5) w6 from by first | exact hb6 | exact hb6.below)
 have HB6 := Aside0.mk (qag HB5.out hb6)
 have HW6 := Aside0.mk (Kd.qaX HW5.out hb6)
 have HX6 := Aside0.mk (Kd.qdk HX5.out hb6)
 have HG6 := Aside0.mk (Kd.qaX nho5_0.out hb6)
 have Z6_5 := Aside0.mk (show (w5).heap.size ≤ w6.heap.size from hb6.size)
 clear hb6 HB5 HW5 HX5 nho5_0
 go_wp2_with fail
 refine (qa1.calls (hr0 := Kd.qa8 HR0.out HB6.out) (hc0 := hc0) (h := Aht.out)).mono ?_
 rintro e w7 ⟨v7_0, rfl, ho7_0, hb7⟩
 have hb7 := (show Below (w6).heap.size (w6) w7 from by first | exact hb7 | exact hb7.below)
 obtain ⟨A7T1, c7T1, rfl, _, _⟩ := Kd.qfY ho7_0
 have nho7_0 := Aside0.mk (Kd.qe4 (Kd.qe2 (Kd.qe3 ho7_0) (fun k hk => (show (w6).heap.size ≤ k ∧ k < w7.heap.size from ⟨hk.2.1, hk.2.2.1⟩))) HB6.out.size)
 have HB7 := Aside0.mk (qag HB6.out hb7)
 have HW7 := Aside0.mk (Kd.qaX HW6.out hb7)
 have HX7 := Aside0.mk (Kd.qdk HX6.out hb7)
 have HG7 := Aside0.mk (Kd.qaX HG6.out hb7)
 have Z7_6 := Aside0.mk (show (w6).heap.size ≤ w7.heap.size from hb7.size)
 clear hb7 ho7_0 HB6 HW6 HX6 HG6
 go_wp2_with fail
 refine (qaP.calls (hr0 := (Kd.qct HX7.out).2.2) (hc0 := (Kd.qct HX7.out).2.1) (hr1 := (Kd.qct nho7_0.out).2.2) (hc1 := (Kd.qct nho7_0.out).2.1) (h := AheX.out)).mono ?_
 rintro e w8 ⟨rfl, hb8⟩
 have hb8 := (show Below (w7).heap.size (w7) w8 from by first | exact hb8 | exact hb8.below)
 have HB8 := Aside0.mk (qag HB7.out hb8)
 have HW8 := Aside0.mk (Kd.qaX HW7.out hb8)
 have HX8 := Aside0.mk (Kd.qdk HX7.out hb8)
 have HG8 := Aside0.mk (Kd.qaX HG7.out hb8)
 have HT18 := Aside0.mk (Kd.qdk nho7_0.out hb8)
 have Z8_7 := Aside0.mk (show (w7).heap.size ≤ w8.heap.size from hb8.size)
 clear hb8 HB7 HW7 HX7 HG7 nho7_0
 go_wp2_with fail
 have ZA9 := Aside0.mk (And.intro Z1_0.out (And.intro Z2_1.out (And.intro Z3_2.out (And.intro Z4_3.out (And.intro Z5_4.out (And.intro Z6_5.out (And.intro Z7_6.out (Z8_7.out))))))))
 refine (qfp (fun k => (w3).heap.size ≤ k ∧ k < w4.heap.size) A4X _ c4X x 1 w _ HB8.out HX8.out (by omega) HCO.out).mono ?_
 rintro e w9 ⟨rfl, hb9, hk9⟩
 have HB9 := Aside0.mk (hb9)
 have HW9 := Aside0.mk (Kd.qih HW8.out hk9 (fun k hk h => (by have h1 := hk.1; have h2 := hk.2; have h3 := h.1; have h4 := h.2; have z := ZA9.out; omega)))
 have HG9 := Aside0.mk (Kd.qih HG8.out hk9 (fun k hk h => (by have h1 := hk.1; have h2 := hk.2; have h3 := h.1; have h4 := h.2; have z := ZA9.out; omega)))
 have Z9_8 := Aside0.mk (show (w8).heap.size ≤ w9.heap.size from hk9.1)
 clear hb9 hk9 HB8 HW8 HG8 HX8
 go_wp2_with fail
 refine (qa2.calls (hr0 := (Kd.qaO HG9.out).2.2) (hc0 := (Kd.qaO HG9.out).2.1) (hr1 := (Kd.qaO HW9.out).2.2) (hc1 := (Kd.qaO HW9.out).2.1) (h := AheR.out)).mono ?_
 rintro e w10 ⟨rfl, hb10⟩
 have hb10 := (show Below (w9).heap.size (w9) w10 from by first | exact hb10 | exact hb10.below)
 have HB10 := Aside0.mk (qag HB9.out hb10)
 have HW10 := Aside0.mk (Kd.qaX HW9.out hb10)
 have HG10 := Aside0.mk (Kd.qaX HG9.out hb10)
 have Z10_9 := Aside0.mk (show (w9).heap.size ≤ w10.heap.size from hb10.size)
 clear hb10 HB9 HW9 HG9
 go_wp2_with fail
 have ZA11 := Aside0.mk (And.intro Z1_0.out (And.intro Z2_1.out (And.intro Z3_2.out (And.intro Z4_3.out (And.intro Z5_4.out (And.intro Z6_5.out (And.intro Z7_6.out (And.intro Z8_7.out (And.intro Z9_8.out (Z10_9.out))))))))))
 refine (qa5.calls (w0 := w) (hB := HB10.out) (ho0 := HG10.out) (h := Ahm1.out)).mono ?_
 rintro e w11 ⟨rfl, hr11, hb11, hk11⟩
 have hr11 := Aside0.mk (Kd.R_reok (ok := (fun k => (w4).heap.size ≤ k ∧ k < w5.heap.size)) rfl hr11 (fun k hk => HG10.out.1 k hk))
 have HB11 := Aside0.mk (hb11)
 have HW11 := Aside0.mk (Kd.qih HW10.out hk11 (fun k hk h => (by have h1 := hk.1; have h2 := hk.2; have h3 := h.1; have h4 := h.2; have z := ZA11.out; omega)))
 have Z11_10 := Aside0.mk (show (w10).heap.size ≤ w11.heap.size from hk11.1)
 clear hb11 hk11 HB10 HW10 HG10
 go_wp2_with fail
 have hl11 := (Kd.qaO hr11.out).1
 have hh11 := qa7.calls (A0 := A5G) (c0 := c5G) (hr0 := by exact (Kd.qaO hr11.out).2.2) (hc0 := by rw [← hl11]; exact (Kd.qaO hr11.out).2.1) (h := Ahh.out)
 rw [← hl11] at hh11
 clear hl11
 refine (hh11).mono ?_
 rintro e w12 ⟨rfl, hb12⟩
 have hb12 := (show Below (w11).heap.size (w11) w12 from by first | exact hb12 | exact hb12.below)
 have HB12 := Aside0.mk (qag HB11.out hb12)
 have HW12 := Aside0.mk (Kd.qaX HW11.out hb12)
 have HG12 := Aside0.mk (Kd.qaX hr11.out hb12)
 have Z12_11 := Aside0.mk (show (w11).heap.size ≤ w12.heap.size from hb12.size)
 clear hb12 HB11 HW11 hr11 hh11
 go_wp2_with fail
 refine (qa1.calls (hr0 := Kd.qa8 HR0.out HB12.out) (hc0 := hc0) (h := Aht.out)).mono ?_
 rintro e w13 ⟨v13_0, rfl, ho13_0, hb13⟩
 have hb13 := (show Below (w12).heap.size (w12) w13 from by first | exact hb13 | exact hb13.below)
 obtain ⟨A13T3, c13T3, rfl, _, _⟩ := Kd.qfY ho13_0
 have nho13_0 := Aside0.mk (Kd.qe4 (Kd.qe2 (Kd.qe3 ho13_0) (fun k hk => (show (w12).heap.size ≤ k ∧ k < w13.heap.size from ⟨hk.2.1, hk.2.2.1⟩))) HB12.out.size)
 have HB13 := Aside0.mk (qag HB12.out hb13)
 have HW13 := Aside0.mk (Kd.qaX HW12.out hb13)
 have HG13 := Aside0.mk (Kd.qaX HG12.out hb13)
 have Z13_12 := Aside0.mk (show (w12).heap.size ≤ w13.heap.size from hb13.size)
 clear hb13 ho13_0 HB12 HW12 HG12
 go_wp2_with fail
 refine ((show Calls Try.prog _ _ _ (fun e w' => ∃ v0 : Value, e = .returned (.tuple #[v0, .int .i64 code]) ∧ Kd.R k48 48 w' _ (fun _ => True) v0 R ∧ Below _ _ w') from by have h_ := qfQ A13T3 _ x _ ((Kd.qct nho13_0.out).2.2) ((Kd.qct nho13_0.out).2.1) Ahd.out; rw [AhR.out] at h_; exact h_)).mono ?_
 rintro e w14 ⟨v14_0, rfl, ho14_0, hb14⟩
 have hb14 := (show Below (w13).heap.size (w13) w14 from by first | exact hb14 | exact hb14.below)
 obtain ⟨A14Q, c14Q, rfl, _, _⟩ := Kd.qdx ho14_0
 have nho14_0 := Aside0.mk (Kd.qbh (Kd.qbr (Kd.qcE ho14_0) (fun k hk => (show (w13).heap.size ≤ k ∧ k < w14.heap.size from ⟨hk.2.1, hk.2.2.1⟩))) HB13.out.size)
 have HB14 := Aside0.mk (qag HB13.out hb14)
 have HW14 := Aside0.mk (Kd.qaX HW13.out hb14)
 have HG14 := Aside0.mk (Kd.qaX HG13.out hb14)
 have HT314 := Aside0.mk (Kd.qdk nho13_0.out hb14)
 have Z14_13 := Aside0.mk (show (w13).heap.size ≤ w14.heap.size from hb14.size)
 clear hb14 ho14_0 HB13 HW13 HG13 nho13_0
 go_wp2_with fail
 refine (qa2.calls (hr0 := (Kd.qaO nho14_0.out).2.2) (hc0 := (Kd.qaO nho14_0.out).2.1) (hr1 := (Kd.qaO HW14.out).2.2) (hc1 := (Kd.qaO HW14.out).2.1) (h := AheR.out)).mono ?_
 rintro e w15 ⟨rfl, hb15⟩
 have hb15 := (show Below (w14).heap.size (w14) w15 from by first | exact hb15 | exact hb15.below)
 have HB15 := Aside0.mk (qag HB14.out hb15)
 have HW15 := Aside0.mk (Kd.qaX HW14.out hb15)
 have HG15 := Aside0.mk (Kd.qaX HG14.out hb15)
 have HQ15 := Aside0.mk (Kd.qaX nho14_0.out hb15)
 have Z15_14 := Aside0.mk (show (w14).heap.size ≤ w15.heap.size from hb15.size)
 clear hb15 HB14 HW14 HG14 nho14_0
 go_wp2_with fail
 have hl15 := (Kd.qaO HG15.out).1
 have hh15 := qa7.calls (A0 := A5G) (c0 := c5G) (hr0 := by exact (Kd.qaO HG15.out).2.2) (hc0 := by rw [← hl15]; exact (Kd.qaO HG15.out).2.1) (h := Ahh.out)
 rw [← hl15] at hh15
 clear hl15
 refine (hh15).mono ?_
 rintro e w16 ⟨rfl, hb16⟩
 have hb16 := (show Below (w15).heap.size (w15) w16 from by first | exact hb16 | exact hb16.below)
 have HB16 := Aside0.mk (qag HB15.out hb16)
 have HW16 := Aside0.mk (Kd.qaX HW15.out hb16)
 have HG16 := Aside0.mk (Kd.qaX HG15.out hb16)
 have HQ16 := Aside0.mk (Kd.qaX HQ15.out hb16)
 have Z16_15 := Aside0.mk (show (w15).heap.size ≤ w16.heap.size from hb16.size)
 clear hb16 HB15 HW15 HG15 HQ15 hh15
 go_wp2_with fail
 go_ret
 exact ⟨rfl, HB16.out⟩
open Classical in
noncomputable def qbv.f (l0 : List S37) : Option Bool := if (l0.length ≤ maxLen ∧ ∀ y ∈ l0, wl37 y) then some true else none
theorem qbv.calls (A0 : Option Addr) (c0 : Nat) (l0 : List (S37)) (r : Bool) (w : World) (hr0 : Kd.C k37 w A0 l0.length l0) (hc0 : l0.length ≤ c0) (h : qbv.f l0 = some r) :
  Calls Try.prog 3 #[.slice A0 l0.length c0] w fun e w' => e = .returned (.bool r) ∧ Below w.heap.size w w' := by
 unfold qbv.f at h
 by_cases hw : (l0.length ≤ maxLen ∧ ∀ y ∈ l0, wl37 y)
 ·rw [if_pos hw] at h
  obtain rfl := Option.some.inj h
  clear h
  obtain ⟨z, hz, hq⟩ := qhU l0 hw 1048576 1048576 (by omega) (by omega) (by omega)
  obtain ⟨kz, hz⟩ := Ev.rounds hz
  by_cases hzn : z < 0
  ·exact qfv kz z A0 c0 l0 w hr0 hc0 hz hzn
  have hs := (hq (by omega)).2
  obtain ⟨kt, ht⟩ := Ev.rounds (qhV l0 hs)
  have hd3 : ∀ b, b ∈ l0.map cv37 → b.f3.length ≤ 1048576 := fun b hb => by
   obtain ⟨y, hy, rfl⟩ := List.mem_map.1 hb
   have h3 := (hs.2 y hy).2.2.2.1.1
   unfold cv37
   simp only [List.length_map]
   omega
  have hn0 : (l0.map cv37).length ≤ 1048576 := by rw [List.length_map]; have := hs.1; omega
  generalize l0.map cv37 = x at *
  obtain ⟨keX, heX⟩ := Ev.rounds (qhR x ⟨by omega, fun y hy => ⟨trivial, trivial, trivial, ⟨by have := hd3 y hy; omega, fun y _ => ⟨trivial, trivial, trivial, trivial, trivial⟩⟩, trivial⟩⟩)
  have hco : (qcX x : Int) ≤ 1048576 * 5242884 := by
   have h1 := qi0 (c := 5242884) x (fun y hy => by have := hd3 y hy; unfold costB; omega)
   have h2 : x.length * 5242884 ≤ 1048576 * 5242884 := Nat.mul_le_mul_right _ hn0
   omega
  have hn := allR_len x
  obtain ⟨RR, hR⟩ : ∃ RR, allR x = RR := ⟨_, rfl⟩
  rw [hR] at hn
  obtain ⟨R, code⟩ := RR
  simp only at hn
  obtain ⟨keR, heR⟩ := Ev.rounds (eq_PairS R ⟨by omega, fun y _ => ⟨trivial, trivial⟩⟩)
  obtain ⟨km, hm1⟩ := Ev.rounds (qhS R 1 (by omega) (by omega) (by omega))
  obtain ⟨kh, hh⟩ := Ev.rounds (qhT R 1 (by omega) (by omega) (by omega))
  exact qfG kz kt keR keX km kh z A0 c0 l0 x R code w hr0 hc0 hz hzn ht (fun b hb => by have := hd3 b hb; omega) hR heR heX hm1 hh (by omega) (by omega)
 ·rw [if_neg hw] at h
  cases h
theorem qgK : Opens Try.prog 9 Kd.string (fun x => x.size ≤ maxLen) := Opens.string_ Try.underlying9 (by kernel_rfl)
theorem opens3 : Opens Try.prog 3 (Kd.int .i64) (fun x => (Lit.int .i64 x).wf = true) := Opens.int_ Try.underlying3 (by kernel_rfl)
theorem opens4 : Opens Try.prog 4 Kd.bool (fun _ => True) := Opens.bool_ Try.underlying4 (by kernel_rfl)
def wf72 (x : S72) : Prop := x.f0.size ≤ maxLen ∧ x.f1.size ≤ maxLen ∧ x.f2.size ≤ maxLen ∧ True ∧ True
set_option maxRecDepth 100000 in
theorem opens72 : Opens Try.prog 72 k72 wf72 := by
 refine ⟨by kernel_rfl, fun {H enc w base spare held fuel cs x} h => ?_⟩
 obtain ⟨xs, n, _, _, hl, hlen, hf⟩ := DataW.trod_struct Try.underlying72 h
 have hl' : cs.length = 5 := hl.trans (by kernel_rfl)
 match cs, hl', xs, hlen with
 | [c0, c1, c2, c3, c4], _, [y0, y1, y2, y3, y4], _ =>
  obtain ⟨v0, g0, w0⟩ := qgK.2 (by simpa [show Try.prog.cellsOf 9 = 1 from by kernel_rfl] using hf 0 _ rfl)
  obtain ⟨v1, g1, w1⟩ := qgK.2 (by simpa [show Try.prog.cellsOf 9 = 1 from by kernel_rfl] using hf 1 _ rfl)
  obtain ⟨v2, g2, w2⟩ := qgK.2 (by simpa [show Try.prog.cellsOf 9 = 1 from by kernel_rfl] using hf 2 _ rfl)
  obtain ⟨v3, g3, w3⟩ := opens4.2 (by simpa [show Try.prog.cellsOf 4 = 1 from by kernel_rfl] using hf 3 _ rfl)
  obtain ⟨v4, g4, w4⟩ := opens4.2 (by simpa [show Try.prog.cellsOf 4 = 1 from by kernel_rfl] using hf 4 _ rfl)
  exact ⟨(⟨v0, v1, v2, v3, v4⟩ : S72), ⟨[c0], [c1, c2, c3, c4], rfl, g0, ⟨[c1], [c2, c3, c4], rfl, g1, ⟨[c2], [c3, c4], rfl, g2, ⟨[c3], [c4], rfl, g3, g4⟩⟩⟩⟩, ⟨w0, w1, w2, w3, w4⟩⟩
def wfL72 (xs : List (S72)) : Prop := xs.length ≤ maxLen ∧ ∀ x ∈ xs, wf72 x
theorem opens35 : Opens Try.prog 35 (Kd.slice 72 k72) wfL72 := Opens.qhZ Try.underlying35 (by kernel_rfl) opens72
def wf37 (x : S37) : Prop := x.f0.size ≤ maxLen ∧ x.f1.size ≤ maxLen ∧ (Lit.int .i64 x.f2).wf = true ∧ wfL72 x.f3 ∧ (Lit.int .i64 x.f4).wf = true
set_option maxRecDepth 100000 in
theorem opens37 : Opens Try.prog 37 k37 wf37 := by
 refine ⟨by kernel_rfl, fun {H enc w base spare held fuel cs x} h => ?_⟩
 obtain ⟨xs, n, _, _, hl, hlen, hf⟩ := DataW.trod_struct Try.underlying37 h
 have hl' : cs.length = 5 := hl.trans (by kernel_rfl)
 match cs, hl', xs, hlen with
 | [c0, c1, c2, c3, c4], _, [y0, y1, y2, y3, y4], _ =>
  obtain ⟨v0, g0, w0⟩ := qgK.2 (by simpa [show Try.prog.cellsOf 9 = 1 from by kernel_rfl] using hf 0 _ rfl)
  obtain ⟨v1, g1, w1⟩ := qgK.2 (by simpa [show Try.prog.cellsOf 9 = 1 from by kernel_rfl] using hf 1 _ rfl)
  obtain ⟨v2, g2, w2⟩ := opens3.2 (by simpa [show Try.prog.cellsOf 3 = 1 from by kernel_rfl] using hf 2 _ rfl)
  obtain ⟨v3, g3, w3⟩ := opens35.2 (by simpa [show Try.prog.cellsOf 35 = 1 from by kernel_rfl] using hf 3 _ rfl)
  obtain ⟨v4, g4, w4⟩ := opens3.2 (by simpa [show Try.prog.cellsOf 3 = 1 from by kernel_rfl] using hf 4 _ rfl)
  exact ⟨(⟨v0, v1, v2, v3, v4⟩ : S37), ⟨[c0], [c1, c2, c3, c4], rfl, g0, ⟨[c1], [c2, c3, c4], rfl, g1, ⟨[c2], [c3, c4], rfl, g2, ⟨[c3], [c4], rfl, g3, g4⟩⟩⟩⟩, ⟨w0, w1, w2, w3, w4⟩⟩
def wfL37 (xs : List (S37)) : Prop := xs.length ≤ maxLen ∧ ∀ x ∈ xs, wf37 x
theorem opens22 : Opens Try.prog 22 (Kd.slice 37 k37) wfL37 := Opens.qhZ Try.underlying22 (by kernel_rfl) opens37
def qbv.Pure : Prop := ∀ (l0 : List (S37)), (wfL37 l0) → qbv.f l0 = some true
end Go.Proofs.Ytlkdcicpaneakaa.X
set_option linter.unusedSimpArgs false
set_option linter.unusedVariables false
namespace Go.Proofs.Ytlkdcicpaneakaa.X.Pure
open Go.RowKit Go.Proofs.Ytlkdcicpaneakaa.X Go.Proofs.YtlkdcicpaneakaaW.PrintWords Go.Proofs.YtlkdcicpaneakaaW.PrintLast
theorem FnExactReplayAll : qbv.Pure := by
 intro l hw
 unfold qbv.f
 exact if_pos ⟨hw.1, fun y hy => ⟨(hw.2 y hy).1, (hw.2 y hy).2.1, trivial, ⟨(hw.2 y hy).2.2.2.1.1, fun z hz => ⟨((hw.2 y hy).2.2.2.1.2 z hz).1, ((hw.2 y hy).2.2.2.1.2 z hz).2.1, ((hw.2 y hy).2.2.2.1.2 z hz).2.2.1, trivial, trivial⟩⟩, trivial⟩⟩
end Go.Proofs.Ytlkdcicpaneakaa.X.Pure
namespace Go.Proofs.Ytlkdcicpaneakaa.fnExactReplayAll
open Go.ChangeShapes Go.WideShapes Go.ChangeAt Go.RowKit Go.Proofs.Ytlkdcicpaneakaa.X Go.Proofs.YtlkdcicpaneakaaW.PrintWords
open Go.ChangeMaps (open_string shut_string)
set_option linter.unusedVariables false
theorem own : ownKnob Try.prog.godebug = none := by kernel_rfl
theorem laidOut : laidOutB Try.prog = true := by kernel_rfl
set_option maxRecDepth 100000 in
theorem lifted (os : Os) (started : os.Started) (H : Type) (enc : TypeId × Value → H) :
  ReturnsInHanded {} Try.checked os 3 .any (Rows.fnExactReplayAllSpec.pre6 enc Try.prog Try.f3 Rows.fnExactReplayAllRow.domain false) (Rows.fnExactReplayAllSpec.post enc Try.prog Try.f3 false true false false) := by
 refine returnsInHanded_of_change_sized (C := Try.checked) own started (by kernel_rfl) Try.func3
  (ChangeSpec.witness6 (enc := enc) (C := Try.checked) false ⟨#[], #[.slice none 0 0], []⟩ 8 (by kernel_rfl) (by kernel_rfl) (by kernel_rfl) (by kernel_rfl)) ?_
 intro W base args ds gs before hval0 hW hcnd hsz0 _
 have hsz : (DataW.weightsEach Try.prog (Try.f3.params.toList ++ Rows.fnExactReplayAllSpec.plain.varTypes Try.prog) (ds ++ gs)).all (· ≤ reachBytes) = true := hsz0
 have hval : ∀ (j : Nat) t v, Try.f3.params[j]? = some t → args[j]? = some v → Value.okWide Try.prog W .any base t v := hval0
 have hW' := hW
 obtain ⟨p, q, hA0, hV, rfl, hfz, hnd⟩ := hW
 have hA : DataW.TrodAll enc Try.prog W 0 (fun _ => true) true Try.f3.params.toList args.toList ds p := hA0
 rw [Try.params3] at hA hval hsz
 obtain ⟨v0, vs0, d0, ds0, p0, q0, hargs, rfl, rfl, h0, r0⟩ := trodAll_cons hA
 obtain ⟨rfl, rfl, rfl⟩ := trodAll_nil r0
 obtain rfl : args = #[v0] := by cases args; simp_all
 obtain ⟨rfl, rfl⟩ := trodVars_none hV
 have k0 := h0
 have lt0 : ∀ x ∈ p0, x.block < W.heap.size := by obtain ⟨m, hm⟩ := k0; exact DataW.trod_lt m _ _ _ hm
 obtain ⟨A0, len0, c0, rfl⟩ := okWide_slice Try.underlying22 (hval 0 22 v0 rfl rfl)
 obtain ⟨l0, rfl, hc0, hr0, hw0⟩ := Opens.qin opens22 h0
 clear hA0 hval0 hsz0 hsz
 have hP := X.Pure.FnExactReplayAll l0 hw0
 refine (qbv.calls A0 c0 l0 true W hr0 hc0 hP).mono fun e W' hQ => ?_
 obtain ⟨he, bel0⟩ := hQ
 subst he
 have bel : Below W.heap.size W W' := bel0
 exact ⟨_, rfl, _, _, _, [], _, [], hW', trodAll_mk1 (shut_bool Try.underlying4 _), (trodAll_cons_mk (Below.trod laidOut (by kernel_rfl) (of_decide_eq_true (by kernel_rfl)) k0 bel lt0) trodAll_mk0), rfl, bel.frame _, fun h => by cases h⟩
theorem over : Rows.fnExactReplayAllRow.holds Try.pinned (OpenSpec.ofChange Rows.fnExactReplayAllSpec) :=
 OpenClaim.holds_of_wide 3 Try.f3 rfl rfl rfl rfl rfl rfl rfl ⟨rfl, rfl, rfl, rfl, rfl⟩ rfl rfl rfl rfl rfl (by kernel_rfl) Try.func3 (by kernel_rfl)
  (of_decide_eq_true (by kernel_rfl)) (by unfold Func.isWrapper; first | (rw [if_pos (by decide +kernel)]; kernel_rfl) | (rw [if_neg (by decide +kernel)]; exact ⟨rfl, rfl⟩))
  (fun os started H enc _ => lifted os started H enc)
theorem proved : Rows.FnExactReplayAllSaid := over
end Go.Proofs.Ytlkdcicpaneakaa.fnExactReplayAll
namespace Go.Proofs.Ytlkdcicpaneakaa
theorem fnExactReplayAll_holds : Rows.FnExactReplayAllSaid := fnExactReplayAll.proved
end Go.Proofs.Ytlkdcicpaneakaa
