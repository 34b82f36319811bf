import Derived.Test.YtgcncphdjabjjaaKFnExactReplay3
import Derived.Test.YtgcncphdjabjjaaKFnExactReplay20
import Derived.Test.YtgcncphdjabjjaaKFnExactReplay22
import Derived.Test.YtgcncphdjabjjaaKFnExactReplay25
import Derived.Test.YtgcncphdjabjjaaKFnExactReplay26
import Derived.Test.YtgcncphdjabjjaaKFnExactReplay27
import Derived.Test.YtgcncphdjabjjaaKFnExactReplay28
import Derived.Test.YtgcncphdjabjjaaKFnExactReplay29
import Derived.Test.YtgcncphdjabjjaaKFnExactReplay30
import Derived.Test.YtgcncphdjabjjaaKFnExactReplay31
import Derived.Test.YtgcncphdjabjjaaKFnExactReplay32
import Derived.LoopTactic
import Derived.WalkSpells
import Derived.Deep.RegionHeld3
namespace Go.Proofs.Ytgcncphdjabjjaa.X
open Go.RowKit Go.Proofs.YtgcncphdjabjjaaW.PrintWords Go.Proofs.YtgcncphdjabjjaaW.PrintLast Go.Proofs.YtgcncphdjabjjaaW.PrintMore
attribute [local go_sem] qaC qaD qaE qay qaz qaN qaO qat qau qaA qaB
set_option linter.unusedVariables false
set_option linter.unusedSimpArgs false
set_option maxHeartbeats 8000000 in
set_option maxRecDepth 100000 in
theorem qfy (A0 : Option Addr) (c0 : Nat) (l : List S73) (last : ByteArray) (chain : Int) (a b : ByteArray) (n : Int) (A3 : Option Addr) (c3 : Nat) (l3 : List S85) (s : Int) (w : World) (hr0 : Kd.C k73 w A0 l.length l) (hc0 : l.length ≤ c0) (hr3 : Kd.C k85 w A3 l3.length l3) (hc3 : l3.length ≤ c3) (hk : 1048576 < last.size) :
  Calls Try.prog 9 #[.slice A0 l.length c0, .string last, .int .i64 chain, .agg #[.string a, .string b, .int .i64 n, .slice A3 l3.length c3, .int .i64 s]] w fun e w' => e = .returned (.bool true) ∧ Below w.heap.size w w' := by
 have t0 : decide (1048576 < (last.size : Int)) = true := decide_eq_true (by omega)
 have HB0 := Aside0.mk ((Below.refl w.heap.size w).alloc (Nat.le_refl _) (.cells #[.string a, .string b, .int .i64 n, .slice A3 l3.length c3, .int .i64 s] 44 (0, 0)))
 go_enter Try.func9, Try.ntmps9
 go_wp2_with fail
 go_ret
 exact ⟨rfl, HB0.out⟩
set_option maxHeartbeats 8000000 in
set_option maxRecDepth 100000 in
theorem qfz (kz0 : Nat) (z0 : Int) (A0 : Option Addr) (c0 : Nat) (l : List S73) (last : ByteArray) (chain : Int) (a b : ByteArray) (n : Int) (A3 : Option Addr) (c3 : Nat) (l3 : List S85) (s : Int) (w : World) (hr0 : Kd.C k73 w A0 l.length l) (hc0 : l.length ≤ c0) (hr3 : Kd.C k85 w A3 l3.length l3) (hc3 : l3.length ≤ c3) (hk : last.size ≤ 1048576) (hz0 : qa4.f kz0 l 1048576 = some z0) (hz0n : z0 < 0) :
  Calls Try.prog 9 #[.slice A0 l.length c0, .string last, .int .i64 chain, .agg #[.string a, .string b, .int .i64 n, .slice A3 l3.length c3, .int .i64 s]] w fun e w' => e = .returned (.bool true) ∧ Below w.heap.size w w' := by
 have t0 : decide (1048576 < (last.size : Int)) = false := decide_eq_false (by omega)
 have t1 : decide (z0 < 0) = true := decide_eq_true hz0n
 have hu := Try.underlying48
 have hu2 := Try.underlying44
 have HR0 := Aside0.mk hr0
 have HR3 := Aside0.mk hr3
 have Ahz0 := Aside0.mk hz0
 have HBi := Aside0.mk (Below.refl w.heap.size w)
 clear hr0 hr3 hz0
 have HB1 := Aside0.mk (qac HBi.out (.cells #[.string a, .string b, .int .i64 n, .slice A3 l3.length c3, .int .i64 s] 44 (0, 0)))
 have KA1 := Aside0.mk (qc0 w (.cells #[.string a, .string b, .int .i64 n, .slice A3 l3.length c3, .int .i64 s] 44 (0, 0)))
 have Z1_0 := Aside0.mk (show (w.alloc (.cells #[.string a, .string b, .int .i64 n, .slice A3 l3.length c3, .int .i64 s] 44 (0, 0))).heap.size = (w).heap.size + 1 from by show ((w).heap.push _).size = _; rw [Array.size_push])
 clear HBi
 go_enter Try.func9, Try.ntmps9
 go_wp2_with fail
 refine (qa4.calls (hr0 := Kd.qbe HR0.out HB1.out) (hc0 := hc0) (h := Ahz0.out)).mono ?_
 rintro e w2 ⟨rfl, hb2⟩
 have hb2 := (show Below ((w.alloc (.cells #[.string a, .string b, .int .i64 n, .slice A3 l3.length c3, .int .i64 s] 44 (0, 0)))).heap.size ((w.alloc (.cells #[.string a, .string b, .int .i64 n, .slice A3 l3.length c3, .int .i64 s] 44 (0, 0)))) w2 from by first | exact hb2 | exact hb2.below)
 have HB2 := Aside0.mk (qag HB1.out hb2)
 have KA2 := Aside0.mk (qao KA1.out hb2)
 have Z2_1 := Aside0.mk (show ((w.alloc (.cells #[.string a, .string b, .int .i64 n, .slice A3 l3.length c3, .int .i64 s] 44 (0, 0)))).heap.size ≤ w2.heap.size from hb2.size)
 clear hb2 HB1 KA1
 have bA_0_2 := qad KA2.out 0
 have bA_1_2 := qad KA2.out 1
 have bA_2_2 := qad KA2.out 2
 have bA_3_2 := qad KA2.out 3
 have bA_4_2 := qad KA2.out 4
 simp only [List.getElem?_toArray, List.getElem?_cons_zero, List.getElem?_cons_succ] at bA_0_2 bA_1_2 bA_2_2 bA_3_2 bA_4_2
 go_wp2_with fail
 clear bA_0_2 bA_1_2 bA_2_2 bA_3_2 bA_4_2
 go_ret
 exact ⟨rfl, HB2.out⟩
set_option maxHeartbeats 8000000 in
set_option maxRecDepth 100000 in
theorem qfA (kz0 kz1 : Nat) (z0 z1 : Int) (A0 : Option Addr) (c0 : Nat) (l : List S73) (last : ByteArray) (chain : Int) (a b : ByteArray) (n : Int) (A3 : Option Addr) (c3 : Nat) (l3 : List S85) (s : Int) (w : World) (hr0 : Kd.C k73 w A0 l.length l) (hc0 : l.length ≤ c0) (hr3 : Kd.C k85 w A3 l3.length l3) (hc3 : l3.length ≤ c3) (hk : last.size ≤ 1048576) (hz0 : qa4.f kz0 l 1048576 = some z0) (hz0n : ¬ z0 < 0) (hz1 : qbL.f kz1 a b n l3 s z0 = some z1) (hz1n : z1 < 0) :
  Calls Try.prog 9 #[.slice A0 l.length c0, .string last, .int .i64 chain, .agg #[.string a, .string b, .int .i64 n, .slice A3 l3.length c3, .int .i64 s]] w fun e w' => e = .returned (.bool true) ∧ Below w.heap.size w w' := by
 have t0 : decide (1048576 < (last.size : Int)) = false := decide_eq_false (by omega)
 have t1 : decide (z0 < 0) = false := decide_eq_false hz0n
 have t2 : decide (z1 < 0) = true := decide_eq_true hz1n
 have hu := Try.underlying48
 have hu2 := Try.underlying44
 have HR0 := Aside0.mk hr0
 have HR3 := Aside0.mk hr3
 have Ahz0 := Aside0.mk hz0
 have Ahz1 := Aside0.mk hz1
 have HBi := Aside0.mk (Below.refl w.heap.size w)
 clear hr0 hr3 hz0 hz1
 have HB1 := Aside0.mk (qac HBi.out (.cells #[.string a, .string b, .int .i64 n, .slice A3 l3.length c3, .int .i64 s] 44 (0, 0)))
 have KA1 := Aside0.mk (qc0 w (.cells #[.string a, .string b, .int .i64 n, .slice A3 l3.length c3, .int .i64 s] 44 (0, 0)))
 have Z1_0 := Aside0.mk (show (w.alloc (.cells #[.string a, .string b, .int .i64 n, .slice A3 l3.length c3, .int .i64 s] 44 (0, 0))).heap.size = (w).heap.size + 1 from by show ((w).heap.push _).size = _; rw [Array.size_push])
 clear HBi
 go_enter Try.func9, Try.ntmps9
 go_wp2_with fail
 refine (qa4.calls (hr0 := Kd.qbe HR0.out HB1.out) (hc0 := hc0) (h := Ahz0.out)).mono ?_
 rintro e w2 ⟨rfl, hb2⟩
 have hb2 := (show Below ((w.alloc (.cells #[.string a, .string b, .int .i64 n, .slice A3 l3.length c3, .int .i64 s] 44 (0, 0)))).heap.size ((w.alloc (.cells #[.string a, .string b, .int .i64 n, .slice A3 l3.length c3, .int .i64 s] 44 (0, 0)))) w2 from by first | exact hb2 | exact hb2.below)
 have HB2 := Aside0.mk (qag HB1.out hb2)
 have KA2 := Aside0.mk (qao KA1.out hb2)
 have Z2_1 := Aside0.mk (show ((w.alloc (.cells #[.string a, .string b, .int .i64 n, .slice A3 l3.length c3, .int .i64 s] 44 (0, 0)))).heap.size ≤ w2.heap.size from hb2.size)
 clear hb2 HB1 KA1
 have bA_0_2 := qad KA2.out 0
 have bA_1_2 := qad KA2.out 1
 have bA_2_2 := qad KA2.out 2
 have bA_3_2 := qad KA2.out 3
 have bA_4_2 := qad KA2.out 4
 simp only [List.getElem?_toArray, List.getElem?_cons_zero, List.getElem?_cons_succ] at bA_0_2 bA_1_2 bA_2_2 bA_3_2 bA_4_2
 go_wp2_with fail
 clear bA_0_2 bA_1_2 bA_2_2 bA_3_2 bA_4_2
 refine (qbL.calls (hr0_3 := Kd.qbe HR3.out HB2.out) (hc0_3 := hc3) (h := Ahz1.out)).mono ?_
 rintro e w3 ⟨rfl, hb3⟩
 have hb3 := (show Below (w2).heap.size (w2) w3 from by first | exact hb3 | exact hb3.below)
 have HB3 := Aside0.mk (qag HB2.out hb3)
 have KA3 := Aside0.mk (qao KA2.out hb3)
 have Z3_2 := Aside0.mk (show (w2).heap.size ≤ w3.heap.size from hb3.size)
 clear hb3 HB2 KA2
 have bA_0_3 := qad KA3.out 0
 have bA_1_3 := qad KA3.out 1
 have bA_2_3 := qad KA3.out 2
 have bA_3_3 := qad KA3.out 3
 have bA_4_3 := qad KA3.out 4
 simp only [List.getElem?_toArray, List.getElem?_cons_zero, List.getElem?_cons_succ] at bA_0_3 bA_1_3 bA_2_3 bA_3_3 bA_4_3
 go_wp2_with fail
 clear bA_0_3 bA_1_3 bA_2_3 bA_3_3 bA_4_3
 go_ret
 exact ⟨rfl, HB3.out⟩
set_option maxHeartbeats 8000000 in
set_option maxRecDepth 100000 in
theorem qgG (kz0 kz1 kt0 kt1 ks ki keR ke0 ke1 km0 km1 kR kh : Nat) (z0 z1 : Int) (A0 : Option Addr) (c0 : Nat) (l : List S73) (last : ByteArray) (chain : Int) (a b : ByteArray) (n : Int) (A3 : Option Addr) (c3 : Nat) (l3 : List S85) (s : Int) (x : List S76) (y : List S82) (R : List S76) (code : Int) (mx : List S76) (m1 : Int) (my : List S82) (m2 : Int) (mR : List S76) (m : Int) (w : World) (hr0 : Kd.C k73 w A0 l.length l) (hc0 : l.length ≤ c0) (hr3 : Kd.C k85 w A3 l3.length l3) (hc3 : l3.length ≤ c3) (hk : last.size ≤ 1048576) (hz0 : qa4.f kz0 l 1048576 = some z0) (hz0n : ¬ z0 < 0) (hz1 : qbL.f kz1 a b n l3 s z0 = some z1) (hz1n : ¬ z1 < 0)
  (ht0 : qa5.f kt0 l = some x) (ht1 : qbD.f kt1 a b n l3 s = some (a, b, n, y, s)) (hsp : qbi.f ks x last chain a b n y s = some (R, code)) (him : qbh.f ki x last chain a b n y s = some (R, code)) (heR : qaV.f keR R R = some true) (he0 : qaV.f ke0 x x = some true) (he1 : qbZ.f ke1 a b n y s a b n y s = some true) (hm0 : qaU.f km0 x 1 = some (m1, mx)) (hm1 : qbK.f km1 a b n y s m1 = some (m2, my)) (hmR : qaU.f kR R 1 = some (m, mR)) (hh : qaZ.f kh mR 1 = some m) (hm2n : ¬ m2 < 0) (hmn : ¬ m < 0) :
  Calls Try.prog 9 #[.slice A0 l.length c0, .string last, .int .i64 chain, .agg #[.string a, .string b, .int .i64 n, .slice A3 l3.length c3, .int .i64 s]] w fun e w' => e = .returned (.bool true) ∧ Below w.heap.size w w' := by
 have t0 : decide (1048576 < (last.size : Int)) = false := decide_eq_false (by omega)
 have t1 : decide (z0 < 0) = false := decide_eq_false hz0n
 have t2 : decide (z1 < 0) = false := decide_eq_false hz1n
 have t3 : decide (m2 < 0) = false := decide_eq_false hm2n
 have t4 : decide (m < 0) = false := decide_eq_false hmn
 have t5 : (code != code) = false := bne_self_eq_false _
 have t6 : (m != m) = false := bne_self_eq_false _
 have hu := Try.underlying48
 have hu2 := Try.underlying44
 have HR0 := Aside0.mk hr0
 have HR3 := Aside0.mk hr3
 have Ahz0 := Aside0.mk hz0
 have Ahz1 := Aside0.mk hz1
 have Aht0 := Aside0.mk ht0
 have Aht1 := Aside0.mk ht1
 have Ahsp := Aside0.mk hsp
 have Ahim := Aside0.mk him
 have AheR := Aside0.mk heR
 have Ahe0 := Aside0.mk he0
 have Ahe1 := Aside0.mk he1
 have Ahm0 := Aside0.mk hm0
 have Ahm1 := Aside0.mk hm1
 have AhmR := Aside0.mk hmR
 have Ahh := Aside0.mk hh
 have HBi := Aside0.mk (Below.refl w.heap.size w)
 clear hr0 hr3 hz0 hz1 ht0 ht1 hsp him heR he0 he1 hm0 hm1 hmR hh
 have HB1 := Aside0.mk (qac HBi.out (.cells #[.string a, .string b, .int .i64 n, .slice A3 l3.length c3, .int .i64 s] 44 (0, 0)))
 have KA1 := Aside0.mk (qc0 w (.cells #[.string a, .string b, .int .i64 n, .slice A3 l3.length c3, .int .i64 s] 44 (0, 0)))
 have Z1_0 := Aside0.mk (show (w.alloc (.cells #[.string a, .string b, .int .i64 n, .slice A3 l3.length c3, .int .i64 s] 44 (0, 0))).heap.size = (w).heap.size + 1 from by show ((w).heap.push _).size = _; rw [Array.size_push])
 clear HBi
 go_enter Try.func9, Try.ntmps9
 go_wp2_with fail
 refine (qa4.calls (hr0 := Kd.qbe HR0.out HB1.out) (hc0 := hc0) (h := Ahz0.out)).mono ?_
 rintro e w2 ⟨rfl, hb2⟩
 have hb2 := (show Below ((w.alloc (.cells #[.string a, .string b, .int .i64 n, .slice A3 l3.length c3, .int .i64 s] 44 (0, 0)))).heap.size ((w.alloc (.cells #[.string a, .string b, .int .i64 n, .slice A3 l3.length c3, .int .i64 s] 44 (0, 0)))) w2 from by first | exact hb2 | exact hb2.below)
 have HB2 := Aside0.mk (qag HB1.out hb2)
 have KA2 := Aside0.mk (qao KA1.out hb2)
 have Z2_1 := Aside0.mk (show ((w.alloc (.cells #[.string a, .string b, .int .i64 n, .slice A3 l3.length c3, .int .i64 s] 44 (0, 0)))).heap.size ≤ w2.heap.size from hb2.size)
 clear hb2 HB1 KA1
 have bA_0_2 := qad KA2.out 0
 have bA_1_2 := qad KA2.out 1
 have bA_2_2 := qad KA2.out 2
 have bA_3_2 := qad KA2.out 3
 have bA_4_2 := qad KA2.out 4
 simp only [List.getElem?_toArray, List.getElem?_cons_zero, List.getElem?_cons_succ] at bA_0_2 bA_1_2 bA_2_2 bA_3_2 bA_4_2
 go_wp2_with fail
 clear bA_0_2 bA_1_2 bA_2_2 bA_3_2 bA_4_2
 refine (qbL.calls (hr0_3 := Kd.qbe HR3.out HB2.out) (hc0_3 := hc3) (h := Ahz1.out)).mono ?_
 rintro e w3 ⟨rfl, hb3⟩
 have hb3 := (show Below (w2).heap.size (w2) w3 from by first | exact hb3 | exact hb3.below)
 have HB3 := Aside0.mk (qag HB2.out hb3)
 have KA3 := Aside0.mk (qao KA2.out hb3)
 have Z3_2 := Aside0.mk (show (w2).heap.size ≤ w3.heap.size from hb3.size)
 clear hb3 HB2 KA2
 have bA_0_3 := qad KA3.out 0
 have bA_1_3 := qad KA3.out 1
 have bA_2_3 := qad KA3.out 2
 have bA_3_3 := qad KA3.out 3
 have bA_4_3 := qad KA3.out 4
 simp only [List.getElem?_toArray, List.getElem?_cons_zero, List.getElem?_cons_succ] at bA_0_3 bA_1_3 bA_2_3 bA_3_3 bA_4_3
 go_wp2_with fail
 have HB4 := Aside0.mk (qb9 HB3.out)
 have KA4 := Aside0.mk (qal KA3.out)
 have Z4_3 := Aside0.mk (show (w3).drew.heap.size = (w3).heap.size from rfl)
 go_region_held3 (fun W => W.cell? ⟨(w).heap.size, 0, none⟩ = some (.string a) ∧ W.cell? ⟨(w).heap.size, 1, none⟩ = some (.string b) ∧ W.cell? ⟨(w).heap.size, 2, none⟩ = some (.int .i64 n) ∧ W.cell? ⟨(w).heap.size, 3, none⟩ = some (.slice A3 l3.length c3) ∧ W.cell? ⟨(w).heap.size, 4, none⟩ = some (.int .i64 s))
  (first | exact ⟨bA_0_3, bA_1_3, bA_2_3, bA_3_3, bA_4_3⟩ | exact ⟨dA_0_5, dA_1_5, dA_2_5, dA_3_5, dA_4_5⟩ | exact ⟨dA_0_6, dA_1_6, dA_2_6, dA_3_6, dA_4_6⟩ | exact ⟨dA_0_7, dA_1_7, dA_2_7, dA_3_7, dA_4_7⟩)
  (first
   | (go_at_call 13; refine (qa5.calls (hr0 := Kd.qbe HR0.out HB4.out) (hc0 := hc0) (h := Aht0.out)).mono ?_; rintro e w5 ⟨v5_0, rfl, ho5_0, hb5⟩; have hb5 := (show Below ((w3).drew).heap.size ((w3).drew) w5 from by first | exact hb5 | exact hb5.below); obtain ⟨A5X0, c5X0, rfl, _, _⟩ := Kd.qcD ho5_0; have nho5_0 := Aside0.mk (Kd.qbp (Kd.qbs (Kd.qb3 ho5_0) (fun k hk => (show ((w3).drew).heap.size ≤ k ∧ k < w5.heap.size from ⟨hk.2.1, hk.2.2.1⟩))) HB4.out.size); have HB5 := Aside0.mk (qag HB4.out hb5); have KA5 := Aside0.mk (qao KA4.out hb5); have Z5_4 := Aside0.mk (show ((w3).drew).heap.size ≤ w5.heap.size from hb5.size); have dA_0_5 := qad KA5.out 0; have dA_1_5 := qad KA5.out 1; have dA_2_5 := qad KA5.out 2; have dA_3_5 := qad KA5.out 3; have dA_4_5 := qad KA5.out 4; simp only [List.getElem?_toArray, List.getElem?_cons_zero, List.getElem?_cons_succ] at dA_0_5 dA_1_5 dA_2_5 dA_3_5 dA_4_5; dsimp only)
   | (go_at_call 29; refine (qbD.calls (hr0_3 := Kd.qbe HR3.out HB5.out) (hc0_3 := hc3) (h := Aht1.out)).mono ?_; rintro e w6 ⟨v6_0, rfl, ho6_0, hb6⟩; have hb6 := (show Below (w5).heap.size (w5) w6 from by first | exact hb6 | exact hb6.below); obtain ⟨A6Y0, c6Y0, rfl, _, _⟩ := Kd.qcD ho6_0; have nho6_0 := Aside0.mk (Kd.qbp (Kd.qbs (Kd.qb3 ho6_0) (fun k hk => (show (w5).heap.size ≤ k ∧ k < w6.heap.size from ⟨hk.2.1, hk.2.2.1⟩))) HB5.out.size); have HB6 := Aside0.mk (qag HB5.out hb6); have HX06 := Aside0.mk (Kd.qaR nho5_0.out hb6); have KA6 := Aside0.mk (qao KA5.out hb6); have Z6_5 := Aside0.mk (show (w5).heap.size ≤ w6.heap.size from hb6.size); have dA_0_6 := qad KA6.out 0; have dA_1_6 := qad KA6.out 1; have dA_2_6 := qad KA6.out 2; have dA_3_6 := qad KA6.out 3; have dA_4_6 := qad KA6.out 4; simp only [List.getElem?_toArray, List.getElem?_cons_zero, List.getElem?_cons_succ] at dA_0_6 dA_1_6 dA_2_6 dA_3_6 dA_4_6; dsimp only)
   | (go_at_call 41; have ZA7 := Aside0.mk (And.intro Z1_0.out (And.intro Z2_1.out (And.intro Z3_2.out (And.intro Z4_3.out (And.intro Z5_4.out (Z6_5.out)))))); refine (qbi.calls (w0 := w) (hB := HB6.out) (ho0 := HX06.out) (hr3_3 := fun W_ hk => (Kd.qaM (Kd.qew nho6_0.out hk (fun k hk h => by have h1 := hk.1; have h2 := hk.2; have h3 := h.1; have h4 := h.2; have z0 := Z1_0.out; have z1 := Z2_1.out; have z2 := Z3_2.out; have z3 := Z4_3.out; have z4 := Z5_4.out; have z5 := Z6_5.out; omega))).2.2) (hc3_3 := (Kd.qaM nho6_0.out).2.1) (h := Ahsp.out)).mono ?_; rintro e w7 ⟨v7, rfl, ho7, hb7, hk7⟩; obtain ⟨A7W, c7W, rfl, _, _⟩ := Kd.qcD ho7; have nho7 := Aside0.mk (Kd.qbs (Kd.qb3 ho7) (fun k hk => (show ((w3).drew).heap.size ≤ k ∧ k < w7.heap.size from ⟨hk.1.elim (fun h => h.1) (fun h => by have z := ZA7.out; omega), hk.2.2.1⟩))); have HB7 := Aside0.mk (hb7); have KA7 := Aside0.mk (qcs KA6.out hk7 (fun h => (by have h3 := h.1; have h4 := h.2; have z := ZA7.out; omega))); have Z7_6 := Aside0.mk (show (w6).heap.size ≤ w7.heap.size from hk7.1); have dA_0_7 := qad KA7.out 0; have dA_1_7 := qad KA7.out 1; have dA_2_7 := qad KA7.out 2; have dA_3_7 := qad KA7.out 3; have dA_4_7 := qad KA7.out 4; simp only [List.getElem?_toArray, List.getElem?_cons_zero, List.getElem?_cons_succ] at dA_0_7 dA_1_7 dA_2_7 dA_3_7 dA_4_7; dsimp only)
   | fail)
 have bA_0_7 := qad KA7.out 0
 have bA_1_7 := qad KA7.out 1
 have bA_2_7 := qad KA7.out 2
 have bA_3_7 := qad KA7.out 3
 have bA_4_7 := qad KA7.out 4
 simp only [List.getElem?_toArray, List.getElem?_cons_zero, List.getElem?_cons_succ] at bA_0_7 bA_1_7 bA_2_7 bA_3_7 bA_4_7
 go_wp2_with fail
 clear bA_0_7 bA_1_7 bA_2_7 bA_3_7 bA_4_7
 refine (qa5.calls (hr0 := Kd.qbe HR0.out HB7.out) (hc0 := hc0) (h := Aht0.out)).mono ?_
 rintro e w8 ⟨v8_0, rfl, ho8_0, hb8⟩
 have hb8 := (show Below (w7).heap.size (w7) w8 from by first | exact hb8 | exact hb8.below)
 obtain ⟨A8X, c8X, rfl, _, _⟩ := Kd.qcD ho8_0
 have nho8_0 := Aside0.mk (Kd.qbp (Kd.qbs (Kd.qb3 ho8_0) (fun k hk => (show (w7).heap.size ≤ k ∧ k < w8.heap.size from ⟨hk.2.1, hk.2.2.1⟩))) HB7.out.size)
 have HB8 := Aside0.mk (qag HB7.out hb8)
 have HW8 := Aside0.mk (Kd.qaR nho7.out hb8)
 have KA8 := Aside0.mk (qao KA7.out hb8)
 have Z8_7 := Aside0.mk (show (w7).heap.size ≤ w8.heap.size from hb8.size)
 clear hb8 ho8_0 HB7 nho7 KA7
 have bA_0_8 := qad KA8.out 0
 have bA_1_8 := qad KA8.out 1
 have bA_2_8 := qad KA8.out 2
 have bA_3_8 := qad KA8.out 3
 have bA_4_8 := qad KA8.out 4
 simp only [List.getElem?_toArray, List.getElem?_cons_zero, List.getElem?_cons_succ] at bA_0_8 bA_1_8 bA_2_8 bA_3_8 bA_4_8
 go_wp2_with fail
 clear bA_0_8 bA_1_8 bA_2_8 bA_3_8 bA_4_8
 refine (qbD.calls (hr0_3 := Kd.qbe HR3.out HB8.out) (hc0_3 := hc3) (h := Aht1.out)).mono ?_
 rintro e w9 ⟨v9_0, rfl, ho9_0, hb9⟩
 have hb9 := (show Below (w8).heap.size (w8) w9 from by first | exact hb9 | exact hb9.below)
 obtain ⟨A9Y, c9Y, rfl, _, _⟩ := Kd.qcD ho9_0
 have nho9_0 := Aside0.mk (Kd.qbp (Kd.qbs (Kd.qb3 ho9_0) (fun k hk => (show (w8).heap.size ≤ k ∧ k < w9.heap.size from ⟨hk.2.1, hk.2.2.1⟩))) HB8.out.size)
 have HB9 := Aside0.mk (qag HB8.out hb9)
 have HW9 := Aside0.mk (Kd.qaR HW8.out hb9)
 have HX9 := Aside0.mk (Kd.qaR nho8_0.out hb9)
 have KA9 := Aside0.mk (qao KA8.out hb9)
 have Z9_8 := Aside0.mk (show (w8).heap.size ≤ w9.heap.size from hb9.size)
 clear hb9 ho9_0 HB8 HW8 nho8_0 KA8
 have HB10 := Aside0.mk (qac HB9.out (.cells #[.string a, .string b, .int .i64 n, .slice A9Y y.length c9Y, .int .i64 s] 48 (0, 0)))
 have HW10 := Aside0.mk (Kd.qaw HW9.out (.cells #[.string a, .string b, .int .i64 n, .slice A9Y y.length c9Y, .int .i64 s] 48 (0, 0)))
 have HX10 := Aside0.mk (Kd.qaw HX9.out (.cells #[.string a, .string b, .int .i64 n, .slice A9Y y.length c9Y, .int .i64 s] 48 (0, 0)))
 have HY10 := Aside0.mk (Kd.qaw nho9_0.out (.cells #[.string a, .string b, .int .i64 n, .slice A9Y y.length c9Y, .int .i64 s] 48 (0, 0)))
 have KA10 := Aside0.mk (qai KA9.out (.cells #[.string a, .string b, .int .i64 n, .slice A9Y y.length c9Y, .int .i64 s] 48 (0, 0)))
 have KB10 := Aside0.mk (qc0 w9 (.cells #[.string a, .string b, .int .i64 n, .slice A9Y y.length c9Y, .int .i64 s] 48 (0, 0)))
 have Z10_9 := Aside0.mk (show (w9.alloc (.cells #[.string a, .string b, .int .i64 n, .slice A9Y y.length c9Y, .int .i64 s] 48 (0, 0))).heap.size = (w9).heap.size + 1 from by show ((w9).heap.push _).size = _; rw [Array.size_push])
 clear HB9 HW9 HX9 nho9_0 KA9
 have bA_0_10 := qad KA10.out 0
 have bA_1_10 := qad KA10.out 1
 have bA_2_10 := qad KA10.out 2
 have bA_3_10 := qad KA10.out 3
 have bA_4_10 := qad KA10.out 4
 have bB_0_10 := qad KB10.out 0
 have bB_1_10 := qad KB10.out 1
 have bB_2_10 := qad KB10.out 2
 have bB_3_10 := qad KB10.out 3
 have bB_4_10 := qad KB10.out 4
 simp only [List.getElem?_toArray, List.getElem?_cons_zero, List.getElem?_cons_succ] at bA_0_10 bA_1_10 bA_2_10 bA_3_10 bA_4_10 bB_0_10 bB_1_10 bB_2_10 bB_3_10 bB_4_10
 go_wp2_with fail
 clear bA_0_10 bA_1_10 bA_2_10 bA_3_10 bA_4_10 bB_0_10 bB_1_10 bB_2_10 bB_3_10 bB_4_10
 refine (qbh.calls (hr0 := (Kd.qaM HX10.out).2.2) (hc0 := (Kd.qaM HX10.out).2.1) (hr3_3 := (Kd.qaM HY10.out).2.2) (hc3_3 := (Kd.qaM HY10.out).2.1) (h := Ahim.out)).mono ?_
 rintro e w11 ⟨v11_0, rfl, ho11_0, hb11⟩
 have hb11 := (show Below ((w9.alloc (.cells #[.string a, .string b, .int .i64 n, .slice A9Y y.length c9Y, .int .i64 s] 48 (0, 0)))).heap.size ((w9.alloc (.cells #[.string a, .string b, .int .i64 n, .slice A9Y y.length c9Y, .int .i64 s] 48 (0, 0)))) w11 from by first | exact hb11 | exact hb11.below)
 obtain ⟨A11G, c11G, rfl, _, _⟩ := Kd.qcD ho11_0
 have nho11_0 := Aside0.mk (Kd.qbp (Kd.qbs (Kd.qb3 ho11_0) (fun k hk => (show ((w9.alloc (.cells #[.string a, .string b, .int .i64 n, .slice A9Y y.length c9Y, .int .i64 s] 48 (0, 0)))).heap.size ≤ k ∧ k < w11.heap.size from ⟨hk.2.1, hk.2.2.1⟩))) HB10.out.size)
 have HB11 := Aside0.mk (qag HB10.out hb11)
 have HW11 := Aside0.mk (Kd.qaR HW10.out hb11)
 have HX11 := Aside0.mk (Kd.qaR HX10.out hb11)
 have HY11 := Aside0.mk (Kd.qaR HY10.out hb11)
 have KA11 := Aside0.mk (qao KA10.out hb11)
 have KB11 := Aside0.mk (qao KB10.out hb11)
 have Z11_10 := Aside0.mk (show ((w9.alloc (.cells #[.string a, .string b, .int .i64 n, .slice A9Y y.length c9Y, .int .i64 s] 48 (0, 0)))).heap.size ≤ w11.heap.size from hb11.size)
 clear hb11 ho11_0 HB10 HW10 HX10 HY10 KA10 KB10
 have bA_0_11 := qad KA11.out 0
 have bA_1_11 := qad KA11.out 1
 have bA_2_11 := qad KA11.out 2
 have bA_3_11 := qad KA11.out 3
 have bA_4_11 := qad KA11.out 4
 have bB_0_11 := qad KB11.out 0
 have bB_1_11 := qad KB11.out 1
 have bB_2_11 := qad KB11.out 2
 have bB_3_11 := qad KB11.out 3
 have bB_4_11 := qad KB11.out 4
 simp only [List.getElem?_toArray, List.getElem?_cons_zero, List.getElem?_cons_succ] at bA_0_11 bA_1_11 bA_2_11 bA_3_11 bA_4_11 bB_0_11 bB_1_11 bB_2_11 bB_3_11 bB_4_11
 go_wp2_with fail
 clear bA_0_11 bA_1_11 bA_2_11 bA_3_11 bA_4_11 bB_0_11 bB_1_11 bB_2_11 bB_3_11 bB_4_11
 refine (qaV.calls (hr0 := (Kd.qaM nho11_0.out).2.2) (hc0 := (Kd.qaM nho11_0.out).2.1) (hr1 := (Kd.qaM HW11.out).2.2) (hc1 := (Kd.qaM HW11.out).2.1) (h := AheR.out)).mono ?_
 rintro e w12 ⟨rfl, hb12⟩
 have hb12 := (show Below (w11).heap.size (w11) w12 from by first | exact hb12 | exact hb12.below)
 have HB12 := Aside0.mk (qag HB11.out hb12)
 have HW12 := Aside0.mk (Kd.qaR HW11.out hb12)
 have HX12 := Aside0.mk (Kd.qaR HX11.out hb12)
 have HY12 := Aside0.mk (Kd.qaR HY11.out hb12)
 have HG12 := Aside0.mk (Kd.qaR nho11_0.out hb12)
 have KA12 := Aside0.mk (qao KA11.out hb12)
 have KB12 := Aside0.mk (qao KB11.out hb12)
 have Z12_11 := Aside0.mk (show (w11).heap.size ≤ w12.heap.size from hb12.size)
 clear hb12 HB11 HW11 HX11 HY11 nho11_0 KA11 KB11
 have bA_0_12 := qad KA12.out 0
 have bA_1_12 := qad KA12.out 1
 have bA_2_12 := qad KA12.out 2
 have bA_3_12 := qad KA12.out 3
 have bA_4_12 := qad KA12.out 4
 have bB_0_12 := qad KB12.out 0
 have bB_1_12 := qad KB12.out 1
 have bB_2_12 := qad KB12.out 2
 have bB_3_12 := qad KB12.out 3
 have bB_4_12 := qad KB12.out 4
 simp only [List.getElem?_toArray, List.getElem?_cons_zero, List.getElem?_cons_succ] at bA_0_12 bA_1_12 bA_2_12 bA_3_12 bA_4_12 bB_0_12 bB_1_12 bB_2_12 bB_3_12 bB_4_12
 go_wp2_with fail
 clear bA_0_12 bA_1_12 bA_2_12 bA_3_12 bA_4_12 bB_0_12 bB_1_12 bB_2_12 bB_3_12 bB_4_12
 refine (qa5.calls (hr0 := Kd.qbe HR0.out HB12.out) (hc0 := hc0) (h := Aht0.out)).mono ?_
 rintro e w13 ⟨v13_0, rfl, ho13_0, hb13⟩
 have hb13 := (show Below (w12).heap.size (w12) w13 from by first | exact hb13 | exact hb13.below)
 obtain ⟨A13T1, c13T1, rfl, _, _⟩ := Kd.qcD ho13_0
 have nho13_0 := Aside0.mk (Kd.qbp (Kd.qbs (Kd.qb3 ho13_0) (fun k hk => (show (w12).heap.size ≤ k ∧ k < w13.heap.size from ⟨hk.2.1, hk.2.2.1⟩))) HB12.out.size)
 have HB13 := Aside0.mk (qag HB12.out hb13)
 have HW13 := Aside0.mk (Kd.qaR HW12.out hb13)
 have HX13 := Aside0.mk (Kd.qaR HX12.out hb13)
 have HY13 := Aside0.mk (Kd.qaR HY12.out hb13)
 have HG13 := Aside0.mk (Kd.qaR HG12.out hb13)
 have KA13 := Aside0.mk (qao KA12.out hb13)
 have KB13 := Aside0.mk (qao KB12.out hb13)
 have Z13_12 := Aside0.mk (show (w12).heap.size ≤ w13.heap.size from hb13.size)
 clear hb13 ho13_0 HB12 HW12 HX12 HY12 HG12 KA12 KB12
 have bA_0_13 := qad KA13.out 0
 have bA_1_13 := qad KA13.out 1
 have bA_2_13 := qad KA13.out 2
 have bA_3_13 := qad KA13.out 3
 have bA_4_13 := qad KA13.out 4
 have bB_0_13 := qad KB13.out 0
 have bB_1_13 := qad KB13.out 1
 have bB_2_13 := qad KB13.out 2
 have bB_3_13 := qad KB13.out 3
 have bB_4_13 := qad KB13.out 4
 simp only [List.getElem?_toArray, List.getElem?_cons_zero, List.getElem?_cons_succ] at bA_0_13 bA_1_13 bA_2_13 bA_3_13 bA_4_13 bB_0_13 bB_1_13 bB_2_13 bB_3_13 bB_4_13
 go_wp2_with fail
 clear bA_0_13 bA_1_13 bA_2_13 bA_3_13 bA_4_13 bB_0_13 bB_1_13 bB_2_13 bB_3_13 bB_4_13
 refine (qaV.calls (hr0 := (Kd.qaM HX13.out).2.2) (hc0 := (Kd.qaM HX13.out).2.1) (hr1 := (Kd.qaM nho13_0.out).2.2) (hc1 := (Kd.qaM nho13_0.out).2.1) (h := Ahe0.out)).mono ?_
 rintro e w14 ⟨rfl, hb14⟩
 have hb14 := (show Below (w13).heap.size (w13) w14 from by first | exact hb14 | exact hb14.below)
 have HB14 := Aside0.mk (qag HB13.out hb14)
 have HW14 := Aside0.mk (Kd.qaR HW13.out hb14)
 have HX14 := Aside0.mk (Kd.qaR HX13.out hb14)
 have HY14 := Aside0.mk (Kd.qaR HY13.out hb14)
 have HG14 := Aside0.mk (Kd.qaR HG13.out hb14)
 have HT114 := Aside0.mk (Kd.qaR nho13_0.out hb14)
 have KA14 := Aside0.mk (qao KA13.out hb14)
 have KB14 := Aside0.mk (qao KB13.out hb14)
 have Z14_13 := Aside0.mk (show (w13).heap.size ≤ w14.heap.size from hb14.size)
 clear hb14 HB13 HW13 HX13 HY13 HG13 nho13_0 KA13 KB13
 have bA_0_14 := qad KA14.out 0
 have bA_1_14 := qad KA14.out 1
 have bA_2_14 := qad KA14.out 2
 have bA_3_14 := qad KA14.out 3
 have bA_4_14 := qad KA14.out 4
 have bB_0_14 := qad KB14.out 0
 have bB_1_14 := qad KB14.out 1
 have bB_2_14 := qad KB14.out 2
 have bB_3_14 := qad KB14.out 3
 have bB_4_14 := qad KB14.out 4
 simp only [List.getElem?_toArray, List.getElem?_cons_zero, List.getElem?_cons_succ] at bA_0_14 bA_1_14 bA_2_14 bA_3_14 bA_4_14 bB_0_14 bB_1_14 bB_2_14 bB_3_14 bB_4_14
 go_wp2_with fail
 have HB15 := Aside0.mk (qb9 HB14.out)
 have HW15 := Aside0.mk (Kd.qaI HW14.out)
 have HX15 := Aside0.mk (Kd.qaI HX14.out)
 have HY15 := Aside0.mk (Kd.qaI HY14.out)
 have HG15 := Aside0.mk (Kd.qaI HG14.out)
 have KA15 := Aside0.mk (qal KA14.out)
 have KB15 := Aside0.mk (qal KB14.out)
 have Z15_14 := Aside0.mk (show (w14).drew.heap.size = (w14).heap.size from rfl)
 go_region_held3 (fun W => W.cell? ⟨(w).heap.size, 0, none⟩ = some (.string a) ∧ W.cell? ⟨(w).heap.size, 1, none⟩ = some (.string b) ∧ W.cell? ⟨(w).heap.size, 2, none⟩ = some (.int .i64 n) ∧ W.cell? ⟨(w).heap.size, 3, none⟩ = some (.slice A3 l3.length c3) ∧ W.cell? ⟨(w).heap.size, 4, none⟩ = some (.int .i64 s) ∧ W.cell? ⟨(w9).heap.size, 0, none⟩ = some (.string a) ∧ W.cell? ⟨(w9).heap.size, 1, none⟩ = some (.string b) ∧ W.cell? ⟨(w9).heap.size, 2, none⟩ = some (.int .i64 n) ∧ W.cell? ⟨(w9).heap.size, 3, none⟩ = some (.slice A9Y y.length c9Y) ∧ W.cell? ⟨(w9).heap.size, 4, none⟩ = some (.int .i64 s))
  (first | exact ⟨bA_0_14, bA_1_14, bA_2_14, bA_3_14, bA_4_14, bB_0_14, bB_1_14, bB_2_14, bB_3_14, bB_4_14⟩ | exact ⟨dA_0_16, dA_1_16, dA_2_16, dA_3_16, dA_4_16, dB_0_16, dB_1_16, dB_2_16, dB_3_16, dB_4_16⟩ | exact ⟨dA_0_17, dA_1_17, dA_2_17, dA_3_17, dA_4_17, dB_0_17, dB_1_17, dB_2_17, dB_3_17, dB_4_17⟩)
  (first
   | (go_at_call 29; refine (qbD.calls (hr0_3 := Kd.qbe HR3.out HB15.out) (hc0_3 := hc3) (h := Aht1.out)).mono ?_; rintro e w16 ⟨v16_0, rfl, ho16_0, hb16⟩; have hb16 := (show Below ((w14).drew).heap.size ((w14).drew) w16 from by first | exact hb16 | exact hb16.below); obtain ⟨A16T2, c16T2, rfl, _, _⟩ := Kd.qcD ho16_0; have nho16_0 := Aside0.mk (Kd.qbp (Kd.qbs (Kd.qb3 ho16_0) (fun k hk => (show ((w14).drew).heap.size ≤ k ∧ k < w16.heap.size from ⟨hk.2.1, hk.2.2.1⟩))) HB15.out.size); have HB16 := Aside0.mk (qag HB15.out hb16); have HW16 := Aside0.mk (Kd.qaR HW15.out hb16); have HX16 := Aside0.mk (Kd.qaR HX15.out hb16); have HY16 := Aside0.mk (Kd.qaR HY15.out hb16); have HG16 := Aside0.mk (Kd.qaR HG15.out hb16); have KA16 := Aside0.mk (qao KA15.out hb16); have KB16 := Aside0.mk (qao KB15.out hb16); have Z16_15 := Aside0.mk (show ((w14).drew).heap.size ≤ w16.heap.size from hb16.size); have dA_0_16 := qad KA16.out 0; have dA_1_16 := qad KA16.out 1; have dA_2_16 := qad KA16.out 2; have dA_3_16 := qad KA16.out 3; have dA_4_16 := qad KA16.out 4; have dB_0_16 := qad KB16.out 0; have dB_1_16 := qad KB16.out 1; have dB_2_16 := qad KB16.out 2; have dB_3_16 := qad KB16.out 3; have dB_4_16 := qad KB16.out 4; simp only [List.getElem?_toArray, List.getElem?_cons_zero, List.getElem?_cons_succ] at dA_0_16 dA_1_16 dA_2_16 dA_3_16 dA_4_16 dB_0_16 dB_1_16 dB_2_16 dB_3_16 dB_4_16; dsimp only)
   | (go_at_call 31; refine (qbZ.calls (hr0_3 := (Kd.qaM HY16.out).2.2) (hc0_3 := (Kd.qaM HY16.out).2.1) (hr1_3 := (Kd.qaM nho16_0.out).2.2) (hc1_3 := (Kd.qaM nho16_0.out).2.1) (h := Ahe1.out)).mono ?_; rintro e w17 ⟨rfl, hb17⟩; have hb17 := (show Below (w16).heap.size (w16) w17 from by first | exact hb17 | exact hb17.below); have HB17 := Aside0.mk (qag HB16.out hb17); have HW17 := Aside0.mk (Kd.qaR HW16.out hb17); have HX17 := Aside0.mk (Kd.qaR HX16.out hb17); have HY17 := Aside0.mk (Kd.qaR HY16.out hb17); have HG17 := Aside0.mk (Kd.qaR HG16.out hb17); have HT217 := Aside0.mk (Kd.qaR nho16_0.out hb17); have KA17 := Aside0.mk (qao KA16.out hb17); have KB17 := Aside0.mk (qao KB16.out hb17); have Z17_16 := Aside0.mk (show (w16).heap.size ≤ w17.heap.size from hb17.size); have dA_0_17 := qad KA17.out 0; have dA_1_17 := qad KA17.out 1; have dA_2_17 := qad KA17.out 2; have dA_3_17 := qad KA17.out 3; have dA_4_17 := qad KA17.out 4; have dB_0_17 := qad KB17.out 0; have dB_1_17 := qad KB17.out 1; have dB_2_17 := qad KB17.out 2; have dB_3_17 := qad KB17.out 3; have dB_4_17 := qad KB17.out 4; simp only [List.getElem?_toArray, List.getElem?_cons_zero, List.getElem?_cons_succ] at dA_0_17 dA_1_17 dA_2_17 dA_3_17 dA_4_17 dB_0_17 dB_1_17 dB_2_17 dB_3_17 dB_4_17; dsimp only)
   | fail)
 clear bA_0_14 bA_1_14 bA_2_14 bA_3_14 bA_4_14 bB_0_14 bB_1_14 bB_2_14 bB_3_14 bB_4_14 dA_0_16 dA_1_16 dA_2_16 dA_3_16 dA_4_16 dB_0_16 dB_1_16 dB_2_16 dB_3_16 dB_4_16
 have bA_0_17 := qad KA17.out 0
 have bA_1_17 := qad KA17.out 1
 have bA_2_17 := qad KA17.out 2
 have bA_3_17 := qad KA17.out 3
 have bA_4_17 := qad KA17.out 4
 have bB_0_17 := qad KB17.out 0
 have bB_1_17 := qad KB17.out 1
 have bB_2_17 := qad KB17.out 2
 have bB_3_17 := qad KB17.out 3
 have bB_4_17 := qad KB17.out 4
 simp only [List.getElem?_toArray, List.getElem?_cons_zero, List.getElem?_cons_succ] at bA_0_17 bA_1_17 bA_2_17 bA_3_17 bA_4_17 bB_0_17 bB_1_17 bB_2_17 bB_3_17 bB_4_17
 go_wp2_with fail
 clear bA_0_17 bA_1_17 bA_2_17 bA_3_17 bA_4_17 bB_0_17 bB_1_17 bB_2_17 bB_3_17 bB_4_17
 have ZA18 := Aside0.mk (And.intro Z1_0.out (And.intro Z2_1.out (And.intro Z3_2.out (And.intro Z4_3.out (And.intro Z5_4.out (And.intro Z6_5.out (And.intro Z7_6.out (And.intro Z8_7.out (And.intro Z9_8.out (And.intro Z10_9.out (And.intro Z11_10.out (And.intro Z12_11.out (And.intro Z13_12.out (And.intro Z14_13.out (And.intro Z15_14.out (And.intro Z16_15.out (Z17_16.out)))))))))))))))))
 refine (qaU.calls (w0 := w) (hB := HB17.out) (ho0 := HX17.out) (h := Ahm0.out)).mono ?_
 rintro e w18 ⟨rfl, hr18, hb18, hk18⟩
 have hr18 := Aside0.mk (Kd.qgL (ok := (fun k => (w7).heap.size ≤ k ∧ k < w8.heap.size)) rfl hr18 (fun k hk => HX17.out.1 k hk))
 have HB18 := Aside0.mk (hb18)
 have HW18 := Aside0.mk (Kd.qew HW17.out hk18 (fun k hk h => (by have h1 := hk.1; have h2 := hk.2; have h3 := h.1; have h4 := h.2; have z := ZA18.out; omega)))
 have HY18 := Aside0.mk (Kd.qew HY17.out hk18 (fun k hk h => (by have h1 := hk.1; have h2 := hk.2; have h3 := h.1; have h4 := h.2; have z := ZA18.out; omega)))
 have HG18 := Aside0.mk (Kd.qew HG17.out hk18 (fun k hk h => (by have h1 := hk.1; have h2 := hk.2; have h3 := h.1; have h4 := h.2; have z := ZA18.out; omega)))
 have KA18 := Aside0.mk (qcs KA17.out hk18 (fun h => (by have h3 := h.1; have h4 := h.2; have z := ZA18.out; omega)))
 have KB18 := Aside0.mk (qcs KB17.out hk18 (fun h => (by have h3 := h.1; have h4 := h.2; have z := ZA18.out; omega)))
 have Z18_17 := Aside0.mk (show (w17).heap.size ≤ w18.heap.size from hk18.1)
 clear hb18 hk18 HB17 HW17 HY17 HG17 KA17 KB17 HX17
 have bA_0_18 := qad KA18.out 0
 have bA_1_18 := qad KA18.out 1
 have bA_2_18 := qad KA18.out 2
 have bA_3_18 := qad KA18.out 3
 have bA_4_18 := qad KA18.out 4
 have bB_0_18 := qad KB18.out 0
 have bB_1_18 := qad KB18.out 1
 have bB_2_18 := qad KB18.out 2
 have bB_3_18 := qad KB18.out 3
 have bB_4_18 := qad KB18.out 4
 simp only [List.getElem?_toArray, List.getElem?_cons_zero, List.getElem?_cons_succ] at bA_0_18 bA_1_18 bA_2_18 bA_3_18 bA_4_18 bB_0_18 bB_1_18 bB_2_18 bB_3_18 bB_4_18
 go_wp2_with fail
 clear bA_0_18 bA_1_18 bA_2_18 bA_3_18 bA_4_18 bB_0_18 bB_1_18 bB_2_18 bB_3_18 bB_4_18
 have ZA19 := Aside0.mk (And.intro Z1_0.out (And.intro Z2_1.out (And.intro Z3_2.out (And.intro Z4_3.out (And.intro Z5_4.out (And.intro Z6_5.out (And.intro Z7_6.out (And.intro Z8_7.out (And.intro Z9_8.out (And.intro Z10_9.out (And.intro Z11_10.out (And.intro Z12_11.out (And.intro Z13_12.out (And.intro Z14_13.out (And.intro Z15_14.out (And.intro Z16_15.out (And.intro Z17_16.out (Z18_17.out))))))))))))))))))
 refine (qbK.calls (w0 := w) (hB := HB18.out) (ho0_3 := HY18.out) (h := Ahm1.out)).mono ?_
 rintro e w19 ⟨rfl, hr19, hb19, hk19⟩
 have hr19 := Aside0.mk (Kd.qgL (ok := (fun k => (w8).heap.size ≤ k ∧ k < w9.heap.size)) rfl hr19 (fun k hk => HY18.out.1 k hk))
 have HB19 := Aside0.mk (hb19)
 have HW19 := Aside0.mk (Kd.qew HW18.out hk19 (fun k hk h => (by have h1 := hk.1; have h2 := hk.2; have h3 := h.1; have h4 := h.2; have z := ZA19.out; omega)))
 have HG19 := Aside0.mk (Kd.qew HG18.out hk19 (fun k hk h => (by have h1 := hk.1; have h2 := hk.2; have h3 := h.1; have h4 := h.2; have z := ZA19.out; omega)))
 have KA19 := Aside0.mk (qcs KA18.out hk19 (fun h => (by have h3 := h.1; have h4 := h.2; have z := ZA19.out; omega)))
 have KB19 := Aside0.mk (qcs KB18.out hk19 (fun h => (by have h3 := h.1; have h4 := h.2; have z := ZA19.out; omega)))
 have Z19_18 := Aside0.mk (show (w18).heap.size ≤ w19.heap.size from hk19.1)
 clear hb19 hk19 HB18 HW18 HG18 KA18 KB18 HY18
 have bA_0_19 := qad KA19.out 0
 have bA_1_19 := qad KA19.out 1
 have bA_2_19 := qad KA19.out 2
 have bA_3_19 := qad KA19.out 3
 have bA_4_19 := qad KA19.out 4
 simp only [List.getElem?_toArray, List.getElem?_cons_zero, List.getElem?_cons_succ] at bA_0_19 bA_1_19 bA_2_19 bA_3_19 bA_4_19
 go_wp2_with fail
 clear bA_0_19 bA_1_19 bA_2_19 bA_3_19 bA_4_19
 refine (qaV.calls (hr0 := (Kd.qaM HG19.out).2.2) (hc0 := (Kd.qaM HG19.out).2.1) (hr1 := (Kd.qaM HW19.out).2.2) (hc1 := (Kd.qaM HW19.out).2.1) (h := AheR.out)).mono ?_
 rintro e w20 ⟨rfl, hb20⟩
 have hb20 := (show Below (w19).heap.size (w19) w20 from by first | exact hb20 | exact hb20.below)
 have HB20 := Aside0.mk (qag HB19.out hb20)
 have HW20 := Aside0.mk (Kd.qaR HW19.out hb20)
 have HG20 := Aside0.mk (Kd.qaR HG19.out hb20)
 have KA20 := Aside0.mk (qao KA19.out hb20)
 have Z20_19 := Aside0.mk (show (w19).heap.size ≤ w20.heap.size from hb20.size)
 clear hb20 HB19 HW19 HG19 KA19
 have bA_0_20 := qad KA20.out 0
 have bA_1_20 := qad KA20.out 1
 have bA_2_20 := qad KA20.out 2
 have bA_3_20 := qad KA20.out 3
 have bA_4_20 := qad KA20.out 4
 simp only [List.getElem?_toArray, List.getElem?_cons_zero, List.getElem?_cons_succ] at bA_0_20 bA_1_20 bA_2_20 bA_3_20 bA_4_20
 go_wp2_with fail
 clear bA_0_20 bA_1_20 bA_2_20 bA_3_20 bA_4_20
 have ZA21 := Aside0.mk (And.intro Z1_0.out (And.intro Z2_1.out (And.intro Z3_2.out (And.intro Z4_3.out (And.intro Z5_4.out (And.intro Z6_5.out (And.intro Z7_6.out (And.intro Z8_7.out (And.intro Z9_8.out (And.intro Z10_9.out (And.intro Z11_10.out (And.intro Z12_11.out (And.intro Z13_12.out (And.intro Z14_13.out (And.intro Z15_14.out (And.intro Z16_15.out (And.intro Z17_16.out (And.intro Z18_17.out (And.intro Z19_18.out (Z20_19.out))))))))))))))))))))
 refine (qaU.calls (w0 := w) (hB := HB20.out) (ho0 := HG20.out) (h := AhmR.out)).mono ?_
 rintro e w21 ⟨rfl, hr21, hb21, hk21⟩
 have hr21 := Aside0.mk (Kd.qgL (ok := (fun k => ((w9.alloc (.cells #[.string a, .string b, .int .i64 n, .slice A9Y y.length c9Y, .int .i64 s] 48 (0, 0)))).heap.size ≤ k ∧ k < w11.heap.size)) rfl hr21 (fun k hk => HG20.out.1 k hk))
 have HB21 := Aside0.mk (hb21)
 have HW21 := Aside0.mk (Kd.qew HW20.out hk21 (fun k hk h => (by have h1 := hk.1; have h2 := hk.2; have h3 := h.1; have h4 := h.2; have z := ZA21.out; omega)))
 have KA21 := Aside0.mk (qcs KA20.out hk21 (fun h => (by have h3 := h.1; have h4 := h.2; have z := ZA21.out; omega)))
 have Z21_20 := Aside0.mk (show (w20).heap.size ≤ w21.heap.size from hk21.1)
 clear hb21 hk21 HB20 HW20 KA20 HG20
 have bA_0_21 := qad KA21.out 0
 have bA_1_21 := qad KA21.out 1
 have bA_2_21 := qad KA21.out 2
 have bA_3_21 := qad KA21.out 3
 have bA_4_21 := qad KA21.out 4
 simp only [List.getElem?_toArray, List.getElem?_cons_zero, List.getElem?_cons_succ] at bA_0_21 bA_1_21 bA_2_21 bA_3_21 bA_4_21
 go_wp2_with fail
 clear bA_0_21 bA_1_21 bA_2_21 bA_3_21 bA_4_21
 have hl21 := (Kd.qaM hr21.out).1
 have hh21 := qaZ.calls (A0 := A11G) (c0 := c11G) (hr0 := by exact (Kd.qaM hr21.out).2.2) (hc0 := by rw [← hl21]; exact (Kd.qaM hr21.out).2.1) (h := Ahh.out)
 rw [← hl21] at hh21
 clear hl21
 refine (hh21).mono ?_
 rintro e w22 ⟨rfl, hb22⟩
 have hb22 := (show Below (w21).heap.size (w21) w22 from by first | exact hb22 | exact hb22.below)
 have HB22 := Aside0.mk (qag HB21.out hb22)
 have HW22 := Aside0.mk (Kd.qaR HW21.out hb22)
 have HG22 := Aside0.mk (Kd.qaR hr21.out hb22)
 have KA22 := Aside0.mk (qao KA21.out hb22)
 have Z22_21 := Aside0.mk (show (w21).heap.size ≤ w22.heap.size from hb22.size)
 clear hb22 HB21 HW21 hr21 KA21
 clear hh21
 have bA_0_22 := qad KA22.out 0
 have bA_1_22 := qad KA22.out 1
 have bA_2_22 := qad KA22.out 2
 have bA_3_22 := qad KA22.out 3
 have bA_4_22 := qad KA22.out 4
 simp only [List.getElem?_toArray, List.getElem?_cons_zero, List.getElem?_cons_succ] at bA_0_22 bA_1_22 bA_2_22 bA_3_22 bA_4_22
 go_wp2_with fail
 have HB23 := Aside0.mk (qb9 HB22.out)
 have HW23 := Aside0.mk (Kd.qaI HW22.out)
 have HG23 := Aside0.mk (Kd.qaI HG22.out)
 have KA23 := Aside0.mk (qal KA22.out)
 have Z23_22 := Aside0.mk (show (w22).drew.heap.size = (w22).heap.size from rfl)
 go_region_held3 (fun W => W.cell? ⟨(w).heap.size, 0, none⟩ = some (.string a) ∧ W.cell? ⟨(w).heap.size, 1, none⟩ = some (.string b) ∧ W.cell? ⟨(w).heap.size, 2, none⟩ = some (.int .i64 n) ∧ W.cell? ⟨(w).heap.size, 3, none⟩ = some (.slice A3 l3.length c3) ∧ W.cell? ⟨(w).heap.size, 4, none⟩ = some (.int .i64 s))
  (first | exact ⟨bA_0_22, bA_1_22, bA_2_22, bA_3_22, bA_4_22⟩ | exact ⟨dA_0_24, dA_1_24, dA_2_24, dA_3_24, dA_4_24⟩ | exact ⟨dA_0_25, dA_1_25, dA_2_25, dA_3_25, dA_4_25⟩ | exact ⟨dA_0_26, dA_1_26, dA_2_26, dA_3_26, dA_4_26⟩)
  (first
   | (go_at_call 13; refine (qa5.calls (hr0 := Kd.qbe HR0.out HB23.out) (hc0 := hc0) (h := Aht0.out)).mono ?_; rintro e w24 ⟨v24_0, rfl, ho24_0, hb24⟩; have hb24 := (show Below ((w22).drew).heap.size ((w22).drew) w24 from by first | exact hb24 | exact hb24.below); obtain ⟨A24T3, c24T3, rfl, _, _⟩ := Kd.qcD ho24_0; have nho24_0 := Aside0.mk (Kd.qbp (Kd.qbs (Kd.qb3 ho24_0) (fun k hk => (show ((w22).drew).heap.size ≤ k ∧ k < w24.heap.size from ⟨hk.2.1, hk.2.2.1⟩))) HB23.out.size); have HB24 := Aside0.mk (qag HB23.out hb24); have HW24 := Aside0.mk (Kd.qaR HW23.out hb24); have HG24 := Aside0.mk (Kd.qaR HG23.out hb24); have KA24 := Aside0.mk (qao KA23.out hb24); have Z24_23 := Aside0.mk (show ((w22).drew).heap.size ≤ w24.heap.size from hb24.size); have dA_0_24 := qad KA24.out 0; have dA_1_24 := qad KA24.out 1; have dA_2_24 := qad KA24.out 2; have dA_3_24 := qad KA24.out 3; have dA_4_24 := qad KA24.out 4; simp only [List.getElem?_toArray, List.getElem?_cons_zero, List.getElem?_cons_succ] at dA_0_24 dA_1_24 dA_2_24 dA_3_24 dA_4_24; dsimp only)
   | (go_at_call 29; refine (qbD.calls (hr0_3 := Kd.qbe HR3.out HB24.out) (hc0_3 := hc3) (h := Aht1.out)).mono ?_; rintro e w25 ⟨v25_0, rfl, ho25_0, hb25⟩; have hb25 := (show Below (w24).heap.size (w24) w25 from by first | exact hb25 | exact hb25.below); obtain ⟨A25T4, c25T4, rfl, _, _⟩ := Kd.qcD ho25_0; have nho25_0 := Aside0.mk (Kd.qbp (Kd.qbs (Kd.qb3 ho25_0) (fun k hk => (show (w24).heap.size ≤ k ∧ k < w25.heap.size from ⟨hk.2.1, hk.2.2.1⟩))) HB24.out.size); have HB25 := Aside0.mk (qag HB24.out hb25); have HW25 := Aside0.mk (Kd.qaR HW24.out hb25); have HG25 := Aside0.mk (Kd.qaR HG24.out hb25); have HT325 := Aside0.mk (Kd.qaR nho24_0.out hb25); have KA25 := Aside0.mk (qao KA24.out hb25); have Z25_24 := Aside0.mk (show (w24).heap.size ≤ w25.heap.size from hb25.size); have dA_0_25 := qad KA25.out 0; have dA_1_25 := qad KA25.out 1; have dA_2_25 := qad KA25.out 2; have dA_3_25 := qad KA25.out 3; have dA_4_25 := qad KA25.out 4; simp only [List.getElem?_toArray, List.getElem?_cons_zero, List.getElem?_cons_succ] at dA_0_25 dA_1_25 dA_2_25 dA_3_25 dA_4_25; dsimp only)
   | (go_at_call 42; refine (qbh.calls (hr0 := (Kd.qaM HT325.out).2.2) (hc0 := (Kd.qaM HT325.out).2.1) (hr3_3 := (Kd.qaM nho25_0.out).2.2) (hc3_3 := (Kd.qaM nho25_0.out).2.1) (h := Ahim.out)).mono ?_; rintro e w26 ⟨v26_0, rfl, ho26_0, hb26⟩; have hb26 := (show Below (w25).heap.size (w25) w26 from by first | exact hb26 | exact hb26.below); obtain ⟨A26Q, c26Q, rfl, _, _⟩ := Kd.qcD ho26_0; have nho26_0 := Aside0.mk (Kd.qbp (Kd.qbs (Kd.qb3 ho26_0) (fun k hk => (show (w25).heap.size ≤ k ∧ k < w26.heap.size from ⟨hk.2.1, hk.2.2.1⟩))) HB25.out.size); have HB26 := Aside0.mk (qag HB25.out hb26); have HW26 := Aside0.mk (Kd.qaR HW25.out hb26); have HG26 := Aside0.mk (Kd.qaR HG25.out hb26); have HT326 := Aside0.mk (Kd.qaR HT325.out hb26); have HT426 := Aside0.mk (Kd.qaR nho25_0.out hb26); have KA26 := Aside0.mk (qao KA25.out hb26); have Z26_25 := Aside0.mk (show (w25).heap.size ≤ w26.heap.size from hb26.size); have dA_0_26 := qad KA26.out 0; have dA_1_26 := qad KA26.out 1; have dA_2_26 := qad KA26.out 2; have dA_3_26 := qad KA26.out 3; have dA_4_26 := qad KA26.out 4; simp only [List.getElem?_toArray, List.getElem?_cons_zero, List.getElem?_cons_succ] at dA_0_26 dA_1_26 dA_2_26 dA_3_26 dA_4_26; dsimp only)
   | fail)
 clear bA_0_22 bA_1_22 bA_2_22 bA_3_22 bA_4_22 dA_0_24 dA_1_24 dA_2_24 dA_3_24 dA_4_24 dA_0_25 dA_1_25 dA_2_25 dA_3_25 dA_4_25
 have bA_0_26 := qad KA26.out 0
 have bA_1_26 := qad KA26.out 1
 have bA_2_26 := qad KA26.out 2
 have bA_3_26 := qad KA26.out 3
 have bA_4_26 := qad KA26.out 4
 simp only [List.getElem?_toArray, List.getElem?_cons_zero, List.getElem?_cons_succ] at bA_0_26 bA_1_26 bA_2_26 bA_3_26 bA_4_26
 go_wp2_with fail
 clear bA_0_26 bA_1_26 bA_2_26 bA_3_26 bA_4_26
 refine (qaV.calls (hr0 := (Kd.qaM nho26_0.out).2.2) (hc0 := (Kd.qaM nho26_0.out).2.1) (hr1 := (Kd.qaM HW26.out).2.2) (hc1 := (Kd.qaM HW26.out).2.1) (h := AheR.out)).mono ?_
 rintro e w27 ⟨rfl, hb27⟩
 have hb27 := (show Below (w26).heap.size (w26) w27 from by first | exact hb27 | exact hb27.below)
 have HB27 := Aside0.mk (qag HB26.out hb27)
 have HW27 := Aside0.mk (Kd.qaR HW26.out hb27)
 have HG27 := Aside0.mk (Kd.qaR HG26.out hb27)
 have HT327 := Aside0.mk (Kd.qaR HT326.out hb27)
 have HT427 := Aside0.mk (Kd.qaR HT426.out hb27)
 have HQ27 := Aside0.mk (Kd.qaR nho26_0.out hb27)
 have KA27 := Aside0.mk (qao KA26.out hb27)
 have Z27_26 := Aside0.mk (show (w26).heap.size ≤ w27.heap.size from hb27.size)
 clear hb27 HB26 HW26 HG26 HT326 HT426 nho26_0 KA26
 have bA_0_27 := qad KA27.out 0
 have bA_1_27 := qad KA27.out 1
 have bA_2_27 := qad KA27.out 2
 have bA_3_27 := qad KA27.out 3
 have bA_4_27 := qad KA27.out 4
 simp only [List.getElem?_toArray, List.getElem?_cons_zero, List.getElem?_cons_succ] at bA_0_27 bA_1_27 bA_2_27 bA_3_27 bA_4_27
 go_wp2_with fail
 clear bA_0_27 bA_1_27 bA_2_27 bA_3_27 bA_4_27
 have hl27 := (Kd.qaM HG27.out).1
 have hh27 := qaZ.calls (A0 := A11G) (c0 := c11G) (hr0 := by exact (Kd.qaM HG27.out).2.2) (hc0 := by rw [← hl27]; exact (Kd.qaM HG27.out).2.1) (h := Ahh.out)
 rw [← hl27] at hh27
 clear hl27
 refine (hh27).mono ?_
 rintro e w28 ⟨rfl, hb28⟩
 have hb28 := (show Below (w27).heap.size (w27) w28 from by first | exact hb28 | exact hb28.below)
 have HB28 := Aside0.mk (qag HB27.out hb28)
 have HW28 := Aside0.mk (Kd.qaR HW27.out hb28)
 have HG28 := Aside0.mk (Kd.qaR HG27.out hb28)
 have HT328 := Aside0.mk (Kd.qaR HT327.out hb28)
 have HT428 := Aside0.mk (Kd.qaR HT427.out hb28)
 have HQ28 := Aside0.mk (Kd.qaR HQ27.out hb28)
 have KA28 := Aside0.mk (qao KA27.out hb28)
 have Z28_27 := Aside0.mk (show (w27).heap.size ≤ w28.heap.size from hb28.size)
 clear hb28 HB27 HW27 HG27 HT327 HT427 HQ27 KA27
 clear hh27
 have bA_0_28 := qad KA28.out 0
 have bA_1_28 := qad KA28.out 1
 have bA_2_28 := qad KA28.out 2
 have bA_3_28 := qad KA28.out 3
 have bA_4_28 := qad KA28.out 4
 simp only [List.getElem?_toArray, List.getElem?_cons_zero, List.getElem?_cons_succ] at bA_0_28 bA_1_28 bA_2_28 bA_3_28 bA_4_28
 go_wp2_with fail
 clear bA_0_28 bA_1_28 bA_2_28 bA_3_28 bA_4_28
 go_ret
 exact ⟨rfl, HB28.out⟩
open Classical in
noncomputable def qbF.f (l0 : List S73) (a1 : ByteArray) (a2 : Int) (a3_0 : ByteArray) (a3_1 : ByteArray) (a3_2 : Int) (l3_3 : List S85) (a3_4 : Int) : Option Bool := if (l0.length ≤ maxLen ∧ ∀ y ∈ l0, wl73 y) ∧ wl44 ⟨a3_0, a3_1, a3_2, l3_3, a3_4⟩ then some true else none
theorem qbF.calls (A0 : Option Addr) (c0 : Nat) (l0 : List (S73)) (a1 : ByteArray) (a2 : Int) (a3_0 : ByteArray) (a3_1 : ByteArray) (a3_2 : Int) (A3_3 : Option Addr) (c3_3 : Nat) (l3_3 : List (S85)) (a3_4 : Int) (r : Bool) (w : World) (hr0 : Kd.C k73 w A0 l0.length l0) (hc0 : l0.length ≤ c0) (hr3_3 : Kd.C k85 w A3_3 l3_3.length l3_3) (hc3_3 : l3_3.length ≤ c3_3) (h : qbF.f l0 a1 a2 a3_0 a3_1 a3_2 l3_3 a3_4 = some r) :
  Calls Try.prog 9 #[.slice A0 l0.length c0, .string a1, .int .i64 a2, .agg #[.string a3_0, .string a3_1, .int .i64 a3_2, .slice A3_3 l3_3.length c3_3, .int .i64 a3_4]] w fun e w' => e = .returned (.bool r) ∧ Below w.heap.size w w' := by
 unfold qbF.f at h
 by_cases hw : (l0.length ≤ maxLen ∧ ∀ y ∈ l0, wl73 y) ∧ wl44 ⟨a3_0, a3_1, a3_2, l3_3, a3_4⟩
 ·rw [if_pos hw] at h
  obtain rfl := Option.some.inj h
  clear h
  by_cases hk : 1048576 < a1.size
  ·exact qfy A0 c0 l0 a1 a2 a3_0 a3_1 a3_2 A3_3 c3_3 l3_3 a3_4 w hr0 hc0 hr3_3 hc3_3 hk
  obtain ⟨z0, hz0, hq0⟩ := sz_PairS l0 hw.1 1048576 1048576 (by omega) (by omega) (by omega)
  obtain ⟨kz0, hz0⟩ := Ev.rounds hz0
  by_cases hz0n : z0 < 0
  ·exact qfz kz0 z0 A0 c0 l0 a1 a2 a3_0 a3_1 a3_2 A3_3 c3_3 l3_3 a3_4 w hr0 hc0 hr3_3 hc3_3 (by omega) hz0 hz0n
  obtain ⟨z1, hz1, hq1⟩ := qib ⟨a3_0, a3_1, a3_2, l3_3, a3_4⟩ hw.2 1048576 z0 (by omega) (hq0 (by omega)).1 (by omega)
  obtain ⟨kz1, hz1⟩ := Ev.rounds hz1
  by_cases hz1n : z1 < 0
  ·exact qfA kz0 kz1 z0 z1 A0 c0 l0 a1 a2 a3_0 a3_1 a3_2 A3_3 c3_3 l3_3 a3_4 w hr0 hc0 hr3_3 hc3_3 (by omega) hz0 hz0n hz1 hz1n
  have hs0 := (hq0 (by omega)).2
  have hs1 := (hq1 (by omega)).2
  obtain ⟨kt0, ht0⟩ := Ev.rounds (to_PairS l0 hs0)
  obtain ⟨kt1, ht1⟩ := Ev.rounds (qia ⟨a3_0, a3_1, a3_2, l3_3, a3_4⟩ hs1)
  have n0 : (l0.map cv73).length ≤ 1048576 := by rw [List.length_map]; have := hs0.1; omega
  have n1 : (l3_3.map cv85).length ≤ 1048576 := by rw [List.length_map]; have := hs1.2.2.2.1.1; simp only at this; omega
  simp only at ht1
  generalize l0.map cv73 = x at *
  generalize l3_3.map cv85 = y at *
  have hn := qeV x a1 a2 a3_0 a3_1 a3_2 y a3_4
  obtain ⟨ki, him⟩ := Ev.rounds (qf6 x a1 a2 a3_0 a3_1 a3_2 y a3_4 (by omega))
  obtain ⟨ks, hsp⟩ := Ev.rounds (qf7 x a1 a2 a3_0 a3_1 a3_2 y a3_4 (by omega))
  generalize qds x a1 a2 a3_0 a3_1 a3_2 y a3_4 = R at *
  obtain ⟨R, code⟩ := R
  simp only at hn
  obtain ⟨ke0, he0⟩ := Ev.rounds (qgU x ⟨by omega, fun y _ => ⟨trivial, trivial⟩⟩)
  obtain ⟨keR, heR⟩ := Ev.rounds (qgU R ⟨by omega, fun y _ => ⟨trivial, trivial⟩⟩)
  obtain ⟨ke1, he1⟩ := Ev.rounds (qh9 ⟨a3_0, a3_1, a3_2, y, a3_4⟩ ⟨trivial, trivial, trivial, ⟨by simp only; omega, fun y _ => ⟨trivial, trivial, trivial, trivial, trivial⟩⟩, trivial⟩)
  obtain ⟨km0, hm0⟩ := Ev.rounds (qe6 x 1 (by omega) (by omega) (by omega))
  have hmB : Ev (fun k => qbK.f k a3_0 a3_1 a3_2 y a3_4 (1 + 2 * (x.length : Int))) (1 + 2 * (x.length : Int) + 5 * (y.length : Int), qdj y (1 + 2 * (x.length : Int))) := by
   unfold qbK.f
   exact Ev.bind (qhb y (1 + 2 * (x.length : Int)) (by omega) (by omega) (by omega)) (Ev.is rfl)
  obtain ⟨km1, hm1⟩ := Ev.rounds hmB
  obtain ⟨kR, hmR⟩ := Ev.rounds (qe6 R 1 (by omega) (by omega) (by omega))
  obtain ⟨kh, hh⟩ := Ev.rounds (qha R 1 (by omega) (by omega) (by omega))
  simp only at he1
  exact qgG kz0 kz1 kt0 kt1 ks ki keR ke0 ke1 km0 km1 kR kh z0 z1 A0 c0 l0 a1 a2 a3_0 a3_1 a3_2 A3_3 c3_3 l3_3 a3_4 x y R code _ _ _ _ _ _ w hr0 hc0 hr3_3 hc3_3 (by omega) hz0 hz0n hz1 hz1n ht0 ht1 hsp him heR he0 he1 hm0 hm1 hmR hh (by omega) (by omega)
 ·rw [if_neg hw] at h
  cases h
end Go.Proofs.Ytgcncphdjabjjaa.X
