import Derived.Test.YtenfomejccfkgaaKFnExactSuperBytes4
import Derived.Test.YtenfomejccfkgaaKFnExactSuperBytes5
import Derived.Test.YtenfomejccfkgaaKFnExactSuperBytes19
import Derived.Test.YtenfomejccfkgaaKFnExactSuperBytes20
import Derived.Test.YtenfomejccfkgaaKFnExactSuperBytes22
import Derived.Test.YtenfomejccfkgaaKFnExactSuperBytes23
import Derived.Test.YtenfomejccfkgaaKFnExactSuperBytes24
import Derived.Test.YtenfomejccfkgaaKFnExactSuperBytes25
import Derived.Test.YtenfomejccfkgaaKFnExactSuperBytes27
import Derived.Test.YtenfomejccfkgaaKFnExactSuperBytes28
import Derived.LoopTactic
import Derived.WalkSpells
import Derived.Deep.RegionHeld3
namespace Go.Proofs.Ytenfomejccfkgaa.X
open Go.RowKit Go.Proofs.YtenfomejccfkgaaW.PrintWords Go.Proofs.YtenfomejccfkgaaW.PrintLast Go.Proofs.YtenfomejccfkgaaW.PrintMore
attribute [local go_sem] xbin_geq xbin_leq xbin_gtr max2_int min2_int max_two min_two max_three min_three max_four min_four
set_option linter.unusedVariables false
set_option linter.unusedSimpArgs false
set_option maxHeartbeats 8000000 in
set_option maxRecDepth 100000 in
theorem small_SuperBytes (kz : Nat) (z : Int) (a b : Int) (A2 : Option Addr) (c2 : Nat) (l : List S191) (w : World) (hr2 : Kd.C k191 w A2 l.length l) (hc2 : l.length ≤ c2) (hz : laws_szSuper.f kz a b l 1048576 = some z) (hzn : z < 0) :
    Calls Try.prog 12 #[.agg #[.int .i64 a, .int .i64 b, .slice A2 l.length c2]] w fun e w' => e = .returned (.bool true) ∧ Below w.heap.size w w' := by
  have t1 : decide (z < 0) = true := decide_eq_true hzn
  have hu := Try.underlying83
  have hu2 := Try.underlying78
  have HR2 := Aside0.mk hr2
  have Ahz := Aside0.mk hz
  have HBi := Aside0.mk (Below.refl w.heap.size w)
  clear hr2 hz
  have HB1 := Aside0.mk (below_alloc HBi.out (.cells #[.int .i64 a, .int .i64 b, .slice A2 l.length c2] 78 (0, 0)))
  have KA1 := Aside0.mk (blk_new w (.cells #[.int .i64 a, .int .i64 b, .slice A2 l.length c2] 78 (0, 0)))
  have Z1_0 := Aside0.mk (show (w.alloc (.cells #[.int .i64 a, .int .i64 b, .slice A2 l.length c2] 78 (0, 0))).heap.size = (w).heap.size + 1 from by show ((w).heap.push _).size = _; rw [Array.size_push])
  clear HBi
  go_enter Try.func12, Try.ntmps12
  go_wp2_with fail
  refine (laws_szSuper.calls (hr0_2 := Kd.C_below HR2.out HB1.out) (hc0_2 := hc2) (h := Ahz.out)).mono ?_
  rintro e w2 ⟨rfl, hb2⟩
  have hb2 := (show Below ((w.alloc (.cells #[.int .i64 a, .int .i64 b, .slice A2 l.length c2] 78 (0, 0)))).heap.size ((w.alloc (.cells #[.int .i64 a, .int .i64 b, .slice A2 l.length c2] 78 (0, 0)))) w2 from by first | exact hb2 | exact hb2.below)
  have HB2 := Aside0.mk (below_step HB1.out hb2)
  have KA2 := Aside0.mk (blk_below KA1.out hb2)
  have Z2_1 := Aside0.mk (show ((w.alloc (.cells #[.int .i64 a, .int .i64 b, .slice A2 l.length c2] 78 (0, 0)))).heap.size ≤ w2.heap.size from hb2.size)
  clear hb2 HB1 KA1
  have bA_0_2 := blk_cell KA2.out 0
  have bA_1_2 := blk_cell KA2.out 1
  have bA_2_2 := blk_cell KA2.out 2
  simp only [List.getElem?_toArray, List.getElem?_cons_zero, List.getElem?_cons_succ] at bA_0_2 bA_1_2 bA_2_2
  go_wp2_with fail
  clear bA_0_2 bA_1_2 bA_2_2
  go_ret
  exact ⟨rfl, HB2.out⟩
set_option maxHeartbeats 8000000 in
set_option maxRecDepth 100000 in
theorem walk_SuperBytes (kz kt ks keR keX kmX kh : Nat) (z : Int) (a b : Int) (A2 : Option Addr) (c2 : Nat) (l : List S191) (x : List S192) (R : List Int) (code : Int) (mX : Int) (lX : List S192) (w : World) (hr2 : Kd.C k191 w A2 l.length l) (hc2 : l.length ≤ c2) (hz : laws_szSuper.f kz a b l 1048576 = some z) (hzn : ¬ z < 0)
    (ht : laws_toSuper.f kt a b l = some (a, b, x)) (hsp : spec_SuperBytes.f ks a b x = some (R, code)) (him : superR a b x = (R, code)) (heR : laws_eqByteS.f keR R R = some true) (heX : laws_eqSuper.f keX a b x a b x = some true) (hmX : laws_markSuper.f kmX a b x 1 = some (mX, lX)) (hh : laws_heldByteS.f kh (mk_ByteS R 1) 1 = some (1 + (R.length : Int))) (hmXn : ¬ mX < 0) (hxl : x.length ≤ 1000000000) (hRl : (R.length : Int) ≤ 4611686018427387000) :
    Calls Try.prog 12 #[.agg #[.int .i64 a, .int .i64 b, .slice A2 l.length c2]] w fun e w' => e = .returned (.bool true) ∧ Below w.heap.size w w' := by
  have t1 : decide (z < 0) = false := decide_eq_false hzn
  have t2 : decide (mX < 0) = false := decide_eq_false hmXn
  have t5 : (code != code) = false := bne_self_eq_false _
  obtain ⟨m, hm⟩ : ∃ m : Int, m = 1 + (R.length : Int) := ⟨_, rfl⟩
  rw [← hm] at hh
  have HM := Aside0.mk hm
  have t4 : decide (m < 0) = false := decide_eq_false (by omega)
  have t6 : (m != m) = false := bne_self_eq_false _
  have HRL := Aside0.mk hRl
  have HXL := Aside0.mk hxl
  clear hm hRl hxl
  have hu := Try.underlying83
  have hu2 := Try.underlying78
  have HR2 := Aside0.mk hr2
  have Ahz := Aside0.mk hz
  have Aht := Aside0.mk ht
  have Ahsp := Aside0.mk hsp
  have Ahim := Aside0.mk him
  have AheR := Aside0.mk heR
  have AheX := Aside0.mk heX
  have AhmX := Aside0.mk hmX
  have Ahh := Aside0.mk hh
  have HBi := Aside0.mk (Below.refl w.heap.size w)
  clear hr2 hz ht hsp him heR heX hmX hh
  have HB1 := Aside0.mk (below_alloc HBi.out (.cells #[.int .i64 a, .int .i64 b, .slice A2 l.length c2] 78 (0, 0)))
  have KA1 := Aside0.mk (blk_new w (.cells #[.int .i64 a, .int .i64 b, .slice A2 l.length c2] 78 (0, 0)))
  have Z1_0 := Aside0.mk (show (w.alloc (.cells #[.int .i64 a, .int .i64 b, .slice A2 l.length c2] 78 (0, 0))).heap.size = (w).heap.size + 1 from by show ((w).heap.push _).size = _; rw [Array.size_push])
  clear HBi
  go_enter Try.func12, Try.ntmps12
  go_wp2_with fail
  refine (laws_szSuper.calls (hr0_2 := Kd.C_below HR2.out HB1.out) (hc0_2 := hc2) (h := Ahz.out)).mono ?_
  rintro e w2 ⟨rfl, hb2⟩
  have hb2 := (show Below ((w.alloc (.cells #[.int .i64 a, .int .i64 b, .slice A2 l.length c2] 78 (0, 0)))).heap.size ((w.alloc (.cells #[.int .i64 a, .int .i64 b, .slice A2 l.length c2] 78 (0, 0)))) w2 from by first | exact hb2 | exact hb2.below)
  have HB2 := Aside0.mk (below_step HB1.out hb2)
  have KA2 := Aside0.mk (blk_below KA1.out hb2)
  have Z2_1 := Aside0.mk (show ((w.alloc (.cells #[.int .i64 a, .int .i64 b, .slice A2 l.length c2] 78 (0, 0)))).heap.size ≤ w2.heap.size from hb2.size)
  clear hb2 HB1 KA1
  have bA_0_2 := blk_cell KA2.out 0
  have bA_1_2 := blk_cell KA2.out 1
  have bA_2_2 := blk_cell KA2.out 2
  simp only [List.getElem?_toArray, List.getElem?_cons_zero, List.getElem?_cons_succ] at bA_0_2 bA_1_2 bA_2_2
  go_wp2_with fail
  clear bA_0_2 bA_1_2 bA_2_2
  refine (laws_toSuper.calls (hr0_2 := Kd.C_below HR2.out HB2.out) (hc0_2 := hc2) (h := Aht.out)).mono ?_
  rintro e w3 ⟨v3_0, rfl, ho3_0, hb3⟩
  have hb3 := (show Below (w2).heap.size (w2) w3 from by first | exact hb3 | exact hb3.below)
  obtain ⟨A3X0, c3X0, rfl, _, _⟩ := Kd.R_reads ho3_0
  have nho3_0 := Aside0.mk (Kd.R_lower (Kd.R_mono (Kd.R_bound ho3_0) (fun k hk => (show (w2).heap.size ≤ k ∧ k < w3.heap.size from ⟨hk.2.1, hk.2.2.1⟩))) HB2.out.size)
  have HB3 := Aside0.mk (below_step HB2.out hb3)
  have KA3 := Aside0.mk (blk_below KA2.out hb3)
  have Z3_2 := Aside0.mk (show (w2).heap.size ≤ w3.heap.size from hb3.size)
  clear hb3 ho3_0 HB2 KA2
  have bA_0_3 := blk_cell KA3.out 0
  have bA_1_3 := blk_cell KA3.out 1
  have bA_2_3 := blk_cell KA3.out 2
  simp only [List.getElem?_toArray, List.getElem?_cons_zero, List.getElem?_cons_succ] at bA_0_3 bA_1_3 bA_2_3
  go_wp2_with fail
  clear bA_0_3 bA_1_3 bA_2_3
  refine (spec_SuperBytes.calls (hr0_2 := (Kd.R_reads' nho3_0.out).2.2) (hc0_2 := (Kd.R_reads' nho3_0.out).2.1) (h := Ahsp.out)).mono ?_
  rintro e w4 ⟨v4_0, rfl, ho4_0, hb4⟩
  have hb4 := (show Below (w3).heap.size (w3) w4 from by first | exact hb4 | exact hb4.below)
  obtain ⟨A4W, c4W, rfl, _, _⟩ := Kd.R_reads ho4_0
  have nho4_0 := Aside0.mk (Kd.R_lower (Kd.R_mono (Kd.R_bound ho4_0) (fun k hk => (show (w3).heap.size ≤ k ∧ k < w4.heap.size from ⟨hk.2.1, hk.2.2.1⟩))) HB3.out.size)
  have HB4 := Aside0.mk (below_step HB3.out hb4)
  have HX04 := Aside0.mk (Kd.R_below nho3_0.out hb4)
  have KA4 := Aside0.mk (blk_below KA3.out hb4)
  have Z4_3 := Aside0.mk (show (w3).heap.size ≤ w4.heap.size from hb4.size)
  clear hb4 ho4_0 HB3 nho3_0 KA3
  have bA_0_4 := blk_cell KA4.out 0
  have bA_1_4 := blk_cell KA4.out 1
  have bA_2_4 := blk_cell KA4.out 2
  simp only [List.getElem?_toArray, List.getElem?_cons_zero, List.getElem?_cons_succ] at bA_0_4 bA_1_4 bA_2_4
  go_wp2_with fail
  clear bA_0_4 bA_1_4 bA_2_4
  refine (laws_toSuper.calls (hr0_2 := Kd.C_below HR2.out HB4.out) (hc0_2 := hc2) (h := Aht.out)).mono ?_
  rintro e w5 ⟨v5_0, rfl, ho5_0, hb5⟩
  have hb5 := (show Below (w4).heap.size (w4) w5 from by first | exact hb5 | exact hb5.below)
  obtain ⟨A5X, c5X, rfl, _, _⟩ := Kd.R_reads ho5_0
  have nho5_0 := Aside0.mk (Kd.R_lower (Kd.R_mono (Kd.R_bound ho5_0) (fun k hk => (show (w4).heap.size ≤ k ∧ k < w5.heap.size from ⟨hk.2.1, hk.2.2.1⟩))) HB4.out.size)
  have HB5 := Aside0.mk (below_step HB4.out hb5)
  have HW5 := Aside0.mk (Kd.R_below nho4_0.out hb5)
  have KA5 := Aside0.mk (blk_below KA4.out hb5)
  have Z5_4 := Aside0.mk (show (w4).heap.size ≤ w5.heap.size from hb5.size)
  clear hb5 ho5_0 HB4 nho4_0 KA4
  have HB6 := Aside0.mk (below_alloc HB5.out (.cells #[.int .i64 a, .int .i64 b, .slice A5X x.length c5X] 83 (0, 0)))
  have HW6 := Aside0.mk (Kd.R_alloc HW5.out (.cells #[.int .i64 a, .int .i64 b, .slice A5X x.length c5X] 83 (0, 0)))
  have HX6 := Aside0.mk (Kd.R_alloc nho5_0.out (.cells #[.int .i64 a, .int .i64 b, .slice A5X x.length c5X] 83 (0, 0)))
  have KA6 := Aside0.mk (blk_alloc KA5.out (.cells #[.int .i64 a, .int .i64 b, .slice A5X x.length c5X] 83 (0, 0)))
  have KB6 := Aside0.mk (blk_new w5 (.cells #[.int .i64 a, .int .i64 b, .slice A5X x.length c5X] 83 (0, 0)))
  have Z6_5 := Aside0.mk (show (w5.alloc (.cells #[.int .i64 a, .int .i64 b, .slice A5X x.length c5X] 83 (0, 0))).heap.size = (w5).heap.size + 1 from by show ((w5).heap.push _).size = _; rw [Array.size_push])
  clear HB5 HW5 nho5_0 KA5
  have bA_0_6 := blk_cell KA6.out 0
  have bA_1_6 := blk_cell KA6.out 1
  have bA_2_6 := blk_cell KA6.out 2
  have bB_0_6 := blk_cell KB6.out 0
  have bB_1_6 := blk_cell KB6.out 1
  have bB_2_6 := blk_cell KB6.out 2
  simp only [List.getElem?_toArray, List.getElem?_cons_zero, List.getElem?_cons_succ] at bA_0_6 bA_1_6 bA_2_6 bB_0_6 bB_1_6 bB_2_6
  go_wp2_with fail
  clear bA_0_6 bA_1_6 bA_2_6 bB_0_6 bB_1_6 bB_2_6
  refine (implSuperBytes_at a b A5X c5X x R code _ (Kd.R_reads' HX6.out).2.2 (Kd.R_reads' HX6.out).2.1 HXL.out Ahim.out).mono ?_
  rintro e w7 ⟨v7_0, rfl, ho7_0, hb7⟩
  have hb7 := (show Below ((w5.alloc (.cells #[.int .i64 a, .int .i64 b, .slice A5X x.length c5X] 83 (0, 0)))).heap.size ((w5.alloc (.cells #[.int .i64 a, .int .i64 b, .slice A5X x.length c5X] 83 (0, 0)))) w7 from by first | exact hb7 | exact hb7.below)
  obtain ⟨A7G, c7G, rfl, _, _⟩ := BR.reads ho7_0
  have nho7_0 := Aside0.mk (BR.lower (BR.mono ho7_0 (fun k _ h1 h2 => (show ((w5.alloc (.cells #[.int .i64 a, .int .i64 b, .slice A5X x.length c5X] 83 (0, 0)))).heap.size ≤ k ∧ k < w7.heap.size from ⟨h1, h2⟩))) HB6.out.size)
  have HB7 := Aside0.mk (below_step HB6.out hb7)
  have HW7 := Aside0.mk (Kd.R_below HW6.out hb7)
  have HX7 := Aside0.mk (Kd.R_below HX6.out hb7)
  have KA7 := Aside0.mk (blk_below KA6.out hb7)
  have KB7 := Aside0.mk (blk_below KB6.out hb7)
  have Z7_6 := Aside0.mk (show ((w5.alloc (.cells #[.int .i64 a, .int .i64 b, .slice A5X x.length c5X] 83 (0, 0)))).heap.size ≤ w7.heap.size from hb7.size)
  clear hb7 ho7_0 HB6 HW6 HX6 KA6 KB6
  have bA_0_7 := blk_cell KA7.out 0
  have bA_1_7 := blk_cell KA7.out 1
  have bA_2_7 := blk_cell KA7.out 2
  have bB_0_7 := blk_cell KB7.out 0
  have bB_1_7 := blk_cell KB7.out 1
  have bB_2_7 := blk_cell KB7.out 2
  simp only [List.getElem?_toArray, List.getElem?_cons_zero, List.getElem?_cons_succ] at bA_0_7 bA_1_7 bA_2_7 bB_0_7 bB_1_7 bB_2_7
  go_wp2_with fail
  clear bA_0_7 bA_1_7 bA_2_7 bB_0_7 bB_1_7 bB_2_7
  refine (laws_eqByteS.calls (hr0 := (BR.reads2 nho7_0.out).2.2) (hc0 := (BR.reads2 nho7_0.out).2.1) (hr1 := (Kd.R_reads' HW7.out).2.2) (hc1 := (Kd.R_reads' HW7.out).2.1) (h := AheR.out)).mono ?_
  rintro e w8 ⟨rfl, hb8⟩
  have hb8 := (show Below (w7).heap.size (w7) w8 from by first | exact hb8 | exact hb8.below)
  have HB8 := Aside0.mk (below_step HB7.out hb8)
  have HW8 := Aside0.mk (Kd.R_below HW7.out hb8)
  have HX8 := Aside0.mk (Kd.R_below HX7.out hb8)
  have HG8 := Aside0.mk (BR.below nho7_0.out hb8)
  have KA8 := Aside0.mk (blk_below KA7.out hb8)
  have KB8 := Aside0.mk (blk_below KB7.out hb8)
  have Z8_7 := Aside0.mk (show (w7).heap.size ≤ w8.heap.size from hb8.size)
  clear hb8 HB7 HW7 HX7 nho7_0 KA7 KB7
  have bA_0_8 := blk_cell KA8.out 0
  have bA_1_8 := blk_cell KA8.out 1
  have bA_2_8 := blk_cell KA8.out 2
  have bB_0_8 := blk_cell KB8.out 0
  have bB_1_8 := blk_cell KB8.out 1
  have bB_2_8 := blk_cell KB8.out 2
  simp only [List.getElem?_toArray, List.getElem?_cons_zero, List.getElem?_cons_succ] at bA_0_8 bA_1_8 bA_2_8 bB_0_8 bB_1_8 bB_2_8
  go_wp2_with fail
  have HB9 := Aside0.mk (below_drew HB8.out)
  have HW9 := Aside0.mk (Kd.R_drew HW8.out)
  have HX9 := Aside0.mk (Kd.R_drew HX8.out)
  have HG9 := Aside0.mk (BR.drew HG8.out)
  have KA9 := Aside0.mk (blk_drew KA8.out)
  have KB9 := Aside0.mk (blk_drew KB8.out)
  have Z9_8 := Aside0.mk (show (w8).drew.heap.size = (w8).heap.size from rfl)
  go_region_held3 (fun W => W.cell? ⟨(w).heap.size, 0, none⟩ = some (.int .i64 a) ∧ W.cell? ⟨(w).heap.size, 1, none⟩ = some (.int .i64 b) ∧ W.cell? ⟨(w).heap.size, 2, none⟩ = some (.slice A2 l.length c2) ∧ W.cell? ⟨(w5).heap.size, 0, none⟩ = some (.int .i64 a) ∧ W.cell? ⟨(w5).heap.size, 1, none⟩ = some (.int .i64 b) ∧ W.cell? ⟨(w5).heap.size, 2, none⟩ = some (.slice A5X x.length c5X))
    (first | exact ⟨bA_0_8, bA_1_8, bA_2_8, bB_0_8, bB_1_8, bB_2_8⟩ | exact ⟨dA_0_10, dA_1_10, dA_2_10, dB_0_10, dB_1_10, dB_2_10⟩ | exact ⟨dA_0_11, dA_1_11, dA_2_11, dB_0_11, dB_1_11, dB_2_11⟩)
    (first
      | (go_at_call 56; refine (laws_toSuper.calls (hr0_2 := Kd.C_below HR2.out HB9.out) (hc0_2 := hc2) (h := Aht.out)).mono ?_; rintro e w10 ⟨v10_0, rfl, ho10_0, hb10⟩; have hb10 := (show Below ((w8).drew).heap.size ((w8).drew) w10 from by first | exact hb10 | exact hb10.below); obtain ⟨A10T1, c10T1, rfl, _, _⟩ := Kd.R_reads ho10_0; have nho10_0 := Aside0.mk (Kd.R_lower (Kd.R_mono (Kd.R_bound ho10_0) (fun k hk => (show ((w8).drew).heap.size ≤ k ∧ k < w10.heap.size from ⟨hk.2.1, hk.2.2.1⟩))) HB9.out.size); have HB10 := Aside0.mk (below_step HB9.out hb10); have HW10 := Aside0.mk (Kd.R_below HW9.out hb10); have HX10 := Aside0.mk (Kd.R_below HX9.out hb10); have HG10 := Aside0.mk (BR.below HG9.out hb10); have KA10 := Aside0.mk (blk_below KA9.out hb10); have KB10 := Aside0.mk (blk_below KB9.out hb10); have Z10_9 := Aside0.mk (show ((w8).drew).heap.size ≤ w10.heap.size from hb10.size); have dA_0_10 := blk_cell KA10.out 0; have dA_1_10 := blk_cell KA10.out 1; have dA_2_10 := blk_cell KA10.out 2; have dB_0_10 := blk_cell KB10.out 0; have dB_1_10 := blk_cell KB10.out 1; have dB_2_10 := blk_cell KB10.out 2; simp only [List.getElem?_toArray, List.getElem?_cons_zero, List.getElem?_cons_succ] at dA_0_10 dA_1_10 dA_2_10 dB_0_10 dB_1_10 dB_2_10; dsimp only)
      | (go_at_call 58; refine (laws_eqSuper.calls (hr0_2 := (Kd.R_reads' HX10.out).2.2) (hc0_2 := (Kd.R_reads' HX10.out).2.1) (hr1_2 := (Kd.R_reads' nho10_0.out).2.2) (hc1_2 := (Kd.R_reads' nho10_0.out).2.1) (h := AheX.out)).mono ?_; rintro e w11 ⟨rfl, hb11⟩; have hb11 := (show Below (w10).heap.size (w10) w11 from by first | exact hb11 | exact hb11.below); have HB11 := Aside0.mk (below_step HB10.out hb11); have HW11 := Aside0.mk (Kd.R_below HW10.out hb11); have HX11 := Aside0.mk (Kd.R_below HX10.out hb11); have HG11 := Aside0.mk (BR.below HG10.out hb11); have HT111 := Aside0.mk (Kd.R_below nho10_0.out hb11); have KA11 := Aside0.mk (blk_below KA10.out hb11); have KB11 := Aside0.mk (blk_below KB10.out hb11); have Z11_10 := Aside0.mk (show (w10).heap.size ≤ w11.heap.size from hb11.size); have dA_0_11 := blk_cell KA11.out 0; have dA_1_11 := blk_cell KA11.out 1; have dA_2_11 := blk_cell KA11.out 2; have dB_0_11 := blk_cell KB11.out 0; have dB_1_11 := blk_cell KB11.out 1; have dB_2_11 := blk_cell KB11.out 2; simp only [List.getElem?_toArray, List.getElem?_cons_zero, List.getElem?_cons_succ] at dA_0_11 dA_1_11 dA_2_11 dB_0_11 dB_1_11 dB_2_11; dsimp only)
      | fail)
  clear bA_0_8 bA_1_8 bA_2_8 bB_0_8 bB_1_8 bB_2_8 dA_0_10 dA_1_10 dA_2_10 dB_0_10 dB_1_10 dB_2_10
  have bA_0_11 := blk_cell KA11.out 0
  have bA_1_11 := blk_cell KA11.out 1
  have bA_2_11 := blk_cell KA11.out 2
  have bB_0_11 := blk_cell KB11.out 0
  have bB_1_11 := blk_cell KB11.out 1
  have bB_2_11 := blk_cell KB11.out 2
  simp only [List.getElem?_toArray, List.getElem?_cons_zero, List.getElem?_cons_succ] at bA_0_11 bA_1_11 bA_2_11 bB_0_11 bB_1_11 bB_2_11
  go_wp2_with fail
  clear bA_0_11 bA_1_11 bA_2_11 bB_0_11 bB_1_11 bB_2_11
  have ZA12 := Aside0.mk (And.intro Z1_0.out (And.intro Z2_1.out (And.intro Z3_2.out (And.intro Z4_3.out (And.intro Z5_4.out (And.intro Z6_5.out (And.intro Z7_6.out (And.intro Z8_7.out (And.intro Z9_8.out (And.intro Z10_9.out (Z11_10.out)))))))))))
  refine (laws_markSuper.calls (w0 := w) (hB := HB11.out) (ho0_2 := HX11.out) (h := AhmX.out)).mono ?_
  rintro e w12 ⟨rfl, hr12, hb12, hk12⟩
  have hr12 := Aside0.mk (Kd.R_reok (ok := (fun k => (w4).heap.size ≤ k ∧ k < w5.heap.size)) rfl hr12 (fun k hk => HX11.out.1 k hk))
  have HB12 := Aside0.mk (hb12)
  have HW12 := Aside0.mk (Kd.R_kept HW11.out hk12 (fun k hk h => (by have h1 := hk.1; have h2 := hk.2; have h3 := h.1; have h4 := h.2; have z := ZA12.out; omega)))
  have HG12 := Aside0.mk (BR.kept HG11.out hk12 (fun k hk h => (by have h1 := hk.1; have h2 := hk.2; have h3 := h.1; have h4 := h.2; have z := ZA12.out; omega)))
  have KA12 := Aside0.mk (blk_kept KA11.out hk12 (fun h => (by have h3 := h.1; have h4 := h.2; have z := ZA12.out; omega)))
  have KB12 := Aside0.mk (blk_kept KB11.out hk12 (fun h => (by have h3 := h.1; have h4 := h.2; have z := ZA12.out; omega)))
  have Z12_11 := Aside0.mk (show (w11).heap.size ≤ w12.heap.size from hk12.1)
  clear hb12 hk12 HB11 HW11 HG11 KA11 KB11 HX11
  have bA_0_12 := blk_cell KA12.out 0
  have bA_1_12 := blk_cell KA12.out 1
  have bA_2_12 := blk_cell KA12.out 2
  simp only [List.getElem?_toArray, List.getElem?_cons_zero, List.getElem?_cons_succ] at bA_0_12 bA_1_12 bA_2_12
  go_wp2_with fail
  clear bA_0_12 bA_1_12 bA_2_12
  refine (laws_eqByteS.calls (hr0 := (BR.reads2 HG12.out).2.2) (hc0 := (BR.reads2 HG12.out).2.1) (hr1 := (Kd.R_reads' HW12.out).2.2) (hc1 := (Kd.R_reads' HW12.out).2.1) (h := AheR.out)).mono ?_
  rintro e w13 ⟨rfl, hb13⟩
  have hb13 := (show Below (w12).heap.size (w12) w13 from by first | exact hb13 | exact hb13.below)
  have HB13 := Aside0.mk (below_step HB12.out hb13)
  have HW13 := Aside0.mk (Kd.R_below HW12.out hb13)
  have HG13 := Aside0.mk (BR.below HG12.out hb13)
  have KA13 := Aside0.mk (blk_below KA12.out hb13)
  have Z13_12 := Aside0.mk (show (w12).heap.size ≤ w13.heap.size from hb13.size)
  clear hb13 HB12 HW12 HG12 KA12
  have bA_0_13 := blk_cell KA13.out 0
  have bA_1_13 := blk_cell KA13.out 1
  have bA_2_13 := blk_cell KA13.out 2
  simp only [List.getElem?_toArray, List.getElem?_cons_zero, List.getElem?_cons_succ] at bA_0_13 bA_1_13 bA_2_13
  go_wp2_with fail
  clear bA_0_13 bA_1_13 bA_2_13
  have ZA14 := Aside0.mk (And.intro Z1_0.out (And.intro Z2_1.out (And.intro Z3_2.out (And.intro Z4_3.out (And.intro Z5_4.out (And.intro Z6_5.out (And.intro Z7_6.out (And.intro Z8_7.out (And.intro Z9_8.out (And.intro Z10_9.out (And.intro Z11_10.out (And.intro Z12_11.out (Z13_12.out)))))))))))))
  refine (markByteS_br _ A7G c7G R 1 w w13 HB13.out HG13.out (by omega) (by have := HRL.out; omega)).mono ?_
  rintro e w14 ⟨rfl, hr14, hb14, hk14⟩
  have hr14 := Aside0.mk hr14
  have HB14 := Aside0.mk (hb14)
  have HW14 := Aside0.mk (Kd.R_kept HW13.out hk14 (fun k hk h => (by have h1 := hk.1; have h2 := hk.2; have h3 := h.1; have h4 := h.2; have z := ZA14.out; omega)))
  have KA14 := Aside0.mk (blk_kept KA13.out hk14 (fun h => (by have h3 := h.1; have h4 := h.2; have z := ZA14.out; omega)))
  have Z14_13 := Aside0.mk (show (w13).heap.size ≤ w14.heap.size from hk14.1)
  clear hb14 hk14 HB13 HW13 KA13 HG13
  rw [← HM.out]
  have bA_0_14 := blk_cell KA14.out 0
  have bA_1_14 := blk_cell KA14.out 1
  have bA_2_14 := blk_cell KA14.out 2
  simp only [List.getElem?_toArray, List.getElem?_cons_zero, List.getElem?_cons_succ] at bA_0_14 bA_1_14 bA_2_14
  go_wp2_with fail
  clear bA_0_14 bA_1_14 bA_2_14
  have hl14 := (BR.reads2 hr14.out).1
  have hh14 := laws_heldByteS.calls (A0 := A7G) (c0 := c7G) (hr0 := by exact (BR.reads2 hr14.out).2.2) (hc0 := by rw [← hl14]; exact (BR.reads2 hr14.out).2.1) (h := Ahh.out)
  rw [← hl14] at hh14
  clear hl14
  refine (hh14).mono ?_
  rintro e w15 ⟨rfl, hb15⟩
  have hb15 := (show Below (w14).heap.size (w14) w15 from by first | exact hb15 | exact hb15.below)
  have HB15 := Aside0.mk (below_step HB14.out hb15)
  have HW15 := Aside0.mk (Kd.R_below HW14.out hb15)
  have HG15 := Aside0.mk (BR.below hr14.out hb15)
  have KA15 := Aside0.mk (blk_below KA14.out hb15)
  have Z15_14 := Aside0.mk (show (w14).heap.size ≤ w15.heap.size from hb15.size)
  clear hb15 HB14 HW14 hr14 KA14
  clear hh14
  have bA_0_15 := blk_cell KA15.out 0
  have bA_1_15 := blk_cell KA15.out 1
  have bA_2_15 := blk_cell KA15.out 2
  simp only [List.getElem?_toArray, List.getElem?_cons_zero, List.getElem?_cons_succ] at bA_0_15 bA_1_15 bA_2_15
  go_wp2_with fail
  clear bA_0_15 bA_1_15 bA_2_15
  refine (laws_toSuper.calls (hr0_2 := Kd.C_below HR2.out HB15.out) (hc0_2 := hc2) (h := Aht.out)).mono ?_
  rintro e w16 ⟨v16_0, rfl, ho16_0, hb16⟩
  have hb16 := (show Below (w15).heap.size (w15) w16 from by first | exact hb16 | exact hb16.below)
  obtain ⟨A16T3, c16T3, rfl, _, _⟩ := Kd.R_reads ho16_0
  have nho16_0 := Aside0.mk (Kd.R_lower (Kd.R_mono (Kd.R_bound ho16_0) (fun k hk => (show (w15).heap.size ≤ k ∧ k < w16.heap.size from ⟨hk.2.1, hk.2.2.1⟩))) HB15.out.size)
  have HB16 := Aside0.mk (below_step HB15.out hb16)
  have HW16 := Aside0.mk (Kd.R_below HW15.out hb16)
  have HG16 := Aside0.mk (BR.below HG15.out hb16)
  have KA16 := Aside0.mk (blk_below KA15.out hb16)
  have Z16_15 := Aside0.mk (show (w15).heap.size ≤ w16.heap.size from hb16.size)
  clear hb16 ho16_0 HB15 HW15 HG15 KA15
  have bA_0_16 := blk_cell KA16.out 0
  have bA_1_16 := blk_cell KA16.out 1
  have bA_2_16 := blk_cell KA16.out 2
  simp only [List.getElem?_toArray, List.getElem?_cons_zero, List.getElem?_cons_succ] at bA_0_16 bA_1_16 bA_2_16
  go_wp2_with fail
  clear bA_0_16 bA_1_16 bA_2_16
  refine (implSuperBytes_at a b A16T3 c16T3 x R code _ (Kd.R_reads' nho16_0.out).2.2 (Kd.R_reads' nho16_0.out).2.1 HXL.out Ahim.out).mono ?_
  rintro e w17 ⟨v17_0, rfl, ho17_0, hb17⟩
  have hb17 := (show Below (w16).heap.size (w16) w17 from by first | exact hb17 | exact hb17.below)
  obtain ⟨A17Q, c17Q, rfl, _, _⟩ := BR.reads ho17_0
  have nho17_0 := Aside0.mk (BR.lower (BR.mono ho17_0 (fun k _ h1 h2 => (show (w16).heap.size ≤ k ∧ k < w17.heap.size from ⟨h1, h2⟩))) HB16.out.size)
  have HB17 := Aside0.mk (below_step HB16.out hb17)
  have HW17 := Aside0.mk (Kd.R_below HW16.out hb17)
  have HG17 := Aside0.mk (BR.below HG16.out hb17)
  have HT317 := Aside0.mk (Kd.R_below nho16_0.out hb17)
  have KA17 := Aside0.mk (blk_below KA16.out hb17)
  have Z17_16 := Aside0.mk (show (w16).heap.size ≤ w17.heap.size from hb17.size)
  clear hb17 ho17_0 HB16 HW16 HG16 nho16_0 KA16
  have bA_0_17 := blk_cell KA17.out 0
  have bA_1_17 := blk_cell KA17.out 1
  have bA_2_17 := blk_cell KA17.out 2
  simp only [List.getElem?_toArray, List.getElem?_cons_zero, List.getElem?_cons_succ] at bA_0_17 bA_1_17 bA_2_17
  go_wp2_with fail
  clear bA_0_17 bA_1_17 bA_2_17
  refine (laws_eqByteS.calls (hr0 := (BR.reads2 nho17_0.out).2.2) (hc0 := (BR.reads2 nho17_0.out).2.1) (hr1 := (Kd.R_reads' HW17.out).2.2) (hc1 := (Kd.R_reads' HW17.out).2.1) (h := AheR.out)).mono ?_
  rintro e w18 ⟨rfl, hb18⟩
  have hb18 := (show Below (w17).heap.size (w17) w18 from by first | exact hb18 | exact hb18.below)
  have HB18 := Aside0.mk (below_step HB17.out hb18)
  have HW18 := Aside0.mk (Kd.R_below HW17.out hb18)
  have HG18 := Aside0.mk (BR.below HG17.out hb18)
  have HQ18 := Aside0.mk (BR.below nho17_0.out hb18)
  have KA18 := Aside0.mk (blk_below KA17.out hb18)
  have Z18_17 := Aside0.mk (show (w17).heap.size ≤ w18.heap.size from hb18.size)
  clear hb18 HB17 HW17 HG17 nho17_0 KA17
  have bA_0_18 := blk_cell KA18.out 0
  have bA_1_18 := blk_cell KA18.out 1
  have bA_2_18 := blk_cell KA18.out 2
  simp only [List.getElem?_toArray, List.getElem?_cons_zero, List.getElem?_cons_succ] at bA_0_18 bA_1_18 bA_2_18
  go_wp2_with fail
  clear bA_0_18 bA_1_18 bA_2_18
  have hl18 := (BR.reads2 HG18.out).1
  have hh18 := laws_heldByteS.calls (A0 := A7G) (c0 := c7G) (hr0 := by exact (BR.reads2 HG18.out).2.2) (hc0 := by rw [← hl18]; exact (BR.reads2 HG18.out).2.1) (h := Ahh.out)
  rw [← hl18] at hh18
  clear hl18
  refine (hh18).mono ?_
  rintro e w19 ⟨rfl, hb19⟩
  have hb19 := (show Below (w18).heap.size (w18) w19 from by first | exact hb19 | exact hb19.below)
  have HB19 := Aside0.mk (below_step HB18.out hb19)
  have HW19 := Aside0.mk (Kd.R_below HW18.out hb19)
  have HG19 := Aside0.mk (BR.below HG18.out hb19)
  have HQ19 := Aside0.mk (BR.below HQ18.out hb19)
  have KA19 := Aside0.mk (blk_below KA18.out hb19)
  have Z19_18 := Aside0.mk (show (w18).heap.size ≤ w19.heap.size from hb19.size)
  clear hb19 HB18 HW18 HG18 HQ18 KA18
  clear hh18
  have bA_0_19 := blk_cell KA19.out 0
  have bA_1_19 := blk_cell KA19.out 1
  have bA_2_19 := blk_cell KA19.out 2
  simp only [List.getElem?_toArray, List.getElem?_cons_zero, List.getElem?_cons_succ] at bA_0_19 bA_1_19 bA_2_19
  go_wp2_with fail
  clear bA_0_19 bA_1_19 bA_2_19
  go_ret
  exact ⟨rfl, HB19.out⟩
open Classical in
noncomputable def laws_FnExactSuperBytes.f (a0_0 : Int) (a0_1 : Int) (l0_2 : List S191) : Option Bool := if wl78 ⟨a0_0, a0_1, l0_2⟩ ∧ (-9223372036854775808 ≤ a0_1 ∧ a0_1 ≤ 9223372036854775807) then some true else none
theorem laws_FnExactSuperBytes.calls (a0_0 : Int) (a0_1 : Int) (A0_2 : Option Addr) (c0_2 : Nat) (l0_2 : List (S191)) (r : Bool) (w : World) (hr0_2 : Kd.C k191 w A0_2 l0_2.length l0_2) (hc0_2 : l0_2.length ≤ c0_2) (h : laws_FnExactSuperBytes.f a0_0 a0_1 l0_2 = some r) :
    Calls Try.prog 12 #[.agg #[.int .i64 a0_0, .int .i64 a0_1, .slice A0_2 l0_2.length c0_2]] w fun e w' => e = .returned (.bool r) ∧ Below w.heap.size w w' := by
  unfold laws_FnExactSuperBytes.f at h
  by_cases hw : wl78 ⟨a0_0, a0_1, l0_2⟩ ∧ (-9223372036854775808 ≤ a0_1 ∧ a0_1 ≤ 9223372036854775807)
  · rw [if_pos hw] at h
    obtain rfl := Option.some.inj h
    clear h
    obtain ⟨z, hz, hq⟩ := sz_Super ⟨a0_0, a0_1, l0_2⟩ hw.1 1048576 1048576 (by omega) (by omega) (by omega)
    obtain ⟨kz, hz⟩ := Ev.rounds hz
    by_cases hzn : z < 0
    · exact small_SuperBytes kz z a0_0 a0_1 A0_2 c0_2 l0_2 w hr0_2 hc0_2 hz hzn
    have hs := (hq (by omega)).2
    obtain ⟨kt, ht⟩ := Ev.rounds (to_Super ⟨a0_0, a0_1, l0_2⟩ hs)
    have n0 : (l0_2.map cv191).length ≤ 1048576 := by rw [List.length_map]; have := hs.2.2.1; simp only at this; omega
    simp only at ht
    generalize l0_2.map cv191 = x at *
    have hn := superR_length a0_0 a0_1 x
    obtain ⟨ks, hsp⟩ := Ev.rounds (spec_superR a0_0 a0_1 x (by omega))
    obtain ⟨RR, him⟩ : ∃ RR, superR a0_0 a0_1 x = RR := ⟨_, rfl⟩
    rw [him] at hsp hn
    obtain ⟨R, code⟩ := RR
    simp only at hn
    obtain ⟨keX, heX⟩ := Ev.rounds (eq_Super ⟨a0_0, a0_1, x⟩ ⟨trivial, trivial, by simp only; omega, fun y _ => ⟨trivial, trivial, trivial⟩⟩)
    obtain ⟨keR, heR⟩ := Ev.rounds (eq_ByteS R (by omega))
    have hmS : Ev (fun k => laws_markSuper.f k a0_0 a0_1 x 1) (1 + 3 * (x.length : Int), mk_SnapS x 1) := by
      unfold laws_markSuper.f
      exact Ev.bind (mark_SnapS x 1 (by omega) (by omega) (by omega)) (Ev.is rfl)
    obtain ⟨kmX, hmX⟩ := Ev.rounds hmS
    obtain ⟨kh, hh⟩ := Ev.rounds (Ev.same (held_ByteS R 1 (by omega) (by omega) (by omega)) (show _ = 1 + (R.length : Int) by omega))
    simp only at heX
    exact walk_SuperBytes kz kt ks keR keX kmX kh z a0_0 a0_1 A0_2 c0_2 l0_2 x R code _ _ w hr0_2 hc0_2 hz hzn ht hsp him heR heX hmX hh (by omega) (by omega) (by omega)
  · rw [if_neg hw] at h
    cases h
end Go.Proofs.Ytenfomejccfkgaa.X
