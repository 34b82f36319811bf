import Derived.Test.YtddommgeaoknbaaKFnDisk3
import Derived.Test.YtddommgeaoknbaaKFnDisk7
import Derived.Test.YtddommgeaoknbaaKFnDisk10
import Derived.Test.YtddommgeaoknbaaKFnDisk12
import Derived.Test.YtddommgeaoknbaaKFnDisk16
import Derived.LoopTactic
import Derived.BigQuiet
import Derived.Lib.SliceRun
import Derived.Laws.IdiomCopy
import Derived.Deep.RegionLaw
import Derived.Deep.RegionHeld3
namespace Go.Proofs.Ytddommgeaoknbaa.X
open Go.RowKit Go.Proofs.YtddommgeaoknbaaW.PrintWords Go.Proofs.YtddommgeaoknbaaW.PrintLast Go.Proofs.YtddommgeaoknbaaW.PrintMore
attribute [local go_sem] xbin_geq xbin_leq xbin_gtr max2_int min2_int max_two min_two max_three min_three max_four min_four
set_option linter.unusedVariables false
set_option linter.unusedSimpArgs false
def spec_KeepsOf.f (k : Nat) (l0 : List Int) : Option (List Int) := (spec_l00Source.f l0).bind fun bt394 => ((spec_l00Src_keeps.f k bt394.1 bt394.2.1 bt394.2.2).bind fun bt398 => (some bt398.1))
set_option maxHeartbeats 8000000 in
set_option maxRecDepth 100000 in
theorem spec_KeepsOf.calls (k : Nat) (A0 : Option Addr) (c0 : Nat) (l0 : List Int) (r : List Int) (w : World) (hr0 : Kd.C (Kd.int .u8) w A0 l0.length l0) (hc0 : l0.length ≤ c0) (h : spec_KeepsOf.f k l0 = some r) :
  Calls Try.prog 11 #[.slice A0 l0.length c0] w fun e w' => ∃ v0_ : Value, e = .returned (v0_) ∧ Kd.R (Kd.int .i64) 3 w' w.heap.size (fun _ => True) v0_ r ∧ Below w.heap.size w w' := by
 have HR0 := Aside0.mk hr0
 have HC0 := Aside0.mk hc0
 clear hr0 hc0
 have HB := Aside0.mk (Below.refl w.heap.size w)
 have H : ((spec_l00Source.f l0).bind fun bt394 => ((spec_l00Src_keeps.f k bt394.1 bt394.2.1 bt394.2.2).bind fun bt398 => (some bt398.1))) = some r := h
 clear h
 replace H := Option.bind_eq_some_iff.mp H
 obtain ⟨⟨t394, t395, t396⟩, A20, H⟩ := H
 replace H : ((spec_l00Src_keeps.f k t394 t395 t396).bind fun bt398 => (some bt398.1)) = some r := H
 have A2 := Aside0.mk A20
 clear A20
 replace H := Option.bind_eq_some_iff.mp H
 obtain ⟨⟨t398, t401, t402⟩, A30, H⟩ := H
 replace H : (some t398) = some r := H
 have A3 := Aside0.mk A30
 clear A30
 obtain rfl := Option.some.inj H
 go_enter Try.func11, Try.ntmps11
 go_wp2_with (first | ((with_reducible refine gate_callee (f := 17) rfl ?_); refine goesL_ (some 4) rfl rfl Try.func17 (by kernel_rfl) rfl #[.slice A0 l0.length c0] rfl (by (try simp only [List.map_toArray, List.map_cons, List.map_nil]); first | done | rfl | (simp only [List.length_drop, List.length_take]; rfl)) ?_; (with_reducible refine (spec_l00Source.calls _ _ l0 t394 t395 t396 w _ ?side1 ?side2 ?side3 A2.out).mono ?_); (case side1 => repeat (first | (with_reducible first | exact HB.out | apply below_alloc | apply pw_below_drewN | apply below_drew1) | exact HB.out)); (case side2 => exact HR0.out); (case side3 => exact HC0.out); rintro e w4 ⟨g397, rfl, hi, hb, hb2⟩; refine ⟨_, rfl, ?_⟩; have n0_ := Aside0.mk (hb); have n1_ := Aside0.mk (hi); clear HB; have HB := n0_; have HI397 := n1_; clear n0_ n1_; (try clear hb); (try clear hb2); (try clear hk); (try clear hi)) | ((with_reducible refine gate_callee (f := 29) rfl ?_); refine goesL_ (some 5) rfl rfl Try.func29 (by kernel_rfl) rfl #[.pointer (some ⟨g397, 0, none⟩)] rfl (by (try simp only [List.map_toArray, List.map_cons, List.map_nil]); first | done | rfl | (simp only [List.length_drop, List.length_take]; rfl)) ?_; (with_reducible refine (spec_l00Src_keeps.calls k g397 t394 t395 t396 t398 t401 t402 w _ ?side1 ?side2 A3.out).mono ?_); (case side1 => repeat (first | (with_reducible first | exact HI397.out | apply IsS65.alloc | apply IsS65.drewN | apply IsS65.drew | apply IsS65.set_1 | apply IsS65.set_2) | exact HI397.out)); (case side2 => repeat (first | (with_reducible first | exact HB.out | apply below_alloc | apply pw_below_drewN | apply below_drew1 | refine below_set ?_ (IsS65.ge HI397.out)) | exact HB.out)); rintro e w5 ⟨v399, rfl, ho0, hi, hb, hk⟩; refine ⟨_, rfl, ?_⟩; have n0_ := Aside0.mk (Kd.R_lower ho0 (below_size (by repeat (first | (with_reducible first | exact HB.out | apply below_alloc | apply pw_below_drewN | apply below_drew1 | refine below_set ?_ (IsS65.ge HI397.out)) | exact HB.out)))); have n1_ := Aside0.mk (hb); have n2_ := Aside0.mk (hi); clear HB; clear HI397; have HO400 := n0_; have HB := n1_; have HI397 := n2_; clear n0_ n1_ n2_; (try clear hb); (try clear hb2); (try clear hk); (try clear hi); (try clear ho0)))
 go_ret
 exact ⟨_, by first | rfl | (simp [errW_none, errW_some] <;> rfl) | (simp [*, errW_none, errW_some] <;> rfl), by (with_reducible repeat (first | apply Kd.R_alloc | apply Kd.R_drewN | apply Kd.R_drew)); exact HO400.out, by repeat (first | (with_reducible first | exact HB.out | apply below_alloc | apply pw_below_drewN | apply below_drew1 | refine below_set ?_ (IsS65.ge HI397.out)) | exact HB.out)⟩
def spec_DiskCrash.f (k : Nat) (l0_0 : List ByteArray) (l0_1 : List (S54)) (a0_2 : Bool) (l0_3 : List Int) (l1 : List Int) : Option (List ByteArray × (List (S54)) × Bool × List Int × Int) := if (l1.length : Int) > 4096 then (some (([] : List ByteArray), ([] : List (S54)), false, ([] : List Int), 2)) else ((spec_DiskOK.f k l0_0 l0_1 a0_2 l0_3).bind fun t405 => (if t405 = true then ((spec_l02Crash.f k l0_0 l0_1 a0_2 l0_3 l1).bind fun bt406 => (some (bt406.1, bt406.2.1, bt406.2.2.1, bt406.2.2.2, 0))) else (some (([] : List ByteArray), ([] : List (S54)), false, ([] : List Int), 1))))
set_option maxHeartbeats 8000000 in
set_option maxRecDepth 100000 in
theorem spec_DiskCrash.calls (k : Nat) (A0_0 : Option Addr) (c0_0 : Nat) (l0_0 : List ByteArray) (A0_1 : Option Addr) (c0_1 : Nat) (l0_1 : List (S54)) (a0_2 : Bool) (A0_3 : Option Addr) (c0_3 : Nat) (l0_3 : List Int) (A1 : Option Addr) (c1 : Nat) (l1 : List Int) (r1 : List ByteArray) (r2 : List (S54)) (r3 : Bool) (r4 : List Int) (r5 : Int) (w : World) (hr0_0 : Kd.C Kd.string w A0_0 l0_0.length l0_0) (hc0_0 : l0_0.length ≤ c0_0) (hr0_1 : Kd.C k54 w A0_1 l0_1.length l0_1) (hc0_1 : l0_1.length ≤ c0_1) (hr0_3 : Kd.C (Kd.int .i64) w A0_3 l0_3.length l0_3) (hc0_3 : l0_3.length ≤ c0_3) (hr1 : Kd.C (Kd.int .i64) w A1 l1.length l1) (hc1 : l1.length ≤ c1) (h : spec_DiskCrash.f k l0_0 l0_1 a0_2 l0_3 l1 = some (r1, r2, r3, r4, r5)) :
  Calls Try.prog 12 #[.agg #[.slice A0_0 l0_0.length c0_0, .slice A0_1 l0_1.length c0_1, .bool a0_2, .slice A0_3 l0_3.length c0_3], .slice A1 l1.length c1] w fun e w' => ∃ v0_ v1_ v3_ : Value, e = .returned (.tuple #[.agg #[v0_, v1_, .bool r3, v3_], .int .i64 r5]) ∧ Kd.R Kd.string 9 w' w.heap.size (fun _ => True) v0_ r1 ∧ Kd.R k54 54 w' w.heap.size (fun _ => True) v1_ r2 ∧ Kd.R (Kd.int .i64) 3 w' w.heap.size (fun _ => True) v3_ r4 ∧ Below w.heap.size w w' := by
 have hu27 := Try.underlying27
 have HR0_0 := Aside0.mk hr0_0
 have HC0_0 := Aside0.mk hc0_0
 clear hr0_0 hc0_0
 have HR0_1 := Aside0.mk hr0_1
 have HC0_1 := Aside0.mk hc0_1
 clear hr0_1 hc0_1
 have HR0_3 := Aside0.mk hr0_3
 have HC0_3 := Aside0.mk hc0_3
 clear hr0_3 hc0_3
 have HR1 := Aside0.mk hr1
 have HC1 := Aside0.mk hc1
 clear hr1 hc1
 have HB := Aside0.mk (Below.refl w.heap.size w)
 have H : (if (l1.length : Int) > 4096 then (some (([] : List ByteArray), ([] : List (S54)), false, ([] : List Int), 2)) else ((spec_DiskOK.f k l0_0 l0_1 a0_2 l0_3).bind fun t405 => (if t405 = true then ((spec_l02Crash.f k l0_0 l0_1 a0_2 l0_3 l1).bind fun bt406 => (some (bt406.1, bt406.2.1, bt406.2.2.1, bt406.2.2.2, 0))) else (some (([] : List ByteArray), ([] : List (S54)), false, ([] : List Int), 1))))) = some (r1, r2, r3, r4, r5) := h
 clear h
 by_cases c3 : (l1.length : Int) > 4096
 ·rw [if_pos c3] at H
  have c3b0 : decide (4096 < (l1.length : Int)) = true := decide_eq_true c3
  have c3b1 : decide (4096 < l1.length) = true := decide_eq_true (by omega)
  clear c3
  simp only [Option.some.injEq, Prod.mk.injEq] at H
  obtain ⟨rfl, rfl, rfl, rfl, rfl⟩ := H
  go_enter Try.func12, Try.ntmps12
  go_wp2_with (first | ((with_reducible refine gate_dst (N := 2) rfl ?_); refine box_event ?hg (N := 2) ?hd (cs := #[.slice A0_0 l0_0.length c0_0, .slice A0_1 l0_1.length c0_1, .bool a0_2, .slice A0_3 l0_3.length c0_3]) (t := 27) ?hr ?_; (case hd => rfl); (case hg => rfl); (case hr => first | (go_simp; done) | (go_simp; rfl)); intro gb403 hg w4 hbox hb; have n0_ := Aside0.mk (below_step (by repeat (first | (with_reducible first | exact HB.out | apply below_alloc | apply pw_below_drewN | apply below_drew1) | exact HB.out)) hb); have n1_ := Aside0.mk (hbox); have n2_ := Aside0.mk ((by rw [hg]; exact (below_size (by repeat (first | (with_reducible first | exact HB.out | apply below_alloc | apply pw_below_drewN | apply below_drew1) | exact HB.out))) : w.heap.size ≤ gb403)); have n3_ := Aside0.mk ((by rw [hg]; exact (below_size (by repeat (first | (with_reducible first | exact HB.out | apply below_alloc | apply pw_below_drewN | apply below_drew1) | exact HB.out))) : w.heap.size ≤ gb403)); clear HB; have HB := n0_; have BK403 := n1_; have GW403 := n2_; have GE403 := n3_; clear n0_ n1_ n2_ n3_; clear hb hbox hg) | ((with_reducible refine gate_dst (N := 4) rfl ?_); refine box_event ?hg (N := 4) ?hd (cs := #[.slice none 0 0, .slice none 0 0, .bool false, .slice none 0 0]) (t := 27) ?hr ?_; (case hd => rfl); (case hg => rfl); (case hr => first | (go_simp; done) | (go_simp; rfl)); intro gb404 hg w5 hbox hb; have n0_ := Aside0.mk (blk_below (g := gb403) (o := .cells #[.slice A0_0 l0_0.length c0_0, .slice A0_1 l0_1.length c0_1, .bool a0_2, .slice A0_3 l0_3.length c0_3] 27 (0, 0)) (by (with_reducible repeat (first | refine blk_drewN ?_ _ | refine blk_drew ?_ | refine blk_alloc ?_ _)); exact BK403.out) hb); have n1_ := Aside0.mk (below_step (by repeat (first | (with_reducible first | exact HB.out | apply below_alloc | apply pw_below_drewN | apply below_drew1 | refine below_set ?_ GE403.out) | exact HB.out)) hb); have n2_ := Aside0.mk (hbox); have n3_ := Aside0.mk ((by rw [hg]; exact (below_size (by repeat (first | (with_reducible first | exact HB.out | apply below_alloc | apply pw_below_drewN | apply below_drew1 | refine below_set ?_ GE403.out) | exact HB.out))) : w.heap.size ≤ gb404)); have n4_ := Aside0.mk ((by rw [hg]; exact (below_size (by repeat (first | (with_reducible first | exact HB.out | apply below_alloc | apply pw_below_drewN | apply below_drew1 | refine below_set ?_ GE403.out) | exact HB.out))) : w.heap.size ≤ gb404)); have n5_ := Aside0.mk ((by rw [hg]; exact Nat.ne_of_lt (blk_lt (g := gb403) (o := .cells #[.slice A0_0 l0_0.length c0_0, .slice A0_1 l0_1.length c0_1, .bool a0_2, .slice A0_3 l0_3.length c0_3] 27 (0, 0)) (by (with_reducible repeat (first | refine blk_drewN ?_ _ | refine blk_drew ?_ | refine blk_alloc ?_ _)); exact BK403.out)) : gb403 ≠ gb404)); have n6_ := Aside0.mk ((by rw [hg]; exact Nat.ne_of_gt (blk_lt (g := gb403) (o := .cells #[.slice A0_0 l0_0.length c0_0, .slice A0_1 l0_1.length c0_1, .bool a0_2, .slice A0_3 l0_3.length c0_3] 27 (0, 0)) (by (with_reducible repeat (first | refine blk_drewN ?_ _ | refine blk_drew ?_ | refine blk_alloc ?_ _)); exact BK403.out)) : gb404 ≠ gb403)); clear BK403; clear HB; have BK403 := n0_; have HB := n1_; have BK404 := n2_; have GW404 := n3_; have GE404 := n4_; have NB403_404 := n5_; have NB404_403 := n6_; clear n0_ n1_ n2_ n3_ n4_ n5_ n6_; clear hb hbox hg; have hnb6 := NB404_403.out; have hnc6 := NB403_404.out; have hcz7_0 : w5.cell? ⟨gb404, 0, none⟩ = some (.slice none 0 0) := (blk_cell BK404.out 0).trans rfl; have hcz7_1 : w5.cell? ⟨gb404, 1, none⟩ = some (.slice none 0 0) := (blk_cell BK404.out 1).trans rfl; have hcz7_2 : w5.cell? ⟨gb404, 2, none⟩ = some (.bool false) := (blk_cell BK404.out 2).trans rfl; have hcz7_3 : w5.cell? ⟨gb404, 3, none⟩ = some (.slice none 0 0) := (blk_cell BK404.out 3).trans rfl; have hfz7_0 := blk_frozen BK404.out 0; have hfz7_1 := blk_frozen BK404.out 1; have hfz7_2 := blk_frozen BK404.out 2; have hfz7_3 := blk_frozen BK404.out 3))
  refine bodyPost_ret (results_ct rfl _ _ gb404 27 #[.slice none 0 0, .slice none 0 0, .bool false, .slice none 0 0] (0, 0) _ rfl (by (with_reducible repeat (first | refine blk_drewN ?_ _ | refine blk_drew ?_ | refine blk_alloc ?_ _)); refine blk_put (cs := #[.slice none 0 0, .slice none 0 0, .bool false, .slice none 0 0]) ?_ 3 _ rfl; (with_reducible repeat (first | refine blk_drewN ?_ _ | refine blk_drew ?_ | refine blk_alloc ?_ _)); refine blk_put (cs := #[.slice none 0 0, .slice none 0 0, .bool false, .slice none 0 0]) ?_ 2 _ rfl; (with_reducible repeat (first | refine blk_drewN ?_ _ | refine blk_drew ?_ | refine blk_alloc ?_ _)); refine blk_put (cs := #[.slice none 0 0, .slice none 0 0, .bool false, .slice none 0 0]) ?_ 1 _ rfl; (with_reducible repeat (first | refine blk_drewN ?_ _ | refine blk_drew ?_ | refine blk_alloc ?_ _)); refine blk_put (cs := #[.slice none 0 0, .slice none 0 0, .bool false, .slice none 0 0]) ?_ 0 _ rfl; (with_reducible repeat (first | refine blk_drewN ?_ _ | refine blk_drew ?_ | refine blk_alloc ?_ _)); exact BK404.out) Try.underlying27 rfl (by kernel_rfl)) rfl ?_
  exact ⟨_, _, _, by first | rfl | (simp [errW_none, errW_some] <;> rfl) | (simp [*, errW_none, errW_some] <;> rfl), by first | exact Kd.R_nil _ _ _ _ _ | exact Kd.N_nil _ _ _ _ _ | exact Kd.V_nil _ _ _ _ _ | exact Kd.Q_nil _ _ _ _ _ | exact Kd.S_nil _ _ _ _ _, by first | exact Kd.R_nil _ _ _ _ _ | exact Kd.N_nil _ _ _ _ _ | exact Kd.V_nil _ _ _ _ _ | exact Kd.Q_nil _ _ _ _ _ | exact Kd.S_nil _ _ _ _ _, by first | exact Kd.R_nil _ _ _ _ _ | exact Kd.N_nil _ _ _ _ _ | exact Kd.V_nil _ _ _ _ _ | exact Kd.Q_nil _ _ _ _ _ | exact Kd.S_nil _ _ _ _ _, by repeat (first | (with_reducible first | exact HB.out | apply below_alloc | apply pw_below_drewN | apply below_drew1 | refine below_set ?_ GE403.out | refine below_set ?_ GE404.out) | exact HB.out)⟩
 ·rw [if_neg c3] at H
  have c3b0 : decide (4096 < (l1.length : Int)) = false := decide_eq_false c3
  have c3b1 : decide (4096 < l1.length) = false := decide_eq_false (by omega)
  clear c3
  replace H := Option.bind_eq_some_iff.mp H
  obtain ⟨t405, A80, H⟩ := H
  replace H : (if t405 = true then ((spec_l02Crash.f k l0_0 l0_1 a0_2 l0_3 l1).bind fun bt406 => (some (bt406.1, bt406.2.1, bt406.2.2.1, bt406.2.2.2, 0))) else (some (([] : List ByteArray), ([] : List (S54)), false, ([] : List Int), 1))) = some (r1, r2, r3, r4, r5) := H
  have A8 := Aside0.mk A80
  clear A80
  by_cases c9 : t405 = true
  ·subst c9
   have H1 : ((spec_l02Crash.f k l0_0 l0_1 a0_2 l0_3 l1).bind fun bt406 => (some (bt406.1, bt406.2.1, bt406.2.2.1, bt406.2.2.2, 0))) = some (r1, r2, r3, r4, r5) := by rw [if_pos rfl] at H; exact H
   clear H
   have H := H1
   clear H1
   replace H := Option.bind_eq_some_iff.mp H
   obtain ⟨⟨t406, t409, t412, t413⟩, A100, H⟩ := H
   replace H : (some (t406, t409, t412, t413, 0)) = some (r1, r2, r3, r4, r5) := H
   have A10 := Aside0.mk A100
   clear A100
   simp only [Option.some.injEq, Prod.mk.injEq] at H
   obtain ⟨rfl, rfl, rfl, rfl, rfl⟩ := H
   go_enter Try.func12, Try.ntmps12
   go_wp2_with (first | ((with_reducible refine gate_dst (N := 2) rfl ?_); refine box_event ?hg (N := 2) ?hd (cs := #[.slice A0_0 l0_0.length c0_0, .slice A0_1 l0_1.length c0_1, .bool a0_2, .slice A0_3 l0_3.length c0_3]) (t := 27) ?hr ?_; (case hd => rfl); (case hg => rfl); (case hr => first | (go_simp; done) | (go_simp; rfl)); intro gb403 hg w11 hbox hb; have n0_ := Aside0.mk (below_step (by repeat (first | (with_reducible first | exact HB.out | apply below_alloc | apply pw_below_drewN | apply below_drew1) | exact HB.out)) hb); have n1_ := Aside0.mk (hbox); have n2_ := Aside0.mk ((by rw [hg]; exact (below_size (by repeat (first | (with_reducible first | exact HB.out | apply below_alloc | apply pw_below_drewN | apply below_drew1) | exact HB.out))) : w.heap.size ≤ gb403)); have n3_ := Aside0.mk ((by rw [hg]; exact (below_size (by repeat (first | (with_reducible first | exact HB.out | apply below_alloc | apply pw_below_drewN | apply below_drew1) | exact HB.out))) : w.heap.size ≤ gb403)); clear HB; have HB := n0_; have BK403 := n1_; have GW403 := n2_; have GE403 := n3_; clear n0_ n1_ n2_ n3_; clear hb hbox hg) | ((with_reducible refine gate_dst (N := 4) rfl ?_); refine box_event ?hg (N := 4) ?hd (cs := #[.slice none 0 0, .slice none 0 0, .bool false, .slice none 0 0]) (t := 27) ?hr ?_; (case hd => rfl); (case hg => rfl); (case hr => first | (go_simp; done) | (go_simp; rfl)); intro gb404 hg w12 hbox hb; have n0_ := Aside0.mk (blk_below (g := gb403) (o := .cells #[.slice A0_0 l0_0.length c0_0, .slice A0_1 l0_1.length c0_1, .bool a0_2, .slice A0_3 l0_3.length c0_3] 27 (0, 0)) (by (with_reducible repeat (first | refine blk_drewN ?_ _ | refine blk_drew ?_ | refine blk_alloc ?_ _)); exact BK403.out) hb); have n1_ := Aside0.mk (below_step (by repeat (first | (with_reducible first | exact HB.out | apply below_alloc | apply pw_below_drewN | apply below_drew1 | refine below_set ?_ GE403.out) | exact HB.out)) hb); have n2_ := Aside0.mk (hbox); have n3_ := Aside0.mk ((by rw [hg]; exact (below_size (by repeat (first | (with_reducible first | exact HB.out | apply below_alloc | apply pw_below_drewN | apply below_drew1 | refine below_set ?_ GE403.out) | exact HB.out))) : w.heap.size ≤ gb404)); have n4_ := Aside0.mk ((by rw [hg]; exact (below_size (by repeat (first | (with_reducible first | exact HB.out | apply below_alloc | apply pw_below_drewN | apply below_drew1 | refine below_set ?_ GE403.out) | exact HB.out))) : w.heap.size ≤ gb404)); have n5_ := Aside0.mk ((by rw [hg]; exact Nat.ne_of_lt (blk_lt (g := gb403) (o := .cells #[.slice A0_0 l0_0.length c0_0, .slice A0_1 l0_1.length c0_1, .bool a0_2, .slice A0_3 l0_3.length c0_3] 27 (0, 0)) (by (with_reducible repeat (first | refine blk_drewN ?_ _ | refine blk_drew ?_ | refine blk_alloc ?_ _)); exact BK403.out)) : gb403 ≠ gb404)); have n6_ := Aside0.mk ((by rw [hg]; exact Nat.ne_of_gt (blk_lt (g := gb403) (o := .cells #[.slice A0_0 l0_0.length c0_0, .slice A0_1 l0_1.length c0_1, .bool a0_2, .slice A0_3 l0_3.length c0_3] 27 (0, 0)) (by (with_reducible repeat (first | refine blk_drewN ?_ _ | refine blk_drew ?_ | refine blk_alloc ?_ _)); exact BK403.out)) : gb404 ≠ gb403)); clear BK403; clear HB; have BK403 := n0_; have HB := n1_; have BK404 := n2_; have GW404 := n3_; have GE404 := n4_; have NB403_404 := n5_; have NB404_403 := n6_; clear n0_ n1_ n2_ n3_ n4_ n5_ n6_; clear hb hbox hg; have hnb13 := NB403_404.out; have hnc13 := NB404_403.out; have hcz14_0 : w12.cell? ⟨gb403, 0, none⟩ = some (.slice A0_0 l0_0.length c0_0) := (blk_cell BK403.out 0).trans rfl; have hcz14_1 : w12.cell? ⟨gb403, 1, none⟩ = some (.slice A0_1 l0_1.length c0_1) := (blk_cell BK403.out 1).trans rfl; have hcz14_2 : w12.cell? ⟨gb403, 2, none⟩ = some (.bool a0_2) := (blk_cell BK403.out 2).trans rfl; have hcz14_3 : w12.cell? ⟨gb403, 3, none⟩ = some (.slice A0_3 l0_3.length c0_3) := (blk_cell BK403.out 3).trans rfl; have hfz14_0 := blk_frozen BK403.out 0; have hfz14_1 := blk_frozen BK403.out 1; have hfz14_2 := blk_frozen BK403.out 2; have hfz14_3 := blk_frozen BK403.out 3) | ((with_reducible refine gate_callee (f := 22) rfl ?_); refine goesL_ (some 11) rfl rfl Try.func22 (by kernel_rfl) rfl #[.agg #[.slice A0_0 l0_0.length c0_0, .slice A0_1 l0_1.length c0_1, .bool a0_2, .slice A0_3 l0_3.length c0_3]] rfl (by (try simp only [List.map_toArray, List.map_cons, List.map_nil]); first | done | rfl | (simp only [List.length_drop, List.length_take]; rfl)) ?_; (with_reducible refine (spec_DiskOK.calls k _ _ l0_0 _ _ l0_1 a0_2 _ _ l0_3 true _ ?side1 ?side2 ?side3 ?side4 ?side5 ?side6 A8.out).mono ?_); (case side1 => repeat (first | exact (Kd.C_below HR0_0.out HB.out) | (with_reducible refine Kd.C_alloc ?_ _) | (with_reducible refine Kd.C_drewN ?_ _) | (with_reducible refine Kd.C_drew ?_))); (case side2 => exact HC0_0.out); (case side3 => repeat (first | exact (Kd.C_below HR0_1.out HB.out) | (with_reducible refine Kd.C_alloc ?_ _) | (with_reducible refine Kd.C_drewN ?_ _) | (with_reducible refine Kd.C_drew ?_))); (case side4 => exact HC0_1.out); (case side5 => repeat (first | exact (Kd.C_below HR0_3.out HB.out) | (with_reducible refine Kd.C_alloc ?_ _) | (with_reducible refine Kd.C_drewN ?_ _) | (with_reducible refine Kd.C_drew ?_))); (case side6 => exact HC0_3.out); rintro e w15 ⟨rfl, hb⟩; refine ⟨_, rfl, ?_⟩; have n0_ := Aside0.mk (blk_below (g := gb403) (o := .cells #[.slice A0_0 l0_0.length c0_0, .slice A0_1 l0_1.length c0_1, .bool a0_2, .slice A0_3 l0_3.length c0_3] 27 (0, 0)) (by (with_reducible repeat (first | refine blk_drewN ?_ _ | refine blk_drew ?_ | refine blk_alloc ?_ _)); exact BK403.out) hb); have n1_ := Aside0.mk (blk_below (g := gb404) (o := .cells #[.slice none 0 0, .slice none 0 0, .bool false, .slice none 0 0] 27 (0, 0)) (by (with_reducible repeat (first | refine blk_drewN ?_ _ | refine blk_drew ?_ | refine blk_alloc ?_ _)); exact BK404.out) hb); have n2_ := Aside0.mk (below_step (by repeat (first | (with_reducible first | exact HB.out | apply below_alloc | apply pw_below_drewN | apply below_drew1 | refine below_set ?_ GE403.out | refine below_set ?_ GE404.out) | exact HB.out)) hb); clear BK403; clear BK404; clear HB; have BK403 := n0_; have BK404 := n1_; have HB := n2_; clear n0_ n1_ n2_; (try clear hb); (try clear hb2); (try clear hk); (try clear hi); have hcz16_0 : w15.cell? ⟨gb403, 0, none⟩ = some (.slice A0_0 l0_0.length c0_0) := (blk_cell BK403.out 0).trans rfl; have hcz16_1 : w15.cell? ⟨gb403, 1, none⟩ = some (.slice A0_1 l0_1.length c0_1) := (blk_cell BK403.out 1).trans rfl; have hcz16_2 : w15.cell? ⟨gb403, 2, none⟩ = some (.bool a0_2) := (blk_cell BK403.out 2).trans rfl; have hcz16_3 : w15.cell? ⟨gb403, 3, none⟩ = some (.slice A0_3 l0_3.length c0_3) := (blk_cell BK403.out 3).trans rfl; have hfz16_0 := blk_frozen BK403.out 0; have hfz16_1 := blk_frozen BK403.out 1; have hfz16_2 := blk_frozen BK403.out 2; have hfz16_3 := blk_frozen BK403.out 3) | ((with_reducible refine gate_callee (f := 30) rfl ?_); refine goesL_ (some 16) rfl rfl Try.func30 (by kernel_rfl) rfl #[.agg #[.slice A0_0 l0_0.length c0_0, .slice A0_1 l0_1.length c0_1, .bool a0_2, .slice A0_3 l0_3.length c0_3], .slice A1 l1.length c1] rfl (by (try simp only [List.map_toArray, List.map_cons, List.map_nil]); first | done | rfl | (simp only [List.length_drop, List.length_take]; rfl)) ?_; (with_reducible refine (spec_l02Crash.calls k _ _ l0_0 _ _ l0_1 a0_2 _ _ l0_3 _ _ l1 t406 t409 t412 t413 _ ?side1 ?side2 ?side3 ?side4 ?side5 ?side6 ?side7 ?side8 A10.out).mono ?_); (case side1 => repeat (first | exact (Kd.C_below HR0_0.out HB.out) | (with_reducible refine Kd.C_alloc ?_ _) | (with_reducible refine Kd.C_drewN ?_ _) | (with_reducible refine Kd.C_drew ?_))); (case side2 => exact HC0_0.out); (case side3 => repeat (first | exact (Kd.C_below HR0_1.out HB.out) | (with_reducible refine Kd.C_alloc ?_ _) | (with_reducible refine Kd.C_drewN ?_ _) | (with_reducible refine Kd.C_drew ?_))); (case side4 => exact HC0_1.out); (case side5 => repeat (first | exact (Kd.C_below HR0_3.out HB.out) | (with_reducible refine Kd.C_alloc ?_ _) | (with_reducible refine Kd.C_drewN ?_ _) | (with_reducible refine Kd.C_drew ?_))); (case side6 => exact HC0_3.out); (case side7 => repeat (first | exact (Kd.C_below HR1.out HB.out) | (with_reducible refine Kd.C_alloc ?_ _) | (with_reducible refine Kd.C_drewN ?_ _) | (with_reducible refine Kd.C_drew ?_))); (case side8 => exact HC1.out); rintro e w17 ⟨v407, v410, v414, rfl, ho0, ho1, ho2, hb⟩; refine ⟨_, rfl, ?_⟩; have n0_ := Aside0.mk (Kd.R_lower ho0 (below_size (by repeat (first | (with_reducible first | exact HB.out | apply below_alloc | apply pw_below_drewN | apply below_drew1 | refine below_set ?_ GE403.out | refine below_set ?_ GE404.out) | exact HB.out)))); have n1_ := Aside0.mk (Kd.R_lower ho1 (below_size (by repeat (first | (with_reducible first | exact HB.out | apply below_alloc | apply pw_below_drewN | apply below_drew1 | refine below_set ?_ GE403.out | refine below_set ?_ GE404.out) | exact HB.out)))); have n2_ := Aside0.mk (Kd.R_lower ho2 (below_size (by repeat (first | (with_reducible first | exact HB.out | apply below_alloc | apply pw_below_drewN | apply below_drew1 | refine below_set ?_ GE403.out | refine below_set ?_ GE404.out) | exact HB.out)))); have n3_ := Aside0.mk (blk_below (g := gb403) (o := .cells #[.slice A0_0 l0_0.length c0_0, .slice A0_1 l0_1.length c0_1, .bool a0_2, .slice A0_3 l0_3.length c0_3] 27 (0, 0)) (by (with_reducible repeat (first | refine blk_drewN ?_ _ | refine blk_drew ?_ | refine blk_alloc ?_ _)); exact BK403.out) hb); have n4_ := Aside0.mk (blk_below (g := gb404) (o := .cells #[.slice none 0 0, .slice none 0 0, .bool false, .slice none 0 0] 27 (0, 0)) (by (with_reducible repeat (first | refine blk_drewN ?_ _ | refine blk_drew ?_ | refine blk_alloc ?_ _)); exact BK404.out) hb); have n5_ := Aside0.mk (below_step (by repeat (first | (with_reducible first | exact HB.out | apply below_alloc | apply pw_below_drewN | apply below_drew1 | refine below_set ?_ GE403.out | refine below_set ?_ GE404.out) | exact HB.out)) hb); clear BK403; clear BK404; clear HB; have HO408 := n0_; have HO411 := n1_; have HO415 := n2_; have BK403 := n3_; have BK404 := n4_; have HB := n5_; clear n0_ n1_ n2_ n3_ n4_ n5_; (try clear hb); (try clear hb2); (try clear hk); (try clear hi); (try clear ho0); (try clear ho1); (try clear ho2); obtain ⟨Ao18, co18, eo18⟩ := Kd.R_slice HO408.out; subst eo18; have hcz19_0 : w17.cell? ⟨gb404, 0, none⟩ = some (.slice none 0 0) := (blk_cell BK404.out 0).trans rfl; have hcz19_1 : w17.cell? ⟨gb404, 1, none⟩ = some (.slice none 0 0) := (blk_cell BK404.out 1).trans rfl; have hcz19_2 : w17.cell? ⟨gb404, 2, none⟩ = some (.bool false) := (blk_cell BK404.out 2).trans rfl; have hcz19_3 : w17.cell? ⟨gb404, 3, none⟩ = some (.slice none 0 0) := (blk_cell BK404.out 3).trans rfl; have hfz19_0 := blk_frozen BK404.out 0; have hfz19_1 := blk_frozen BK404.out 1; have hfz19_2 := blk_frozen BK404.out 2; have hfz19_3 := blk_frozen BK404.out 3; obtain ⟨Ao20, co20, eo20⟩ := Kd.R_slice HO411.out; subst eo20; obtain ⟨Ao21, co21, eo21⟩ := Kd.R_slice HO415.out; subst eo21))
   refine bodyPost_ret (results_ct rfl _ _ gb404 27 #[.slice Ao18 t406.length co18, .slice Ao20 t409.length co20, .bool t412, .slice Ao21 t413.length co21] (0, 0) _ rfl (by (with_reducible repeat (first | refine blk_drewN ?_ _ | refine blk_drew ?_ | refine blk_alloc ?_ _)); refine blk_put (cs := #[.slice Ao18 t406.length co18, .slice Ao20 t409.length co20, .bool t412, .slice none 0 0]) ?_ 3 _ rfl; (with_reducible repeat (first | refine blk_drewN ?_ _ | refine blk_drew ?_ | refine blk_alloc ?_ _)); refine blk_put (cs := #[.slice Ao18 t406.length co18, .slice Ao20 t409.length co20, .bool false, .slice none 0 0]) ?_ 2 _ rfl; (with_reducible repeat (first | refine blk_drewN ?_ _ | refine blk_drew ?_ | refine blk_alloc ?_ _)); refine blk_put (cs := #[.slice Ao18 t406.length co18, .slice none 0 0, .bool false, .slice none 0 0]) ?_ 1 _ rfl; (with_reducible repeat (first | refine blk_drewN ?_ _ | refine blk_drew ?_ | refine blk_alloc ?_ _)); refine blk_put (cs := #[.slice none 0 0, .slice none 0 0, .bool false, .slice none 0 0]) ?_ 0 _ rfl; (with_reducible repeat (first | refine blk_drewN ?_ _ | refine blk_drew ?_ | refine blk_alloc ?_ _)); exact BK404.out) Try.underlying27 rfl (by kernel_rfl)) rfl ?_
   exact ⟨_, _, _, by first | rfl | (simp [errW_none, errW_some] <;> rfl) | (simp [*, errW_none, errW_some] <;> rfl), by (with_reducible repeat (first | apply Kd.R_alloc | apply Kd.R_drewN | apply Kd.R_drew)); exact Kd.R_mono (Kd.R_far (p := ⟨gb404, 3, none⟩) (Kd.R_far (p := ⟨gb404, 2, none⟩) (Kd.R_far (p := ⟨gb404, 1, none⟩) (Kd.R_far (p := ⟨gb404, 0, none⟩) (Kd.R_types HO408.out BK404.out (by decide)) (fun _ hk => hk.2) (.slice Ao18 t406.length co18)) (fun _ hk => hk.2) (.slice Ao20 t409.length co20)) (fun _ hk => hk.2) (.bool t412)) (fun _ hk => hk.2) (.slice Ao21 t413.length co21)) (fun _ hk => trivial), by (with_reducible repeat (first | apply Kd.R_alloc | apply Kd.R_drewN | apply Kd.R_drew)); exact Kd.R_mono (Kd.R_far (p := ⟨gb404, 3, none⟩) (Kd.R_far (p := ⟨gb404, 2, none⟩) (Kd.R_far (p := ⟨gb404, 1, none⟩) (Kd.R_far (p := ⟨gb404, 0, none⟩) (Kd.R_types HO411.out BK404.out (by decide)) (fun _ hk => hk.2) (.slice Ao18 t406.length co18)) (fun _ hk => hk.2) (.slice Ao20 t409.length co20)) (fun _ hk => hk.2) (.bool t412)) (fun _ hk => hk.2) (.slice Ao21 t413.length co21)) (fun _ hk => trivial), by (with_reducible repeat (first | apply Kd.R_alloc | apply Kd.R_drewN | apply Kd.R_drew)); exact Kd.R_mono (Kd.R_far (p := ⟨gb404, 3, none⟩) (Kd.R_far (p := ⟨gb404, 2, none⟩) (Kd.R_far (p := ⟨gb404, 1, none⟩) (Kd.R_far (p := ⟨gb404, 0, none⟩) (Kd.R_types HO415.out BK404.out (by decide)) (fun _ hk => hk.2) (.slice Ao18 t406.length co18)) (fun _ hk => hk.2) (.slice Ao20 t409.length co20)) (fun _ hk => hk.2) (.bool t412)) (fun _ hk => hk.2) (.slice Ao21 t413.length co21)) (fun _ hk => trivial), by repeat (first | (with_reducible first | exact HB.out | apply below_alloc | apply pw_below_drewN | apply below_drew1 | refine below_set ?_ GE403.out | refine below_set ?_ GE404.out) | exact HB.out)⟩
  ·replace c9 := Bool.eq_false_iff.mpr c9
   subst c9
   have H1 : (some (([] : List ByteArray), ([] : List (S54)), false, ([] : List Int), 1)) = some (r1, r2, r3, r4, r5) := by rw [if_neg (show ¬ (false = true) by decide)] at H; exact H
   clear H
   have H := H1
   clear H1
   simp only [Option.some.injEq, Prod.mk.injEq] at H
   obtain ⟨rfl, rfl, rfl, rfl, rfl⟩ := H
   go_enter Try.func12, Try.ntmps12
   go_wp2_with (first | ((with_reducible refine gate_dst (N := 2) rfl ?_); refine box_event ?hg (N := 2) ?hd (cs := #[.slice A0_0 l0_0.length c0_0, .slice A0_1 l0_1.length c0_1, .bool a0_2, .slice A0_3 l0_3.length c0_3]) (t := 27) ?hr ?_; (case hd => rfl); (case hg => rfl); (case hr => first | (go_simp; done) | (go_simp; rfl)); intro gb403 hg w22 hbox hb; have n0_ := Aside0.mk (below_step (by repeat (first | (with_reducible first | exact HB.out | apply below_alloc | apply pw_below_drewN | apply below_drew1) | exact HB.out)) hb); have n1_ := Aside0.mk (hbox); have n2_ := Aside0.mk ((by rw [hg]; exact (below_size (by repeat (first | (with_reducible first | exact HB.out | apply below_alloc | apply pw_below_drewN | apply below_drew1) | exact HB.out))) : w.heap.size ≤ gb403)); have n3_ := Aside0.mk ((by rw [hg]; exact (below_size (by repeat (first | (with_reducible first | exact HB.out | apply below_alloc | apply pw_below_drewN | apply below_drew1) | exact HB.out))) : w.heap.size ≤ gb403)); clear HB; have HB := n0_; have BK403 := n1_; have GW403 := n2_; have GE403 := n3_; clear n0_ n1_ n2_ n3_; clear hb hbox hg) | ((with_reducible refine gate_dst (N := 4) rfl ?_); refine box_event ?hg (N := 4) ?hd (cs := #[.slice none 0 0, .slice none 0 0, .bool false, .slice none 0 0]) (t := 27) ?hr ?_; (case hd => rfl); (case hg => rfl); (case hr => first | (go_simp; done) | (go_simp; rfl)); intro gb404 hg w23 hbox hb; have n0_ := Aside0.mk (blk_below (g := gb403) (o := .cells #[.slice A0_0 l0_0.length c0_0, .slice A0_1 l0_1.length c0_1, .bool a0_2, .slice A0_3 l0_3.length c0_3] 27 (0, 0)) (by (with_reducible repeat (first | refine blk_drewN ?_ _ | refine blk_drew ?_ | refine blk_alloc ?_ _)); exact BK403.out) hb); have n1_ := Aside0.mk (below_step (by repeat (first | (with_reducible first | exact HB.out | apply below_alloc | apply pw_below_drewN | apply below_drew1 | refine below_set ?_ GE403.out) | exact HB.out)) hb); have n2_ := Aside0.mk (hbox); have n3_ := Aside0.mk ((by rw [hg]; exact (below_size (by repeat (first | (with_reducible first | exact HB.out | apply below_alloc | apply pw_below_drewN | apply below_drew1 | refine below_set ?_ GE403.out) | exact HB.out))) : w.heap.size ≤ gb404)); have n4_ := Aside0.mk ((by rw [hg]; exact (below_size (by repeat (first | (with_reducible first | exact HB.out | apply below_alloc | apply pw_below_drewN | apply below_drew1 | refine below_set ?_ GE403.out) | exact HB.out))) : w.heap.size ≤ gb404)); have n5_ := Aside0.mk ((by rw [hg]; exact Nat.ne_of_lt (blk_lt (g := gb403) (o := .cells #[.slice A0_0 l0_0.length c0_0, .slice A0_1 l0_1.length c0_1, .bool a0_2, .slice A0_3 l0_3.length c0_3] 27 (0, 0)) (by (with_reducible repeat (first | refine blk_drewN ?_ _ | refine blk_drew ?_ | refine blk_alloc ?_ _)); exact BK403.out)) : gb403 ≠ gb404)); have n6_ := Aside0.mk ((by rw [hg]; exact Nat.ne_of_gt (blk_lt (g := gb403) (o := .cells #[.slice A0_0 l0_0.length c0_0, .slice A0_1 l0_1.length c0_1, .bool a0_2, .slice A0_3 l0_3.length c0_3] 27 (0, 0)) (by (with_reducible repeat (first | refine blk_drewN ?_ _ | refine blk_drew ?_ | refine blk_alloc ?_ _)); exact BK403.out)) : gb404 ≠ gb403)); clear BK403; clear HB; have BK403 := n0_; have HB := n1_; have BK404 := n2_; have GW404 := n3_; have GE404 := n4_; have NB403_404 := n5_; have NB404_403 := n6_; clear n0_ n1_ n2_ n3_ n4_ n5_ n6_; clear hb hbox hg; have hnb24 := NB403_404.out; have hnc24 := NB404_403.out; have hcz25_0 : w23.cell? ⟨gb403, 0, none⟩ = some (.slice A0_0 l0_0.length c0_0) := (blk_cell BK403.out 0).trans rfl; have hcz25_1 : w23.cell? ⟨gb403, 1, none⟩ = some (.slice A0_1 l0_1.length c0_1) := (blk_cell BK403.out 1).trans rfl; have hcz25_2 : w23.cell? ⟨gb403, 2, none⟩ = some (.bool a0_2) := (blk_cell BK403.out 2).trans rfl; have hcz25_3 : w23.cell? ⟨gb403, 3, none⟩ = some (.slice A0_3 l0_3.length c0_3) := (blk_cell BK403.out 3).trans rfl; have hfz25_0 := blk_frozen BK403.out 0; have hfz25_1 := blk_frozen BK403.out 1; have hfz25_2 := blk_frozen BK403.out 2; have hfz25_3 := blk_frozen BK403.out 3) | ((with_reducible refine gate_callee (f := 22) rfl ?_); refine goesL_ (some 11) rfl rfl Try.func22 (by kernel_rfl) rfl #[.agg #[.slice A0_0 l0_0.length c0_0, .slice A0_1 l0_1.length c0_1, .bool a0_2, .slice A0_3 l0_3.length c0_3]] rfl (by (try simp only [List.map_toArray, List.map_cons, List.map_nil]); first | done | rfl | (simp only [List.length_drop, List.length_take]; rfl)) ?_; (with_reducible refine (spec_DiskOK.calls k _ _ l0_0 _ _ l0_1 a0_2 _ _ l0_3 false _ ?side1 ?side2 ?side3 ?side4 ?side5 ?side6 A8.out).mono ?_); (case side1 => repeat (first | exact (Kd.C_below HR0_0.out HB.out) | (with_reducible refine Kd.C_alloc ?_ _) | (with_reducible refine Kd.C_drewN ?_ _) | (with_reducible refine Kd.C_drew ?_))); (case side2 => exact HC0_0.out); (case side3 => repeat (first | exact (Kd.C_below HR0_1.out HB.out) | (with_reducible refine Kd.C_alloc ?_ _) | (with_reducible refine Kd.C_drewN ?_ _) | (with_reducible refine Kd.C_drew ?_))); (case side4 => exact HC0_1.out); (case side5 => repeat (first | exact (Kd.C_below HR0_3.out HB.out) | (with_reducible refine Kd.C_alloc ?_ _) | (with_reducible refine Kd.C_drewN ?_ _) | (with_reducible refine Kd.C_drew ?_))); (case side6 => exact HC0_3.out); rintro e w26 ⟨rfl, hb⟩; refine ⟨_, rfl, ?_⟩; have n0_ := Aside0.mk (blk_below (g := gb403) (o := .cells #[.slice A0_0 l0_0.length c0_0, .slice A0_1 l0_1.length c0_1, .bool a0_2, .slice A0_3 l0_3.length c0_3] 27 (0, 0)) (by (with_reducible repeat (first | refine blk_drewN ?_ _ | refine blk_drew ?_ | refine blk_alloc ?_ _)); exact BK403.out) hb); have n1_ := Aside0.mk (blk_below (g := gb404) (o := .cells #[.slice none 0 0, .slice none 0 0, .bool false, .slice none 0 0] 27 (0, 0)) (by (with_reducible repeat (first | refine blk_drewN ?_ _ | refine blk_drew ?_ | refine blk_alloc ?_ _)); exact BK404.out) hb); have n2_ := Aside0.mk (below_step (by repeat (first | (with_reducible first | exact HB.out | apply below_alloc | apply pw_below_drewN | apply below_drew1 | refine below_set ?_ GE403.out | refine below_set ?_ GE404.out) | exact HB.out)) hb); clear BK403; clear BK404; clear HB; have BK403 := n0_; have BK404 := n1_; have HB := n2_; clear n0_ n1_ n2_; (try clear hb); (try clear hb2); (try clear hk); (try clear hi); have hcz27_0 : w26.cell? ⟨gb404, 0, none⟩ = some (.slice none 0 0) := (blk_cell BK404.out 0).trans rfl; have hcz27_1 : w26.cell? ⟨gb404, 1, none⟩ = some (.slice none 0 0) := (blk_cell BK404.out 1).trans rfl; have hcz27_2 : w26.cell? ⟨gb404, 2, none⟩ = some (.bool false) := (blk_cell BK404.out 2).trans rfl; have hcz27_3 : w26.cell? ⟨gb404, 3, none⟩ = some (.slice none 0 0) := (blk_cell BK404.out 3).trans rfl; have hfz27_0 := blk_frozen BK404.out 0; have hfz27_1 := blk_frozen BK404.out 1; have hfz27_2 := blk_frozen BK404.out 2; have hfz27_3 := blk_frozen BK404.out 3))
   refine bodyPost_ret (results_ct rfl _ _ gb404 27 #[.slice none 0 0, .slice none 0 0, .bool false, .slice none 0 0] (0, 0) _ rfl (by (with_reducible repeat (first | refine blk_drewN ?_ _ | refine blk_drew ?_ | refine blk_alloc ?_ _)); refine blk_put (cs := #[.slice none 0 0, .slice none 0 0, .bool false, .slice none 0 0]) ?_ 3 _ rfl; (with_reducible repeat (first | refine blk_drewN ?_ _ | refine blk_drew ?_ | refine blk_alloc ?_ _)); refine blk_put (cs := #[.slice none 0 0, .slice none 0 0, .bool false, .slice none 0 0]) ?_ 2 _ rfl; (with_reducible repeat (first | refine blk_drewN ?_ _ | refine blk_drew ?_ | refine blk_alloc ?_ _)); refine blk_put (cs := #[.slice none 0 0, .slice none 0 0, .bool false, .slice none 0 0]) ?_ 1 _ rfl; (with_reducible repeat (first | refine blk_drewN ?_ _ | refine blk_drew ?_ | refine blk_alloc ?_ _)); refine blk_put (cs := #[.slice none 0 0, .slice none 0 0, .bool false, .slice none 0 0]) ?_ 0 _ rfl; (with_reducible repeat (first | refine blk_drewN ?_ _ | refine blk_drew ?_ | refine blk_alloc ?_ _)); exact BK404.out) Try.underlying27 rfl (by kernel_rfl)) rfl ?_
   exact ⟨_, _, _, by first | rfl | (simp [errW_none, errW_some] <;> rfl) | (simp [*, errW_none, errW_some] <;> rfl), by first | exact Kd.R_nil _ _ _ _ _ | exact Kd.N_nil _ _ _ _ _ | exact Kd.V_nil _ _ _ _ _ | exact Kd.Q_nil _ _ _ _ _ | exact Kd.S_nil _ _ _ _ _, by first | exact Kd.R_nil _ _ _ _ _ | exact Kd.N_nil _ _ _ _ _ | exact Kd.V_nil _ _ _ _ _ | exact Kd.Q_nil _ _ _ _ _ | exact Kd.S_nil _ _ _ _ _, by first | exact Kd.R_nil _ _ _ _ _ | exact Kd.N_nil _ _ _ _ _ | exact Kd.V_nil _ _ _ _ _ | exact Kd.Q_nil _ _ _ _ _ | exact Kd.S_nil _ _ _ _ _, by repeat (first | (with_reducible first | exact HB.out | apply below_alloc | apply pw_below_drewN | apply below_drew1 | refine below_set ?_ GE403.out | refine below_set ?_ GE404.out) | exact HB.out)⟩
end Go.Proofs.Ytddommgeaoknbaa.X
namespace Go.Proofs.Ytddommgeaoknbaa.X
open Go.RowKit Go.Proofs.YtddommgeaoknbaaW.PrintWords Go.Proofs.YtddommgeaoknbaaW.PrintLast Go.Proofs.YtddommgeaoknbaaW.PrintMore
attribute [local go_sem] xbin_geq xbin_leq xbin_gtr max2_int min2_int max_two min_two max_three min_three max_four min_four
set_option linter.unusedVariables false
set_option linter.unusedSimpArgs false
open Go.Lib in
theorem run_clear_cells {P : Program} (w : World) (t e ty : TypeId) (z : Value) (ht : P.underlying t = some (.slice e)) (hv : ∀ w, (zeroValue e).run P w = .ok z w) (b o n c : Nat) (zs : List Value) (hzs : (Builtin.zeroCells z.cells n).toList = zs) (h1 : ∀ v ∈ zs, v.oneCell' = true) (hn : 0 < n)
    (hc : ∀ j, j < zs.length → (w.cell? ⟨b, o + j, none⟩).isSome = true) (hf : ∀ j, j < zs.length → w.frozen? ⟨b, o + j, none⟩ = false) :
    (Builtin.clear_ #[t] ty #[.slice (some ⟨b, o, none⟩) n c]).run P w = .ok (.tuple #[]) (w.setCells b o zs) := by
  have hst := run_storeCells_cells (P := P) b o zs 0 w (by simpa using hc) (by simpa using hf) h1
  simp only [Nat.add_zero] at hst
  obtain ⟨m, rfl⟩ : ∃ m, n = m + 1 := ⟨n - 1, by omega⟩
  simp [Builtin.clear_, run_underlying ht, hv, hzs, hst]
theorem madeCells_all {z : Value} {n : Nat} (h : ∀ v ∈ z.cells, v.oneCell' = true) : ∀ v ∈ (Builtin.zeroCells z.cells n).toList, v.oneCell' = true := by
  intro v hv
  unfold Builtin.zeroCells at hv
  rw [Array.toList_map, List.mem_map] at hv
  obtain ⟨j, hj, rfl⟩ := hv
  have hj2 : j < n * z.cells.size := by simpa using hj
  have hp : 0 < z.cells.size := by
    rcases Nat.eq_zero_or_pos z.cells.size with h0 | h0
    · rw [h0] at hj2; omega
    · exact h0
  have hlt : j % z.cells.size < z.cells.size := Nat.mod_lt _ hp
  rw [getElem!_pos z.cells _ hlt]
  exact h _ (Array.getElem_mem hlt)
theorem R_blk {α : Type} {d : Kd α} {e : Nat} {w : World} {base : Nat} {ok : Nat → Prop} {g n c : Nat} {xs : List α} (h : d.R e w base ok (.slice (some ⟨g, 0, none⟩) n c) xs) :
    ∃ cur inner, n = xs.length ∧ base ≤ g ∧ w.heap[g]? = some (.cells cur e (0, 0)) ∧ n ≤ c ∧ c ≤ maxLen ∧ cur.size = c * d.sz ∧ cur.toList.take (n * d.sz) = inner ∧ Reps (d.M w base (fun k => ok k ∧ k ≠ g)) d.sz xs inner ∧ ok g := by
  obtain ⟨hn, _, _⟩ := Kd.R_reads' h
  obtain ⟨hok, inner, hown, hr⟩ := h
  rcases hown.2 with ⟨hv, _⟩ | ⟨g', cap', cur, hv, hb, hh, hnc, hcm, hcs, htake⟩
  · cases hv
  injection hv with ha hn2 hc
  injection ha with ha
  injection ha with hg
  subst hg; subst hc
  exact ⟨cur, inner, hn, hb, hh, by omega, hcm, hcs, by rw [hn]; exact htake, hr.imp_ (fun _ _ hm => d.M_mono (fun k hk => ⟨hk.1, fun he => hk.2 (by rw [he]; rfl)⟩) hm), hok g rfl⟩
theorem R_of_blk {α : Type} {d : Kd α} {e : Nat} {w : World} {base : Nat} {ok : Nat → Prop} {g n c : Nat} {xs : List α} {cur : Array Value} {inner : List Value} (hn : n = xs.length) (hb : base ≤ g) (hh : w.heap[g]? = some (.cells cur e (0, 0))) (hnc : n ≤ c) (hcm : c ≤ maxLen) (hcs : cur.size = c * d.sz) (ht : cur.toList.take (n * d.sz) = inner)
    (hr : Reps (d.M w base (fun k => ok k ∧ k ≠ g)) d.sz xs inner) (hok : ok g) : d.R e w base ok (.slice (some ⟨g, 0, none⟩) n c) xs := by
  subst hn
  refine ⟨fun k hk => ?_, inner, ⟨hr.1, .inr ⟨g, c, cur, rfl, hb, hh, hnc, hcm, hcs, ht⟩⟩, hr.imp_ (fun _ _ hm => d.M_mono (fun k hk => ⟨hk.1, fun he => hk.2 ?_⟩) hm)⟩
  · have : g = k := by simpa [Value.ownBlock] using hk
    exact this ▸ hok
  · simpa [Value.ownBlock] using he
theorem grown_setCells (w : World) (g o : Nat) (vs : List Value) : w.grownBy (w.setCells g o vs) (some g) := by
  obtain ⟨h1, h2, h3, h4⟩ := setCells_same g vs o w
  exact ⟨h1, h2, h3, by omega, fun k _ hk => setCells_far vs o k (fun he => hk (by rw [he]))⟩
theorem R_tail {α : Type} {d : Kd α} {e : Nat} {w : World} {base : Nat} {ok : Nat → Prop} {g n c : Nat} {xs : List α} (h : d.R e w base ok (.slice (some ⟨g, 0, none⟩) n c) xs) (o : Nat) (vs : List Value) (ho : n * d.sz ≤ o) (hl : o + vs.length ≤ c * d.sz) : d.R e (w.setCells g o vs) base ok (.slice (some ⟨g, 0, none⟩) n c) xs := by
  obtain ⟨cur, inner, hn, hb, hh, hnc, hcm, hcs, ht, hr, hok⟩ := R_blk h
  obtain ⟨cur', h1, h2, h3⟩ := setCells_row vs o w cur hh (by omega)
  refine R_of_blk hn hb h1 hnc hcm (by rw [h2]; exact hcs) (inner := inner) ?_ (hr.imp_ (fun _ _ hm => d.M_move (fun k hk => setCells_far vs o k hk.2) hm)) hok
  rw [h3, List.append_assoc, List.take_append_of_le_length (by rw [List.length_take, Array.length_toList]; omega), List.take_take, Nat.min_eq_left ho, ht]
theorem R_there {α : Type} {d : Kd α} {e : Nat} {w : World} {base : Nat} {ok : Nat → Prop} {g n c : Nat} {xs : List α} (h : d.R e w base ok (.slice (some ⟨g, 0, none⟩) n c) xs) (j : Nat) : (j < c * d.sz → (w.cell? ⟨g, j, none⟩).isSome = true) ∧ w.frozen? ⟨g, j, none⟩ = false := by
  obtain ⟨cur, inner, hn, hb, hh, hnc, hcm, hcs, ht, hr, hok⟩ := R_blk h
  refine ⟨fun hj => ?_, blk_frozen hh j⟩
  rw [blk_cell hh j, Array.getElem?_eq_getElem (by omega)]
  rfl
theorem R_clear {P : Program} {α : Type} {d : Kd α} {e : Nat} {w : World} {base : Nat} {ok : Nat → Prop} {g n c : Nat} {xs : List α} (h : d.R e w base ok (.slice (some ⟨g, 0, none⟩) n c) xs) (t ty : TypeId) (z : Value) (ht : P.underlying t = some (.slice e)) (hv : ∀ w, (zeroValue e).run P w = .ok z w) (hz : z.cells.size = d.sz) (h1 : ∀ v ∈ z.cells, v.oneCell' = true) (m c2 : Nat) (hm : 0 < m) (hmc : n + m ≤ c) :
    ∃ w1, (Builtin.clear_ #[t] ty #[.slice (some ⟨g, n * d.sz, none⟩) m c2]).run P w = .ok (.tuple #[]) w1 ∧ d.R e w1 base ok (.slice (some ⟨g, 0, none⟩) n c) xs ∧ w.grownBy w1 (some g) := by
  have hl : (Builtin.zeroCells z.cells m).toList.length = m * d.sz := by rw [Array.length_toList, size_zeroCells, hz]
  have hle : (n + m) * d.sz ≤ c * d.sz := Nat.mul_le_mul_right _ hmc
  rw [Nat.add_mul] at hle
  refine ⟨_, run_clear_cells w t e ty z ht hv g (n * d.sz) m c2 _ rfl (madeCells_all h1) hm (fun j hj => (R_there h _).1 (by omega)) (fun j hj => (R_there h _).2), R_tail h _ _ (Nat.le_refl _) (by omega), grown_setCells _ _ _ _⟩
theorem R_cap {α : Type} {d : Kd α} {e : Nat} {w : World} {base : Nat} {ok : Nat → Prop} {g n c : Nat} {xs : List α} (h : d.R e w base ok (.slice (some ⟨g, 0, none⟩) n c) xs) : n = xs.length ∧ base ≤ g ∧ g < w.heap.size ∧ n ≤ c ∧ c ≤ 9223372036854775807 ∧ ok g := by
  obtain ⟨cur, inner, hn, hb, hh, hnc, hcm, _, _, _, hok⟩ := R_blk h
  unfold maxLen at hcm
  exact ⟨hn, hb, blk_lt hh, hnc, by omega, hok⟩
theorem R_cases {α : Type} {d : Kd α} {e : Nat} {w : World} {base : Nat} {ok : Nat → Prop} {v : Value} {xs : List α} (h : d.R e w base ok v xs) : (v = .slice none 0 0 ∧ xs = []) ∨ ∃ g c, v = .slice (some ⟨g, 0, none⟩) xs.length c := by
  obtain ⟨_, inner, hown, _⟩ := h
  rcases hown.2 with ⟨hv, hn⟩ | ⟨g', cap', cur, hv, _⟩
  · exact .inl ⟨hv, List.eq_nil_of_length_eq_zero hn⟩
  · exact .inr ⟨g', cap', hv⟩
end Go.Proofs.Ytddommgeaoknbaa.X
namespace Go.Proofs.Ytddommgeaoknbaa.X
open Go.RowKit Go.Proofs.YtddommgeaoknbaaW.PrintWords Go.Proofs.YtddommgeaoknbaaW.PrintLast Go.Proofs.YtddommgeaoknbaaW.PrintMore
attribute [local go_sem] xbin_geq xbin_leq xbin_gtr max2_int min2_int max_two min_two max_three min_three max_four min_four
set_option linter.unusedVariables false
set_option linter.unusedSimpArgs false
def compactL : List Int → List Int
  | [] => []
  | [x] => [x]
  | x :: y :: r => if x = y then compactL (y :: r) else x :: compactL (y :: r)
theorem compactL_mem (x : Int) : ∀ l : List Int, x ∈ compactL l ↔ x ∈ l
  | [] => Iff.rfl
  | [y] => Iff.rfl
  | y :: z :: r => by
    have ih := compactL_mem x (z :: r)
    unfold compactL
    split
    · rename_i h
      rw [ih, h]
      simp
    · rw [List.mem_cons, ih, List.mem_cons (a := x) (b := y)]
theorem compactL_strict : ∀ l : List Int, l.Pairwise (· ≤ ·) → (compactL l).Pairwise (· < ·)
  | [], _ => List.Pairwise.nil
  | [y], _ => List.pairwise_singleton _ _
  | y :: z :: r, h => by
    have h2 := (List.pairwise_cons.1 h).2
    have ih := compactL_strict (z :: r) h2
    unfold compactL
    split
    · exact ih
    · rename_i hne
      refine List.pairwise_cons.2 ⟨fun x hx => ?_, ih⟩
      rw [compactL_mem] at hx
      have h1 := (List.pairwise_cons.1 h).1
      have h3 := h1 z List.mem_cons_self
      rcases List.mem_cons.1 hx with rfl | hx
      · omega
      · have h4 := (List.pairwise_cons.1 h2).1 x hx
        omega
theorem strict_ext : ∀ l1 l2 : List Int, l1.Pairwise (· < ·) → l2.Pairwise (· < ·) → (∀ x, x ∈ l1 ↔ x ∈ l2) → l1 = l2
  | [], [], _, _, _ => rfl
  | [], y :: l2, _, _, h => absurd ((h y).2 List.mem_cons_self) (by simp)
  | x :: l1, [], _, _, h => absurd ((h x).1 List.mem_cons_self) (by simp)
  | x :: l1, y :: l2, h1, h2, h => by
    have a1 := List.pairwise_cons.1 h1
    have a2 := List.pairwise_cons.1 h2
    have e : x = y := by
      rcases List.mem_cons.1 ((h x).1 List.mem_cons_self) with e | e
      · exact e
      · rcases List.mem_cons.1 ((h y).2 List.mem_cons_self) with e2 | e2
        · exact e2.symm
        · have := a2.1 x e
          have := a1.1 y e2
          omega
    subst e
    congr 1
    refine strict_ext l1 l2 a1.2 a2.2 fun z => ⟨fun hz => ?_, fun hz => ?_⟩
    · rcases List.mem_cons.1 ((h z).1 (List.mem_cons_of_mem _ hz)) with e | e
      · subst e
        have := a1.1 _ hz
        omega
      · exact e
    · rcases List.mem_cons.1 ((h z).2 (List.mem_cons_of_mem _ hz)) with e | e
      · subst e
        have := a2.1 _ hz
        omega
      · exact e
def belowL (l : List Int) (n : Nat) : List Int := ((List.range n).filter fun (i : Nat) => decide ((i : Int) ∈ l)).map fun (i : Nat) => (i : Int)
theorem belowL_strict (l : List Int) (n : Nat) : (belowL l n).Pairwise (· < ·) := by
  unfold belowL
  refine List.pairwise_map.2 (List.Pairwise.imp (fun h => by omega) (List.Pairwise.filter _ List.pairwise_lt_range))
theorem belowL_mem (l : List Int) (n : Nat) (h : ∀ x, x ∈ l → 0 ≤ x ∧ x < (n : Int)) (x : Int) : x ∈ belowL l n ↔ x ∈ l := by
  unfold belowL
  rw [List.mem_map]
  constructor
  · rintro ⟨i, hi, rfl⟩
    exact of_decide_eq_true (List.mem_filter.1 hi).2
  · intro hx
    have := h x hx
    refine ⟨x.toNat, List.mem_filter.2 ⟨List.mem_range.2 (by omega), ?_⟩, by omega⟩
    rw [show ((x.toNat : Nat) : Int) = x by omega]
    exact decide_eq_true hx
theorem sort_compact (l : List Int) (n : Nat) (h : ∀ x, x ∈ l → 0 ≤ x ∧ x < (n : Int)) : compactL (l.mergeSort fun x y => decide (x ≤ y)) = belowL l n := by
  refine strict_ext _ _ (compactL_strict _ ?_) (belowL_strict l n) fun x => ?_
  · have := List.pairwise_mergeSort (le := fun (x y : Int) => decide (x ≤ y)) (fun a b c h1 h2 => by have := of_decide_eq_true h1; have := of_decide_eq_true h2; exact decide_eq_true (by omega)) (fun a b => by rcases Int.le_total a b with h | h <;> simp [h]) l
    exact this.imp (fun h => of_decide_eq_true h)
  · rw [compactL_mem, List.mem_mergeSort, belowL_mem l n h]
theorem compactL_snoc : ∀ (l : List Int) (y x : Int), compactL (l ++ [y] ++ [x]) = if y = x then compactL (l ++ [y]) else compactL (l ++ [y]) ++ [x]
  | [], y, x => by
    show compactL [y, x] = if y = x then compactL [y] else compactL [y] ++ [x]
    rw [show compactL [y, x] = if y = x then compactL [x] else y :: compactL [x] from compactL.eq_3 ..]
    by_cases h : y = x
    · rw [if_pos h, if_pos h, h]
    · rw [if_neg h, if_neg h]
      rfl
  | [z], y, x => by
    show compactL (z :: y :: [x]) = if y = x then compactL [z, y] else compactL [z, y] ++ [x]
    have ih := compactL_snoc [] y x
    simp only [List.nil_append] at ih
    have ih2 : compactL [y, x] = if y = x then compactL [y] else compactL [y] ++ [x] := ih
    rw [compactL, show compactL [z, y] = if z = y then compactL [y] else z :: compactL [y] from compactL.eq_3 ..]
    by_cases h : z = y
    · rw [if_pos h, if_pos h]
      exact ih2
    · rw [if_neg h, if_neg h, ih2]
      split <;> rfl
  | z :: u :: l, y, x => by
    have ih := compactL_snoc (u :: l) y x
    show compactL (z :: u :: (l ++ [y] ++ [x])) = if y = x then compactL (z :: u :: (l ++ [y])) else compactL (z :: u :: (l ++ [y])) ++ [x]
    rw [compactL, compactL]
    have ih2 : compactL (u :: (l ++ [y] ++ [x])) = if y = x then compactL (u :: (l ++ [y])) else compactL (u :: (l ++ [y])) ++ [x] := ih
    by_cases h : z = u
    · rw [if_pos h, if_pos h]
      exact ih2
    · rw [if_neg h, if_neg h, ih2]
      split <;> rfl
theorem compactL_short (l : List Int) (h : l.length < 2) : compactL l = l := by
  match l, h with
  | [], _ => rfl
  | [x], _ => rfl
def slices_Compact_int_int.f (l0 : List Int) : Option (List Int) := if l0.length ≤ 1000000 then some (compactL l0) else none
theorem take_snoc2 {l : List Int} {k : Nat} (h1 : 1 ≤ k) (h : k < l.length) : l.take (k + 1) = l.take (k - 1) ++ [l[k - 1]'(by omega)] ++ [l[k]] ∧ l.take k = l.take (k - 1) ++ [l[k - 1]'(by omega)] := by
  have e : l.take k = l.take (k - 1) ++ [l[k - 1]'(by omega)] := by
    have := List.take_append_getElem (l := l) (i := k - 1) (by omega)
    rw [this, show k - 1 + 1 = k by omega]
  exact ⟨by rw [← e, List.take_append_getElem h], e⟩
theorem compact_next {l : List Int} {k : Nat} (h1 : 1 ≤ k) (h : k < l.length) : compactL (l.take (k + 1)) = if l[k - 1]'(by omega) = l[k] then compactL (l.take k) else compactL (l.take k) ++ [l[k]] := by
  obtain ⟨e1, e2⟩ := take_snoc2 h1 h
  rw [e1, e2, compactL_snoc]
set_option maxHeartbeats 8000000 in
set_option maxRecDepth 100000 in
theorem slices_Compact_int_int.calls (P0_ : Nat → Prop) (u9000_ : Value) (l0 : List Int) (r : List Int) (w0 w : World) (hB : Below w0.heap.size w0 w) (ho0 : Kd.R (Kd.int .i64) 3 w w0.heap.size P0_ u9000_ l0) (h : slices_Compact_int_int.f l0 = some r) :
    Calls Try.prog 33 #[u9000_] w fun e w' => ∃ v0_ : Value, e = .returned (v0_) ∧ Kd.R (Kd.int .i64) 3 w' w0.heap.size (fun k_ => (P0_ k_ ∨ w.heap.size ≤ k_)) v0_ r ∧ Below w0.heap.size w0 w' ∧ Kept w w' (fun k_ => P0_ k_) := by
  unfold slices_Compact_int_int.f at h
  by_cases hl : l0.length ≤ 1000000
  · rw [if_pos hl] at h
    have hr := Option.some.inj h
    have HR := Aside0.mk hr
    have hu := Try.underlying25
    by_cases h2 : l0.length < 2
    · have c1 : decide ((l0.length : Int) < 2) = true := decide_eq_true (by omega)
      obtain ⟨A, c, ev, _, _⟩ := Kd.R_reads ho0
      subst ev
      have HO := Aside0.mk ho0
      have HB := Aside0.mk hB
      have HE := Aside0.mk (compactL_short l0 h2)
      clear ho0 hB h hr h2
      go_enter Try.func33, Try.ntmps33
      go_wp2_with fail
      go_ret
      rw [← HR.out, HE.out]
      exact ⟨_, rfl, Kd.R_mono HO.out (fun _ hk => .inl hk), HB.out, Kept.refl _ _⟩
    · obtain ⟨g, c, ev, hbg, hgl, _⟩ := Kd.R_form ho0 (by omega)
      subst ev
      have c1 : decide ((l0.length : Int) < 2) = false := decide_eq_false (by omega)
      have HO := Aside0.mk ho0
      have HB := Aside0.mk hB
      have HG := Aside0.mk hbg
      have HK := Aside0.mk (Kept.refl w (fun k_ => P0_ k_))
      clear ho0 hB h hr hbg
      go_enter Try.func33, Try.ntmps33
      go_upto_region 4 with fail
      go_loopw [3] (fun v3 wr => ∃ k : Nat, 1 ≤ k ∧ k ≤ l0.length ∧ v3 = .int .i64 (k : Int) ∧ Aside0 (compactL (l0.take k) = l0.take k) ∧ Aside0 (Kd.R (Kd.int .i64) 3 wr w0.heap.size P0_ (.slice (some ⟨g, 0, none⟩) l0.length c) l0) ∧ Aside0 (Below w0.heap.size w0 wr) ∧ Aside0 (Kept w wr (fun k_ => P0_ k_))) (fun v3 _ => l0.length - (intOf v3).toNat)
      case atStart => exact ⟨1, by omega, by omega, rfl, ⟨compactL_short _ (by rw [List.length_take]; omega)⟩, HO, HB, HK⟩
      case round =>
        clear HO HB HK
        obtain ⟨k, hk1, hk, rfl, HC, HO, HB, HK⟩ := hrel
        by_cases hlt : k < l0.length
        · have c2 : decide ((k : Int) < (l0.length : Int)) = true := decide_eq_true (by omega)
          obtain ⟨j, hj⟩ : ∃ j, k = j + 1 := ⟨k - 1, by omega⟩
          subst hj
          have hO := Kd.R_drew HO.out
          obtain ⟨x0, _⟩ := Kd.R_celln (0 : Int) hO ((j + 1 : Nat) : Int) (by omega) (by omega)
          obtain ⟨x1, _⟩ := Kd.R_celln (0 : Int) hO (j : Int) (by omega) (by omega)
          obtain ⟨a, ha⟩ : ∃ a, a = l0[j + 1] := ⟨_, rfl⟩
          obtain ⟨b, hb⟩ : ∃ b, b = l0[j]'(by omega) := ⟨_, rfl⟩
          have e0 : rdOf 0 l0 ((j + 1 : Nat) : Int) = a := by rw [ha]; unfold rdOf; rw [Int.toNat_natCast]; simp [List.getD_eq_getElem?_getD, hlt]
          have e1 : rdOf 0 l0 (j : Int) = b := by rw [hb]; unfold rdOf; rw [Int.toNat_natCast]; simp [List.getD_eq_getElem?_getD, show j < l0.length by omega]
          rw [Int.toNat_natCast, e0] at x0
          rw [Int.toNat_natCast, e1] at x1
          have hnx := compact_next (l := l0) (k := j + 1) (by omega) hlt
          simp only [Nat.add_sub_cancel, ← ha, ← hb] at hnx
          have HNX := Aside0.mk hnx
          have HAB := Aside0.mk (And.intro ha hb)
          have j0 : (0 : Int) ≤ (j : Int) := by omega
          have j1 : (j : Int) < (l0.length : Int) := by omega
          have j2 : (j : Int) + 1 < (l0.length : Int) := by omega
          have j3 : ¬ (j : Int) + 1 < 0 := by omega
          have j4 : IntKind.i64.wrap (j : Int) = (j : Int) := by rw [IntKind.wrap_i64]; omega
          have j5 : ((j : Int) + 1).toNat = j + 1 := by omega
          have j6 : 0 ≤ (j : Int) + 1 := by omega
          have j7 : 0 ≤ ((j + 1 : Nat) : Int) := by omega
          have j8 : ((j + 1 : Nat) : Int) < (l0.length : Int) := by omega
          have j9 : ((j + 1 : Nat) : Int).toNat = j + 1 := by omega
          have hcap := (Kd.R_reads' HO.out).2.1
          have j10 : ¬ (c = j + 1) := by omega
          have j11 : ¬ (j + 1 = c) := by omega
          have j12 : (j : Int) + 1 ≤ (c : Int) := by omega
          have j13 : j + 1 < c := by omega
          clear hO e0 e1 hnx ha hb
          by_cases hab : a = b
          · have c3 : (a == b) = true := beq_iff_eq.2 hab
            clear hab
            go_upto_region 6 with fail
            go_region_held3 (fun W => W.cell? ⟨g, j + 1, none⟩ = some (.int .i64 a) ∧ W.cell? ⟨g, j, none⟩ = some (.int .i64 b)) (first | exact ⟨x0, x1⟩) (first | fail)
            have hc := HNX.out
            rw [if_pos (beq_iff_eq.1 c3).symm, HC.out] at hc
            have HS := Aside0.mk (show l0.take (j + 1) = compactL (l0.take (j + 1 + 1)) from hc.symm)
            clear hc x0 x1
            go_upto_region 9 with fail
            go_loopw [3, 5] (fun v3 v5 wr => ∃ (m q : Nat) (xs : List Int), j + 1 + (q + 1) ≤ l0.length ∧ m ≤ j + 1 + q ∧ v3 = .int .i64 (m : Int) ∧ v5 = .int .i64 ((q + 1 : Nat) : Int) ∧ Aside0 (xs.length = l0.length) ∧ Aside0 (xs.take m = compactL (l0.take (j + 1 + (q + 1)))) ∧ Aside0 (xs.drop (j + 1 + q) = l0.drop (j + 1 + q)) ∧ Aside0 (Kd.R (Kd.int .i64) 3 wr w0.heap.size P0_ (.slice (some ⟨g, 0, none⟩) l0.length c) xs) ∧ Aside0 (Below w0.heap.size w0 wr) ∧ Aside0 (Kept w wr (fun k_ => P0_ k_))) (fun _ v5 _ => l0.length - (intOf v5).toNat)
            case atStart => exact ⟨j + 1, 0, l0, by omega, by omega, rfl, rfl, ⟨rfl⟩, HS, ⟨rfl⟩, ⟨by first | exact HO.out | exact Kd.R_drew HO.out⟩, ⟨by first | exact HB.out | exact below_drew HB.out⟩, ⟨by first | exact HK.out | exact Kept.drew HK.out⟩⟩
            case round =>
              clear HS HO HB HK HC HNX HAB
              obtain ⟨m, q, xs, hq, hm, rfl, rfl, HL, HT, HDr, HO, HB, HK⟩ := hrel
              by_cases hlt2 : j + 1 + (q + 1) < l0.length
              · have d1 : decide (((q + 1 : Nat) : Int) < ((l0.length - (j + 1) : Nat) : Int)) = true := decide_eq_true (by omega)
                obtain ⟨x1, _⟩ := Kd.R_celln (0 : Int) (Kd.R_drew HO.out) ((j + 1 + (q + 1) : Nat) : Int) (by omega) (by omega)
                obtain ⟨x0, _⟩ := Kd.R_celln (0 : Int) (Kd.R_drew HO.out) ((j + 1 + q : Nat) : Int) (by omega) (by omega)
                obtain ⟨a2, ha2⟩ : ∃ a2, a2 = l0[j + 1 + (q + 1)] := ⟨_, rfl⟩
                obtain ⟨b2, hb2⟩ : ∃ b2, b2 = l0[j + 1 + q]'(by omega) := ⟨_, rfl⟩
                have e1 : rdOf 0 xs ((j + 1 + (q + 1) : Nat) : Int) = a2 := by
                  have h := congrArg (fun l => l[1]?) HDr.out
                  simp only [List.getElem?_drop] at h
                  rw [show j + 1 + q + 1 = j + 1 + (q + 1) by omega] at h
                  rw [ha2]
                  unfold rdOf
                  rw [Int.toNat_natCast, List.getD_eq_getElem?_getD, h, List.getElem?_eq_getElem hlt2]
                  rfl
                have e0 : rdOf 0 xs ((j + 1 + q : Nat) : Int) = b2 := by
                  have h := congrArg (fun l => l[0]?) HDr.out
                  simp only [List.getElem?_drop, Nat.add_zero] at h
                  rw [hb2]
                  unfold rdOf
                  rw [Int.toNat_natCast, List.getD_eq_getElem?_getD, h, List.getElem?_eq_getElem (by omega)]
                  rfl
                rw [Int.toNat_natCast, e1] at x1
                rw [Int.toNat_natCast, e0] at x0
                have hnx := compact_next (l := l0) (k := j + 1 + (q + 1)) (by omega) hlt2
                simp only [show j + 1 + (q + 1) - 1 = j + 1 + q by omega, ← ha2, ← hb2] at hnx
                have HNX := Aside0.mk hnx
                have q0 : (0 : Int) ≤ (q : Int) := by omega
                have q1 : (q : Int) < ((l0.length - (j + 1) : Nat) : Int) := by omega
                have q2 : (q : Int) + 1 < ((l0.length - (j + 1) : Nat) : Int) := by omega
                have q3 : ¬ (q : Int) + 1 < 0 := by omega
                have q4 : IntKind.i64.wrap (q : Int) = (q : Int) := by rw [IntKind.wrap_i64]; omega
                have q5 : ((q : Int) + 1).toNat = q + 1 := by omega
                have q6 : 0 ≤ (q : Int) + 1 := by omega
                have q7 : q + 1 < l0.length - (j + 1) := by omega
                have q8 : q < l0.length - (j + 1) := by omega
                have m0 : (0 : Int) ≤ (m : Int) := by omega
                have m1 : (m : Int) < (l0.length : Int) := by omega
                have HDR := Aside0.mk (show xs.drop (j + 1 + (q + 1)) = l0.drop (j + 1 + (q + 1)) from by
                  have h := congrArg (List.drop 1) HDr.out
                  rw [List.drop_drop, List.drop_drop, show j + 1 + q + 1 = j + 1 + (q + 1) by omega] at h
                  exact h)
                clear e0 e1 hnx ha2 hb2
                by_cases hab2 : b2 = a2
                · have c4 : (a2 != b2) = false := by rw [hab2]; simp
                  have hc := HNX.out
                  rw [if_pos hab2] at hc
                  have HT2 := Aside0.mk (show xs.take m = compactL (l0.take (j + 1 + (q + 1 + 1))) from by rw [show j + 1 + (q + 1 + 1) = j + 1 + (q + 1) + 1 by omega, hc]; exact HT.out)
                  clear hab2 hc
                  go_upto_region 11 with fail
                  go_region_held3 (fun W => W.cell? ⟨g, j + 1 + (q + 1), none⟩ = some (.int .i64 a2) ∧ W.cell? ⟨g, j + 1 + q, none⟩ = some (.int .i64 b2)) (first | exact ⟨x1, x0⟩) (first | fail)
                  go_wp2_with fail
                  go_roundw
                  case rel => exact ⟨m, q + 1, xs, by omega, by omega, rfl, by go_num, HL, HT2, HDR, ⟨Kd.R_drew HO.out⟩, ⟨below_drew HB.out⟩, ⟨Kept.drew HK.out⟩⟩
                  case measure => simp [intOf]; omega
                · have c4 : (a2 != b2) = true := bne_iff_ne.2 (fun h => hab2 h.symm)
                  have hc := HNX.out
                  rw [if_neg hab2] at hc
                  have HT2 := Aside0.mk (show (xs.set m a2).take (m + 1) = compactL (l0.take (j + 1 + (q + 1 + 1))) from by
                    rw [show j + 1 + (q + 1 + 1) = j + 1 + (q + 1) + 1 by omega, hc, ← HT.out]
                    have hml : m < xs.length := by have := HL.out; omega
                    rw [List.take_add_one, List.getElem?_set_self hml, List.take_set_of_le (by omega)]
                    rfl)
                  have HD2 := Aside0.mk (show (xs.set m a2).drop (j + 1 + (q + 1)) = l0.drop (j + 1 + (q + 1)) from by rw [List.drop_set_of_lt (by omega)]; exact HDR.out)
                  have HP := Aside0.mk (Kd.R_putn (Kd.R_drew HO.out) (m : Int) a2)
                  obtain ⟨y0, y1⟩ := Kd.R_celln (0 : Int) (Kd.R_drew HO.out) (m : Int) m0 (by omega)
                  rw [Int.toNat_natCast] at y0 y1
                  have hok : P0_ g := (R_cap HO.out).2.2.2.2.2
                  have HOK := Aside0.mk hok
                  clear hab2 hc hok
                  go_upto_region 11 with fail
                  go_region_held3 (fun W => W.cell? ⟨g, j + 1 + (q + 1), none⟩ = some (.int .i64 a2) ∧ W.cell? ⟨g, j + 1 + q, none⟩ = some (.int .i64 b2)) (first | exact ⟨x1, x0⟩) (first | fail)
                  go_wp2_with fail
                  go_roundw
                  case rel => exact ⟨m + 1, q + 1, xs.set m a2, by omega, by omega, by go_num, by go_num, ⟨by rw [List.length_set]; exact HL.out⟩, HT2, HD2, ⟨by have h := HP.out; rw [Int.toNat_natCast] at h; exact h⟩, ⟨(below_drew HB.out).setCell (p := ⟨g, m, none⟩) HG.out _⟩, ⟨Kept.setCell (Kept.drew HK.out) (.inl HOK.out) _⟩⟩
                  case measure => simp [intOf]; omega
              · have hqe : j + 1 + (q + 1) = l0.length := by omega
                have d1 : decide (((q + 1 : Nat) : Int) < ((l0.length - (j + 1) : Nat) : Int)) = false := decide_eq_false (by omega)
                have hTT := HT.out
                rw [hqe, List.take_length] at hTT
                have HT2 := Aside0.mk hTT
                have hRT := Kd.R_take (m := m) HO.out (by have := HL.out; omega)
                obtain ⟨w2, hr2, ho2, hg2⟩ := R_clear (P := Try.prog) hRT 25 0 (.int .i64 0) Try.underlying25 Try.zeroValue3 rfl (by decide) (l0.length - m) (c - m) (by omega) (by omega)
                have hr3 : ∀ ty, (Builtin.clear_ #[25] ty #[.slice (some ⟨g, m, none⟩) (l0.length - m) (c - m)]).run Try.prog wr = .ok (.tuple #[]) w2 := fun ty => by
                  have h := hr2
                  rw [show (Kd.int .i64).sz = 1 from rfl, Nat.mul_one] at h
                  exact h
                have hok : P0_ g := (R_cap HO.out).2.2.2.2.2
                have HO2 := Aside0.mk ho2
                have HG2 := Aside0.mk hg2
                have HOK := Aside0.mk hok
                have m1 : ¬ (c = m) := by omega
                have m2 : ¬ (m = c) := by omega
                have m3 : (m : Int) ≤ (c : Int) := by omega
                have m4 : m < c := by omega
                have m5 : (m : Int) ≤ (l0.length : Int) := by omega
                have m6 : m ≤ l0.length := by omega
                have m7 : ¬ (q + 1 < l0.length - (j + 1)) := by omega
                clear hr2 ho2 hg2 hok hRT hTT HT HDr HL hqe
                go_wp2_with fail
                go_ret
                rw [← HR.out, ← HT2.out]
                exact ⟨_, rfl, Kd.R_mono HO2.out (fun _ hk => .inl hk), HB.out.grown HG2.out HB.out.size (fun q hq => by injection hq with hq; subst hq; exact HG.out), Kept.of_grown HG2.out HK.out (fun q hq => by injection hq with hq; subst hq; exact .inl HOK.out)⟩
          · have c3 : (a == b) = false := beq_eq_false_iff_ne.2 hab
            have hc := HNX.out
            rw [if_neg (fun h => hab h.symm), HC.out] at hc
            have HC2 := Aside0.mk (show compactL (l0.take (j + 1 + 1)) = l0.take (j + 1 + 1) from by rw [hc, HAB.out.1, List.take_append_getElem])
            clear hab hc
            go_upto_region 6 with fail
            go_region_held3 (fun W => W.cell? ⟨g, j + 1, none⟩ = some (.int .i64 a) ∧ W.cell? ⟨g, j, none⟩ = some (.int .i64 b)) (first | exact ⟨x0, x1⟩) (first | fail)
            go_wp2_with fail
            go_roundw
            case rel => exact ⟨j + 1 + 1, by omega, by omega, by go_num, HC2, ⟨Kd.R_drew HO.out⟩, ⟨below_drew HB.out⟩, ⟨Kept.drew HK.out⟩⟩
            case measure => simp [intOf]; omega
        · have he : k = l0.length := by omega
          have c2 : decide ((k : Int) < (l0.length : Int)) = false := decide_eq_false (by omega)
          have hC := HC.out
          rw [he, List.take_length] at hC
          have HC2 := Aside0.mk hC
          clear hC he
          go_wp2_with fail
          go_ret
          rw [← HR.out, HC2.out]
          exact ⟨_, rfl, Kd.R_mono HO.out (fun _ hk => .inl hk), HB.out, HK.out⟩
  · rw [if_neg hl] at h
    cases h
end Go.Proofs.Ytddommgeaoknbaa.X
