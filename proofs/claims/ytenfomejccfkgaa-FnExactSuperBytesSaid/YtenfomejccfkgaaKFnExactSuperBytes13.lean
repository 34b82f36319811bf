import Derived.Test.YtenfomejccfkgaaKFnExactSuperBytes4
import Derived.Test.YtenfomejccfkgaaKFnExactSuperBytes6
import Derived.Test.YtenfomejccfkgaaKFnExactSuperBytes11
import Derived.Test.YtenfomejccfkgaaKFnExactSuperBytes12
namespace Go.Proofs.Ytenfomejccfkgaa.X
open Go.RowKit Go.Proofs.YtenfomejccfkgaaW.PrintWords Go.Proofs.YtenfomejccfkgaaW.PrintLast Go.Proofs.YtenfomejccfkgaaW.PrintMore
attribute [local go_sem] xbin_geq xbin_leq xbin_gtr max2_int min2_int max_two min_two max_three min_three max_four min_four
set_option linter.unusedVariables false
set_option linter.unusedSimpArgs false
mutual
def spec_SuperOK.j0 : Nat → Bool → Int → Int → List (S192) → Option (Bool)
 | 0, _, _, _, _ => none
 | k + 1, x20, x850000, x850001, x850002 => if x20 = true then (some false) else (spec_SuperOK.l0 k 0 x850000 x850001 x850002)
def spec_SuperOK.l0 : Nat → Int → Int → Int → List (S192) → Option (Bool)
 | 0, _, _, _, _ => none
 | k + 1, x3, x850000, x850001, x850002 => if x3 < (x850002.length : Int) then (if 0 ≤ x3 then ((spec_l04Name.f k ((rd_T192 x850002 x3).f0)).bind fun t854 => (if t854 = true then ((spec_l01In.f ((rd_T192 x850002 x3).f1) (-1) 49).bind fun t855 => (if t855 = true then ((spec_l01In.f ((rd_T192 x850002 x3).f2) 0 60000).bind fun t856 => (if t856 = true then (if x3 > 0 then (if 0 ≤ (wrap64 (x3 - 1)) then (if (wrap64 (x3 - 1)) < (x850002.length : Int) then (if ((Op.bytesLess (((rd_T192 x850002 (wrap64 (x3 - 1))).f0).toList) (((rd_T192 x850002 x3).f0).toList)) = true) then (spec_SuperOK.l0 k (wrap64 (x3 + 1)) x850000 x850001 x850002) else (some false)) else (none)) else (none)) else (spec_SuperOK.l0 k (wrap64 (x3 + 1)) x850000 x850001 x850002)) else (some false))) else (some false))) else (some false))) else (none)) else (some true)
end
def spec_SuperOK.f (k : Nat) (a0_0 : Int) (a0_1 : Int) (l0_2 : List (S192)) : Option (Bool) := (spec_l01In.f a0_0 0 200).bind fun t850 => (if t850 = true then ((spec_l01In.f a0_1 (-1) 49).bind fun t851 => (if t851 = true then (spec_SuperOK.j0 k (decide ((l0_2.length : Int) > 4)) a0_0 a0_1 l0_2) else (spec_SuperOK.j0 k true a0_0 a0_1 l0_2))) else (spec_SuperOK.j0 k true a0_0 a0_1 l0_2))
theorem spec_SuperOK.mono_l : ∀ k, (∀ y0 y1 y2 y3, LeO (spec_SuperOK.j0 k y0 y1 y2 y3) (spec_SuperOK.j0 (k + 1) y0 y1 y2 y3)) ∧ (∀ y0 y1 y2 y3, LeO (spec_SuperOK.l0 k y0 y1 y2 y3) (spec_SuperOK.l0 (k + 1) y0 y1 y2 y3))
 | 0 => ⟨fun _ _ _ _ r h => by simp [spec_SuperOK.j0] at h, fun _ _ _ _ r h => by simp [spec_SuperOK.l0] at h⟩
 | k + 1 => by
  obtain ⟨ih0, ih1⟩ := spec_SuperOK.mono_l k
  refine ⟨?_, ?_⟩
  ·intro y0 y1 y2 y3
   unfold spec_SuperOK.j0
   repeat' first
   | (with_reducible exact ih0 _ _ _ _)
   | (with_reducible exact ih1 _ _ _ _)
   | (with_reducible exact spec_l04Name.mono _ _)
   | (with_reducible exact LeO.refl _)
   | (with_reducible exact LeO.none _)
   | (with_reducible refine LeO.ite ?_ ?_)
   | (with_reducible refine LeO.bind ?_ (fun _ => ?_))
   | exact ih0 _ _ _ _
   | exact ih1 _ _ _ _
   | exact spec_l04Name.mono _ _
   | exact LeO.none _
   | refine LeO.ite ?_ ?_
   | refine LeO.bind ?_ (fun _ => ?_)
  ·intro y0 y1 y2 y3
   unfold spec_SuperOK.l0
   repeat' first
   | (with_reducible exact ih0 _ _ _ _)
   | (with_reducible exact ih1 _ _ _ _)
   | (with_reducible exact spec_l04Name.mono _ _)
   | (with_reducible exact LeO.refl _)
   | (with_reducible exact LeO.none _)
   | (with_reducible refine LeO.ite ?_ ?_)
   | (with_reducible refine LeO.bind ?_ (fun _ => ?_))
   | exact ih0 _ _ _ _
   | exact ih1 _ _ _ _
   | exact spec_l04Name.mono _ _
   | exact LeO.none _
   | refine LeO.ite ?_ ?_
   | refine LeO.bind ?_ (fun _ => ?_)
theorem spec_SuperOK.mono : ∀ a0 a1 a2 k, LeO (spec_SuperOK.f k a0 a1 a2) (spec_SuperOK.f (k + 1) a0 a1 a2) := by
 intro a0 a1 a2 k
 obtain ⟨ih0, ih1⟩ := spec_SuperOK.mono_l k
 unfold spec_SuperOK.f
 repeat' first
   | (with_reducible exact ih0 _ _ _ _)
   | (with_reducible exact ih1 _ _ _ _)
   | (with_reducible exact spec_l04Name.mono _ _)
   | (with_reducible exact LeO.refl _)
   | (with_reducible exact LeO.none _)
   | (with_reducible refine LeO.ite ?_ ?_)
   | (with_reducible refine LeO.bind ?_ (fun _ => ?_))
   | exact ih0 _ _ _ _
   | exact ih1 _ _ _ _
   | exact spec_l04Name.mono _ _
   | exact LeO.none _
   | refine LeO.ite ?_ ?_
   | refine LeO.bind ?_ (fun _ => ?_)
def spec_SuperOK.T7 : Bool × List (List Nat × List Nat) := (true, [([], []), ([0], [0]), ([1], [1]), ([2], [2]), ([3, 2], [3]), ([4], [4]), ([5, 4], [4, 5]), ([6, 4, 4], [4, 6]), ([7, 4], [4, 7]), ([4, 8], [4, 8]), ([9, 7], [9]), ([10], [10]), ([11, 10], [10, 11]), ([12, 10, 10], [10, 12]), ([13, 10], [10, 13]), ([10, 14], [10, 14]), ([15, 13], [15]), ([16], [16]), ([17, 16], [16, 17]), ([18, 16, 16], [16, 18]), ([19], [19]), ([20, 19], [19, 20]), ([19], [19]), ([22, 19], [19, 22]), ([21, 23, 19], [19, 21, 23]), ([24, 19], [19, 24]), ([25, 19], [19, 25]), ([19], [19]), ([27, 19], [19, 27]), ([26, 28, 19], [19, 26, 28]), ([19, 29, 16], [16, 19, 29]), ([16, 30], [16, 30])])
def spec_SuperOK.B7 : List Nat := [0, 1, 3, 7, 15, 31, 63, 127, 255, 511, 1023, 2047, 4095, 8191, 16383, 32767, 65535, 131071, 262143, 524287, 1048575, 2097151, 1048575, 5242879, 16777215, 33554431, 67108863, 1048575, 135266303, 536870911, 1073741823, 2147483647]
theorem spec_SuperOK.tab7 : rtab .any (opsOf Try.f112 7) = spec_SuperOK.T7 := by kernel_rfl
theorem spec_SuperOK.bits7 : waitsOk spec_SuperOK.T7.2 spec_SuperOK.B7 = true := by kernel_rfl
set_option maxHeartbeats 8000000 in
set_option maxRecDepth 100000 in
theorem spec_SuperOK.calls (k : Nat) (a0_0 : Int) (a0_1 : Int) (A0_2 : Option Addr) (c0_2 : Nat) (l0_2 : List (S192)) (r : Bool) (w : World) (hr0_2 : Kd.C k192 w A0_2 l0_2.length l0_2) (hc0_2 : l0_2.length ≤ c0_2) (h : spec_SuperOK.f k a0_0 a0_1 l0_2 = some r) :
  Calls Try.prog 112 #[.agg #[.int .i64 a0_0, .int .i64 a0_1, .slice A0_2 l0_2.length c0_2]] w fun e w' => e = .returned (.bool r) ∧ Below w.heap.size w w' := by
 have hu83 := Try.underlying83
 have hu192 := Try.underlying192
 have HR0_2 := Aside0.mk hr0_2
 have HC0_2 := Aside0.mk hc0_2
 clear hr0_2 hc0_2
 have HB := Aside0.mk (Below.refl w.heap.size w)
 have H : ((spec_l01In.f a0_0 0 200).bind fun t850 => (if t850 = true then ((spec_l01In.f a0_1 (-1) 49).bind fun t851 => (if t851 = true then (spec_SuperOK.j0 k (decide ((l0_2.length : Int) > 4)) a0_0 a0_1 l0_2) else (spec_SuperOK.j0 k true a0_0 a0_1 l0_2))) else (spec_SuperOK.j0 k true a0_0 a0_1 l0_2))) = some r := h
 clear h
 have HC2 := Aside0.mk H
 clear H
 go_enter Try.func112, Try.ntmps112
 go_upto_region 1 with (first | ((with_reducible refine gate_dst (N := 1) rfl ?_); (try (refine gate_guard (by rfl) ?_; dsimp only)); refine box_event ?hg (N := 1) ?hd (cs := #[.int .i64 a0_0, .int .i64 a0_1, .slice A0_2 l0_2.length c0_2]) (t := 83) ?hr ?_; (case hd => rfl); (case hg => rfl); (case hr => first | (go_simp; done) | (go_simp; rfl)); intro gb849 hg w3 hbox hb; have n0_ := Aside0.mk (below_step (by repeat (first | (with_reducible first | exact HB.out | apply below_alloc | apply pw_below_drewN | apply below_drew1) | exact HB.out)) hb); have n1_ := Aside0.mk (hbox); have n2_ := Aside0.mk ((by rw [hg]; exact (below_size (by repeat (first | (with_reducible first | exact HB.out | apply below_alloc | apply pw_below_drewN | apply below_drew1) | exact HB.out))) : w.heap.size ≤ gb849)); have n3_ := Aside0.mk ((by rw [hg]; exact (below_size (by repeat (first | (with_reducible first | exact HB.out | apply below_alloc | apply pw_below_drewN | apply below_drew1) | exact HB.out))) : w.heap.size ≤ gb849)); clear HB; have HB := n0_; have BK849 := n1_; have GW849 := n2_; have GE849 := n3_; clear n0_ n1_ n2_ n3_; clear hb hbox hg))
 (try simp only [Act.put, List.setIfInBounds_toArray, List.set_cons_zero, List.set_cons_succ])
 go_cut [20] (fun v20 wc => ∃ (kq : Nat) (x20_1 : Bool), v20 = .bool x20_1 ∧ Aside0 (spec_SuperOK.j0 kq x20_1 a0_0 a0_1 l0_2 = some r) ∧ Aside0 (kq ≤ k) ∧ Aside0 (wc.heap[gb849]? = some (.cells #[.int .i64 a0_0, .int .i64 a0_1, (.slice A0_2 l0_2.length c0_2)] 83 (0, 0))) ∧ Aside0 (Below w.heap.size w wc))
 case first =>
  have H := HC2.out
  clear HC2
  replace H := Option.bind_eq_some_iff.mp H
  obtain ⟨t850, A40, H⟩ := H
  replace H : (if t850 = true then ((spec_l01In.f a0_1 (-1) 49).bind fun t851 => (if t851 = true then (spec_SuperOK.j0 k (decide ((l0_2.length : Int) > 4)) a0_0 a0_1 l0_2) else (spec_SuperOK.j0 k true a0_0 a0_1 l0_2))) else (spec_SuperOK.j0 k true a0_0 a0_1 l0_2)) = some r := H
  have A4 := Aside0.mk A40
  clear A40
  by_cases c5 : t850 = true
  ·subst c5
   have H1 : ((spec_l01In.f a0_1 (-1) 49).bind fun t851 => (if t851 = true then (spec_SuperOK.j0 k (decide ((l0_2.length : Int) > 4)) a0_0 a0_1 l0_2) else (spec_SuperOK.j0 k true a0_0 a0_1 l0_2))) = some r := by rw [if_pos rfl] at H; exact H
   clear H
   have H := H1
   clear H1
   replace H := Option.bind_eq_some_iff.mp H
   obtain ⟨t851, A60, H⟩ := H
   replace H : (if t851 = true then (spec_SuperOK.j0 k (decide ((l0_2.length : Int) > 4)) a0_0 a0_1 l0_2) else (spec_SuperOK.j0 k true a0_0 a0_1 l0_2)) = some r := H
   have A6 := Aside0.mk A60
   clear A60
   by_cases c7 : t851 = true
   ·subst c7
    have H1 : (spec_SuperOK.j0 k (decide ((l0_2.length : Int) > 4)) a0_0 a0_1 l0_2) = some r := by rw [if_pos rfl] at H; exact H
    clear H
    have H := H1
    clear H1
    have H' := Aside0.mk H
    clear H
    have hcz8_0 : w3.cell? ⟨gb849, 0, none⟩ = some (.int .i64 a0_0) := (blk_cell BK849.out 0).trans rfl
    have hcz8_1 : w3.cell? ⟨gb849, 1, none⟩ = some (.int .i64 a0_1) := (blk_cell BK849.out 1).trans rfl
    have hcz8_2 : w3.cell? ⟨gb849, 2, none⟩ = some (.slice A0_2 l0_2.length c0_2) := (blk_cell BK849.out 2).trans rfl
    have hfz8_0 := blk_frozen BK849.out 0
    have hfz8_1 := blk_frozen BK849.out 1
    have hfz8_2 := blk_frozen BK849.out 2
    go_wp2_with (first | ((with_reducible refine gate_callee (f := 69) rfl ?_); refine goesL_ (some 7) rfl rfl Try.func69 (by kernel_rfl) rfl #[.int .i64 a0_0, .int .i64 0, .int .i64 200] rfl (by (try simp only [List.map_toArray, List.map_cons, List.map_nil]); first | done | rfl | (simp only [List.length_drop, List.length_take]; rfl)) ?_; (with_reducible refine (spec_l01In.calls a0_0 0 200 true _ A4.out).mono ?_); rintro e w' ⟨rfl, ⟨nd, rfl⟩⟩; refine ⟨_, rfl, ?_⟩) | (go_at_call 69; (with_reducible refine (spec_l01In.calls a0_1 (-1) 49 true _ A6.out).mono ?_); rintro e w' ⟨rfl, ⟨nd, rfl⟩⟩))
    go_meet
    case rel => exact ⟨_, (decide ((l0_2.length : Int) > 4)), (by first | rfl | (simp; done) | (simp [*]; done)), H', ⟨by first | omega | exact Nat.le_refl _⟩, ⟨by (with_reducible repeat (first | refine blk_drewN ?_ _ | refine blk_drew ?_ | refine blk_alloc ?_ _)); exact BK849.out⟩, ⟨by repeat (first | (with_reducible first | exact HB.out | apply below_alloc | apply pw_below_drewN | apply below_drew1 | refine below_set ?_ GE849.out) | exact HB.out)⟩⟩
   ·replace c7 := Bool.eq_false_iff.mpr c7
    subst c7
    have H1 : (spec_SuperOK.j0 k true a0_0 a0_1 l0_2) = some r := by rw [if_neg (show ¬ (false = true) by decide)] at H; exact H
    clear H
    have H := H1
    clear H1
    have H' := Aside0.mk H
    clear H
    have hcz9_0 : w3.cell? ⟨gb849, 0, none⟩ = some (.int .i64 a0_0) := (blk_cell BK849.out 0).trans rfl
    have hcz9_1 : w3.cell? ⟨gb849, 1, none⟩ = some (.int .i64 a0_1) := (blk_cell BK849.out 1).trans rfl
    have hcz9_2 : w3.cell? ⟨gb849, 2, none⟩ = some (.slice A0_2 l0_2.length c0_2) := (blk_cell BK849.out 2).trans rfl
    have hfz9_0 := blk_frozen BK849.out 0
    have hfz9_1 := blk_frozen BK849.out 1
    have hfz9_2 := blk_frozen BK849.out 2
    go_wp2_with (first | ((with_reducible refine gate_callee (f := 69) rfl ?_); refine goesL_ (some 7) rfl rfl Try.func69 (by kernel_rfl) rfl #[.int .i64 a0_0, .int .i64 0, .int .i64 200] rfl (by (try simp only [List.map_toArray, List.map_cons, List.map_nil]); first | done | rfl | (simp only [List.length_drop, List.length_take]; rfl)) ?_; (with_reducible refine (spec_l01In.calls a0_0 0 200 true _ A4.out).mono ?_); rintro e w' ⟨rfl, ⟨nd, rfl⟩⟩; refine ⟨_, rfl, ?_⟩) | (go_at_call 69; (with_reducible refine (spec_l01In.calls a0_1 (-1) 49 false _ A6.out).mono ?_); rintro e w' ⟨rfl, ⟨nd, rfl⟩⟩))
    go_meet
    case rel => exact ⟨_, (true), (by first | rfl | (simp; done) | (simp [*]; done)), H', ⟨by first | omega | exact Nat.le_refl _⟩, ⟨by (with_reducible repeat (first | refine blk_drewN ?_ _ | refine blk_drew ?_ | refine blk_alloc ?_ _)); exact BK849.out⟩, ⟨by repeat (first | (with_reducible first | exact HB.out | apply below_alloc | apply pw_below_drewN | apply below_drew1 | refine below_set ?_ GE849.out) | exact HB.out)⟩⟩
  ·replace c5 := Bool.eq_false_iff.mpr c5
   subst c5
   have H1 : (spec_SuperOK.j0 k true a0_0 a0_1 l0_2) = some r := by rw [if_neg (show ¬ (false = true) by decide)] at H; exact H
   clear H
   have H := H1
   clear H1
   have H' := Aside0.mk H
   clear H
   have hcz10_0 : w3.cell? ⟨gb849, 0, none⟩ = some (.int .i64 a0_0) := (blk_cell BK849.out 0).trans rfl
   have hcz10_1 : w3.cell? ⟨gb849, 1, none⟩ = some (.int .i64 a0_1) := (blk_cell BK849.out 1).trans rfl
   have hcz10_2 : w3.cell? ⟨gb849, 2, none⟩ = some (.slice A0_2 l0_2.length c0_2) := (blk_cell BK849.out 2).trans rfl
   have hfz10_0 := blk_frozen BK849.out 0
   have hfz10_1 := blk_frozen BK849.out 1
   have hfz10_2 := blk_frozen BK849.out 2
   go_wp2_with (first | ((with_reducible refine gate_callee (f := 69) rfl ?_); refine goesL_ (some 7) rfl rfl Try.func69 (by kernel_rfl) rfl #[.int .i64 a0_0, .int .i64 0, .int .i64 200] rfl (by (try simp only [List.map_toArray, List.map_cons, List.map_nil]); first | done | rfl | (simp only [List.length_drop, List.length_take]; rfl)) ?_; (with_reducible refine (spec_l01In.calls a0_0 0 200 false _ A4.out).mono ?_); rintro e w' ⟨rfl, ⟨nd, rfl⟩⟩; refine ⟨_, rfl, ?_⟩))
   go_meet
   case rel => exact ⟨_, (true), (by first | rfl | (simp; done) | (simp [*]; done)), H', ⟨by first | omega | exact Nat.le_refl _⟩, ⟨by (with_reducible repeat (first | refine blk_drewN ?_ _ | refine blk_drew ?_ | refine blk_alloc ?_ _)); exact BK849.out⟩, ⟨by repeat (first | (with_reducible first | exact HB.out | apply below_alloc | apply pw_below_drewN | apply below_drew1 | refine below_set ?_ GE849.out) | exact HB.out)⟩⟩
 case rest =>
  clear HC2
  try clear c1
  try clear p2
  try clear c5
  try clear c6
  try clear c7
  try clear hcz10_0
  try clear hcz10_1
  try clear hcz10_2
  try clear hcz8_0
  try clear hcz8_1
  try clear hcz8_2
  try clear hcz9_0
  try clear hcz9_1
  try clear hcz9_2
  try clear hfz10_0
  try clear hfz10_1
  try clear hfz10_2
  try clear hfz8_0
  try clear hfz8_1
  try clear hfz8_2
  try clear hfz9_0
  try clear hfz9_1
  try clear hfz9_2
  obtain ⟨kq, x20_1, rfl, HA, HJ1, BK849, HB⟩ := hcut
  cases kq with
  | zero => exact absurd HA.out (by simp [spec_SuperOK.j0])
  | succ kj1 =>
   have H := HA.out
   clear HA
   simp only [spec_SuperOK.j0] at H
   by_cases c11 : x20_1 = true
   ·subst c11
    have H1 : (some false) = some r := by rw [if_pos rfl] at H; exact H
    clear H
    have H := H1
    clear H1
    obtain rfl := Option.some.inj H
    go_wp2
    go_ret
    exact ⟨by first | rfl | (simp [errW_none, errW_some] <;> rfl) | (simp [*, errW_none, errW_some] <;> rfl), by repeat (first | (with_reducible first | exact HB.out | apply below_alloc | apply pw_below_drewN | apply below_drew1 | refine below_set ?_ GE849.out) | exact HB.out)⟩
   ·replace c11 := Bool.eq_false_iff.mpr c11
    subst c11
    have H1 : (spec_SuperOK.l0 kj1 0 a0_0 a0_1 l0_2) = some r := by rw [if_neg (show ¬ (false = true) by decide)] at H; exact H
    clear H
    have H := H1
    clear H1
    have H' := Aside0.mk H
    clear H
    go_wp2
    go_loopg [3] kj1 (fun kq v3 w' => ∃ (x3_2 : Int), v3 = .int .i64 x3_2 ∧ Aside0 (spec_SuperOK.l0 kq x3_2 a0_0 a0_1 l0_2 = some r) ∧ Aside0 (kq ≤ kj1) ∧ Aside0 (w'.heap[gb849]? = some (.cells #[.int .i64 a0_0, .int .i64 a0_1, (.slice A0_2 l0_2.length c0_2)] 83 (0, 0))) ∧ Aside0 (Below w.heap.size w w'))
    case atStart => exact ⟨(0), (by first | rfl | (simp; done) | (simp [*]; done)), H', ⟨Nat.le_refl _⟩, ⟨by (with_reducible repeat (first | refine blk_drewN ?_ _ | refine blk_drew ?_ | refine blk_alloc ?_ _)); exact BK849.out⟩, ⟨by repeat (first | (with_reducible first | exact HB.out | apply below_alloc | apply pw_below_drewN | apply below_drew1 | refine below_set ?_ GE849.out) | exact HB.out)⟩⟩
    case round =>
     clear H'
     try clear c1
     try clear p2
     try clear c5
     try clear c6
     try clear c7
     try clear c11
     try clear hcz10_0
     try clear hcz10_1
     try clear hcz10_2
     try clear hcz8_0
     try clear hcz8_1
     try clear hcz8_2
     try clear hcz9_0
     try clear hcz9_1
     try clear hcz9_2
     try clear hfz10_0
     try clear hfz10_1
     try clear hfz10_2
     try clear hfz8_0
     try clear hfz8_1
     try clear hfz8_2
     try clear hfz9_0
     try clear hfz9_1
     try clear hfz9_2
     try clear p2
     obtain ⟨x3_2, rfl, HA, HK2, BK849, HB⟩ := hrel
     cases gk with
     | zero => exact absurd HA.out (by simp [spec_SuperOK.l0])
     | succ k2 =>
      have H := HA.out
      clear HA
      simp only [spec_SuperOK.l0] at H
      by_cases c12 : x3_2 < (l0_2.length : Int)
      ·rw [if_pos c12] at H
       have c12b0 : decide (x3_2 < (l0_2.length : Int)) = true := decide_eq_true c12
       clear c12
       by_cases c13 : 0 ≤ x3_2
       ·rw [if_pos c13] at H
        have c13b0 : decide (0 ≤ x3_2) = true := decide_eq_true c13
        clear c13
        replace H := Option.bind_eq_some_iff.mp H
        obtain ⟨t854, A140, H⟩ := H
        replace H : (if t854 = true then ((spec_l01In.f ((rd_T192 l0_2 x3_2).f1) (-1) 49).bind fun t855 => (if t855 = true then ((spec_l01In.f ((rd_T192 l0_2 x3_2).f2) 0 60000).bind fun t856 => (if t856 = true then (if x3_2 > 0 then (if 0 ≤ (wrap64 (x3_2 - 1)) then (if (wrap64 (x3_2 - 1)) < (l0_2.length : Int) then (if ((Op.bytesLess (((rd_T192 l0_2 (wrap64 (x3_2 - 1))).f0).toList) (((rd_T192 l0_2 x3_2).f0).toList)) = true) then (spec_SuperOK.l0 k2 (wrap64 (x3_2 + 1)) a0_0 a0_1 l0_2) else (some false)) else (none)) else (none)) else (spec_SuperOK.l0 k2 (wrap64 (x3_2 + 1)) a0_0 a0_1 l0_2)) else (some false))) else (some false))) else (some false)) = some r := H
        have A14 := Aside0.mk A140
        clear A140
        by_cases c15 : t854 = true
        ·subst c15
         have H1 : ((spec_l01In.f ((rd_T192 l0_2 x3_2).f1) (-1) 49).bind fun t855 => (if t855 = true then ((spec_l01In.f ((rd_T192 l0_2 x3_2).f2) 0 60000).bind fun t856 => (if t856 = true then (if x3_2 > 0 then (if 0 ≤ (wrap64 (x3_2 - 1)) then (if (wrap64 (x3_2 - 1)) < (l0_2.length : Int) then (if ((Op.bytesLess (((rd_T192 l0_2 (wrap64 (x3_2 - 1))).f0).toList) (((rd_T192 l0_2 x3_2).f0).toList)) = true) then (spec_SuperOK.l0 k2 (wrap64 (x3_2 + 1)) a0_0 a0_1 l0_2) else (some false)) else (none)) else (none)) else (spec_SuperOK.l0 k2 (wrap64 (x3_2 + 1)) a0_0 a0_1 l0_2)) else (some false))) else (some false))) = some r := by rw [if_pos rfl] at H; exact H
         clear H
         have H := H1
         clear H1
         replace H := Option.bind_eq_some_iff.mp H
         obtain ⟨t855, A160, H⟩ := H
         replace H : (if t855 = true then ((spec_l01In.f ((rd_T192 l0_2 x3_2).f2) 0 60000).bind fun t856 => (if t856 = true then (if x3_2 > 0 then (if 0 ≤ (wrap64 (x3_2 - 1)) then (if (wrap64 (x3_2 - 1)) < (l0_2.length : Int) then (if ((Op.bytesLess (((rd_T192 l0_2 (wrap64 (x3_2 - 1))).f0).toList) (((rd_T192 l0_2 x3_2).f0).toList)) = true) then (spec_SuperOK.l0 k2 (wrap64 (x3_2 + 1)) a0_0 a0_1 l0_2) else (some false)) else (none)) else (none)) else (spec_SuperOK.l0 k2 (wrap64 (x3_2 + 1)) a0_0 a0_1 l0_2)) else (some false))) else (some false)) = some r := H
         have A16 := Aside0.mk A160
         clear A160
         by_cases c17 : t855 = true
         ·subst c17
          have H1 : ((spec_l01In.f ((rd_T192 l0_2 x3_2).f2) 0 60000).bind fun t856 => (if t856 = true then (if x3_2 > 0 then (if 0 ≤ (wrap64 (x3_2 - 1)) then (if (wrap64 (x3_2 - 1)) < (l0_2.length : Int) then (if ((Op.bytesLess (((rd_T192 l0_2 (wrap64 (x3_2 - 1))).f0).toList) (((rd_T192 l0_2 x3_2).f0).toList)) = true) then (spec_SuperOK.l0 k2 (wrap64 (x3_2 + 1)) a0_0 a0_1 l0_2) else (some false)) else (none)) else (none)) else (spec_SuperOK.l0 k2 (wrap64 (x3_2 + 1)) a0_0 a0_1 l0_2)) else (some false))) = some r := by rw [if_pos rfl] at H; exact H
          clear H
          have H := H1
          clear H1
          replace H := Option.bind_eq_some_iff.mp H
          obtain ⟨t856, A180, H⟩ := H
          replace H : (if t856 = true then (if x3_2 > 0 then (if 0 ≤ (wrap64 (x3_2 - 1)) then (if (wrap64 (x3_2 - 1)) < (l0_2.length : Int) then (if ((Op.bytesLess (((rd_T192 l0_2 (wrap64 (x3_2 - 1))).f0).toList) (((rd_T192 l0_2 x3_2).f0).toList)) = true) then (spec_SuperOK.l0 k2 (wrap64 (x3_2 + 1)) a0_0 a0_1 l0_2) else (some false)) else (none)) else (none)) else (spec_SuperOK.l0 k2 (wrap64 (x3_2 + 1)) a0_0 a0_1 l0_2)) else (some false)) = some r := H
          have A18 := Aside0.mk A180
          clear A180
          by_cases c19 : t856 = true
          ·subst c19
           have H1 : (if x3_2 > 0 then (if 0 ≤ (wrap64 (x3_2 - 1)) then (if (wrap64 (x3_2 - 1)) < (l0_2.length : Int) then (if ((Op.bytesLess (((rd_T192 l0_2 (wrap64 (x3_2 - 1))).f0).toList) (((rd_T192 l0_2 x3_2).f0).toList)) = true) then (spec_SuperOK.l0 k2 (wrap64 (x3_2 + 1)) a0_0 a0_1 l0_2) else (some false)) else (none)) else (none)) else (spec_SuperOK.l0 k2 (wrap64 (x3_2 + 1)) a0_0 a0_1 l0_2)) = some r := by rw [if_pos rfl] at H; exact H
           clear H
           have H := H1
           clear H1
           by_cases c20 : x3_2 > 0
           ·rw [if_pos c20] at H
            have c20b0 : decide (0 < x3_2) = true := decide_eq_true c20
            clear c20
            obtain ⟨ji21, hji21⟩ : ∃ j_ : Int, (wrap64 (x3_2 - 1)) = j_ := ⟨_, rfl⟩
            replace H : (if 0 ≤ (ji21) then (if (ji21) < (l0_2.length : Int) then (if ((Op.bytesLess (((rd_T192 l0_2 (ji21)).f0).toList) (((rd_T192 l0_2 x3_2).f0).toList)) = true) then (spec_SuperOK.l0 k2 (wrap64 (x3_2 + 1)) a0_0 a0_1 l0_2) else (some false)) else (none)) else (none)) = some r := by first | (rw [hji21] at H; exact H) | (simp only [hji21] at H ⊢; exact H)
            (try rw [hji21] at A14)
            (try rw [hji21] at A16)
            (try rw [hji21] at A18)
            have hji21w : (IntKind.i64.wrap (x3_2 - 1)) = ji21 := (i64_w _).trans hji21
            by_cases c22 : 0 ≤ (ji21)
            ·rw [if_pos c22] at H
             have c22b0 : decide (0 ≤ (ji21)) = true := decide_eq_true c22
             clear c22
             by_cases c23 : (ji21) < (l0_2.length : Int)
             ·rw [if_pos c23] at H
              have c23b0 : decide ((ji21) < (l0_2.length : Int)) = true := decide_eq_true c23
              clear c23
              by_cases c24 : ((Op.bytesLess (((rd_T192 l0_2 (ji21)).f0).toList) (((rd_T192 l0_2 x3_2).f0).toList)) = true)
              ·rw [if_pos c24] at H
               have c24b0 : (Op.bytesLess (((rd_T192 l0_2 (ji21)).f0).toList) (((rd_T192 l0_2 x3_2).f0).toList)) = true := c24
               clear c24
               have H' := Aside0.mk H
               clear H
               have hcz25_0 : wr.cell? ⟨gb849, 0, none⟩ = some (.int .i64 a0_0) := (blk_cell BK849.out 0).trans rfl
               have hcz25_1 : wr.cell? ⟨gb849, 1, none⟩ = some (.int .i64 a0_1) := (blk_cell BK849.out 1).trans rfl
               have hcz25_2 : wr.cell? ⟨gb849, 2, none⟩ = some (.slice A0_2 l0_2.length c0_2) := (blk_cell BK849.out 2).trans rfl
               have hfz25_0 := blk_frozen BK849.out 0
               have hfz25_1 := blk_frozen BK849.out 1
               have hfz25_2 := blk_frozen BK849.out 2
               have p852 : 0 ≤ (x3_2 : Int) := of_decide_eq_true (by first | (with_reducible assumption) | assumption)
               have q852 : x3_2 < (l0_2.length : Int) := of_decide_eq_true (by first | (with_reducible assumption) | assumption)
               obtain ⟨ad852, e852, hx852_0, hx852_1, hx852_2⟩ := at_T192 HR0_2.out x3_2 p852 q852
               cases e852
               replace hx852_0 := (HB.out.cell (World.block_lt_of_cell? w _ hx852_0)).trans hx852_0
               replace hx852_1 := (HB.out.cell (World.block_lt_of_cell? w _ hx852_1)).trans hx852_1
               replace hx852_2 := (HB.out.cell (World.block_lt_of_cell? w _ hx852_2)).trans hx852_2
               replace p852 := eq_true p852
               replace q852 := eq_true q852
               try go_wp2_with (first | ((with_reducible refine gate_dst (N := 4) rfl ?_); (try (refine gate_guard (by rfl) ?_; dsimp only)); refine box_event ?hg (N := 4) ?hd (cs := #[.string (⟨#[]⟩ : ByteArray), .int .i64 0, .int .i64 0]) (t := 192) ?hr ?_; (case hd => rfl); (case hg => rfl); (case hr => first | (go_simp; done) | (go_simp; rfl)); intro gb853 hg w26 hbox hb; have n0_ := Aside0.mk (blk_below (g := gb849) (o := .cells #[.int .i64 a0_0, .int .i64 a0_1, .slice (some ad852) l0_2.length c0_2] 83 (0, 0)) (by (with_reducible repeat (first | refine blk_drewN ?_ _ | refine blk_drew ?_ | refine blk_alloc ?_ _)); exact BK849.out) hb); have n1_ := Aside0.mk (below_step (by repeat (first | (with_reducible first | exact HB.out | apply below_alloc | apply pw_below_drewN | apply below_drew1 | refine below_set ?_ GE849.out) | exact HB.out)) hb); have n2_ := Aside0.mk (hbox); have n3_ := Aside0.mk ((by rw [hg]; exact (below_size (by repeat (first | (with_reducible first | exact HB.out | apply below_alloc | apply pw_below_drewN | apply below_drew1 | refine below_set ?_ GE849.out) | exact HB.out))) : w.heap.size ≤ gb853)); have n4_ := Aside0.mk ((by rw [hg]; exact (below_size (by repeat (first | (with_reducible first | exact HB.out | apply below_alloc | apply pw_below_drewN | apply below_drew1 | refine below_set ?_ GE849.out) | exact HB.out))) : w.heap.size ≤ gb853)); have n5_ := Aside0.mk ((by rw [hg]; exact Nat.ne_of_lt (blk_lt (g := gb849) (o := .cells #[.int .i64 a0_0, .int .i64 a0_1, .slice (some ad852) l0_2.length c0_2] 83 (0, 0)) (by (with_reducible repeat (first | refine blk_drewN ?_ _ | refine blk_drew ?_ | refine blk_alloc ?_ _)); exact BK849.out)) : gb849 ≠ gb853)); have n6_ := Aside0.mk ((by rw [hg]; exact Nat.ne_of_gt (blk_lt (g := gb849) (o := .cells #[.int .i64 a0_0, .int .i64 a0_1, .slice (some ad852) l0_2.length c0_2] 83 (0, 0)) (by (with_reducible repeat (first | refine blk_drewN ?_ _ | refine blk_drew ?_ | refine blk_alloc ?_ _)); exact BK849.out)) : gb853 ≠ gb849)); clear BK849; clear HB; have BK849 := n0_; have HB := n1_; have BK853 := n2_; have GW853 := n3_; have GE853 := n4_; have NB849_853 := n5_; have NB853_849 := n6_; clear n0_ n1_ n2_ n3_ n4_ n5_ n6_; clear hb hbox hg; have hnb27 := NB853_849.out; have hnc27 := NB849_853.out; have hcz28_0 : w26.cell? ⟨gb853, 0, none⟩ = some (.string (⟨#[]⟩ : ByteArray)) := (blk_cell BK853.out 0).trans rfl; have hcz28_1 : w26.cell? ⟨gb853, 1, none⟩ = some (.int .i64 0) := (blk_cell BK853.out 1).trans rfl; have hcz28_2 : w26.cell? ⟨gb853, 2, none⟩ = some (.int .i64 0) := (blk_cell BK853.out 2).trans rfl; have hfz28_0 := blk_frozen BK853.out 0; have hfz28_1 := blk_frozen BK853.out 1; have hfz28_2 := blk_frozen BK853.out 2))
               have n0_ : Aside0 ((((w26.setCell ⟨gb853, 0, none⟩ (.string ((rd_T192 l0_2 x3_2).f0))).setCell ⟨gb853, 1, none⟩ (.int .i64 ((rd_T192 l0_2 x3_2).f1))).setCell ⟨gb853, 2, none⟩ (.int .i64 ((rd_T192 l0_2 x3_2).f2))).heap[gb849]? = some (.cells #[.int .i64 a0_0, .int .i64 a0_1, .slice (some ad852) l0_2.length c0_2] 83 (0, 0))) := ⟨by (with_reducible repeat (first | refine blk_drewN ?_ _ | refine blk_drew ?_ | refine blk_alloc ?_ _)); refine blk_far ?_ NB849_853.out _; (with_reducible repeat (first | refine blk_drewN ?_ _ | refine blk_drew ?_ | refine blk_alloc ?_ _)); refine blk_far ?_ NB849_853.out _; (with_reducible repeat (first | refine blk_drewN ?_ _ | refine blk_drew ?_ | refine blk_alloc ?_ _)); refine blk_far ?_ NB849_853.out _; (with_reducible repeat (first | refine blk_drewN ?_ _ | refine blk_drew ?_ | refine blk_alloc ?_ _)); exact BK849.out⟩
               have n1_ : Aside0 ((((w26.setCell ⟨gb853, 0, none⟩ (.string ((rd_T192 l0_2 x3_2).f0))).setCell ⟨gb853, 1, none⟩ (.int .i64 ((rd_T192 l0_2 x3_2).f1))).setCell ⟨gb853, 2, none⟩ (.int .i64 ((rd_T192 l0_2 x3_2).f2))).heap[gb853]? = some (.cells #[.string ((rd_T192 l0_2 x3_2).f0), .int .i64 ((rd_T192 l0_2 x3_2).f1), .int .i64 ((rd_T192 l0_2 x3_2).f2)] 192 (0, 0))) := ⟨by (with_reducible repeat (first | refine blk_drewN ?_ _ | refine blk_drew ?_ | refine blk_alloc ?_ _)); refine blk_put (cs := #[.string ((rd_T192 l0_2 x3_2).f0), .int .i64 ((rd_T192 l0_2 x3_2).f1), .int .i64 0]) ?_ 2 _ rfl; (with_reducible repeat (first | refine blk_drewN ?_ _ | refine blk_drew ?_ | refine blk_alloc ?_ _)); refine blk_put (cs := #[.string ((rd_T192 l0_2 x3_2).f0), .int .i64 0, .int .i64 0]) ?_ 1 _ rfl; (with_reducible repeat (first | refine blk_drewN ?_ _ | refine blk_drew ?_ | refine blk_alloc ?_ _)); refine blk_put (cs := #[.string (⟨#[]⟩ : ByteArray), .int .i64 0, .int .i64 0]) ?_ 0 _ rfl; (with_reducible repeat (first | refine blk_drewN ?_ _ | refine blk_drew ?_ | refine blk_alloc ?_ _)); exact BK853.out⟩
               have n2_ : Aside0 (Below w.heap.size w (((w26.setCell ⟨gb853, 0, none⟩ (.string ((rd_T192 l0_2 x3_2).f0))).setCell ⟨gb853, 1, none⟩ (.int .i64 ((rd_T192 l0_2 x3_2).f1))).setCell ⟨gb853, 2, none⟩ (.int .i64 ((rd_T192 l0_2 x3_2).f2)))) := ⟨by repeat (first | (with_reducible first | exact HB.out | apply below_alloc | apply pw_below_drewN | apply below_drew1 | refine below_set ?_ GE849.out | refine below_set ?_ GE853.out) | exact HB.out)⟩
               (try clear BK849)
               (try clear BK853)
               (try clear HB)
               generalize (((w26.setCell ⟨gb853, 0, none⟩ (.string ((rd_T192 l0_2 x3_2).f0))).setCell ⟨gb853, 1, none⟩ (.int .i64 ((rd_T192 l0_2 x3_2).f1))).setCell ⟨gb853, 2, none⟩ (.int .i64 ((rd_T192 l0_2 x3_2).f2))) = w29 at n0_ n1_ n2_ ⊢
               have BK849 := n0_
               have BK853 := n1_
               have HB := n2_
               clear n0_ n1_ n2_
               have n0_ := Aside0.mk (blk_drew BK849.out)
               have n1_ := Aside0.mk (blk_drew BK853.out)
               have n2_ := Aside0.mk (below_drew1 HB.out)
               clear BK849
               clear BK853
               clear HB
               have BK849 := n0_
               have BK853 := n1_
               have HB := n2_
               clear n0_ n1_ n2_
               have p857 : 0 ≤ ((ji21) : Int) := of_decide_eq_true (by first | (with_reducible assumption) | assumption)
               have q857 : (ji21) < (l0_2.length : Int) := of_decide_eq_true (by first | (with_reducible assumption) | assumption)
               obtain ⟨ad857, e857, hx857_0, hx857_1, hx857_2⟩ := at_T192 HR0_2.out (ji21) p857 q857
               have hw857_2 := hx857_2
               have hw857_1 := hx857_1
               have hw857_0 := hx857_0
               obtain rfl : ad852 = ad857 := (by injection e857)
               replace hx857_0 := (HB.out.cell (World.block_lt_of_cell? w _ hx857_0)).trans hx857_0
               replace hx857_1 := (HB.out.cell (World.block_lt_of_cell? w _ hx857_1)).trans hx857_1
               replace hx857_2 := (HB.out.cell (World.block_lt_of_cell? w _ hx857_2)).trans hx857_2
               replace p857 := eq_true p857
               replace q857 := eq_true q857
               refine wp_region_later (by kernel_rfl) (by kernel_rfl) ?_
               have hL0_ := Aside0.mk (show w29.drew.cell? ⟨gb853, 0, none⟩ = some (.string ((rd_T192 l0_2 x3_2).f0)) from (blk_cell BK853.out 0).trans rfl)
               have hL1_ := Aside0.mk (show w29.drew.cell? ⟨gb853, 1, none⟩ = some (.int .i64 ((rd_T192 l0_2 x3_2).f1)) from (blk_cell BK853.out 1).trans rfl)
               have hL2_ := Aside0.mk (show w29.drew.cell? ⟨gb853, 2, none⟩ = some (.int .i64 ((rd_T192 l0_2 x3_2).f2)) from (blk_cell BK853.out 2).trans rfl)
               have hL3_ := Aside0.mk (show w29.drew.cell? ⟨gb849, 0, none⟩ = some (.int .i64 a0_0) from (blk_cell BK849.out 0).trans rfl)
               have hL4_ := Aside0.mk (show w29.drew.cell? ⟨gb849, 1, none⟩ = some (.int .i64 a0_1) from (blk_cell BK849.out 1).trans rfl)
               have hL5_ := Aside0.mk (show w29.drew.cell? ⟨gb849, 2, none⟩ = some (.slice (some ad852) l0_2.length c0_2) from (blk_cell BK849.out 2).trans rfl)
               have hL6_ := Aside0.mk (show w29.drew.cell? (ad852.add (((ji21)).toNat * 3)) = some (.string ((rd_T192 l0_2 (ji21)).f0)) from ((HB.out.cell (World.block_lt_of_cell? w _ hw857_0)).trans hw857_0))
               have hL7_ := Aside0.mk (show w29.drew.cell? ⟨(ad852.add (((ji21)).toNat * 3)).block, (ad852.add (((ji21)).toNat * 3)).off + 1, none⟩ = some (.int .i64 ((rd_T192 l0_2 (ji21)).f1)) from ((HB.out.cell (World.block_lt_of_cell? w _ hw857_1)).trans hw857_1))
               have hL8_ := Aside0.mk (show w29.drew.cell? ⟨(ad852.add (((ji21)).toNat * 3)).block, (ad852.add (((ji21)).toNat * 3)).off + 2, none⟩ = some (.int .i64 ((rd_T192 l0_2 (ji21)).f2)) from ((HB.out.cell (World.block_lt_of_cell? w _ hw857_2)).trans hw857_2))
               generalize w29.drew = w30b at BK849 BK853 HB hx857_0 hx857_1 hx857_2 hL0_ hL1_ hL2_ hL3_ hL4_ hL5_ hL6_ hL7_ hL8_ ⊢
               clear hx857_0 hx857_1 hx857_2
               have hL0 := fun (p_ : Later w30b) => Later.cell p_ hL0_.out
               have hL1 := fun (p_ : Later w30b) => Later.cell p_ hL1_.out
               have hL2 := fun (p_ : Later w30b) => Later.cell p_ hL2_.out
               have hL3 := fun (p_ : Later w30b) => Later.cell p_ hL3_.out
               have hL4 := fun (p_ : Later w30b) => Later.cell p_ hL4_.out
               have hL5 := fun (p_ : Later w30b) => Later.cell p_ hL5_.out
               have hL6 := fun (p_ : Later w30b) => Later.cell p_ hL6_.out
               have hL7 := fun (p_ : Later w30b) => Later.cell p_ hL7_.out
               have hL8 := fun (p_ : Later w30b) => Later.cell p_ hL8_.out
               clear hL0_ hL1_ hL2_ hL3_ hL4_ hL5_ hL6_ hL7_ hL8_
               repeat (first | go_big_quiet_step ((first | (go_at_call 155; with_reducible exact Calls.later_drawn (spec_l04Name.calls k2 ((rd_T192 l0_2 x3_2).f0) true _ A14.out)) | (go_at_call 69; with_reducible exact Calls.later_drawn (spec_l01In.calls ((rd_T192 l0_2 x3_2).f1) (-1) 49 true _ A16.out)) | (go_at_call 69; with_reducible exact Calls.later_drawn (spec_l01In.calls ((rd_T192 l0_2 x3_2).f2) 0 60000 true _ A18.out)) | (go_at_call 155; exact Calls.later_drawn (spec_l04Name.calls k2 ((rd_T192 l0_2 x3_2).f0) true _ A14.out)) | (go_at_call 69; exact Calls.later_drawn (spec_l01In.calls ((rd_T192 l0_2 x3_2).f1) (-1) 49 true _ A16.out)) | (go_at_call 69; exact Calls.later_drawn (spec_l01In.calls ((rd_T192 l0_2 x3_2).f2) 0 60000 true _ A18.out)))) | quiet_step ((first | (go_at_call 155; with_reducible exact Calls.later_drawn (spec_l04Name.calls k2 ((rd_T192 l0_2 x3_2).f0) true _ A14.out)) | (go_at_call 69; with_reducible exact Calls.later_drawn (spec_l01In.calls ((rd_T192 l0_2 x3_2).f1) (-1) 49 true _ A16.out)) | (go_at_call 69; with_reducible exact Calls.later_drawn (spec_l01In.calls ((rd_T192 l0_2 x3_2).f2) 0 60000 true _ A18.out)) | (go_at_call 155; exact Calls.later_drawn (spec_l04Name.calls k2 ((rd_T192 l0_2 x3_2).f0) true _ A14.out)) | (go_at_call 69; exact Calls.later_drawn (spec_l01In.calls ((rd_T192 l0_2 x3_2).f1) (-1) 49 true _ A16.out)) | (go_at_call 69; exact Calls.later_drawn (spec_l01In.calls ((rd_T192 l0_2 x3_2).f2) 0 60000 true _ A18.out)))))
               refine wpQuiet_nil ?_
               rintro w30 ⟨⟨wq_, hbL⟩, hq_⟩
               have hq2_ : w30 = wq_ := hq_
               clear hq_
               subst hq2_
               clear hL0 hL1 hL2 hL3 hL4 hL5 hL6 hL7 hL8
               have nBK849_ := Aside0.mk ((hbL.block _ (blk_lt BK849.out)).trans BK849.out)
               have nBK853_ := Aside0.mk ((hbL.block _ (blk_lt BK853.out)).trans BK853.out)
               have nHB_ := Aside0.mk (below_step HB.out hbL)
               clear BK849
               clear BK853
               clear HB
               have BK849 := nBK849_
               have BK853 := nBK853_
               have HB := nHB_
               clear nBK849_
               clear nBK853_
               clear nHB_
               clear hbL
               try go_wp2
               go_roundg k2
               case measure => have := HJ1.out; have := HK2.out; omega
               case rel => exact ⟨(wrap64 (x3_2 + 1)), (by first | rfl | (simp; done) | (simp [*]; done)), H', ⟨by have := HJ1.out; have := HK2.out; omega⟩, ⟨by (with_reducible repeat (first | refine blk_drewN ?_ _ | refine blk_drew ?_ | refine blk_alloc ?_ _)); exact BK849.out⟩, ⟨by repeat (first | (with_reducible first | exact HB.out | apply below_alloc | apply pw_below_drewN | apply below_drew1 | refine below_set ?_ GE849.out | refine below_set ?_ GE853.out) | exact HB.out)⟩⟩
              ·rw [if_neg c24] at H
               have c24b0 : (Op.bytesLess (((rd_T192 l0_2 (ji21)).f0).toList) (((rd_T192 l0_2 x3_2).f0).toList)) = false := by simpa using c24
               clear c24
               obtain rfl := Option.some.inj H
               have hcz31_0 : wr.cell? ⟨gb849, 0, none⟩ = some (.int .i64 a0_0) := (blk_cell BK849.out 0).trans rfl
               have hcz31_1 : wr.cell? ⟨gb849, 1, none⟩ = some (.int .i64 a0_1) := (blk_cell BK849.out 1).trans rfl
               have hcz31_2 : wr.cell? ⟨gb849, 2, none⟩ = some (.slice A0_2 l0_2.length c0_2) := (blk_cell BK849.out 2).trans rfl
               have hfz31_0 := blk_frozen BK849.out 0
               have hfz31_1 := blk_frozen BK849.out 1
               have hfz31_2 := blk_frozen BK849.out 2
               have p852 : 0 ≤ (x3_2 : Int) := of_decide_eq_true (by first | (with_reducible assumption) | assumption)
               have q852 : x3_2 < (l0_2.length : Int) := of_decide_eq_true (by first | (with_reducible assumption) | assumption)
               obtain ⟨ad852, e852, hx852_0, hx852_1, hx852_2⟩ := at_T192 HR0_2.out x3_2 p852 q852
               cases e852
               replace hx852_0 := (HB.out.cell (World.block_lt_of_cell? w _ hx852_0)).trans hx852_0
               replace hx852_1 := (HB.out.cell (World.block_lt_of_cell? w _ hx852_1)).trans hx852_1
               replace hx852_2 := (HB.out.cell (World.block_lt_of_cell? w _ hx852_2)).trans hx852_2
               replace p852 := eq_true p852
               replace q852 := eq_true q852
               try go_wp2_with (first | ((with_reducible refine gate_dst (N := 4) rfl ?_); (try (refine gate_guard (by rfl) ?_; dsimp only)); refine box_event ?hg (N := 4) ?hd (cs := #[.string (⟨#[]⟩ : ByteArray), .int .i64 0, .int .i64 0]) (t := 192) ?hr ?_; (case hd => rfl); (case hg => rfl); (case hr => first | (go_simp; done) | (go_simp; rfl)); intro gb853 hg w32 hbox hb; have n0_ := Aside0.mk (blk_below (g := gb849) (o := .cells #[.int .i64 a0_0, .int .i64 a0_1, .slice (some ad852) l0_2.length c0_2] 83 (0, 0)) (by (with_reducible repeat (first | refine blk_drewN ?_ _ | refine blk_drew ?_ | refine blk_alloc ?_ _)); exact BK849.out) hb); have n1_ := Aside0.mk (below_step (by repeat (first | (with_reducible first | exact HB.out | apply below_alloc | apply pw_below_drewN | apply below_drew1 | refine below_set ?_ GE849.out) | exact HB.out)) hb); have n2_ := Aside0.mk (hbox); have n3_ := Aside0.mk ((by rw [hg]; exact (below_size (by repeat (first | (with_reducible first | exact HB.out | apply below_alloc | apply pw_below_drewN | apply below_drew1 | refine below_set ?_ GE849.out) | exact HB.out))) : w.heap.size ≤ gb853)); have n4_ := Aside0.mk ((by rw [hg]; exact (below_size (by repeat (first | (with_reducible first | exact HB.out | apply below_alloc | apply pw_below_drewN | apply below_drew1 | refine below_set ?_ GE849.out) | exact HB.out))) : w.heap.size ≤ gb853)); have n5_ := Aside0.mk ((by rw [hg]; exact Nat.ne_of_lt (blk_lt (g := gb849) (o := .cells #[.int .i64 a0_0, .int .i64 a0_1, .slice (some ad852) l0_2.length c0_2] 83 (0, 0)) (by (with_reducible repeat (first | refine blk_drewN ?_ _ | refine blk_drew ?_ | refine blk_alloc ?_ _)); exact BK849.out)) : gb849 ≠ gb853)); have n6_ := Aside0.mk ((by rw [hg]; exact Nat.ne_of_gt (blk_lt (g := gb849) (o := .cells #[.int .i64 a0_0, .int .i64 a0_1, .slice (some ad852) l0_2.length c0_2] 83 (0, 0)) (by (with_reducible repeat (first | refine blk_drewN ?_ _ | refine blk_drew ?_ | refine blk_alloc ?_ _)); exact BK849.out)) : gb853 ≠ gb849)); clear BK849; clear HB; have BK849 := n0_; have HB := n1_; have BK853 := n2_; have GW853 := n3_; have GE853 := n4_; have NB849_853 := n5_; have NB853_849 := n6_; clear n0_ n1_ n2_ n3_ n4_ n5_ n6_; clear hb hbox hg; have hnb33 := NB853_849.out; have hnc33 := NB849_853.out; have hcz34_0 : w32.cell? ⟨gb853, 0, none⟩ = some (.string (⟨#[]⟩ : ByteArray)) := (blk_cell BK853.out 0).trans rfl; have hcz34_1 : w32.cell? ⟨gb853, 1, none⟩ = some (.int .i64 0) := (blk_cell BK853.out 1).trans rfl; have hcz34_2 : w32.cell? ⟨gb853, 2, none⟩ = some (.int .i64 0) := (blk_cell BK853.out 2).trans rfl; have hfz34_0 := blk_frozen BK853.out 0; have hfz34_1 := blk_frozen BK853.out 1; have hfz34_2 := blk_frozen BK853.out 2))
               have n0_ : Aside0 ((((w32.setCell ⟨gb853, 0, none⟩ (.string ((rd_T192 l0_2 x3_2).f0))).setCell ⟨gb853, 1, none⟩ (.int .i64 ((rd_T192 l0_2 x3_2).f1))).setCell ⟨gb853, 2, none⟩ (.int .i64 ((rd_T192 l0_2 x3_2).f2))).heap[gb849]? = some (.cells #[.int .i64 a0_0, .int .i64 a0_1, .slice (some ad852) l0_2.length c0_2] 83 (0, 0))) := ⟨by (with_reducible repeat (first | refine blk_drewN ?_ _ | refine blk_drew ?_ | refine blk_alloc ?_ _)); refine blk_far ?_ NB849_853.out _; (with_reducible repeat (first | refine blk_drewN ?_ _ | refine blk_drew ?_ | refine blk_alloc ?_ _)); refine blk_far ?_ NB849_853.out _; (with_reducible repeat (first | refine blk_drewN ?_ _ | refine blk_drew ?_ | refine blk_alloc ?_ _)); refine blk_far ?_ NB849_853.out _; (with_reducible repeat (first | refine blk_drewN ?_ _ | refine blk_drew ?_ | refine blk_alloc ?_ _)); exact BK849.out⟩
               have n1_ : Aside0 ((((w32.setCell ⟨gb853, 0, none⟩ (.string ((rd_T192 l0_2 x3_2).f0))).setCell ⟨gb853, 1, none⟩ (.int .i64 ((rd_T192 l0_2 x3_2).f1))).setCell ⟨gb853, 2, none⟩ (.int .i64 ((rd_T192 l0_2 x3_2).f2))).heap[gb853]? = some (.cells #[.string ((rd_T192 l0_2 x3_2).f0), .int .i64 ((rd_T192 l0_2 x3_2).f1), .int .i64 ((rd_T192 l0_2 x3_2).f2)] 192 (0, 0))) := ⟨by (with_reducible repeat (first | refine blk_drewN ?_ _ | refine blk_drew ?_ | refine blk_alloc ?_ _)); refine blk_put (cs := #[.string ((rd_T192 l0_2 x3_2).f0), .int .i64 ((rd_T192 l0_2 x3_2).f1), .int .i64 0]) ?_ 2 _ rfl; (with_reducible repeat (first | refine blk_drewN ?_ _ | refine blk_drew ?_ | refine blk_alloc ?_ _)); refine blk_put (cs := #[.string ((rd_T192 l0_2 x3_2).f0), .int .i64 0, .int .i64 0]) ?_ 1 _ rfl; (with_reducible repeat (first | refine blk_drewN ?_ _ | refine blk_drew ?_ | refine blk_alloc ?_ _)); refine blk_put (cs := #[.string (⟨#[]⟩ : ByteArray), .int .i64 0, .int .i64 0]) ?_ 0 _ rfl; (with_reducible repeat (first | refine blk_drewN ?_ _ | refine blk_drew ?_ | refine blk_alloc ?_ _)); exact BK853.out⟩
               have n2_ : Aside0 (Below w.heap.size w (((w32.setCell ⟨gb853, 0, none⟩ (.string ((rd_T192 l0_2 x3_2).f0))).setCell ⟨gb853, 1, none⟩ (.int .i64 ((rd_T192 l0_2 x3_2).f1))).setCell ⟨gb853, 2, none⟩ (.int .i64 ((rd_T192 l0_2 x3_2).f2)))) := ⟨by repeat (first | (with_reducible first | exact HB.out | apply below_alloc | apply pw_below_drewN | apply below_drew1 | refine below_set ?_ GE849.out | refine below_set ?_ GE853.out) | exact HB.out)⟩
               (try clear BK849)
               (try clear BK853)
               (try clear HB)
               generalize (((w32.setCell ⟨gb853, 0, none⟩ (.string ((rd_T192 l0_2 x3_2).f0))).setCell ⟨gb853, 1, none⟩ (.int .i64 ((rd_T192 l0_2 x3_2).f1))).setCell ⟨gb853, 2, none⟩ (.int .i64 ((rd_T192 l0_2 x3_2).f2))) = w35 at n0_ n1_ n2_ ⊢
               have BK849 := n0_
               have BK853 := n1_
               have HB := n2_
               clear n0_ n1_ n2_
               have n0_ := Aside0.mk (blk_drew BK849.out)
               have n1_ := Aside0.mk (blk_drew BK853.out)
               have n2_ := Aside0.mk (below_drew1 HB.out)
               clear BK849
               clear BK853
               clear HB
               have BK849 := n0_
               have BK853 := n1_
               have HB := n2_
               clear n0_ n1_ n2_
               have p857 : 0 ≤ ((ji21) : Int) := of_decide_eq_true (by first | (with_reducible assumption) | assumption)
               have q857 : (ji21) < (l0_2.length : Int) := of_decide_eq_true (by first | (with_reducible assumption) | assumption)
               obtain ⟨ad857, e857, hx857_0, hx857_1, hx857_2⟩ := at_T192 HR0_2.out (ji21) p857 q857
               have hw857_2 := hx857_2
               have hw857_1 := hx857_1
               have hw857_0 := hx857_0
               obtain rfl : ad852 = ad857 := (by injection e857)
               replace hx857_0 := (HB.out.cell (World.block_lt_of_cell? w _ hx857_0)).trans hx857_0
               replace hx857_1 := (HB.out.cell (World.block_lt_of_cell? w _ hx857_1)).trans hx857_1
               replace hx857_2 := (HB.out.cell (World.block_lt_of_cell? w _ hx857_2)).trans hx857_2
               replace p857 := eq_true p857
               replace q857 := eq_true q857
               refine wp_region_later (by kernel_rfl) (by kernel_rfl) ?_
               have hL0_ := Aside0.mk (show w35.drew.cell? ⟨gb853, 0, none⟩ = some (.string ((rd_T192 l0_2 x3_2).f0)) from (blk_cell BK853.out 0).trans rfl)
               have hL1_ := Aside0.mk (show w35.drew.cell? ⟨gb853, 1, none⟩ = some (.int .i64 ((rd_T192 l0_2 x3_2).f1)) from (blk_cell BK853.out 1).trans rfl)
               have hL2_ := Aside0.mk (show w35.drew.cell? ⟨gb853, 2, none⟩ = some (.int .i64 ((rd_T192 l0_2 x3_2).f2)) from (blk_cell BK853.out 2).trans rfl)
               have hL3_ := Aside0.mk (show w35.drew.cell? ⟨gb849, 0, none⟩ = some (.int .i64 a0_0) from (blk_cell BK849.out 0).trans rfl)
               have hL4_ := Aside0.mk (show w35.drew.cell? ⟨gb849, 1, none⟩ = some (.int .i64 a0_1) from (blk_cell BK849.out 1).trans rfl)
               have hL5_ := Aside0.mk (show w35.drew.cell? ⟨gb849, 2, none⟩ = some (.slice (some ad852) l0_2.length c0_2) from (blk_cell BK849.out 2).trans rfl)
               have hL6_ := Aside0.mk (show w35.drew.cell? (ad852.add (((ji21)).toNat * 3)) = some (.string ((rd_T192 l0_2 (ji21)).f0)) from ((HB.out.cell (World.block_lt_of_cell? w _ hw857_0)).trans hw857_0))
               have hL7_ := Aside0.mk (show w35.drew.cell? ⟨(ad852.add (((ji21)).toNat * 3)).block, (ad852.add (((ji21)).toNat * 3)).off + 1, none⟩ = some (.int .i64 ((rd_T192 l0_2 (ji21)).f1)) from ((HB.out.cell (World.block_lt_of_cell? w _ hw857_1)).trans hw857_1))
               have hL8_ := Aside0.mk (show w35.drew.cell? ⟨(ad852.add (((ji21)).toNat * 3)).block, (ad852.add (((ji21)).toNat * 3)).off + 2, none⟩ = some (.int .i64 ((rd_T192 l0_2 (ji21)).f2)) from ((HB.out.cell (World.block_lt_of_cell? w _ hw857_2)).trans hw857_2))
               generalize w35.drew = w36b at BK849 BK853 HB hx857_0 hx857_1 hx857_2 hL0_ hL1_ hL2_ hL3_ hL4_ hL5_ hL6_ hL7_ hL8_ ⊢
               clear hx857_0 hx857_1 hx857_2
               have hL0 := fun (p_ : Later w36b) => Later.cell p_ hL0_.out
               have hL1 := fun (p_ : Later w36b) => Later.cell p_ hL1_.out
               have hL2 := fun (p_ : Later w36b) => Later.cell p_ hL2_.out
               have hL3 := fun (p_ : Later w36b) => Later.cell p_ hL3_.out
               have hL4 := fun (p_ : Later w36b) => Later.cell p_ hL4_.out
               have hL5 := fun (p_ : Later w36b) => Later.cell p_ hL5_.out
               have hL6 := fun (p_ : Later w36b) => Later.cell p_ hL6_.out
               have hL7 := fun (p_ : Later w36b) => Later.cell p_ hL7_.out
               have hL8 := fun (p_ : Later w36b) => Later.cell p_ hL8_.out
               clear hL0_ hL1_ hL2_ hL3_ hL4_ hL5_ hL6_ hL7_ hL8_
               repeat (first | go_big_quiet_step ((first | (go_at_call 155; with_reducible exact Calls.later_drawn (spec_l04Name.calls k2 ((rd_T192 l0_2 x3_2).f0) true _ A14.out)) | (go_at_call 69; with_reducible exact Calls.later_drawn (spec_l01In.calls ((rd_T192 l0_2 x3_2).f1) (-1) 49 true _ A16.out)) | (go_at_call 69; with_reducible exact Calls.later_drawn (spec_l01In.calls ((rd_T192 l0_2 x3_2).f2) 0 60000 true _ A18.out)) | (go_at_call 155; exact Calls.later_drawn (spec_l04Name.calls k2 ((rd_T192 l0_2 x3_2).f0) true _ A14.out)) | (go_at_call 69; exact Calls.later_drawn (spec_l01In.calls ((rd_T192 l0_2 x3_2).f1) (-1) 49 true _ A16.out)) | (go_at_call 69; exact Calls.later_drawn (spec_l01In.calls ((rd_T192 l0_2 x3_2).f2) 0 60000 true _ A18.out)))) | quiet_step ((first | (go_at_call 155; with_reducible exact Calls.later_drawn (spec_l04Name.calls k2 ((rd_T192 l0_2 x3_2).f0) true _ A14.out)) | (go_at_call 69; with_reducible exact Calls.later_drawn (spec_l01In.calls ((rd_T192 l0_2 x3_2).f1) (-1) 49 true _ A16.out)) | (go_at_call 69; with_reducible exact Calls.later_drawn (spec_l01In.calls ((rd_T192 l0_2 x3_2).f2) 0 60000 true _ A18.out)) | (go_at_call 155; exact Calls.later_drawn (spec_l04Name.calls k2 ((rd_T192 l0_2 x3_2).f0) true _ A14.out)) | (go_at_call 69; exact Calls.later_drawn (spec_l01In.calls ((rd_T192 l0_2 x3_2).f1) (-1) 49 true _ A16.out)) | (go_at_call 69; exact Calls.later_drawn (spec_l01In.calls ((rd_T192 l0_2 x3_2).f2) 0 60000 true _ A18.out)))))
               refine wpQuiet_nil ?_
               rintro w36 ⟨⟨wq_, hbL⟩, hq_⟩
               have hq2_ : w36 = wq_ := hq_
               clear hq_
               subst hq2_
               clear hL0 hL1 hL2 hL3 hL4 hL5 hL6 hL7 hL8
               have nBK849_ := Aside0.mk ((hbL.block _ (blk_lt BK849.out)).trans BK849.out)
               have nBK853_ := Aside0.mk ((hbL.block _ (blk_lt BK853.out)).trans BK853.out)
               have nHB_ := Aside0.mk (below_step HB.out hbL)
               clear BK849
               clear BK853
               clear HB
               have BK849 := nBK849_
               have BK853 := nBK853_
               have HB := nHB_
               clear nBK849_
               clear nBK853_
               clear nHB_
               clear hbL
               try go_wp2
               go_ret
               exact ⟨by first | rfl | (simp [errW_none, errW_some] <;> rfl) | (simp only [← hji21]; first | rfl | (simp [errW_none, errW_some] <;> rfl)) | (simp [*, errW_none, errW_some] <;> rfl), by repeat (first | (with_reducible first | exact HB.out | apply below_alloc | apply pw_below_drewN | apply below_drew1 | refine below_set ?_ GE849.out | refine below_set ?_ GE853.out) | exact HB.out)⟩
             ·rw [if_neg c23] at H
              exact absurd H (by simp)
            ·rw [if_neg c22] at H
             exact absurd H (by simp)
           ·rw [if_neg c20] at H
            have c20b0 : decide (0 < x3_2) = false := decide_eq_false c20
            clear c20
            have H' := Aside0.mk H
            clear H
            have hcz37_0 : wr.cell? ⟨gb849, 0, none⟩ = some (.int .i64 a0_0) := (blk_cell BK849.out 0).trans rfl
            have hcz37_1 : wr.cell? ⟨gb849, 1, none⟩ = some (.int .i64 a0_1) := (blk_cell BK849.out 1).trans rfl
            have hcz37_2 : wr.cell? ⟨gb849, 2, none⟩ = some (.slice A0_2 l0_2.length c0_2) := (blk_cell BK849.out 2).trans rfl
            have hfz37_0 := blk_frozen BK849.out 0
            have hfz37_1 := blk_frozen BK849.out 1
            have hfz37_2 := blk_frozen BK849.out 2
            have p852 : 0 ≤ (x3_2 : Int) := of_decide_eq_true (by first | (with_reducible assumption) | assumption)
            have q852 : x3_2 < (l0_2.length : Int) := of_decide_eq_true (by first | (with_reducible assumption) | assumption)
            obtain ⟨ad852, e852, hx852_0, hx852_1, hx852_2⟩ := at_T192 HR0_2.out x3_2 p852 q852
            cases e852
            replace hx852_0 := (HB.out.cell (World.block_lt_of_cell? w _ hx852_0)).trans hx852_0
            replace hx852_1 := (HB.out.cell (World.block_lt_of_cell? w _ hx852_1)).trans hx852_1
            replace hx852_2 := (HB.out.cell (World.block_lt_of_cell? w _ hx852_2)).trans hx852_2
            replace p852 := eq_true p852
            replace q852 := eq_true q852
            try go_wp2_with (first | ((with_reducible refine gate_dst (N := 4) rfl ?_); (try (refine gate_guard (by rfl) ?_; dsimp only)); refine box_event ?hg (N := 4) ?hd (cs := #[.string (⟨#[]⟩ : ByteArray), .int .i64 0, .int .i64 0]) (t := 192) ?hr ?_; (case hd => rfl); (case hg => rfl); (case hr => first | (go_simp; done) | (go_simp; rfl)); intro gb853 hg w38 hbox hb; have n0_ := Aside0.mk (blk_below (g := gb849) (o := .cells #[.int .i64 a0_0, .int .i64 a0_1, .slice (some ad852) l0_2.length c0_2] 83 (0, 0)) (by (with_reducible repeat (first | refine blk_drewN ?_ _ | refine blk_drew ?_ | refine blk_alloc ?_ _)); exact BK849.out) hb); have n1_ := Aside0.mk (below_step (by repeat (first | (with_reducible first | exact HB.out | apply below_alloc | apply pw_below_drewN | apply below_drew1 | refine below_set ?_ GE849.out) | exact HB.out)) hb); have n2_ := Aside0.mk (hbox); have n3_ := Aside0.mk ((by rw [hg]; exact (below_size (by repeat (first | (with_reducible first | exact HB.out | apply below_alloc | apply pw_below_drewN | apply below_drew1 | refine below_set ?_ GE849.out) | exact HB.out))) : w.heap.size ≤ gb853)); have n4_ := Aside0.mk ((by rw [hg]; exact (below_size (by repeat (first | (with_reducible first | exact HB.out | apply below_alloc | apply pw_below_drewN | apply below_drew1 | refine below_set ?_ GE849.out) | exact HB.out))) : w.heap.size ≤ gb853)); have n5_ := Aside0.mk ((by rw [hg]; exact Nat.ne_of_lt (blk_lt (g := gb849) (o := .cells #[.int .i64 a0_0, .int .i64 a0_1, .slice (some ad852) l0_2.length c0_2] 83 (0, 0)) (by (with_reducible repeat (first | refine blk_drewN ?_ _ | refine blk_drew ?_ | refine blk_alloc ?_ _)); exact BK849.out)) : gb849 ≠ gb853)); have n6_ := Aside0.mk ((by rw [hg]; exact Nat.ne_of_gt (blk_lt (g := gb849) (o := .cells #[.int .i64 a0_0, .int .i64 a0_1, .slice (some ad852) l0_2.length c0_2] 83 (0, 0)) (by (with_reducible repeat (first | refine blk_drewN ?_ _ | refine blk_drew ?_ | refine blk_alloc ?_ _)); exact BK849.out)) : gb853 ≠ gb849)); clear BK849; clear HB; have BK849 := n0_; have HB := n1_; have BK853 := n2_; have GW853 := n3_; have GE853 := n4_; have NB849_853 := n5_; have NB853_849 := n6_; clear n0_ n1_ n2_ n3_ n4_ n5_ n6_; clear hb hbox hg; have hnb39 := NB853_849.out; have hnc39 := NB849_853.out; have hcz40_0 : w38.cell? ⟨gb853, 0, none⟩ = some (.string (⟨#[]⟩ : ByteArray)) := (blk_cell BK853.out 0).trans rfl; have hcz40_1 : w38.cell? ⟨gb853, 1, none⟩ = some (.int .i64 0) := (blk_cell BK853.out 1).trans rfl; have hcz40_2 : w38.cell? ⟨gb853, 2, none⟩ = some (.int .i64 0) := (blk_cell BK853.out 2).trans rfl; have hfz40_0 := blk_frozen BK853.out 0; have hfz40_1 := blk_frozen BK853.out 1; have hfz40_2 := blk_frozen BK853.out 2))
            have n0_ : Aside0 ((((w38.setCell ⟨gb853, 0, none⟩ (.string ((rd_T192 l0_2 x3_2).f0))).setCell ⟨gb853, 1, none⟩ (.int .i64 ((rd_T192 l0_2 x3_2).f1))).setCell ⟨gb853, 2, none⟩ (.int .i64 ((rd_T192 l0_2 x3_2).f2))).heap[gb849]? = some (.cells #[.int .i64 a0_0, .int .i64 a0_1, .slice (some ad852) l0_2.length c0_2] 83 (0, 0))) := ⟨by (with_reducible repeat (first | refine blk_drewN ?_ _ | refine blk_drew ?_ | refine blk_alloc ?_ _)); refine blk_far ?_ NB849_853.out _; (with_reducible repeat (first | refine blk_drewN ?_ _ | refine blk_drew ?_ | refine blk_alloc ?_ _)); refine blk_far ?_ NB849_853.out _; (with_reducible repeat (first | refine blk_drewN ?_ _ | refine blk_drew ?_ | refine blk_alloc ?_ _)); refine blk_far ?_ NB849_853.out _; (with_reducible repeat (first | refine blk_drewN ?_ _ | refine blk_drew ?_ | refine blk_alloc ?_ _)); exact BK849.out⟩
            have n1_ : Aside0 ((((w38.setCell ⟨gb853, 0, none⟩ (.string ((rd_T192 l0_2 x3_2).f0))).setCell ⟨gb853, 1, none⟩ (.int .i64 ((rd_T192 l0_2 x3_2).f1))).setCell ⟨gb853, 2, none⟩ (.int .i64 ((rd_T192 l0_2 x3_2).f2))).heap[gb853]? = some (.cells #[.string ((rd_T192 l0_2 x3_2).f0), .int .i64 ((rd_T192 l0_2 x3_2).f1), .int .i64 ((rd_T192 l0_2 x3_2).f2)] 192 (0, 0))) := ⟨by (with_reducible repeat (first | refine blk_drewN ?_ _ | refine blk_drew ?_ | refine blk_alloc ?_ _)); refine blk_put (cs := #[.string ((rd_T192 l0_2 x3_2).f0), .int .i64 ((rd_T192 l0_2 x3_2).f1), .int .i64 0]) ?_ 2 _ rfl; (with_reducible repeat (first | refine blk_drewN ?_ _ | refine blk_drew ?_ | refine blk_alloc ?_ _)); refine blk_put (cs := #[.string ((rd_T192 l0_2 x3_2).f0), .int .i64 0, .int .i64 0]) ?_ 1 _ rfl; (with_reducible repeat (first | refine blk_drewN ?_ _ | refine blk_drew ?_ | refine blk_alloc ?_ _)); refine blk_put (cs := #[.string (⟨#[]⟩ : ByteArray), .int .i64 0, .int .i64 0]) ?_ 0 _ rfl; (with_reducible repeat (first | refine blk_drewN ?_ _ | refine blk_drew ?_ | refine blk_alloc ?_ _)); exact BK853.out⟩
            have n2_ : Aside0 (Below w.heap.size w (((w38.setCell ⟨gb853, 0, none⟩ (.string ((rd_T192 l0_2 x3_2).f0))).setCell ⟨gb853, 1, none⟩ (.int .i64 ((rd_T192 l0_2 x3_2).f1))).setCell ⟨gb853, 2, none⟩ (.int .i64 ((rd_T192 l0_2 x3_2).f2)))) := ⟨by repeat (first | (with_reducible first | exact HB.out | apply below_alloc | apply pw_below_drewN | apply below_drew1 | refine below_set ?_ GE849.out | refine below_set ?_ GE853.out) | exact HB.out)⟩
            (try clear BK849)
            (try clear BK853)
            (try clear HB)
            generalize (((w38.setCell ⟨gb853, 0, none⟩ (.string ((rd_T192 l0_2 x3_2).f0))).setCell ⟨gb853, 1, none⟩ (.int .i64 ((rd_T192 l0_2 x3_2).f1))).setCell ⟨gb853, 2, none⟩ (.int .i64 ((rd_T192 l0_2 x3_2).f2))) = w41 at n0_ n1_ n2_ ⊢
            have BK849 := n0_
            have BK853 := n1_
            have HB := n2_
            clear n0_ n1_ n2_
            have n0_ := Aside0.mk (blk_drew BK849.out)
            have n1_ := Aside0.mk (blk_drew BK853.out)
            have n2_ := Aside0.mk (below_drew1 HB.out)
            clear BK849
            clear BK853
            clear HB
            have BK849 := n0_
            have BK853 := n1_
            have HB := n2_
            clear n0_ n1_ n2_
            refine wp_region_later (by kernel_rfl) (by kernel_rfl) ?_
            have hL0_ := Aside0.mk (show w41.drew.cell? ⟨gb853, 0, none⟩ = some (.string ((rd_T192 l0_2 x3_2).f0)) from (blk_cell BK853.out 0).trans rfl)
            have hL1_ := Aside0.mk (show w41.drew.cell? ⟨gb853, 1, none⟩ = some (.int .i64 ((rd_T192 l0_2 x3_2).f1)) from (blk_cell BK853.out 1).trans rfl)
            have hL2_ := Aside0.mk (show w41.drew.cell? ⟨gb853, 2, none⟩ = some (.int .i64 ((rd_T192 l0_2 x3_2).f2)) from (blk_cell BK853.out 2).trans rfl)
            generalize w41.drew = w42b at BK849 BK853 HB hL0_ hL1_ hL2_ ⊢
            have hL0 := fun (p_ : Later w42b) => Later.cell p_ hL0_.out
            have hL1 := fun (p_ : Later w42b) => Later.cell p_ hL1_.out
            have hL2 := fun (p_ : Later w42b) => Later.cell p_ hL2_.out
            clear hL0_ hL1_ hL2_
            repeat (first | go_big_quiet_step ((first | (go_at_call 155; with_reducible exact Calls.later_drawn (spec_l04Name.calls k2 ((rd_T192 l0_2 x3_2).f0) true _ A14.out)) | (go_at_call 69; with_reducible exact Calls.later_drawn (spec_l01In.calls ((rd_T192 l0_2 x3_2).f1) (-1) 49 true _ A16.out)) | (go_at_call 69; with_reducible exact Calls.later_drawn (spec_l01In.calls ((rd_T192 l0_2 x3_2).f2) 0 60000 true _ A18.out)) | (go_at_call 155; exact Calls.later_drawn (spec_l04Name.calls k2 ((rd_T192 l0_2 x3_2).f0) true _ A14.out)) | (go_at_call 69; exact Calls.later_drawn (spec_l01In.calls ((rd_T192 l0_2 x3_2).f1) (-1) 49 true _ A16.out)) | (go_at_call 69; exact Calls.later_drawn (spec_l01In.calls ((rd_T192 l0_2 x3_2).f2) 0 60000 true _ A18.out)))) | quiet_step ((first | (go_at_call 155; with_reducible exact Calls.later_drawn (spec_l04Name.calls k2 ((rd_T192 l0_2 x3_2).f0) true _ A14.out)) | (go_at_call 69; with_reducible exact Calls.later_drawn (spec_l01In.calls ((rd_T192 l0_2 x3_2).f1) (-1) 49 true _ A16.out)) | (go_at_call 69; with_reducible exact Calls.later_drawn (spec_l01In.calls ((rd_T192 l0_2 x3_2).f2) 0 60000 true _ A18.out)) | (go_at_call 155; exact Calls.later_drawn (spec_l04Name.calls k2 ((rd_T192 l0_2 x3_2).f0) true _ A14.out)) | (go_at_call 69; exact Calls.later_drawn (spec_l01In.calls ((rd_T192 l0_2 x3_2).f1) (-1) 49 true _ A16.out)) | (go_at_call 69; exact Calls.later_drawn (spec_l01In.calls ((rd_T192 l0_2 x3_2).f2) 0 60000 true _ A18.out)))))
            refine wpQuiet_nil ?_
            rintro w42 ⟨⟨wq_, hbL⟩, hq_⟩
            have hq2_ : w42 = wq_ := hq_
            clear hq_
            subst hq2_
            clear hL0 hL1 hL2
            have nBK849_ := Aside0.mk ((hbL.block _ (blk_lt BK849.out)).trans BK849.out)
            have nBK853_ := Aside0.mk ((hbL.block _ (blk_lt BK853.out)).trans BK853.out)
            have nHB_ := Aside0.mk (below_step HB.out hbL)
            clear BK849
            clear BK853
            clear HB
            have BK849 := nBK849_
            have BK853 := nBK853_
            have HB := nHB_
            clear nBK849_
            clear nBK853_
            clear nHB_
            clear hbL
            try go_wp2
            go_roundg k2
            case measure => have := HJ1.out; have := HK2.out; omega
            case rel => exact ⟨(wrap64 (x3_2 + 1)), (by first | rfl | (simp; done) | (simp [*]; done)), H', ⟨by have := HJ1.out; have := HK2.out; omega⟩, ⟨by (with_reducible repeat (first | refine blk_drewN ?_ _ | refine blk_drew ?_ | refine blk_alloc ?_ _)); exact BK849.out⟩, ⟨by repeat (first | (with_reducible first | exact HB.out | apply below_alloc | apply pw_below_drewN | apply below_drew1 | refine below_set ?_ GE849.out | refine below_set ?_ GE853.out) | exact HB.out)⟩⟩
          ·replace c19 := Bool.eq_false_iff.mpr c19
           subst c19
           have H1 : (some false) = some r := by rw [if_neg (show ¬ (false = true) by decide)] at H; exact H
           clear H
           have H := H1
           clear H1
           obtain rfl := Option.some.inj H
           have hcz43_0 : wr.cell? ⟨gb849, 0, none⟩ = some (.int .i64 a0_0) := (blk_cell BK849.out 0).trans rfl
           have hcz43_1 : wr.cell? ⟨gb849, 1, none⟩ = some (.int .i64 a0_1) := (blk_cell BK849.out 1).trans rfl
           have hcz43_2 : wr.cell? ⟨gb849, 2, none⟩ = some (.slice A0_2 l0_2.length c0_2) := (blk_cell BK849.out 2).trans rfl
           have hfz43_0 := blk_frozen BK849.out 0
           have hfz43_1 := blk_frozen BK849.out 1
           have hfz43_2 := blk_frozen BK849.out 2
           have p852 : 0 ≤ (x3_2 : Int) := of_decide_eq_true (by first | (with_reducible assumption) | assumption)
           have q852 : x3_2 < (l0_2.length : Int) := of_decide_eq_true (by first | (with_reducible assumption) | assumption)
           obtain ⟨ad852, e852, hx852_0, hx852_1, hx852_2⟩ := at_T192 HR0_2.out x3_2 p852 q852
           cases e852
           replace hx852_0 := (HB.out.cell (World.block_lt_of_cell? w _ hx852_0)).trans hx852_0
           replace hx852_1 := (HB.out.cell (World.block_lt_of_cell? w _ hx852_1)).trans hx852_1
           replace hx852_2 := (HB.out.cell (World.block_lt_of_cell? w _ hx852_2)).trans hx852_2
           replace p852 := eq_true p852
           replace q852 := eq_true q852
           try go_wp2_with (first | ((with_reducible refine gate_dst (N := 4) rfl ?_); (try (refine gate_guard (by rfl) ?_; dsimp only)); refine box_event ?hg (N := 4) ?hd (cs := #[.string (⟨#[]⟩ : ByteArray), .int .i64 0, .int .i64 0]) (t := 192) ?hr ?_; (case hd => rfl); (case hg => rfl); (case hr => first | (go_simp; done) | (go_simp; rfl)); intro gb853 hg w44 hbox hb; have n0_ := Aside0.mk (blk_below (g := gb849) (o := .cells #[.int .i64 a0_0, .int .i64 a0_1, .slice (some ad852) l0_2.length c0_2] 83 (0, 0)) (by (with_reducible repeat (first | refine blk_drewN ?_ _ | refine blk_drew ?_ | refine blk_alloc ?_ _)); exact BK849.out) hb); have n1_ := Aside0.mk (below_step (by repeat (first | (with_reducible first | exact HB.out | apply below_alloc | apply pw_below_drewN | apply below_drew1 | refine below_set ?_ GE849.out) | exact HB.out)) hb); have n2_ := Aside0.mk (hbox); have n3_ := Aside0.mk ((by rw [hg]; exact (below_size (by repeat (first | (with_reducible first | exact HB.out | apply below_alloc | apply pw_below_drewN | apply below_drew1 | refine below_set ?_ GE849.out) | exact HB.out))) : w.heap.size ≤ gb853)); have n4_ := Aside0.mk ((by rw [hg]; exact (below_size (by repeat (first | (with_reducible first | exact HB.out | apply below_alloc | apply pw_below_drewN | apply below_drew1 | refine below_set ?_ GE849.out) | exact HB.out))) : w.heap.size ≤ gb853)); have n5_ := Aside0.mk ((by rw [hg]; exact Nat.ne_of_lt (blk_lt (g := gb849) (o := .cells #[.int .i64 a0_0, .int .i64 a0_1, .slice (some ad852) l0_2.length c0_2] 83 (0, 0)) (by (with_reducible repeat (first | refine blk_drewN ?_ _ | refine blk_drew ?_ | refine blk_alloc ?_ _)); exact BK849.out)) : gb849 ≠ gb853)); have n6_ := Aside0.mk ((by rw [hg]; exact Nat.ne_of_gt (blk_lt (g := gb849) (o := .cells #[.int .i64 a0_0, .int .i64 a0_1, .slice (some ad852) l0_2.length c0_2] 83 (0, 0)) (by (with_reducible repeat (first | refine blk_drewN ?_ _ | refine blk_drew ?_ | refine blk_alloc ?_ _)); exact BK849.out)) : gb853 ≠ gb849)); clear BK849; clear HB; have BK849 := n0_; have HB := n1_; have BK853 := n2_; have GW853 := n3_; have GE853 := n4_; have NB849_853 := n5_; have NB853_849 := n6_; clear n0_ n1_ n2_ n3_ n4_ n5_ n6_; clear hb hbox hg; have hnb45 := NB853_849.out; have hnc45 := NB849_853.out; have hcz46_0 : w44.cell? ⟨gb853, 0, none⟩ = some (.string (⟨#[]⟩ : ByteArray)) := (blk_cell BK853.out 0).trans rfl; have hcz46_1 : w44.cell? ⟨gb853, 1, none⟩ = some (.int .i64 0) := (blk_cell BK853.out 1).trans rfl; have hcz46_2 : w44.cell? ⟨gb853, 2, none⟩ = some (.int .i64 0) := (blk_cell BK853.out 2).trans rfl; have hfz46_0 := blk_frozen BK853.out 0; have hfz46_1 := blk_frozen BK853.out 1; have hfz46_2 := blk_frozen BK853.out 2))
           have n0_ : Aside0 ((((w44.setCell ⟨gb853, 0, none⟩ (.string ((rd_T192 l0_2 x3_2).f0))).setCell ⟨gb853, 1, none⟩ (.int .i64 ((rd_T192 l0_2 x3_2).f1))).setCell ⟨gb853, 2, none⟩ (.int .i64 ((rd_T192 l0_2 x3_2).f2))).heap[gb849]? = some (.cells #[.int .i64 a0_0, .int .i64 a0_1, .slice (some ad852) l0_2.length c0_2] 83 (0, 0))) := ⟨by (with_reducible repeat (first | refine blk_drewN ?_ _ | refine blk_drew ?_ | refine blk_alloc ?_ _)); refine blk_far ?_ NB849_853.out _; (with_reducible repeat (first | refine blk_drewN ?_ _ | refine blk_drew ?_ | refine blk_alloc ?_ _)); refine blk_far ?_ NB849_853.out _; (with_reducible repeat (first | refine blk_drewN ?_ _ | refine blk_drew ?_ | refine blk_alloc ?_ _)); refine blk_far ?_ NB849_853.out _; (with_reducible repeat (first | refine blk_drewN ?_ _ | refine blk_drew ?_ | refine blk_alloc ?_ _)); exact BK849.out⟩
           have n1_ : Aside0 ((((w44.setCell ⟨gb853, 0, none⟩ (.string ((rd_T192 l0_2 x3_2).f0))).setCell ⟨gb853, 1, none⟩ (.int .i64 ((rd_T192 l0_2 x3_2).f1))).setCell ⟨gb853, 2, none⟩ (.int .i64 ((rd_T192 l0_2 x3_2).f2))).heap[gb853]? = some (.cells #[.string ((rd_T192 l0_2 x3_2).f0), .int .i64 ((rd_T192 l0_2 x3_2).f1), .int .i64 ((rd_T192 l0_2 x3_2).f2)] 192 (0, 0))) := ⟨by (with_reducible repeat (first | refine blk_drewN ?_ _ | refine blk_drew ?_ | refine blk_alloc ?_ _)); refine blk_put (cs := #[.string ((rd_T192 l0_2 x3_2).f0), .int .i64 ((rd_T192 l0_2 x3_2).f1), .int .i64 0]) ?_ 2 _ rfl; (with_reducible repeat (first | refine blk_drewN ?_ _ | refine blk_drew ?_ | refine blk_alloc ?_ _)); refine blk_put (cs := #[.string ((rd_T192 l0_2 x3_2).f0), .int .i64 0, .int .i64 0]) ?_ 1 _ rfl; (with_reducible repeat (first | refine blk_drewN ?_ _ | refine blk_drew ?_ | refine blk_alloc ?_ _)); refine blk_put (cs := #[.string (⟨#[]⟩ : ByteArray), .int .i64 0, .int .i64 0]) ?_ 0 _ rfl; (with_reducible repeat (first | refine blk_drewN ?_ _ | refine blk_drew ?_ | refine blk_alloc ?_ _)); exact BK853.out⟩
           have n2_ : Aside0 (Below w.heap.size w (((w44.setCell ⟨gb853, 0, none⟩ (.string ((rd_T192 l0_2 x3_2).f0))).setCell ⟨gb853, 1, none⟩ (.int .i64 ((rd_T192 l0_2 x3_2).f1))).setCell ⟨gb853, 2, none⟩ (.int .i64 ((rd_T192 l0_2 x3_2).f2)))) := ⟨by repeat (first | (with_reducible first | exact HB.out | apply below_alloc | apply pw_below_drewN | apply below_drew1 | refine below_set ?_ GE849.out | refine below_set ?_ GE853.out) | exact HB.out)⟩
           (try clear BK849)
           (try clear BK853)
           (try clear HB)
           generalize (((w44.setCell ⟨gb853, 0, none⟩ (.string ((rd_T192 l0_2 x3_2).f0))).setCell ⟨gb853, 1, none⟩ (.int .i64 ((rd_T192 l0_2 x3_2).f1))).setCell ⟨gb853, 2, none⟩ (.int .i64 ((rd_T192 l0_2 x3_2).f2))) = w47 at n0_ n1_ n2_ ⊢
           have BK849 := n0_
           have BK853 := n1_
           have HB := n2_
           clear n0_ n1_ n2_
           have n0_ := Aside0.mk (blk_drew BK849.out)
           have n1_ := Aside0.mk (blk_drew BK853.out)
           have n2_ := Aside0.mk (below_drew1 HB.out)
           clear BK849
           clear BK853
           clear HB
           have BK849 := n0_
           have BK853 := n1_
           have HB := n2_
           clear n0_ n1_ n2_
           refine wp_region_later (by kernel_rfl) (by kernel_rfl) ?_
           have hL0_ := Aside0.mk (show w47.drew.cell? ⟨gb853, 0, none⟩ = some (.string ((rd_T192 l0_2 x3_2).f0)) from (blk_cell BK853.out 0).trans rfl)
           have hL1_ := Aside0.mk (show w47.drew.cell? ⟨gb853, 1, none⟩ = some (.int .i64 ((rd_T192 l0_2 x3_2).f1)) from (blk_cell BK853.out 1).trans rfl)
           have hL2_ := Aside0.mk (show w47.drew.cell? ⟨gb853, 2, none⟩ = some (.int .i64 ((rd_T192 l0_2 x3_2).f2)) from (blk_cell BK853.out 2).trans rfl)
           generalize w47.drew = w48b at BK849 BK853 HB hL0_ hL1_ hL2_ ⊢
           have hL0 := fun (p_ : Later w48b) => Later.cell p_ hL0_.out
           have hL1 := fun (p_ : Later w48b) => Later.cell p_ hL1_.out
           have hL2 := fun (p_ : Later w48b) => Later.cell p_ hL2_.out
           clear hL0_ hL1_ hL2_
           repeat (first | go_big_quiet_step ((first | (go_at_call 155; with_reducible exact Calls.later_drawn (spec_l04Name.calls k2 ((rd_T192 l0_2 x3_2).f0) true _ A14.out)) | (go_at_call 69; with_reducible exact Calls.later_drawn (spec_l01In.calls ((rd_T192 l0_2 x3_2).f1) (-1) 49 true _ A16.out)) | (go_at_call 69; with_reducible exact Calls.later_drawn (spec_l01In.calls ((rd_T192 l0_2 x3_2).f2) 0 60000 false _ A18.out)) | (go_at_call 155; exact Calls.later_drawn (spec_l04Name.calls k2 ((rd_T192 l0_2 x3_2).f0) true _ A14.out)) | (go_at_call 69; exact Calls.later_drawn (spec_l01In.calls ((rd_T192 l0_2 x3_2).f1) (-1) 49 true _ A16.out)) | (go_at_call 69; exact Calls.later_drawn (spec_l01In.calls ((rd_T192 l0_2 x3_2).f2) 0 60000 false _ A18.out)))) | quiet_step ((first | (go_at_call 155; with_reducible exact Calls.later_drawn (spec_l04Name.calls k2 ((rd_T192 l0_2 x3_2).f0) true _ A14.out)) | (go_at_call 69; with_reducible exact Calls.later_drawn (spec_l01In.calls ((rd_T192 l0_2 x3_2).f1) (-1) 49 true _ A16.out)) | (go_at_call 69; with_reducible exact Calls.later_drawn (spec_l01In.calls ((rd_T192 l0_2 x3_2).f2) 0 60000 false _ A18.out)) | (go_at_call 155; exact Calls.later_drawn (spec_l04Name.calls k2 ((rd_T192 l0_2 x3_2).f0) true _ A14.out)) | (go_at_call 69; exact Calls.later_drawn (spec_l01In.calls ((rd_T192 l0_2 x3_2).f1) (-1) 49 true _ A16.out)) | (go_at_call 69; exact Calls.later_drawn (spec_l01In.calls ((rd_T192 l0_2 x3_2).f2) 0 60000 false _ A18.out)))))
           refine wpQuiet_nil ?_
           rintro w48 ⟨⟨wq_, hbL⟩, hq_⟩
           have hq2_ : w48 = wq_ := hq_
           clear hq_
           subst hq2_
           clear hL0 hL1 hL2
           have nBK849_ := Aside0.mk ((hbL.block _ (blk_lt BK849.out)).trans BK849.out)
           have nBK853_ := Aside0.mk ((hbL.block _ (blk_lt BK853.out)).trans BK853.out)
           have nHB_ := Aside0.mk (below_step HB.out hbL)
           clear BK849
           clear BK853
           clear HB
           have BK849 := nBK849_
           have BK853 := nBK853_
           have HB := nHB_
           clear nBK849_
           clear nBK853_
           clear nHB_
           clear hbL
           try go_wp2
           go_ret
           exact ⟨by first | rfl | (simp [errW_none, errW_some] <;> rfl) | (simp [*, errW_none, errW_some] <;> rfl), by repeat (first | (with_reducible first | exact HB.out | apply below_alloc | apply pw_below_drewN | apply below_drew1 | refine below_set ?_ GE849.out | refine below_set ?_ GE853.out) | exact HB.out)⟩
         ·replace c17 := Bool.eq_false_iff.mpr c17
          subst c17
          have H1 : (some false) = some r := by rw [if_neg (show ¬ (false = true) by decide)] at H; exact H
          clear H
          have H := H1
          clear H1
          obtain rfl := Option.some.inj H
          have hcz49_0 : wr.cell? ⟨gb849, 0, none⟩ = some (.int .i64 a0_0) := (blk_cell BK849.out 0).trans rfl
          have hcz49_1 : wr.cell? ⟨gb849, 1, none⟩ = some (.int .i64 a0_1) := (blk_cell BK849.out 1).trans rfl
          have hcz49_2 : wr.cell? ⟨gb849, 2, none⟩ = some (.slice A0_2 l0_2.length c0_2) := (blk_cell BK849.out 2).trans rfl
          have hfz49_0 := blk_frozen BK849.out 0
          have hfz49_1 := blk_frozen BK849.out 1
          have hfz49_2 := blk_frozen BK849.out 2
          have p852 : 0 ≤ (x3_2 : Int) := of_decide_eq_true (by first | (with_reducible assumption) | assumption)
          have q852 : x3_2 < (l0_2.length : Int) := of_decide_eq_true (by first | (with_reducible assumption) | assumption)
          obtain ⟨ad852, e852, hx852_0, hx852_1, hx852_2⟩ := at_T192 HR0_2.out x3_2 p852 q852
          cases e852
          replace hx852_0 := (HB.out.cell (World.block_lt_of_cell? w _ hx852_0)).trans hx852_0
          replace hx852_1 := (HB.out.cell (World.block_lt_of_cell? w _ hx852_1)).trans hx852_1
          replace hx852_2 := (HB.out.cell (World.block_lt_of_cell? w _ hx852_2)).trans hx852_2
          replace p852 := eq_true p852
          replace q852 := eq_true q852
          try go_wp2_with (first | ((with_reducible refine gate_dst (N := 4) rfl ?_); (try (refine gate_guard (by rfl) ?_; dsimp only)); refine box_event ?hg (N := 4) ?hd (cs := #[.string (⟨#[]⟩ : ByteArray), .int .i64 0, .int .i64 0]) (t := 192) ?hr ?_; (case hd => rfl); (case hg => rfl); (case hr => first | (go_simp; done) | (go_simp; rfl)); intro gb853 hg w50 hbox hb; have n0_ := Aside0.mk (blk_below (g := gb849) (o := .cells #[.int .i64 a0_0, .int .i64 a0_1, .slice (some ad852) l0_2.length c0_2] 83 (0, 0)) (by (with_reducible repeat (first | refine blk_drewN ?_ _ | refine blk_drew ?_ | refine blk_alloc ?_ _)); exact BK849.out) hb); have n1_ := Aside0.mk (below_step (by repeat (first | (with_reducible first | exact HB.out | apply below_alloc | apply pw_below_drewN | apply below_drew1 | refine below_set ?_ GE849.out) | exact HB.out)) hb); have n2_ := Aside0.mk (hbox); have n3_ := Aside0.mk ((by rw [hg]; exact (below_size (by repeat (first | (with_reducible first | exact HB.out | apply below_alloc | apply pw_below_drewN | apply below_drew1 | refine below_set ?_ GE849.out) | exact HB.out))) : w.heap.size ≤ gb853)); have n4_ := Aside0.mk ((by rw [hg]; exact (below_size (by repeat (first | (with_reducible first | exact HB.out | apply below_alloc | apply pw_below_drewN | apply below_drew1 | refine below_set ?_ GE849.out) | exact HB.out))) : w.heap.size ≤ gb853)); have n5_ := Aside0.mk ((by rw [hg]; exact Nat.ne_of_lt (blk_lt (g := gb849) (o := .cells #[.int .i64 a0_0, .int .i64 a0_1, .slice (some ad852) l0_2.length c0_2] 83 (0, 0)) (by (with_reducible repeat (first | refine blk_drewN ?_ _ | refine blk_drew ?_ | refine blk_alloc ?_ _)); exact BK849.out)) : gb849 ≠ gb853)); have n6_ := Aside0.mk ((by rw [hg]; exact Nat.ne_of_gt (blk_lt (g := gb849) (o := .cells #[.int .i64 a0_0, .int .i64 a0_1, .slice (some ad852) l0_2.length c0_2] 83 (0, 0)) (by (with_reducible repeat (first | refine blk_drewN ?_ _ | refine blk_drew ?_ | refine blk_alloc ?_ _)); exact BK849.out)) : gb853 ≠ gb849)); clear BK849; clear HB; have BK849 := n0_; have HB := n1_; have BK853 := n2_; have GW853 := n3_; have GE853 := n4_; have NB849_853 := n5_; have NB853_849 := n6_; clear n0_ n1_ n2_ n3_ n4_ n5_ n6_; clear hb hbox hg; have hnb51 := NB853_849.out; have hnc51 := NB849_853.out; have hcz52_0 : w50.cell? ⟨gb853, 0, none⟩ = some (.string (⟨#[]⟩ : ByteArray)) := (blk_cell BK853.out 0).trans rfl; have hcz52_1 : w50.cell? ⟨gb853, 1, none⟩ = some (.int .i64 0) := (blk_cell BK853.out 1).trans rfl; have hcz52_2 : w50.cell? ⟨gb853, 2, none⟩ = some (.int .i64 0) := (blk_cell BK853.out 2).trans rfl; have hfz52_0 := blk_frozen BK853.out 0; have hfz52_1 := blk_frozen BK853.out 1; have hfz52_2 := blk_frozen BK853.out 2))
          have n0_ : Aside0 ((((w50.setCell ⟨gb853, 0, none⟩ (.string ((rd_T192 l0_2 x3_2).f0))).setCell ⟨gb853, 1, none⟩ (.int .i64 ((rd_T192 l0_2 x3_2).f1))).setCell ⟨gb853, 2, none⟩ (.int .i64 ((rd_T192 l0_2 x3_2).f2))).heap[gb849]? = some (.cells #[.int .i64 a0_0, .int .i64 a0_1, .slice (some ad852) l0_2.length c0_2] 83 (0, 0))) := ⟨by (with_reducible repeat (first | refine blk_drewN ?_ _ | refine blk_drew ?_ | refine blk_alloc ?_ _)); refine blk_far ?_ NB849_853.out _; (with_reducible repeat (first | refine blk_drewN ?_ _ | refine blk_drew ?_ | refine blk_alloc ?_ _)); refine blk_far ?_ NB849_853.out _; (with_reducible repeat (first | refine blk_drewN ?_ _ | refine blk_drew ?_ | refine blk_alloc ?_ _)); refine blk_far ?_ NB849_853.out _; (with_reducible repeat (first | refine blk_drewN ?_ _ | refine blk_drew ?_ | refine blk_alloc ?_ _)); exact BK849.out⟩
          have n1_ : Aside0 ((((w50.setCell ⟨gb853, 0, none⟩ (.string ((rd_T192 l0_2 x3_2).f0))).setCell ⟨gb853, 1, none⟩ (.int .i64 ((rd_T192 l0_2 x3_2).f1))).setCell ⟨gb853, 2, none⟩ (.int .i64 ((rd_T192 l0_2 x3_2).f2))).heap[gb853]? = some (.cells #[.string ((rd_T192 l0_2 x3_2).f0), .int .i64 ((rd_T192 l0_2 x3_2).f1), .int .i64 ((rd_T192 l0_2 x3_2).f2)] 192 (0, 0))) := ⟨by (with_reducible repeat (first | refine blk_drewN ?_ _ | refine blk_drew ?_ | refine blk_alloc ?_ _)); refine blk_put (cs := #[.string ((rd_T192 l0_2 x3_2).f0), .int .i64 ((rd_T192 l0_2 x3_2).f1), .int .i64 0]) ?_ 2 _ rfl; (with_reducible repeat (first | refine blk_drewN ?_ _ | refine blk_drew ?_ | refine blk_alloc ?_ _)); refine blk_put (cs := #[.string ((rd_T192 l0_2 x3_2).f0), .int .i64 0, .int .i64 0]) ?_ 1 _ rfl; (with_reducible repeat (first | refine blk_drewN ?_ _ | refine blk_drew ?_ | refine blk_alloc ?_ _)); refine blk_put (cs := #[.string (⟨#[]⟩ : ByteArray), .int .i64 0, .int .i64 0]) ?_ 0 _ rfl; (with_reducible repeat (first | refine blk_drewN ?_ _ | refine blk_drew ?_ | refine blk_alloc ?_ _)); exact BK853.out⟩
          have n2_ : Aside0 (Below w.heap.size w (((w50.setCell ⟨gb853, 0, none⟩ (.string ((rd_T192 l0_2 x3_2).f0))).setCell ⟨gb853, 1, none⟩ (.int .i64 ((rd_T192 l0_2 x3_2).f1))).setCell ⟨gb853, 2, none⟩ (.int .i64 ((rd_T192 l0_2 x3_2).f2)))) := ⟨by repeat (first | (with_reducible first | exact HB.out | apply below_alloc | apply pw_below_drewN | apply below_drew1 | refine below_set ?_ GE849.out | refine below_set ?_ GE853.out) | exact HB.out)⟩
          (try clear BK849)
          (try clear BK853)
          (try clear HB)
          generalize (((w50.setCell ⟨gb853, 0, none⟩ (.string ((rd_T192 l0_2 x3_2).f0))).setCell ⟨gb853, 1, none⟩ (.int .i64 ((rd_T192 l0_2 x3_2).f1))).setCell ⟨gb853, 2, none⟩ (.int .i64 ((rd_T192 l0_2 x3_2).f2))) = w53 at n0_ n1_ n2_ ⊢
          have BK849 := n0_
          have BK853 := n1_
          have HB := n2_
          clear n0_ n1_ n2_
          have n0_ := Aside0.mk (blk_drew BK849.out)
          have n1_ := Aside0.mk (blk_drew BK853.out)
          have n2_ := Aside0.mk (below_drew1 HB.out)
          clear BK849
          clear BK853
          clear HB
          have BK849 := n0_
          have BK853 := n1_
          have HB := n2_
          clear n0_ n1_ n2_
          refine wp_region_later (by kernel_rfl) (by kernel_rfl) ?_
          have hL0_ := Aside0.mk (show w53.drew.cell? ⟨gb853, 0, none⟩ = some (.string ((rd_T192 l0_2 x3_2).f0)) from (blk_cell BK853.out 0).trans rfl)
          have hL1_ := Aside0.mk (show w53.drew.cell? ⟨gb853, 1, none⟩ = some (.int .i64 ((rd_T192 l0_2 x3_2).f1)) from (blk_cell BK853.out 1).trans rfl)
          have hL2_ := Aside0.mk (show w53.drew.cell? ⟨gb853, 2, none⟩ = some (.int .i64 ((rd_T192 l0_2 x3_2).f2)) from (blk_cell BK853.out 2).trans rfl)
          generalize w53.drew = w54b at BK849 BK853 HB hL0_ hL1_ hL2_ ⊢
          have hL0 := fun (p_ : Later w54b) => Later.cell p_ hL0_.out
          have hL1 := fun (p_ : Later w54b) => Later.cell p_ hL1_.out
          have hL2 := fun (p_ : Later w54b) => Later.cell p_ hL2_.out
          clear hL0_ hL1_ hL2_
          repeat (first | go_big_quiet_step ((first | (go_at_call 155; with_reducible exact Calls.later_drawn (spec_l04Name.calls k2 ((rd_T192 l0_2 x3_2).f0) true _ A14.out)) | (go_at_call 69; with_reducible exact Calls.later_drawn (spec_l01In.calls ((rd_T192 l0_2 x3_2).f1) (-1) 49 false _ A16.out)) | (go_at_call 155; exact Calls.later_drawn (spec_l04Name.calls k2 ((rd_T192 l0_2 x3_2).f0) true _ A14.out)) | (go_at_call 69; exact Calls.later_drawn (spec_l01In.calls ((rd_T192 l0_2 x3_2).f1) (-1) 49 false _ A16.out)))) | quiet_step ((first | (go_at_call 155; with_reducible exact Calls.later_drawn (spec_l04Name.calls k2 ((rd_T192 l0_2 x3_2).f0) true _ A14.out)) | (go_at_call 69; with_reducible exact Calls.later_drawn (spec_l01In.calls ((rd_T192 l0_2 x3_2).f1) (-1) 49 false _ A16.out)) | (go_at_call 155; exact Calls.later_drawn (spec_l04Name.calls k2 ((rd_T192 l0_2 x3_2).f0) true _ A14.out)) | (go_at_call 69; exact Calls.later_drawn (spec_l01In.calls ((rd_T192 l0_2 x3_2).f1) (-1) 49 false _ A16.out)))))
          refine wpQuiet_nil ?_
          rintro w54 ⟨⟨wq_, hbL⟩, hq_⟩
          have hq2_ : w54 = wq_ := hq_
          clear hq_
          subst hq2_
          clear hL0 hL1 hL2
          have nBK849_ := Aside0.mk ((hbL.block _ (blk_lt BK849.out)).trans BK849.out)
          have nBK853_ := Aside0.mk ((hbL.block _ (blk_lt BK853.out)).trans BK853.out)
          have nHB_ := Aside0.mk (below_step HB.out hbL)
          clear BK849
          clear BK853
          clear HB
          have BK849 := nBK849_
          have BK853 := nBK853_
          have HB := nHB_
          clear nBK849_
          clear nBK853_
          clear nHB_
          clear hbL
          try go_wp2
          go_ret
          exact ⟨by first | rfl | (simp [errW_none, errW_some] <;> rfl) | (simp [*, errW_none, errW_some] <;> rfl), by repeat (first | (with_reducible first | exact HB.out | apply below_alloc | apply pw_below_drewN | apply below_drew1 | refine below_set ?_ GE849.out | refine below_set ?_ GE853.out) | exact HB.out)⟩
        ·replace c15 := Bool.eq_false_iff.mpr c15
         subst c15
         have H1 : (some false) = some r := by rw [if_neg (show ¬ (false = true) by decide)] at H; exact H
         clear H
         have H := H1
         clear H1
         obtain rfl := Option.some.inj H
         have hcz55_0 : wr.cell? ⟨gb849, 0, none⟩ = some (.int .i64 a0_0) := (blk_cell BK849.out 0).trans rfl
         have hcz55_1 : wr.cell? ⟨gb849, 1, none⟩ = some (.int .i64 a0_1) := (blk_cell BK849.out 1).trans rfl
         have hcz55_2 : wr.cell? ⟨gb849, 2, none⟩ = some (.slice A0_2 l0_2.length c0_2) := (blk_cell BK849.out 2).trans rfl
         have hfz55_0 := blk_frozen BK849.out 0
         have hfz55_1 := blk_frozen BK849.out 1
         have hfz55_2 := blk_frozen BK849.out 2
         have p852 : 0 ≤ (x3_2 : Int) := of_decide_eq_true (by first | (with_reducible assumption) | assumption)
         have q852 : x3_2 < (l0_2.length : Int) := of_decide_eq_true (by first | (with_reducible assumption) | assumption)
         obtain ⟨ad852, e852, hx852_0, hx852_1, hx852_2⟩ := at_T192 HR0_2.out x3_2 p852 q852
         cases e852
         replace hx852_0 := (HB.out.cell (World.block_lt_of_cell? w _ hx852_0)).trans hx852_0
         replace hx852_1 := (HB.out.cell (World.block_lt_of_cell? w _ hx852_1)).trans hx852_1
         replace hx852_2 := (HB.out.cell (World.block_lt_of_cell? w _ hx852_2)).trans hx852_2
         replace p852 := eq_true p852
         replace q852 := eq_true q852
         try go_wp2_with (first | ((with_reducible refine gate_dst (N := 4) rfl ?_); (try (refine gate_guard (by rfl) ?_; dsimp only)); refine box_event ?hg (N := 4) ?hd (cs := #[.string (⟨#[]⟩ : ByteArray), .int .i64 0, .int .i64 0]) (t := 192) ?hr ?_; (case hd => rfl); (case hg => rfl); (case hr => first | (go_simp; done) | (go_simp; rfl)); intro gb853 hg w56 hbox hb; have n0_ := Aside0.mk (blk_below (g := gb849) (o := .cells #[.int .i64 a0_0, .int .i64 a0_1, .slice (some ad852) l0_2.length c0_2] 83 (0, 0)) (by (with_reducible repeat (first | refine blk_drewN ?_ _ | refine blk_drew ?_ | refine blk_alloc ?_ _)); exact BK849.out) hb); have n1_ := Aside0.mk (below_step (by repeat (first | (with_reducible first | exact HB.out | apply below_alloc | apply pw_below_drewN | apply below_drew1 | refine below_set ?_ GE849.out) | exact HB.out)) hb); have n2_ := Aside0.mk (hbox); have n3_ := Aside0.mk ((by rw [hg]; exact (below_size (by repeat (first | (with_reducible first | exact HB.out | apply below_alloc | apply pw_below_drewN | apply below_drew1 | refine below_set ?_ GE849.out) | exact HB.out))) : w.heap.size ≤ gb853)); have n4_ := Aside0.mk ((by rw [hg]; exact (below_size (by repeat (first | (with_reducible first | exact HB.out | apply below_alloc | apply pw_below_drewN | apply below_drew1 | refine below_set ?_ GE849.out) | exact HB.out))) : w.heap.size ≤ gb853)); have n5_ := Aside0.mk ((by rw [hg]; exact Nat.ne_of_lt (blk_lt (g := gb849) (o := .cells #[.int .i64 a0_0, .int .i64 a0_1, .slice (some ad852) l0_2.length c0_2] 83 (0, 0)) (by (with_reducible repeat (first | refine blk_drewN ?_ _ | refine blk_drew ?_ | refine blk_alloc ?_ _)); exact BK849.out)) : gb849 ≠ gb853)); have n6_ := Aside0.mk ((by rw [hg]; exact Nat.ne_of_gt (blk_lt (g := gb849) (o := .cells #[.int .i64 a0_0, .int .i64 a0_1, .slice (some ad852) l0_2.length c0_2] 83 (0, 0)) (by (with_reducible repeat (first | refine blk_drewN ?_ _ | refine blk_drew ?_ | refine blk_alloc ?_ _)); exact BK849.out)) : gb853 ≠ gb849)); clear BK849; clear HB; have BK849 := n0_; have HB := n1_; have BK853 := n2_; have GW853 := n3_; have GE853 := n4_; have NB849_853 := n5_; have NB853_849 := n6_; clear n0_ n1_ n2_ n3_ n4_ n5_ n6_; clear hb hbox hg; have hnb57 := NB853_849.out; have hnc57 := NB849_853.out; have hcz58_0 : w56.cell? ⟨gb853, 0, none⟩ = some (.string (⟨#[]⟩ : ByteArray)) := (blk_cell BK853.out 0).trans rfl; have hcz58_1 : w56.cell? ⟨gb853, 1, none⟩ = some (.int .i64 0) := (blk_cell BK853.out 1).trans rfl; have hcz58_2 : w56.cell? ⟨gb853, 2, none⟩ = some (.int .i64 0) := (blk_cell BK853.out 2).trans rfl; have hfz58_0 := blk_frozen BK853.out 0; have hfz58_1 := blk_frozen BK853.out 1; have hfz58_2 := blk_frozen BK853.out 2))
         have n0_ : Aside0 ((((w56.setCell ⟨gb853, 0, none⟩ (.string ((rd_T192 l0_2 x3_2).f0))).setCell ⟨gb853, 1, none⟩ (.int .i64 ((rd_T192 l0_2 x3_2).f1))).setCell ⟨gb853, 2, none⟩ (.int .i64 ((rd_T192 l0_2 x3_2).f2))).heap[gb849]? = some (.cells #[.int .i64 a0_0, .int .i64 a0_1, .slice (some ad852) l0_2.length c0_2] 83 (0, 0))) := ⟨by (with_reducible repeat (first | refine blk_drewN ?_ _ | refine blk_drew ?_ | refine blk_alloc ?_ _)); refine blk_far ?_ NB849_853.out _; (with_reducible repeat (first | refine blk_drewN ?_ _ | refine blk_drew ?_ | refine blk_alloc ?_ _)); refine blk_far ?_ NB849_853.out _; (with_reducible repeat (first | refine blk_drewN ?_ _ | refine blk_drew ?_ | refine blk_alloc ?_ _)); refine blk_far ?_ NB849_853.out _; (with_reducible repeat (first | refine blk_drewN ?_ _ | refine blk_drew ?_ | refine blk_alloc ?_ _)); exact BK849.out⟩
         have n1_ : Aside0 ((((w56.setCell ⟨gb853, 0, none⟩ (.string ((rd_T192 l0_2 x3_2).f0))).setCell ⟨gb853, 1, none⟩ (.int .i64 ((rd_T192 l0_2 x3_2).f1))).setCell ⟨gb853, 2, none⟩ (.int .i64 ((rd_T192 l0_2 x3_2).f2))).heap[gb853]? = some (.cells #[.string ((rd_T192 l0_2 x3_2).f0), .int .i64 ((rd_T192 l0_2 x3_2).f1), .int .i64 ((rd_T192 l0_2 x3_2).f2)] 192 (0, 0))) := ⟨by (with_reducible repeat (first | refine blk_drewN ?_ _ | refine blk_drew ?_ | refine blk_alloc ?_ _)); refine blk_put (cs := #[.string ((rd_T192 l0_2 x3_2).f0), .int .i64 ((rd_T192 l0_2 x3_2).f1), .int .i64 0]) ?_ 2 _ rfl; (with_reducible repeat (first | refine blk_drewN ?_ _ | refine blk_drew ?_ | refine blk_alloc ?_ _)); refine blk_put (cs := #[.string ((rd_T192 l0_2 x3_2).f0), .int .i64 0, .int .i64 0]) ?_ 1 _ rfl; (with_reducible repeat (first | refine blk_drewN ?_ _ | refine blk_drew ?_ | refine blk_alloc ?_ _)); refine blk_put (cs := #[.string (⟨#[]⟩ : ByteArray), .int .i64 0, .int .i64 0]) ?_ 0 _ rfl; (with_reducible repeat (first | refine blk_drewN ?_ _ | refine blk_drew ?_ | refine blk_alloc ?_ _)); exact BK853.out⟩
         have n2_ : Aside0 (Below w.heap.size w (((w56.setCell ⟨gb853, 0, none⟩ (.string ((rd_T192 l0_2 x3_2).f0))).setCell ⟨gb853, 1, none⟩ (.int .i64 ((rd_T192 l0_2 x3_2).f1))).setCell ⟨gb853, 2, none⟩ (.int .i64 ((rd_T192 l0_2 x3_2).f2)))) := ⟨by repeat (first | (with_reducible first | exact HB.out | apply below_alloc | apply pw_below_drewN | apply below_drew1 | refine below_set ?_ GE849.out | refine below_set ?_ GE853.out) | exact HB.out)⟩
         (try clear BK849)
         (try clear BK853)
         (try clear HB)
         generalize (((w56.setCell ⟨gb853, 0, none⟩ (.string ((rd_T192 l0_2 x3_2).f0))).setCell ⟨gb853, 1, none⟩ (.int .i64 ((rd_T192 l0_2 x3_2).f1))).setCell ⟨gb853, 2, none⟩ (.int .i64 ((rd_T192 l0_2 x3_2).f2))) = w59 at n0_ n1_ n2_ ⊢
         have BK849 := n0_
         have BK853 := n1_
         have HB := n2_
         clear n0_ n1_ n2_
         have n0_ := Aside0.mk (blk_drew BK849.out)
         have n1_ := Aside0.mk (blk_drew BK853.out)
         have n2_ := Aside0.mk (below_drew1 HB.out)
         clear BK849
         clear BK853
         clear HB
         have BK849 := n0_
         have BK853 := n1_
         have HB := n2_
         clear n0_ n1_ n2_
         refine wp_region_later (by kernel_rfl) (by kernel_rfl) ?_
         have hL0_ := Aside0.mk (show w59.drew.cell? ⟨gb853, 0, none⟩ = some (.string ((rd_T192 l0_2 x3_2).f0)) from (blk_cell BK853.out 0).trans rfl)
         have hL1_ := Aside0.mk (show w59.drew.cell? ⟨gb853, 1, none⟩ = some (.int .i64 ((rd_T192 l0_2 x3_2).f1)) from (blk_cell BK853.out 1).trans rfl)
         have hL2_ := Aside0.mk (show w59.drew.cell? ⟨gb853, 2, none⟩ = some (.int .i64 ((rd_T192 l0_2 x3_2).f2)) from (blk_cell BK853.out 2).trans rfl)
         generalize w59.drew = w60b at BK849 BK853 HB hL0_ hL1_ hL2_ ⊢
         have hL0 := fun (p_ : Later w60b) => Later.cell p_ hL0_.out
         have hL1 := fun (p_ : Later w60b) => Later.cell p_ hL1_.out
         have hL2 := fun (p_ : Later w60b) => Later.cell p_ hL2_.out
         clear hL0_ hL1_ hL2_
         repeat (first | go_big_quiet_step ((first | (go_at_call 155; exact Calls.later_drawn (spec_l04Name.calls k2 ((rd_T192 l0_2 x3_2).f0) false _ A14.out)))) | quiet_step ((first | (go_at_call 155; exact Calls.later_drawn (spec_l04Name.calls k2 ((rd_T192 l0_2 x3_2).f0) false _ A14.out)))))
         refine wpQuiet_nil ?_
         rintro w60 ⟨⟨wq_, hbL⟩, hq_⟩
         have hq2_ : w60 = wq_ := hq_
         clear hq_
         subst hq2_
         clear hL0 hL1 hL2
         have nBK849_ := Aside0.mk ((hbL.block _ (blk_lt BK849.out)).trans BK849.out)
         have nBK853_ := Aside0.mk ((hbL.block _ (blk_lt BK853.out)).trans BK853.out)
         have nHB_ := Aside0.mk (below_step HB.out hbL)
         clear BK849
         clear BK853
         clear HB
         have BK849 := nBK849_
         have BK853 := nBK853_
         have HB := nHB_
         clear nBK849_
         clear nBK853_
         clear nHB_
         clear hbL
         try go_wp2
         go_ret
         exact ⟨by first | rfl | (simp [errW_none, errW_some] <;> rfl) | (simp [*, errW_none, errW_some] <;> rfl), by repeat (first | (with_reducible first | exact HB.out | apply below_alloc | apply pw_below_drewN | apply below_drew1 | refine below_set ?_ GE849.out | refine below_set ?_ GE853.out) | exact HB.out)⟩
       ·rw [if_neg c13] at H
        exact absurd H (by simp)
      ·rw [if_neg c12] at H
       have c12b0 : decide (x3_2 < (l0_2.length : Int)) = false := decide_eq_false c12
       clear c12
       obtain rfl := Option.some.inj H
       have hcz61_0 : wr.cell? ⟨gb849, 0, none⟩ = some (.int .i64 a0_0) := (blk_cell BK849.out 0).trans rfl
       have hcz61_1 : wr.cell? ⟨gb849, 1, none⟩ = some (.int .i64 a0_1) := (blk_cell BK849.out 1).trans rfl
       have hcz61_2 : wr.cell? ⟨gb849, 2, none⟩ = some (.slice A0_2 l0_2.length c0_2) := (blk_cell BK849.out 2).trans rfl
       have hfz61_0 := blk_frozen BK849.out 0
       have hfz61_1 := blk_frozen BK849.out 1
       have hfz61_2 := blk_frozen BK849.out 2
       go_wp2
       go_ret
       exact ⟨by first | rfl | (simp [errW_none, errW_some] <;> rfl) | (simp [*, errW_none, errW_some] <;> rfl), by repeat (first | (with_reducible first | exact HB.out | apply below_alloc | apply pw_below_drewN | apply below_drew1 | refine below_set ?_ GE849.out) | exact HB.out)⟩
end Go.Proofs.Ytenfomejccfkgaa.X
