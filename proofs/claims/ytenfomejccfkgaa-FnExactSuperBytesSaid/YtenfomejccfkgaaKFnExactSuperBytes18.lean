import Derived.Test.YtenfomejccfkgaaKFnExactSuperBytes4
import Derived.Test.YtenfomejccfkgaaKFnExactSuperBytes6
import Derived.Test.YtenfomejccfkgaaKFnExactSuperBytes7
import Derived.Test.YtenfomejccfkgaaKFnExactSuperBytes9
namespace Go.Proofs.Ytenfomejccfkgaa.X
open Go.RowKit Go.Proofs.YtenfomejccfkgaaW.PrintWords Go.Proofs.YtenfomejccfkgaaW.PrintLast Go.Proofs.YtenfomejccfkgaaW.PrintMore
attribute [local go_sem] xbin_geq xbin_leq xbin_gtr max2_int min2_int max_two min_two max_three min_three max_four min_four
set_option linter.unusedVariables false
set_option linter.unusedSimpArgs false
def spec_l04Bytes.l0 : Nat → List Int → List ByteArray → Int → Int → Int → List (S192) → Option (List Int)
 | 0, _, _, _, _, _, _ => none
 | k + 1, x3, x4, x5, x859000, x859001, x859002 => if x5 < (x859002.length : Int) then (if 0 ≤ x5 then ((some (([(wrap64 (((rd_T192 x859002 x5).f1) + 1)) % 256] : List Int) : List Int)).bind fun y867 => ((spec_l01Number.f k ((rd_T192 x859002 x5).f2) 2).bind fun t870 => (if y867.length + t870.length < 140737488355328 then ((some (y867 ++ t870 : List Int)).bind fun y873 => (if (strOfNums y873).size + ((rd_T192 x859002 x5).f0).size ≤ 9223372036854775807 then (if x4.length < 8796093022208 then (spec_l04Bytes.l0 k x3 (x4 ++ [(strOfNums y873) ++ ((rd_T192 x859002 x5).f0)]) (wrap64 (x5 + 1)) x859000 x859001 x859002) else (none)) else (none))) else (none)))) else (none)) else ((spec_l01Fields.f x4).bind fun t879 => (if x3.length + t879.length < 140737488355328 then ((spec_l03Sealed.f k (x3 ++ t879)).bind fun t885 => (some t885)) else (none)))
def spec_l04Bytes.f (k : Nat) (a0_0 : Int) (a0_1 : Int) (l0_2 : List (S192)) : Option (List Int) := spec_l04Bytes.l0 k (([115, (a0_0) % 256, (wrap64 (a0_1 + 1)) % 256] : List Int)) (([] : List ByteArray)) 0 a0_0 a0_1 l0_2
theorem spec_l04Bytes.mono_l : ∀ k, (∀ y0 y1 y2 y3 y4 y5, LeO (spec_l04Bytes.l0 k y0 y1 y2 y3 y4 y5) (spec_l04Bytes.l0 (k + 1) y0 y1 y2 y3 y4 y5))
 | 0 => fun _ _ _ _ _ _ r h => by simp [spec_l04Bytes.l0] at h
 | k + 1 => by
  have ih0 := spec_l04Bytes.mono_l k
  ·intro y0 y1 y2 y3 y4 y5
   unfold spec_l04Bytes.l0
   repeat' first
   | (with_reducible exact ih0 _ _ _ _ _ _)
   | (with_reducible exact spec_l01Number.mono _ _ _)
   | (with_reducible exact spec_l03Sealed.mono _ _)
   | (with_reducible exact LeO.refl _)
   | (with_reducible exact LeO.none _)
   | (with_reducible refine LeO.ite ?_ ?_)
   | (with_reducible refine LeO.bind ?_ (fun _ => ?_))
   | exact ih0 _ _ _ _ _ _
   | exact spec_l01Number.mono _ _ _
   | exact spec_l03Sealed.mono _ _
   | exact LeO.none _
   | refine LeO.ite ?_ ?_
   | refine LeO.bind ?_ (fun _ => ?_)
theorem spec_l04Bytes.mono : ∀ a0 a1 a2 k, LeO (spec_l04Bytes.f k a0 a1 a2) (spec_l04Bytes.f (k + 1) a0 a1 a2) := by
 intro a0 a1 a2 k
 have ih0 := spec_l04Bytes.mono_l k
 unfold spec_l04Bytes.f
 repeat' first
   | (with_reducible exact ih0 _ _ _ _ _ _)
   | (with_reducible exact spec_l01Number.mono _ _ _)
   | (with_reducible exact spec_l03Sealed.mono _ _)
   | (with_reducible exact LeO.refl _)
   | (with_reducible exact LeO.none _)
   | (with_reducible refine LeO.ite ?_ ?_)
   | (with_reducible refine LeO.bind ?_ (fun _ => ?_))
   | exact ih0 _ _ _ _ _ _
   | exact spec_l01Number.mono _ _ _
   | exact spec_l03Sealed.mono _ _
   | exact LeO.none _
   | refine LeO.ite ?_ ?_
   | refine LeO.bind ?_ (fun _ => ?_)
def spec_l04Bytes.T7 : Bool × List (List Nat × List Nat) := (true, [([], []), ([], []), ([1], [1]), ([2], [2]), ([3], [3]), ([4], [4]), ([], []), ([6], [6]), ([7], [7]), ([5, 8, 8], [5, 8]), ([9], [9]), ([], []), ([11], [11]), ([10, 12], [10, 12]), ([13], [13]), ([0, 14, 9], [0, 14]), ([15, 15, 0, 1, 2, 3, 4, 5, 6, 7, 8, 9, 10, 11, 12, 13, 14, 15], [0, 15])])
def spec_l04Bytes.B7 : List Nat := [0, 0, 2, 6, 14, 30, 0, 64, 192, 510, 1022, 0, 2048, 8190, 16382, 32767, 65535]
theorem spec_l04Bytes.tab7 : rtab .any (opsOf Try.f113 7) = spec_l04Bytes.T7 := by kernel_rfl
theorem spec_l04Bytes.bits7 : waitsOk spec_l04Bytes.T7.2 spec_l04Bytes.B7 = true := by kernel_rfl
set_option maxHeartbeats 8000000 in
set_option maxRecDepth 100000 in
theorem spec_l04Bytes.calls (k : Nat) (a0_0 : Int) (a0_1 : Int) (A0_2 : Option Addr) (c0_2 : Nat) (l0_2 : List (S192)) (r : List Int) (w : World) (hr0_2 : Kd.C k192 w A0_2 l0_2.length l0_2) (hc0_2 : l0_2.length ≤ c0_2) (h : spec_l04Bytes.f k a0_0 a0_1 l0_2 = some r) :
  Calls Try.prog 113 #[.agg #[.int .i64 a0_0, .int .i64 a0_1, .slice A0_2 l0_2.length c0_2]] w fun e w' => ∃ v0_ : Value, e = .returned (v0_) ∧ Kd.R (Kd.int .u8) 5 w' w.heap.size (fun _ => True) v0_ r ∧ Below w.heap.size w w' := by
 have hu83 := Try.underlying83
 have hu192 := Try.underlying192
 have HR0_2 := Aside0.mk hr0_2
 have HC0_2 := Aside0.mk hc0_2
 clear hr0_2 hc0_2
 have HB := Aside0.mk (Below.refl w.heap.size w)
 have H : (spec_l04Bytes.l0 k (([115, (a0_0) % 256, (wrap64 (a0_1 + 1)) % 256] : List Int)) (([] : List ByteArray)) 0 a0_0 a0_1 l0_2) = some r := h
 clear h
 obtain ⟨y859, hy859⟩ : ∃ y_ : List Int, y_ = (([115, (a0_0) % 256, (wrap64 (a0_1 + 1)) % 256] : List Int)) := ⟨_, rfl⟩
 replace H : (spec_l04Bytes.l0 k y859 (([] : List ByteArray)) 0 a0_0 a0_1 l0_2) = some r := by first | (rw [hy859]; with_reducible exact H) | (have H2_ := (Option.bind_some _ _).symm.trans H; rw [hy859]; with_reducible exact H2_) | (have H2_ := (Option.bind_some _ _).symm.trans H; with_reducible exact H2_) | with_reducible exact H | (rw [hy859]; exact H) | exact H
 have Ny859 := Aside0.mk hy859
 clear hy859
 obtain ⟨y862, hy862⟩ : ∃ y_ : List ByteArray, y_ = (([] : List ByteArray)) := ⟨_, rfl⟩
 replace H : (spec_l04Bytes.l0 k y859 y862 0 a0_0 a0_1 l0_2) = some r := by first | (rw [hy862]; with_reducible exact H) | (have H2_ := (Option.bind_some _ _).symm.trans H; rw [hy862]; with_reducible exact H2_) | (have H2_ := (Option.bind_some _ _).symm.trans H; with_reducible exact H2_) | with_reducible exact H | (rw [hy862]; exact H) | exact H
 have Ny862 := Aside0.mk hy862
 clear hy862
 have H' := Aside0.mk H
 clear H
 go_enter Try.func113, Try.ntmps113
 go_wp2_with (first | ((with_reducible refine gate_dst (N := 1) rfl ?_); refine box_event ?hg (N := 1) ?hd (cs := #[.int .i64 a0_0, .int .i64 a0_1, .slice A0_2 l0_2.length c0_2]) (t := 83) ?hr ?_; (case hd => rfl); (case hg => rfl); (case hr => first | (go_simp; done) | (go_simp; rfl)); intro gb858 hg w2 hbox hb; have n0_ := Aside0.mk (below_step (by repeat (first | (with_reducible first | exact HB.out | apply below_alloc | apply pw_below_drewN | apply below_drew1) | exact HB.out)) hb); have n1_ := Aside0.mk (hbox); have n2_ := Aside0.mk ((by rw [hg]; exact (below_size (by repeat (first | (with_reducible first | exact HB.out | apply below_alloc | apply pw_below_drewN | apply below_drew1) | exact HB.out))) : w.heap.size ≤ gb858)); have n3_ := Aside0.mk ((by rw [hg]; exact (below_size (by repeat (first | (with_reducible first | exact HB.out | apply below_alloc | apply pw_below_drewN | apply below_drew1) | exact HB.out))) : w.heap.size ≤ gb858)); clear HB; have HB := n0_; have BK858 := n1_; have GW858 := n2_; have GE858 := n3_; clear n0_ n1_ n2_ n3_; clear hb hbox hg; have hcz3_0 : w2.cell? ⟨gb858, 0, none⟩ = some (.int .i64 a0_0) := (blk_cell BK858.out 0).trans rfl; have hcz3_1 : w2.cell? ⟨gb858, 1, none⟩ = some (.int .i64 a0_1) := (blk_cell BK858.out 1).trans rfl; have hcz3_2 : w2.cell? ⟨gb858, 2, none⟩ = some (.slice A0_2 l0_2.length c0_2) := (blk_cell BK858.out 2).trans rfl; have hfz3_0 := blk_frozen BK858.out 0; have hfz3_1 := blk_frozen BK858.out 1; have hfz3_2 := blk_frozen BK858.out 2) | ((with_reducible refine gate_dst (N := 14) rfl ?_); refine Kd.R_lit (Kd.int .u8) _ 5 ?hg (N := 14) ?hd (xs := ([115, (a0_0) % 256, (wrap64 (a0_1 + 1)) % 256] : List Int)) (inner := [.int .u8 115, .int .u8 ((a0_0) % 256), .int .u8 ((wrap64 (a0_1 + 1)) % 256)]) (ok := fun _ => True) (okp := fun _ => True) ?hr ?hp (fun _ hk => hk) trivial (Below.refl _ _) (Nat.le_refl _) (by simp) ?_; (case hd => rfl); (case hg => rfl); (case hr => first | (go_simp; done) | (go_simp; rfl)); (case hp => exact (Reps.one (show Kd.M (Kd.int .u8) _ _ _ 115 [.int .u8 115] from rfl) (Reps.one (show Kd.M (Kd.int .u8) _ _ _ ((a0_0) % 256) [.int .u8 ((a0_0) % 256)] from rfl) (Reps.one (show Kd.M (Kd.int .u8) _ _ _ ((wrap64 (a0_1 + 1)) % 256) [.int .u8 ((wrap64 (a0_1 + 1)) % 256)] from rfl) (Reps.none _ _))))); intro v860 w4 ho5 hb hg_ hnew_; clear hg_ hnew_; (first | rw [← Ny859.out] at ho5 | (simp only [Int.reduceToNat] at ho5; rw [← Ny859.out] at ho5)); have n0_ := Aside0.mk (Kd.R_lower ho5 (below_size (by repeat (first | (with_reducible first | exact HB.out | apply below_alloc | apply pw_below_drewN | apply below_drew1 | refine below_set ?_ GE858.out) | exact HB.out)))); have n1_ := Aside0.mk (blk_below (g := gb858) (o := .cells #[.int .i64 a0_0, .int .i64 a0_1, .slice A0_2 l0_2.length c0_2] 83 (0, 0)) (by (with_reducible repeat (first | refine blk_drewN ?_ _ | refine blk_drew ?_ | refine blk_alloc ?_ _)); exact BK858.out) hb); have n2_ := Aside0.mk (below_step (by repeat (first | (with_reducible first | exact HB.out | apply below_alloc | apply pw_below_drewN | apply below_drew1 | refine below_set ?_ GE858.out) | exact HB.out)) hb); clear BK858; clear HB; have HO861 := n0_; have BK858 := n1_; have HB := n2_; clear n0_ n1_ n2_; clear hb ho5) | ((with_reducible refine gate_dst (N := 15) rfl ?_); refine Kd.R_lit Kd.string _ 9 ?hg (N := 15) ?hd (xs := ([] : List ByteArray)) (inner := []) (ok := fun _ => True) (okp := fun _ => True) ?hr ?hp (fun _ hk => hk) trivial (Below.refl _ _) (Nat.le_refl _) (by simp) ?_; (case hd => rfl); (case hg => rfl); (case hr => first | (go_simp; done) | (go_simp; rfl)); (case hp => exact (Reps.none _ _)); intro v863 w6 ho7 hb hg_ hnew_; clear hg_ hnew_; (first | rw [← Ny862.out] at ho7 | (simp only [Int.reduceToNat] at ho7; rw [← Ny862.out] at ho7)); have n0_ := Aside0.mk (Kd.R_below (by (with_reducible repeat (first | apply Kd.R_alloc | apply Kd.R_drewN | apply Kd.R_drew)); exact HO861.out) hb); have n1_ := Aside0.mk (Kd.R_lower ho7 (below_size (by repeat (first | (with_reducible first | exact HB.out | apply below_alloc | apply pw_below_drewN | apply below_drew1 | refine below_set ?_ GE858.out) | exact HB.out)))); have n2_ := Aside0.mk (blk_below (g := gb858) (o := .cells #[.int .i64 a0_0, .int .i64 a0_1, .slice A0_2 l0_2.length c0_2] 83 (0, 0)) (by (with_reducible repeat (first | refine blk_drewN ?_ _ | refine blk_drew ?_ | refine blk_alloc ?_ _)); exact BK858.out) hb); have n3_ := Aside0.mk (below_step (by repeat (first | (with_reducible first | exact HB.out | apply below_alloc | apply pw_below_drewN | apply below_drew1 | refine below_set ?_ GE858.out) | exact HB.out)) hb); clear HO861; clear BK858; clear HB; have HO861 := n0_; have HO864 := n1_; have BK858 := n2_; have HB := n3_; clear n0_ n1_ n2_ n3_; clear hb ho7))
 go_loopg [4, 5] k (fun kq v4 v5 w' => ∃ (x4_1 : List ByteArray) (x5_1 : Int), v5 = .int .i64 x5_1 ∧ Aside0 (spec_l04Bytes.l0 kq y859 x4_1 x5_1 a0_0 a0_1 l0_2 = some r) ∧ Aside0 (kq ≤ k) ∧ Aside0 (Kd.R (Kd.int .u8) 5 w' w.heap.size (fun _ => True) v860 y859) ∧ Aside0 (Kd.R Kd.string 9 w' w.heap.size (fun _ => True) v4 x4_1) ∧ Aside0 (w'.heap[gb858]? = some (.cells #[.int .i64 a0_0, .int .i64 a0_1, (.slice A0_2 l0_2.length c0_2)] 83 (0, 0))) ∧ Aside0 (Below w.heap.size w w'))
 case atStart => exact ⟨(y862), (0), (by first | rfl | (simp; done) | (simp [*]; done)), H', ⟨Nat.le_refl _⟩, ⟨by (with_reducible repeat (first | apply Kd.R_alloc | apply Kd.R_drewN | apply Kd.R_drew)); exact HO861.out⟩, ⟨by (with_reducible repeat (first | apply Kd.R_alloc | apply Kd.R_drewN | apply Kd.R_drew)); exact HO864.out⟩, ⟨by (with_reducible repeat (first | refine blk_drewN ?_ _ | refine blk_drew ?_ | refine blk_alloc ?_ _)); exact BK858.out⟩, ⟨by repeat (first | (with_reducible first | exact HB.out | apply below_alloc | apply pw_below_drewN | apply below_drew1 | refine below_set ?_ GE858.out) | exact HB.out)⟩⟩
 case round =>
  clear H'
  try clear c1
  try clear p2
  try clear p6
  try clear hcz3_0
  try clear hcz3_1
  try clear hcz3_2
  try clear hfz3_0
  try clear hfz3_1
  try clear hfz3_2
  obtain ⟨x4_1, x5_1, rfl, HA, HK1, HO_3, HO_4, BK858, HB⟩ := hrel
  cases gk with
  | zero => exact absurd HA.out (by simp [spec_l04Bytes.l0])
  | succ k1 =>
   have H := HA.out
   clear HA
   simp only [spec_l04Bytes.l0] at H
   by_cases c8 : x5_1 < (l0_2.length : Int)
   ·rw [if_pos c8] at H
    have c8b0 : decide (x5_1 < (l0_2.length : Int)) = true := decide_eq_true c8
    clear c8
    by_cases c9 : 0 ≤ x5_1
    ·rw [if_pos c9] at H
     have c9b0 : decide (0 ≤ x5_1) = true := decide_eq_true c9
     clear c9
     obtain ⟨y867, hy867⟩ : ∃ y_ : List Int, y_ = (([(wrap64 (((rd_T192 l0_2 x5_1).f1) + 1)) % 256] : List Int)) := ⟨_, rfl⟩
     replace H : ((spec_l01Number.f k1 ((rd_T192 l0_2 x5_1).f2) 2).bind fun t870 => (if y867.length + t870.length < 140737488355328 then ((some (y867 ++ t870 : List Int)).bind fun y873 => (if (strOfNums y873).size + ((rd_T192 l0_2 x5_1).f0).size ≤ 9223372036854775807 then (if x4_1.length < 8796093022208 then (spec_l04Bytes.l0 k1 y859 (x4_1 ++ [(strOfNums y873) ++ ((rd_T192 l0_2 x5_1).f0)]) (wrap64 (x5_1 + 1)) a0_0 a0_1 l0_2) else (none)) else (none))) else (none))) = some r := by first | (rw [hy867]; with_reducible exact H) | (have H2_ := (Option.bind_some _ _).symm.trans H; rw [hy867]; with_reducible exact H2_) | (have H2_ := (Option.bind_some _ _).symm.trans H; with_reducible exact H2_) | with_reducible exact H | (rw [hy867]; exact H) | exact H
     have Ny867 := Aside0.mk hy867
     clear hy867
     replace H := Option.bind_eq_some_iff.mp H
     obtain ⟨t870, A100, H⟩ := H
     replace H : (if y867.length + t870.length < 140737488355328 then ((some (y867 ++ t870 : List Int)).bind fun y873 => (if (strOfNums y873).size + ((rd_T192 l0_2 x5_1).f0).size ≤ 9223372036854775807 then (if x4_1.length < 8796093022208 then (spec_l04Bytes.l0 k1 y859 (x4_1 ++ [(strOfNums y873) ++ ((rd_T192 l0_2 x5_1).f0)]) (wrap64 (x5_1 + 1)) a0_0 a0_1 l0_2) else (none)) else (none))) else (none)) = some r := H
     have A10 := Aside0.mk A100
     clear A100
     by_cases c11 : y867.length + t870.length < 140737488355328
     ·rw [if_pos c11] at H
      have LMc11 := Aside0.mk c11
      clear c11
      obtain ⟨y873, hy873⟩ : ∃ y_ : List Int, y_ = (y867 ++ t870) := ⟨_, rfl⟩
      replace H : (if (strOfNums y873).size + ((rd_T192 l0_2 x5_1).f0).size ≤ 9223372036854775807 then (if x4_1.length < 8796093022208 then (spec_l04Bytes.l0 k1 y859 (x4_1 ++ [(strOfNums y873) ++ ((rd_T192 l0_2 x5_1).f0)]) (wrap64 (x5_1 + 1)) a0_0 a0_1 l0_2) else (none)) else (none)) = some r := by first | (rw [hy873]; with_reducible exact H) | (have H2_ := (Option.bind_some _ _).symm.trans H; rw [hy873]; with_reducible exact H2_) | (have H2_ := (Option.bind_some _ _).symm.trans H; with_reducible exact H2_) | with_reducible exact H | (rw [hy873]; exact H) | exact H
      have Ny873 := Aside0.mk hy873
      clear hy873
      by_cases c12 : (strOfNums y873).size + ((rd_T192 l0_2 x5_1).f0).size ≤ 9223372036854775807
      ·rw [if_pos c12] at H
       have c12b0 := eq_true c12
       have c12b1 : decide ((strOfNums y873).size + ((rd_T192 l0_2 x5_1).f0).size ≤ 9223372036854775807) = true := decide_eq_true c12
       try have c12b2 : (9223372036854775807 < (strOfNums y873).size + ((rd_T192 l0_2 x5_1).f0).size) = False := eq_false (Nat.not_lt.2 c12)
       by_cases c13 : x4_1.length < 8796093022208
       ·rw [if_pos c13] at H
        have LMc13 := Aside0.mk c13
        clear c13
        obtain ⟨y876, hy876⟩ : ∃ y_ : List ByteArray, y_ = (x4_1 ++ [(strOfNums y873) ++ ((rd_T192 l0_2 x5_1).f0)]) := ⟨_, rfl⟩
        replace H : (spec_l04Bytes.l0 k1 y859 y876 (wrap64 (x5_1 + 1)) a0_0 a0_1 l0_2) = some r := by first | (rw [hy876]; with_reducible exact H) | (have H2_ := (Option.bind_some _ _).symm.trans H; rw [hy876]; with_reducible exact H2_) | (have H2_ := (Option.bind_some _ _).symm.trans H; with_reducible exact H2_) | with_reducible exact H | (rw [hy876]; exact H) | exact H
        have Ny876 := Aside0.mk hy876
        clear hy876
        have H' := Aside0.mk H
        clear H
        have hcz14_0 : wr.cell? ⟨gb858, 0, none⟩ = some (.int .i64 a0_0) := (blk_cell BK858.out 0).trans rfl
        have hcz14_1 : wr.cell? ⟨gb858, 1, none⟩ = some (.int .i64 a0_1) := (blk_cell BK858.out 1).trans rfl
        have hcz14_2 : wr.cell? ⟨gb858, 2, none⟩ = some (.slice A0_2 l0_2.length c0_2) := (blk_cell BK858.out 2).trans rfl
        have hfz14_0 := blk_frozen BK858.out 0
        have hfz14_1 := blk_frozen BK858.out 1
        have hfz14_2 := blk_frozen BK858.out 2
        have p865 : 0 ≤ (x5_1 : Int) := of_decide_eq_true (by first | (with_reducible assumption) | assumption)
        have q865 : x5_1 < (l0_2.length : Int) := of_decide_eq_true (by first | (with_reducible assumption) | assumption)
        obtain ⟨ad865, e865, hx865_0, hx865_1, hx865_2⟩ := at_T192 HR0_2.out x5_1 p865 q865
        cases e865
        replace hx865_0 := (HB.out.cell (World.block_lt_of_cell? w _ hx865_0)).trans hx865_0
        replace hx865_1 := (HB.out.cell (World.block_lt_of_cell? w _ hx865_1)).trans hx865_1
        replace hx865_2 := (HB.out.cell (World.block_lt_of_cell? w _ hx865_2)).trans hx865_2
        replace p865 := eq_true p865
        replace q865 := eq_true q865
        try go_wp2_with (first | ((with_reducible refine gate_dst (N := 6) rfl ?_); refine box_event ?hg (N := 6) ?hd (cs := #[.string (⟨#[]⟩ : ByteArray), .int .i64 0, .int .i64 0]) (t := 192) ?hr ?_; (case hd => rfl); (case hg => rfl); (case hr => first | (go_simp; done) | (go_simp; rfl)); intro gb866 hg w15 hbox hb; have n0_ := Aside0.mk (Kd.R_below (by (with_reducible repeat (first | apply Kd.R_alloc | apply Kd.R_drewN | apply Kd.R_drew)); exact HO_3.out) hb); have n1_ := Aside0.mk (Kd.R_below (by (with_reducible repeat (first | apply Kd.R_alloc | apply Kd.R_drewN | apply Kd.R_drew)); exact HO_4.out) hb); have n2_ := Aside0.mk (blk_below (g := gb858) (o := .cells #[.int .i64 a0_0, .int .i64 a0_1, .slice (some ad865) l0_2.length c0_2] 83 (0, 0)) (by (with_reducible repeat (first | refine blk_drewN ?_ _ | refine blk_drew ?_ | refine blk_alloc ?_ _)); exact BK858.out) hb); have n3_ := Aside0.mk (below_step (by repeat (first | (with_reducible first | exact HB.out | apply below_alloc | apply pw_below_drewN | apply below_drew1 | refine below_set ?_ GE858.out) | exact HB.out)) hb); have n4_ := Aside0.mk (hbox); have n5_ := Aside0.mk ((by rw [hg]; exact (below_size (by repeat (first | (with_reducible first | exact HB.out | apply below_alloc | apply pw_below_drewN | apply below_drew1 | refine below_set ?_ GE858.out) | exact HB.out))) : w.heap.size ≤ gb866)); have n6_ := Aside0.mk ((by rw [hg]; exact (below_size (by repeat (first | (with_reducible first | exact HB.out | apply below_alloc | apply pw_below_drewN | apply below_drew1 | refine below_set ?_ GE858.out) | exact HB.out))) : w.heap.size ≤ gb866)); have n7_ := Aside0.mk ((by rw [hg]; exact Nat.ne_of_lt (blk_lt (g := gb858) (o := .cells #[.int .i64 a0_0, .int .i64 a0_1, .slice (some ad865) l0_2.length c0_2] 83 (0, 0)) (by (with_reducible repeat (first | refine blk_drewN ?_ _ | refine blk_drew ?_ | refine blk_alloc ?_ _)); exact BK858.out)) : gb858 ≠ gb866)); have n8_ := Aside0.mk ((by rw [hg]; exact Nat.ne_of_gt (blk_lt (g := gb858) (o := .cells #[.int .i64 a0_0, .int .i64 a0_1, .slice (some ad865) l0_2.length c0_2] 83 (0, 0)) (by (with_reducible repeat (first | refine blk_drewN ?_ _ | refine blk_drew ?_ | refine blk_alloc ?_ _)); exact BK858.out)) : gb866 ≠ gb858)); clear HO_3; clear HO_4; clear BK858; clear HB; have HO_3 := n0_; have HO_4 := n1_; have BK858 := n2_; have HB := n3_; have BK866 := n4_; have GW866 := n5_; have GE866 := n6_; have NB858_866 := n7_; have NB866_858 := n8_; clear n0_ n1_ n2_ n3_ n4_ n5_ n6_ n7_ n8_; clear hb hbox hg; have hnb16 := NB866_858.out; have hnc16 := NB858_866.out; have hcz17_0 : w15.cell? ⟨gb866, 0, none⟩ = some (.string (⟨#[]⟩ : ByteArray)) := (blk_cell BK866.out 0).trans rfl; have hcz17_1 : w15.cell? ⟨gb866, 1, none⟩ = some (.int .i64 0) := (blk_cell BK866.out 1).trans rfl; have hcz17_2 : w15.cell? ⟨gb866, 2, none⟩ = some (.int .i64 0) := (blk_cell BK866.out 2).trans rfl; have hfz17_0 := blk_frozen BK866.out 0; have hfz17_1 := blk_frozen BK866.out 1; have hfz17_2 := blk_frozen BK866.out 2; obtain ⟨Ao18, co18, eo18⟩ := Kd.R_slice HO_4.out; subst eo18))
        have n0_ : Aside0 (Kd.R (Kd.int .u8) 5 (((w15.setCell ⟨gb866, 0, none⟩ (.string ((rd_T192 l0_2 x5_1).f0))).setCell ⟨gb866, 1, none⟩ (.int .i64 ((rd_T192 l0_2 x5_1).f1))).setCell ⟨gb866, 2, none⟩ (.int .i64 ((rd_T192 l0_2 x5_1).f2))) w.heap.size (fun _ => True) v860 y859) := ⟨by (with_reducible repeat (first | apply Kd.R_alloc | apply Kd.R_drewN | apply Kd.R_drew)); exact Kd.R_mono (Kd.R_far (p := ⟨gb866, 2, none⟩) (Kd.R_far (p := ⟨gb866, 1, none⟩) (Kd.R_far (p := ⟨gb866, 0, none⟩) (Kd.R_types HO_3.out BK866.out (by decide)) (fun _ hk => hk.2) (.string ((rd_T192 l0_2 x5_1).f0))) (fun _ hk => hk.2) (.int .i64 ((rd_T192 l0_2 x5_1).f1))) (fun _ hk => hk.2) (.int .i64 ((rd_T192 l0_2 x5_1).f2))) (fun _ hk => trivial)⟩
        have n1_ : Aside0 (Kd.R Kd.string 9 (((w15.setCell ⟨gb866, 0, none⟩ (.string ((rd_T192 l0_2 x5_1).f0))).setCell ⟨gb866, 1, none⟩ (.int .i64 ((rd_T192 l0_2 x5_1).f1))).setCell ⟨gb866, 2, none⟩ (.int .i64 ((rd_T192 l0_2 x5_1).f2))) w.heap.size (fun _ => True) (.slice Ao18 x4_1.length co18) x4_1) := ⟨by (with_reducible repeat (first | apply Kd.R_alloc | apply Kd.R_drewN | apply Kd.R_drew)); exact Kd.R_mono (Kd.R_far (p := ⟨gb866, 2, none⟩) (Kd.R_far (p := ⟨gb866, 1, none⟩) (Kd.R_far (p := ⟨gb866, 0, none⟩) (Kd.R_types HO_4.out BK866.out (by decide)) (fun _ hk => hk.2) (.string ((rd_T192 l0_2 x5_1).f0))) (fun _ hk => hk.2) (.int .i64 ((rd_T192 l0_2 x5_1).f1))) (fun _ hk => hk.2) (.int .i64 ((rd_T192 l0_2 x5_1).f2))) (fun _ hk => trivial)⟩
        have n2_ : Aside0 ((((w15.setCell ⟨gb866, 0, none⟩ (.string ((rd_T192 l0_2 x5_1).f0))).setCell ⟨gb866, 1, none⟩ (.int .i64 ((rd_T192 l0_2 x5_1).f1))).setCell ⟨gb866, 2, none⟩ (.int .i64 ((rd_T192 l0_2 x5_1).f2))).heap[gb858]? = some (.cells #[.int .i64 a0_0, .int .i64 a0_1, .slice (some ad865) l0_2.length c0_2] 83 (0, 0))) := ⟨by (with_reducible repeat (first | refine blk_drewN ?_ _ | refine blk_drew ?_ | refine blk_alloc ?_ _)); refine blk_far ?_ NB858_866.out _; (with_reducible repeat (first | refine blk_drewN ?_ _ | refine blk_drew ?_ | refine blk_alloc ?_ _)); refine blk_far ?_ NB858_866.out _; (with_reducible repeat (first | refine blk_drewN ?_ _ | refine blk_drew ?_ | refine blk_alloc ?_ _)); refine blk_far ?_ NB858_866.out _; (with_reducible repeat (first | refine blk_drewN ?_ _ | refine blk_drew ?_ | refine blk_alloc ?_ _)); exact BK858.out⟩
        have n3_ : Aside0 ((((w15.setCell ⟨gb866, 0, none⟩ (.string ((rd_T192 l0_2 x5_1).f0))).setCell ⟨gb866, 1, none⟩ (.int .i64 ((rd_T192 l0_2 x5_1).f1))).setCell ⟨gb866, 2, none⟩ (.int .i64 ((rd_T192 l0_2 x5_1).f2))).heap[gb866]? = some (.cells #[.string ((rd_T192 l0_2 x5_1).f0), .int .i64 ((rd_T192 l0_2 x5_1).f1), .int .i64 ((rd_T192 l0_2 x5_1).f2)] 192 (0, 0))) := ⟨by (with_reducible repeat (first | refine blk_drewN ?_ _ | refine blk_drew ?_ | refine blk_alloc ?_ _)); refine blk_put (cs := #[.string ((rd_T192 l0_2 x5_1).f0), .int .i64 ((rd_T192 l0_2 x5_1).f1), .int .i64 0]) ?_ 2 _ rfl; (with_reducible repeat (first | refine blk_drewN ?_ _ | refine blk_drew ?_ | refine blk_alloc ?_ _)); refine blk_put (cs := #[.string ((rd_T192 l0_2 x5_1).f0), .int .i64 0, .int .i64 0]) ?_ 1 _ rfl; (with_reducible repeat (first | refine blk_drewN ?_ _ | refine blk_drew ?_ | refine blk_alloc ?_ _)); refine blk_put (cs := #[.string (⟨#[]⟩ : ByteArray), .int .i64 0, .int .i64 0]) ?_ 0 _ rfl; (with_reducible repeat (first | refine blk_drewN ?_ _ | refine blk_drew ?_ | refine blk_alloc ?_ _)); exact BK866.out⟩
        have n4_ : Aside0 (Below w.heap.size w (((w15.setCell ⟨gb866, 0, none⟩ (.string ((rd_T192 l0_2 x5_1).f0))).setCell ⟨gb866, 1, none⟩ (.int .i64 ((rd_T192 l0_2 x5_1).f1))).setCell ⟨gb866, 2, none⟩ (.int .i64 ((rd_T192 l0_2 x5_1).f2)))) := ⟨by repeat (first | (with_reducible first | exact HB.out | apply below_alloc | apply pw_below_drewN | apply below_drew1 | refine below_set ?_ GE858.out | refine below_set ?_ GE866.out) | exact HB.out)⟩
        (try clear HO_3)
        (try clear HO_4)
        (try clear BK858)
        (try clear BK866)
        (try clear HB)
        generalize (((w15.setCell ⟨gb866, 0, none⟩ (.string ((rd_T192 l0_2 x5_1).f0))).setCell ⟨gb866, 1, none⟩ (.int .i64 ((rd_T192 l0_2 x5_1).f1))).setCell ⟨gb866, 2, none⟩ (.int .i64 ((rd_T192 l0_2 x5_1).f2))) = w19 at n0_ n1_ n2_ n3_ n4_ ⊢
        have HO_3 := n0_
        have HO_4 := n1_
        have BK858 := n2_
        have BK866 := n3_
        have HB := n4_
        clear n0_ n1_ n2_ n3_ n4_
        have n0_ := Aside0.mk (Kd.R_drew HO_3.out)
        have n1_ := Aside0.mk (Kd.R_drew HO_4.out)
        have n2_ := Aside0.mk (blk_drew BK858.out)
        have n3_ := Aside0.mk (blk_drew BK866.out)
        have n4_ := Aside0.mk (below_drew1 HB.out)
        clear HO_3
        clear HO_4
        clear BK858
        clear BK866
        clear HB
        have HO_3 := n0_
        have HO_4 := n1_
        have BK858 := n2_
        have BK866 := n3_
        have HB := n4_
        clear n0_ n1_ n2_ n3_ n4_
        refine start_ (n := 17) (S := fun w' => w'.cell? ⟨gb866, 0, none⟩ = some (.string ((rd_T192 l0_2 x5_1).f0)) ∧ w'.cell? ⟨gb866, 1, none⟩ = some (.int .i64 ((rd_T192 l0_2 x5_1).f1)) ∧ w'.cell? ⟨gb866, 2, none⟩ = some (.int .i64 ((rd_T192 l0_2 x5_1).f2))) (ds := []) #[false, false, false, false, false, false, false, false, false, false, false, false, false, false, false, false, false] (by kernel_rfl) rfl rfl ⟨(blk_cell BK866.out 0).trans rfl, (blk_cell BK866.out 1).trans rfl, (blk_cell BK866.out 2).trans rfl⟩ (fun hHeld => ?_); refine with_tabW spec_l04Bytes.tab7 spec_l04Bytes.bits7 (fun HT_ HW_ => ?_)
        generalize w19.drew = w20 at HO_3 HO_4 BK858 BK866 HB hHeld ⊢
        refine pure_ (i := 0) (N := some 28) (v := ?_) (a' := ?_) #[true, false, false, false, false, false, false, false, false, false, false, false, false, false, false, false, false] rfl rfl (any_of HT_.out (by kernel_rfl)) (fun _ _ _ h => h) (Or.inl ⟨by rfl, ?_⟩) ?_ ?_
        rotate_left
        ·intro w'
         go_simp
         with_reducible rfl
        rotate_left
        ·simp only [Act.put, List.setIfInBounds_toArray, List.set_cons_zero, List.set_cons_succ, i64_w, i32_w]
         rfl
        refine pure_ (i := 1) (N := some 29) (v := ?_) (a' := ?_) #[true, true, false, false, false, false, false, false, false, false, false, false, false, false, false, false, false] rfl rfl (any_of HT_.out (by kernel_rfl)) (fun _ _ _ h => h) (Or.inl ⟨by rfl, ?_⟩) ?_ ?_
        rotate_left
        ·intro w'
         go_simp
         with_reducible rfl
        rotate_left
        ·simp only [Act.put, List.setIfInBounds_toArray, List.set_cons_zero, List.set_cons_succ, i64_w, i32_w]
         rfl
        refine pure_ (i := 6) (N := some 34) (v := ?_) (a' := ?_) #[true, true, false, false, false, false, true, false, false, false, false, false, false, false, false, false, false] rfl rfl (any_of HT_.out (by kernel_rfl)) (fun _ _ _ h => h) (Or.inl ⟨by rfl, ?_⟩) ?_ ?_
        rotate_left
        ·intro w'
         go_simp
         with_reducible rfl
        rotate_left
        ·simp only [Act.put, List.setIfInBounds_toArray, List.set_cons_zero, List.set_cons_succ, i64_w, i32_w]
         rfl
        refine pure_ (i := 11) (N := some 39) (v := ?_) (a' := ?_) #[true, true, false, false, false, false, true, false, false, false, false, true, false, false, false, false, false] rfl rfl (any_of HT_.out (by kernel_rfl)) (fun _ _ _ h => h) (Or.inl ⟨by rfl, ?_⟩) ?_ ?_
        rotate_left
        ·intro w'
         go_simp
         with_reducible rfl
        rotate_left
        ·simp only [Act.put, List.setIfInBounds_toArray, List.set_cons_zero, List.set_cons_succ, i64_w, i32_w]
         rfl
        refine take_ (i := 2) (N := some 30) (v := ?_) (a' := ?_) #[true, true, true, false, false, false, true, false, false, false, false, true, false, false, false, false, false] rfl rfl (take_ofW HT_.out HW_.out (by kernel_rfl)) (fun _ _ _ h => h) (Or.inl ⟨by rfl, ?_⟩) hHeld ?_ ?_
        rotate_left
        ·rintro w' ⟨s0, s1, s2⟩
         go_simp
         with_reducible rfl
        rotate_left
        ·simp only [Act.put, List.setIfInBounds_toArray, List.set_cons_zero, List.set_cons_succ, i64_w, i32_w]
         rfl
        refine pure_ (i := 3) (N := some 31) (v := ?_) (a' := ?_) #[true, true, true, true, false, false, true, false, false, false, false, true, false, false, false, false, false] rfl rfl (any_of HT_.out (by kernel_rfl)) (fun _ _ _ h => h) (Or.inl ⟨by rfl, ?_⟩) ?_ ?_
        rotate_left
        ·intro w'
         go_simp
         with_reducible rfl
        rotate_left
        ·simp only [Act.put, List.setIfInBounds_toArray, List.set_cons_zero, List.set_cons_succ, i64_w, i32_w]
         rfl
        refine pure_ (i := 4) (N := some 32) (v := ?_) (a' := ?_) #[true, true, true, true, true, false, true, false, false, false, false, true, false, false, false, false, false] rfl rfl (any_of HT_.out (by kernel_rfl)) (fun _ _ _ h => h) (Or.inl ⟨by rfl, ?_⟩) ?_ ?_
        rotate_left
        ·intro w'
         go_simp
         with_reducible rfl
        rotate_left
        ·simp only [Act.put, List.setIfInBounds_toArray, List.set_cons_zero, List.set_cons_succ, i64_w, i32_w]
         rfl
        refine take_ (i := 7) (N := some 35) (v := ?_) (a' := ?_) #[true, true, true, true, true, false, true, true, false, false, false, true, false, false, false, false, false] rfl rfl (take_ofW HT_.out HW_.out (by kernel_rfl)) (fun _ _ _ h => h) (Or.inl ⟨by rfl, ?_⟩) hHeld ?_ ?_
        rotate_left
        ·rintro w' ⟨s0, s1, s2⟩
         go_simp
         with_reducible rfl
        rotate_left
        ·simp only [Act.put, List.setIfInBounds_toArray, List.set_cons_zero, List.set_cons_succ, i64_w, i32_w]
         rfl
        refine take_ (i := 12) (N := some 40) (v := ?_) (a' := ?_) #[true, true, true, true, true, false, true, true, false, false, false, true, true, false, false, false, false] rfl rfl (take_ofW HT_.out HW_.out (by kernel_rfl)) (fun _ _ _ h => h) (Or.inl ⟨by rfl, ?_⟩) hHeld ?_ ?_
        rotate_left
        ·rintro w' ⟨s0, s1, s2⟩
         go_simp
         with_reducible rfl
        rotate_left
        ·simp only [Act.put, List.setIfInBounds_toArray, List.set_cons_zero, List.set_cons_succ, i64_w, i32_w]
         rfl
        refine join_ (σ := Value × Value) 6 #[true, true, true, true, true, true, true, true, true, false, false, true, true, false, false, false, false] (fun s_ => [(33, s_.1), (36, s_.2)]) (fun s_ w' => (w'.cell? ⟨gb866, 0, none⟩ = some (.string ((rd_T192 l0_2 x5_1).f0)) ∧ w'.cell? ⟨gb866, 1, none⟩ = some (.int .i64 ((rd_T192 l0_2 x5_1).f1)) ∧ w'.cell? ⟨gb866, 2, none⟩ = some (.int .i64 ((rd_T192 l0_2 x5_1).f2))) ∧ (Kd.R (Kd.int .u8) 5 w' w.heap.size (fun k_ => some k_ ≠ (s_.2 : Value).ownBlock ∧ some k_ ≠ (v860 : Value).ownBlock) s_.1 y867) ∧ (Kd.R (Kd.int .u8) 5 w' w.heap.size (fun k_ => some k_ ≠ (s_.1 : Value).ownBlock ∧ some k_ ≠ (v860 : Value).ownBlock) s_.2 t870) ∧ (Kd.R (Kd.int .u8) 5 w' w.heap.size (fun k_ => some k_ ≠ (s_.1 : Value).ownBlock ∧ some k_ ≠ (s_.2 : Value).ownBlock) v860 y859) ∧ (Kd.R Kd.string 9 w' w.heap.size (fun _ => True) (.slice Ao18 x4_1.length co18) x4_1) ∧ (w'.heap[gb858]? = some (.cells #[.int .i64 a0_0, .int .i64 a0_1, .slice (some ad865) l0_2.length c0_2] 83 (0, 0))) ∧ (w'.heap[gb866]? = some (.cells #[.string ((rd_T192 l0_2 x5_1).f0), .int .i64 ((rd_T192 l0_2 x5_1).f1), .int .i64 ((rd_T192 l0_2 x5_1).f2)] 192 (0, 0))) ∧ (Below w.heap.size w w')) ?_ ?_
        rotate_left
        ·intro hCont
         refine two_ (i := 5) (j := 8) (Ni := some 33) (Nj := some 36) #[true, true, true, true, true, true, true, true, false, false, false, true, true, false, false, false, false] #[true, true, true, true, true, false, true, true, true, false, false, true, true, false, false, false, false] rfl rfl rfl rfl (two_of HT_.out (by kernel_rfl)) (by decide) (by decide) (fun K hK => ?_) (fun K hK => ?_)
         ·skip
          refine Kd.R_lit_step (Kd.int .u8) _ 5 ?hg (N := 33) ?hd (xs := ([(wrap64 (((rd_T192 l0_2 x5_1).f1) + 1)) % 256] : List Int)) (inner := [.int .u8 ((wrap64 (((rd_T192 l0_2 x5_1).f1) + 1)) % 256)]) (ok := fun _ => True) (okp := fun _ => True) ?hr ?hp (fun _ hk => hk) trivial (Below.refl _ _) (Nat.le_refl _) (by simp) ?_; (case hd => rfl); (case hg => rfl); (case hr => first | (go_simp; done) | (go_simp; rfl)); (case hp => exact (Reps.one (show Kd.M (Kd.int .u8) _ _ _ ((wrap64 (((rd_T192 l0_2 x5_1).f1) + 1)) % 256) [.int .u8 ((wrap64 (((rd_T192 l0_2 x5_1).f1) + 1)) % 256)] from rfl) (Reps.none _ _)))
          intro v868 w21 ho22 hb hg_ hnew_
          clear hg_ hnew_
          (first | rw [← Ny867.out] at ho22 | (simp only [Int.reduceToNat] at ho22; rw [← Ny867.out] at ho22))
          have n0_ := Aside0.mk (Kd.R_elder' (by (with_reducible repeat (first | apply Kd.R_alloc | apply Kd.R_drewN | apply Kd.R_drew)); exact HO_3.out) (Kd.R_base ho22) hb)
          have n1_ := Aside0.mk (Kd.R_below (by (with_reducible repeat (first | apply Kd.R_alloc | apply Kd.R_drewN | apply Kd.R_drew)); exact HO_4.out) hb)
          have n2_ := Aside0.mk (Kd.R_lower (Kd.R_new' ho22 (Kd.R_lt (by (with_reducible repeat (first | apply Kd.R_alloc | apply Kd.R_drewN | apply Kd.R_drew)); exact HO_3.out))) (below_size (by repeat (first | (with_reducible first | exact HB.out | apply below_alloc | apply pw_below_drewN | apply below_drew1 | refine below_set ?_ GE858.out | refine below_set ?_ GE866.out) | exact HB.out))))
          have n3_ := Aside0.mk (blk_below (g := gb858) (o := .cells #[.int .i64 a0_0, .int .i64 a0_1, .slice (some ad865) l0_2.length c0_2] 83 (0, 0)) (by (with_reducible repeat (first | refine blk_drewN ?_ _ | refine blk_drew ?_ | refine blk_alloc ?_ _)); exact BK858.out) hb)
          have n4_ := Aside0.mk (blk_below (g := gb866) (o := .cells #[.string ((rd_T192 l0_2 x5_1).f0), .int .i64 ((rd_T192 l0_2 x5_1).f1), .int .i64 ((rd_T192 l0_2 x5_1).f2)] 192 (0, 0)) (by (with_reducible repeat (first | refine blk_drewN ?_ _ | refine blk_drew ?_ | refine blk_alloc ?_ _)); exact BK866.out) hb)
          have n5_ := Aside0.mk (below_step (by repeat (first | (with_reducible first | exact HB.out | apply below_alloc | apply pw_below_drewN | apply below_drew1 | refine below_set ?_ GE858.out | refine below_set ?_ GE866.out) | exact HB.out)) hb)
          clear HO_3
          clear HO_4
          clear BK858
          clear BK866
          clear HB
          have HO_3 := n0_
          have HO_4 := n1_
          have HO869 := n2_
          have BK858 := n3_
          have BK866 := n4_
          have HB := n5_
          clear n0_ n1_ n2_ n3_ n4_ n5_
          clear hb ho22
          refine hK.out _ _ ⟨(blk_cell BK866.out 0).trans rfl, (blk_cell BK866.out 1).trans rfl, (blk_cell BK866.out 2).trans rfl⟩ (fun hHeld => ?_)
          clear hK K
          refine norm_ (a' := ?_) ?_ ?_
          rotate_left
          ·show Act.put _ (some 33) _ = _
           simp only [Act.put, List.setIfInBounds_toArray, List.set_cons_zero, List.set_cons_succ, i64_w, i32_w]
           rfl
          refine one_ (i := 8) (N := some 36) #[true, true, true, true, true, true, true, true, true, false, false, true, true, false, false, false, false] rfl rfl (one_of HT_.out (by kernel_rfl)) (by decide) (fun K hK => ?_)
          refine goes_ Try.func156 (by kernel_rfl) rfl #[.int .i64 ((rd_T192 l0_2 x5_1).f2), .int .i64 2] (by rfl) rfl rfl (by (try simp only [List.map_toArray, List.map_cons, List.map_nil]); first | done | rfl | (simp only [List.length_drop, List.length_take]; rfl)) ?_
          with_reducible refine (spec_l01Number.calls k1 ((rd_T192 l0_2 x5_1).f2) 2 t870 _ A10.out).mono ?_
          rintro e w23 ⟨v871, rfl, ho0, hb⟩
          refine ⟨_, rfl, ?_⟩
          have n0_ := Aside0.mk (Kd.R_elder' (by (with_reducible repeat (first | apply Kd.R_alloc | apply Kd.R_drewN | apply Kd.R_drew)); exact HO_3.out) (Kd.R_base ho0) hb)
          have n1_ := Aside0.mk (Kd.R_below (by (with_reducible repeat (first | apply Kd.R_alloc | apply Kd.R_drewN | apply Kd.R_drew)); exact HO_4.out) hb)
          have n2_ := Aside0.mk (Kd.R_elder' (by (with_reducible repeat (first | apply Kd.R_alloc | apply Kd.R_drewN | apply Kd.R_drew)); exact HO869.out) (Kd.R_base ho0) hb)
          have n3_ := Aside0.mk (Kd.R_lower (Kd.R_new' (Kd.R_new' ho0 (Kd.R_lt (by (with_reducible repeat (first | apply Kd.R_alloc | apply Kd.R_drewN | apply Kd.R_drew)); exact HO_3.out))) (Kd.R_lt (by (with_reducible repeat (first | apply Kd.R_alloc | apply Kd.R_drewN | apply Kd.R_drew)); exact HO869.out))) (below_size (by repeat (first | (with_reducible first | exact HB.out | apply below_alloc | apply pw_below_drewN | apply below_drew1 | refine below_set ?_ GE858.out | refine below_set ?_ GE866.out) | exact HB.out))))
          have n4_ := Aside0.mk (blk_below (g := gb858) (o := .cells #[.int .i64 a0_0, .int .i64 a0_1, .slice (some ad865) l0_2.length c0_2] 83 (0, 0)) (by (with_reducible repeat (first | refine blk_drewN ?_ _ | refine blk_drew ?_ | refine blk_alloc ?_ _)); exact BK858.out) hb)
          have n5_ := Aside0.mk (blk_below (g := gb866) (o := .cells #[.string ((rd_T192 l0_2 x5_1).f0), .int .i64 ((rd_T192 l0_2 x5_1).f1), .int .i64 ((rd_T192 l0_2 x5_1).f2)] 192 (0, 0)) (by (with_reducible repeat (first | refine blk_drewN ?_ _ | refine blk_drew ?_ | refine blk_alloc ?_ _)); exact BK866.out) hb)
          have n6_ := Aside0.mk (below_step (by repeat (first | (with_reducible first | exact HB.out | apply below_alloc | apply pw_below_drewN | apply below_drew1 | refine below_set ?_ GE858.out | refine below_set ?_ GE866.out) | exact HB.out)) hb)
          clear HO_3
          clear HO_4
          clear HO869
          clear BK858
          clear BK866
          clear HB
          have HO_3 := n0_
          have HO_4 := n1_
          have HO869 := n2_
          have HO872 := n3_
          have BK858 := n4_
          have BK866 := n5_
          have HB := n6_
          clear n0_ n1_ n2_ n3_ n4_ n5_ n6_
          (try clear hb)
          (try clear hb2)
          (try clear hk)
          (try clear hi)
          (try clear ho0)
          refine hK.out _ _ ⟨(blk_cell BK866.out 0).trans rfl, (blk_cell BK866.out 1).trans rfl, (blk_cell BK866.out 2).trans rfl⟩ (fun hHeld => ?_)
          clear hK K
          refine norm_ (a' := ?_) ?_ ?_
          rotate_left
          ·show Act.put _ (some 36) _ = _
           simp only [Act.put, List.setIfInBounds_toArray, List.set_cons_zero, List.set_cons_succ, i64_w, i32_w]
           rfl
          exact norm_ (by simp only [putAll, Act.put, List.setIfInBounds_toArray, List.set_cons_zero, List.set_cons_succ]) (hCont (v868, v871) _ ⟨hHeld, (by (with_reducible repeat (first | apply Kd.R_alloc | apply Kd.R_drewN | apply Kd.R_drew)); exact Kd.R_mono HO869.out (fun _ hk => ⟨hk.2, hk.1.2⟩)), (by (with_reducible repeat (first | apply Kd.R_alloc | apply Kd.R_drewN | apply Kd.R_drew)); exact Kd.R_mono HO872.out (fun _ hk => ⟨hk.2, hk.1.2⟩)), (by (with_reducible repeat (first | apply Kd.R_alloc | apply Kd.R_drewN | apply Kd.R_drew)); exact Kd.R_mono HO_3.out (fun _ hk => ⟨hk.1.2, hk.2⟩)), (by (with_reducible repeat (first | apply Kd.R_alloc | apply Kd.R_drewN | apply Kd.R_drew)); exact HO_4.out), (by (with_reducible repeat (first | refine blk_drewN ?_ _ | refine blk_drew ?_ | refine blk_alloc ?_ _)); exact BK858.out), (by (with_reducible repeat (first | refine blk_drewN ?_ _ | refine blk_drew ?_ | refine blk_alloc ?_ _)); exact BK866.out), (by repeat (first | (with_reducible first | exact HB.out | apply below_alloc | apply pw_below_drewN | apply below_drew1 | refine below_set ?_ GE858.out | refine below_set ?_ GE866.out) | exact HB.out))⟩)
         ·skip
          refine goes_ Try.func156 (by kernel_rfl) rfl #[.int .i64 ((rd_T192 l0_2 x5_1).f2), .int .i64 2] (by rfl) rfl rfl (by (try simp only [List.map_toArray, List.map_cons, List.map_nil]); first | done | rfl | (simp only [List.length_drop, List.length_take]; rfl)) ?_
          with_reducible refine (spec_l01Number.calls k1 ((rd_T192 l0_2 x5_1).f2) 2 t870 _ A10.out).mono ?_
          rintro e w21 ⟨v871, rfl, ho0, hb⟩
          refine ⟨_, rfl, ?_⟩
          have n0_ := Aside0.mk (Kd.R_elder' (by (with_reducible repeat (first | apply Kd.R_alloc | apply Kd.R_drewN | apply Kd.R_drew)); exact HO_3.out) (Kd.R_base ho0) hb)
          have n1_ := Aside0.mk (Kd.R_below (by (with_reducible repeat (first | apply Kd.R_alloc | apply Kd.R_drewN | apply Kd.R_drew)); exact HO_4.out) hb)
          have n2_ := Aside0.mk (Kd.R_lower (Kd.R_new' ho0 (Kd.R_lt (by (with_reducible repeat (first | apply Kd.R_alloc | apply Kd.R_drewN | apply Kd.R_drew)); exact HO_3.out))) (below_size (by repeat (first | (with_reducible first | exact HB.out | apply below_alloc | apply pw_below_drewN | apply below_drew1 | refine below_set ?_ GE858.out | refine below_set ?_ GE866.out) | exact HB.out))))
          have n3_ := Aside0.mk (blk_below (g := gb858) (o := .cells #[.int .i64 a0_0, .int .i64 a0_1, .slice (some ad865) l0_2.length c0_2] 83 (0, 0)) (by (with_reducible repeat (first | refine blk_drewN ?_ _ | refine blk_drew ?_ | refine blk_alloc ?_ _)); exact BK858.out) hb)
          have n4_ := Aside0.mk (blk_below (g := gb866) (o := .cells #[.string ((rd_T192 l0_2 x5_1).f0), .int .i64 ((rd_T192 l0_2 x5_1).f1), .int .i64 ((rd_T192 l0_2 x5_1).f2)] 192 (0, 0)) (by (with_reducible repeat (first | refine blk_drewN ?_ _ | refine blk_drew ?_ | refine blk_alloc ?_ _)); exact BK866.out) hb)
          have n5_ := Aside0.mk (below_step (by repeat (first | (with_reducible first | exact HB.out | apply below_alloc | apply pw_below_drewN | apply below_drew1 | refine below_set ?_ GE858.out | refine below_set ?_ GE866.out) | exact HB.out)) hb)
          clear HO_3
          clear HO_4
          clear BK858
          clear BK866
          clear HB
          have HO_3 := n0_
          have HO_4 := n1_
          have HO872 := n2_
          have BK858 := n3_
          have BK866 := n4_
          have HB := n5_
          clear n0_ n1_ n2_ n3_ n4_ n5_
          (try clear hb)
          (try clear hb2)
          (try clear hk)
          (try clear hi)
          (try clear ho0)
          refine hK.out _ _ ⟨(blk_cell BK866.out 0).trans rfl, (blk_cell BK866.out 1).trans rfl, (blk_cell BK866.out 2).trans rfl⟩ (fun hHeld => ?_)
          clear hK K
          refine norm_ (a' := ?_) ?_ ?_
          rotate_left
          ·show Act.put _ (some 36) _ = _
           simp only [Act.put, List.setIfInBounds_toArray, List.set_cons_zero, List.set_cons_succ, i64_w, i32_w]
           rfl
          refine one_ (i := 5) (N := some 33) #[true, true, true, true, true, true, true, true, true, false, false, true, true, false, false, false, false] rfl rfl (one_of HT_.out (by kernel_rfl)) (by decide) (fun K hK => ?_)
          refine Kd.R_lit_step (Kd.int .u8) _ 5 ?hg (N := 33) ?hd (xs := ([(wrap64 (((rd_T192 l0_2 x5_1).f1) + 1)) % 256] : List Int)) (inner := [.int .u8 ((wrap64 (((rd_T192 l0_2 x5_1).f1) + 1)) % 256)]) (ok := fun _ => True) (okp := fun _ => True) ?hr ?hp (fun _ hk => hk) trivial (Below.refl _ _) (Nat.le_refl _) (by simp) ?_; (case hd => rfl); (case hg => rfl); (case hr => first | (go_simp; done) | (go_simp; rfl)); (case hp => exact (Reps.one (show Kd.M (Kd.int .u8) _ _ _ ((wrap64 (((rd_T192 l0_2 x5_1).f1) + 1)) % 256) [.int .u8 ((wrap64 (((rd_T192 l0_2 x5_1).f1) + 1)) % 256)] from rfl) (Reps.none _ _)))
          intro v868 w22 ho23 hb hg_ hnew_
          clear hg_ hnew_
          (first | rw [← Ny867.out] at ho23 | (simp only [Int.reduceToNat] at ho23; rw [← Ny867.out] at ho23))
          have n0_ := Aside0.mk (Kd.R_elder' (by (with_reducible repeat (first | apply Kd.R_alloc | apply Kd.R_drewN | apply Kd.R_drew)); exact HO_3.out) (Kd.R_base ho23) hb)
          have n1_ := Aside0.mk (Kd.R_below (by (with_reducible repeat (first | apply Kd.R_alloc | apply Kd.R_drewN | apply Kd.R_drew)); exact HO_4.out) hb)
          have n2_ := Aside0.mk (Kd.R_elder' (by (with_reducible repeat (first | apply Kd.R_alloc | apply Kd.R_drewN | apply Kd.R_drew)); exact HO872.out) (Kd.R_base ho23) hb)
          have n3_ := Aside0.mk (Kd.R_lower (Kd.R_new' (Kd.R_new' ho23 (Kd.R_lt (by (with_reducible repeat (first | apply Kd.R_alloc | apply Kd.R_drewN | apply Kd.R_drew)); exact HO_3.out))) (Kd.R_lt (by (with_reducible repeat (first | apply Kd.R_alloc | apply Kd.R_drewN | apply Kd.R_drew)); exact HO872.out))) (below_size (by repeat (first | (with_reducible first | exact HB.out | apply below_alloc | apply pw_below_drewN | apply below_drew1 | refine below_set ?_ GE858.out | refine below_set ?_ GE866.out) | exact HB.out))))
          have n4_ := Aside0.mk (blk_below (g := gb858) (o := .cells #[.int .i64 a0_0, .int .i64 a0_1, .slice (some ad865) l0_2.length c0_2] 83 (0, 0)) (by (with_reducible repeat (first | refine blk_drewN ?_ _ | refine blk_drew ?_ | refine blk_alloc ?_ _)); exact BK858.out) hb)
          have n5_ := Aside0.mk (blk_below (g := gb866) (o := .cells #[.string ((rd_T192 l0_2 x5_1).f0), .int .i64 ((rd_T192 l0_2 x5_1).f1), .int .i64 ((rd_T192 l0_2 x5_1).f2)] 192 (0, 0)) (by (with_reducible repeat (first | refine blk_drewN ?_ _ | refine blk_drew ?_ | refine blk_alloc ?_ _)); exact BK866.out) hb)
          have n6_ := Aside0.mk (below_step (by repeat (first | (with_reducible first | exact HB.out | apply below_alloc | apply pw_below_drewN | apply below_drew1 | refine below_set ?_ GE858.out | refine below_set ?_ GE866.out) | exact HB.out)) hb)
          clear HO_3
          clear HO_4
          clear HO872
          clear BK858
          clear BK866
          clear HB
          have HO_3 := n0_
          have HO_4 := n1_
          have HO872 := n2_
          have HO869 := n3_
          have BK858 := n4_
          have BK866 := n5_
          have HB := n6_
          clear n0_ n1_ n2_ n3_ n4_ n5_ n6_
          clear hb ho23
          refine hK.out _ _ ⟨(blk_cell BK866.out 0).trans rfl, (blk_cell BK866.out 1).trans rfl, (blk_cell BK866.out 2).trans rfl⟩ (fun hHeld => ?_)
          clear hK K
          refine norm_ (a' := ?_) ?_ ?_
          rotate_left
          ·show Act.put _ (some 33) _ = _
           simp only [Act.put, List.setIfInBounds_toArray, List.set_cons_zero, List.set_cons_succ, i64_w, i32_w]
           rfl
          exact norm_ (by simp only [putAll, Act.put, List.setIfInBounds_toArray, List.set_cons_zero, List.set_cons_succ]) (hCont (v868, v871) _ ⟨hHeld, (by (with_reducible repeat (first | apply Kd.R_alloc | apply Kd.R_drewN | apply Kd.R_drew)); exact Kd.R_mono HO869.out (fun _ hk => ⟨hk.2, hk.1.2⟩)), (by (with_reducible repeat (first | apply Kd.R_alloc | apply Kd.R_drewN | apply Kd.R_drew)); exact Kd.R_mono HO872.out (fun _ hk => ⟨hk.2, hk.1.2⟩)), (by (with_reducible repeat (first | apply Kd.R_alloc | apply Kd.R_drewN | apply Kd.R_drew)); exact Kd.R_mono HO_3.out (fun _ hk => ⟨hk.2, hk.1.2⟩)), (by (with_reducible repeat (first | apply Kd.R_alloc | apply Kd.R_drewN | apply Kd.R_drew)); exact HO_4.out), (by (with_reducible repeat (first | refine blk_drewN ?_ _ | refine blk_drew ?_ | refine blk_alloc ?_ _)); exact BK858.out), (by (with_reducible repeat (first | refine blk_drewN ?_ _ | refine blk_drew ?_ | refine blk_alloc ?_ _)); exact BK866.out), (by repeat (first | (with_reducible first | exact HB.out | apply below_alloc | apply pw_below_drewN | apply below_drew1 | refine below_set ?_ GE858.out | refine below_set ?_ GE866.out) | exact HB.out))⟩)
        rintro ⟨v868, v871⟩ w24 ⟨hS_, h0_, h1_, h2_, h3_, h4_, h5_, h6_⟩
        have n0_ : Aside0 (Kd.R (Kd.int .u8) 5 w24 w.heap.size (fun k_ => some k_ ≠ (v871 : Value).ownBlock ∧ some k_ ≠ (v860 : Value).ownBlock) v868 y867) := ⟨h0_⟩
        have n1_ : Aside0 (Kd.R (Kd.int .u8) 5 w24 w.heap.size (fun k_ => some k_ ≠ (v868 : Value).ownBlock ∧ some k_ ≠ (v860 : Value).ownBlock) v871 t870) := ⟨h1_⟩
        have n2_ : Aside0 (Kd.R (Kd.int .u8) 5 w24 w.heap.size (fun k_ => some k_ ≠ (v868 : Value).ownBlock ∧ some k_ ≠ (v871 : Value).ownBlock) v860 y859) := ⟨h2_⟩
        have n3_ : Aside0 (Kd.R Kd.string 9 w24 w.heap.size (fun _ => True) (.slice Ao18 x4_1.length co18) x4_1) := ⟨h3_⟩
        have n4_ : Aside0 (w24.heap[gb858]? = some (.cells #[.int .i64 a0_0, .int .i64 a0_1, .slice (some ad865) l0_2.length c0_2] 83 (0, 0))) := ⟨h4_⟩
        have n5_ : Aside0 (w24.heap[gb866]? = some (.cells #[.string ((rd_T192 l0_2 x5_1).f0), .int .i64 ((rd_T192 l0_2 x5_1).f1), .int .i64 ((rd_T192 l0_2 x5_1).f2)] 192 (0, 0))) := ⟨h5_⟩
        have n6_ : Aside0 (Below w.heap.size w w24) := ⟨h6_⟩
        clear HO_3
        clear HO_4
        clear BK858
        clear BK866
        clear HB
        clear h0_ h1_ h2_ h3_ h4_ h5_ h6_
        have HO869 := n0_
        have HO872 := n1_
        have HO_3 := n2_
        have HO_4 := n3_
        have BK858 := n4_
        have BK866 := n5_
        have HB := n6_
        clear n0_ n1_ n2_ n3_ n4_ n5_ n6_
        have hHeld : w24.cell? ⟨gb866, 0, none⟩ = some (.string ((rd_T192 l0_2 x5_1).f0)) ∧ w24.cell? ⟨gb866, 1, none⟩ = some (.int .i64 ((rd_T192 l0_2 x5_1).f1)) ∧ w24.cell? ⟨gb866, 2, none⟩ = some (.int .i64 ((rd_T192 l0_2 x5_1).f2)) := hS_
        obtain ⟨Ao26, co26, eo26⟩ := Kd.R_slice HO872.out
        (first | subst eo26 | (injection eo26 with f1_ f2_ f3_; have f4_ := f1_.symm; have f5_ := f3_.symm; clear f1_ f2_ f3_; subst f4_; subst f5_))
        refine norm_ (a' := ?_) ?_ ?_
        rotate_left
        ·simp only [putAll, Act.put, List.setIfInBounds_toArray, List.set_cons_zero, List.set_cons_succ]
         rfl
        refine one_ (i := 9) (N := some 37) #[true, true, true, true, true, true, true, true, true, true, false, true, true, false, false, false, false] rfl rfl (one_of HT_.out (by kernel_rfl)) (by decide) (fun K hK => ?_)
        refine Kd.R_append_rows_step (Kd.int .u8) (w0 := w) w.heap.size (by rfl) (.tmp 33) (.tmp 36) 52 5 (.int .u8 0) 1 rfl Try.underlying52 info5 rfl (by decide) (by omega) v868 y867 t870 _ _ _ (fun k_ => some k_ ≠ (v860 : Value).ownBlock ∧ some k_ ≠ (.slice Ao26 t870.length co26 : Value).ownBlock) (fun _ => False) rfl rfl ?aO ?aR (fun _ _ h => h) (fun _ h => h.elim) ?aF ?aB ?aS ?aL ?_
        (case aR => repeat (first | exact (Kd.R_reads' HO872.out).2.2 | (with_reducible refine Kd.C_alloc ?_ _) | (with_reducible refine Kd.C_drewN ?_ _) | (with_reducible refine Kd.C_drew ?_)))
        (case aB => exact (by repeat (first | (with_reducible first | exact HB.out | apply below_alloc | apply pw_below_drewN | apply below_drew1 | refine below_set ?_ GE858.out | refine below_set ?_ GE866.out) | exact HB.out)))
        (case aF => exact (fun k_ hk => ⟨Kd.fresh' (Kd.R_lt (by (with_reducible repeat (first | apply Kd.R_alloc | apply Kd.R_drewN | apply Kd.R_drew)); exact HO_3.out)) k_ hk, Kd.fresh' (Kd.R_lt (by (with_reducible repeat (first | apply Kd.R_alloc | apply Kd.R_drewN | apply Kd.R_drew)); exact HO872.out)) k_ hk⟩))
        (case aO => exact (by (with_reducible repeat (first | apply Kd.R_alloc | apply Kd.R_drewN | apply Kd.R_drew)); exact Kd.R_mono HO869.out (fun _ hk => ⟨hk.2, hk.1⟩)))
        (case aS => exact (below_size (by repeat (first | (with_reducible first | exact HB.out | apply below_alloc | apply pw_below_drewN | apply below_drew1 | refine below_set ?_ GE858.out | refine below_set ?_ GE866.out) | exact HB.out))))
        (case aL => have := LMc11.out; omega)
        intro v874 w25 ho hb hg hat
        rw [← Ny873.out] at ho
        have n0_ := Aside0.mk (Kd.R_after (ok := (fun k_ => some k_ ≠ (.slice Ao26 t870.length co26 : Value).ownBlock)) (by (with_reducible repeat (first | apply Kd.R_alloc | apply Kd.R_drewN | apply Kd.R_drew)); exact Kd.R_mono HO_3.out (fun _ hk => ⟨hk.2, hk.1⟩)) hg hat)
        have n1_ := Aside0.mk (Kd.R_over' (by (with_reducible repeat (first | apply Kd.R_alloc | apply Kd.R_drewN | apply Kd.R_drew)); exact HO_4.out) (Kd.R_typed (by (with_reducible repeat (first | apply Kd.R_alloc | apply Kd.R_drewN | apply Kd.R_drew)); exact HO869.out)) (by decide) hg)
        have n2_ := Aside0.mk (blk_grown (g := gb858) (o := .cells #[.int .i64 a0_0, .int .i64 a0_1, .slice (some ad865) l0_2.length c0_2] 83 (0, 0)) (by (with_reducible repeat (first | refine blk_drewN ?_ _ | refine blk_drew ?_ | refine blk_alloc ?_ _)); exact BK858.out) hg (Kd.R_ne HO869.out BK858.out (by decide)))
        have n3_ := Aside0.mk (blk_grown (g := gb866) (o := .cells #[.string ((rd_T192 l0_2 x5_1).f0), .int .i64 ((rd_T192 l0_2 x5_1).f1), .int .i64 ((rd_T192 l0_2 x5_1).f2)] 192 (0, 0)) (by (with_reducible repeat (first | refine blk_drewN ?_ _ | refine blk_drew ?_ | refine blk_alloc ?_ _)); exact BK866.out) hg (Kd.R_ne HO869.out BK866.out (by decide)))
        have n4_ := Aside0.mk (Kd.R_after (ok := (fun k_ => some k_ ≠ (v860 : Value).ownBlock)) (by (with_reducible repeat (first | apply Kd.R_alloc | apply Kd.R_drewN | apply Kd.R_drew)); exact Kd.R_mono HO872.out (fun _ hk => ⟨hk.2, hk.1⟩)) hg hat)
        have n5_ := Aside0.mk (hb)
        have n6_ := Aside0.mk (ho)
        clear HO_3
        clear HO_4
        clear BK858
        clear BK866
        clear HO872
        clear HB
        clear HO869
        have HO_3 := n0_
        have HO_4 := n1_
        have BK858 := n2_
        have BK866 := n3_
        have HO872 := n4_
        have HB := n5_
        have HO875 := n6_
        clear n0_ n1_ n2_ n3_ n4_ n5_ n6_
        clear ho hb hg hat
        refine hK.out _ _ ⟨(blk_cell BK866.out 0).trans rfl, (blk_cell BK866.out 1).trans rfl, (blk_cell BK866.out 2).trans rfl⟩ (fun hHeld => ?_)
        clear hK K
        refine norm_ (a' := ?_) ?_ ?_
        rotate_left
        ·show Act.put _ (some 37) _ = _
         simp only [Act.put, List.setIfInBounds_toArray, List.set_cons_zero, List.set_cons_succ, i64_w, i32_w]
         rfl
        refine one_ (i := 10) (N := some 38) #[true, true, true, true, true, true, true, true, true, true, true, true, true, false, false, false, false] rfl rfl (one_of HT_.out (by kernel_rfl)) (by decide) (fun K hK => ?_)
        have hcv27 := own_string (P := Try.prog) Try.underlying52 Try.underlying5 Try.underlying9 (Kd.own_of_R HO875.out)
        refine value_ (w1 := ?_) (v := ?_) (by rfl) rfl ?_ ?_
        rotate_left 2
        ·go_simp
         constructor
         ·rfl
         ·rfl
        clear hcv27
        refine hK.out _ _ ⟨(blk_cell BK866.out 0).trans rfl, (blk_cell BK866.out 1).trans rfl, (blk_cell BK866.out 2).trans rfl⟩ (fun hHeld => ?_)
        clear hK K
        refine norm_ (a' := ?_) ?_ ?_
        rotate_left
        ·show Act.put _ (some 38) _ = _
         simp only [Act.put, List.setIfInBounds_toArray, List.set_cons_zero, List.set_cons_succ, i64_w, i32_w]
         rfl
        refine pure_ (i := 13) (N := some 41) (v := ?_) (a' := ?_) #[true, true, true, true, true, true, true, true, true, true, true, true, true, true, false, false, false] rfl rfl (any_of HT_.out (by kernel_rfl)) (fun _ _ _ h => h) (Or.inl ⟨by rfl, ?_⟩) ?_ ?_
        rotate_left
        ·intro w'
         go_simp
         with_reducible rfl
        rotate_left
        ·simp only [Act.put, List.setIfInBounds_toArray, List.set_cons_zero, List.set_cons_succ, i64_w, i32_w]
         rfl
        refine one_ (i := 14) (N := some 42) #[true, true, true, true, true, true, true, true, true, true, true, true, true, true, true, false, false] rfl rfl (one_of HT_.out (by kernel_rfl)) (by decide) (fun K hK => ?_)
        refine value_ (w1 := ?_) (v := ?_) (by rfl) rfl ?_ ?_
        rotate_left 2
        ·go_simp
         constructor
         ·rfl
         ·rfl
        refine hK.out _ _ ⟨(blk_cell (blk_alloc BK866.out _) 0).trans rfl, (blk_cell (blk_alloc BK866.out _) 1).trans rfl, (blk_cell (blk_alloc BK866.out _) 2).trans rfl⟩ (fun hHeld => ?_)
        clear hK K
        refine norm_ (a' := ?_) ?_ ?_
        rotate_left
        ·show Act.put _ (some 42) _ = _
         simp only [Act.put, List.setIfInBounds_toArray, List.set_cons_zero, List.set_cons_succ, i64_w, i32_w]
         rfl
        refine one_ (i := 15) (N := some 43) #[true, true, true, true, true, true, true, true, true, true, true, true, true, true, true, true, false] rfl rfl (one_of HT_.out (by kernel_rfl)) (by decide) (fun K hK => ?_)
        refine Kd.R_append_step Kd.string (w0 := w) w.heap.size (by rfl) (.tmp 28) (.tmp 42) 48 9 (.string ⟨#[]⟩) 16 rfl Try.underlying48 info9 rfl (by decide) (by omega) (.slice Ao18 x4_1.length co18) x4_1 ((strOfNums y873) ++ ((rd_T192 l0_2 x5_1).f0)) [.string ((strOfNums y873) ++ ((rd_T192 l0_2 x5_1).f0))] (fun _ => True) (fun _ => False) rfl rfl ?aP (fun _ hk => hk.elim) ?aF ?aO ?aB ?aS ?aL ?_
        (case aP => exact rfl)
        (case aB => exact (by repeat (first | (with_reducible first | exact HB.out | apply below_alloc | apply pw_below_drewN | apply below_drew1 | refine below_set ?_ GE858.out | refine below_set ?_ GE866.out) | exact HB.out)))
        (case aF => exact (fun _ _ => trivial))
        (case aO => exact (by (with_reducible repeat (first | apply Kd.R_alloc | apply Kd.R_drewN | apply Kd.R_drew)); exact HO_4.out))
        (case aS => exact (below_size (by repeat (first | (with_reducible first | exact HB.out | apply below_alloc | apply pw_below_drewN | apply below_drew1 | refine below_set ?_ GE858.out | refine below_set ?_ GE866.out) | exact HB.out))))
        (case aL => have := LMc13.out; omega)
        intro v877 w28 ho hb hg hat
        rw [← Ny876.out] at ho
        have n0_ := Aside0.mk (Kd.R_over' (by (with_reducible repeat (first | apply Kd.R_alloc | apply Kd.R_drewN | apply Kd.R_drew)); exact HO_3.out) (Kd.R_typed (by (with_reducible repeat (first | apply Kd.R_alloc | apply Kd.R_drewN | apply Kd.R_drew)); exact HO_4.out)) (by decide) hg)
        have n1_ := Aside0.mk (blk_grown (g := gb858) (o := .cells #[.int .i64 a0_0, .int .i64 a0_1, .slice (some ad865) l0_2.length c0_2] 83 (0, 0)) (by (with_reducible repeat (first | refine blk_drewN ?_ _ | refine blk_drew ?_ | refine blk_alloc ?_ _)); exact BK858.out) hg (Kd.R_ne HO_4.out BK858.out (by decide)))
        have n2_ := Aside0.mk (blk_grown (g := gb866) (o := .cells #[.string ((rd_T192 l0_2 x5_1).f0), .int .i64 ((rd_T192 l0_2 x5_1).f1), .int .i64 ((rd_T192 l0_2 x5_1).f2)] 192 (0, 0)) (by (with_reducible repeat (first | refine blk_drewN ?_ _ | refine blk_drew ?_ | refine blk_alloc ?_ _)); exact BK866.out) hg (Kd.R_ne HO_4.out BK866.out (by decide)))
        have n3_ := Aside0.mk (Kd.R_over' (by (with_reducible repeat (first | apply Kd.R_alloc | apply Kd.R_drewN | apply Kd.R_drew)); exact HO872.out) (Kd.R_typed (by (with_reducible repeat (first | apply Kd.R_alloc | apply Kd.R_drewN | apply Kd.R_drew)); exact HO_4.out)) (by decide) hg)
        have n4_ := Aside0.mk (Kd.R_over' (by (with_reducible repeat (first | apply Kd.R_alloc | apply Kd.R_drewN | apply Kd.R_drew)); exact HO875.out) (Kd.R_typed (by (with_reducible repeat (first | apply Kd.R_alloc | apply Kd.R_drewN | apply Kd.R_drew)); exact HO_4.out)) (by decide) hg)
        have n5_ := Aside0.mk (hb)
        have n6_ := Aside0.mk (ho)
        clear HO_3
        clear BK858
        clear BK866
        clear HO872
        clear HO875
        clear HB
        clear HO_4
        have HO_3 := n0_
        have BK858 := n1_
        have BK866 := n2_
        have HO872 := n3_
        have HO875 := n4_
        have HB := n5_
        have HO878 := n6_
        clear n0_ n1_ n2_ n3_ n4_ n5_ n6_
        clear ho hb hg hat
        refine hK.out _ _ ⟨(blk_cell BK866.out 0).trans rfl, (blk_cell BK866.out 1).trans rfl, (blk_cell BK866.out 2).trans rfl⟩ (fun hHeld => ?_)
        clear hK K
        refine norm_ (a' := ?_) ?_ ?_
        rotate_left
        ·show Act.put _ (some 43) _ = _
         simp only [Act.put, List.setIfInBounds_toArray, List.set_cons_zero, List.set_cons_succ, i64_w, i32_w]
         rfl
        refine pure_ (i := 16) (N := some 4) (v := ?_) (a' := ?_) #[true, true, true, true, true, true, true, true, true, true, true, true, true, true, true, true, true] rfl rfl (any_of HT_.out (by kernel_rfl)) (fun _ _ _ h => h) (Or.inl ⟨by rfl, ?_⟩) ?_ ?_
        rotate_left
        ·intro w'
         go_simp
         with_reducible rfl
        rotate_left
        ·simp only [Act.put, List.setIfInBounds_toArray, List.set_cons_zero, List.set_cons_succ, i64_w, i32_w]
         rfl
        refine done_ (done_of HT_.out (by kernel_rfl)) ?_
        try go_wp2
        go_roundg k1
        case measure => have := HK1.out; omega
        case rel => exact ⟨(y876), (wrap64 (x5_1 + 1)), (by first | rfl | (simp; done) | (simp [*]; done)), H', ⟨by have := HK1.out; omega⟩, ⟨by (with_reducible repeat (first | apply Kd.R_alloc | apply Kd.R_drewN | apply Kd.R_drew)); exact Kd.R_mono HO_3.out (fun _ hk => trivial)⟩, ⟨by (with_reducible repeat (first | apply Kd.R_alloc | apply Kd.R_drewN | apply Kd.R_drew)); exact HO878.out⟩, ⟨by (with_reducible repeat (first | refine blk_drewN ?_ _ | refine blk_drew ?_ | refine blk_alloc ?_ _)); exact BK858.out⟩, ⟨by repeat (first | (with_reducible first | exact HB.out | apply below_alloc | apply pw_below_drewN | apply below_drew1 | refine below_set ?_ GE858.out | refine below_set ?_ GE866.out) | exact HB.out)⟩⟩
       ·rw [if_neg c13] at H
        exact absurd H (by simp)
      ·rw [if_neg c12] at H
       exact absurd H (by simp)
     ·rw [if_neg c11] at H
      exact absurd H (by simp)
    ·rw [if_neg c9] at H
     exact absurd H (by simp)
   ·rw [if_neg c8] at H
    have c8b0 : decide (x5_1 < (l0_2.length : Int)) = false := decide_eq_false c8
    clear c8
    replace H := Option.bind_eq_some_iff.mp H
    obtain ⟨t879, A290, H⟩ := H
    replace H : (if y859.length + t879.length < 140737488355328 then ((spec_l03Sealed.f k1 (y859 ++ t879)).bind fun t885 => (some t885)) else (none)) = some r := H
    have A29 := Aside0.mk A290
    clear A290
    by_cases c30 : y859.length + t879.length < 140737488355328
    ·rw [if_pos c30] at H
     have LMc30 := Aside0.mk c30
     clear c30
     obtain ⟨y882, hy882⟩ : ∃ y_ : List Int, y_ = (y859 ++ t879) := ⟨_, rfl⟩
     replace H : ((spec_l03Sealed.f k1 y882).bind fun t885 => (some t885)) = some r := by first | (rw [hy882]; with_reducible exact H) | (have H2_ := (Option.bind_some _ _).symm.trans H; rw [hy882]; with_reducible exact H2_) | (have H2_ := (Option.bind_some _ _).symm.trans H; with_reducible exact H2_) | with_reducible exact H | (rw [hy882]; exact H) | exact H
     have Ny882 := Aside0.mk hy882
     clear hy882
     replace H := Option.bind_eq_some_iff.mp H
     obtain ⟨t885, A310, H⟩ := H
     replace H : (some t885) = some r := H
     have A31 := Aside0.mk A310
     clear A310
     obtain rfl := Option.some.inj H
     have hcz32_0 : wr.cell? ⟨gb858, 0, none⟩ = some (.int .i64 a0_0) := (blk_cell BK858.out 0).trans rfl
     have hcz32_1 : wr.cell? ⟨gb858, 1, none⟩ = some (.int .i64 a0_1) := (blk_cell BK858.out 1).trans rfl
     have hcz32_2 : wr.cell? ⟨gb858, 2, none⟩ = some (.slice A0_2 l0_2.length c0_2) := (blk_cell BK858.out 2).trans rfl
     have hfz32_0 := blk_frozen BK858.out 0
     have hfz32_1 := blk_frozen BK858.out 1
     have hfz32_2 := blk_frozen BK858.out 2
     obtain ⟨Ao33, co33, eo33⟩ := Kd.R_slice HO_4.out
     subst eo33
     go_wp2_with (first | ((with_reducible refine gate_callee (f := 127) rfl ?_); refine goesL_ (some 46) rfl rfl Try.func127 (by kernel_rfl) rfl #[.slice Ao33 x4_1.length co33] rfl (by (try simp only [List.map_toArray, List.map_cons, List.map_nil]); first | done | rfl | (simp only [List.length_drop, List.length_take]; rfl)) ?_; (with_reducible refine (spec_l01Fields.calls _ _ x4_1 t879 _ ?side1 ?side2 A29.out).mono ?_); (case side1 => repeat (first | exact (Kd.R_reads' HO_4.out).2.2 | (with_reducible refine Kd.C_alloc ?_ _) | (with_reducible refine Kd.C_drewN ?_ _) | (with_reducible refine Kd.C_drew ?_))); (case side2 => exact (Kd.R_reads' HO_4.out).2.1); rintro e w34 ⟨v880, rfl, ho0, hb⟩; refine ⟨_, rfl, ?_⟩; have n0_ := Aside0.mk (Kd.R_elder' (by (with_reducible repeat (first | apply Kd.R_alloc | apply Kd.R_drewN | apply Kd.R_drew)); exact HO_3.out) (Kd.R_base ho0) hb); have n1_ := Aside0.mk (Kd.R_below (by (with_reducible repeat (first | apply Kd.R_alloc | apply Kd.R_drewN | apply Kd.R_drew)); exact HO_4.out) hb); have n2_ := Aside0.mk (Kd.R_lower (Kd.R_new' ho0 (Kd.R_lt (by (with_reducible repeat (first | apply Kd.R_alloc | apply Kd.R_drewN | apply Kd.R_drew)); exact HO_3.out))) (below_size (by repeat (first | (with_reducible first | exact HB.out | apply below_alloc | apply pw_below_drewN | apply below_drew1 | refine below_set ?_ GE858.out) | exact HB.out)))); have n3_ := Aside0.mk (blk_below (g := gb858) (o := .cells #[.int .i64 a0_0, .int .i64 a0_1, .slice A0_2 l0_2.length c0_2] 83 (0, 0)) (by (with_reducible repeat (first | refine blk_drewN ?_ _ | refine blk_drew ?_ | refine blk_alloc ?_ _)); exact BK858.out) hb); have n4_ := Aside0.mk (below_step (by repeat (first | (with_reducible first | exact HB.out | apply below_alloc | apply pw_below_drewN | apply below_drew1 | refine below_set ?_ GE858.out) | exact HB.out)) hb); clear HO_3; clear HO_4; clear BK858; clear HB; have HO_3 := n0_; have HO_4 := n1_; have HO881 := n2_; have BK858 := n3_; have HB := n4_; clear n0_ n1_ n2_ n3_ n4_; (try clear hb); (try clear hb2); (try clear hk); (try clear hi); (try clear ho0); obtain ⟨Ao36, co36, eo36⟩ := Kd.R_slice HO881.out; subst eo36) | ((with_reducible refine gate_builtin (b := .append) (xs := #[.tmp 44, .tmp 46]) rfl ?_); at_builtin; refine Kd.R_append_rows (Kd.int .u8) (w0 := w) w.heap.size rfl (.tmp 44) (.tmp 46) 52 5 (.int .u8 0) 1 rfl Try.underlying52 info5 rfl (by decide) (by omega) v860 y859 t879 _ _ _ (fun k_ => some k_ ≠ (.slice Ao36 t879.length co36 : Value).ownBlock) (fun _ => False) rfl rfl ?aO ?aR (fun _ _ h => h) (fun _ h => h.elim) ?aF ?aB ?aS ?aL ?_; (case aR => repeat (first | exact (Kd.R_reads' HO881.out).2.2 | (with_reducible refine Kd.C_alloc ?_ _) | (with_reducible refine Kd.C_drewN ?_ _) | (with_reducible refine Kd.C_drew ?_))); (case aB => exact (by repeat (first | (with_reducible first | exact HB.out | apply below_alloc | apply pw_below_drewN | apply below_drew1 | refine below_set ?_ GE858.out) | exact HB.out))); (case aF => exact (fun k_ hk => Kd.fresh' (Kd.R_lt (by (with_reducible repeat (first | apply Kd.R_alloc | apply Kd.R_drewN | apply Kd.R_drew)); exact HO881.out)) k_ hk)); (case aO => exact (by (with_reducible repeat (first | apply Kd.R_alloc | apply Kd.R_drewN | apply Kd.R_drew)); exact Kd.R_mono HO_3.out (fun _ hk => hk.2))); (case aS => exact (below_size (by repeat (first | (with_reducible first | exact HB.out | apply below_alloc | apply pw_below_drewN | apply below_drew1 | refine below_set ?_ GE858.out) | exact HB.out)))); (case aL => have := LMc30.out; omega); intro v883 w35 ho hb hg hat; rw [← Ny882.out] at ho; have n0_ := Aside0.mk (Kd.R_over' (by (with_reducible repeat (first | apply Kd.R_alloc | apply Kd.R_drewN | apply Kd.R_drew)); exact HO_4.out) (Kd.R_typed (by (with_reducible repeat (first | apply Kd.R_alloc | apply Kd.R_drewN | apply Kd.R_drew)); exact HO_3.out)) (by decide) hg); have n1_ := Aside0.mk (blk_grown (g := gb858) (o := .cells #[.int .i64 a0_0, .int .i64 a0_1, .slice A0_2 l0_2.length c0_2] 83 (0, 0)) (by (with_reducible repeat (first | refine blk_drewN ?_ _ | refine blk_drew ?_ | refine blk_alloc ?_ _)); exact BK858.out) hg (Kd.R_ne HO_3.out BK858.out (by decide))); have n2_ := Aside0.mk (Kd.R_after (ok := (fun _ => True)) (by (with_reducible repeat (first | apply Kd.R_alloc | apply Kd.R_drewN | apply Kd.R_drew)); exact HO881.out) hg hat); have n3_ := Aside0.mk (hb); have n4_ := Aside0.mk (ho); clear HO_4; clear BK858; clear HO881; clear HB; clear HO_3; have HO_4 := n0_; have BK858 := n1_; have HO881 := n2_; have HB := n3_; have HO884 := n4_; clear n0_ n1_ n2_ n3_ n4_; clear ho hb hg hat; obtain ⟨Ao37, co37, eo37⟩ := Kd.R_slice HO884.out; subst eo37) | ((with_reducible refine gate_callee (f := 126) rfl ?_); refine goesL_ (some 48) rfl rfl Try.func126 (by kernel_rfl) rfl #[.slice Ao37 y882.length co37] rfl (by (try simp only [List.map_toArray, List.map_cons, List.map_nil]); first | done | rfl | (simp only [List.length_drop, List.length_take]; rfl)) ?_; (with_reducible refine (spec_l03Sealed.calls k1 (fun k_ => some k_ = (.slice Ao37 y882.length co37 : Value).ownBlock) (.slice Ao37 y882.length co37) y882 t885 w _ ?side1 ?side2 A31.out).mono ?_); (case side1 => repeat (first | (with_reducible first | exact HB.out | apply below_alloc | apply pw_below_drewN | apply below_drew1 | refine below_set ?_ GE858.out) | exact HB.out)); (case side2 => exact Kd.R_tight rfl HO884.out); rintro e w38 ⟨v886, rfl, ho0, hb, hkp⟩; refine ⟨_, rfl, ?_⟩; have n0_ := Aside0.mk (Kd.R_mono (ok' := fun k_ => True) (Kd.R_keptB ((Kd.R_apart' HO_4.out (Kd.R_typed HO884.out) (by decide))) hkp (fun k_ hk_ hs_ => (hk_.2) hs_)) (fun k_ hk_ => trivial)); have n1_ := Aside0.mk (blk_kept (by (with_reducible repeat (first | refine blk_drewN ?_ _ | refine blk_drew ?_ | refine blk_alloc ?_ _)); exact BK858.out) hkp (fun hs_ => (fun e_ => (Kd.R_ne HO884.out BK858.out (by decide)) e_) hs_)); have n2_ := Aside0.mk (Kd.R_mono (ok' := fun k_ => some k_ ≠ (v886 : Value).ownBlock) (Kd.R_keptB (HO881.out) hkp (fun k_ hk_ hs_ => (hk_.2) hs_)) (fun k_ hk_ => fun e_ => Or.elim (ho0.1 k_ e_.symm) (fun hs_ => hk_.2.1 hs_) (fun hn_ => Nat.not_le.2 hk_.2.2 hn_))); have n3_ := Aside0.mk (Kd.R_mono (ok' := fun k_ => some k_ ≠ (.slice Ao36 t879.length co36 : Value).ownBlock) ho0 (fun k_ hk_ => Or.elim hk_ (fun hs_ => fun e_ => (((HO881.out).1 k_ e_.symm).2) hs_) (fun hn_ => (Kd.fresh' (Kd.R_lt (by (with_reducible repeat (first | apply Kd.R_alloc | apply Kd.R_drewN | apply Kd.R_drew)); exact HO881.out)) k_ hn_)))); have n4_ := Aside0.mk (hb); clear HO_4; clear BK858; clear HO881; clear HB; clear HO884; have HO_4 := n0_; have BK858 := n1_; have HO881 := n2_; have HO887 := n3_; have HB := n4_; clear n0_ n1_ n2_ n3_ n4_; (try clear hb); (try clear hkp); (try clear ho0)))
     go_ret
     exact ⟨_, by first | rfl | (simp [errW_none, errW_some] <;> rfl) | (simp [*, errW_none, errW_some] <;> rfl), by (with_reducible repeat (first | apply Kd.R_alloc | apply Kd.R_drewN | apply Kd.R_drew)); exact Kd.R_mono HO887.out (fun _ hk => trivial), by repeat (first | (with_reducible first | exact HB.out | apply below_alloc | apply pw_below_drewN | apply below_drew1 | refine below_set ?_ GE858.out) | exact HB.out)⟩
    ·rw [if_neg c30] at H
     exact absurd H (by simp)
end Go.Proofs.Ytenfomejccfkgaa.X
