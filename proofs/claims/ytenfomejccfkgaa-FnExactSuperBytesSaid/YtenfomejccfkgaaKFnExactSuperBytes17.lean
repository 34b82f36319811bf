import Derived.Test.YtenfomejccfkgaaKFnExactSuperBytes4
import Derived.Test.YtenfomejccfkgaaKFnExactSuperBytes5
import Derived.Test.YtenfomejccfkgaaKFnExactSuperBytes6
import Derived.Test.YtenfomejccfkgaaKFnExactSuperBytes9
namespace Go.Proofs.Ytenfomejccfkgaa.X
open Go.RowKit Go.Proofs.YtenfomejccfkgaaW.PrintWords Go.Proofs.YtenfomejccfkgaaW.PrintLast Go.Proofs.YtenfomejccfkgaaW.PrintMore
attribute [local go_sem] xbin_geq xbin_leq xbin_gtr max2_int min2_int max_two min_two max_three min_three max_four min_four
set_option linter.unusedVariables false
set_option linter.unusedSimpArgs false
def impl_superBytes.l0 : Nat → List ByteArray → List (S192) → Int → Int → Int → Int → List (S192) → Option (ByteArray)
 | 0, _, _, _, _, _, _, _ => none
 | k + 1, x3, x8, x9, x10, x930000, x930001, x930002 => if x10 < x9 then (if 0 ≤ x10 then (if x10 < (x8.length : Int) then ((impl_inBytes.f k (wrap64 (((rd_T192 x8 x10).f1) + 1)) 1).bind fun t935 => ((impl_inBytes.f k ((rd_T192 x8 x10).f2) 2).bind fun t936 => (if t935.size + t936.size ≤ 9223372036854775807 then (if (t935 ++ t936).size + ((rd_T192 x8 x10).f0).size ≤ 9223372036854775807 then (if x3.length < 8796093022208 then (impl_superBytes.l0 k (x3 ++ [(t935 ++ t936) ++ ((rd_T192 x8 x10).f0)]) x8 x9 (wrap64 (x10 + 1)) x930000 x930001 x930002) else (none)) else (none)) else (none)))) else (none)) else (none)) else ((impl_inBytes.f k x930000 1).bind fun t940 => (if 1 + t940.size ≤ 9223372036854775807 then ((impl_inBytes.f k (wrap64 (x930001 + 1)) 1).bind fun t941 => (if ((⟨#[115]⟩ : ByteArray) ++ t940).size + t941.size ≤ 9223372036854775807 then ((impl_fields.f x3).bind fun t942 => (if (((⟨#[115]⟩ : ByteArray) ++ t940) ++ t941).size + t942.size ≤ 9223372036854775807 then ((impl_sealed.f k ((((⟨#[115]⟩ : ByteArray) ++ t940) ++ t941) ++ t942)).bind fun t943 => (some t943)) else (none))) else (none))) else (none)))
def impl_superBytes.f (k : Nat) (a0_0 : Int) (a0_1 : Int) (l0_2 : List (S192)) : Option (ByteArray) := impl_superBytes.l0 k (([] : List ByteArray)) l0_2 (l0_2.length : Int) 0 a0_0 a0_1 l0_2
theorem impl_superBytes.mono_l : ∀ k, (∀ y0 y1 y2 y3 y4 y5 y6, LeO (impl_superBytes.l0 k y0 y1 y2 y3 y4 y5 y6) (impl_superBytes.l0 (k + 1) y0 y1 y2 y3 y4 y5 y6))
 | 0 => fun _ _ _ _ _ _ _ r h => by simp [impl_superBytes.l0] at h
 | k + 1 => by
  have ih0 := impl_superBytes.mono_l k
  ·intro y0 y1 y2 y3 y4 y5 y6
   unfold impl_superBytes.l0
   repeat' first
   | (with_reducible exact ih0 _ _ _ _ _ _ _)
   | (with_reducible exact impl_inBytes.mono _ _ _)
   | (with_reducible exact impl_sealed.mono _ _)
   | (with_reducible exact LeO.refl _)
   | (with_reducible exact LeO.none _)
   | (with_reducible refine LeO.ite ?_ ?_)
   | (with_reducible refine LeO.bind ?_ (fun _ => ?_))
   | exact ih0 _ _ _ _ _ _ _
   | exact impl_inBytes.mono _ _ _
   | exact impl_sealed.mono _ _
   | exact LeO.none _
   | refine LeO.ite ?_ ?_
   | refine LeO.bind ?_ (fun _ => ?_)
theorem impl_superBytes.mono : ∀ a0 a1 a2 k, LeO (impl_superBytes.f k a0 a1 a2) (impl_superBytes.f (k + 1) a0 a1 a2) := by
 intro a0 a1 a2 k
 have ih0 := impl_superBytes.mono_l k
 unfold impl_superBytes.f
 repeat' first
   | (with_reducible exact ih0 _ _ _ _ _ _ _)
   | (with_reducible exact impl_inBytes.mono _ _ _)
   | (with_reducible exact impl_sealed.mono _ _)
   | (with_reducible exact LeO.refl _)
   | (with_reducible exact LeO.none _)
   | (with_reducible refine LeO.ite ?_ ?_)
   | (with_reducible refine LeO.bind ?_ (fun _ => ?_))
   | exact ih0 _ _ _ _ _ _ _
   | exact impl_inBytes.mono _ _ _
   | exact impl_sealed.mono _ _
   | exact LeO.none _
   | refine LeO.ite ?_ ?_
   | refine LeO.bind ?_ (fun _ => ?_)
def impl_superBytes.T5 : Bool × List (List Nat × List Nat) := (true, [([], []), ([], []), ([1], [1]), ([2], [2]), ([3], [3]), ([], []), ([5], [5]), ([6, 4], [6]), ([4, 7], [4, 7]), ([], []), ([9], [9]), ([8, 10], [8, 10]), ([11], [11]), ([0, 12, 7], [0, 12]), ([13, 13, 0, 1, 2, 3, 4, 5, 6, 7, 8, 9, 10, 11, 12, 13], [0, 13])])
def impl_superBytes.B5 : List Nat := [0, 0, 2, 6, 14, 0, 32, 126, 254, 0, 512, 2046, 4094, 8191, 16383]
theorem impl_superBytes.tab5 : rtab .any (opsOf Try.f116 5) = impl_superBytes.T5 := by kernel_rfl
theorem impl_superBytes.bits5 : waitsOk impl_superBytes.T5.2 impl_superBytes.B5 = true := by kernel_rfl
def impl_superBytes.T7 : Bool × List (List Nat × List Nat) := (true, [([], []), ([0], [0]), ([1], [1]), ([2], [2]), ([], []), ([4], [4]), ([5], [5]), ([6, 2], [6]), ([3, 7], [3, 7]), ([], []), ([9, 7], [9]), ([8, 10], [8, 10]), ([11, 10], [11]), ([12, 12, 0, 1, 2, 3, 4, 5, 6, 7, 8, 9, 10, 11, 12], [12])])
def impl_superBytes.B7 : List Nat := [0, 1, 3, 7, 0, 16, 48, 119, 255, 0, 759, 2047, 4095, 8191]
theorem impl_superBytes.tab7 : rtab .any (opsOf Try.f116 7) = impl_superBytes.T7 := by kernel_rfl
theorem impl_superBytes.bits7 : waitsOk impl_superBytes.T7.2 impl_superBytes.B7 = true := by kernel_rfl
set_option maxHeartbeats 8000000 in
set_option maxRecDepth 100000 in
theorem impl_superBytes.calls (k : Nat) (a0_0 : Int) (a0_1 : Int) (A0_2 : Option Addr) (c0_2 : Nat) (l0_2 : List (S192)) (r : ByteArray) (w : World) (hr0_2 : Kd.C k192 w A0_2 l0_2.length l0_2) (hc0_2 : l0_2.length ≤ c0_2) (h : impl_superBytes.f k a0_0 a0_1 l0_2 = some r) :
  Calls Try.prog 116 #[.agg #[.int .i64 a0_0, .int .i64 a0_1, .slice A0_2 l0_2.length c0_2]] w fun e w' => e = .returned (.string r) ∧ Below w.heap.size w w' := by
 have hu83 := Try.underlying83
 have hu192 := Try.underlying192
 have HR0_2 := Aside0.mk hr0_2
 have HC0_2 := Aside0.mk hc0_2
 clear hr0_2 hc0_2
 have HB := Aside0.mk (Below.refl w.heap.size w)
 have H : (impl_superBytes.l0 k (([] : List ByteArray)) l0_2 (l0_2.length : Int) 0 a0_0 a0_1 l0_2) = some r := h
 clear h
 obtain ⟨y930, hy930⟩ : ∃ y_ : List ByteArray, y_ = (([] : List ByteArray)) := ⟨_, rfl⟩
 replace H : (impl_superBytes.l0 k y930 l0_2 (l0_2.length : Int) 0 a0_0 a0_1 l0_2) = some r := by first | (rw [hy930]; with_reducible exact H) | (have H2_ := (Option.bind_some _ _).symm.trans H; rw [hy930]; with_reducible exact H2_) | (have H2_ := (Option.bind_some _ _).symm.trans H; with_reducible exact H2_) | with_reducible exact H | (rw [hy930]; exact H) | exact H
 have Ny930 := Aside0.mk hy930
 clear hy930
 have H' := Aside0.mk H
 clear H
 go_enter Try.func116, Try.ntmps116
 go_wp2_with (first | ((with_reducible refine gate_dst (N := 1) rfl ?_); refine box_event ?hg (N := 1) ?hd (cs := #[.int .i64 a0_0, .int .i64 a0_1, .slice A0_2 l0_2.length c0_2]) (t := 83) ?hr ?_; (case hd => rfl); (case hg => rfl); (case hr => first | (go_simp; done) | (go_simp; rfl)); intro gb929 hg w2 hbox hb; have n0_ := Aside0.mk (below_step (by repeat (first | (with_reducible first | exact HB.out | apply below_alloc | apply pw_below_drewN | apply below_drew1) | exact HB.out)) hb); have n1_ := Aside0.mk (hbox); have n2_ := Aside0.mk ((by rw [hg]; exact (below_size (by repeat (first | (with_reducible first | exact HB.out | apply below_alloc | apply pw_below_drewN | apply below_drew1) | exact HB.out))) : w.heap.size ≤ gb929)); have n3_ := Aside0.mk ((by rw [hg]; exact (below_size (by repeat (first | (with_reducible first | exact HB.out | apply below_alloc | apply pw_below_drewN | apply below_drew1) | exact HB.out))) : w.heap.size ≤ gb929)); clear HB; have HB := n0_; have BK929 := n1_; have GW929 := n2_; have GE929 := n3_; clear n0_ n1_ n2_ n3_; clear hb hbox hg) | ((with_reducible refine gate_dst (N := 6) rfl ?_); refine Kd.R_lit Kd.string _ 9 ?hg (N := 6) ?hd (xs := ([] : List ByteArray)) (inner := []) (ok := fun _ => True) (okp := fun _ => True) ?hr ?hp (fun _ hk => hk) trivial (Below.refl _ _) (Nat.le_refl _) (by simp) ?_; (case hd => rfl); (case hg => rfl); (case hr => first | (go_simp; done) | (go_simp; rfl)); (case hp => exact (Reps.none _ _)); intro v931 w3 ho4 hb hg_ hnew_; clear hg_ hnew_; (first | rw [← Ny930.out] at ho4 | (simp only [Int.reduceToNat] at ho4; rw [← Ny930.out] at ho4)); have n0_ := Aside0.mk (Kd.R_lower ho4 (below_size (by repeat (first | (with_reducible first | exact HB.out | apply below_alloc | apply pw_below_drewN | apply below_drew1 | refine below_set ?_ GE929.out) | exact HB.out)))); have n1_ := Aside0.mk (blk_below (g := gb929) (o := .cells #[.int .i64 a0_0, .int .i64 a0_1, .slice A0_2 l0_2.length c0_2] 83 (0, 0)) (by (with_reducible repeat (first | refine blk_drewN ?_ _ | refine blk_drew ?_ | refine blk_alloc ?_ _)); exact BK929.out) hb); have n2_ := Aside0.mk (below_step (by repeat (first | (with_reducible first | exact HB.out | apply below_alloc | apply pw_below_drewN | apply below_drew1 | refine below_set ?_ GE929.out) | exact HB.out)) hb); clear BK929; clear HB; have HO932 := n0_; have BK929 := n1_; have HB := n2_; clear n0_ n1_ n2_; clear hb ho4; have hcz5_0 : w3.cell? ⟨gb929, 0, none⟩ = some (.int .i64 a0_0) := (blk_cell BK929.out 0).trans rfl; have hcz5_1 : w3.cell? ⟨gb929, 1, none⟩ = some (.int .i64 a0_1) := (blk_cell BK929.out 1).trans rfl; have hcz5_2 : w3.cell? ⟨gb929, 2, none⟩ = some (.slice A0_2 l0_2.length c0_2) := (blk_cell BK929.out 2).trans rfl; have hfz5_0 := blk_frozen BK929.out 0; have hfz5_1 := blk_frozen BK929.out 1; have hfz5_2 := blk_frozen BK929.out 2))
 go_loopg [3, 10] k (fun kq v3 v10 w' => ∃ (x3_1 : List ByteArray) (x10_1 : Int), v10 = .int .i64 x10_1 ∧ Aside0 (impl_superBytes.l0 kq x3_1 l0_2 (l0_2.length : Int) x10_1 a0_0 a0_1 l0_2 = some r) ∧ Aside0 (kq ≤ k) ∧ Aside0 (Kd.R Kd.string 9 w' w.heap.size (fun _ => True) v3 x3_1) ∧ Aside0 (w'.heap[gb929]? = some (.cells #[.int .i64 a0_0, .int .i64 a0_1, (.slice A0_2 l0_2.length c0_2)] 83 (0, 0))) ∧ Aside0 (Below w.heap.size w w'))
 case atStart => exact ⟨(y930), (0), (by first | rfl | (simp; done) | (simp [*]; done)), H', ⟨Nat.le_refl _⟩, ⟨by (with_reducible repeat (first | apply Kd.R_alloc | apply Kd.R_drewN | apply Kd.R_drew)); exact HO932.out⟩, ⟨by (with_reducible repeat (first | refine blk_drewN ?_ _ | refine blk_drew ?_ | refine blk_alloc ?_ _)); exact BK929.out⟩, ⟨by repeat (first | (with_reducible first | exact HB.out | apply below_alloc | apply pw_below_drewN | apply below_drew1 | refine below_set ?_ GE929.out) | exact HB.out)⟩⟩
 case round =>
  clear H'
  try clear c1
  try clear p2
  try clear hcz5_0
  try clear hcz5_1
  try clear hcz5_2
  try clear hfz5_0
  try clear hfz5_1
  try clear hfz5_2
  obtain ⟨x3_1, x10_1, rfl, HA, HK1, HO_3, BK929, HB⟩ := hrel
  cases gk with
  | zero => exact absurd HA.out (by simp [impl_superBytes.l0])
  | succ k1 =>
   have H := HA.out
   clear HA
   simp only [impl_superBytes.l0] at H
   by_cases c6 : x10_1 < (l0_2.length : Int)
   ·rw [if_pos c6] at H
    have c6b0 : decide (x10_1 < (l0_2.length : Int)) = true := decide_eq_true c6
    clear c6
    by_cases c7 : 0 ≤ x10_1
    ·rw [if_pos c7] at H
     have c7b0 : decide (0 ≤ x10_1) = true := decide_eq_true c7
     clear c7
     by_cases c8 : x10_1 < (l0_2.length : Int)
     ·rw [if_pos c8] at H
      have c8b0 : decide (x10_1 < (l0_2.length : Int)) = true := decide_eq_true c8
      clear c8
      replace H := Option.bind_eq_some_iff.mp H
      obtain ⟨t935, A90, H⟩ := H
      replace H : ((impl_inBytes.f k1 ((rd_T192 l0_2 x10_1).f2) 2).bind fun t936 => (if t935.size + t936.size ≤ 9223372036854775807 then (if (t935 ++ t936).size + ((rd_T192 l0_2 x10_1).f0).size ≤ 9223372036854775807 then (if x3_1.length < 8796093022208 then (impl_superBytes.l0 k1 (x3_1 ++ [(t935 ++ t936) ++ ((rd_T192 l0_2 x10_1).f0)]) l0_2 (l0_2.length : Int) (wrap64 (x10_1 + 1)) a0_0 a0_1 l0_2) else (none)) else (none)) else (none))) = some r := H
      have A9 := Aside0.mk A90
      clear A90
      replace H := Option.bind_eq_some_iff.mp H
      obtain ⟨t936, A100, H⟩ := H
      replace H : (if t935.size + t936.size ≤ 9223372036854775807 then (if (t935 ++ t936).size + ((rd_T192 l0_2 x10_1).f0).size ≤ 9223372036854775807 then (if x3_1.length < 8796093022208 then (impl_superBytes.l0 k1 (x3_1 ++ [(t935 ++ t936) ++ ((rd_T192 l0_2 x10_1).f0)]) l0_2 (l0_2.length : Int) (wrap64 (x10_1 + 1)) a0_0 a0_1 l0_2) else (none)) else (none)) else (none)) = some r := H
      have A10 := Aside0.mk A100
      clear A100
      by_cases c11 : t935.size + t936.size ≤ 9223372036854775807
      ·rw [if_pos c11] at H
       have c11b0 := eq_true c11
       have c11b1 : decide (t935.size + t936.size ≤ 9223372036854775807) = true := decide_eq_true c11
       try have c11b2 : (9223372036854775807 < t935.size + t936.size) = False := eq_false (Nat.not_lt.2 c11)
       by_cases c12 : (t935 ++ t936).size + ((rd_T192 l0_2 x10_1).f0).size ≤ 9223372036854775807
       ·rw [if_pos c12] at H
        have c12b0 := eq_true c12
        have c12b1 : decide ((t935 ++ t936).size + ((rd_T192 l0_2 x10_1).f0).size ≤ 9223372036854775807) = true := decide_eq_true c12
        try have c12b2 : (9223372036854775807 < (t935 ++ t936).size + ((rd_T192 l0_2 x10_1).f0).size) = False := eq_false (Nat.not_lt.2 c12)
        try have c12b3 : (9223372036854775807 < t935.size + t936.size + ((rd_T192 l0_2 x10_1).f0).size) = False := by have z_ := c12b2; simp only [ByteArray.size_append] at z_; exact z_
        by_cases c13 : x3_1.length < 8796093022208
        ·rw [if_pos c13] at H
         have LMc13 := Aside0.mk c13
         clear c13
         obtain ⟨y937, hy937⟩ : ∃ y_ : List ByteArray, y_ = (x3_1 ++ [(t935 ++ t936) ++ ((rd_T192 l0_2 x10_1).f0)]) := ⟨_, rfl⟩
         replace H : (impl_superBytes.l0 k1 y937 l0_2 (l0_2.length : Int) (wrap64 (x10_1 + 1)) a0_0 a0_1 l0_2) = some r := by first | (rw [hy937]; with_reducible exact H) | (have H2_ := (Option.bind_some _ _).symm.trans H; rw [hy937]; with_reducible exact H2_) | (have H2_ := (Option.bind_some _ _).symm.trans H; with_reducible exact H2_) | with_reducible exact H | (rw [hy937]; exact H) | exact H
         have Ny937 := Aside0.mk hy937
         clear hy937
         have H' := Aside0.mk H
         clear H
         have p933 : 0 ≤ (x10_1 : Int) := of_decide_eq_true (by first | (with_reducible assumption) | assumption)
         have q933 : x10_1 < (l0_2.length : Int) := of_decide_eq_true (by first | (with_reducible assumption) | assumption)
         obtain ⟨ad933, e933, hx933_0, hx933_1, hx933_2⟩ := at_T192 HR0_2.out x10_1 p933 q933
         cases e933
         replace hx933_0 := (HB.out.cell (World.block_lt_of_cell? w _ hx933_0)).trans hx933_0
         replace hx933_1 := (HB.out.cell (World.block_lt_of_cell? w _ hx933_1)).trans hx933_1
         replace hx933_2 := (HB.out.cell (World.block_lt_of_cell? w _ hx933_2)).trans hx933_2
         replace p933 := eq_true p933
         replace q933 := eq_true q933
         try go_wp2_with (first | ((with_reducible refine gate_dst (N := 5) rfl ?_); refine box_event ?hg (N := 5) ?hd (cs := #[.string (⟨#[]⟩ : ByteArray), .int .i64 0, .int .i64 0]) (t := 192) ?hr ?_; (case hd => rfl); (case hg => rfl); (case hr => first | (go_simp; done) | (go_simp; rfl)); intro gb934 hg w14 hbox hb; have n0_ := Aside0.mk (Kd.R_below (by (with_reducible repeat (first | apply Kd.R_alloc | apply Kd.R_drewN | apply Kd.R_drew)); exact HO_3.out) hb); have n1_ := Aside0.mk (blk_below (g := gb929) (o := .cells #[.int .i64 a0_0, .int .i64 a0_1, .slice (some ad933) l0_2.length c0_2] 83 (0, 0)) (by (with_reducible repeat (first | refine blk_drewN ?_ _ | refine blk_drew ?_ | refine blk_alloc ?_ _)); exact BK929.out) hb); have n2_ := Aside0.mk (below_step (by repeat (first | (with_reducible first | exact HB.out | apply below_alloc | apply pw_below_drewN | apply below_drew1 | refine below_set ?_ GE929.out) | exact HB.out)) hb); have n3_ := Aside0.mk (hbox); have n4_ := Aside0.mk ((by rw [hg]; exact (below_size (by repeat (first | (with_reducible first | exact HB.out | apply below_alloc | apply pw_below_drewN | apply below_drew1 | refine below_set ?_ GE929.out) | exact HB.out))) : w.heap.size ≤ gb934)); have n5_ := Aside0.mk ((by rw [hg]; exact (below_size (by repeat (first | (with_reducible first | exact HB.out | apply below_alloc | apply pw_below_drewN | apply below_drew1 | refine below_set ?_ GE929.out) | exact HB.out))) : w.heap.size ≤ gb934)); have n6_ := Aside0.mk ((by rw [hg]; exact Nat.ne_of_lt (blk_lt (g := gb929) (o := .cells #[.int .i64 a0_0, .int .i64 a0_1, .slice (some ad933) l0_2.length c0_2] 83 (0, 0)) (by (with_reducible repeat (first | refine blk_drewN ?_ _ | refine blk_drew ?_ | refine blk_alloc ?_ _)); exact BK929.out)) : gb929 ≠ gb934)); have n7_ := Aside0.mk ((by rw [hg]; exact Nat.ne_of_gt (blk_lt (g := gb929) (o := .cells #[.int .i64 a0_0, .int .i64 a0_1, .slice (some ad933) l0_2.length c0_2] 83 (0, 0)) (by (with_reducible repeat (first | refine blk_drewN ?_ _ | refine blk_drew ?_ | refine blk_alloc ?_ _)); exact BK929.out)) : gb934 ≠ gb929)); clear HO_3; clear BK929; clear HB; have HO_3 := n0_; have BK929 := n1_; have HB := n2_; have BK934 := n3_; have GW934 := n4_; have GE934 := n5_; have NB929_934 := n6_; have NB934_929 := n7_; clear n0_ n1_ n2_ n3_ n4_ n5_ n6_ n7_; clear hb hbox hg; have hnb15 := NB934_929.out; have hnc15 := NB929_934.out; have hcz16_0 : w14.cell? ⟨gb934, 0, none⟩ = some (.string (⟨#[]⟩ : ByteArray)) := (blk_cell BK934.out 0).trans rfl; have hcz16_1 : w14.cell? ⟨gb934, 1, none⟩ = some (.int .i64 0) := (blk_cell BK934.out 1).trans rfl; have hcz16_2 : w14.cell? ⟨gb934, 2, none⟩ = some (.int .i64 0) := (blk_cell BK934.out 2).trans rfl; have hfz16_0 := blk_frozen BK934.out 0; have hfz16_1 := blk_frozen BK934.out 1; have hfz16_2 := blk_frozen BK934.out 2))
         have n0_ : Aside0 (Kd.R Kd.string 9 (((w14.setCell ⟨gb934, 0, none⟩ (.string ((rd_T192 l0_2 x10_1).f0))).setCell ⟨gb934, 1, none⟩ (.int .i64 ((rd_T192 l0_2 x10_1).f1))).setCell ⟨gb934, 2, none⟩ (.int .i64 ((rd_T192 l0_2 x10_1).f2))) w.heap.size (fun _ => True) u3 x3_1) := ⟨by (with_reducible repeat (first | apply Kd.R_alloc | apply Kd.R_drewN | apply Kd.R_drew)); exact Kd.R_mono (Kd.R_far (p := ⟨gb934, 2, none⟩) (Kd.R_far (p := ⟨gb934, 1, none⟩) (Kd.R_far (p := ⟨gb934, 0, none⟩) (Kd.R_types HO_3.out BK934.out (by decide)) (fun _ hk => hk.2) (.string ((rd_T192 l0_2 x10_1).f0))) (fun _ hk => hk.2) (.int .i64 ((rd_T192 l0_2 x10_1).f1))) (fun _ hk => hk.2) (.int .i64 ((rd_T192 l0_2 x10_1).f2))) (fun _ hk => trivial)⟩
         have n1_ : Aside0 ((((w14.setCell ⟨gb934, 0, none⟩ (.string ((rd_T192 l0_2 x10_1).f0))).setCell ⟨gb934, 1, none⟩ (.int .i64 ((rd_T192 l0_2 x10_1).f1))).setCell ⟨gb934, 2, none⟩ (.int .i64 ((rd_T192 l0_2 x10_1).f2))).heap[gb929]? = some (.cells #[.int .i64 a0_0, .int .i64 a0_1, .slice (some ad933) l0_2.length c0_2] 83 (0, 0))) := ⟨by (with_reducible repeat (first | refine blk_drewN ?_ _ | refine blk_drew ?_ | refine blk_alloc ?_ _)); refine blk_far ?_ NB929_934.out _; (with_reducible repeat (first | refine blk_drewN ?_ _ | refine blk_drew ?_ | refine blk_alloc ?_ _)); refine blk_far ?_ NB929_934.out _; (with_reducible repeat (first | refine blk_drewN ?_ _ | refine blk_drew ?_ | refine blk_alloc ?_ _)); refine blk_far ?_ NB929_934.out _; (with_reducible repeat (first | refine blk_drewN ?_ _ | refine blk_drew ?_ | refine blk_alloc ?_ _)); exact BK929.out⟩
         have n2_ : Aside0 ((((w14.setCell ⟨gb934, 0, none⟩ (.string ((rd_T192 l0_2 x10_1).f0))).setCell ⟨gb934, 1, none⟩ (.int .i64 ((rd_T192 l0_2 x10_1).f1))).setCell ⟨gb934, 2, none⟩ (.int .i64 ((rd_T192 l0_2 x10_1).f2))).heap[gb934]? = some (.cells #[.string ((rd_T192 l0_2 x10_1).f0), .int .i64 ((rd_T192 l0_2 x10_1).f1), .int .i64 ((rd_T192 l0_2 x10_1).f2)] 192 (0, 0))) := ⟨by (with_reducible repeat (first | refine blk_drewN ?_ _ | refine blk_drew ?_ | refine blk_alloc ?_ _)); refine blk_put (cs := #[.string ((rd_T192 l0_2 x10_1).f0), .int .i64 ((rd_T192 l0_2 x10_1).f1), .int .i64 0]) ?_ 2 _ rfl; (with_reducible repeat (first | refine blk_drewN ?_ _ | refine blk_drew ?_ | refine blk_alloc ?_ _)); refine blk_put (cs := #[.string ((rd_T192 l0_2 x10_1).f0), .int .i64 0, .int .i64 0]) ?_ 1 _ rfl; (with_reducible repeat (first | refine blk_drewN ?_ _ | refine blk_drew ?_ | refine blk_alloc ?_ _)); refine blk_put (cs := #[.string (⟨#[]⟩ : ByteArray), .int .i64 0, .int .i64 0]) ?_ 0 _ rfl; (with_reducible repeat (first | refine blk_drewN ?_ _ | refine blk_drew ?_ | refine blk_alloc ?_ _)); exact BK934.out⟩
         have n3_ : Aside0 (Below w.heap.size w (((w14.setCell ⟨gb934, 0, none⟩ (.string ((rd_T192 l0_2 x10_1).f0))).setCell ⟨gb934, 1, none⟩ (.int .i64 ((rd_T192 l0_2 x10_1).f1))).setCell ⟨gb934, 2, none⟩ (.int .i64 ((rd_T192 l0_2 x10_1).f2)))) := ⟨by repeat (first | (with_reducible first | exact HB.out | apply below_alloc | apply pw_below_drewN | apply below_drew1 | refine below_set ?_ GE929.out | refine below_set ?_ GE934.out) | exact HB.out)⟩
         (try clear HO_3)
         (try clear BK929)
         (try clear BK934)
         (try clear HB)
         generalize (((w14.setCell ⟨gb934, 0, none⟩ (.string ((rd_T192 l0_2 x10_1).f0))).setCell ⟨gb934, 1, none⟩ (.int .i64 ((rd_T192 l0_2 x10_1).f1))).setCell ⟨gb934, 2, none⟩ (.int .i64 ((rd_T192 l0_2 x10_1).f2))) = w17 at n0_ n1_ n2_ n3_ ⊢
         have HO_3 := n0_
         have BK929 := n1_
         have BK934 := n2_
         have HB := n3_
         clear n0_ n1_ n2_ n3_
         have n0_ := Aside0.mk (Kd.R_drew HO_3.out)
         have n1_ := Aside0.mk (blk_drew BK929.out)
         have n2_ := Aside0.mk (blk_drew BK934.out)
         have n3_ := Aside0.mk (below_drew1 HB.out)
         clear HO_3
         clear BK929
         clear BK934
         clear HB
         have HO_3 := n0_
         have BK929 := n1_
         have BK934 := n2_
         have HB := n3_
         clear n0_ n1_ n2_ n3_
         refine start_ (n := 15) (S := fun w' => w'.cell? ⟨gb934, 0, none⟩ = some (.string ((rd_T192 l0_2 x10_1).f0)) ∧ w'.cell? ⟨gb934, 1, none⟩ = some (.int .i64 ((rd_T192 l0_2 x10_1).f1)) ∧ w'.cell? ⟨gb934, 2, none⟩ = some (.int .i64 ((rd_T192 l0_2 x10_1).f2))) (ds := []) #[false, false, false, false, false, false, false, false, false, false, false, false, false, false, false] (by kernel_rfl) rfl rfl ⟨(blk_cell BK934.out 0).trans rfl, (blk_cell BK934.out 1).trans rfl, (blk_cell BK934.out 2).trans rfl⟩ (fun hHeld => ?_); refine with_tabW impl_superBytes.tab5 impl_superBytes.bits5 (fun HT_ HW_ => ?_)
         generalize w17.drew = w18 at HO_3 BK929 BK934 HB hHeld ⊢
         refine pure_ (i := 0) (N := some 14) (v := ?_) (a' := ?_) #[true, false, false, false, false, false, false, false, false, false, false, false, false, false, false] rfl rfl (any_of HT_.out (by kernel_rfl)) (fun _ _ _ h => h) (Or.inl ⟨by rfl, ?_⟩) ?_ ?_
         rotate_left
         ·intro w'
          go_simp
          with_reducible rfl
         rotate_left
         ·simp only [Act.put, List.setIfInBounds_toArray, List.set_cons_zero, List.set_cons_succ, i64_w, i32_w]
          rfl
         refine pure_ (i := 1) (N := some 15) (v := ?_) (a' := ?_) #[true, true, false, false, false, false, false, false, false, false, false, false, false, false, false] rfl rfl (any_of HT_.out (by kernel_rfl)) (fun _ _ _ h => h) (Or.inl ⟨by rfl, ?_⟩) ?_ ?_
         rotate_left
         ·intro w'
          go_simp
          with_reducible rfl
         rotate_left
         ·simp only [Act.put, List.setIfInBounds_toArray, List.set_cons_zero, List.set_cons_succ, i64_w, i32_w]
          rfl
         refine pure_ (i := 5) (N := some 19) (v := ?_) (a' := ?_) #[true, true, false, false, false, true, false, false, false, false, false, false, false, false, false] rfl rfl (any_of HT_.out (by kernel_rfl)) (fun _ _ _ h => h) (Or.inl ⟨by rfl, ?_⟩) ?_ ?_
         rotate_left
         ·intro w'
          go_simp
          with_reducible rfl
         rotate_left
         ·simp only [Act.put, List.setIfInBounds_toArray, List.set_cons_zero, List.set_cons_succ, i64_w, i32_w]
          rfl
         refine pure_ (i := 9) (N := some 23) (v := ?_) (a' := ?_) #[true, true, false, false, false, true, false, false, false, true, false, false, false, false, false] rfl rfl (any_of HT_.out (by kernel_rfl)) (fun _ _ _ h => h) (Or.inl ⟨by rfl, ?_⟩) ?_ ?_
         rotate_left
         ·intro w'
          go_simp
          with_reducible rfl
         rotate_left
         ·simp only [Act.put, List.setIfInBounds_toArray, List.set_cons_zero, List.set_cons_succ, i64_w, i32_w]
          rfl
         refine take_ (i := 2) (N := some 16) (v := ?_) (a' := ?_) #[true, true, true, false, false, true, false, false, false, true, false, false, false, false, false] rfl rfl (take_ofW HT_.out HW_.out (by kernel_rfl)) (fun _ _ _ h => h) (Or.inl ⟨by rfl, ?_⟩) hHeld ?_ ?_
         rotate_left
         ·rintro w' ⟨s0, s1, s2⟩
          go_simp
          with_reducible rfl
         rotate_left
         ·simp only [Act.put, List.setIfInBounds_toArray, List.set_cons_zero, List.set_cons_succ, i64_w, i32_w]
          rfl
         refine pure_ (i := 3) (N := some 17) (v := ?_) (a' := ?_) #[true, true, true, true, false, true, false, false, false, true, false, false, false, false, false] rfl rfl (any_of HT_.out (by kernel_rfl)) (fun _ _ _ h => h) (Or.inl ⟨by rfl, ?_⟩) ?_ ?_
         rotate_left
         ·intro w'
          go_simp
          with_reducible rfl
         rotate_left
         ·simp only [Act.put, List.setIfInBounds_toArray, List.set_cons_zero, List.set_cons_succ, i64_w, i32_w]
          rfl
         refine take_ (i := 6) (N := some 20) (v := ?_) (a' := ?_) #[true, true, true, true, false, true, true, false, false, true, false, false, false, false, false] rfl rfl (take_ofW HT_.out HW_.out (by kernel_rfl)) (fun _ _ _ h => h) (Or.inl ⟨by rfl, ?_⟩) hHeld ?_ ?_
         rotate_left
         ·rintro w' ⟨s0, s1, s2⟩
          go_simp
          with_reducible rfl
         rotate_left
         ·simp only [Act.put, List.setIfInBounds_toArray, List.set_cons_zero, List.set_cons_succ, i64_w, i32_w]
          rfl
         refine take_ (i := 10) (N := some 24) (v := ?_) (a' := ?_) #[true, true, true, true, false, true, true, false, false, true, true, false, false, false, false] rfl rfl (take_ofW HT_.out HW_.out (by kernel_rfl)) (fun _ _ _ h => h) (Or.inl ⟨by rfl, ?_⟩) hHeld ?_ ?_
         rotate_left
         ·rintro w' ⟨s0, s1, s2⟩
          go_simp
          with_reducible rfl
         rotate_left
         ·simp only [Act.put, List.setIfInBounds_toArray, List.set_cons_zero, List.set_cons_succ, i64_w, i32_w]
          rfl
         refine one_ (i := 4) (N := some 18) #[true, true, true, true, true, true, true, false, false, true, true, false, false, false, false] rfl rfl (one_of HT_.out (by kernel_rfl)) (by decide) (fun K hK => ?_)
         refine goes_ Try.func160 (by kernel_rfl) rfl #[.int .i64 (wrap64 (((rd_T192 l0_2 x10_1).f1) + 1)), .int .i64 1] (by rfl) rfl rfl (by (try simp only [List.map_toArray, List.map_cons, List.map_nil]); first | done | rfl | (simp only [List.length_drop, List.length_take]; rfl)) ?_
         with_reducible refine (impl_inBytes.calls k1 (wrap64 (((rd_T192 l0_2 x10_1).f1) + 1)) 1 t935 _ A9.out).mono ?_
         rintro e w19 ⟨rfl, hb⟩
         refine ⟨_, rfl, ?_⟩
         have n0_ := Aside0.mk (Kd.R_below (by (with_reducible repeat (first | apply Kd.R_alloc | apply Kd.R_drewN | apply Kd.R_drew)); exact HO_3.out) hb)
         have n1_ := Aside0.mk (blk_below (g := gb929) (o := .cells #[.int .i64 a0_0, .int .i64 a0_1, .slice (some ad933) l0_2.length c0_2] 83 (0, 0)) (by (with_reducible repeat (first | refine blk_drewN ?_ _ | refine blk_drew ?_ | refine blk_alloc ?_ _)); exact BK929.out) hb)
         have n2_ := Aside0.mk (blk_below (g := gb934) (o := .cells #[.string ((rd_T192 l0_2 x10_1).f0), .int .i64 ((rd_T192 l0_2 x10_1).f1), .int .i64 ((rd_T192 l0_2 x10_1).f2)] 192 (0, 0)) (by (with_reducible repeat (first | refine blk_drewN ?_ _ | refine blk_drew ?_ | refine blk_alloc ?_ _)); exact BK934.out) hb)
         have n3_ := Aside0.mk (below_step (by repeat (first | (with_reducible first | exact HB.out | apply below_alloc | apply pw_below_drewN | apply below_drew1 | refine below_set ?_ GE929.out | refine below_set ?_ GE934.out) | exact HB.out)) hb)
         clear HO_3
         clear BK929
         clear BK934
         clear HB
         have HO_3 := n0_
         have BK929 := n1_
         have BK934 := n2_
         have HB := n3_
         clear n0_ n1_ n2_ n3_
         (try clear hb)
         (try clear hb2)
         (try clear hk)
         (try clear hi)
         refine hK.out _ _ ⟨(blk_cell BK934.out 0).trans rfl, (blk_cell BK934.out 1).trans rfl, (blk_cell BK934.out 2).trans rfl⟩ (fun hHeld => ?_)
         clear hK K
         refine norm_ (a' := ?_) ?_ ?_
         rotate_left
         ·show Act.put _ (some 18) _ = _
          simp only [Act.put, List.setIfInBounds_toArray, List.set_cons_zero, List.set_cons_succ, i64_w, i32_w]
          rfl
         refine one_ (i := 7) (N := some 21) #[true, true, true, true, true, true, true, true, false, true, true, false, false, false, false] rfl rfl (one_of HT_.out (by kernel_rfl)) (by decide) (fun K hK => ?_)
         refine goes_ Try.func160 (by kernel_rfl) rfl #[.int .i64 ((rd_T192 l0_2 x10_1).f2), .int .i64 2] (by rfl) rfl rfl (by (try simp only [List.map_toArray, List.map_cons, List.map_nil]); first | done | rfl | (simp only [List.length_drop, List.length_take]; rfl)) ?_
         with_reducible refine (impl_inBytes.calls k1 ((rd_T192 l0_2 x10_1).f2) 2 t936 _ A10.out).mono ?_
         rintro e w20 ⟨rfl, hb⟩
         refine ⟨_, rfl, ?_⟩
         have n0_ := Aside0.mk (Kd.R_below (by (with_reducible repeat (first | apply Kd.R_alloc | apply Kd.R_drewN | apply Kd.R_drew)); exact HO_3.out) hb)
         have n1_ := Aside0.mk (blk_below (g := gb929) (o := .cells #[.int .i64 a0_0, .int .i64 a0_1, .slice (some ad933) l0_2.length c0_2] 83 (0, 0)) (by (with_reducible repeat (first | refine blk_drewN ?_ _ | refine blk_drew ?_ | refine blk_alloc ?_ _)); exact BK929.out) hb)
         have n2_ := Aside0.mk (blk_below (g := gb934) (o := .cells #[.string ((rd_T192 l0_2 x10_1).f0), .int .i64 ((rd_T192 l0_2 x10_1).f1), .int .i64 ((rd_T192 l0_2 x10_1).f2)] 192 (0, 0)) (by (with_reducible repeat (first | refine blk_drewN ?_ _ | refine blk_drew ?_ | refine blk_alloc ?_ _)); exact BK934.out) hb)
         have n3_ := Aside0.mk (below_step (by repeat (first | (with_reducible first | exact HB.out | apply below_alloc | apply pw_below_drewN | apply below_drew1 | refine below_set ?_ GE929.out | refine below_set ?_ GE934.out) | exact HB.out)) hb)
         clear HO_3
         clear BK929
         clear BK934
         clear HB
         have HO_3 := n0_
         have BK929 := n1_
         have BK934 := n2_
         have HB := n3_
         clear n0_ n1_ n2_ n3_
         (try clear hb)
         (try clear hb2)
         (try clear hk)
         (try clear hi)
         refine hK.out _ _ ⟨(blk_cell BK934.out 0).trans rfl, (blk_cell BK934.out 1).trans rfl, (blk_cell BK934.out 2).trans rfl⟩ (fun hHeld => ?_)
         clear hK K
         refine norm_ (a' := ?_) ?_ ?_
         rotate_left
         ·show Act.put _ (some 21) _ = _
          simp only [Act.put, List.setIfInBounds_toArray, List.set_cons_zero, List.set_cons_succ, i64_w, i32_w]
          rfl
         refine pure_ (i := 8) (N := some 22) (v := ?_) (a' := ?_) #[true, true, true, true, true, true, true, true, true, true, true, false, false, false, false] rfl rfl (any_of HT_.out (by kernel_rfl)) (fun _ _ _ h => h) (Or.inl ⟨by rfl, ?_⟩) ?_ ?_
         rotate_left
         ·intro w'
          go_simp
          with_reducible rfl
         rotate_left
         ·simp only [Act.put, List.setIfInBounds_toArray, List.set_cons_zero, List.set_cons_succ, i64_w, i32_w]
          rfl
         refine pure_ (i := 11) (N := some 25) (v := ?_) (a' := ?_) #[true, true, true, true, true, true, true, true, true, true, true, true, false, false, false] rfl rfl (any_of HT_.out (by kernel_rfl)) (fun _ _ _ h => h) (Or.inl ⟨by rfl, ?_⟩) ?_ ?_
         rotate_left
         ·intro w'
          go_simp
          with_reducible rfl
         rotate_left
         ·simp only [Act.put, List.setIfInBounds_toArray, List.set_cons_zero, List.set_cons_succ, i64_w, i32_w]
          rfl
         refine one_ (i := 12) (N := some 26) #[true, true, true, true, true, true, true, true, true, true, true, true, true, false, false] rfl rfl (one_of HT_.out (by kernel_rfl)) (by decide) (fun K hK => ?_)
         refine value_ (w1 := ?_) (v := ?_) (by rfl) rfl ?_ ?_
         rotate_left 2
         ·go_simp
          constructor
          ·rfl
          ·rfl
         refine hK.out _ _ ⟨(blk_cell (blk_alloc BK934.out _) 0).trans rfl, (blk_cell (blk_alloc BK934.out _) 1).trans rfl, (blk_cell (blk_alloc BK934.out _) 2).trans rfl⟩ (fun hHeld => ?_)
         clear hK K
         refine norm_ (a' := ?_) ?_ ?_
         rotate_left
         ·show Act.put _ (some 26) _ = _
          simp only [Act.put, List.setIfInBounds_toArray, List.set_cons_zero, List.set_cons_succ, i64_w, i32_w]
          rfl
         refine one_ (i := 13) (N := some 27) #[true, true, true, true, true, true, true, true, true, true, true, true, true, true, false] rfl rfl (one_of HT_.out (by kernel_rfl)) (by decide) (fun K hK => ?_)
         refine Kd.R_append_step Kd.string (w0 := w) w.heap.size (by rfl) (.tmp 14) (.tmp 26) 48 9 (.string ⟨#[]⟩) 16 rfl Try.underlying48 info9 rfl (by decide) (by omega) u3 x3_1 ((t935 ++ t936) ++ ((rd_T192 l0_2 x10_1).f0)) [.string ((t935 ++ t936) ++ ((rd_T192 l0_2 x10_1).f0))] (fun _ => True) (fun _ => False) rfl rfl ?aP (fun _ hk => hk.elim) ?aF ?aO ?aB ?aS ?aL ?_
         (case aP => exact rfl)
         (case aB => exact (by repeat (first | (with_reducible first | exact HB.out | apply below_alloc | apply pw_below_drewN | apply below_drew1 | refine below_set ?_ GE929.out | refine below_set ?_ GE934.out) | exact HB.out)))
         (case aF => exact (fun _ _ => trivial))
         (case aO => exact (by (with_reducible repeat (first | apply Kd.R_alloc | apply Kd.R_drewN | apply Kd.R_drew)); exact HO_3.out))
         (case aS => exact (below_size (by repeat (first | (with_reducible first | exact HB.out | apply below_alloc | apply pw_below_drewN | apply below_drew1 | refine below_set ?_ GE929.out | refine below_set ?_ GE934.out) | exact HB.out))))
         (case aL => have := LMc13.out; omega)
         intro v938 w21 ho hb hg hat
         rw [← Ny937.out] at ho
         have n0_ := Aside0.mk (blk_grown (g := gb929) (o := .cells #[.int .i64 a0_0, .int .i64 a0_1, .slice (some ad933) l0_2.length c0_2] 83 (0, 0)) (by (with_reducible repeat (first | refine blk_drewN ?_ _ | refine blk_drew ?_ | refine blk_alloc ?_ _)); exact BK929.out) hg (Kd.R_ne HO_3.out BK929.out (by decide)))
         have n1_ := Aside0.mk (blk_grown (g := gb934) (o := .cells #[.string ((rd_T192 l0_2 x10_1).f0), .int .i64 ((rd_T192 l0_2 x10_1).f1), .int .i64 ((rd_T192 l0_2 x10_1).f2)] 192 (0, 0)) (by (with_reducible repeat (first | refine blk_drewN ?_ _ | refine blk_drew ?_ | refine blk_alloc ?_ _)); exact BK934.out) hg (Kd.R_ne HO_3.out BK934.out (by decide)))
         have n2_ := Aside0.mk (hb)
         have n3_ := Aside0.mk (ho)
         clear BK929
         clear BK934
         clear HB
         clear HO_3
         have BK929 := n0_
         have BK934 := n1_
         have HB := n2_
         have HO939 := n3_
         clear n0_ n1_ n2_ n3_
         clear ho hb hg hat
         refine hK.out _ _ ⟨(blk_cell BK934.out 0).trans rfl, (blk_cell BK934.out 1).trans rfl, (blk_cell BK934.out 2).trans rfl⟩ (fun hHeld => ?_)
         clear hK K
         refine norm_ (a' := ?_) ?_ ?_
         rotate_left
         ·show Act.put _ (some 27) _ = _
          simp only [Act.put, List.setIfInBounds_toArray, List.set_cons_zero, List.set_cons_succ, i64_w, i32_w]
          rfl
         refine pure_ (i := 14) (N := some 3) (v := ?_) (a' := ?_) #[true, true, true, true, true, true, true, true, true, true, true, true, true, true, true] rfl rfl (any_of HT_.out (by kernel_rfl)) (fun _ _ _ h => h) (Or.inl ⟨by rfl, ?_⟩) ?_ ?_
         rotate_left
         ·intro w'
          go_simp
          with_reducible rfl
         rotate_left
         ·simp only [Act.put, List.setIfInBounds_toArray, List.set_cons_zero, List.set_cons_succ, i64_w, i32_w]
          rfl
         refine done_ (done_of HT_.out (by kernel_rfl)) ?_
         try go_wp2
         go_roundg k1
         case measure => have := HK1.out; omega
         case rel => exact ⟨(y937), (wrap64 (x10_1 + 1)), (by first | rfl | (simp; done) | (simp [*]; done)), H', ⟨by have := HK1.out; omega⟩, ⟨by (with_reducible repeat (first | apply Kd.R_alloc | apply Kd.R_drewN | apply Kd.R_drew)); exact HO939.out⟩, ⟨by (with_reducible repeat (first | refine blk_drewN ?_ _ | refine blk_drew ?_ | refine blk_alloc ?_ _)); exact BK929.out⟩, ⟨by repeat (first | (with_reducible first | exact HB.out | apply below_alloc | apply pw_below_drewN | apply below_drew1 | refine below_set ?_ GE929.out | refine below_set ?_ GE934.out) | exact HB.out)⟩⟩
        ·rw [if_neg c13] at H
         exact absurd H (by simp)
       ·rw [if_neg c12] at H
        exact absurd H (by simp)
      ·rw [if_neg c11] at H
       exact absurd H (by simp)
     ·rw [if_neg c8] at H
      exact absurd H (by simp)
    ·rw [if_neg c7] at H
     exact absurd H (by simp)
   ·rw [if_neg c6] at H
    have c6b0 : decide (x10_1 < (l0_2.length : Int)) = false := decide_eq_false c6
    clear c6
    replace H := Option.bind_eq_some_iff.mp H
    obtain ⟨t940, A220, H⟩ := H
    replace H : (if 1 + t940.size ≤ 9223372036854775807 then ((impl_inBytes.f k1 (wrap64 (a0_1 + 1)) 1).bind fun t941 => (if ((⟨#[115]⟩ : ByteArray) ++ t940).size + t941.size ≤ 9223372036854775807 then ((impl_fields.f x3_1).bind fun t942 => (if (((⟨#[115]⟩ : ByteArray) ++ t940) ++ t941).size + t942.size ≤ 9223372036854775807 then ((impl_sealed.f k1 ((((⟨#[115]⟩ : ByteArray) ++ t940) ++ t941) ++ t942)).bind fun t943 => (some t943)) else (none))) else (none))) else (none)) = some r := H
    have A22 := Aside0.mk A220
    clear A220
    by_cases c23 : 1 + t940.size ≤ 9223372036854775807
    ·rw [if_pos c23] at H
     have c23b0 := eq_true c23
     have c23b1 : decide (1 + t940.size ≤ 9223372036854775807) = true := decide_eq_true c23
     try have c23b2 : (9223372036854775807 < 1 + t940.size) = False := eq_false (Nat.not_lt.2 c23)
     replace H := Option.bind_eq_some_iff.mp H
     obtain ⟨t941, A240, H⟩ := H
     replace H : (if ((⟨#[115]⟩ : ByteArray) ++ t940).size + t941.size ≤ 9223372036854775807 then ((impl_fields.f x3_1).bind fun t942 => (if (((⟨#[115]⟩ : ByteArray) ++ t940) ++ t941).size + t942.size ≤ 9223372036854775807 then ((impl_sealed.f k1 ((((⟨#[115]⟩ : ByteArray) ++ t940) ++ t941) ++ t942)).bind fun t943 => (some t943)) else (none))) else (none)) = some r := H
     have A24 := Aside0.mk A240
     clear A240
     by_cases c25 : ((⟨#[115]⟩ : ByteArray) ++ t940).size + t941.size ≤ 9223372036854775807
     ·rw [if_pos c25] at H
      have c25b0 := eq_true c25
      have c25b1 : decide (((⟨#[115]⟩ : ByteArray) ++ t940).size + t941.size ≤ 9223372036854775807) = true := decide_eq_true c25
      try have c25b2 : (9223372036854775807 < ((⟨#[115]⟩ : ByteArray) ++ t940).size + t941.size) = False := eq_false (Nat.not_lt.2 c25)
      try have c25b3 : (9223372036854775807 < 1 + t940.size + t941.size) = False := by have z_ := c25b2; simp only [ByteArray.size_append] at z_; exact z_
      replace H := Option.bind_eq_some_iff.mp H
      obtain ⟨t942, A260, H⟩ := H
      replace H : (if (((⟨#[115]⟩ : ByteArray) ++ t940) ++ t941).size + t942.size ≤ 9223372036854775807 then ((impl_sealed.f k1 ((((⟨#[115]⟩ : ByteArray) ++ t940) ++ t941) ++ t942)).bind fun t943 => (some t943)) else (none)) = some r := H
      have A26 := Aside0.mk A260
      clear A260
      by_cases c27 : (((⟨#[115]⟩ : ByteArray) ++ t940) ++ t941).size + t942.size ≤ 9223372036854775807
      ·rw [if_pos c27] at H
       have c27b0 := eq_true c27
       have c27b1 : decide ((((⟨#[115]⟩ : ByteArray) ++ t940) ++ t941).size + t942.size ≤ 9223372036854775807) = true := decide_eq_true c27
       try have c27b2 : (9223372036854775807 < (((⟨#[115]⟩ : ByteArray) ++ t940) ++ t941).size + t942.size) = False := eq_false (Nat.not_lt.2 c27)
       try have c27b3 : (9223372036854775807 < 1 + t940.size + t941.size + t942.size) = False := by have z_ := c27b2; simp only [ByteArray.size_append] at z_; exact z_
       replace H := Option.bind_eq_some_iff.mp H
       obtain ⟨t943, A280, H⟩ := H
       replace H : (some t943) = some r := H
       have A28 := Aside0.mk A280
       clear A280
       obtain rfl := Option.some.inj H
       try go_wp2
       have n0_ := Aside0.mk (Kd.R_drew HO_3.out)
       have n1_ := Aside0.mk (blk_drew BK929.out)
       have n2_ := Aside0.mk (below_drew1 HB.out)
       clear HO_3
       clear BK929
       clear HB
       have HO_3 := n0_
       have BK929 := n1_
       have HB := n2_
       clear n0_ n1_ n2_
       refine start_ (n := 14) (S := fun w' => w'.cell? ⟨gb929, 0, none⟩ = some (.int .i64 a0_0) ∧ w'.cell? ⟨gb929, 1, none⟩ = some (.int .i64 a0_1) ∧ w'.cell? ⟨gb929, 2, none⟩ = some (.slice A0_2 l0_2.length c0_2)) (ds := []) #[false, false, false, false, false, false, false, false, false, false, false, false, false, false] (by kernel_rfl) rfl rfl ⟨(blk_cell BK929.out 0).trans rfl, (blk_cell BK929.out 1).trans rfl, (blk_cell BK929.out 2).trans rfl⟩ (fun hHeld => ?_); refine with_tabW impl_superBytes.tab7 impl_superBytes.bits7 (fun HT_ HW_ => ?_)
       generalize wr.drew = w29 at HO_3 BK929 HB hHeld ⊢
       refine pure_ (i := 0) (N := some 29) (v := ?_) (a' := ?_) #[true, false, false, false, false, false, false, false, false, false, false, false, false, false] rfl rfl (any_of HT_.out (by kernel_rfl)) (fun _ _ _ h => h) (Or.inl ⟨by rfl, ?_⟩) ?_ ?_
       rotate_left
       ·intro w'
        go_simp
        with_reducible rfl
       rotate_left
       ·simp only [Act.put, List.setIfInBounds_toArray, List.set_cons_zero, List.set_cons_succ, i64_w, i32_w]
        rfl
       refine pure_ (i := 4) (N := some 33) (v := ?_) (a' := ?_) #[true, false, false, false, true, false, false, false, false, false, false, false, false, false] rfl rfl (any_of HT_.out (by kernel_rfl)) (fun _ _ _ h => h) (Or.inl ⟨by rfl, ?_⟩) ?_ ?_
       rotate_left
       ·intro w'
        go_simp
        with_reducible rfl
       rotate_left
       ·simp only [Act.put, List.setIfInBounds_toArray, List.set_cons_zero, List.set_cons_succ, i64_w, i32_w]
        rfl
       refine pure_ (i := 9) (N := some 38) (v := ?_) (a' := ?_) #[true, false, false, false, true, false, false, false, false, true, false, false, false, false] rfl rfl (any_of HT_.out (by kernel_rfl)) (fun _ _ _ h => h) (Or.inl ⟨by rfl, ?_⟩) ?_ ?_
       rotate_left
       ·intro w'
        go_simp
        with_reducible rfl
       rotate_left
       ·simp only [Act.put, List.setIfInBounds_toArray, List.set_cons_zero, List.set_cons_succ, i64_w, i32_w]
        rfl
       refine take_ (i := 1) (N := some 30) (v := ?_) (a' := ?_) #[true, true, false, false, true, false, false, false, false, true, false, false, false, false] rfl rfl (take_ofW HT_.out HW_.out (by kernel_rfl)) (fun _ _ _ h => h) (Or.inl ⟨by rfl, ?_⟩) hHeld ?_ ?_
       rotate_left
       ·rintro w' ⟨s0, s1, s2⟩
        go_simp
        with_reducible rfl
       rotate_left
       ·simp only [Act.put, List.setIfInBounds_toArray, List.set_cons_zero, List.set_cons_succ, i64_w, i32_w]
        rfl
       refine take_ (i := 5) (N := some 34) (v := ?_) (a' := ?_) #[true, true, false, false, true, true, false, false, false, true, false, false, false, false] rfl rfl (take_ofW HT_.out HW_.out (by kernel_rfl)) (fun _ _ _ h => h) (Or.inl ⟨by rfl, ?_⟩) hHeld ?_ ?_
       rotate_left
       ·rintro w' ⟨s0, s1, s2⟩
        go_simp
        with_reducible rfl
       rotate_left
       ·simp only [Act.put, List.setIfInBounds_toArray, List.set_cons_zero, List.set_cons_succ, i64_w, i32_w]
        rfl
       refine pure_ (i := 6) (N := some 35) (v := ?_) (a' := ?_) #[true, true, false, false, true, true, true, false, false, true, false, false, false, false] rfl rfl (any_of HT_.out (by kernel_rfl)) (fun _ _ _ h => h) (Or.inl ⟨by rfl, ?_⟩) ?_ ?_
       rotate_left
       ·intro w'
        go_simp
        with_reducible rfl
       rotate_left
       ·simp only [Act.put, List.setIfInBounds_toArray, List.set_cons_zero, List.set_cons_succ, i64_w, i32_w]
        rfl
       refine one_ (i := 2) (N := some 31) #[true, true, true, false, true, true, true, false, false, true, false, false, false, false] rfl rfl (one_of HT_.out (by kernel_rfl)) (by decide) (fun K hK => ?_)
       refine goes_ Try.func160 (by kernel_rfl) rfl #[.int .i64 a0_0, .int .i64 1] (by rfl) rfl rfl (by (try simp only [List.map_toArray, List.map_cons, List.map_nil]); first | done | rfl | (simp only [List.length_drop, List.length_take]; rfl)) ?_
       with_reducible refine (impl_inBytes.calls k1 a0_0 1 t940 _ A22.out).mono ?_
       rintro e w30 ⟨rfl, hb⟩
       refine ⟨_, rfl, ?_⟩
       have n0_ := Aside0.mk (Kd.R_below (by (with_reducible repeat (first | apply Kd.R_alloc | apply Kd.R_drewN | apply Kd.R_drew)); exact HO_3.out) hb)
       have n1_ := Aside0.mk (blk_below (g := gb929) (o := .cells #[.int .i64 a0_0, .int .i64 a0_1, .slice A0_2 l0_2.length c0_2] 83 (0, 0)) (by (with_reducible repeat (first | refine blk_drewN ?_ _ | refine blk_drew ?_ | refine blk_alloc ?_ _)); exact BK929.out) hb)
       have n2_ := Aside0.mk (below_step (by repeat (first | (with_reducible first | exact HB.out | apply below_alloc | apply pw_below_drewN | apply below_drew1 | refine below_set ?_ GE929.out) | exact HB.out)) hb)
       clear HO_3
       clear BK929
       clear HB
       have HO_3 := n0_
       have BK929 := n1_
       have HB := n2_
       clear n0_ n1_ n2_
       (try clear hb)
       (try clear hb2)
       (try clear hk)
       (try clear hi)
       refine hK.out _ _ ⟨(blk_cell BK929.out 0).trans rfl, (blk_cell BK929.out 1).trans rfl, (blk_cell BK929.out 2).trans rfl⟩ (fun hHeld => ?_)
       clear hK K
       refine norm_ (a' := ?_) ?_ ?_
       rotate_left
       ·show Act.put _ (some 31) _ = _
        simp only [Act.put, List.setIfInBounds_toArray, List.set_cons_zero, List.set_cons_succ, i64_w, i32_w]
        rfl
       refine pure_ (i := 3) (N := some 32) (v := ?_) (a' := ?_) #[true, true, true, true, true, true, true, false, false, true, false, false, false, false] rfl rfl (any_of HT_.out (by kernel_rfl)) (fun _ _ _ h => h) (Or.inl ⟨by rfl, ?_⟩) ?_ ?_
       rotate_left
       ·intro w'
        go_simp
        with_reducible rfl
       rotate_left
       ·simp only [Act.put, List.setIfInBounds_toArray, List.set_cons_zero, List.set_cons_succ, i64_w, i32_w]
        rfl
       refine one_ (i := 7) (N := some 36) #[true, true, true, true, true, true, true, true, false, true, false, false, false, false] rfl rfl (one_of HT_.out (by kernel_rfl)) (by decide) (fun K hK => ?_)
       refine goes_ Try.func160 (by kernel_rfl) rfl #[.int .i64 (wrap64 (a0_1 + 1)), .int .i64 1] (by rfl) rfl rfl (by (try simp only [List.map_toArray, List.map_cons, List.map_nil]); first | done | rfl | (simp only [List.length_drop, List.length_take]; rfl)) ?_
       with_reducible refine (impl_inBytes.calls k1 (wrap64 (a0_1 + 1)) 1 t941 _ A24.out).mono ?_
       rintro e w31 ⟨rfl, hb⟩
       refine ⟨_, rfl, ?_⟩
       have n0_ := Aside0.mk (Kd.R_below (by (with_reducible repeat (first | apply Kd.R_alloc | apply Kd.R_drewN | apply Kd.R_drew)); exact HO_3.out) hb)
       have n1_ := Aside0.mk (blk_below (g := gb929) (o := .cells #[.int .i64 a0_0, .int .i64 a0_1, .slice A0_2 l0_2.length c0_2] 83 (0, 0)) (by (with_reducible repeat (first | refine blk_drewN ?_ _ | refine blk_drew ?_ | refine blk_alloc ?_ _)); exact BK929.out) hb)
       have n2_ := Aside0.mk (below_step (by repeat (first | (with_reducible first | exact HB.out | apply below_alloc | apply pw_below_drewN | apply below_drew1 | refine below_set ?_ GE929.out) | exact HB.out)) hb)
       clear HO_3
       clear BK929
       clear HB
       have HO_3 := n0_
       have BK929 := n1_
       have HB := n2_
       clear n0_ n1_ n2_
       (try clear hb)
       (try clear hb2)
       (try clear hk)
       (try clear hi)
       obtain ⟨Ao32, co32, eo32⟩ := Kd.R_slice HO_3.out
       (first | subst eo32 | (injection eo32 with f1_ f2_ f3_; have f4_ := f1_.symm; have f5_ := f3_.symm; clear f1_ f2_ f3_; subst f4_; subst f5_))
       refine hK.out _ _ ⟨(blk_cell BK929.out 0).trans rfl, (blk_cell BK929.out 1).trans rfl, (blk_cell BK929.out 2).trans rfl⟩ (fun hHeld => ?_)
       clear hK K
       refine norm_ (a' := ?_) ?_ ?_
       rotate_left
       ·show Act.put _ (some 36) _ = _
        simp only [Act.put, List.setIfInBounds_toArray, List.set_cons_zero, List.set_cons_succ, i64_w, i32_w]
        rfl
       refine pure_ (i := 8) (N := some 37) (v := ?_) (a' := ?_) #[true, true, true, true, true, true, true, true, true, true, false, false, false, false] rfl rfl (any_of HT_.out (by kernel_rfl)) (fun _ _ _ h => h) (Or.inl ⟨by rfl, ?_⟩) ?_ ?_
       rotate_left
       ·intro w'
        go_simp
        with_reducible rfl
       rotate_left
       ·simp only [Act.put, List.setIfInBounds_toArray, List.set_cons_zero, List.set_cons_succ, i64_w, i32_w]
        rfl
       refine one_ (i := 10) (N := some 39) #[true, true, true, true, true, true, true, true, true, true, true, false, false, false] rfl rfl (one_of HT_.out (by kernel_rfl)) (by decide) (fun K hK => ?_)
       refine goes_ Try.func131 (by kernel_rfl) rfl #[.slice Ao32 x3_1.length co32] (by rfl) rfl rfl (by (try simp only [List.map_toArray, List.map_cons, List.map_nil]); first | done | rfl | (simp only [List.length_drop, List.length_take]; rfl)) ?_
       with_reducible refine (impl_fields.calls _ _ x3_1 t942 _ ?side1 ?side2 A26.out).mono ?_
       (case side1 => repeat (first | exact (Kd.R_reads' HO_3.out).2.2 | (with_reducible refine Kd.C_alloc ?_ _) | (with_reducible refine Kd.C_drewN ?_ _) | (with_reducible refine Kd.C_drew ?_)))
       (case side2 => exact (Kd.R_reads' HO_3.out).2.1)
       rintro e w33 ⟨rfl, hb⟩
       refine ⟨_, rfl, ?_⟩
       have n0_ := Aside0.mk (Kd.R_below (by (with_reducible repeat (first | apply Kd.R_alloc | apply Kd.R_drewN | apply Kd.R_drew)); exact HO_3.out) hb)
       have n1_ := Aside0.mk (blk_below (g := gb929) (o := .cells #[.int .i64 a0_0, .int .i64 a0_1, .slice A0_2 l0_2.length c0_2] 83 (0, 0)) (by (with_reducible repeat (first | refine blk_drewN ?_ _ | refine blk_drew ?_ | refine blk_alloc ?_ _)); exact BK929.out) hb)
       have n2_ := Aside0.mk (below_step (by repeat (first | (with_reducible first | exact HB.out | apply below_alloc | apply pw_below_drewN | apply below_drew1 | refine below_set ?_ GE929.out) | exact HB.out)) hb)
       clear HO_3
       clear BK929
       clear HB
       have HO_3 := n0_
       have BK929 := n1_
       have HB := n2_
       clear n0_ n1_ n2_
       (try clear hb)
       (try clear hb2)
       (try clear hk)
       (try clear hi)
       refine hK.out _ _ ⟨(blk_cell BK929.out 0).trans rfl, (blk_cell BK929.out 1).trans rfl, (blk_cell BK929.out 2).trans rfl⟩ (fun hHeld => ?_)
       clear hK K
       refine norm_ (a' := ?_) ?_ ?_
       rotate_left
       ·show Act.put _ (some 39) _ = _
        simp only [Act.put, List.setIfInBounds_toArray, List.set_cons_zero, List.set_cons_succ, i64_w, i32_w]
        rfl
       refine pure_ (i := 11) (N := some 40) (v := ?_) (a' := ?_) #[true, true, true, true, true, true, true, true, true, true, true, true, false, false] rfl rfl (any_of HT_.out (by kernel_rfl)) (fun _ _ _ h => h) (Or.inl ⟨by rfl, ?_⟩) ?_ ?_
       rotate_left
       ·intro w'
        go_simp
        with_reducible rfl
       rotate_left
       ·simp only [Act.put, List.setIfInBounds_toArray, List.set_cons_zero, List.set_cons_succ, i64_w, i32_w]
        rfl
       refine one_ (i := 12) (N := some 41) #[true, true, true, true, true, true, true, true, true, true, true, true, true, false] rfl rfl (one_of HT_.out (by kernel_rfl)) (by decide) (fun K hK => ?_)
       refine goes_ Try.func130 (by kernel_rfl) rfl #[.string ((((⟨#[115]⟩ : ByteArray) ++ t940) ++ t941) ++ t942)] (by rfl) rfl rfl (by (try simp only [List.map_toArray, List.map_cons, List.map_nil]); first | done | rfl | (simp only [List.length_drop, List.length_take]; rfl)) ?_
       with_reducible refine (impl_sealed.calls k1 ((((⟨#[115]⟩ : ByteArray) ++ t940) ++ t941) ++ t942) t943 _ A28.out).mono ?_
       rintro e w34 ⟨rfl, hb⟩
       refine ⟨_, rfl, ?_⟩
       have n0_ := Aside0.mk (Kd.R_below (by (with_reducible repeat (first | apply Kd.R_alloc | apply Kd.R_drewN | apply Kd.R_drew)); exact HO_3.out) hb)
       have n1_ := Aside0.mk (blk_below (g := gb929) (o := .cells #[.int .i64 a0_0, .int .i64 a0_1, .slice A0_2 l0_2.length c0_2] 83 (0, 0)) (by (with_reducible repeat (first | refine blk_drewN ?_ _ | refine blk_drew ?_ | refine blk_alloc ?_ _)); exact BK929.out) hb)
       have n2_ := Aside0.mk (below_step (by repeat (first | (with_reducible first | exact HB.out | apply below_alloc | apply pw_below_drewN | apply below_drew1 | refine below_set ?_ GE929.out) | exact HB.out)) hb)
       clear HO_3
       clear BK929
       clear HB
       have HO_3 := n0_
       have BK929 := n1_
       have HB := n2_
       clear n0_ n1_ n2_
       (try clear hb)
       (try clear hb2)
       (try clear hk)
       (try clear hi)
       refine hK.out _ _ ⟨(blk_cell BK929.out 0).trans rfl, (blk_cell BK929.out 1).trans rfl, (blk_cell BK929.out 2).trans rfl⟩ (fun hHeld => ?_)
       clear hK K
       refine norm_ (a' := ?_) ?_ ?_
       rotate_left
       ·show Act.put _ (some 41) _ = _
        simp only [Act.put, List.setIfInBounds_toArray, List.set_cons_zero, List.set_cons_succ, i64_w, i32_w]
        rfl
       refine pure_ (i := 13) (N := some 2) (v := ?_) (a' := ?_) #[true, true, true, true, true, true, true, true, true, true, true, true, true, true] rfl rfl (any_of HT_.out (by kernel_rfl)) (fun _ _ _ h => h) (Or.inl ⟨by rfl, ?_⟩) ?_ ?_
       rotate_left
       ·intro w'
        go_simp
        with_reducible rfl
       rotate_left
       ·simp only [Act.put, List.setIfInBounds_toArray, List.set_cons_zero, List.set_cons_succ, i64_w, i32_w]
        rfl
       refine done_ (done_of HT_.out (by kernel_rfl)) ?_
       try go_wp2
       go_ret
       exact ⟨by first | rfl | (simp [errW_none, errW_some] <;> rfl) | (simp [*, errW_none, errW_some] <;> rfl), by repeat (first | (with_reducible first | exact HB.out | apply below_alloc | apply pw_below_drewN | apply below_drew1 | refine below_set ?_ GE929.out) | exact HB.out)⟩
      ·rw [if_neg c27] at H
       exact absurd H (by simp)
     ·rw [if_neg c25] at H
      exact absurd H (by simp)
    ·rw [if_neg c23] at H
     exact absurd H (by simp)
end Go.Proofs.Ytenfomejccfkgaa.X
