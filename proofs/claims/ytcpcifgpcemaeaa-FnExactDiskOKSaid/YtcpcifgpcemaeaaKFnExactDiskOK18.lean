import Derived.Test.YtcpcifgpcemaeaaKFnExactDiskOK3
import Derived.Test.YtcpcifgpcemaeaaKFnExactDiskOK4
import Derived.Test.YtcpcifgpcemaeaaKFnExactDiskOK10
import Derived.Test.YtcpcifgpcemaeaaKFnExactDiskOK15
import Derived.Test.YtcpcifgpcemaeaaKFnExactDiskOK16
import Derived.Test.YtcpcifgpcemaeaaKFnExactDiskOK17
import Derived.Test.YtcpcifgpcemaeaaRows
import Derived.WalkKit
import Derived.ProofKit
import Derived.OpenShut
import Derived.ShutString
import Derived.ChangeOld
import Derived.Below
import Derived.SizedLaws
namespace Go.Proofs.Ytcpcifgpcemaeaa.X
open Go.RowKit Go.Proofs.YtcpcifgpcemaeaaW.PrintWords Go.Proofs.YtcpcifgpcemaeaaW.PrintLast Go.Proofs.YtcpcifgpcemaeaaW.PrintMore
attribute [local go_sem] xbin_geq xbin_leq xbin_gtr max2_int min2_int max_two min_two max_three min_three max_four min_four
set_option linter.unusedVariables false
set_option linter.unusedSimpArgs false
def impl_NewDisk.f (a0 : Int) : Option (List ByteArray × (List (S95)) × Bool × List Int × Int) := (impl_within.f a0 1 80).bind fun t124 => (if t124 = true then (if 0 ≤ a0 then (if (a0 : Int).toNat ≤ 17592186044416 then (some ((List.replicate (a0 : Int).toNat (⟨#[]⟩ : ByteArray)), ([] : List (S95)), false, ([] : List Int), 0)) else (none)) else (none)) else (some (([] : List ByteArray), ([] : List (S95)), false, ([] : List Int), 4)))
set_option maxHeartbeats 8000000 in
set_option maxRecDepth 100000 in
theorem impl_NewDisk.calls (a0 : Int) (r1 : List ByteArray) (r2 : List (S95)) (r3 : Bool) (r4 : List Int) (r5 : Int) (w : World) (h : impl_NewDisk.f a0 = some (r1, r2, r3, r4, r5)) :
  Calls Try.prog 16 #[.int .i64 a0] w fun e w' => ∃ v0_ v1_ v3_ : Value, e = .returned (.tuple #[.agg #[v0_, v1_, .bool r3, v3_], .int .i64 r5]) ∧ Kd.R Kd.string 9 w' w.heap.size (fun _ => True) v0_ r1 ∧ Kd.R k95 95 w' w.heap.size (fun _ => True) v1_ r2 ∧ Kd.R (Kd.int .i64) 3 w' w.heap.size (fun _ => True) v3_ r4 ∧ Below w.heap.size w w' := by
 have hu26 := Try.underlying26
 have HB := Aside0.mk (Below.refl w.heap.size w)
 have H : ((impl_within.f a0 1 80).bind fun t124 => (if t124 = true then (if 0 ≤ a0 then (if (a0 : Int).toNat ≤ 17592186044416 then (some ((List.replicate (a0 : Int).toNat (⟨#[]⟩ : ByteArray)), ([] : List (S95)), false, ([] : List Int), 0)) else (none)) else (none)) else (some (([] : List ByteArray), ([] : List (S95)), false, ([] : List Int), 4)))) = some (r1, r2, r3, r4, r5) := h
 clear h
 replace H := Option.bind_eq_some_iff.mp H
 obtain ⟨t124, A20, H⟩ := H
 replace H : (if t124 = true then (if 0 ≤ a0 then (if (a0 : Int).toNat ≤ 17592186044416 then (some ((List.replicate (a0 : Int).toNat (⟨#[]⟩ : ByteArray)), ([] : List (S95)), false, ([] : List Int), 0)) else (none)) else (none)) else (some (([] : List ByteArray), ([] : List (S95)), false, ([] : List Int), 4))) = some (r1, r2, r3, r4, r5) := H
 have A2 := Aside0.mk A20
 clear A20
 by_cases c3 : t124 = true
 ·subst c3
  have H1 : (if 0 ≤ a0 then (if (a0 : Int).toNat ≤ 17592186044416 then (some ((List.replicate (a0 : Int).toNat (⟨#[]⟩ : ByteArray)), ([] : List (S95)), false, ([] : List Int), 0)) else (none)) else (none)) = some (r1, r2, r3, r4, r5) := by rw [if_pos rfl] at H; exact H
  clear H
  have H := H1
  clear H1
  by_cases c4 : 0 ≤ a0
  ·rw [if_pos c4] at H
   have c4b0 := eq_true c4
   have c4b1 : decide (0 ≤ a0) = true := decide_eq_true c4
   clear c4
   by_cases c5 : (a0 : Int).toNat ≤ 17592186044416
   ·rw [if_pos c5] at H
    have c5b0 := eq_true c5
    have c5b1 : decide ((a0 : Int).toNat ≤ 17592186044416) = true := decide_eq_true c5
    clear c5
    obtain ⟨y125, hy125⟩ : ∃ y_ : List ByteArray, y_ = (List.replicate (a0 : Int).toNat (⟨#[]⟩ : ByteArray)) := ⟨_, rfl⟩
    replace H : (some (y125, ([] : List (S95)), false, ([] : List Int), 0)) = some (r1, r2, r3, r4, r5) := by first | (rw [hy125]; with_reducible exact H) | (have H2_ := (Option.bind_some _ _).symm.trans H; rw [hy125]; with_reducible exact H2_) | (have H2_ := (Option.bind_some _ _).symm.trans H; with_reducible exact H2_) | with_reducible exact H | (rw [hy125]; exact H) | exact H
    have Ny125 := Aside0.mk hy125
    clear hy125
    simp only [Option.some.injEq, Prod.mk.injEq] at H
    obtain ⟨rfl, rfl, rfl, rfl, rfl⟩ := H
    go_enter Try.func16, Try.ntmps16
    go_wp2_with (first | ((with_reducible refine gate_dst (N := 2) rfl ?_); refine box_event ?hg (N := 2) ?hd (cs := #[.slice none 0 0, .slice none 0 0, .bool false, .slice none 0 0]) (t := 26) ?hr ?_; (case hd => rfl); (case hg => rfl); (case hr => first | (go_simp; done) | (go_simp; rfl)); intro gb123 hg w6 hbox hb; have n0_ := Aside0.mk (below_step (by repeat (first | (with_reducible first | exact HB.out | apply below_alloc | apply pw_below_drewN | apply below_drew1) | exact HB.out)) hb); have n1_ := Aside0.mk (hbox); have n2_ := Aside0.mk ((by rw [hg]; exact (below_size (by repeat (first | (with_reducible first | exact HB.out | apply below_alloc | apply pw_below_drewN | apply below_drew1) | exact HB.out))) : w.heap.size ≤ gb123)); have n3_ := Aside0.mk ((by rw [hg]; exact (below_size (by repeat (first | (with_reducible first | exact HB.out | apply below_alloc | apply pw_below_drewN | apply below_drew1) | exact HB.out))) : w.heap.size ≤ gb123)); clear HB; have HB := n0_; have BK123 := n1_; have GW123 := n2_; have GE123 := n3_; clear n0_ n1_ n2_ n3_; clear hb hbox hg) | ((with_reducible refine gate_callee (f := 61) rfl ?_); refine goesL_ (some 5) rfl rfl Try.func61 (by kernel_rfl) rfl #[.int .i64 a0, .int .i64 1, .int .i64 80] rfl (by (try simp only [List.map_toArray, List.map_cons, List.map_nil]); first | done | rfl | (simp only [List.length_drop, List.length_take]; rfl)) ?_; (with_reducible refine (impl_within.calls a0 1 80 true _ A2.out).mono ?_); rintro e w' ⟨rfl, ⟨nd, rfl⟩⟩; refine ⟨_, rfl, ?_⟩; (try (rw [drewN_self w6]; generalize hq_ : World.drewN w6 _ = w6; have n0_ : Aside0 (w6.heap[gb123]? = some (.cells #[.slice none 0 0, .slice none 0 0, .bool false, .slice none 0 0] 26 (0, 0))) := ⟨by rw [← hq_]; exact (by (with_reducible repeat (first | refine blk_drewN ?_ _ | refine blk_drew ?_ | refine blk_alloc ?_ _)); exact BK123.out)⟩; have n1_ : Aside0 (Below w.heap.size w w6) := ⟨by rw [← hq_]; exact (by repeat (first | (with_reducible first | exact HB.out | apply below_alloc | apply pw_below_drewN | apply below_drew1 | refine below_set ?_ GE123.out) | exact HB.out))⟩; clear BK123 HB hq_; have BK123 := n0_; have HB := n1_; clear n0_ n1_))) | ((with_reducible refine gate_dst (N := 9) rfl ?_); refine Kd.R_make Kd.string _ 9 rfl (N := 9) rfl 22 _ _ rfl a0 rfl rfl Try.underlying22 (.string ⟨#[]⟩) 16 info9 rfl (by decide) (by omega) (⟨#[]⟩ : ByteArray) (ok := fun _ => True) (okp := fun _ => True) rfl (fun _ hk => hk) trivial (of_decide_eq_true (by first | (with_reducible assumption) | assumption)) (Nat.le_trans (Nat.mul_le_mul_right _ (of_decide_eq_true (by first | (with_reducible assumption) | assumption) : a0.toNat ≤ 17592186044416)) (by omega)) (Below.refl _ _) (Nat.le_refl _) ?_; intro v126 w7 ho8 hb hg_ hnew_; clear hg_ hnew_; (first | rw [← Ny125.out] at ho8 | (simp only [Int.reduceToNat] at ho8; rw [← Ny125.out] at ho8)); have n0_ := Aside0.mk (Kd.R_lower ho8 (below_size (by repeat (first | (with_reducible first | exact HB.out | apply below_alloc | apply pw_below_drewN | apply below_drew1 | refine below_set ?_ GE123.out) | exact HB.out)))); have n1_ := Aside0.mk (blk_below (g := gb123) (o := .cells #[.slice none 0 0, .slice none 0 0, .bool false, .slice none 0 0] 26 (0, 0)) (by (with_reducible repeat (first | refine blk_drewN ?_ _ | refine blk_drew ?_ | refine blk_alloc ?_ _)); exact BK123.out) hb); have n2_ := Aside0.mk (below_step (by repeat (first | (with_reducible first | exact HB.out | apply below_alloc | apply pw_below_drewN | apply below_drew1 | refine below_set ?_ GE123.out) | exact HB.out)) hb); clear BK123; clear HB; have HO127 := n0_; have BK123 := n1_; have HB := n2_; clear n0_ n1_ n2_; clear hb ho8; obtain ⟨Ao9, co9, eo9⟩ := Kd.R_slice HO127.out; subst eo9; have hcz10_0 : w7.cell? ⟨gb123, 0, none⟩ = some (.slice none 0 0) := (blk_cell BK123.out 0).trans rfl; have hcz10_1 : w7.cell? ⟨gb123, 1, none⟩ = some (.slice none 0 0) := (blk_cell BK123.out 1).trans rfl; have hcz10_2 : w7.cell? ⟨gb123, 2, none⟩ = some (.bool false) := (blk_cell BK123.out 2).trans rfl; have hcz10_3 : w7.cell? ⟨gb123, 3, none⟩ = some (.slice none 0 0) := (blk_cell BK123.out 3).trans rfl; have hfz10_0 := blk_frozen BK123.out 0; have hfz10_1 := blk_frozen BK123.out 1; have hfz10_2 := blk_frozen BK123.out 2; have hfz10_3 := blk_frozen BK123.out 3))
    refine bodyPost_ret (results_ct rfl _ _ gb123 26 #[.slice Ao9 y125.length co9, .slice none 0 0, .bool false, .slice none 0 0] (0, 0) _ rfl (by (with_reducible repeat (first | refine blk_drewN ?_ _ | refine blk_drew ?_ | refine blk_alloc ?_ _)); refine blk_put (cs := #[.slice Ao9 y125.length co9, .slice none 0 0, .bool false, .slice none 0 0]) ?_ 3 _ rfl; (with_reducible repeat (first | refine blk_drewN ?_ _ | refine blk_drew ?_ | refine blk_alloc ?_ _)); refine blk_put (cs := #[.slice Ao9 y125.length co9, .slice none 0 0, .bool false, .slice none 0 0]) ?_ 2 _ rfl; (with_reducible repeat (first | refine blk_drewN ?_ _ | refine blk_drew ?_ | refine blk_alloc ?_ _)); refine blk_put (cs := #[.slice Ao9 y125.length co9, .slice none 0 0, .bool false, .slice none 0 0]) ?_ 1 _ rfl; (with_reducible repeat (first | refine blk_drewN ?_ _ | refine blk_drew ?_ | refine blk_alloc ?_ _)); refine blk_put (cs := #[.slice none 0 0, .slice none 0 0, .bool false, .slice none 0 0]) ?_ 0 _ rfl; (with_reducible repeat (first | refine blk_drewN ?_ _ | refine blk_drew ?_ | refine blk_alloc ?_ _)); exact BK123.out) Try.underlying26 rfl (by kernel_rfl)) rfl ?_
    exact ⟨_, _, _, by first | rfl | (simp [errW_none, errW_some] <;> rfl) | (simp [*, errW_none, errW_some] <;> rfl), by (with_reducible repeat (first | apply Kd.R_alloc | apply Kd.R_drewN | apply Kd.R_drew)); exact Kd.R_mono (Kd.R_far (p := ⟨gb123, 3, none⟩) (Kd.R_far (p := ⟨gb123, 2, none⟩) (Kd.R_far (p := ⟨gb123, 1, none⟩) (Kd.R_far (p := ⟨gb123, 0, none⟩) (Kd.R_types HO127.out BK123.out (by decide)) (fun _ hk => hk.2) (.slice Ao9 y125.length co9)) (fun _ hk => hk.2) (.slice none 0 0)) (fun _ hk => hk.2) (.bool false)) (fun _ hk => hk.2) (.slice none 0 0)) (fun _ hk => trivial), by first | exact Kd.R_nil _ _ _ _ _ | exact Kd.N_nil _ _ _ _ _ | exact Kd.V_nil _ _ _ _ _ | exact Kd.Q_nil _ _ _ _ _ | exact Kd.S_nil _ _ _ _ _, by first | exact Kd.R_nil _ _ _ _ _ | exact Kd.N_nil _ _ _ _ _ | exact Kd.V_nil _ _ _ _ _ | exact Kd.Q_nil _ _ _ _ _ | exact Kd.S_nil _ _ _ _ _, by repeat (first | (with_reducible first | exact HB.out | apply below_alloc | apply pw_below_drewN | apply below_drew1 | refine below_set ?_ GE123.out) | exact HB.out)⟩
   ·rw [if_neg c5] at H
    exact absurd H (by simp)
  ·rw [if_neg c4] at H
   exact absurd H (by simp)
 ·replace c3 := Bool.eq_false_iff.mpr c3
  subst c3
  have H1 : (some (([] : List ByteArray), ([] : List (S95)), false, ([] : List Int), 4)) = some (r1, r2, r3, r4, r5) := by rw [if_neg (show ¬ (false = true) by decide)] at H; exact H
  clear H
  have H := H1
  clear H1
  simp only [Option.some.injEq, Prod.mk.injEq] at H
  obtain ⟨rfl, rfl, rfl, rfl, rfl⟩ := H
  go_enter Try.func16, Try.ntmps16
  go_wp2_with (first | ((with_reducible refine gate_dst (N := 2) rfl ?_); refine box_event ?hg (N := 2) ?hd (cs := #[.slice none 0 0, .slice none 0 0, .bool false, .slice none 0 0]) (t := 26) ?hr ?_; (case hd => rfl); (case hg => rfl); (case hr => first | (go_simp; done) | (go_simp; rfl)); intro gb123 hg w11 hbox hb; have n0_ := Aside0.mk (below_step (by repeat (first | (with_reducible first | exact HB.out | apply below_alloc | apply pw_below_drewN | apply below_drew1) | exact HB.out)) hb); have n1_ := Aside0.mk (hbox); have n2_ := Aside0.mk ((by rw [hg]; exact (below_size (by repeat (first | (with_reducible first | exact HB.out | apply below_alloc | apply pw_below_drewN | apply below_drew1) | exact HB.out))) : w.heap.size ≤ gb123)); have n3_ := Aside0.mk ((by rw [hg]; exact (below_size (by repeat (first | (with_reducible first | exact HB.out | apply below_alloc | apply pw_below_drewN | apply below_drew1) | exact HB.out))) : w.heap.size ≤ gb123)); clear HB; have HB := n0_; have BK123 := n1_; have GW123 := n2_; have GE123 := n3_; clear n0_ n1_ n2_ n3_; clear hb hbox hg) | ((with_reducible refine gate_callee (f := 61) rfl ?_); refine goesL_ (some 5) rfl rfl Try.func61 (by kernel_rfl) rfl #[.int .i64 a0, .int .i64 1, .int .i64 80] rfl (by (try simp only [List.map_toArray, List.map_cons, List.map_nil]); first | done | rfl | (simp only [List.length_drop, List.length_take]; rfl)) ?_; (with_reducible refine (impl_within.calls a0 1 80 false _ A2.out).mono ?_); rintro e w' ⟨rfl, ⟨nd, rfl⟩⟩; refine ⟨_, rfl, ?_⟩; (try (rw [drewN_self w11]; generalize hq_ : World.drewN w11 _ = w11; have n0_ : Aside0 (w11.heap[gb123]? = some (.cells #[.slice none 0 0, .slice none 0 0, .bool false, .slice none 0 0] 26 (0, 0))) := ⟨by rw [← hq_]; exact (by (with_reducible repeat (first | refine blk_drewN ?_ _ | refine blk_drew ?_ | refine blk_alloc ?_ _)); exact BK123.out)⟩; have n1_ : Aside0 (Below w.heap.size w w11) := ⟨by rw [← hq_]; exact (by repeat (first | (with_reducible first | exact HB.out | apply below_alloc | apply pw_below_drewN | apply below_drew1 | refine below_set ?_ GE123.out) | exact HB.out))⟩; clear BK123 HB hq_; have BK123 := n0_; have HB := n1_; clear n0_ n1_)); have hcz12_0 : w11.cell? ⟨gb123, 0, none⟩ = some (.slice none 0 0) := (blk_cell BK123.out 0).trans rfl; have hcz12_1 : w11.cell? ⟨gb123, 1, none⟩ = some (.slice none 0 0) := (blk_cell BK123.out 1).trans rfl; have hcz12_2 : w11.cell? ⟨gb123, 2, none⟩ = some (.bool false) := (blk_cell BK123.out 2).trans rfl; have hcz12_3 : w11.cell? ⟨gb123, 3, none⟩ = some (.slice none 0 0) := (blk_cell BK123.out 3).trans rfl; have hfz12_0 := blk_frozen BK123.out 0; have hfz12_1 := blk_frozen BK123.out 1; have hfz12_2 := blk_frozen BK123.out 2; have hfz12_3 := blk_frozen BK123.out 3))
  refine bodyPost_ret (results_ct rfl _ _ gb123 26 #[.slice none 0 0, .slice none 0 0, .bool false, .slice none 0 0] (0, 0) _ rfl (by (with_reducible repeat (first | refine blk_drewN ?_ _ | refine blk_drew ?_ | refine blk_alloc ?_ _)); refine blk_put (cs := #[.slice none 0 0, .slice none 0 0, .bool false, .slice none 0 0]) ?_ 3 _ rfl; (with_reducible repeat (first | refine blk_drewN ?_ _ | refine blk_drew ?_ | refine blk_alloc ?_ _)); refine blk_put (cs := #[.slice none 0 0, .slice none 0 0, .bool false, .slice none 0 0]) ?_ 2 _ rfl; (with_reducible repeat (first | refine blk_drewN ?_ _ | refine blk_drew ?_ | refine blk_alloc ?_ _)); refine blk_put (cs := #[.slice none 0 0, .slice none 0 0, .bool false, .slice none 0 0]) ?_ 1 _ rfl; (with_reducible repeat (first | refine blk_drewN ?_ _ | refine blk_drew ?_ | refine blk_alloc ?_ _)); refine blk_put (cs := #[.slice none 0 0, .slice none 0 0, .bool false, .slice none 0 0]) ?_ 0 _ rfl; (with_reducible repeat (first | refine blk_drewN ?_ _ | refine blk_drew ?_ | refine blk_alloc ?_ _)); exact BK123.out) Try.underlying26 rfl (by kernel_rfl)) rfl ?_
  exact ⟨_, _, _, by first | rfl | (simp [errW_none, errW_some] <;> rfl) | (simp [*, errW_none, errW_some] <;> rfl), by first | exact Kd.R_nil _ _ _ _ _ | exact Kd.N_nil _ _ _ _ _ | exact Kd.V_nil _ _ _ _ _ | exact Kd.Q_nil _ _ _ _ _ | exact Kd.S_nil _ _ _ _ _, by first | exact Kd.R_nil _ _ _ _ _ | exact Kd.N_nil _ _ _ _ _ | exact Kd.V_nil _ _ _ _ _ | exact Kd.Q_nil _ _ _ _ _ | exact Kd.S_nil _ _ _ _ _, by first | exact Kd.R_nil _ _ _ _ _ | exact Kd.N_nil _ _ _ _ _ | exact Kd.V_nil _ _ _ _ _ | exact Kd.Q_nil _ _ _ _ _ | exact Kd.S_nil _ _ _ _ _, by repeat (first | (with_reducible first | exact HB.out | apply below_alloc | apply pw_below_drewN | apply below_drew1 | refine below_set ?_ GE123.out) | exact HB.out)⟩
end Go.Proofs.Ytcpcifgpcemaeaa.X
namespace Go.Proofs.Ytcpcifgpcemaeaa.X
open Go.RowKit Go.Proofs.YtcpcifgpcemaeaaW.PrintWords Go.Proofs.YtcpcifgpcemaeaaW.PrintLast Go.Proofs.YtcpcifgpcemaeaaW.PrintMore
attribute [local go_sem] xbin_geq xbin_leq xbin_gtr max2_int min2_int max_two min_two max_three min_three max_four min_four
set_option linter.unusedVariables false
set_option linter.unusedSimpArgs false
theorem inB_is {x a b : Int} : inB x a b = true ↔ a ≤ x ∧ x ≤ b := by simp [inB]
end Go.Proofs.Ytcpcifgpcemaeaa.X
namespace Go.Proofs.Ytcpcifgpcemaeaa.X
open Go.RowKit Go.Proofs.YtcpcifgpcemaeaaW.PrintWords Go.Proofs.YtcpcifgpcemaeaaW.PrintLast Go.Proofs.YtcpcifgpcemaeaaW.PrintMore
attribute [local go_sem] xbin_geq xbin_leq xbin_gtr max2_int min2_int max_two min_two max_three min_three max_four min_four
set_option linter.unusedVariables false
set_option linter.unusedSimpArgs false
theorem rdQ_at (l : List S95) (pre rest : List S95) (x : S95) (h : l = pre ++ x :: rest) : rd_T95 l ((pre.length : Nat) : Int) = x := by
  rw [h]; unfold rd_T95; rw [Int.toNat_natCast]; exact getD_mid pre x rest _
theorem rdS_at (l : List ByteArray) (pre rest : List ByteArray) (x : ByteArray) (h : l = pre ++ x :: rest) : rdOf ByteArray.empty l ((pre.length : Nat) : Int) = x := by
  rw [h]; unfold rdOf; rw [Int.toNat_natCast]; exact getD_mid pre x rest _
theorem spec_diskOK_cache (n : Nat) (hn : 1 ≤ n ∧ n ≤ 80) (s : List ByteArray) (a : Bool) (q : List Int) (rest : List S95) : ∀ pre : List S95, (pre ++ rest).length ≤ 500 → Ev (fun k => spec_DiskOK.l1 k (n : Int) ((pre.length : Nat) : Int) s (pre ++ rest) a q) (rest.all (pendB n)) := by
  induction rest with
  | nil =>
    intro pre hl
    refine Ev.succ ?_
    simp only [spec_DiskOK.l1]
    exact Ev.neg (by simp) (Ev.is rfl)
  | cons x r ih =>
    intro pre hl
    have hx := rdQ_at (pre ++ x :: r) pre r x rfl
    have hlt : ((pre.length : Nat) : Int) < ((pre ++ x :: r).length : Int) := by simp; omega
    have hpl : pre.length < 1000000 := by simp at hl; omega
    have e1 : pre ++ x :: r = (pre ++ [x]) ++ r := by simp
    refine Ev.succ ?_
    simp only [spec_DiskOK.l1, hx, wrap_at (n := pre.length) (by omega), wrap_id (x := (n : Int) - 1) (by omega) (by omega)]
    refine Ev.pos hlt (Ev.pos (by omega) (Ev.bindk (spec_in _ _ _) ?_))
    rw [List.all_cons]
    cases hb : inB x.f0 0 ((n : Int) - 1) with
    | false =>
      have hp : pendB n x = false := by
        unfold pendB
        rw [decide_eq_false (fun h => by have := inB_is.2 h; rw [hb] at this; cases this)]
        rfl
      exact Ev.neg (by simp) (Ev.is (by rw [hp]; rfl))
    | true =>
      have hp : pendB n x = decide (x.f1.size ≤ 420) := by
        unfold pendB
        rw [decide_eq_true (inB_is.1 hb)]
        rfl
      refine Ev.pos rfl ?_
      by_cases h4 : (x.f1.size : Int) > 420
      · exact Ev.pos h4 (Ev.is (by rw [hp, decide_eq_false (by omega)]; rfl))
      · refine Ev.neg h4 ?_
        rw [hp, decide_eq_true (by omega), Bool.true_and, len_snoc pre x]
        have := ih (pre ++ [x]) (by rw [← e1]; exact hl)
        rw [← e1] at this
        exact this
theorem spec_diskOK_sectors (n : Nat) (hn : 1 ≤ n ∧ n ≤ 80) (c : List S95) (hc : c.length ≤ 500) (a : Bool) (q : List Int) (rest : List ByteArray) : ∀ pre : List ByteArray, (pre ++ rest).length = n → Ev (fun k => spec_DiskOK.l0 k (n : Int) ((pre.length : Nat) : Int) (pre ++ rest) c a q) ((rest.all fun t => decide (t.size ≤ 420)) && c.all (pendB n)) := by
  induction rest with
  | nil =>
    intro pre hl
    refine Ev.succ ?_
    simp only [spec_DiskOK.l0]
    simp only [List.append_nil] at hl
    refine Ev.neg (by omega) ?_
    have := spec_diskOK_cache n hn (pre ++ []) a q c [] (by simpa using hc)
    simpa using this
  | cons x r ih =>
    intro pre hl
    have hx := rdS_at (pre ++ x :: r) pre r x rfl
    have hlt : ((pre.length : Nat) : Int) < ((pre ++ x :: r).length : Int) := by simp; omega
    have hpl : pre.length < 1000000 := by simp at hl; omega
    have e1 : pre ++ x :: r = (pre ++ [x]) ++ r := by simp
    refine Ev.succ ?_
    simp only [spec_DiskOK.l0, hx, wrap_at (n := pre.length) (by omega)]
    refine Ev.pos (by rw [← hl]; exact hlt) (Ev.pos (by omega) (Ev.pos hlt ?_))
    rw [List.all_cons]
    by_cases h4 : (x.size : Int) > 420
    · exact Ev.pos h4 (Ev.is (by rw [decide_eq_false (by omega)]; rfl))
    · refine Ev.neg h4 ?_
      rw [decide_eq_true (by omega), Bool.true_and, len_snoc pre x]
      have := ih (pre ++ [x]) (by rw [← e1]; exact hl)
      rw [← e1] at this
      exact this
theorem spec_diskOK (s : List ByteArray) (c : List S95) (a : Bool) (q : List Int) : Ev (fun k => spec_DiskOK.f k s c a q) (diskB s c a q) := by
  have hf : ∀ n : Int, diskB s c a q = false → Ev (fun k => spec_DiskOK.j0 k n true s c a q) (diskB s c a q) := by
    intro n h
    refine Ev.succ ?_
    simp only [spec_DiskOK.j0]
    exact Ev.pos (by trivial) (Ev.is (by rw [h]))
  unfold spec_DiskOK.f
  refine Ev.bindk (spec_in _ _ _) ?_
  cases hb : inB (s.length : Int) 1 80 with
  | false =>
    refine Ev.neg (by simp) (hf _ ?_)
    unfold diskB
    rw [decide_eq_false (fun h => by have := inB_is.2 (show (1 : Int) ≤ (s.length : Int) ∧ (s.length : Int) ≤ 80 by omega); rw [hb] at this; cases this)]
    rfl
  | true =>
    have hn := inB_is.1 hb
    have hn2 : 1 ≤ s.length ∧ s.length ≤ 80 := by omega
    refine Ev.pos rfl ?_
    by_cases h2 : (c.length : Int) > 500
    · refine Ev.pos h2 (hf _ ?_)
      unfold diskB
      rw [decide_eq_false (show ¬ c.length ≤ 500 by omega)]
      simp
    · refine Ev.neg h2 ?_
      by_cases h3 : (q.length : Int) > 500
      · refine Ev.pos h3 (hf _ ?_)
        unfold diskB
        rw [decide_eq_false (show ¬ q.length ≤ 500 by omega)]
        simp
      · refine Ev.neg h3 ?_
        have hgo : (a || decide (q.length = 0)) = true → Ev (fun k => spec_DiskOK.j0 k (s.length : Int) false s c a q) (diskB s c a q) := by
          intro h
          refine Ev.succ ?_
          simp only [spec_DiskOK.j0]
          refine Ev.neg (by simp) ?_
          have := spec_diskOK_sectors s.length hn2 c (by omega) a q s [] rfl
          refine Ev.same (by simpa using this) ?_
          unfold diskB
          rw [decide_eq_true hn2, decide_eq_true (show c.length ≤ 500 by omega), decide_eq_true (show q.length ≤ 500 by omega), h]
          simp
        cases ha : a with
        | true =>
          rw [ha] at hgo
          exact Ev.pos rfl (hgo rfl)
        | false =>
          rw [ha] at hgo
          refine Ev.neg (by simp) ?_
          by_cases h4 : (q.length : Int) > 0
          · rw [decide_eq_true h4]
            rw [ha] at hf
            refine hf _ ?_
            unfold diskB
            rw [Bool.false_or, decide_eq_false (show ¬ q.length = 0 by omega)]
            simp
          · rw [decide_eq_false h4]
            exact hgo (by rw [Bool.false_or, decide_eq_true (show q.length = 0 by omega)])
end Go.Proofs.Ytcpcifgpcemaeaa.X
set_option linter.unusedSimpArgs false
set_option linter.unusedVariables false
namespace Go.Proofs.Ytcpcifgpcemaeaa.X.Pure
open Go.RowKit Go.Proofs.Ytcpcifgpcemaeaa.X Go.Proofs.YtcpcifgpcemaeaaW.PrintWords Go.Proofs.YtcpcifgpcemaeaaW.PrintLast
theorem FnExactDiskOK : laws_FnExactDiskOK.Pure := by
  intro s c a q hs0 hc0 _ hq0
  refine Ev.rounds (g := fun k => laws_FnExactDiskOK.f k s c a q) ?_
  unfold laws_FnExactDiskOK.f
  obtain ⟨r, hr, hq⟩ := sz_Disk ⟨s, c, a, q⟩ ⟨hs0, ⟨hc0.1, fun y hy => ⟨trivial, (hc0.2 y hy).2⟩⟩, trivial, hq0.1⟩ 1048576 1048576 (by omega) (by omega) (by omega)
  refine Ev.bind hr ?_
  by_cases h : r < 0
  · exact Ev.pos h (Ev.is rfl)
  refine Ev.neg h ?_
  have hs := (hq (by omega)).2
  have ht := to_Disk ⟨s, c, a, q⟩ hs
  have n1 : (c.map cv131).length ≤ 1048576 := by rw [List.length_map]; have := hs.2.1.1; simp only at this; omega
  have n0 : s.length ≤ 1048576 := by have := hs.1.1; simp only at this; omega
  have n3 : q.length ≤ 1048576 := by have := hs.2.2.2; simp only at this; omega
  refine Ev.bind ht (Ev.bind (spec_diskOK _ _ _ _) (Ev.bind ht (Ev.bind (Ev.is rfl) (Ev.neg (by simp) (Ev.bind ht (Ev.bind (eq_Disk ⟨s, c.map cv131, a, q⟩ ⟨by simp only; omega, ⟨by simp only; omega, fun y _ => ⟨trivial, trivial⟩⟩, trivial, by simp only; omega⟩) (Ev.pos rfl (Ev.is rfl))))))))
end Go.Proofs.Ytcpcifgpcemaeaa.X.Pure
namespace Go.Proofs.Ytcpcifgpcemaeaa.fnExactDiskOK
open Go.ChangeShapes Go.WideShapes Go.ChangeAt Go.RowKit Go.Proofs.Ytcpcifgpcemaeaa.X Go.Proofs.YtcpcifgpcemaeaaW.PrintWords
open Go.ChangeMaps (open_string shut_string)
set_option linter.unusedVariables false
theorem own : ownKnob Try.prog.godebug = none := by kernel_rfl
theorem laidOut : laidOutB Try.prog = true := by kernel_rfl
set_option maxRecDepth 100000 in
theorem lifted (os : Os) (started : os.Started) (H : Type) (enc : TypeId × Value → H) :
    ReturnsInHanded {} Try.checked os 4 .any (Rows.fnExactDiskOKSpec.pre6 enc Try.prog Try.f4 Rows.fnExactDiskOKRow.domain false) (Rows.fnExactDiskOKSpec.post enc Try.prog Try.f4 false true false false) := by
  refine returnsInHanded_of_change_sized (C := Try.checked) own started (by kernel_rfl) Try.func4
    (ChangeSpec.witness6 (enc := enc) (C := Try.checked) false ⟨#[], #[.agg #[.slice none 0 0, .slice none 0 0, .bool false, .slice none 0 0]], []⟩ 8 (by kernel_rfl) (by kernel_rfl) (by kernel_rfl) (by kernel_rfl)) ?_
  intro W base args ds gs before hval0 hW hcnd hsz0 _
  have hsz : (DataW.weightsEach Try.prog (Try.f4.params.toList ++ Rows.fnExactDiskOKSpec.plain.varTypes Try.prog) (ds ++ gs)).all (· ≤ reachBytes) = true := hsz0
  have hval : ∀ (j : Nat) t v, Try.f4.params[j]? = some t → args[j]? = some v → Value.okWide Try.prog W .any base t v := hval0
  have hW' := hW
  obtain ⟨p, q, hA0, hV, rfl, hfz, hnd⟩ := hW
  have hA : DataW.TrodAll enc Try.prog W 0 (fun _ => true) true Try.f4.params.toList args.toList ds p := hA0
  rw [Try.params4] at hA hval hsz
  obtain ⟨v0, vs0, d0, ds0, p0, q0, hargs, rfl, rfl, h0, r0⟩ := trodAll_cons hA
  obtain ⟨rfl, rfl, rfl⟩ := trodAll_nil r0
  obtain rfl : args = #[v0] := by cases args; simp_all
  obtain ⟨rfl, rfl⟩ := trodVars_none hV
  have k0 := h0
  have lt0 : ∀ x ∈ p0, x.block < W.heap.size := by obtain ⟨m, hm⟩ := k0; exact DataW.trod_lt m _ _ _ hm
  obtain ⟨x0, cs0, rfl, hK0, hw0⟩ := Opens.agg_arg opens34 Try.underlying34 (hval 0 34 v0 rfl rfl) h0
  obtain ⟨A0_0, c0_0, A0_1, c0_1, A0_3, c0_3, rfl, hc0_0, hr0_0, hc0_1, hr0_1, hc0_3, hr0_3⟩ := k34_open hK0
  obtain ⟨l0_0, l0_1, a0_2, l0_3⟩ := x0
  clear hA0 hval0 hsz0 hsz
  obtain ⟨k, hP⟩ := X.Pure.FnExactDiskOK l0_0 l0_1 a0_2 l0_3 hw0.1 hw0.2.1 hw0.2.2.1 hw0.2.2.2
  refine (laws_FnExactDiskOK.calls k A0_0 c0_0 l0_0 A0_1 c0_1 l0_1 a0_2 A0_3 c0_3 l0_3 true W hr0_0 hc0_0 hr0_1 hc0_1 hr0_3 hc0_3 hP).mono fun e W' hQ => ?_
  obtain ⟨he, bel0⟩ := hQ
  subst he
  have bel : Below W.heap.size W W' := bel0
  exact ⟨_, rfl, _, _, _, [], _, [], hW', trodAll_mk1 (shut_bool Try.underlying4 _), (trodAll_cons_mk (Below.trod laidOut (by kernel_rfl) (of_decide_eq_true (by kernel_rfl)) k0 bel lt0) trodAll_mk0), rfl, bel.frame _, fun h => by cases h⟩
theorem over : Rows.fnExactDiskOKRow.holds Try.pinned (OpenSpec.ofChange Rows.fnExactDiskOKSpec) :=
  OpenClaim.holds_of_wide 4 Try.f4 rfl rfl rfl rfl rfl rfl rfl ⟨rfl, rfl, rfl, rfl, rfl⟩ rfl rfl rfl rfl rfl (by kernel_rfl) Try.func4 (by kernel_rfl)
    (of_decide_eq_true (by kernel_rfl)) (by unfold Func.isWrapper; first | (rw [if_pos (by decide +kernel)]; kernel_rfl) | (rw [if_neg (by decide +kernel)]; exact ⟨rfl, rfl⟩))
    (fun os started H enc _ => lifted os started H enc)
theorem proved : Rows.FnExactDiskOKSaid := over
end Go.Proofs.Ytcpcifgpcemaeaa.fnExactDiskOK
namespace Go.Proofs.Ytcpcifgpcemaeaa
theorem fnExactDiskOK_holds : Rows.FnExactDiskOKSaid := fnExactDiskOK.proved
end Go.Proofs.Ytcpcifgpcemaeaa
