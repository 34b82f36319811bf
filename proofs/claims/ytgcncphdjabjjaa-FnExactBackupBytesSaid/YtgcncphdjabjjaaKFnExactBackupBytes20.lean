import Derived.Test.YtgcncphdjabjjaaKFnExactBackupBytes4
import Derived.Test.YtgcncphdjabjjaaKFnExactBackupBytes5
import Derived.Test.YtgcncphdjabjjaaKFnExactBackupBytes6
import Derived.Test.YtgcncphdjabjjaaKFnExactBackupBytes7
import Derived.Test.YtgcncphdjabjjaaKFnExactBackupBytes8
import Derived.Test.YtgcncphdjabjjaaKFnExactBackupBytes9
import Derived.Test.YtgcncphdjabjjaaKFnExactBackupBytes10
import Derived.Test.YtgcncphdjabjjaaKFnExactBackupBytes11
import Derived.Test.YtgcncphdjabjjaaKFnExactBackupBytes12
import Derived.Test.YtgcncphdjabjjaaKFnExactBackupBytes13
import Derived.Test.YtgcncphdjabjjaaKFnExactBackupBytes14
import Derived.Test.YtgcncphdjabjjaaKFnExactBackupBytes15
import Derived.Test.YtgcncphdjabjjaaKFnExactBackupBytes16
import Derived.Test.YtgcncphdjabjjaaKFnExactBackupBytes17
import Derived.Test.YtgcncphdjabjjaaKFnExactBackupBytes18
import Derived.Test.YtgcncphdjabjjaaKFnExactBackupBytes19
import Derived.LoopTactic
import Derived.WalkSpells
import Derived.Lib.ConvBytes
namespace Go.Proofs.Ytgcncphdjabjjaa.X
open Go.RowKit Go.Proofs.YtgcncphdjabjjaaW.PrintWords Go.Proofs.YtgcncphdjabjjaaW.PrintLast Go.Proofs.YtgcncphdjabjjaaW.PrintMore
attribute [local go_sem] xbin_geq xbin_leq xbin_gtr max2_int min2_int max_two min_two max_three min_three max_four min_four
set_option linter.unusedVariables false
set_option linter.unusedSimpArgs false
def spec_BackupBytes.f (k : Nat) (a0_0 : ByteArray) (a0_1 : ByteArray) (a0_2 : Int) (l0_3 : List (S82)) (a0_4 : Int) : Option (List Int × Int) := (spec_BackupOK.f a0_0 a0_1 a0_2 l0_3 a0_4).bind fun t715 => (if t715 = true then ((spec_l06Bytes.f k a0_0 a0_1 a0_2 l0_3 a0_4).bind fun t716 => (some (t716, 0))) else (some ((([] : List Int)), 1)))
theorem spec_BackupBytes.mono : ∀ a0 a1 a2 a3 a4 k, LeO (spec_BackupBytes.f k a0 a1 a2 a3 a4) (spec_BackupBytes.f (k + 1) a0 a1 a2 a3 a4) := by
 intro a0 a1 a2 a3 a4 k
 unfold spec_BackupBytes.f
 repeat' first
   | (with_reducible exact spec_l06Bytes.mono _ _ _ _ _ _)
   | (with_reducible exact LeO.refl _)
   | (with_reducible exact LeO.none _)
   | (with_reducible refine LeO.ite ?_ ?_)
   | (with_reducible refine LeO.bind ?_ (fun _ => ?_))
   | exact spec_l06Bytes.mono _ _ _ _ _ _
   | exact LeO.none _
   | refine LeO.ite ?_ ?_
   | refine LeO.bind ?_ (fun _ => ?_)
set_option maxHeartbeats 8000000 in
set_option maxRecDepth 100000 in
theorem spec_BackupBytes.calls (k : Nat) (a0_0 : ByteArray) (a0_1 : ByteArray) (a0_2 : Int) (A0_3 : Option Addr) (c0_3 : Nat) (l0_3 : List (S82)) (a0_4 : Int) (r1 : List Int) (r2 : Int) (w : World) (hr0_3 : Kd.C k82 w A0_3 l0_3.length l0_3) (hc0_3 : l0_3.length ≤ c0_3) (h : spec_BackupBytes.f k a0_0 a0_1 a0_2 l0_3 a0_4 = some (r1, r2)) :
  Calls Try.prog 32 #[.agg #[.string a0_0, .string a0_1, .int .i64 a0_2, .slice A0_3 l0_3.length c0_3, .int .i64 a0_4]] w fun e w' => ∃ v0_ : Value, e = .returned (.tuple #[v0_, .int .i64 r2]) ∧ Kd.R (Kd.int .u8) 5 w' w.heap.size (fun _ => True) v0_ r1 ∧ Below w.heap.size w w' := by
 have hu48 := Try.underlying48
 have HR0_3 := Aside0.mk hr0_3
 have HC0_3 := Aside0.mk hc0_3
 clear hr0_3 hc0_3
 have HB := Aside0.mk (Below.refl w.heap.size w)
 have H : ((spec_BackupOK.f a0_0 a0_1 a0_2 l0_3 a0_4).bind fun t715 => (if t715 = true then ((spec_l06Bytes.f k a0_0 a0_1 a0_2 l0_3 a0_4).bind fun t716 => (some (t716, 0))) else (some ((([] : List Int)), 1)))) = some (r1, r2) := h
 clear h
 replace H := Option.bind_eq_some_iff.mp H
 obtain ⟨t715, A20, H⟩ := H
 replace H : (if t715 = true then ((spec_l06Bytes.f k a0_0 a0_1 a0_2 l0_3 a0_4).bind fun t716 => (some (t716, 0))) else (some ((([] : List Int)), 1))) = some (r1, r2) := H
 have A2 := Aside0.mk A20
 clear A20
 by_cases c3 : t715 = true
 ·subst c3
  have H1 : ((spec_l06Bytes.f k a0_0 a0_1 a0_2 l0_3 a0_4).bind fun t716 => (some (t716, 0))) = some (r1, r2) := by rw [if_pos rfl] at H; exact H
  clear H
  have H := H1
  clear H1
  replace H := Option.bind_eq_some_iff.mp H
  obtain ⟨t716, A40, H⟩ := H
  replace H : (some (t716, 0)) = some (r1, r2) := H
  have A4 := Aside0.mk A40
  clear A40
  simp only [Option.some.injEq, Prod.mk.injEq] at H
  obtain ⟨rfl, rfl⟩ := H
  go_enter Try.func32, Try.ntmps32
  go_wp2_with (first | ((with_reducible refine gate_dst (N := 1) rfl ?_); refine box_event ?hg (N := 1) ?hd (cs := #[.string a0_0, .string a0_1, .int .i64 a0_2, .slice A0_3 l0_3.length c0_3, .int .i64 a0_4]) (t := 48) ?hr ?_; (case hd => rfl); (case hg => rfl); (case hr => first | (go_simp; done) | (go_simp; rfl)); intro gb714 hg w5 hbox hb; have n0_ := Aside0.mk (below_step (by repeat (first | (with_reducible first | exact HB.out | apply below_alloc | apply pw_below_drewN | apply below_drew1) | exact HB.out)) hb); have n1_ := Aside0.mk (hbox); have n2_ := Aside0.mk ((by rw [hg]; exact (below_size (by repeat (first | (with_reducible first | exact HB.out | apply below_alloc | apply pw_below_drewN | apply below_drew1) | exact HB.out))) : w.heap.size ≤ gb714)); have n3_ := Aside0.mk ((by rw [hg]; exact (below_size (by repeat (first | (with_reducible first | exact HB.out | apply below_alloc | apply pw_below_drewN | apply below_drew1) | exact HB.out))) : w.heap.size ≤ gb714)); clear HB; have HB := n0_; have BK714 := n1_; have GW714 := n2_; have GE714 := n3_; clear n0_ n1_ n2_ n3_; clear hb hbox hg; have hcz6_0 : w5.cell? ⟨gb714, 0, none⟩ = some (.string a0_0) := (blk_cell BK714.out 0).trans rfl; have hcz6_1 : w5.cell? ⟨gb714, 1, none⟩ = some (.string a0_1) := (blk_cell BK714.out 1).trans rfl; have hcz6_2 : w5.cell? ⟨gb714, 2, none⟩ = some (.int .i64 a0_2) := (blk_cell BK714.out 2).trans rfl; have hcz6_3 : w5.cell? ⟨gb714, 3, none⟩ = some (.slice A0_3 l0_3.length c0_3) := (blk_cell BK714.out 3).trans rfl; have hcz6_4 : w5.cell? ⟨gb714, 4, none⟩ = some (.int .i64 a0_4) := (blk_cell BK714.out 4).trans rfl; have hfz6_0 := blk_frozen BK714.out 0; have hfz6_1 := blk_frozen BK714.out 1; have hfz6_2 := blk_frozen BK714.out 2; have hfz6_3 := blk_frozen BK714.out 3; have hfz6_4 := blk_frozen BK714.out 4) | ((with_reducible refine gate_callee (f := 28) rfl ?_); refine goesL_ (some 5) rfl rfl Try.func28 (by kernel_rfl) rfl #[.agg #[.string a0_0, .string a0_1, .int .i64 a0_2, .slice A0_3 l0_3.length c0_3, .int .i64 a0_4]] rfl (by (try simp only [List.map_toArray, List.map_cons, List.map_nil]); first | done | rfl | (simp only [List.length_drop, List.length_take]; rfl)) ?_; (with_reducible refine (spec_BackupOK.calls a0_0 a0_1 a0_2 _ _ l0_3 a0_4 true _ ?side1 ?side2 A2.out).mono ?_); (case side1 => repeat (first | exact (Kd.C_below HR0_3.out HB.out) | (with_reducible refine Kd.C_alloc ?_ _) | (with_reducible refine Kd.C_drewN ?_ _) | (with_reducible refine Kd.C_drew ?_))); (case side2 => exact HC0_3.out); rintro e w7 ⟨rfl, hb⟩; refine ⟨_, rfl, ?_⟩; have n0_ := Aside0.mk (blk_below (g := gb714) (o := .cells #[.string a0_0, .string a0_1, .int .i64 a0_2, .slice A0_3 l0_3.length c0_3, .int .i64 a0_4] 48 (0, 0)) (by (with_reducible repeat (first | refine blk_drewN ?_ _ | refine blk_drew ?_ | refine blk_alloc ?_ _)); exact BK714.out) hb); have n1_ := Aside0.mk (below_step (by repeat (first | (with_reducible first | exact HB.out | apply below_alloc | apply pw_below_drewN | apply below_drew1 | refine below_set ?_ GE714.out) | exact HB.out)) hb); clear BK714; clear HB; have BK714 := n0_; have HB := n1_; clear n0_ n1_; (try clear hb); (try clear hb2); (try clear hk); (try clear hi); have hcz8_0 : w7.cell? ⟨gb714, 0, none⟩ = some (.string a0_0) := (blk_cell BK714.out 0).trans rfl; have hcz8_1 : w7.cell? ⟨gb714, 1, none⟩ = some (.string a0_1) := (blk_cell BK714.out 1).trans rfl; have hcz8_2 : w7.cell? ⟨gb714, 2, none⟩ = some (.int .i64 a0_2) := (blk_cell BK714.out 2).trans rfl; have hcz8_3 : w7.cell? ⟨gb714, 3, none⟩ = some (.slice A0_3 l0_3.length c0_3) := (blk_cell BK714.out 3).trans rfl; have hcz8_4 : w7.cell? ⟨gb714, 4, none⟩ = some (.int .i64 a0_4) := (blk_cell BK714.out 4).trans rfl; have hfz8_0 := blk_frozen BK714.out 0; have hfz8_1 := blk_frozen BK714.out 1; have hfz8_2 := blk_frozen BK714.out 2; have hfz8_3 := blk_frozen BK714.out 3; have hfz8_4 := blk_frozen BK714.out 4) | ((with_reducible refine gate_callee (f := 69) rfl ?_); refine goesL_ (some 9) rfl rfl Try.func69 (by kernel_rfl) rfl #[.agg #[.string a0_0, .string a0_1, .int .i64 a0_2, .slice A0_3 l0_3.length c0_3, .int .i64 a0_4]] rfl (by (try simp only [List.map_toArray, List.map_cons, List.map_nil]); first | done | rfl | (simp only [List.length_drop, List.length_take]; rfl)) ?_; (with_reducible refine (spec_l06Bytes.calls k a0_0 a0_1 a0_2 _ _ l0_3 a0_4 t716 _ ?side1 ?side2 A4.out).mono ?_); (case side1 => repeat (first | exact (Kd.C_below HR0_3.out HB.out) | (with_reducible refine Kd.C_alloc ?_ _) | (with_reducible refine Kd.C_drewN ?_ _) | (with_reducible refine Kd.C_drew ?_))); (case side2 => exact HC0_3.out); rintro e w9 ⟨v717, rfl, ho0, hb⟩; refine ⟨_, rfl, ?_⟩; have n0_ := Aside0.mk (Kd.R_lower ho0 (below_size (by repeat (first | (with_reducible first | exact HB.out | apply below_alloc | apply pw_below_drewN | apply below_drew1 | refine below_set ?_ GE714.out) | exact HB.out)))); have n1_ := Aside0.mk (blk_below (g := gb714) (o := .cells #[.string a0_0, .string a0_1, .int .i64 a0_2, .slice A0_3 l0_3.length c0_3, .int .i64 a0_4] 48 (0, 0)) (by (with_reducible repeat (first | refine blk_drewN ?_ _ | refine blk_drew ?_ | refine blk_alloc ?_ _)); exact BK714.out) hb); have n2_ := Aside0.mk (below_step (by repeat (first | (with_reducible first | exact HB.out | apply below_alloc | apply pw_below_drewN | apply below_drew1 | refine below_set ?_ GE714.out) | exact HB.out)) hb); clear BK714; clear HB; have HO718 := n0_; have BK714 := n1_; have HB := n2_; clear n0_ n1_ n2_; (try clear hb); (try clear hb2); (try clear hk); (try clear hi); (try clear ho0)))
  go_ret2
  exact ⟨_, by first | rfl | (simp [errW_none, errW_some] <;> rfl) | (simp [*, errW_none, errW_some] <;> rfl), by (with_reducible repeat (first | apply Kd.R_alloc | apply Kd.R_drewN | apply Kd.R_drew)); exact HO718.out, by repeat (first | (with_reducible first | exact HB.out | apply below_alloc | apply pw_below_drewN | apply below_drew1 | refine below_set ?_ GE714.out) | exact HB.out)⟩
 ·replace c3 := Bool.eq_false_iff.mpr c3
  subst c3
  have H1 : (some ((([] : List Int)), 1)) = some (r1, r2) := by rw [if_neg (show ¬ (false = true) by decide)] at H; exact H
  clear H
  have H := H1
  clear H1
  obtain ⟨y719, hy719⟩ : ∃ y_ : List Int, y_ = (([] : List Int)) := ⟨_, rfl⟩
  replace H : (some (y719, 1)) = some (r1, r2) := by first | (rw [hy719]; with_reducible exact H) | (have H2_ := (Option.bind_some _ _).symm.trans H; rw [hy719]; with_reducible exact H2_) | (have H2_ := (Option.bind_some _ _).symm.trans H; with_reducible exact H2_) | with_reducible exact H | (rw [hy719]; exact H) | exact H
  have Ny719 := Aside0.mk hy719
  clear hy719
  simp only [Option.some.injEq, Prod.mk.injEq] at H
  obtain ⟨rfl, rfl⟩ := H
  go_enter Try.func32, Try.ntmps32
  go_wp2_with (first | ((with_reducible refine gate_dst (N := 1) rfl ?_); refine box_event ?hg (N := 1) ?hd (cs := #[.string a0_0, .string a0_1, .int .i64 a0_2, .slice A0_3 l0_3.length c0_3, .int .i64 a0_4]) (t := 48) ?hr ?_; (case hd => rfl); (case hg => rfl); (case hr => first | (go_simp; done) | (go_simp; rfl)); intro gb714 hg w10 hbox hb; have n0_ := Aside0.mk (below_step (by repeat (first | (with_reducible first | exact HB.out | apply below_alloc | apply pw_below_drewN | apply below_drew1) | exact HB.out)) hb); have n1_ := Aside0.mk (hbox); have n2_ := Aside0.mk ((by rw [hg]; exact (below_size (by repeat (first | (with_reducible first | exact HB.out | apply below_alloc | apply pw_below_drewN | apply below_drew1) | exact HB.out))) : w.heap.size ≤ gb714)); have n3_ := Aside0.mk ((by rw [hg]; exact (below_size (by repeat (first | (with_reducible first | exact HB.out | apply below_alloc | apply pw_below_drewN | apply below_drew1) | exact HB.out))) : w.heap.size ≤ gb714)); clear HB; have HB := n0_; have BK714 := n1_; have GW714 := n2_; have GE714 := n3_; clear n0_ n1_ n2_ n3_; clear hb hbox hg; have hcz11_0 : w10.cell? ⟨gb714, 0, none⟩ = some (.string a0_0) := (blk_cell BK714.out 0).trans rfl; have hcz11_1 : w10.cell? ⟨gb714, 1, none⟩ = some (.string a0_1) := (blk_cell BK714.out 1).trans rfl; have hcz11_2 : w10.cell? ⟨gb714, 2, none⟩ = some (.int .i64 a0_2) := (blk_cell BK714.out 2).trans rfl; have hcz11_3 : w10.cell? ⟨gb714, 3, none⟩ = some (.slice A0_3 l0_3.length c0_3) := (blk_cell BK714.out 3).trans rfl; have hcz11_4 : w10.cell? ⟨gb714, 4, none⟩ = some (.int .i64 a0_4) := (blk_cell BK714.out 4).trans rfl; have hfz11_0 := blk_frozen BK714.out 0; have hfz11_1 := blk_frozen BK714.out 1; have hfz11_2 := blk_frozen BK714.out 2; have hfz11_3 := blk_frozen BK714.out 3; have hfz11_4 := blk_frozen BK714.out 4) | ((with_reducible refine gate_callee (f := 28) rfl ?_); refine goesL_ (some 5) rfl rfl Try.func28 (by kernel_rfl) rfl #[.agg #[.string a0_0, .string a0_1, .int .i64 a0_2, .slice A0_3 l0_3.length c0_3, .int .i64 a0_4]] rfl (by (try simp only [List.map_toArray, List.map_cons, List.map_nil]); first | done | rfl | (simp only [List.length_drop, List.length_take]; rfl)) ?_; (with_reducible refine (spec_BackupOK.calls a0_0 a0_1 a0_2 _ _ l0_3 a0_4 false _ ?side1 ?side2 A2.out).mono ?_); (case side1 => repeat (first | exact (Kd.C_below HR0_3.out HB.out) | (with_reducible refine Kd.C_alloc ?_ _) | (with_reducible refine Kd.C_drewN ?_ _) | (with_reducible refine Kd.C_drew ?_))); (case side2 => exact HC0_3.out); rintro e w12 ⟨rfl, hb⟩; refine ⟨_, rfl, ?_⟩; have n0_ := Aside0.mk (blk_below (g := gb714) (o := .cells #[.string a0_0, .string a0_1, .int .i64 a0_2, .slice A0_3 l0_3.length c0_3, .int .i64 a0_4] 48 (0, 0)) (by (with_reducible repeat (first | refine blk_drewN ?_ _ | refine blk_drew ?_ | refine blk_alloc ?_ _)); exact BK714.out) hb); have n1_ := Aside0.mk (below_step (by repeat (first | (with_reducible first | exact HB.out | apply below_alloc | apply pw_below_drewN | apply below_drew1 | refine below_set ?_ GE714.out) | exact HB.out)) hb); clear BK714; clear HB; have BK714 := n0_; have HB := n1_; clear n0_ n1_; (try clear hb); (try clear hb2); (try clear hk); (try clear hi)) | ((with_reducible refine gate_dst (N := 7) rfl ?_); refine Kd.R_lit (Kd.int .u8) _ 5 ?hg (N := 7) ?hd (xs := ([] : List Int)) (inner := []) (ok := fun _ => True) (okp := fun _ => True) ?hr ?hp (fun _ hk => hk) trivial (Below.refl _ _) (Nat.le_refl _) (by simp) ?_; (case hd => rfl); (case hg => rfl); (case hr => first | (go_simp; done) | (go_simp; rfl)); (case hp => exact (Reps.none _ _)); intro v720 w13 ho14 hb hg_ hnew_; clear hg_ hnew_; (first | rw [← Ny719.out] at ho14 | (simp only [Int.reduceToNat] at ho14; rw [← Ny719.out] at ho14)); have n0_ := Aside0.mk (Kd.R_lower ho14 (below_size (by repeat (first | (with_reducible first | exact HB.out | apply below_alloc | apply pw_below_drewN | apply below_drew1 | refine below_set ?_ GE714.out) | exact HB.out)))); have n1_ := Aside0.mk (blk_below (g := gb714) (o := .cells #[.string a0_0, .string a0_1, .int .i64 a0_2, .slice A0_3 l0_3.length c0_3, .int .i64 a0_4] 48 (0, 0)) (by (with_reducible repeat (first | refine blk_drewN ?_ _ | refine blk_drew ?_ | refine blk_alloc ?_ _)); exact BK714.out) hb); have n2_ := Aside0.mk (below_step (by repeat (first | (with_reducible first | exact HB.out | apply below_alloc | apply pw_below_drewN | apply below_drew1 | refine below_set ?_ GE714.out) | exact HB.out)) hb); clear BK714; clear HB; have HO721 := n0_; have BK714 := n1_; have HB := n2_; clear n0_ n1_ n2_; clear hb ho14))
  go_ret2
  exact ⟨_, by first | rfl | (simp [errW_none, errW_some] <;> rfl) | (simp [*, errW_none, errW_some] <;> rfl), by (with_reducible repeat (first | apply Kd.R_alloc | apply Kd.R_drewN | apply Kd.R_drew)); exact HO721.out, by repeat (first | (with_reducible first | exact HB.out | apply below_alloc | apply pw_below_drewN | apply below_drew1 | refine below_set ?_ GE714.out) | exact HB.out)⟩
end Go.Proofs.Ytgcncphdjabjjaa.X
namespace Go.Proofs.Ytgcncphdjabjjaa.X
open Go.RowKit Go.Proofs.YtgcncphdjabjjaaW.PrintWords Go.Proofs.YtgcncphdjabjjaaW.PrintLast Go.Proofs.YtgcncphdjabjjaaW.PrintMore
attribute [local go_sem] xbin_geq xbin_leq xbin_gtr max2_int min2_int max_two min_two max_three min_three max_four min_four
set_option linter.unusedVariables false
set_option linter.unusedSimpArgs false
def bakR (a b : ByteArray) (n : Int) (l : List S82) (s : Int) : List Int × Int := if backupB a b n l s = true then (bytesOf (bakT a b n l s), 0) else ([], 1)
theorem sum_rangeB (l : List Int) (h : ∀ c, c ∈ l → isByte c) : 0 ≤ sumOf32 l ∧ sumOf32 l < 4294967296 := by
  unfold sumOf32
  have h := crcF_lt l 4294967295 (by omega) h
  have := Nat.xor_lt_two_pow (n := 32) (show 4294967295 < 2 ^ 32 by omega) h
  omega
theorem toList_nil_size {a : ByteArray} (h : a.toList = []) : a.size = 0 := by
  have h2 : a.data.toList.length = 0 := by rw [← ByteArray.toList_eq, h]; rfl
  rw [Array.length_toList] at h2
  exact h2
theorem shortB_size {a : ByteArray} (h : shortB a = true) : a.size ≤ 1000 := by
  unfold shortB at h
  simp only [Bool.and_eq_true, decide_eq_true_eq] at h
  omega
theorem headB_fit {a b : ByteArray} {n : Int} (h : headB a b n = true) : a.size ≤ 1000 ∧ b.size ≤ 1000 ∧ 0 ≤ n ∧ n ≤ 4294967295 := by
  unfold headB at h
  split at h
  · next h0 =>
    simp only [Bool.and_eq_true, inB, decide_eq_true_eq] at h
    have ha : a.size = 0 := toList_nil_size h0
    exact ⟨by omega, shortB_size h.1, h.2.1.1, h.2.1.2⟩
  · simp only [Bool.and_eq_true, inB, decide_eq_true_eq] at h
    exact ⟨shortB_size h.1, shortB_size h.2.1, h.2.2.1, h.2.2.2⟩
theorem diffOne_fit {d : S82} (h : diffOne d = true) : d.f0.size ≤ 1000 ∧ d.f1.size ≤ 1000 ∧ d.f2.size ≤ 1000 := by
  unfold diffOne keyB at h
  simp only [Bool.and_eq_true, decide_eq_true_eq] at h
  omega
theorem backupB_fit {a b : ByteArray} {n : Int} {l : List S82} {s : Int} (h : backupB a b n l s = true) : BakFits a b l ∧ (0 ≤ n ∧ n ≤ 4294967295) ∧ (0 ≤ s ∧ s ≤ 4294967295) ∧ l.length ≤ 120 := by
  unfold backupB at h
  simp only [Bool.and_eq_true, decide_eq_true_eq] at h
  obtain ⟨h1, h2, h3, h4⟩ := h
  have h5 := headB_fit h1
  simp only [inB, Bool.and_eq_true, decide_eq_true_eq] at h2
  refine ⟨⟨h5.1, h5.2.1, by omega, fun x hx => ?_⟩, h5.2.2, h2, h3⟩
  obtain ⟨j, hj, rfl⟩ := List.mem_iff_getElem.1 hx
  have h6 := allB_iff.1 h4 j hj
  have e : rd_T82 l (j : Int) = l[j] := by unfold rd_T82; rw [Int.toNat_natCast]; simp [List.getD_eq_getElem?_getD, hj]
  unfold diffAt at h6
  rw [e] at h6
  simp only [Bool.and_eq_true] at h6
  exact diffOne_fit h6.1
theorem spec_fields_two (a b : ByteArray) (ha : a.size ≤ 1000) (hb : b.size ≤ 1000) : spec_l01Fields.f [a, b] = some (bytesOf (fieldsT [a, b])) := by
  unfold spec_l01Fields.f
  rw [if_pos ⟨by show 2 ≤ _; omega, fun x hx => by
    rcases List.mem_cons.1 hx with rfl | hx
    · omega
    · rcases List.mem_cons.1 hx with rfl | hx
      · omega
      · cases hx⟩]
theorem spec_fields_three (a b c : ByteArray) (ha : a.size ≤ 1000) (hb : b.size ≤ 1000) (hc : c.size ≤ 1000) : spec_l01Fields.f [a, b, c] = some (bytesOf (fieldsT [a, b, c])) := by
  unfold spec_l01Fields.f
  rw [if_pos ⟨by show 3 ≤ _; omega, fun x hx => by
    rcases List.mem_cons.1 hx with rfl | hx
    · omega
    · rcases List.mem_cons.1 hx with rfl | hx
      · omega
      · rcases List.mem_cons.1 hx with rfl | hx
        · omega
        · cases hx⟩]
theorem bit1 (b : Bool) : spec_l01Bit.f b = some (bitN b 1) := by
  unfold spec_l01Bit.f bitN
  split <;> rfl
theorem bitN_two (b : Bool) : bitN b 2 = 2 * bitN b 1 := by cases b <;> rfl
theorem bitN01 (b : Bool) : bitN b 1 = 0 ∨ bitN b 1 = 1 := by cases b <;> simp [bitN]
theorem spec_diff (d : S82) (h : d.f0.size ≤ 1000 ∧ d.f1.size ≤ 1000 ∧ d.f2.size ≤ 1000) : spec_l06Diff.f d.f0 d.f1 d.f2 d.f3 d.f4 = some (bytesOf (diffT d)) := by
  have hz := fieldsT_three d.f0 d.f1 d.f2 h.1 h.2.1 h.2.2
  have hw : ∀ x y : Int, (x = 0 ∨ x = 1) → (y = 0 ∨ y = 1) → wrap64 (x + wrap64 (2 * y)) = x + 2 * y := by
    intro x y hx hy
    unfold wrap64
    omega
  have hb : bytesOf (diffT d) = [(bitN d.f3 1 + bitN d.f4 2) % 256] ++ bytesOf (fieldsT [d.f0, d.f1, d.f2]) := by
    unfold diffT
    rw [bytesOf_append, numO_bytes]
  have hlt : ([(bitN d.f3 1 + bitN d.f4 2) % 256] : List Int).length + (bytesOf (fieldsT [d.f0, d.f1, d.f2])).length < 140737488355328 := by
    rw [bytesOf_length]
    simp only [List.length_cons, List.length_nil]
    omega
  unfold spec_l06Diff.f
  rw [bit1, bit1]
  simp only [Option.bind_some]
  rw [spec_fields_three _ _ _ h.1 h.2.1 h.2.2]
  simp only [Option.bind_some]
  rw [hw _ _ (bitN01 _) (bitN01 _), ← bitN_two, if_pos hlt, hb]
theorem rdD_at (l : List S82) (pre rest : List S82) (x : S82) (h : l = pre ++ x :: rest) : rd_T82 l ((pre.length : Nat) : Int) = x := by
  rw [h]; simp [rd_T82, List.getD_eq_getElem?_getD]
theorem bodyFrom_app (l : List S82) : ∀ a : ByteArray, bytesOf (bodyFrom a l) = bytesOf a ++ bytesOf (bodyT l) := by
  induction l with
  | nil => intro a; show bytesOf a = bytesOf a ++ bytesOf ByteArray.empty; rw [show bytesOf ByteArray.empty = [] from rfl, List.append_nil]
  | cons d l ih =>
    intro a
    have h1 := ih (a ++ diffT d)
    have h2 := ih (ByteArray.empty ++ diffT d)
    show bytesOf (bodyFrom (a ++ diffT d) l) = bytesOf a ++ bytesOf (bodyFrom (ByteArray.empty ++ diffT d) l)
    rw [h1, h2, bytesOf_append, bytesOf_append, show bytesOf ByteArray.empty = [] from rfl, List.nil_append, List.append_assoc]
theorem spec_link_loop (a b : ByteArray) (n : Int) (l : List S82) (s : Int) (hf : BakFits a b l) (hs : 0 ≤ s ∧ s ≤ 4294967295) (h0 : ByteArray) (hz : h0.size ≤ 100000) (rest : List S82) : ∀ pre, l = pre ++ rest →
    Ev (fun k => spec_l06Link.l0 k (bytesOf (bodyFrom h0 pre)) ((pre.length : Nat) : Int) a b n l s) (sumOf32 (bytesOf (bodyFrom h0 l ++ numF s))) := by
  induction rest with
  | nil =>
    intro pre h
    rw [List.append_nil] at h
    subst h
    have hb := bodyFrom_size l h0 hf.2.2.2
    have hl := hf.2.2.1
    refine Ev.succ ?_
    simp only [spec_l06Link.l0]
    refine Ev.neg (by omega) (Ev.bind (l01Number_four s hs.1 (by omega)) (Ev.pos (by rw [bytesOf_length, bytesOf_length, numF_size]; omega) ?_))
    rw [← bytesOf_append]
    refine Ev.bindk (a := sumOf32 (bytesOf (bodyFrom h0 l ++ numF s))) ?_ (Ev.is rfl)
    unfold spec_l01Check.f
    rw [if_pos (show ∀ c, c ∈ bytesOf (bodyFrom h0 l ++ numF s) → 0 ≤ c ∧ c < 256 from bytesOf_byte _)]
  | cons x r ih =>
    intro pre h
    have hx := rdD_at l pre r x h
    have hlt : ((pre.length : Nat) : Int) < (l.length : Int) := by rw [h]; simp; omega
    have hxf := hf.2.2.2 x (by rw [h]; simp)
    have hi := ih (pre ++ [x]) (by rw [h]; simp)
    rw [← len_snoc, bodyFrom_snoc, bytesOf_append] at hi
    have hb := bodyFrom_size pre h0 fun d hd => hf.2.2.2 d (by rw [h]; exact List.mem_append_left _ hd)
    have hl := hf.2.2.1
    have hd := diffT_size x hxf
    refine Ev.succ ?_
    simp only [spec_l06Link.l0, hx, wrap_at (n := pre.length) (by omega)]
    exact Ev.pos hlt (Ev.pos (by omega) (Ev.bindk (spec_diff x hxf) (Ev.pos (by rw [bytesOf_length, bytesOf_length]; omega) hi)))
theorem linkT_is (a b : ByteArray) (n : Int) (l : List S82) (s : Int) : bytesOf (bodyFrom (numF n ++ fieldsT [a, b]) l ++ numF s) = bytesOf (linkT a b n l s) := by
  unfold linkT
  rw [bytesOf_append, bodyFrom_app, bytesOf_append (_ ++ bodyT l), bytesOf_append (_ ++ fieldsT [a, b])]
theorem spec_link (a b : ByteArray) (n : Int) (l : List S82) (s : Int) (hf : BakFits a b l) (hn : 0 ≤ n ∧ n ≤ 4294967295) (hs : 0 ≤ s ∧ s ≤ 4294967295) : Ev (fun k => spec_l06Link.f k a b n l s) (sumOf32 (bytesOf (linkT a b n l s))) := by
  have h2 := fieldsT_two a b hf.1 hf.2.1
  unfold spec_l06Link.f
  refine Ev.bind (l01Number_four n hn.1 (by omega)) (Ev.bindk (spec_fields_two a b hf.1 hf.2.1) (Ev.pos (by rw [bytesOf_length, bytesOf_length, numF_size]; omega) ?_))
  rw [← bytesOf_append, ← linkT_is]
  exact spec_link_loop a b n l s hf hs (numF n ++ fieldsT [a, b]) (by rw [ByteArray.size_append, numF_size]; omega) l [] rfl
theorem spec_bytes_loop (a b : ByteArray) (n : Int) (l : List S82) (s : Int) (hf : BakFits a b l) (hn : 0 ≤ n ∧ n ≤ 4294967295) (hs : 0 ≤ s ∧ s ≤ 4294967295) (h0 : ByteArray) (hz : h0.size ≤ 100000) (rest : List S82) : ∀ pre, l = pre ++ rest →
    Ev (fun k => spec_l06Bytes.l0 k (bytesOf (bodyFrom h0 pre)) ((pre.length : Nat) : Int) a b n l s) (bytesOf (bodyFrom h0 l ++ numF s ++ numF (sumOf32 (bytesOf (linkT a b n l s))))) := by
  induction rest with
  | nil =>
    intro pre h
    rw [List.append_nil] at h
    subst h
    have hb := bodyFrom_size l h0 hf.2.2.2
    have hl := hf.2.2.1
    have hr := sum_rangeB (bytesOf (linkT a b n l s)) (bytesOf_byte _)
    refine Ev.succ ?_
    simp only [spec_l06Bytes.l0]
    refine Ev.neg (by omega) (Ev.bind (l01Number_four s hs.1 (by omega)) (Ev.pos (by rw [bytesOf_length, bytesOf_length, numF_size]; omega) ?_))
    rw [← bytesOf_append]
    refine Ev.bindk rfl (Ev.bind (spec_link a b n l s hf hn hs) (Ev.bind (l01Number_four _ hr.1 hr.2) (Ev.pos (by rw [bytesOf_length, bytesOf_length, numF_size, ByteArray.size_append, numF_size]; omega) (Ev.is ?_))))
    rw [← bytesOf_append]
  | cons x r ih =>
    intro pre h
    have hx := rdD_at l pre r x h
    have hlt : ((pre.length : Nat) : Int) < (l.length : Int) := by rw [h]; simp; omega
    have hxf := hf.2.2.2 x (by rw [h]; simp)
    have hi := ih (pre ++ [x]) (by rw [h]; simp)
    rw [← len_snoc, bodyFrom_snoc, bytesOf_append] at hi
    have hb := bodyFrom_size pre h0 fun d hd => hf.2.2.2 d (by rw [h]; exact List.mem_append_left _ hd)
    have hl := hf.2.2.1
    have hd := diffT_size x hxf
    refine Ev.succ ?_
    simp only [spec_l06Bytes.l0, hx, wrap_at (n := pre.length) (by omega)]
    exact Ev.pos hlt (Ev.pos (by omega) (Ev.bindk (spec_diff x hxf) (Ev.pos (by rw [bytesOf_length, bytesOf_length]; omega) hi)))
theorem bakT_is (a b : ByteArray) (n : Int) (l : List S82) (s : Int) : bytesOf (bodyFrom (bakMark ++ numF n ++ fieldsT [a, b] ++ numO (l.length : Int)) l ++ numF s ++ numF (sumOf32 (bytesOf (linkT a b n l s)))) = bytesOf (bakT a b n l s) := by
  unfold bakT
  rw [bytesOf_append, bytesOf_append, bodyFrom_app, bytesOf_append (_ ++ numF s), bytesOf_append (_ ++ bodyT l), bytesOf_append (_ ++ numO (l.length : Int)) (bodyT l)]
theorem spec_bakR (a b : ByteArray) (n : Int) (l : List S82) (s : Int) (hl : l.length ≤ 2000000) : Ev (fun k => spec_BackupBytes.f k a b n l s) (bakR a b n l s) := by
  unfold spec_BackupBytes.f bakR
  refine Ev.bind (spec_backupOK a b n l s hl) ?_
  cases h : backupB a b n l s with
  | false => exact Ev.neg (by simp) (Ev.is (by simp))
  | true =>
    obtain ⟨hf, hn, hs, h3⟩ := backupB_fit h
    have h2 := fieldsT_two a b hf.1 hf.2.1
    have hm : bakMark.size = 6 := rfl
    refine Ev.pos rfl (Ev.same (Ev.bind (a := bytesOf (bakT a b n l s)) ?_ (Ev.is rfl)) (if_pos rfl).symm)
    unfold spec_l06Bytes.f
    refine Ev.bindk rfl (Ev.bind (l01Number_four n hn.1 (by omega)) (Ev.pos (by rw [bytesOf_length, numF_size]; simp) (Ev.bindk rfl (Ev.bindk (spec_fields_two a b hf.1 hf.2.1) ?_))))
    rw [show ([98, 97, 99, 107, 117, 112] : List Int) = bytesOf bakMark from rfl, ← bytesOf_append]
    refine Ev.pos (by rw [bytesOf_length, bytesOf_length, ByteArray.size_append, numF_size]; omega) (Ev.bindk rfl (Ev.pos (by rw [← bytesOf_append, bytesOf_length, ByteArray.size_append, ByteArray.size_append, numF_size]; omega) ?_))
    rw [← numO_bytes, ← bytesOf_append, ← bytesOf_append, ← bakT_is]
    exact spec_bytes_loop a b n l s hf hn hs (bakMark ++ numF n ++ fieldsT [a, b] ++ numO (l.length : Int)) (by rw [ByteArray.size_append, ByteArray.size_append, ByteArray.size_append, numF_size, numO_size]; omega) l [] rfl
theorem bakT_size {a b : ByteArray} {n : Int} {l : List S82} {s : Int} (hf : BakFits a b l) : (bakT a b n l s).size ≤ 20000000 := by
  have h2 := fieldsT_two a b hf.1 hf.2.1
  have h3 := bodyFrom_size l ByteArray.empty hf.2.2.2
  have hm : bakMark.size = 6 := rfl
  have e0 : ByteArray.empty.size = 0 := rfl
  have hl := hf.2.2.1
  unfold bakT
  simp only [ByteArray.size_append, numF_size, numO_size]
  unfold bodyT
  omega
theorem bakR_length (a b : ByteArray) (n : Int) (l : List S82) (s : Int) : (bakR a b n l s).1.length ≤ 20000000 := by
  unfold bakR
  by_cases h : backupB a b n l s = true
  · rw [if_pos h]
    show (bytesOf _).length ≤ _
    rw [bytesOf_length]
    exact bakT_size (backupB_fit h).1
  · rw [if_neg h]
    exact Nat.zero_le _
end Go.Proofs.Ytgcncphdjabjjaa.X
namespace Go.Proofs.Ytgcncphdjabjjaa.X
open Go.RowKit Go.Proofs.YtgcncphdjabjjaaW.PrintWords Go.Proofs.YtgcncphdjabjjaaW.PrintLast Go.Proofs.YtgcncphdjabjjaaW.PrintMore
attribute [local go_sem] xbin_geq xbin_leq xbin_gtr max2_int min2_int max_two min_two max_three min_three max_four min_four
set_option linter.unusedVariables false
set_option linter.unusedSimpArgs false
set_option maxHeartbeats 4000000 in
set_option maxRecDepth 100000 in
theorem implBackupBytes_at (a b : ByteArray) (n : Int) (A0 : Option Addr) (c0 : Nat) (l : List S82) (s : Int) (R : List Int) (code : Int) (w : World) (hr0 : Kd.C k82 w A0 l.length l) (hc0 : l.length ≤ c0) (hl : l.length ≤ 1000000000) (h : bakR a b n l s = (R, code)) :
    Calls Try.prog 33 #[.agg #[.string a, .string b, .int .i64 n, .slice A0 l.length c0, .int .i64 s]] w fun e w' => ∃ v : Value, e = .returned (.tuple #[v, .int .i64 code]) ∧ BR w' w.heap.size (fun _ => True) v R ∧ Below w.heap.size w w' := by
  have hu := Try.underlying48
  have HR := Aside0.mk hr0
  have HB0 := Aside0.mk ((Below.refl w.heap.size w).alloc (Nat.le_refl _) (.cells #[.string a, .string b, .int .i64 n, .slice A0 l.length c0, .int .i64 s] 48 (0, 0)))
  have HK0 := Aside0.mk (blk_new w (.cells #[.string a, .string b, .int .i64 n, .slice A0 l.length c0, .int .i64 s] 48 (0, 0)))
  obtain ⟨ko, hko⟩ := Ev.rounds (impl_backupOK a b n l s (by omega))
  have hh := h
  unfold bakR at hh
  clear hr0 h
  cases hb : backupB a b n l s with
  | false =>
    rw [if_neg (by rw [hb]; decide)] at hh
    obtain ⟨rfl, rfl⟩ := Prod.mk.inj hh
    rw [hb] at hko
    have HO := Aside0.mk hko
    clear hko hh hb
    go_enter Try.func33, Try.ntmps33
    go_wp2_with fail
    refine (impl_BackupOK.calls (hr0_3 := Kd.C_below HR.out HB0.out) (hc0_3 := hc0) (h := HO.out)).mono ?_
    rintro e w1 ⟨rfl, hb1⟩
    have HB1 := Aside0.mk (below_step HB0.out (show Below _ _ _ from by first | exact hb1 | exact hb1.below))
    clear hb1
    go_wp2_with fail
    go_ret2
    exact ⟨_, rfl, BR.nil, HB1.out⟩
  | true =>
    rw [if_pos hb] at hh
    obtain ⟨rfl, rfl⟩ := Prod.mk.inj hh
    have HF := Aside0.mk (backupB_fit hb).1
    have HZ := Aside0.mk (bakT_size (n := n) (s := s) (backupB_fit hb).1)
    rw [hb] at hko
    have HO := Aside0.mk hko
    have kb := fun W => print_bytes (P := Try.prog) 9 52 5 Try.underlying9 Try.underlying52 Try.underlying5 (bakT a b n l s) W
    clear hko hh hb
    go_enter Try.func33, Try.ntmps33
    go_wp2_with fail
    refine (impl_BackupOK.calls (hr0_3 := Kd.C_below HR.out HB0.out) (hc0_3 := hc0) (h := HO.out)).mono ?_
    rintro e w1 ⟨rfl, hb1⟩
    replace hb1 := (show Below _ _ w1 from by first | exact hb1 | exact hb1.below)
    have HB1 := Aside0.mk (below_step HB0.out hb1)
    have HK1 := Aside0.mk (blk_below HK0.out hb1)
    clear hb1
    go_wp2_with fail
    refine (bak_bytes _ _ _ _ _ _ _ _ _ HK1.out (Kd.C_below HR.out HB1.out) hc0 HF.out).mono ?_
    rintro e w2 ⟨rfl, hb2⟩
    have HB2 := Aside0.mk (below_step HB1.out hb2)
    clear hb2
    go_wp2_with fail
    go_ret2
    exact ⟨_, rfl, BR.lower (BR.of_bytes (bakT a b n l s) (by have := HZ.out; omega)) HB2.out.size, bytes_below HB2.out HB2.out.size _ _⟩
end Go.Proofs.Ytgcncphdjabjjaa.X
