import Derived.Test.YtgcncphdjabjjaaKFnExactBackupBytes4
import Derived.Test.YtgcncphdjabjjaaKFnExactBackupBytes9
import Derived.Test.YtgcncphdjabjjaaKFnExactBackupBytes10
import Derived.Test.YtgcncphdjabjjaaKFnExactBackupBytes12
namespace Go.Proofs.Ytgcncphdjabjjaa.X
open Go.RowKit Go.Proofs.YtgcncphdjabjjaaW.PrintWords Go.Proofs.YtgcncphdjabjjaaW.PrintLast Go.Proofs.YtgcncphdjabjjaaW.PrintMore
attribute [local go_sem] xbin_geq xbin_leq xbin_gtr max2_int min2_int max_two min_two max_three min_three max_four min_four
set_option linter.unusedVariables false
set_option linter.unusedSimpArgs false
mutual
def impl_BackupOK.j0 : Nat → Bool → ByteArray → ByteArray → Int → List (S82) → Int → Option (Bool)
 | 0, _, _, _, _, _, _ => none
 | k + 1, x24, x594000, x594001, x594002, x594003, x594004 => if x24 = true then (some false) else (impl_BackupOK.l0 k x594003 (x594003.length : Int) 0 x594000 x594001 x594002 x594003 x594004)
def impl_BackupOK.l0 : Nat → List (S82) → Int → Int → ByteArray → ByteArray → Int → List (S82) → Int → Option (Bool)
 | 0, _, _, _, _, _, _, _, _ => none
 | k + 1, x26, x27, x28, x594000, x594001, x594002, x594003, x594004 => if x28 < x27 then (if 0 ≤ x28 then (if x28 < (x26.length : Int) then ((impl_diffOK.f ((rd_T82 x26 x28).f0) ((rd_T82 x26 x28).f1) ((rd_T82 x26 x28).f2) ((rd_T82 x26 x28).f3) ((rd_T82 x26 x28).f4)).bind fun t598 => (if t598 = true then (if x28 > 0 then (if 0 ≤ (wrap64 (x28 - 1)) then (if (wrap64 (x28 - 1)) < (x594003.length : Int) then (if ((Op.bytesLess (((rd_T82 x594003 (wrap64 (x28 - 1))).f0).toList) (((rd_T82 x26 x28).f0).toList)) = true) then (impl_BackupOK.l0 k x26 x27 (wrap64 (x28 + 1)) x594000 x594001 x594002 x594003 x594004) else (some false)) else (none)) else (none)) else (impl_BackupOK.l0 k x26 x27 (wrap64 (x28 + 1)) x594000 x594001 x594002 x594003 x594004)) else (some false))) else (none)) else (none)) else (some true)
end
def impl_BackupOK.f (k : Nat) (a0_0 : ByteArray) (a0_1 : ByteArray) (a0_2 : Int) (l0_3 : List (S82)) (a0_4 : Int) : Option (Bool) := (impl_headOK.f k a0_0 a0_1 a0_2).bind fun t594 => (if t594 = true then ((impl_within.f a0_4 0 4294967295).bind fun t595 => (if t595 = true then (impl_BackupOK.j0 k (decide ((l0_3.length : Int) > 120)) a0_0 a0_1 a0_2 l0_3 a0_4) else (impl_BackupOK.j0 k true a0_0 a0_1 a0_2 l0_3 a0_4))) else (impl_BackupOK.j0 k true a0_0 a0_1 a0_2 l0_3 a0_4))
theorem impl_BackupOK.mono_l : ∀ k, (∀ y0 y1 y2 y3 y4 y5, LeO (impl_BackupOK.j0 k y0 y1 y2 y3 y4 y5) (impl_BackupOK.j0 (k + 1) y0 y1 y2 y3 y4 y5)) ∧ (∀ y0 y1 y2 y3 y4 y5 y6 y7, LeO (impl_BackupOK.l0 k y0 y1 y2 y3 y4 y5 y6 y7) (impl_BackupOK.l0 (k + 1) y0 y1 y2 y3 y4 y5 y6 y7))
 | 0 => ⟨fun _ _ _ _ _ _ r h => by simp [impl_BackupOK.j0] at h, fun _ _ _ _ _ _ _ _ r h => by simp [impl_BackupOK.l0] at h⟩
 | k + 1 => by
  obtain ⟨ih0, ih1⟩ := impl_BackupOK.mono_l k
  refine ⟨?_, ?_⟩
  ·intro y0 y1 y2 y3 y4 y5
   unfold impl_BackupOK.j0
   repeat' first
   | (with_reducible exact ih0 _ _ _ _ _ _)
   | (with_reducible exact ih1 _ _ _ _ _ _ _ _)
   | (with_reducible exact impl_headOK.mono _ _ _ _)
   | (with_reducible exact LeO.refl _)
   | (with_reducible exact LeO.none _)
   | (with_reducible refine LeO.ite ?_ ?_)
   | (with_reducible refine LeO.bind ?_ (fun _ => ?_))
   | exact ih0 _ _ _ _ _ _
   | exact ih1 _ _ _ _ _ _ _ _
   | exact impl_headOK.mono _ _ _ _
   | exact LeO.none _
   | refine LeO.ite ?_ ?_
   | refine LeO.bind ?_ (fun _ => ?_)
  ·intro y0 y1 y2 y3 y4 y5 y6 y7
   unfold impl_BackupOK.l0
   repeat' first
   | (with_reducible exact ih0 _ _ _ _ _ _)
   | (with_reducible exact ih1 _ _ _ _ _ _ _ _)
   | (with_reducible exact impl_headOK.mono _ _ _ _)
   | (with_reducible exact LeO.refl _)
   | (with_reducible exact LeO.none _)
   | (with_reducible refine LeO.ite ?_ ?_)
   | (with_reducible refine LeO.bind ?_ (fun _ => ?_))
   | exact ih0 _ _ _ _ _ _
   | exact ih1 _ _ _ _ _ _ _ _
   | exact impl_headOK.mono _ _ _ _
   | exact LeO.none _
   | refine LeO.ite ?_ ?_
   | refine LeO.bind ?_ (fun _ => ?_)
theorem impl_BackupOK.mono : ∀ a0 a1 a2 a3 a4 k, LeO (impl_BackupOK.f k a0 a1 a2 a3 a4) (impl_BackupOK.f (k + 1) a0 a1 a2 a3 a4) := by
 intro a0 a1 a2 a3 a4 k
 obtain ⟨ih0, ih1⟩ := impl_BackupOK.mono_l k
 unfold impl_BackupOK.f
 repeat' first
   | (with_reducible exact ih0 _ _ _ _ _ _)
   | (with_reducible exact ih1 _ _ _ _ _ _ _ _)
   | (with_reducible exact impl_headOK.mono _ _ _ _)
   | (with_reducible exact LeO.refl _)
   | (with_reducible exact LeO.none _)
   | (with_reducible refine LeO.ite ?_ ?_)
   | (with_reducible refine LeO.bind ?_ (fun _ => ?_))
   | exact ih0 _ _ _ _ _ _
   | exact ih1 _ _ _ _ _ _ _ _
   | exact impl_headOK.mono _ _ _ _
   | exact LeO.none _
   | refine LeO.ite ?_ ?_
   | refine LeO.bind ?_ (fun _ => ?_)
set_option maxHeartbeats 8000000 in
set_option maxRecDepth 100000 in
theorem impl_BackupOK.calls (k : Nat) (a0_0 : ByteArray) (a0_1 : ByteArray) (a0_2 : Int) (A0_3 : Option Addr) (c0_3 : Nat) (l0_3 : List (S82)) (a0_4 : Int) (r : Bool) (w : World) (hr0_3 : Kd.C k82 w A0_3 l0_3.length l0_3) (hc0_3 : l0_3.length ≤ c0_3) (h : impl_BackupOK.f k a0_0 a0_1 a0_2 l0_3 a0_4 = some r) :
  Calls Try.prog 30 #[.agg #[.string a0_0, .string a0_1, .int .i64 a0_2, .slice A0_3 l0_3.length c0_3, .int .i64 a0_4]] w fun e w' => e = .returned (.bool r) ∧ Below w.heap.size w w' := by
 have hu48 := Try.underlying48
 have hu82 := Try.underlying82
 have HR0_3 := Aside0.mk hr0_3
 have HC0_3 := Aside0.mk hc0_3
 clear hr0_3 hc0_3
 have HB := Aside0.mk (Below.refl w.heap.size w)
 have H : ((impl_headOK.f k a0_0 a0_1 a0_2).bind fun t594 => (if t594 = true then ((impl_within.f a0_4 0 4294967295).bind fun t595 => (if t595 = true then (impl_BackupOK.j0 k (decide ((l0_3.length : Int) > 120)) a0_0 a0_1 a0_2 l0_3 a0_4) else (impl_BackupOK.j0 k true a0_0 a0_1 a0_2 l0_3 a0_4))) else (impl_BackupOK.j0 k true a0_0 a0_1 a0_2 l0_3 a0_4))) = some r := h
 clear h
 have HC2 := Aside0.mk H
 clear H
 go_enter Try.func30, Try.ntmps30
 go_upto_region 1 with (first | ((with_reducible refine gate_dst (N := 1) rfl ?_); (try (refine gate_guard (by rfl) ?_; dsimp only)); refine box_event ?hg (N := 1) ?hd (cs := #[.string a0_0, .string a0_1, .int .i64 a0_2, .slice A0_3 l0_3.length c0_3, .int .i64 a0_4]) (t := 48) ?hr ?_; (case hd => rfl); (case hg => rfl); (case hr => first | (go_simp; done) | (go_simp; rfl)); intro gb593 hg w3 hbox hb; have n0_ := Aside0.mk (below_step (by repeat (first | (with_reducible first | exact HB.out | apply below_alloc | apply pw_below_drewN | apply below_drew1) | exact HB.out)) hb); have n1_ := Aside0.mk (hbox); have n2_ := Aside0.mk ((by rw [hg]; exact (below_size (by repeat (first | (with_reducible first | exact HB.out | apply below_alloc | apply pw_below_drewN | apply below_drew1) | exact HB.out))) : w.heap.size ≤ gb593)); have n3_ := Aside0.mk ((by rw [hg]; exact (below_size (by repeat (first | (with_reducible first | exact HB.out | apply below_alloc | apply pw_below_drewN | apply below_drew1) | exact HB.out))) : w.heap.size ≤ gb593)); clear HB; have HB := n0_; have BK593 := n1_; have GW593 := n2_; have GE593 := n3_; clear n0_ n1_ n2_ n3_; clear hb hbox hg))
 (try simp only [Act.put, List.setIfInBounds_toArray, List.set_cons_zero, List.set_cons_succ])
 go_cut [24] (fun v24 wc => ∃ (kq : Nat) (x24_1 : Bool), v24 = .bool x24_1 ∧ Aside0 (impl_BackupOK.j0 kq x24_1 a0_0 a0_1 a0_2 l0_3 a0_4 = some r) ∧ Aside0 (kq ≤ k) ∧ Aside0 (wc.heap[gb593]? = some (.cells #[.string a0_0, .string a0_1, .int .i64 a0_2, (.slice A0_3 l0_3.length c0_3), .int .i64 a0_4] 48 (0, 0))) ∧ Aside0 (Below w.heap.size w wc))
 case first =>
  have H := HC2.out
  clear HC2
  replace H := Option.bind_eq_some_iff.mp H
  obtain ⟨t594, A40, H⟩ := H
  replace H : (if t594 = true then ((impl_within.f a0_4 0 4294967295).bind fun t595 => (if t595 = true then (impl_BackupOK.j0 k (decide ((l0_3.length : Int) > 120)) a0_0 a0_1 a0_2 l0_3 a0_4) else (impl_BackupOK.j0 k true a0_0 a0_1 a0_2 l0_3 a0_4))) else (impl_BackupOK.j0 k true a0_0 a0_1 a0_2 l0_3 a0_4)) = some r := H
  have A4 := Aside0.mk A40
  clear A40
  by_cases c5 : t594 = true
  ·subst c5
   have H1 : ((impl_within.f a0_4 0 4294967295).bind fun t595 => (if t595 = true then (impl_BackupOK.j0 k (decide ((l0_3.length : Int) > 120)) a0_0 a0_1 a0_2 l0_3 a0_4) else (impl_BackupOK.j0 k true a0_0 a0_1 a0_2 l0_3 a0_4))) = some r := by rw [if_pos rfl] at H; exact H
   clear H
   have H := H1
   clear H1
   replace H := Option.bind_eq_some_iff.mp H
   obtain ⟨t595, A60, H⟩ := H
   replace H : (if t595 = true then (impl_BackupOK.j0 k (decide ((l0_3.length : Int) > 120)) a0_0 a0_1 a0_2 l0_3 a0_4) else (impl_BackupOK.j0 k true a0_0 a0_1 a0_2 l0_3 a0_4)) = some r := H
   have A6 := Aside0.mk A60
   clear A60
   by_cases c7 : t595 = true
   ·subst c7
    have H1 : (impl_BackupOK.j0 k (decide ((l0_3.length : Int) > 120)) a0_0 a0_1 a0_2 l0_3 a0_4) = some r := by rw [if_pos rfl] at H; exact H
    clear H
    have H := H1
    clear H1
    have H' := Aside0.mk H
    clear H
    have hcz8_0 : w3.cell? ⟨gb593, 0, none⟩ = some (.string a0_0) := (blk_cell BK593.out 0).trans rfl
    have hcz8_1 : w3.cell? ⟨gb593, 1, none⟩ = some (.string a0_1) := (blk_cell BK593.out 1).trans rfl
    have hcz8_2 : w3.cell? ⟨gb593, 2, none⟩ = some (.int .i64 a0_2) := (blk_cell BK593.out 2).trans rfl
    have hcz8_3 : w3.cell? ⟨gb593, 3, none⟩ = some (.slice A0_3 l0_3.length c0_3) := (blk_cell BK593.out 3).trans rfl
    have hcz8_4 : w3.cell? ⟨gb593, 4, none⟩ = some (.int .i64 a0_4) := (blk_cell BK593.out 4).trans rfl
    have hfz8_0 := blk_frozen BK593.out 0
    have hfz8_1 := blk_frozen BK593.out 1
    have hfz8_2 := blk_frozen BK593.out 2
    have hfz8_3 := blk_frozen BK593.out 3
    have hfz8_4 := blk_frozen BK593.out 4
    go_wp2_with (first | ((with_reducible refine gate_callee (f := 66) rfl ?_); refine goesL_ (some 11) rfl rfl Try.func66 (by kernel_rfl) rfl #[.string a0_0, .string a0_1, .int .i64 a0_2] rfl (by (try simp only [List.map_toArray, List.map_cons, List.map_nil]); first | done | rfl | (simp only [List.length_drop, List.length_take]; rfl)) ?_; (with_reducible refine (impl_headOK.calls k a0_0 a0_1 a0_2 true _ A4.out).mono ?_); rintro e w' ⟨rfl, ⟨nd, rfl⟩⟩; refine ⟨_, rfl, ?_⟩) | (go_at_call 67; (with_reducible refine (impl_within.calls a0_4 0 4294967295 true _ A6.out).mono ?_); rintro e w' ⟨rfl, ⟨nd, rfl⟩⟩))
    go_meet
    case rel => exact ⟨_, (decide ((l0_3.length : Int) > 120)), (by first | rfl | (simp; done) | (simp [*]; done)), H', ⟨by first | omega | exact Nat.le_refl _⟩, ⟨by (with_reducible repeat (first | refine blk_drewN ?_ _ | refine blk_drew ?_ | refine blk_alloc ?_ _)); exact BK593.out⟩, ⟨by repeat (first | (with_reducible first | exact HB.out | apply below_alloc | apply pw_below_drewN | apply below_drew1 | refine below_set ?_ GE593.out) | exact HB.out)⟩⟩
   ·replace c7 := Bool.eq_false_iff.mpr c7
    subst c7
    have H1 : (impl_BackupOK.j0 k true a0_0 a0_1 a0_2 l0_3 a0_4) = some r := by rw [if_neg (show ¬ (false = true) by decide)] at H; exact H
    clear H
    have H := H1
    clear H1
    have H' := Aside0.mk H
    clear H
    have hcz9_0 : w3.cell? ⟨gb593, 0, none⟩ = some (.string a0_0) := (blk_cell BK593.out 0).trans rfl
    have hcz9_1 : w3.cell? ⟨gb593, 1, none⟩ = some (.string a0_1) := (blk_cell BK593.out 1).trans rfl
    have hcz9_2 : w3.cell? ⟨gb593, 2, none⟩ = some (.int .i64 a0_2) := (blk_cell BK593.out 2).trans rfl
    have hcz9_3 : w3.cell? ⟨gb593, 3, none⟩ = some (.slice A0_3 l0_3.length c0_3) := (blk_cell BK593.out 3).trans rfl
    have hcz9_4 : w3.cell? ⟨gb593, 4, none⟩ = some (.int .i64 a0_4) := (blk_cell BK593.out 4).trans rfl
    have hfz9_0 := blk_frozen BK593.out 0
    have hfz9_1 := blk_frozen BK593.out 1
    have hfz9_2 := blk_frozen BK593.out 2
    have hfz9_3 := blk_frozen BK593.out 3
    have hfz9_4 := blk_frozen BK593.out 4
    go_wp2_with (first | ((with_reducible refine gate_callee (f := 66) rfl ?_); refine goesL_ (some 11) rfl rfl Try.func66 (by kernel_rfl) rfl #[.string a0_0, .string a0_1, .int .i64 a0_2] rfl (by (try simp only [List.map_toArray, List.map_cons, List.map_nil]); first | done | rfl | (simp only [List.length_drop, List.length_take]; rfl)) ?_; (with_reducible refine (impl_headOK.calls k a0_0 a0_1 a0_2 true _ A4.out).mono ?_); rintro e w' ⟨rfl, ⟨nd, rfl⟩⟩; refine ⟨_, rfl, ?_⟩) | (go_at_call 67; (with_reducible refine (impl_within.calls a0_4 0 4294967295 false _ A6.out).mono ?_); rintro e w' ⟨rfl, ⟨nd, rfl⟩⟩))
    go_meet
    case rel => exact ⟨_, (true), (by first | rfl | (simp; done) | (simp [*]; done)), H', ⟨by first | omega | exact Nat.le_refl _⟩, ⟨by (with_reducible repeat (first | refine blk_drewN ?_ _ | refine blk_drew ?_ | refine blk_alloc ?_ _)); exact BK593.out⟩, ⟨by repeat (first | (with_reducible first | exact HB.out | apply below_alloc | apply pw_below_drewN | apply below_drew1 | refine below_set ?_ GE593.out) | exact HB.out)⟩⟩
  ·replace c5 := Bool.eq_false_iff.mpr c5
   subst c5
   have H1 : (impl_BackupOK.j0 k true a0_0 a0_1 a0_2 l0_3 a0_4) = some r := by rw [if_neg (show ¬ (false = true) by decide)] at H; exact H
   clear H
   have H := H1
   clear H1
   have H' := Aside0.mk H
   clear H
   have hcz10_0 : w3.cell? ⟨gb593, 0, none⟩ = some (.string a0_0) := (blk_cell BK593.out 0).trans rfl
   have hcz10_1 : w3.cell? ⟨gb593, 1, none⟩ = some (.string a0_1) := (blk_cell BK593.out 1).trans rfl
   have hcz10_2 : w3.cell? ⟨gb593, 2, none⟩ = some (.int .i64 a0_2) := (blk_cell BK593.out 2).trans rfl
   have hcz10_3 : w3.cell? ⟨gb593, 3, none⟩ = some (.slice A0_3 l0_3.length c0_3) := (blk_cell BK593.out 3).trans rfl
   have hcz10_4 : w3.cell? ⟨gb593, 4, none⟩ = some (.int .i64 a0_4) := (blk_cell BK593.out 4).trans rfl
   have hfz10_0 := blk_frozen BK593.out 0
   have hfz10_1 := blk_frozen BK593.out 1
   have hfz10_2 := blk_frozen BK593.out 2
   have hfz10_3 := blk_frozen BK593.out 3
   have hfz10_4 := blk_frozen BK593.out 4
   go_wp2_with (first | ((with_reducible refine gate_callee (f := 66) rfl ?_); refine goesL_ (some 11) rfl rfl Try.func66 (by kernel_rfl) rfl #[.string a0_0, .string a0_1, .int .i64 a0_2] rfl (by (try simp only [List.map_toArray, List.map_cons, List.map_nil]); first | done | rfl | (simp only [List.length_drop, List.length_take]; rfl)) ?_; (with_reducible refine (impl_headOK.calls k a0_0 a0_1 a0_2 false _ A4.out).mono ?_); rintro e w' ⟨rfl, ⟨nd, rfl⟩⟩; refine ⟨_, rfl, ?_⟩))
   go_meet
   case rel => exact ⟨_, (true), (by first | rfl | (simp; done) | (simp [*]; done)), H', ⟨by first | omega | exact Nat.le_refl _⟩, ⟨by (with_reducible repeat (first | refine blk_drewN ?_ _ | refine blk_drew ?_ | refine blk_alloc ?_ _)); exact BK593.out⟩, ⟨by repeat (first | (with_reducible first | exact HB.out | apply below_alloc | apply pw_below_drewN | apply below_drew1 | refine below_set ?_ GE593.out) | exact HB.out)⟩⟩
 case rest =>
  clear HC2
  try clear p2
  try clear c3
  try clear c5
  try clear c6
  try clear c7
  try clear hcz10_0
  try clear hcz10_1
  try clear hcz10_2
  try clear hcz10_3
  try clear hcz10_4
  try clear hcz8_0
  try clear hcz8_1
  try clear hcz8_2
  try clear hcz8_3
  try clear hcz8_4
  try clear hcz9_0
  try clear hcz9_1
  try clear hcz9_2
  try clear hcz9_3
  try clear hcz9_4
  try clear hfz10_0
  try clear hfz10_1
  try clear hfz10_2
  try clear hfz10_3
  try clear hfz10_4
  try clear hfz8_0
  try clear hfz8_1
  try clear hfz8_2
  try clear hfz8_3
  try clear hfz8_4
  try clear hfz9_0
  try clear hfz9_1
  try clear hfz9_2
  try clear hfz9_3
  try clear hfz9_4
  obtain ⟨kq, x24_1, rfl, HA, HJ1, BK593, HB⟩ := hcut
  cases kq with
  | zero => exact absurd HA.out (by simp [impl_BackupOK.j0])
  | succ kj1 =>
   have H := HA.out
   clear HA
   simp only [impl_BackupOK.j0] at H
   by_cases c11 : x24_1 = true
   ·subst c11
    have H1 : (some false) = some r := by rw [if_pos rfl] at H; exact H
    clear H
    have H := H1
    clear H1
    obtain rfl := Option.some.inj H
    go_wp2
    go_ret
    exact ⟨by first | rfl | (simp [errW_none, errW_some] <;> rfl) | (simp [*, errW_none, errW_some] <;> rfl), by repeat (first | (with_reducible first | exact HB.out | apply below_alloc | apply pw_below_drewN | apply below_drew1 | refine below_set ?_ GE593.out) | exact HB.out)⟩
   ·replace c11 := Bool.eq_false_iff.mpr c11
    subst c11
    have H1 : (impl_BackupOK.l0 kj1 l0_3 (l0_3.length : Int) 0 a0_0 a0_1 a0_2 l0_3 a0_4) = some r := by rw [if_neg (show ¬ (false = true) by decide)] at H; exact H
    clear H
    have H := H1
    clear H1
    have H' := Aside0.mk H
    clear H
    have hcz12_0 : wc.cell? ⟨gb593, 0, none⟩ = some (.string a0_0) := (blk_cell BK593.out 0).trans rfl
    have hcz12_1 : wc.cell? ⟨gb593, 1, none⟩ = some (.string a0_1) := (blk_cell BK593.out 1).trans rfl
    have hcz12_2 : wc.cell? ⟨gb593, 2, none⟩ = some (.int .i64 a0_2) := (blk_cell BK593.out 2).trans rfl
    have hcz12_3 : wc.cell? ⟨gb593, 3, none⟩ = some (.slice A0_3 l0_3.length c0_3) := (blk_cell BK593.out 3).trans rfl
    have hcz12_4 : wc.cell? ⟨gb593, 4, none⟩ = some (.int .i64 a0_4) := (blk_cell BK593.out 4).trans rfl
    have hfz12_0 := blk_frozen BK593.out 0
    have hfz12_1 := blk_frozen BK593.out 1
    have hfz12_2 := blk_frozen BK593.out 2
    have hfz12_3 := blk_frozen BK593.out 3
    have hfz12_4 := blk_frozen BK593.out 4
    go_wp2
    go_loopg [28] kj1 (fun kq v28 w' => ∃ (x28_2 : Int), v28 = .int .i64 x28_2 ∧ Aside0 (impl_BackupOK.l0 kq l0_3 (l0_3.length : Int) x28_2 a0_0 a0_1 a0_2 l0_3 a0_4 = some r) ∧ Aside0 (kq ≤ kj1) ∧ Aside0 (w'.heap[gb593]? = some (.cells #[.string a0_0, .string a0_1, .int .i64 a0_2, (.slice A0_3 l0_3.length c0_3), .int .i64 a0_4] 48 (0, 0))) ∧ Aside0 (Below w.heap.size w w'))
    case atStart => exact ⟨(0), (by first | rfl | (simp; done) | (simp [*]; done)), H', ⟨Nat.le_refl _⟩, ⟨by (with_reducible repeat (first | refine blk_drewN ?_ _ | refine blk_drew ?_ | refine blk_alloc ?_ _)); exact BK593.out⟩, ⟨by repeat (first | (with_reducible first | exact HB.out | apply below_alloc | apply pw_below_drewN | apply below_drew1 | refine below_set ?_ GE593.out) | exact HB.out)⟩⟩
    case round =>
     clear H'
     try clear c1
     try clear p2
     try clear c3
     try clear c5
     try clear c6
     try clear c7
     try clear c11
     try clear hcz10_0
     try clear hcz10_1
     try clear hcz10_2
     try clear hcz10_3
     try clear hcz10_4
     try clear hcz12_0
     try clear hcz12_1
     try clear hcz12_2
     try clear hcz12_3
     try clear hcz12_4
     try clear hcz8_0
     try clear hcz8_1
     try clear hcz8_2
     try clear hcz8_3
     try clear hcz8_4
     try clear hcz9_0
     try clear hcz9_1
     try clear hcz9_2
     try clear hcz9_3
     try clear hcz9_4
     try clear hfz10_0
     try clear hfz10_1
     try clear hfz10_2
     try clear hfz10_3
     try clear hfz10_4
     try clear hfz12_0
     try clear hfz12_1
     try clear hfz12_2
     try clear hfz12_3
     try clear hfz12_4
     try clear hfz8_0
     try clear hfz8_1
     try clear hfz8_2
     try clear hfz8_3
     try clear hfz8_4
     try clear hfz9_0
     try clear hfz9_1
     try clear hfz9_2
     try clear hfz9_3
     try clear hfz9_4
     try clear p2
     obtain ⟨x28_2, rfl, HA, HK2, BK593, HB⟩ := hrel
     cases gk with
     | zero => exact absurd HA.out (by simp [impl_BackupOK.l0])
     | succ k2 =>
      have H := HA.out
      clear HA
      simp only [impl_BackupOK.l0] at H
      by_cases c13 : x28_2 < (l0_3.length : Int)
      ·rw [if_pos c13] at H
       have c13b0 : decide (x28_2 < (l0_3.length : Int)) = true := decide_eq_true c13
       clear c13
       by_cases c14 : 0 ≤ x28_2
       ·rw [if_pos c14] at H
        have c14b0 : decide (0 ≤ x28_2) = true := decide_eq_true c14
        clear c14
        by_cases c15 : x28_2 < (l0_3.length : Int)
        ·rw [if_pos c15] at H
         have c15b0 : decide (x28_2 < (l0_3.length : Int)) = true := decide_eq_true c15
         clear c15
         replace H := Option.bind_eq_some_iff.mp H
         obtain ⟨t598, A160, H⟩ := H
         replace H : (if t598 = true then (if x28_2 > 0 then (if 0 ≤ (wrap64 (x28_2 - 1)) then (if (wrap64 (x28_2 - 1)) < (l0_3.length : Int) then (if ((Op.bytesLess (((rd_T82 l0_3 (wrap64 (x28_2 - 1))).f0).toList) (((rd_T82 l0_3 x28_2).f0).toList)) = true) then (impl_BackupOK.l0 k2 l0_3 (l0_3.length : Int) (wrap64 (x28_2 + 1)) a0_0 a0_1 a0_2 l0_3 a0_4) else (some false)) else (none)) else (none)) else (impl_BackupOK.l0 k2 l0_3 (l0_3.length : Int) (wrap64 (x28_2 + 1)) a0_0 a0_1 a0_2 l0_3 a0_4)) else (some false)) = some r := H
         have A16 := Aside0.mk A160
         clear A160
         by_cases c17 : t598 = true
         ·subst c17
          have H1 : (if x28_2 > 0 then (if 0 ≤ (wrap64 (x28_2 - 1)) then (if (wrap64 (x28_2 - 1)) < (l0_3.length : Int) then (if ((Op.bytesLess (((rd_T82 l0_3 (wrap64 (x28_2 - 1))).f0).toList) (((rd_T82 l0_3 x28_2).f0).toList)) = true) then (impl_BackupOK.l0 k2 l0_3 (l0_3.length : Int) (wrap64 (x28_2 + 1)) a0_0 a0_1 a0_2 l0_3 a0_4) else (some false)) else (none)) else (none)) else (impl_BackupOK.l0 k2 l0_3 (l0_3.length : Int) (wrap64 (x28_2 + 1)) a0_0 a0_1 a0_2 l0_3 a0_4)) = some r := by rw [if_pos rfl] at H; exact H
          clear H
          have H := H1
          clear H1
          by_cases c18 : x28_2 > 0
          ·rw [if_pos c18] at H
           have c18b0 : decide (0 < x28_2) = true := decide_eq_true c18
           clear c18
           obtain ⟨ji19, hji19⟩ : ∃ j_ : Int, (wrap64 (x28_2 - 1)) = j_ := ⟨_, rfl⟩
           replace H : (if 0 ≤ (ji19) then (if (ji19) < (l0_3.length : Int) then (if ((Op.bytesLess (((rd_T82 l0_3 (ji19)).f0).toList) (((rd_T82 l0_3 x28_2).f0).toList)) = true) then (impl_BackupOK.l0 k2 l0_3 (l0_3.length : Int) (wrap64 (x28_2 + 1)) a0_0 a0_1 a0_2 l0_3 a0_4) else (some false)) else (none)) else (none)) = some r := by first | (rw [hji19] at H; exact H) | (simp only [hji19] at H ⊢; exact H)
           (try rw [hji19] at A16)
           have hji19w : (IntKind.i64.wrap (x28_2 - 1)) = ji19 := (i64_w _).trans hji19
           by_cases c20 : 0 ≤ (ji19)
           ·rw [if_pos c20] at H
            have c20b0 : decide (0 ≤ (ji19)) = true := decide_eq_true c20
            clear c20
            by_cases c21 : (ji19) < (l0_3.length : Int)
            ·rw [if_pos c21] at H
             have c21b0 : decide ((ji19) < (l0_3.length : Int)) = true := decide_eq_true c21
             clear c21
             by_cases c22 : ((Op.bytesLess (((rd_T82 l0_3 (ji19)).f0).toList) (((rd_T82 l0_3 x28_2).f0).toList)) = true)
             ·rw [if_pos c22] at H
              have c22b0 : (Op.bytesLess (((rd_T82 l0_3 (ji19)).f0).toList) (((rd_T82 l0_3 x28_2).f0).toList)) = true := c22
              clear c22
              have H' := Aside0.mk H
              clear H
              have p596 : 0 ≤ (x28_2 : Int) := of_decide_eq_true (by first | (with_reducible assumption) | assumption)
              have q596 : x28_2 < (l0_3.length : Int) := of_decide_eq_true (by first | (with_reducible assumption) | assumption)
              obtain ⟨ad596, e596, hx596_0, hx596_1, hx596_2, hx596_3, hx596_4⟩ := at_T82 HR0_3.out x28_2 p596 q596
              cases e596
              replace hx596_0 := (HB.out.cell (World.block_lt_of_cell? w _ hx596_0)).trans hx596_0
              replace hx596_1 := (HB.out.cell (World.block_lt_of_cell? w _ hx596_1)).trans hx596_1
              replace hx596_2 := (HB.out.cell (World.block_lt_of_cell? w _ hx596_2)).trans hx596_2
              replace hx596_3 := (HB.out.cell (World.block_lt_of_cell? w _ hx596_3)).trans hx596_3
              replace hx596_4 := (HB.out.cell (World.block_lt_of_cell? w _ hx596_4)).trans hx596_4
              replace p596 := eq_true p596
              replace q596 := eq_true q596
              try go_wp2_with (first | ((with_reducible refine gate_dst (N := 4) rfl ?_); (try (refine gate_guard (by rfl) ?_; dsimp only)); refine box_event ?hg (N := 4) ?hd (cs := #[.string (⟨#[]⟩ : ByteArray), .string (⟨#[]⟩ : ByteArray), .string (⟨#[]⟩ : ByteArray), .bool false, .bool false]) (t := 82) ?hr ?_; (case hd => rfl); (case hg => rfl); (case hr => first | (go_simp; done) | (go_simp; rfl)); intro gb597 hg w23 hbox hb; have n0_ := Aside0.mk (blk_below (g := gb593) (o := .cells #[.string a0_0, .string a0_1, .int .i64 a0_2, .slice (some ad596) l0_3.length c0_3, .int .i64 a0_4] 48 (0, 0)) (by (with_reducible repeat (first | refine blk_drewN ?_ _ | refine blk_drew ?_ | refine blk_alloc ?_ _)); exact BK593.out) hb); have n1_ := Aside0.mk (below_step (by repeat (first | (with_reducible first | exact HB.out | apply below_alloc | apply pw_below_drewN | apply below_drew1 | refine below_set ?_ GE593.out) | exact HB.out)) hb); have n2_ := Aside0.mk (hbox); have n3_ := Aside0.mk ((by rw [hg]; exact (below_size (by repeat (first | (with_reducible first | exact HB.out | apply below_alloc | apply pw_below_drewN | apply below_drew1 | refine below_set ?_ GE593.out) | exact HB.out))) : w.heap.size ≤ gb597)); have n4_ := Aside0.mk ((by rw [hg]; exact (below_size (by repeat (first | (with_reducible first | exact HB.out | apply below_alloc | apply pw_below_drewN | apply below_drew1 | refine below_set ?_ GE593.out) | exact HB.out))) : w.heap.size ≤ gb597)); have n5_ := Aside0.mk ((by rw [hg]; exact Nat.ne_of_lt (blk_lt (g := gb593) (o := .cells #[.string a0_0, .string a0_1, .int .i64 a0_2, .slice (some ad596) l0_3.length c0_3, .int .i64 a0_4] 48 (0, 0)) (by (with_reducible repeat (first | refine blk_drewN ?_ _ | refine blk_drew ?_ | refine blk_alloc ?_ _)); exact BK593.out)) : gb593 ≠ gb597)); have n6_ := Aside0.mk ((by rw [hg]; exact Nat.ne_of_gt (blk_lt (g := gb593) (o := .cells #[.string a0_0, .string a0_1, .int .i64 a0_2, .slice (some ad596) l0_3.length c0_3, .int .i64 a0_4] 48 (0, 0)) (by (with_reducible repeat (first | refine blk_drewN ?_ _ | refine blk_drew ?_ | refine blk_alloc ?_ _)); exact BK593.out)) : gb597 ≠ gb593)); clear BK593; clear HB; have BK593 := n0_; have HB := n1_; have BK597 := n2_; have GW597 := n3_; have GE597 := n4_; have NB593_597 := n5_; have NB597_593 := n6_; clear n0_ n1_ n2_ n3_ n4_ n5_ n6_; clear hb hbox hg; have hnb24 := NB597_593.out; have hnc24 := NB593_597.out; have hcz25_0 : w23.cell? ⟨gb597, 0, none⟩ = some (.string (⟨#[]⟩ : ByteArray)) := (blk_cell BK597.out 0).trans rfl; have hcz25_1 : w23.cell? ⟨gb597, 1, none⟩ = some (.string (⟨#[]⟩ : ByteArray)) := (blk_cell BK597.out 1).trans rfl; have hcz25_2 : w23.cell? ⟨gb597, 2, none⟩ = some (.string (⟨#[]⟩ : ByteArray)) := (blk_cell BK597.out 2).trans rfl; have hcz25_3 : w23.cell? ⟨gb597, 3, none⟩ = some (.bool false) := (blk_cell BK597.out 3).trans rfl; have hcz25_4 : w23.cell? ⟨gb597, 4, none⟩ = some (.bool false) := (blk_cell BK597.out 4).trans rfl; have hfz25_0 := blk_frozen BK597.out 0; have hfz25_1 := blk_frozen BK597.out 1; have hfz25_2 := blk_frozen BK597.out 2; have hfz25_3 := blk_frozen BK597.out 3; have hfz25_4 := blk_frozen BK597.out 4))
              have n0_ : Aside0 ((((((w23.setCell ⟨gb597, 0, none⟩ (.string ((rd_T82 l0_3 x28_2).f0))).setCell ⟨gb597, 1, none⟩ (.string ((rd_T82 l0_3 x28_2).f1))).setCell ⟨gb597, 2, none⟩ (.string ((rd_T82 l0_3 x28_2).f2))).setCell ⟨gb597, 3, none⟩ (.bool ((rd_T82 l0_3 x28_2).f3))).setCell ⟨gb597, 4, none⟩ (.bool ((rd_T82 l0_3 x28_2).f4))).heap[gb593]? = some (.cells #[.string a0_0, .string a0_1, .int .i64 a0_2, .slice (some ad596) l0_3.length c0_3, .int .i64 a0_4] 48 (0, 0))) := ⟨by (with_reducible repeat (first | refine blk_drewN ?_ _ | refine blk_drew ?_ | refine blk_alloc ?_ _)); refine blk_far ?_ NB593_597.out _; (with_reducible repeat (first | refine blk_drewN ?_ _ | refine blk_drew ?_ | refine blk_alloc ?_ _)); refine blk_far ?_ NB593_597.out _; (with_reducible repeat (first | refine blk_drewN ?_ _ | refine blk_drew ?_ | refine blk_alloc ?_ _)); refine blk_far ?_ NB593_597.out _; (with_reducible repeat (first | refine blk_drewN ?_ _ | refine blk_drew ?_ | refine blk_alloc ?_ _)); refine blk_far ?_ NB593_597.out _; (with_reducible repeat (first | refine blk_drewN ?_ _ | refine blk_drew ?_ | refine blk_alloc ?_ _)); refine blk_far ?_ NB593_597.out _; (with_reducible repeat (first | refine blk_drewN ?_ _ | refine blk_drew ?_ | refine blk_alloc ?_ _)); exact BK593.out⟩
              have n1_ : Aside0 ((((((w23.setCell ⟨gb597, 0, none⟩ (.string ((rd_T82 l0_3 x28_2).f0))).setCell ⟨gb597, 1, none⟩ (.string ((rd_T82 l0_3 x28_2).f1))).setCell ⟨gb597, 2, none⟩ (.string ((rd_T82 l0_3 x28_2).f2))).setCell ⟨gb597, 3, none⟩ (.bool ((rd_T82 l0_3 x28_2).f3))).setCell ⟨gb597, 4, none⟩ (.bool ((rd_T82 l0_3 x28_2).f4))).heap[gb597]? = some (.cells #[.string ((rd_T82 l0_3 x28_2).f0), .string ((rd_T82 l0_3 x28_2).f1), .string ((rd_T82 l0_3 x28_2).f2), .bool ((rd_T82 l0_3 x28_2).f3), .bool ((rd_T82 l0_3 x28_2).f4)] 82 (0, 0))) := ⟨by (with_reducible repeat (first | refine blk_drewN ?_ _ | refine blk_drew ?_ | refine blk_alloc ?_ _)); refine blk_put (cs := #[.string ((rd_T82 l0_3 x28_2).f0), .string ((rd_T82 l0_3 x28_2).f1), .string ((rd_T82 l0_3 x28_2).f2), .bool ((rd_T82 l0_3 x28_2).f3), .bool false]) ?_ 4 _ rfl; (with_reducible repeat (first | refine blk_drewN ?_ _ | refine blk_drew ?_ | refine blk_alloc ?_ _)); refine blk_put (cs := #[.string ((rd_T82 l0_3 x28_2).f0), .string ((rd_T82 l0_3 x28_2).f1), .string ((rd_T82 l0_3 x28_2).f2), .bool false, .bool false]) ?_ 3 _ rfl; (with_reducible repeat (first | refine blk_drewN ?_ _ | refine blk_drew ?_ | refine blk_alloc ?_ _)); refine blk_put (cs := #[.string ((rd_T82 l0_3 x28_2).f0), .string ((rd_T82 l0_3 x28_2).f1), .string (⟨#[]⟩ : ByteArray), .bool false, .bool false]) ?_ 2 _ rfl; (with_reducible repeat (first | refine blk_drewN ?_ _ | refine blk_drew ?_ | refine blk_alloc ?_ _)); refine blk_put (cs := #[.string ((rd_T82 l0_3 x28_2).f0), .string (⟨#[]⟩ : ByteArray), .string (⟨#[]⟩ : ByteArray), .bool false, .bool false]) ?_ 1 _ rfl; (with_reducible repeat (first | refine blk_drewN ?_ _ | refine blk_drew ?_ | refine blk_alloc ?_ _)); refine blk_put (cs := #[.string (⟨#[]⟩ : ByteArray), .string (⟨#[]⟩ : ByteArray), .string (⟨#[]⟩ : ByteArray), .bool false, .bool false]) ?_ 0 _ rfl; (with_reducible repeat (first | refine blk_drewN ?_ _ | refine blk_drew ?_ | refine blk_alloc ?_ _)); exact BK597.out⟩
              have n2_ : Aside0 (Below w.heap.size w (((((w23.setCell ⟨gb597, 0, none⟩ (.string ((rd_T82 l0_3 x28_2).f0))).setCell ⟨gb597, 1, none⟩ (.string ((rd_T82 l0_3 x28_2).f1))).setCell ⟨gb597, 2, none⟩ (.string ((rd_T82 l0_3 x28_2).f2))).setCell ⟨gb597, 3, none⟩ (.bool ((rd_T82 l0_3 x28_2).f3))).setCell ⟨gb597, 4, none⟩ (.bool ((rd_T82 l0_3 x28_2).f4)))) := ⟨by repeat (first | (with_reducible first | exact HB.out | apply below_alloc | apply pw_below_drewN | apply below_drew1 | refine below_set ?_ GE593.out | refine below_set ?_ GE597.out) | exact HB.out)⟩
              (try clear BK593)
              (try clear BK597)
              (try clear HB)
              generalize (((((w23.setCell ⟨gb597, 0, none⟩ (.string ((rd_T82 l0_3 x28_2).f0))).setCell ⟨gb597, 1, none⟩ (.string ((rd_T82 l0_3 x28_2).f1))).setCell ⟨gb597, 2, none⟩ (.string ((rd_T82 l0_3 x28_2).f2))).setCell ⟨gb597, 3, none⟩ (.bool ((rd_T82 l0_3 x28_2).f3))).setCell ⟨gb597, 4, none⟩ (.bool ((rd_T82 l0_3 x28_2).f4))) = w26 at n0_ n1_ n2_ ⊢
              have BK593 := n0_
              have BK597 := n1_
              have HB := n2_
              clear n0_ n1_ n2_
              have n0_ := Aside0.mk (blk_drew BK593.out)
              have n1_ := Aside0.mk (blk_drew BK597.out)
              have n2_ := Aside0.mk (below_drew1 HB.out)
              clear BK593
              clear BK597
              clear HB
              have BK593 := n0_
              have BK597 := n1_
              have HB := n2_
              clear n0_ n1_ n2_
              have p599 : 0 ≤ ((ji19) : Int) := of_decide_eq_true (by first | (with_reducible assumption) | assumption)
              have q599 : (ji19) < (l0_3.length : Int) := of_decide_eq_true (by first | (with_reducible assumption) | assumption)
              obtain ⟨ad599, e599, hx599_0, hx599_1, hx599_2, hx599_3, hx599_4⟩ := at_T82 HR0_3.out (ji19) p599 q599
              have hw599_4 := hx599_4
              have hw599_3 := hx599_3
              have hw599_2 := hx599_2
              have hw599_1 := hx599_1
              have hw599_0 := hx599_0
              obtain rfl : ad596 = ad599 := (by injection e599)
              replace hx599_0 := (HB.out.cell (World.block_lt_of_cell? w _ hx599_0)).trans hx599_0
              replace hx599_1 := (HB.out.cell (World.block_lt_of_cell? w _ hx599_1)).trans hx599_1
              replace hx599_2 := (HB.out.cell (World.block_lt_of_cell? w _ hx599_2)).trans hx599_2
              replace hx599_3 := (HB.out.cell (World.block_lt_of_cell? w _ hx599_3)).trans hx599_3
              replace hx599_4 := (HB.out.cell (World.block_lt_of_cell? w _ hx599_4)).trans hx599_4
              replace p599 := eq_true p599
              replace q599 := eq_true q599
              refine wp_region_later (by kernel_rfl) (by kernel_rfl) ?_
              have hL0_ := Aside0.mk (show w26.drew.cell? ⟨gb597, 0, none⟩ = some (.string ((rd_T82 l0_3 x28_2).f0)) from (blk_cell BK597.out 0).trans rfl)
              have hL1_ := Aside0.mk (show w26.drew.cell? ⟨gb597, 1, none⟩ = some (.string ((rd_T82 l0_3 x28_2).f1)) from (blk_cell BK597.out 1).trans rfl)
              have hL2_ := Aside0.mk (show w26.drew.cell? ⟨gb597, 2, none⟩ = some (.string ((rd_T82 l0_3 x28_2).f2)) from (blk_cell BK597.out 2).trans rfl)
              have hL3_ := Aside0.mk (show w26.drew.cell? ⟨gb597, 3, none⟩ = some (.bool ((rd_T82 l0_3 x28_2).f3)) from (blk_cell BK597.out 3).trans rfl)
              have hL4_ := Aside0.mk (show w26.drew.cell? ⟨gb597, 4, none⟩ = some (.bool ((rd_T82 l0_3 x28_2).f4)) from (blk_cell BK597.out 4).trans rfl)
              have hL5_ := Aside0.mk (show w26.drew.cell? ⟨gb593, 0, none⟩ = some (.string a0_0) from (blk_cell BK593.out 0).trans rfl)
              have hL6_ := Aside0.mk (show w26.drew.cell? ⟨gb593, 1, none⟩ = some (.string a0_1) from (blk_cell BK593.out 1).trans rfl)
              have hL7_ := Aside0.mk (show w26.drew.cell? ⟨gb593, 2, none⟩ = some (.int .i64 a0_2) from (blk_cell BK593.out 2).trans rfl)
              have hL8_ := Aside0.mk (show w26.drew.cell? ⟨gb593, 3, none⟩ = some (.slice (some ad596) l0_3.length c0_3) from (blk_cell BK593.out 3).trans rfl)
              have hL9_ := Aside0.mk (show w26.drew.cell? ⟨gb593, 4, none⟩ = some (.int .i64 a0_4) from (blk_cell BK593.out 4).trans rfl)
              have hL10_ := Aside0.mk (show w26.drew.cell? (ad596.add (((ji19)).toNat * 5)) = some (.string ((rd_T82 l0_3 (ji19)).f0)) from ((HB.out.cell (World.block_lt_of_cell? w _ hw599_0)).trans hw599_0))
              have hL11_ := Aside0.mk (show w26.drew.cell? ⟨(ad596.add (((ji19)).toNat * 5)).block, (ad596.add (((ji19)).toNat * 5)).off + 1, none⟩ = some (.string ((rd_T82 l0_3 (ji19)).f1)) from ((HB.out.cell (World.block_lt_of_cell? w _ hw599_1)).trans hw599_1))
              have hL12_ := Aside0.mk (show w26.drew.cell? ⟨(ad596.add (((ji19)).toNat * 5)).block, (ad596.add (((ji19)).toNat * 5)).off + 2, none⟩ = some (.string ((rd_T82 l0_3 (ji19)).f2)) from ((HB.out.cell (World.block_lt_of_cell? w _ hw599_2)).trans hw599_2))
              have hL13_ := Aside0.mk (show w26.drew.cell? ⟨(ad596.add (((ji19)).toNat * 5)).block, (ad596.add (((ji19)).toNat * 5)).off + 3, none⟩ = some (.bool ((rd_T82 l0_3 (ji19)).f3)) from ((HB.out.cell (World.block_lt_of_cell? w _ hw599_3)).trans hw599_3))
              have hL14_ := Aside0.mk (show w26.drew.cell? ⟨(ad596.add (((ji19)).toNat * 5)).block, (ad596.add (((ji19)).toNat * 5)).off + 4, none⟩ = some (.bool ((rd_T82 l0_3 (ji19)).f4)) from ((HB.out.cell (World.block_lt_of_cell? w _ hw599_4)).trans hw599_4))
              generalize w26.drew = w27 at BK593 BK597 HB hx599_0 hx599_1 hx599_2 hx599_3 hx599_4 hL0_ hL1_ hL2_ hL3_ hL4_ hL5_ hL6_ hL7_ hL8_ hL9_ hL10_ hL11_ hL12_ hL13_ hL14_ ⊢
              clear hx599_0 hx599_1 hx599_2 hx599_3 hx599_4
              have hL0 := fun (p_ : Later w27) => Later.cell p_ hL0_.out
              have hL1 := fun (p_ : Later w27) => Later.cell p_ hL1_.out
              have hL2 := fun (p_ : Later w27) => Later.cell p_ hL2_.out
              have hL3 := fun (p_ : Later w27) => Later.cell p_ hL3_.out
              have hL4 := fun (p_ : Later w27) => Later.cell p_ hL4_.out
              have hL5 := fun (p_ : Later w27) => Later.cell p_ hL5_.out
              have hL6 := fun (p_ : Later w27) => Later.cell p_ hL6_.out
              have hL7 := fun (p_ : Later w27) => Later.cell p_ hL7_.out
              have hL8 := fun (p_ : Later w27) => Later.cell p_ hL8_.out
              have hL9 := fun (p_ : Later w27) => Later.cell p_ hL9_.out
              have hL10 := fun (p_ : Later w27) => Later.cell p_ hL10_.out
              have hL11 := fun (p_ : Later w27) => Later.cell p_ hL11_.out
              have hL12 := fun (p_ : Later w27) => Later.cell p_ hL12_.out
              have hL13 := fun (p_ : Later w27) => Later.cell p_ hL13_.out
              have hL14 := fun (p_ : Later w27) => Later.cell p_ hL14_.out
              clear hL0_ hL1_ hL2_ hL3_ hL4_ hL5_ hL6_ hL7_ hL8_ hL9_ hL10_ hL11_ hL12_ hL13_ hL14_
              repeat (first | go_big_quiet_step ((first | (go_at_call 68; exact Calls.later_of (impl_diffOK.calls ((rd_T82 l0_3 x28_2).f0) ((rd_T82 l0_3 x28_2).f1) ((rd_T82 l0_3 x28_2).f2) ((rd_T82 l0_3 x28_2).f3) ((rd_T82 l0_3 x28_2).f4) true _ A16.out)))) | quiet_step ((first | (go_at_call 68; exact Calls.later_of (impl_diffOK.calls ((rd_T82 l0_3 x28_2).f0) ((rd_T82 l0_3 x28_2).f1) ((rd_T82 l0_3 x28_2).f2) ((rd_T82 l0_3 x28_2).f3) ((rd_T82 l0_3 x28_2).f4) true _ A16.out)))))
              refine wpQuiet_nil ?_
              rintro w28 ⟨⟨wq_, hbL⟩, hq_⟩
              have hq2_ : w28 = wq_ := hq_
              clear hq_
              subst hq2_
              clear hL0 hL1 hL2 hL3 hL4 hL5 hL6 hL7 hL8 hL9 hL10 hL11 hL12 hL13 hL14
              have nBK593_ := Aside0.mk ((hbL.block _ (blk_lt BK593.out)).trans BK593.out)
              have nBK597_ := Aside0.mk ((hbL.block _ (blk_lt BK597.out)).trans BK597.out)
              have nHB_ := Aside0.mk (below_step HB.out hbL)
              clear BK593
              clear BK597
              clear HB
              have BK593 := nBK593_
              have BK597 := nBK597_
              have HB := nHB_
              clear nBK593_
              clear nBK597_
              clear nHB_
              clear hbL
              try go_wp2
              go_roundg k2
              case measure => have := HJ1.out; have := HK2.out; omega
              case rel => exact ⟨(wrap64 (x28_2 + 1)), (by first | rfl | (simp; done) | (simp [*]; done)), H', ⟨by have := HJ1.out; have := HK2.out; omega⟩, ⟨by (with_reducible repeat (first | refine blk_drewN ?_ _ | refine blk_drew ?_ | refine blk_alloc ?_ _)); exact BK593.out⟩, ⟨by repeat (first | (with_reducible first | exact HB.out | apply below_alloc | apply pw_below_drewN | apply below_drew1 | refine below_set ?_ GE593.out | refine below_set ?_ GE597.out) | exact HB.out)⟩⟩
             ·rw [if_neg c22] at H
              have c22b0 : (Op.bytesLess (((rd_T82 l0_3 (ji19)).f0).toList) (((rd_T82 l0_3 x28_2).f0).toList)) = false := by simpa using c22
              clear c22
              obtain rfl := Option.some.inj H
              have p596 : 0 ≤ (x28_2 : Int) := of_decide_eq_true (by first | (with_reducible assumption) | assumption)
              have q596 : x28_2 < (l0_3.length : Int) := of_decide_eq_true (by first | (with_reducible assumption) | assumption)
              obtain ⟨ad596, e596, hx596_0, hx596_1, hx596_2, hx596_3, hx596_4⟩ := at_T82 HR0_3.out x28_2 p596 q596
              cases e596
              replace hx596_0 := (HB.out.cell (World.block_lt_of_cell? w _ hx596_0)).trans hx596_0
              replace hx596_1 := (HB.out.cell (World.block_lt_of_cell? w _ hx596_1)).trans hx596_1
              replace hx596_2 := (HB.out.cell (World.block_lt_of_cell? w _ hx596_2)).trans hx596_2
              replace hx596_3 := (HB.out.cell (World.block_lt_of_cell? w _ hx596_3)).trans hx596_3
              replace hx596_4 := (HB.out.cell (World.block_lt_of_cell? w _ hx596_4)).trans hx596_4
              replace p596 := eq_true p596
              replace q596 := eq_true q596
              try go_wp2_with (first | ((with_reducible refine gate_dst (N := 4) rfl ?_); (try (refine gate_guard (by rfl) ?_; dsimp only)); refine box_event ?hg (N := 4) ?hd (cs := #[.string (⟨#[]⟩ : ByteArray), .string (⟨#[]⟩ : ByteArray), .string (⟨#[]⟩ : ByteArray), .bool false, .bool false]) (t := 82) ?hr ?_; (case hd => rfl); (case hg => rfl); (case hr => first | (go_simp; done) | (go_simp; rfl)); intro gb597 hg w29 hbox hb; have n0_ := Aside0.mk (blk_below (g := gb593) (o := .cells #[.string a0_0, .string a0_1, .int .i64 a0_2, .slice (some ad596) l0_3.length c0_3, .int .i64 a0_4] 48 (0, 0)) (by (with_reducible repeat (first | refine blk_drewN ?_ _ | refine blk_drew ?_ | refine blk_alloc ?_ _)); exact BK593.out) hb); have n1_ := Aside0.mk (below_step (by repeat (first | (with_reducible first | exact HB.out | apply below_alloc | apply pw_below_drewN | apply below_drew1 | refine below_set ?_ GE593.out) | exact HB.out)) hb); have n2_ := Aside0.mk (hbox); have n3_ := Aside0.mk ((by rw [hg]; exact (below_size (by repeat (first | (with_reducible first | exact HB.out | apply below_alloc | apply pw_below_drewN | apply below_drew1 | refine below_set ?_ GE593.out) | exact HB.out))) : w.heap.size ≤ gb597)); have n4_ := Aside0.mk ((by rw [hg]; exact (below_size (by repeat (first | (with_reducible first | exact HB.out | apply below_alloc | apply pw_below_drewN | apply below_drew1 | refine below_set ?_ GE593.out) | exact HB.out))) : w.heap.size ≤ gb597)); have n5_ := Aside0.mk ((by rw [hg]; exact Nat.ne_of_lt (blk_lt (g := gb593) (o := .cells #[.string a0_0, .string a0_1, .int .i64 a0_2, .slice (some ad596) l0_3.length c0_3, .int .i64 a0_4] 48 (0, 0)) (by (with_reducible repeat (first | refine blk_drewN ?_ _ | refine blk_drew ?_ | refine blk_alloc ?_ _)); exact BK593.out)) : gb593 ≠ gb597)); have n6_ := Aside0.mk ((by rw [hg]; exact Nat.ne_of_gt (blk_lt (g := gb593) (o := .cells #[.string a0_0, .string a0_1, .int .i64 a0_2, .slice (some ad596) l0_3.length c0_3, .int .i64 a0_4] 48 (0, 0)) (by (with_reducible repeat (first | refine blk_drewN ?_ _ | refine blk_drew ?_ | refine blk_alloc ?_ _)); exact BK593.out)) : gb597 ≠ gb593)); clear BK593; clear HB; have BK593 := n0_; have HB := n1_; have BK597 := n2_; have GW597 := n3_; have GE597 := n4_; have NB593_597 := n5_; have NB597_593 := n6_; clear n0_ n1_ n2_ n3_ n4_ n5_ n6_; clear hb hbox hg; have hnb30 := NB597_593.out; have hnc30 := NB593_597.out; have hcz31_0 : w29.cell? ⟨gb597, 0, none⟩ = some (.string (⟨#[]⟩ : ByteArray)) := (blk_cell BK597.out 0).trans rfl; have hcz31_1 : w29.cell? ⟨gb597, 1, none⟩ = some (.string (⟨#[]⟩ : ByteArray)) := (blk_cell BK597.out 1).trans rfl; have hcz31_2 : w29.cell? ⟨gb597, 2, none⟩ = some (.string (⟨#[]⟩ : ByteArray)) := (blk_cell BK597.out 2).trans rfl; have hcz31_3 : w29.cell? ⟨gb597, 3, none⟩ = some (.bool false) := (blk_cell BK597.out 3).trans rfl; have hcz31_4 : w29.cell? ⟨gb597, 4, none⟩ = some (.bool false) := (blk_cell BK597.out 4).trans rfl; have hfz31_0 := blk_frozen BK597.out 0; have hfz31_1 := blk_frozen BK597.out 1; have hfz31_2 := blk_frozen BK597.out 2; have hfz31_3 := blk_frozen BK597.out 3; have hfz31_4 := blk_frozen BK597.out 4))
              have n0_ : Aside0 ((((((w29.setCell ⟨gb597, 0, none⟩ (.string ((rd_T82 l0_3 x28_2).f0))).setCell ⟨gb597, 1, none⟩ (.string ((rd_T82 l0_3 x28_2).f1))).setCell ⟨gb597, 2, none⟩ (.string ((rd_T82 l0_3 x28_2).f2))).setCell ⟨gb597, 3, none⟩ (.bool ((rd_T82 l0_3 x28_2).f3))).setCell ⟨gb597, 4, none⟩ (.bool ((rd_T82 l0_3 x28_2).f4))).heap[gb593]? = some (.cells #[.string a0_0, .string a0_1, .int .i64 a0_2, .slice (some ad596) l0_3.length c0_3, .int .i64 a0_4] 48 (0, 0))) := ⟨by (with_reducible repeat (first | refine blk_drewN ?_ _ | refine blk_drew ?_ | refine blk_alloc ?_ _)); refine blk_far ?_ NB593_597.out _; (with_reducible repeat (first | refine blk_drewN ?_ _ | refine blk_drew ?_ | refine blk_alloc ?_ _)); refine blk_far ?_ NB593_597.out _; (with_reducible repeat (first | refine blk_drewN ?_ _ | refine blk_drew ?_ | refine blk_alloc ?_ _)); refine blk_far ?_ NB593_597.out _; (with_reducible repeat (first | refine blk_drewN ?_ _ | refine blk_drew ?_ | refine blk_alloc ?_ _)); refine blk_far ?_ NB593_597.out _; (with_reducible repeat (first | refine blk_drewN ?_ _ | refine blk_drew ?_ | refine blk_alloc ?_ _)); refine blk_far ?_ NB593_597.out _; (with_reducible repeat (first | refine blk_drewN ?_ _ | refine blk_drew ?_ | refine blk_alloc ?_ _)); exact BK593.out⟩
              have n1_ : Aside0 ((((((w29.setCell ⟨gb597, 0, none⟩ (.string ((rd_T82 l0_3 x28_2).f0))).setCell ⟨gb597, 1, none⟩ (.string ((rd_T82 l0_3 x28_2).f1))).setCell ⟨gb597, 2, none⟩ (.string ((rd_T82 l0_3 x28_2).f2))).setCell ⟨gb597, 3, none⟩ (.bool ((rd_T82 l0_3 x28_2).f3))).setCell ⟨gb597, 4, none⟩ (.bool ((rd_T82 l0_3 x28_2).f4))).heap[gb597]? = some (.cells #[.string ((rd_T82 l0_3 x28_2).f0), .string ((rd_T82 l0_3 x28_2).f1), .string ((rd_T82 l0_3 x28_2).f2), .bool ((rd_T82 l0_3 x28_2).f3), .bool ((rd_T82 l0_3 x28_2).f4)] 82 (0, 0))) := ⟨by (with_reducible repeat (first | refine blk_drewN ?_ _ | refine blk_drew ?_ | refine blk_alloc ?_ _)); refine blk_put (cs := #[.string ((rd_T82 l0_3 x28_2).f0), .string ((rd_T82 l0_3 x28_2).f1), .string ((rd_T82 l0_3 x28_2).f2), .bool ((rd_T82 l0_3 x28_2).f3), .bool false]) ?_ 4 _ rfl; (with_reducible repeat (first | refine blk_drewN ?_ _ | refine blk_drew ?_ | refine blk_alloc ?_ _)); refine blk_put (cs := #[.string ((rd_T82 l0_3 x28_2).f0), .string ((rd_T82 l0_3 x28_2).f1), .string ((rd_T82 l0_3 x28_2).f2), .bool false, .bool false]) ?_ 3 _ rfl; (with_reducible repeat (first | refine blk_drewN ?_ _ | refine blk_drew ?_ | refine blk_alloc ?_ _)); refine blk_put (cs := #[.string ((rd_T82 l0_3 x28_2).f0), .string ((rd_T82 l0_3 x28_2).f1), .string (⟨#[]⟩ : ByteArray), .bool false, .bool false]) ?_ 2 _ rfl; (with_reducible repeat (first | refine blk_drewN ?_ _ | refine blk_drew ?_ | refine blk_alloc ?_ _)); refine blk_put (cs := #[.string ((rd_T82 l0_3 x28_2).f0), .string (⟨#[]⟩ : ByteArray), .string (⟨#[]⟩ : ByteArray), .bool false, .bool false]) ?_ 1 _ rfl; (with_reducible repeat (first | refine blk_drewN ?_ _ | refine blk_drew ?_ | refine blk_alloc ?_ _)); refine blk_put (cs := #[.string (⟨#[]⟩ : ByteArray), .string (⟨#[]⟩ : ByteArray), .string (⟨#[]⟩ : ByteArray), .bool false, .bool false]) ?_ 0 _ rfl; (with_reducible repeat (first | refine blk_drewN ?_ _ | refine blk_drew ?_ | refine blk_alloc ?_ _)); exact BK597.out⟩
              have n2_ : Aside0 (Below w.heap.size w (((((w29.setCell ⟨gb597, 0, none⟩ (.string ((rd_T82 l0_3 x28_2).f0))).setCell ⟨gb597, 1, none⟩ (.string ((rd_T82 l0_3 x28_2).f1))).setCell ⟨gb597, 2, none⟩ (.string ((rd_T82 l0_3 x28_2).f2))).setCell ⟨gb597, 3, none⟩ (.bool ((rd_T82 l0_3 x28_2).f3))).setCell ⟨gb597, 4, none⟩ (.bool ((rd_T82 l0_3 x28_2).f4)))) := ⟨by repeat (first | (with_reducible first | exact HB.out | apply below_alloc | apply pw_below_drewN | apply below_drew1 | refine below_set ?_ GE593.out | refine below_set ?_ GE597.out) | exact HB.out)⟩
              (try clear BK593)
              (try clear BK597)
              (try clear HB)
              generalize (((((w29.setCell ⟨gb597, 0, none⟩ (.string ((rd_T82 l0_3 x28_2).f0))).setCell ⟨gb597, 1, none⟩ (.string ((rd_T82 l0_3 x28_2).f1))).setCell ⟨gb597, 2, none⟩ (.string ((rd_T82 l0_3 x28_2).f2))).setCell ⟨gb597, 3, none⟩ (.bool ((rd_T82 l0_3 x28_2).f3))).setCell ⟨gb597, 4, none⟩ (.bool ((rd_T82 l0_3 x28_2).f4))) = w32 at n0_ n1_ n2_ ⊢
              have BK593 := n0_
              have BK597 := n1_
              have HB := n2_
              clear n0_ n1_ n2_
              have n0_ := Aside0.mk (blk_drew BK593.out)
              have n1_ := Aside0.mk (blk_drew BK597.out)
              have n2_ := Aside0.mk (below_drew1 HB.out)
              clear BK593
              clear BK597
              clear HB
              have BK593 := n0_
              have BK597 := n1_
              have HB := n2_
              clear n0_ n1_ n2_
              have p599 : 0 ≤ ((ji19) : Int) := of_decide_eq_true (by first | (with_reducible assumption) | assumption)
              have q599 : (ji19) < (l0_3.length : Int) := of_decide_eq_true (by first | (with_reducible assumption) | assumption)
              obtain ⟨ad599, e599, hx599_0, hx599_1, hx599_2, hx599_3, hx599_4⟩ := at_T82 HR0_3.out (ji19) p599 q599
              have hw599_4 := hx599_4
              have hw599_3 := hx599_3
              have hw599_2 := hx599_2
              have hw599_1 := hx599_1
              have hw599_0 := hx599_0
              obtain rfl : ad596 = ad599 := (by injection e599)
              replace hx599_0 := (HB.out.cell (World.block_lt_of_cell? w _ hx599_0)).trans hx599_0
              replace hx599_1 := (HB.out.cell (World.block_lt_of_cell? w _ hx599_1)).trans hx599_1
              replace hx599_2 := (HB.out.cell (World.block_lt_of_cell? w _ hx599_2)).trans hx599_2
              replace hx599_3 := (HB.out.cell (World.block_lt_of_cell? w _ hx599_3)).trans hx599_3
              replace hx599_4 := (HB.out.cell (World.block_lt_of_cell? w _ hx599_4)).trans hx599_4
              replace p599 := eq_true p599
              replace q599 := eq_true q599
              refine wp_region_later (by kernel_rfl) (by kernel_rfl) ?_
              have hL0_ := Aside0.mk (show w32.drew.cell? ⟨gb597, 0, none⟩ = some (.string ((rd_T82 l0_3 x28_2).f0)) from (blk_cell BK597.out 0).trans rfl)
              have hL1_ := Aside0.mk (show w32.drew.cell? ⟨gb597, 1, none⟩ = some (.string ((rd_T82 l0_3 x28_2).f1)) from (blk_cell BK597.out 1).trans rfl)
              have hL2_ := Aside0.mk (show w32.drew.cell? ⟨gb597, 2, none⟩ = some (.string ((rd_T82 l0_3 x28_2).f2)) from (blk_cell BK597.out 2).trans rfl)
              have hL3_ := Aside0.mk (show w32.drew.cell? ⟨gb597, 3, none⟩ = some (.bool ((rd_T82 l0_3 x28_2).f3)) from (blk_cell BK597.out 3).trans rfl)
              have hL4_ := Aside0.mk (show w32.drew.cell? ⟨gb597, 4, none⟩ = some (.bool ((rd_T82 l0_3 x28_2).f4)) from (blk_cell BK597.out 4).trans rfl)
              have hL5_ := Aside0.mk (show w32.drew.cell? ⟨gb593, 0, none⟩ = some (.string a0_0) from (blk_cell BK593.out 0).trans rfl)
              have hL6_ := Aside0.mk (show w32.drew.cell? ⟨gb593, 1, none⟩ = some (.string a0_1) from (blk_cell BK593.out 1).trans rfl)
              have hL7_ := Aside0.mk (show w32.drew.cell? ⟨gb593, 2, none⟩ = some (.int .i64 a0_2) from (blk_cell BK593.out 2).trans rfl)
              have hL8_ := Aside0.mk (show w32.drew.cell? ⟨gb593, 3, none⟩ = some (.slice (some ad596) l0_3.length c0_3) from (blk_cell BK593.out 3).trans rfl)
              have hL9_ := Aside0.mk (show w32.drew.cell? ⟨gb593, 4, none⟩ = some (.int .i64 a0_4) from (blk_cell BK593.out 4).trans rfl)
              have hL10_ := Aside0.mk (show w32.drew.cell? (ad596.add (((ji19)).toNat * 5)) = some (.string ((rd_T82 l0_3 (ji19)).f0)) from ((HB.out.cell (World.block_lt_of_cell? w _ hw599_0)).trans hw599_0))
              have hL11_ := Aside0.mk (show w32.drew.cell? ⟨(ad596.add (((ji19)).toNat * 5)).block, (ad596.add (((ji19)).toNat * 5)).off + 1, none⟩ = some (.string ((rd_T82 l0_3 (ji19)).f1)) from ((HB.out.cell (World.block_lt_of_cell? w _ hw599_1)).trans hw599_1))
              have hL12_ := Aside0.mk (show w32.drew.cell? ⟨(ad596.add (((ji19)).toNat * 5)).block, (ad596.add (((ji19)).toNat * 5)).off + 2, none⟩ = some (.string ((rd_T82 l0_3 (ji19)).f2)) from ((HB.out.cell (World.block_lt_of_cell? w _ hw599_2)).trans hw599_2))
              have hL13_ := Aside0.mk (show w32.drew.cell? ⟨(ad596.add (((ji19)).toNat * 5)).block, (ad596.add (((ji19)).toNat * 5)).off + 3, none⟩ = some (.bool ((rd_T82 l0_3 (ji19)).f3)) from ((HB.out.cell (World.block_lt_of_cell? w _ hw599_3)).trans hw599_3))
              have hL14_ := Aside0.mk (show w32.drew.cell? ⟨(ad596.add (((ji19)).toNat * 5)).block, (ad596.add (((ji19)).toNat * 5)).off + 4, none⟩ = some (.bool ((rd_T82 l0_3 (ji19)).f4)) from ((HB.out.cell (World.block_lt_of_cell? w _ hw599_4)).trans hw599_4))
              generalize w32.drew = w33 at BK593 BK597 HB hx599_0 hx599_1 hx599_2 hx599_3 hx599_4 hL0_ hL1_ hL2_ hL3_ hL4_ hL5_ hL6_ hL7_ hL8_ hL9_ hL10_ hL11_ hL12_ hL13_ hL14_ ⊢
              clear hx599_0 hx599_1 hx599_2 hx599_3 hx599_4
              have hL0 := fun (p_ : Later w33) => Later.cell p_ hL0_.out
              have hL1 := fun (p_ : Later w33) => Later.cell p_ hL1_.out
              have hL2 := fun (p_ : Later w33) => Later.cell p_ hL2_.out
              have hL3 := fun (p_ : Later w33) => Later.cell p_ hL3_.out
              have hL4 := fun (p_ : Later w33) => Later.cell p_ hL4_.out
              have hL5 := fun (p_ : Later w33) => Later.cell p_ hL5_.out
              have hL6 := fun (p_ : Later w33) => Later.cell p_ hL6_.out
              have hL7 := fun (p_ : Later w33) => Later.cell p_ hL7_.out
              have hL8 := fun (p_ : Later w33) => Later.cell p_ hL8_.out
              have hL9 := fun (p_ : Later w33) => Later.cell p_ hL9_.out
              have hL10 := fun (p_ : Later w33) => Later.cell p_ hL10_.out
              have hL11 := fun (p_ : Later w33) => Later.cell p_ hL11_.out
              have hL12 := fun (p_ : Later w33) => Later.cell p_ hL12_.out
              have hL13 := fun (p_ : Later w33) => Later.cell p_ hL13_.out
              have hL14 := fun (p_ : Later w33) => Later.cell p_ hL14_.out
              clear hL0_ hL1_ hL2_ hL3_ hL4_ hL5_ hL6_ hL7_ hL8_ hL9_ hL10_ hL11_ hL12_ hL13_ hL14_
              repeat (first | go_big_quiet_step ((first | (go_at_call 68; exact Calls.later_of (impl_diffOK.calls ((rd_T82 l0_3 x28_2).f0) ((rd_T82 l0_3 x28_2).f1) ((rd_T82 l0_3 x28_2).f2) ((rd_T82 l0_3 x28_2).f3) ((rd_T82 l0_3 x28_2).f4) true _ A16.out)))) | quiet_step ((first | (go_at_call 68; exact Calls.later_of (impl_diffOK.calls ((rd_T82 l0_3 x28_2).f0) ((rd_T82 l0_3 x28_2).f1) ((rd_T82 l0_3 x28_2).f2) ((rd_T82 l0_3 x28_2).f3) ((rd_T82 l0_3 x28_2).f4) true _ A16.out)))))
              refine wpQuiet_nil ?_
              rintro w34 ⟨⟨wq_, hbL⟩, hq_⟩
              have hq2_ : w34 = wq_ := hq_
              clear hq_
              subst hq2_
              clear hL0 hL1 hL2 hL3 hL4 hL5 hL6 hL7 hL8 hL9 hL10 hL11 hL12 hL13 hL14
              have nBK593_ := Aside0.mk ((hbL.block _ (blk_lt BK593.out)).trans BK593.out)
              have nBK597_ := Aside0.mk ((hbL.block _ (blk_lt BK597.out)).trans BK597.out)
              have nHB_ := Aside0.mk (below_step HB.out hbL)
              clear BK593
              clear BK597
              clear HB
              have BK593 := nBK593_
              have BK597 := nBK597_
              have HB := nHB_
              clear nBK593_
              clear nBK597_
              clear nHB_
              clear hbL
              try go_wp2
              go_ret
              exact ⟨by first | rfl | (simp [errW_none, errW_some] <;> rfl) | (simp only [← hji19]; first | rfl | (simp [errW_none, errW_some] <;> rfl)) | (simp [*, errW_none, errW_some] <;> rfl), by repeat (first | (with_reducible first | exact HB.out | apply below_alloc | apply pw_below_drewN | apply below_drew1 | refine below_set ?_ GE593.out | refine below_set ?_ GE597.out) | exact HB.out)⟩
            ·rw [if_neg c21] at H
             exact absurd H (by simp)
           ·rw [if_neg c20] at H
            exact absurd H (by simp)
          ·rw [if_neg c18] at H
           have c18b0 : decide (0 < x28_2) = false := decide_eq_false c18
           clear c18
           have H' := Aside0.mk H
           clear H
           have p596 : 0 ≤ (x28_2 : Int) := of_decide_eq_true (by first | (with_reducible assumption) | assumption)
           have q596 : x28_2 < (l0_3.length : Int) := of_decide_eq_true (by first | (with_reducible assumption) | assumption)
           obtain ⟨ad596, e596, hx596_0, hx596_1, hx596_2, hx596_3, hx596_4⟩ := at_T82 HR0_3.out x28_2 p596 q596
           cases e596
           replace hx596_0 := (HB.out.cell (World.block_lt_of_cell? w _ hx596_0)).trans hx596_0
           replace hx596_1 := (HB.out.cell (World.block_lt_of_cell? w _ hx596_1)).trans hx596_1
           replace hx596_2 := (HB.out.cell (World.block_lt_of_cell? w _ hx596_2)).trans hx596_2
           replace hx596_3 := (HB.out.cell (World.block_lt_of_cell? w _ hx596_3)).trans hx596_3
           replace hx596_4 := (HB.out.cell (World.block_lt_of_cell? w _ hx596_4)).trans hx596_4
           replace p596 := eq_true p596
           replace q596 := eq_true q596
           try go_wp2_with (first | ((with_reducible refine gate_dst (N := 4) rfl ?_); (try (refine gate_guard (by rfl) ?_; dsimp only)); refine box_event ?hg (N := 4) ?hd (cs := #[.string (⟨#[]⟩ : ByteArray), .string (⟨#[]⟩ : ByteArray), .string (⟨#[]⟩ : ByteArray), .bool false, .bool false]) (t := 82) ?hr ?_; (case hd => rfl); (case hg => rfl); (case hr => first | (go_simp; done) | (go_simp; rfl)); intro gb597 hg w35 hbox hb; have n0_ := Aside0.mk (blk_below (g := gb593) (o := .cells #[.string a0_0, .string a0_1, .int .i64 a0_2, .slice (some ad596) l0_3.length c0_3, .int .i64 a0_4] 48 (0, 0)) (by (with_reducible repeat (first | refine blk_drewN ?_ _ | refine blk_drew ?_ | refine blk_alloc ?_ _)); exact BK593.out) hb); have n1_ := Aside0.mk (below_step (by repeat (first | (with_reducible first | exact HB.out | apply below_alloc | apply pw_below_drewN | apply below_drew1 | refine below_set ?_ GE593.out) | exact HB.out)) hb); have n2_ := Aside0.mk (hbox); have n3_ := Aside0.mk ((by rw [hg]; exact (below_size (by repeat (first | (with_reducible first | exact HB.out | apply below_alloc | apply pw_below_drewN | apply below_drew1 | refine below_set ?_ GE593.out) | exact HB.out))) : w.heap.size ≤ gb597)); have n4_ := Aside0.mk ((by rw [hg]; exact (below_size (by repeat (first | (with_reducible first | exact HB.out | apply below_alloc | apply pw_below_drewN | apply below_drew1 | refine below_set ?_ GE593.out) | exact HB.out))) : w.heap.size ≤ gb597)); have n5_ := Aside0.mk ((by rw [hg]; exact Nat.ne_of_lt (blk_lt (g := gb593) (o := .cells #[.string a0_0, .string a0_1, .int .i64 a0_2, .slice (some ad596) l0_3.length c0_3, .int .i64 a0_4] 48 (0, 0)) (by (with_reducible repeat (first | refine blk_drewN ?_ _ | refine blk_drew ?_ | refine blk_alloc ?_ _)); exact BK593.out)) : gb593 ≠ gb597)); have n6_ := Aside0.mk ((by rw [hg]; exact Nat.ne_of_gt (blk_lt (g := gb593) (o := .cells #[.string a0_0, .string a0_1, .int .i64 a0_2, .slice (some ad596) l0_3.length c0_3, .int .i64 a0_4] 48 (0, 0)) (by (with_reducible repeat (first | refine blk_drewN ?_ _ | refine blk_drew ?_ | refine blk_alloc ?_ _)); exact BK593.out)) : gb597 ≠ gb593)); clear BK593; clear HB; have BK593 := n0_; have HB := n1_; have BK597 := n2_; have GW597 := n3_; have GE597 := n4_; have NB593_597 := n5_; have NB597_593 := n6_; clear n0_ n1_ n2_ n3_ n4_ n5_ n6_; clear hb hbox hg; have hnb36 := NB597_593.out; have hnc36 := NB593_597.out; have hcz37_0 : w35.cell? ⟨gb597, 0, none⟩ = some (.string (⟨#[]⟩ : ByteArray)) := (blk_cell BK597.out 0).trans rfl; have hcz37_1 : w35.cell? ⟨gb597, 1, none⟩ = some (.string (⟨#[]⟩ : ByteArray)) := (blk_cell BK597.out 1).trans rfl; have hcz37_2 : w35.cell? ⟨gb597, 2, none⟩ = some (.string (⟨#[]⟩ : ByteArray)) := (blk_cell BK597.out 2).trans rfl; have hcz37_3 : w35.cell? ⟨gb597, 3, none⟩ = some (.bool false) := (blk_cell BK597.out 3).trans rfl; have hcz37_4 : w35.cell? ⟨gb597, 4, none⟩ = some (.bool false) := (blk_cell BK597.out 4).trans rfl; have hfz37_0 := blk_frozen BK597.out 0; have hfz37_1 := blk_frozen BK597.out 1; have hfz37_2 := blk_frozen BK597.out 2; have hfz37_3 := blk_frozen BK597.out 3; have hfz37_4 := blk_frozen BK597.out 4))
           have n0_ : Aside0 ((((((w35.setCell ⟨gb597, 0, none⟩ (.string ((rd_T82 l0_3 x28_2).f0))).setCell ⟨gb597, 1, none⟩ (.string ((rd_T82 l0_3 x28_2).f1))).setCell ⟨gb597, 2, none⟩ (.string ((rd_T82 l0_3 x28_2).f2))).setCell ⟨gb597, 3, none⟩ (.bool ((rd_T82 l0_3 x28_2).f3))).setCell ⟨gb597, 4, none⟩ (.bool ((rd_T82 l0_3 x28_2).f4))).heap[gb593]? = some (.cells #[.string a0_0, .string a0_1, .int .i64 a0_2, .slice (some ad596) l0_3.length c0_3, .int .i64 a0_4] 48 (0, 0))) := ⟨by (with_reducible repeat (first | refine blk_drewN ?_ _ | refine blk_drew ?_ | refine blk_alloc ?_ _)); refine blk_far ?_ NB593_597.out _; (with_reducible repeat (first | refine blk_drewN ?_ _ | refine blk_drew ?_ | refine blk_alloc ?_ _)); refine blk_far ?_ NB593_597.out _; (with_reducible repeat (first | refine blk_drewN ?_ _ | refine blk_drew ?_ | refine blk_alloc ?_ _)); refine blk_far ?_ NB593_597.out _; (with_reducible repeat (first | refine blk_drewN ?_ _ | refine blk_drew ?_ | refine blk_alloc ?_ _)); refine blk_far ?_ NB593_597.out _; (with_reducible repeat (first | refine blk_drewN ?_ _ | refine blk_drew ?_ | refine blk_alloc ?_ _)); refine blk_far ?_ NB593_597.out _; (with_reducible repeat (first | refine blk_drewN ?_ _ | refine blk_drew ?_ | refine blk_alloc ?_ _)); exact BK593.out⟩
           have n1_ : Aside0 ((((((w35.setCell ⟨gb597, 0, none⟩ (.string ((rd_T82 l0_3 x28_2).f0))).setCell ⟨gb597, 1, none⟩ (.string ((rd_T82 l0_3 x28_2).f1))).setCell ⟨gb597, 2, none⟩ (.string ((rd_T82 l0_3 x28_2).f2))).setCell ⟨gb597, 3, none⟩ (.bool ((rd_T82 l0_3 x28_2).f3))).setCell ⟨gb597, 4, none⟩ (.bool ((rd_T82 l0_3 x28_2).f4))).heap[gb597]? = some (.cells #[.string ((rd_T82 l0_3 x28_2).f0), .string ((rd_T82 l0_3 x28_2).f1), .string ((rd_T82 l0_3 x28_2).f2), .bool ((rd_T82 l0_3 x28_2).f3), .bool ((rd_T82 l0_3 x28_2).f4)] 82 (0, 0))) := ⟨by (with_reducible repeat (first | refine blk_drewN ?_ _ | refine blk_drew ?_ | refine blk_alloc ?_ _)); refine blk_put (cs := #[.string ((rd_T82 l0_3 x28_2).f0), .string ((rd_T82 l0_3 x28_2).f1), .string ((rd_T82 l0_3 x28_2).f2), .bool ((rd_T82 l0_3 x28_2).f3), .bool false]) ?_ 4 _ rfl; (with_reducible repeat (first | refine blk_drewN ?_ _ | refine blk_drew ?_ | refine blk_alloc ?_ _)); refine blk_put (cs := #[.string ((rd_T82 l0_3 x28_2).f0), .string ((rd_T82 l0_3 x28_2).f1), .string ((rd_T82 l0_3 x28_2).f2), .bool false, .bool false]) ?_ 3 _ rfl; (with_reducible repeat (first | refine blk_drewN ?_ _ | refine blk_drew ?_ | refine blk_alloc ?_ _)); refine blk_put (cs := #[.string ((rd_T82 l0_3 x28_2).f0), .string ((rd_T82 l0_3 x28_2).f1), .string (⟨#[]⟩ : ByteArray), .bool false, .bool false]) ?_ 2 _ rfl; (with_reducible repeat (first | refine blk_drewN ?_ _ | refine blk_drew ?_ | refine blk_alloc ?_ _)); refine blk_put (cs := #[.string ((rd_T82 l0_3 x28_2).f0), .string (⟨#[]⟩ : ByteArray), .string (⟨#[]⟩ : ByteArray), .bool false, .bool false]) ?_ 1 _ rfl; (with_reducible repeat (first | refine blk_drewN ?_ _ | refine blk_drew ?_ | refine blk_alloc ?_ _)); refine blk_put (cs := #[.string (⟨#[]⟩ : ByteArray), .string (⟨#[]⟩ : ByteArray), .string (⟨#[]⟩ : ByteArray), .bool false, .bool false]) ?_ 0 _ rfl; (with_reducible repeat (first | refine blk_drewN ?_ _ | refine blk_drew ?_ | refine blk_alloc ?_ _)); exact BK597.out⟩
           have n2_ : Aside0 (Below w.heap.size w (((((w35.setCell ⟨gb597, 0, none⟩ (.string ((rd_T82 l0_3 x28_2).f0))).setCell ⟨gb597, 1, none⟩ (.string ((rd_T82 l0_3 x28_2).f1))).setCell ⟨gb597, 2, none⟩ (.string ((rd_T82 l0_3 x28_2).f2))).setCell ⟨gb597, 3, none⟩ (.bool ((rd_T82 l0_3 x28_2).f3))).setCell ⟨gb597, 4, none⟩ (.bool ((rd_T82 l0_3 x28_2).f4)))) := ⟨by repeat (first | (with_reducible first | exact HB.out | apply below_alloc | apply pw_below_drewN | apply below_drew1 | refine below_set ?_ GE593.out | refine below_set ?_ GE597.out) | exact HB.out)⟩
           (try clear BK593)
           (try clear BK597)
           (try clear HB)
           generalize (((((w35.setCell ⟨gb597, 0, none⟩ (.string ((rd_T82 l0_3 x28_2).f0))).setCell ⟨gb597, 1, none⟩ (.string ((rd_T82 l0_3 x28_2).f1))).setCell ⟨gb597, 2, none⟩ (.string ((rd_T82 l0_3 x28_2).f2))).setCell ⟨gb597, 3, none⟩ (.bool ((rd_T82 l0_3 x28_2).f3))).setCell ⟨gb597, 4, none⟩ (.bool ((rd_T82 l0_3 x28_2).f4))) = w38 at n0_ n1_ n2_ ⊢
           have BK593 := n0_
           have BK597 := n1_
           have HB := n2_
           clear n0_ n1_ n2_
           have n0_ := Aside0.mk (blk_drew BK593.out)
           have n1_ := Aside0.mk (blk_drew BK597.out)
           have n2_ := Aside0.mk (below_drew1 HB.out)
           clear BK593
           clear BK597
           clear HB
           have BK593 := n0_
           have BK597 := n1_
           have HB := n2_
           clear n0_ n1_ n2_
           refine wp_region_later (by kernel_rfl) (by kernel_rfl) ?_
           have hL0_ := Aside0.mk (show w38.drew.cell? ⟨gb597, 0, none⟩ = some (.string ((rd_T82 l0_3 x28_2).f0)) from (blk_cell BK597.out 0).trans rfl)
           have hL1_ := Aside0.mk (show w38.drew.cell? ⟨gb597, 1, none⟩ = some (.string ((rd_T82 l0_3 x28_2).f1)) from (blk_cell BK597.out 1).trans rfl)
           have hL2_ := Aside0.mk (show w38.drew.cell? ⟨gb597, 2, none⟩ = some (.string ((rd_T82 l0_3 x28_2).f2)) from (blk_cell BK597.out 2).trans rfl)
           have hL3_ := Aside0.mk (show w38.drew.cell? ⟨gb597, 3, none⟩ = some (.bool ((rd_T82 l0_3 x28_2).f3)) from (blk_cell BK597.out 3).trans rfl)
           have hL4_ := Aside0.mk (show w38.drew.cell? ⟨gb597, 4, none⟩ = some (.bool ((rd_T82 l0_3 x28_2).f4)) from (blk_cell BK597.out 4).trans rfl)
           generalize w38.drew = w39 at BK593 BK597 HB hL0_ hL1_ hL2_ hL3_ hL4_ ⊢
           have hL0 := fun (p_ : Later w39) => Later.cell p_ hL0_.out
           have hL1 := fun (p_ : Later w39) => Later.cell p_ hL1_.out
           have hL2 := fun (p_ : Later w39) => Later.cell p_ hL2_.out
           have hL3 := fun (p_ : Later w39) => Later.cell p_ hL3_.out
           have hL4 := fun (p_ : Later w39) => Later.cell p_ hL4_.out
           clear hL0_ hL1_ hL2_ hL3_ hL4_
           repeat (first | go_big_quiet_step ((first | (go_at_call 68; exact Calls.later_of (impl_diffOK.calls ((rd_T82 l0_3 x28_2).f0) ((rd_T82 l0_3 x28_2).f1) ((rd_T82 l0_3 x28_2).f2) ((rd_T82 l0_3 x28_2).f3) ((rd_T82 l0_3 x28_2).f4) true _ A16.out)))) | quiet_step ((first | (go_at_call 68; exact Calls.later_of (impl_diffOK.calls ((rd_T82 l0_3 x28_2).f0) ((rd_T82 l0_3 x28_2).f1) ((rd_T82 l0_3 x28_2).f2) ((rd_T82 l0_3 x28_2).f3) ((rd_T82 l0_3 x28_2).f4) true _ A16.out)))))
           refine wpQuiet_nil ?_
           rintro w40 ⟨⟨wq_, hbL⟩, hq_⟩
           have hq2_ : w40 = wq_ := hq_
           clear hq_
           subst hq2_
           clear hL0 hL1 hL2 hL3 hL4
           have nBK593_ := Aside0.mk ((hbL.block _ (blk_lt BK593.out)).trans BK593.out)
           have nBK597_ := Aside0.mk ((hbL.block _ (blk_lt BK597.out)).trans BK597.out)
           have nHB_ := Aside0.mk (below_step HB.out hbL)
           clear BK593
           clear BK597
           clear HB
           have BK593 := nBK593_
           have BK597 := nBK597_
           have HB := nHB_
           clear nBK593_
           clear nBK597_
           clear nHB_
           clear hbL
           try go_wp2
           go_roundg k2
           case measure => have := HJ1.out; have := HK2.out; omega
           case rel => exact ⟨(wrap64 (x28_2 + 1)), (by first | rfl | (simp; done) | (simp [*]; done)), H', ⟨by have := HJ1.out; have := HK2.out; omega⟩, ⟨by (with_reducible repeat (first | refine blk_drewN ?_ _ | refine blk_drew ?_ | refine blk_alloc ?_ _)); exact BK593.out⟩, ⟨by repeat (first | (with_reducible first | exact HB.out | apply below_alloc | apply pw_below_drewN | apply below_drew1 | refine below_set ?_ GE593.out | refine below_set ?_ GE597.out) | exact HB.out)⟩⟩
         ·replace c17 := Bool.eq_false_iff.mpr c17
          subst c17
          have H1 : (some false) = some r := by rw [if_neg (show ¬ (false = true) by decide)] at H; exact H
          clear H
          have H := H1
          clear H1
          obtain rfl := Option.some.inj H
          have p596 : 0 ≤ (x28_2 : Int) := of_decide_eq_true (by first | (with_reducible assumption) | assumption)
          have q596 : x28_2 < (l0_3.length : Int) := of_decide_eq_true (by first | (with_reducible assumption) | assumption)
          obtain ⟨ad596, e596, hx596_0, hx596_1, hx596_2, hx596_3, hx596_4⟩ := at_T82 HR0_3.out x28_2 p596 q596
          cases e596
          replace hx596_0 := (HB.out.cell (World.block_lt_of_cell? w _ hx596_0)).trans hx596_0
          replace hx596_1 := (HB.out.cell (World.block_lt_of_cell? w _ hx596_1)).trans hx596_1
          replace hx596_2 := (HB.out.cell (World.block_lt_of_cell? w _ hx596_2)).trans hx596_2
          replace hx596_3 := (HB.out.cell (World.block_lt_of_cell? w _ hx596_3)).trans hx596_3
          replace hx596_4 := (HB.out.cell (World.block_lt_of_cell? w _ hx596_4)).trans hx596_4
          replace p596 := eq_true p596
          replace q596 := eq_true q596
          try go_wp2_with (first | ((with_reducible refine gate_dst (N := 4) rfl ?_); (try (refine gate_guard (by rfl) ?_; dsimp only)); refine box_event ?hg (N := 4) ?hd (cs := #[.string (⟨#[]⟩ : ByteArray), .string (⟨#[]⟩ : ByteArray), .string (⟨#[]⟩ : ByteArray), .bool false, .bool false]) (t := 82) ?hr ?_; (case hd => rfl); (case hg => rfl); (case hr => first | (go_simp; done) | (go_simp; rfl)); intro gb597 hg w41 hbox hb; have n0_ := Aside0.mk (blk_below (g := gb593) (o := .cells #[.string a0_0, .string a0_1, .int .i64 a0_2, .slice (some ad596) l0_3.length c0_3, .int .i64 a0_4] 48 (0, 0)) (by (with_reducible repeat (first | refine blk_drewN ?_ _ | refine blk_drew ?_ | refine blk_alloc ?_ _)); exact BK593.out) hb); have n1_ := Aside0.mk (below_step (by repeat (first | (with_reducible first | exact HB.out | apply below_alloc | apply pw_below_drewN | apply below_drew1 | refine below_set ?_ GE593.out) | exact HB.out)) hb); have n2_ := Aside0.mk (hbox); have n3_ := Aside0.mk ((by rw [hg]; exact (below_size (by repeat (first | (with_reducible first | exact HB.out | apply below_alloc | apply pw_below_drewN | apply below_drew1 | refine below_set ?_ GE593.out) | exact HB.out))) : w.heap.size ≤ gb597)); have n4_ := Aside0.mk ((by rw [hg]; exact (below_size (by repeat (first | (with_reducible first | exact HB.out | apply below_alloc | apply pw_below_drewN | apply below_drew1 | refine below_set ?_ GE593.out) | exact HB.out))) : w.heap.size ≤ gb597)); have n5_ := Aside0.mk ((by rw [hg]; exact Nat.ne_of_lt (blk_lt (g := gb593) (o := .cells #[.string a0_0, .string a0_1, .int .i64 a0_2, .slice (some ad596) l0_3.length c0_3, .int .i64 a0_4] 48 (0, 0)) (by (with_reducible repeat (first | refine blk_drewN ?_ _ | refine blk_drew ?_ | refine blk_alloc ?_ _)); exact BK593.out)) : gb593 ≠ gb597)); have n6_ := Aside0.mk ((by rw [hg]; exact Nat.ne_of_gt (blk_lt (g := gb593) (o := .cells #[.string a0_0, .string a0_1, .int .i64 a0_2, .slice (some ad596) l0_3.length c0_3, .int .i64 a0_4] 48 (0, 0)) (by (with_reducible repeat (first | refine blk_drewN ?_ _ | refine blk_drew ?_ | refine blk_alloc ?_ _)); exact BK593.out)) : gb597 ≠ gb593)); clear BK593; clear HB; have BK593 := n0_; have HB := n1_; have BK597 := n2_; have GW597 := n3_; have GE597 := n4_; have NB593_597 := n5_; have NB597_593 := n6_; clear n0_ n1_ n2_ n3_ n4_ n5_ n6_; clear hb hbox hg; have hnb42 := NB597_593.out; have hnc42 := NB593_597.out; have hcz43_0 : w41.cell? ⟨gb597, 0, none⟩ = some (.string (⟨#[]⟩ : ByteArray)) := (blk_cell BK597.out 0).trans rfl; have hcz43_1 : w41.cell? ⟨gb597, 1, none⟩ = some (.string (⟨#[]⟩ : ByteArray)) := (blk_cell BK597.out 1).trans rfl; have hcz43_2 : w41.cell? ⟨gb597, 2, none⟩ = some (.string (⟨#[]⟩ : ByteArray)) := (blk_cell BK597.out 2).trans rfl; have hcz43_3 : w41.cell? ⟨gb597, 3, none⟩ = some (.bool false) := (blk_cell BK597.out 3).trans rfl; have hcz43_4 : w41.cell? ⟨gb597, 4, none⟩ = some (.bool false) := (blk_cell BK597.out 4).trans rfl; have hfz43_0 := blk_frozen BK597.out 0; have hfz43_1 := blk_frozen BK597.out 1; have hfz43_2 := blk_frozen BK597.out 2; have hfz43_3 := blk_frozen BK597.out 3; have hfz43_4 := blk_frozen BK597.out 4))
          have n0_ : Aside0 ((((((w41.setCell ⟨gb597, 0, none⟩ (.string ((rd_T82 l0_3 x28_2).f0))).setCell ⟨gb597, 1, none⟩ (.string ((rd_T82 l0_3 x28_2).f1))).setCell ⟨gb597, 2, none⟩ (.string ((rd_T82 l0_3 x28_2).f2))).setCell ⟨gb597, 3, none⟩ (.bool ((rd_T82 l0_3 x28_2).f3))).setCell ⟨gb597, 4, none⟩ (.bool ((rd_T82 l0_3 x28_2).f4))).heap[gb593]? = some (.cells #[.string a0_0, .string a0_1, .int .i64 a0_2, .slice (some ad596) l0_3.length c0_3, .int .i64 a0_4] 48 (0, 0))) := ⟨by (with_reducible repeat (first | refine blk_drewN ?_ _ | refine blk_drew ?_ | refine blk_alloc ?_ _)); refine blk_far ?_ NB593_597.out _; (with_reducible repeat (first | refine blk_drewN ?_ _ | refine blk_drew ?_ | refine blk_alloc ?_ _)); refine blk_far ?_ NB593_597.out _; (with_reducible repeat (first | refine blk_drewN ?_ _ | refine blk_drew ?_ | refine blk_alloc ?_ _)); refine blk_far ?_ NB593_597.out _; (with_reducible repeat (first | refine blk_drewN ?_ _ | refine blk_drew ?_ | refine blk_alloc ?_ _)); refine blk_far ?_ NB593_597.out _; (with_reducible repeat (first | refine blk_drewN ?_ _ | refine blk_drew ?_ | refine blk_alloc ?_ _)); refine blk_far ?_ NB593_597.out _; (with_reducible repeat (first | refine blk_drewN ?_ _ | refine blk_drew ?_ | refine blk_alloc ?_ _)); exact BK593.out⟩
          have n1_ : Aside0 ((((((w41.setCell ⟨gb597, 0, none⟩ (.string ((rd_T82 l0_3 x28_2).f0))).setCell ⟨gb597, 1, none⟩ (.string ((rd_T82 l0_3 x28_2).f1))).setCell ⟨gb597, 2, none⟩ (.string ((rd_T82 l0_3 x28_2).f2))).setCell ⟨gb597, 3, none⟩ (.bool ((rd_T82 l0_3 x28_2).f3))).setCell ⟨gb597, 4, none⟩ (.bool ((rd_T82 l0_3 x28_2).f4))).heap[gb597]? = some (.cells #[.string ((rd_T82 l0_3 x28_2).f0), .string ((rd_T82 l0_3 x28_2).f1), .string ((rd_T82 l0_3 x28_2).f2), .bool ((rd_T82 l0_3 x28_2).f3), .bool ((rd_T82 l0_3 x28_2).f4)] 82 (0, 0))) := ⟨by (with_reducible repeat (first | refine blk_drewN ?_ _ | refine blk_drew ?_ | refine blk_alloc ?_ _)); refine blk_put (cs := #[.string ((rd_T82 l0_3 x28_2).f0), .string ((rd_T82 l0_3 x28_2).f1), .string ((rd_T82 l0_3 x28_2).f2), .bool ((rd_T82 l0_3 x28_2).f3), .bool false]) ?_ 4 _ rfl; (with_reducible repeat (first | refine blk_drewN ?_ _ | refine blk_drew ?_ | refine blk_alloc ?_ _)); refine blk_put (cs := #[.string ((rd_T82 l0_3 x28_2).f0), .string ((rd_T82 l0_3 x28_2).f1), .string ((rd_T82 l0_3 x28_2).f2), .bool false, .bool false]) ?_ 3 _ rfl; (with_reducible repeat (first | refine blk_drewN ?_ _ | refine blk_drew ?_ | refine blk_alloc ?_ _)); refine blk_put (cs := #[.string ((rd_T82 l0_3 x28_2).f0), .string ((rd_T82 l0_3 x28_2).f1), .string (⟨#[]⟩ : ByteArray), .bool false, .bool false]) ?_ 2 _ rfl; (with_reducible repeat (first | refine blk_drewN ?_ _ | refine blk_drew ?_ | refine blk_alloc ?_ _)); refine blk_put (cs := #[.string ((rd_T82 l0_3 x28_2).f0), .string (⟨#[]⟩ : ByteArray), .string (⟨#[]⟩ : ByteArray), .bool false, .bool false]) ?_ 1 _ rfl; (with_reducible repeat (first | refine blk_drewN ?_ _ | refine blk_drew ?_ | refine blk_alloc ?_ _)); refine blk_put (cs := #[.string (⟨#[]⟩ : ByteArray), .string (⟨#[]⟩ : ByteArray), .string (⟨#[]⟩ : ByteArray), .bool false, .bool false]) ?_ 0 _ rfl; (with_reducible repeat (first | refine blk_drewN ?_ _ | refine blk_drew ?_ | refine blk_alloc ?_ _)); exact BK597.out⟩
          have n2_ : Aside0 (Below w.heap.size w (((((w41.setCell ⟨gb597, 0, none⟩ (.string ((rd_T82 l0_3 x28_2).f0))).setCell ⟨gb597, 1, none⟩ (.string ((rd_T82 l0_3 x28_2).f1))).setCell ⟨gb597, 2, none⟩ (.string ((rd_T82 l0_3 x28_2).f2))).setCell ⟨gb597, 3, none⟩ (.bool ((rd_T82 l0_3 x28_2).f3))).setCell ⟨gb597, 4, none⟩ (.bool ((rd_T82 l0_3 x28_2).f4)))) := ⟨by repeat (first | (with_reducible first | exact HB.out | apply below_alloc | apply pw_below_drewN | apply below_drew1 | refine below_set ?_ GE593.out | refine below_set ?_ GE597.out) | exact HB.out)⟩
          (try clear BK593)
          (try clear BK597)
          (try clear HB)
          generalize (((((w41.setCell ⟨gb597, 0, none⟩ (.string ((rd_T82 l0_3 x28_2).f0))).setCell ⟨gb597, 1, none⟩ (.string ((rd_T82 l0_3 x28_2).f1))).setCell ⟨gb597, 2, none⟩ (.string ((rd_T82 l0_3 x28_2).f2))).setCell ⟨gb597, 3, none⟩ (.bool ((rd_T82 l0_3 x28_2).f3))).setCell ⟨gb597, 4, none⟩ (.bool ((rd_T82 l0_3 x28_2).f4))) = w44 at n0_ n1_ n2_ ⊢
          have BK593 := n0_
          have BK597 := n1_
          have HB := n2_
          clear n0_ n1_ n2_
          have n0_ := Aside0.mk (blk_drew BK593.out)
          have n1_ := Aside0.mk (blk_drew BK597.out)
          have n2_ := Aside0.mk (below_drew1 HB.out)
          clear BK593
          clear BK597
          clear HB
          have BK593 := n0_
          have BK597 := n1_
          have HB := n2_
          clear n0_ n1_ n2_
          refine wp_region_later (by kernel_rfl) (by kernel_rfl) ?_
          have hL0_ := Aside0.mk (show w44.drew.cell? ⟨gb597, 0, none⟩ = some (.string ((rd_T82 l0_3 x28_2).f0)) from (blk_cell BK597.out 0).trans rfl)
          have hL1_ := Aside0.mk (show w44.drew.cell? ⟨gb597, 1, none⟩ = some (.string ((rd_T82 l0_3 x28_2).f1)) from (blk_cell BK597.out 1).trans rfl)
          have hL2_ := Aside0.mk (show w44.drew.cell? ⟨gb597, 2, none⟩ = some (.string ((rd_T82 l0_3 x28_2).f2)) from (blk_cell BK597.out 2).trans rfl)
          have hL3_ := Aside0.mk (show w44.drew.cell? ⟨gb597, 3, none⟩ = some (.bool ((rd_T82 l0_3 x28_2).f3)) from (blk_cell BK597.out 3).trans rfl)
          have hL4_ := Aside0.mk (show w44.drew.cell? ⟨gb597, 4, none⟩ = some (.bool ((rd_T82 l0_3 x28_2).f4)) from (blk_cell BK597.out 4).trans rfl)
          generalize w44.drew = w45 at BK593 BK597 HB hL0_ hL1_ hL2_ hL3_ hL4_ ⊢
          have hL0 := fun (p_ : Later w45) => Later.cell p_ hL0_.out
          have hL1 := fun (p_ : Later w45) => Later.cell p_ hL1_.out
          have hL2 := fun (p_ : Later w45) => Later.cell p_ hL2_.out
          have hL3 := fun (p_ : Later w45) => Later.cell p_ hL3_.out
          have hL4 := fun (p_ : Later w45) => Later.cell p_ hL4_.out
          clear hL0_ hL1_ hL2_ hL3_ hL4_
          repeat (first | go_big_quiet_step ((first | (go_at_call 68; exact Calls.later_of (impl_diffOK.calls ((rd_T82 l0_3 x28_2).f0) ((rd_T82 l0_3 x28_2).f1) ((rd_T82 l0_3 x28_2).f2) ((rd_T82 l0_3 x28_2).f3) ((rd_T82 l0_3 x28_2).f4) false _ A16.out)))) | quiet_step ((first | (go_at_call 68; exact Calls.later_of (impl_diffOK.calls ((rd_T82 l0_3 x28_2).f0) ((rd_T82 l0_3 x28_2).f1) ((rd_T82 l0_3 x28_2).f2) ((rd_T82 l0_3 x28_2).f3) ((rd_T82 l0_3 x28_2).f4) false _ A16.out)))))
          refine wpQuiet_nil ?_
          rintro w46 ⟨⟨wq_, hbL⟩, hq_⟩
          have hq2_ : w46 = wq_ := hq_
          clear hq_
          subst hq2_
          clear hL0 hL1 hL2 hL3 hL4
          have nBK593_ := Aside0.mk ((hbL.block _ (blk_lt BK593.out)).trans BK593.out)
          have nBK597_ := Aside0.mk ((hbL.block _ (blk_lt BK597.out)).trans BK597.out)
          have nHB_ := Aside0.mk (below_step HB.out hbL)
          clear BK593
          clear BK597
          clear HB
          have BK593 := nBK593_
          have BK597 := nBK597_
          have HB := nHB_
          clear nBK593_
          clear nBK597_
          clear nHB_
          clear hbL
          try go_wp2
          go_ret
          exact ⟨by first | rfl | (simp [errW_none, errW_some] <;> rfl) | (simp [*, errW_none, errW_some] <;> rfl), by repeat (first | (with_reducible first | exact HB.out | apply below_alloc | apply pw_below_drewN | apply below_drew1 | refine below_set ?_ GE593.out | refine below_set ?_ GE597.out) | exact HB.out)⟩
        ·rw [if_neg c15] at H
         exact absurd H (by simp)
       ·rw [if_neg c14] at H
        exact absurd H (by simp)
      ·rw [if_neg c13] at H
       have c13b0 : decide (x28_2 < (l0_3.length : Int)) = false := decide_eq_false c13
       clear c13
       obtain rfl := Option.some.inj H
       go_wp2
       go_ret
       exact ⟨by first | rfl | (simp [errW_none, errW_some] <;> rfl) | (simp [*, errW_none, errW_some] <;> rfl), by repeat (first | (with_reducible first | exact HB.out | apply below_alloc | apply pw_below_drewN | apply below_drew1 | refine below_set ?_ GE593.out) | exact HB.out)⟩
end Go.Proofs.Ytgcncphdjabjjaa.X
