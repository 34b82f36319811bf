import Derived.Test.YtgcncphdjabjjaaKFnExactBackupOK3
import Derived.Test.YtgcncphdjabjjaaKFnExactBackupOK4
import Derived.Test.YtgcncphdjabjjaaKFnExactBackupOK5
namespace Go.Proofs.Ytgcncphdjabjjaa.X
open Go.RowKit Go.Proofs.YtgcncphdjabjjaaW.PrintWords Go.Proofs.YtgcncphdjabjjaaW.PrintLast Go.Proofs.YtgcncphdjabjjaaW.PrintMore
attribute [local go_sem] xbin_geq xbin_leq xbin_gtr max2_int min2_int max_two min_two max_three min_three max_four min_four
set_option linter.unusedVariables false
set_option linter.unusedSimpArgs false
mutual
def spec_BackupOK.j0 : Nat → Bool → ByteArray → ByteArray → Int → List (S82) → Int → Option (Bool)
 | 0, _, _, _, _, _, _ => none
 | k + 1, x47, x541000, x541001, x541002, x541003, x541004 => if x47 = true then (some false) else (spec_BackupOK.l0 k 0 x541000 x541001 x541002 x541003 x541004)
def spec_BackupOK.l0 : Nat → Int → ByteArray → ByteArray → Int → List (S82) → Int → Option (Bool)
 | 0, _, _, _, _, _, _ => none
 | k + 1, x3, x541000, x541001, x541002, x541003, x541004 => if x3 < (x541003.length : Int) then (if 0 ≤ x3 then ((spec_l01In.f (((rd_T82 x541003 x3).f0).size : Int) 1 30).bind fun t550 => (if t550 = true then (if (((rd_T82 x541003 x3).f1).size : Int) > 90 then (some false) else (if (((rd_T82 x541003 x3).f2).size : Int) > 90 then (some false) else (if ((rd_T82 x541003 x3).f3 = true) then (if ((rd_T82 x541003 x3).f4 = true) then (if x3 > 0 then (if 0 ≤ (wrap64 (x3 - 1)) then (if (wrap64 (x3 - 1)) < (x541003.length : Int) then (if ((Op.bytesLess (((rd_T82 x541003 (wrap64 (x3 - 1))).f0).toList) (((rd_T82 x541003 x3).f0).toList)) = true) then (spec_BackupOK.l0 k (wrap64 (x3 + 1)) x541000 x541001 x541002 x541003 x541004) else (some false)) else (none)) else (none)) else (spec_BackupOK.l0 k (wrap64 (x3 + 1)) x541000 x541001 x541002 x541003 x541004)) else (if ((rd_T82 x541003 x3).f2).toList = ([] : List UInt8) then (if x3 > 0 then (if 0 ≤ (wrap64 (x3 - 1)) then (if (wrap64 (x3 - 1)) < (x541003.length : Int) then (if ((Op.bytesLess (((rd_T82 x541003 (wrap64 (x3 - 1))).f0).toList) (((rd_T82 x541003 x3).f0).toList)) = true) then (spec_BackupOK.l0 k (wrap64 (x3 + 1)) x541000 x541001 x541002 x541003 x541004) else (some false)) else (none)) else (none)) else (spec_BackupOK.l0 k (wrap64 (x3 + 1)) x541000 x541001 x541002 x541003 x541004)) else (some false))) else (if ((rd_T82 x541003 x3).f4 = true) then (if ((rd_T82 x541003 x3).f1).toList = ([] : List UInt8) then (if x3 > 0 then (if 0 ≤ (wrap64 (x3 - 1)) then (if (wrap64 (x3 - 1)) < (x541003.length : Int) then (if ((Op.bytesLess (((rd_T82 x541003 (wrap64 (x3 - 1))).f0).toList) (((rd_T82 x541003 x3).f0).toList)) = true) then (spec_BackupOK.l0 k (wrap64 (x3 + 1)) x541000 x541001 x541002 x541003 x541004) else (some false)) else (none)) else (none)) else (spec_BackupOK.l0 k (wrap64 (x3 + 1)) x541000 x541001 x541002 x541003 x541004)) else (some false)) else (some false))))) else (some false))) else (none)) else (some true)
end
def spec_BackupOK.f (k : Nat) (a0_0 : ByteArray) (a0_1 : ByteArray) (a0_2 : Int) (l0_3 : List (S82)) (a0_4 : Int) : Option (Bool) := if a0_0.toList = ([] : List UInt8) then ((spec_l04Name.f k a0_1).bind fun t541 => (if t541 = true then ((spec_l01In.f a0_2 0 4294967295).bind fun t542 => (if t542 = true then (if a0_2 = 0 then ((spec_l01In.f a0_4 0 4294967295).bind fun t543 => (if t543 = true then (spec_BackupOK.j0 k (decide ((l0_3.length : Int) > 120)) a0_0 a0_1 a0_2 l0_3 a0_4) else (spec_BackupOK.j0 k true a0_0 a0_1 a0_2 l0_3 a0_4))) else (spec_BackupOK.j0 k true a0_0 a0_1 a0_2 l0_3 a0_4)) else (spec_BackupOK.j0 k true a0_0 a0_1 a0_2 l0_3 a0_4))) else (spec_BackupOK.j0 k true a0_0 a0_1 a0_2 l0_3 a0_4))) else ((spec_l04Name.f k a0_0).bind fun t544 => (if t544 = true then ((spec_l04Name.f k a0_1).bind fun t545 => (if t545 = true then ((spec_l01In.f a0_2 0 4294967295).bind fun t546 => (if t546 = true then ((spec_l01In.f a0_4 0 4294967295).bind fun t547 => (if t547 = true then (spec_BackupOK.j0 k (decide ((l0_3.length : Int) > 120)) a0_0 a0_1 a0_2 l0_3 a0_4) else (spec_BackupOK.j0 k true a0_0 a0_1 a0_2 l0_3 a0_4))) else (spec_BackupOK.j0 k true a0_0 a0_1 a0_2 l0_3 a0_4))) else (spec_BackupOK.j0 k true a0_0 a0_1 a0_2 l0_3 a0_4))) else (spec_BackupOK.j0 k true a0_0 a0_1 a0_2 l0_3 a0_4)))
theorem spec_BackupOK.mono_l : ∀ k, (∀ y0 y1 y2 y3 y4 y5, LeO (spec_BackupOK.j0 k y0 y1 y2 y3 y4 y5) (spec_BackupOK.j0 (k + 1) y0 y1 y2 y3 y4 y5)) ∧ (∀ y0 y1 y2 y3 y4 y5, LeO (spec_BackupOK.l0 k y0 y1 y2 y3 y4 y5) (spec_BackupOK.l0 (k + 1) y0 y1 y2 y3 y4 y5))
 | 0 => ⟨fun _ _ _ _ _ _ r h => by simp [spec_BackupOK.j0] at h, fun _ _ _ _ _ _ r h => by simp [spec_BackupOK.l0] at h⟩
 | k + 1 => by
  obtain ⟨ih0, ih1⟩ := spec_BackupOK.mono_l k
  refine ⟨?_, ?_⟩
  ·intro y0 y1 y2 y3 y4 y5
   unfold spec_BackupOK.j0
   repeat' first
   | (with_reducible exact ih0 _ _ _ _ _ _)
   | (with_reducible exact ih1 _ _ _ _ _ _)
   | (with_reducible exact spec_l04Name.mono _ _)
   | (with_reducible exact LeO.refl _)
   | (with_reducible exact LeO.none _)
   | (with_reducible refine LeO.ite ?_ ?_)
   | (with_reducible refine LeO.bind ?_ (fun _ => ?_))
   | exact ih0 _ _ _ _ _ _
   | exact ih1 _ _ _ _ _ _
   | exact spec_l04Name.mono _ _
   | exact LeO.none _
   | refine LeO.ite ?_ ?_
   | refine LeO.bind ?_ (fun _ => ?_)
  ·intro y0 y1 y2 y3 y4 y5
   unfold spec_BackupOK.l0
   repeat' first
   | (with_reducible exact ih0 _ _ _ _ _ _)
   | (with_reducible exact ih1 _ _ _ _ _ _)
   | (with_reducible exact spec_l04Name.mono _ _)
   | (with_reducible exact LeO.refl _)
   | (with_reducible exact LeO.none _)
   | (with_reducible refine LeO.ite ?_ ?_)
   | (with_reducible refine LeO.bind ?_ (fun _ => ?_))
   | exact ih0 _ _ _ _ _ _
   | exact ih1 _ _ _ _ _ _
   | exact spec_l04Name.mono _ _
   | exact LeO.none _
   | refine LeO.ite ?_ ?_
   | refine LeO.bind ?_ (fun _ => ?_)
theorem spec_BackupOK.mono : ∀ a0 a1 a2 a3 a4 k, LeO (spec_BackupOK.f k a0 a1 a2 a3 a4) (spec_BackupOK.f (k + 1) a0 a1 a2 a3 a4) := by
 intro a0 a1 a2 a3 a4 k
 obtain ⟨ih0, ih1⟩ := spec_BackupOK.mono_l k
 unfold spec_BackupOK.f
 repeat' first
   | (with_reducible exact ih0 _ _ _ _ _ _)
   | (with_reducible exact ih1 _ _ _ _ _ _)
   | (with_reducible exact spec_l04Name.mono _ _)
   | (with_reducible exact LeO.refl _)
   | (with_reducible exact LeO.none _)
   | (with_reducible refine LeO.ite ?_ ?_)
   | (with_reducible refine LeO.bind ?_ (fun _ => ?_))
   | exact ih0 _ _ _ _ _ _
   | exact ih1 _ _ _ _ _ _
   | exact spec_l04Name.mono _ _
   | exact LeO.none _
   | refine LeO.ite ?_ ?_
   | refine LeO.bind ?_ (fun _ => ?_)
set_option maxHeartbeats 8000000 in
set_option maxRecDepth 100000 in
theorem spec_BackupOK.calls (k : Nat) (a0_0 : ByteArray) (a0_1 : ByteArray) (a0_2 : Int) (A0_3 : Option Addr) (c0_3 : Nat) (l0_3 : List (S82)) (a0_4 : Int) (r : Bool) (w : World) (hr0_3 : Kd.C k82 w A0_3 l0_3.length l0_3) (hc0_3 : l0_3.length ≤ c0_3) (h : spec_BackupOK.f k a0_0 a0_1 a0_2 l0_3 a0_4 = some r) :
  Calls Try.prog 28 #[.agg #[.string a0_0, .string a0_1, .int .i64 a0_2, .slice A0_3 l0_3.length c0_3, .int .i64 a0_4]] w fun e w' => e = .returned (.bool r) ∧ Below w.heap.size w w' := by
 have hu48 := Try.underlying48
 have hu82 := Try.underlying82
 have HR0_3 := Aside0.mk hr0_3
 have HC0_3 := Aside0.mk hc0_3
 clear hr0_3 hc0_3
 have HB := Aside0.mk (Below.refl w.heap.size w)
 have H : (if a0_0.toList = ([] : List UInt8) then ((spec_l04Name.f k a0_1).bind fun t541 => (if t541 = true then ((spec_l01In.f a0_2 0 4294967295).bind fun t542 => (if t542 = true then (if a0_2 = 0 then ((spec_l01In.f a0_4 0 4294967295).bind fun t543 => (if t543 = true then (spec_BackupOK.j0 k (decide ((l0_3.length : Int) > 120)) a0_0 a0_1 a0_2 l0_3 a0_4) else (spec_BackupOK.j0 k true a0_0 a0_1 a0_2 l0_3 a0_4))) else (spec_BackupOK.j0 k true a0_0 a0_1 a0_2 l0_3 a0_4)) else (spec_BackupOK.j0 k true a0_0 a0_1 a0_2 l0_3 a0_4))) else (spec_BackupOK.j0 k true a0_0 a0_1 a0_2 l0_3 a0_4))) else ((spec_l04Name.f k a0_0).bind fun t544 => (if t544 = true then ((spec_l04Name.f k a0_1).bind fun t545 => (if t545 = true then ((spec_l01In.f a0_2 0 4294967295).bind fun t546 => (if t546 = true then ((spec_l01In.f a0_4 0 4294967295).bind fun t547 => (if t547 = true then (spec_BackupOK.j0 k (decide ((l0_3.length : Int) > 120)) a0_0 a0_1 a0_2 l0_3 a0_4) else (spec_BackupOK.j0 k true a0_0 a0_1 a0_2 l0_3 a0_4))) else (spec_BackupOK.j0 k true a0_0 a0_1 a0_2 l0_3 a0_4))) else (spec_BackupOK.j0 k true a0_0 a0_1 a0_2 l0_3 a0_4))) else (spec_BackupOK.j0 k true a0_0 a0_1 a0_2 l0_3 a0_4)))) = some r := h
 clear h
 have HC2 := Aside0.mk H
 clear H
 go_enter Try.func28, Try.ntmps28
 go_upto_region 1 with (first | ((with_reducible refine gate_dst (N := 1) rfl ?_); (try (refine gate_guard (by rfl) ?_; dsimp only)); refine box_event ?hg (N := 1) ?hd (cs := #[.string a0_0, .string a0_1, .int .i64 a0_2, .slice A0_3 l0_3.length c0_3, .int .i64 a0_4]) (t := 48) ?hr ?_; (case hd => rfl); (case hg => rfl); (case hr => first | (go_simp; done) | (go_simp; rfl)); intro gb540 hg w3 hbox hb; have n0_ := Aside0.mk (below_step (by repeat (first | (with_reducible first | exact HB.out | apply below_alloc | apply pw_below_drewN | apply below_drew1) | exact HB.out)) hb); have n1_ := Aside0.mk (hbox); have n2_ := Aside0.mk ((by rw [hg]; exact (below_size (by repeat (first | (with_reducible first | exact HB.out | apply below_alloc | apply pw_below_drewN | apply below_drew1) | exact HB.out))) : w.heap.size ≤ gb540)); have n3_ := Aside0.mk ((by rw [hg]; exact (below_size (by repeat (first | (with_reducible first | exact HB.out | apply below_alloc | apply pw_below_drewN | apply below_drew1) | exact HB.out))) : w.heap.size ≤ gb540)); clear HB; have HB := n0_; have BK540 := n1_; have GW540 := n2_; have GE540 := n3_; clear n0_ n1_ n2_ n3_; clear hb hbox hg))
 (try simp only [Act.put, List.setIfInBounds_toArray, List.set_cons_zero, List.set_cons_succ])
 go_cut [47] (fun v47 wc => ∃ (kq : Nat) (x47_1 : Bool), v47 = .bool x47_1 ∧ Aside0 (spec_BackupOK.j0 kq x47_1 a0_0 a0_1 a0_2 l0_3 a0_4 = some r) ∧ Aside0 (kq ≤ k) ∧ Aside0 (wc.heap[gb540]? = some (.cells #[.string a0_0, .string a0_1, .int .i64 a0_2, (.slice A0_3 l0_3.length c0_3), .int .i64 a0_4] 48 (0, 0))) ∧ Aside0 (Below w.heap.size w wc))
 case first =>
  have H := HC2.out
  clear HC2
  by_cases c4 : a0_0.toList = ([] : List UInt8)
  ·rw [if_pos c4] at H
   have c4b0 : (a0_0.toList == ([] : List UInt8)) = true := beq_iff_eq.mpr c4
   have c4b1 : (a0_0.toList != ([] : List UInt8)) = false := bne_eq_false_iff_eq.mpr c4
   clear c4
   (first | rw [c4b0] | (simp only [i64_w, i32_w]; rw [c4b0]) | skip)
   replace H := Option.bind_eq_some_iff.mp H
   obtain ⟨t541, A50, H⟩ := H
   replace H : (if t541 = true then ((spec_l01In.f a0_2 0 4294967295).bind fun t542 => (if t542 = true then (if a0_2 = 0 then ((spec_l01In.f a0_4 0 4294967295).bind fun t543 => (if t543 = true then (spec_BackupOK.j0 k (decide ((l0_3.length : Int) > 120)) a0_0 a0_1 a0_2 l0_3 a0_4) else (spec_BackupOK.j0 k true a0_0 a0_1 a0_2 l0_3 a0_4))) else (spec_BackupOK.j0 k true a0_0 a0_1 a0_2 l0_3 a0_4)) else (spec_BackupOK.j0 k true a0_0 a0_1 a0_2 l0_3 a0_4))) else (spec_BackupOK.j0 k true a0_0 a0_1 a0_2 l0_3 a0_4)) = some r := H
   have A5 := Aside0.mk A50
   clear A50
   by_cases c6 : t541 = true
   ·subst c6
    have H1 : ((spec_l01In.f a0_2 0 4294967295).bind fun t542 => (if t542 = true then (if a0_2 = 0 then ((spec_l01In.f a0_4 0 4294967295).bind fun t543 => (if t543 = true then (spec_BackupOK.j0 k (decide ((l0_3.length : Int) > 120)) a0_0 a0_1 a0_2 l0_3 a0_4) else (spec_BackupOK.j0 k true a0_0 a0_1 a0_2 l0_3 a0_4))) else (spec_BackupOK.j0 k true a0_0 a0_1 a0_2 l0_3 a0_4)) else (spec_BackupOK.j0 k true a0_0 a0_1 a0_2 l0_3 a0_4))) = some r := by rw [if_pos rfl] at H; exact H
    clear H
    have H := H1
    clear H1
    replace H := Option.bind_eq_some_iff.mp H
    obtain ⟨t542, A70, H⟩ := H
    replace H : (if t542 = true then (if a0_2 = 0 then ((spec_l01In.f a0_4 0 4294967295).bind fun t543 => (if t543 = true then (spec_BackupOK.j0 k (decide ((l0_3.length : Int) > 120)) a0_0 a0_1 a0_2 l0_3 a0_4) else (spec_BackupOK.j0 k true a0_0 a0_1 a0_2 l0_3 a0_4))) else (spec_BackupOK.j0 k true a0_0 a0_1 a0_2 l0_3 a0_4)) else (spec_BackupOK.j0 k true a0_0 a0_1 a0_2 l0_3 a0_4)) = some r := H
    have A7 := Aside0.mk A70
    clear A70
    by_cases c8 : t542 = true
    ·subst c8
     have H1 : (if a0_2 = 0 then ((spec_l01In.f a0_4 0 4294967295).bind fun t543 => (if t543 = true then (spec_BackupOK.j0 k (decide ((l0_3.length : Int) > 120)) a0_0 a0_1 a0_2 l0_3 a0_4) else (spec_BackupOK.j0 k true a0_0 a0_1 a0_2 l0_3 a0_4))) else (spec_BackupOK.j0 k true a0_0 a0_1 a0_2 l0_3 a0_4)) = some r := by rw [if_pos rfl] at H; exact H
     clear H
     have H := H1
     clear H1
     by_cases c9 : a0_2 = 0
     ·rw [if_pos c9] at H
      have c9b0 : (a0_2 == 0) = true := beq_iff_eq.mpr c9
      have c9b1 : (a0_2 != 0) = false := bne_eq_false_iff_eq.mpr c9
      clear c9
      replace H := Option.bind_eq_some_iff.mp H
      obtain ⟨t543, A100, H⟩ := H
      replace H : (if t543 = true then (spec_BackupOK.j0 k (decide ((l0_3.length : Int) > 120)) a0_0 a0_1 a0_2 l0_3 a0_4) else (spec_BackupOK.j0 k true a0_0 a0_1 a0_2 l0_3 a0_4)) = some r := H
      have A10 := Aside0.mk A100
      clear A100
      by_cases c11 : t543 = true
      ·subst c11
       have H1 : (spec_BackupOK.j0 k (decide ((l0_3.length : Int) > 120)) a0_0 a0_1 a0_2 l0_3 a0_4) = some r := by rw [if_pos rfl] at H; exact H
       clear H
       have H := H1
       clear H1
       have H' := Aside0.mk H
       clear H
       have hcz12_0 : w3.cell? ⟨gb540, 0, none⟩ = some (.string a0_0) := (blk_cell BK540.out 0).trans rfl
       have hcz12_1 : w3.cell? ⟨gb540, 1, none⟩ = some (.string a0_1) := (blk_cell BK540.out 1).trans rfl
       have hcz12_2 : w3.cell? ⟨gb540, 2, none⟩ = some (.int .i64 a0_2) := (blk_cell BK540.out 2).trans rfl
       have hcz12_3 : w3.cell? ⟨gb540, 3, none⟩ = some (.slice A0_3 l0_3.length c0_3) := (blk_cell BK540.out 3).trans rfl
       have hcz12_4 : w3.cell? ⟨gb540, 4, none⟩ = some (.int .i64 a0_4) := (blk_cell BK540.out 4).trans rfl
       have hfz12_0 := blk_frozen BK540.out 0
       have hfz12_1 := blk_frozen BK540.out 1
       have hfz12_2 := blk_frozen BK540.out 2
       have hfz12_3 := blk_frozen BK540.out 3
       have hfz12_4 := blk_frozen BK540.out 4
       go_wp2_with (first | (go_at_call 64; (with_reducible refine (spec_l04Name.calls k a0_1 true _ A5.out).mono ?_); rintro e w' ⟨rfl, ⟨nd, rfl⟩⟩) | (go_at_call 65; (with_reducible refine (spec_l01In.calls a0_2 0 4294967295 true _ A7.out).mono ?_); rintro e w' ⟨rfl, ⟨nd, rfl⟩⟩) | (go_at_call 65; (with_reducible refine (spec_l01In.calls a0_4 0 4294967295 true _ A10.out).mono ?_); rintro e w' ⟨rfl, ⟨nd, rfl⟩⟩))
       go_meet
       case rel => exact ⟨_, (decide ((l0_3.length : Int) > 120)), (by first | rfl | (simp; done) | (simp [*]; done)), H', ⟨by first | omega | exact Nat.le_refl _⟩, ⟨by (with_reducible repeat (first | refine blk_drewN ?_ _ | refine blk_drew ?_ | refine blk_alloc ?_ _)); exact BK540.out⟩, ⟨by repeat (first | (with_reducible first | exact HB.out | apply below_alloc | apply pw_below_drewN | apply below_drew1 | refine below_set ?_ GE540.out) | exact HB.out)⟩⟩
      ·replace c11 := Bool.eq_false_iff.mpr c11
       subst c11
       have H1 : (spec_BackupOK.j0 k true a0_0 a0_1 a0_2 l0_3 a0_4) = some r := by rw [if_neg (show ¬ (false = true) by decide)] at H; exact H
       clear H
       have H := H1
       clear H1
       have H' := Aside0.mk H
       clear H
       have hcz13_0 : w3.cell? ⟨gb540, 0, none⟩ = some (.string a0_0) := (blk_cell BK540.out 0).trans rfl
       have hcz13_1 : w3.cell? ⟨gb540, 1, none⟩ = some (.string a0_1) := (blk_cell BK540.out 1).trans rfl
       have hcz13_2 : w3.cell? ⟨gb540, 2, none⟩ = some (.int .i64 a0_2) := (blk_cell BK540.out 2).trans rfl
       have hcz13_3 : w3.cell? ⟨gb540, 3, none⟩ = some (.slice A0_3 l0_3.length c0_3) := (blk_cell BK540.out 3).trans rfl
       have hcz13_4 : w3.cell? ⟨gb540, 4, none⟩ = some (.int .i64 a0_4) := (blk_cell BK540.out 4).trans rfl
       have hfz13_0 := blk_frozen BK540.out 0
       have hfz13_1 := blk_frozen BK540.out 1
       have hfz13_2 := blk_frozen BK540.out 2
       have hfz13_3 := blk_frozen BK540.out 3
       have hfz13_4 := blk_frozen BK540.out 4
       go_wp2_with (first | (go_at_call 64; (with_reducible refine (spec_l04Name.calls k a0_1 true _ A5.out).mono ?_); rintro e w' ⟨rfl, ⟨nd, rfl⟩⟩) | (go_at_call 65; (with_reducible refine (spec_l01In.calls a0_2 0 4294967295 true _ A7.out).mono ?_); rintro e w' ⟨rfl, ⟨nd, rfl⟩⟩) | (go_at_call 65; (with_reducible refine (spec_l01In.calls a0_4 0 4294967295 false _ A10.out).mono ?_); rintro e w' ⟨rfl, ⟨nd, rfl⟩⟩))
       go_meet
       case rel => exact ⟨_, (true), (by first | rfl | (simp; done) | (simp [*]; done)), H', ⟨by first | omega | exact Nat.le_refl _⟩, ⟨by (with_reducible repeat (first | refine blk_drewN ?_ _ | refine blk_drew ?_ | refine blk_alloc ?_ _)); exact BK540.out⟩, ⟨by repeat (first | (with_reducible first | exact HB.out | apply below_alloc | apply pw_below_drewN | apply below_drew1 | refine below_set ?_ GE540.out) | exact HB.out)⟩⟩
     ·rw [if_neg c9] at H
      have c9b0 : (a0_2 == 0) = false := beq_eq_false_iff_ne.mpr c9
      have c9b1 : (a0_2 != 0) = true := bne_iff_ne.mpr c9
      have H' := Aside0.mk H
      clear H
      have hcz14_0 : w3.cell? ⟨gb540, 0, none⟩ = some (.string a0_0) := (blk_cell BK540.out 0).trans rfl
      have hcz14_1 : w3.cell? ⟨gb540, 1, none⟩ = some (.string a0_1) := (blk_cell BK540.out 1).trans rfl
      have hcz14_2 : w3.cell? ⟨gb540, 2, none⟩ = some (.int .i64 a0_2) := (blk_cell BK540.out 2).trans rfl
      have hcz14_3 : w3.cell? ⟨gb540, 3, none⟩ = some (.slice A0_3 l0_3.length c0_3) := (blk_cell BK540.out 3).trans rfl
      have hcz14_4 : w3.cell? ⟨gb540, 4, none⟩ = some (.int .i64 a0_4) := (blk_cell BK540.out 4).trans rfl
      have hfz14_0 := blk_frozen BK540.out 0
      have hfz14_1 := blk_frozen BK540.out 1
      have hfz14_2 := blk_frozen BK540.out 2
      have hfz14_3 := blk_frozen BK540.out 3
      have hfz14_4 := blk_frozen BK540.out 4
      go_wp2_with (first | (go_at_call 64; (with_reducible refine (spec_l04Name.calls k a0_1 true _ A5.out).mono ?_); rintro e w' ⟨rfl, ⟨nd, rfl⟩⟩) | (go_at_call 65; (with_reducible refine (spec_l01In.calls a0_2 0 4294967295 true _ A7.out).mono ?_); rintro e w' ⟨rfl, ⟨nd, rfl⟩⟩))
      go_meet
      case rel => exact ⟨_, (true), (by first | rfl | (simp; done) | (simp [*]; done)), H', ⟨by first | omega | exact Nat.le_refl _⟩, ⟨by (with_reducible repeat (first | refine blk_drewN ?_ _ | refine blk_drew ?_ | refine blk_alloc ?_ _)); exact BK540.out⟩, ⟨by repeat (first | (with_reducible first | exact HB.out | apply below_alloc | apply pw_below_drewN | apply below_drew1 | refine below_set ?_ GE540.out) | exact HB.out)⟩⟩
    ·replace c8 := Bool.eq_false_iff.mpr c8
     subst c8
     have H1 : (spec_BackupOK.j0 k true a0_0 a0_1 a0_2 l0_3 a0_4) = some r := by rw [if_neg (show ¬ (false = true) by decide)] at H; exact H
     clear H
     have H := H1
     clear H1
     have H' := Aside0.mk H
     clear H
     have hcz15_0 : w3.cell? ⟨gb540, 0, none⟩ = some (.string a0_0) := (blk_cell BK540.out 0).trans rfl
     have hcz15_1 : w3.cell? ⟨gb540, 1, none⟩ = some (.string a0_1) := (blk_cell BK540.out 1).trans rfl
     have hcz15_2 : w3.cell? ⟨gb540, 2, none⟩ = some (.int .i64 a0_2) := (blk_cell BK540.out 2).trans rfl
     have hcz15_3 : w3.cell? ⟨gb540, 3, none⟩ = some (.slice A0_3 l0_3.length c0_3) := (blk_cell BK540.out 3).trans rfl
     have hcz15_4 : w3.cell? ⟨gb540, 4, none⟩ = some (.int .i64 a0_4) := (blk_cell BK540.out 4).trans rfl
     have hfz15_0 := blk_frozen BK540.out 0
     have hfz15_1 := blk_frozen BK540.out 1
     have hfz15_2 := blk_frozen BK540.out 2
     have hfz15_3 := blk_frozen BK540.out 3
     have hfz15_4 := blk_frozen BK540.out 4
     go_wp2_with (first | (go_at_call 64; (with_reducible refine (spec_l04Name.calls k a0_1 true _ A5.out).mono ?_); rintro e w' ⟨rfl, ⟨nd, rfl⟩⟩) | (go_at_call 65; (with_reducible refine (spec_l01In.calls a0_2 0 4294967295 false _ A7.out).mono ?_); rintro e w' ⟨rfl, ⟨nd, rfl⟩⟩))
     go_meet
     case rel => exact ⟨_, (true), (by first | rfl | (simp; done) | (simp [*]; done)), H', ⟨by first | omega | exact Nat.le_refl _⟩, ⟨by (with_reducible repeat (first | refine blk_drewN ?_ _ | refine blk_drew ?_ | refine blk_alloc ?_ _)); exact BK540.out⟩, ⟨by repeat (first | (with_reducible first | exact HB.out | apply below_alloc | apply pw_below_drewN | apply below_drew1 | refine below_set ?_ GE540.out) | exact HB.out)⟩⟩
   ·replace c6 := Bool.eq_false_iff.mpr c6
    subst c6
    have H1 : (spec_BackupOK.j0 k true a0_0 a0_1 a0_2 l0_3 a0_4) = some r := by rw [if_neg (show ¬ (false = true) by decide)] at H; exact H
    clear H
    have H := H1
    clear H1
    have H' := Aside0.mk H
    clear H
    have hcz16_0 : w3.cell? ⟨gb540, 0, none⟩ = some (.string a0_0) := (blk_cell BK540.out 0).trans rfl
    have hcz16_1 : w3.cell? ⟨gb540, 1, none⟩ = some (.string a0_1) := (blk_cell BK540.out 1).trans rfl
    have hcz16_2 : w3.cell? ⟨gb540, 2, none⟩ = some (.int .i64 a0_2) := (blk_cell BK540.out 2).trans rfl
    have hcz16_3 : w3.cell? ⟨gb540, 3, none⟩ = some (.slice A0_3 l0_3.length c0_3) := (blk_cell BK540.out 3).trans rfl
    have hcz16_4 : w3.cell? ⟨gb540, 4, none⟩ = some (.int .i64 a0_4) := (blk_cell BK540.out 4).trans rfl
    have hfz16_0 := blk_frozen BK540.out 0
    have hfz16_1 := blk_frozen BK540.out 1
    have hfz16_2 := blk_frozen BK540.out 2
    have hfz16_3 := blk_frozen BK540.out 3
    have hfz16_4 := blk_frozen BK540.out 4
    go_wp2_with (first | (go_at_call 64; (with_reducible refine (spec_l04Name.calls k a0_1 false _ A5.out).mono ?_); rintro e w' ⟨rfl, ⟨nd, rfl⟩⟩))
    go_meet
    case rel => exact ⟨_, (true), (by first | rfl | (simp; done) | (simp [*]; done)), H', ⟨by first | omega | exact Nat.le_refl _⟩, ⟨by (with_reducible repeat (first | refine blk_drewN ?_ _ | refine blk_drew ?_ | refine blk_alloc ?_ _)); exact BK540.out⟩, ⟨by repeat (first | (with_reducible first | exact HB.out | apply below_alloc | apply pw_below_drewN | apply below_drew1 | refine below_set ?_ GE540.out) | exact HB.out)⟩⟩
  ·rw [if_neg c4] at H
   have c4b0 : (a0_0.toList == ([] : List UInt8)) = false := beq_eq_false_iff_ne.mpr c4
   have c4b1 : (a0_0.toList != ([] : List UInt8)) = true := bne_iff_ne.mpr c4
   (first | rw [c4b0] | (simp only [i64_w, i32_w]; rw [c4b0]) | skip)
   replace H := Option.bind_eq_some_iff.mp H
   obtain ⟨t544, A170, H⟩ := H
   replace H : (if t544 = true then ((spec_l04Name.f k a0_1).bind fun t545 => (if t545 = true then ((spec_l01In.f a0_2 0 4294967295).bind fun t546 => (if t546 = true then ((spec_l01In.f a0_4 0 4294967295).bind fun t547 => (if t547 = true then (spec_BackupOK.j0 k (decide ((l0_3.length : Int) > 120)) a0_0 a0_1 a0_2 l0_3 a0_4) else (spec_BackupOK.j0 k true a0_0 a0_1 a0_2 l0_3 a0_4))) else (spec_BackupOK.j0 k true a0_0 a0_1 a0_2 l0_3 a0_4))) else (spec_BackupOK.j0 k true a0_0 a0_1 a0_2 l0_3 a0_4))) else (spec_BackupOK.j0 k true a0_0 a0_1 a0_2 l0_3 a0_4)) = some r := H
   have A17 := Aside0.mk A170
   clear A170
   by_cases c18 : t544 = true
   ·subst c18
    have H1 : ((spec_l04Name.f k a0_1).bind fun t545 => (if t545 = true then ((spec_l01In.f a0_2 0 4294967295).bind fun t546 => (if t546 = true then ((spec_l01In.f a0_4 0 4294967295).bind fun t547 => (if t547 = true then (spec_BackupOK.j0 k (decide ((l0_3.length : Int) > 120)) a0_0 a0_1 a0_2 l0_3 a0_4) else (spec_BackupOK.j0 k true a0_0 a0_1 a0_2 l0_3 a0_4))) else (spec_BackupOK.j0 k true a0_0 a0_1 a0_2 l0_3 a0_4))) else (spec_BackupOK.j0 k true a0_0 a0_1 a0_2 l0_3 a0_4))) = some r := by rw [if_pos rfl] at H; exact H
    clear H
    have H := H1
    clear H1
    replace H := Option.bind_eq_some_iff.mp H
    obtain ⟨t545, A190, H⟩ := H
    replace H : (if t545 = true then ((spec_l01In.f a0_2 0 4294967295).bind fun t546 => (if t546 = true then ((spec_l01In.f a0_4 0 4294967295).bind fun t547 => (if t547 = true then (spec_BackupOK.j0 k (decide ((l0_3.length : Int) > 120)) a0_0 a0_1 a0_2 l0_3 a0_4) else (spec_BackupOK.j0 k true a0_0 a0_1 a0_2 l0_3 a0_4))) else (spec_BackupOK.j0 k true a0_0 a0_1 a0_2 l0_3 a0_4))) else (spec_BackupOK.j0 k true a0_0 a0_1 a0_2 l0_3 a0_4)) = some r := H
    have A19 := Aside0.mk A190
    clear A190
    by_cases c20 : t545 = true
    ·subst c20
     have H1 : ((spec_l01In.f a0_2 0 4294967295).bind fun t546 => (if t546 = true then ((spec_l01In.f a0_4 0 4294967295).bind fun t547 => (if t547 = true then (spec_BackupOK.j0 k (decide ((l0_3.length : Int) > 120)) a0_0 a0_1 a0_2 l0_3 a0_4) else (spec_BackupOK.j0 k true a0_0 a0_1 a0_2 l0_3 a0_4))) else (spec_BackupOK.j0 k true a0_0 a0_1 a0_2 l0_3 a0_4))) = some r := by rw [if_pos rfl] at H; exact H
     clear H
     have H := H1
     clear H1
     replace H := Option.bind_eq_some_iff.mp H
     obtain ⟨t546, A210, H⟩ := H
     replace H : (if t546 = true then ((spec_l01In.f a0_4 0 4294967295).bind fun t547 => (if t547 = true then (spec_BackupOK.j0 k (decide ((l0_3.length : Int) > 120)) a0_0 a0_1 a0_2 l0_3 a0_4) else (spec_BackupOK.j0 k true a0_0 a0_1 a0_2 l0_3 a0_4))) else (spec_BackupOK.j0 k true a0_0 a0_1 a0_2 l0_3 a0_4)) = some r := H
     have A21 := Aside0.mk A210
     clear A210
     by_cases c22 : t546 = true
     ·subst c22
      have H1 : ((spec_l01In.f a0_4 0 4294967295).bind fun t547 => (if t547 = true then (spec_BackupOK.j0 k (decide ((l0_3.length : Int) > 120)) a0_0 a0_1 a0_2 l0_3 a0_4) else (spec_BackupOK.j0 k true a0_0 a0_1 a0_2 l0_3 a0_4))) = some r := by rw [if_pos rfl] at H; exact H
      clear H
      have H := H1
      clear H1
      replace H := Option.bind_eq_some_iff.mp H
      obtain ⟨t547, A230, H⟩ := H
      replace H : (if t547 = true then (spec_BackupOK.j0 k (decide ((l0_3.length : Int) > 120)) a0_0 a0_1 a0_2 l0_3 a0_4) else (spec_BackupOK.j0 k true a0_0 a0_1 a0_2 l0_3 a0_4)) = some r := H
      have A23 := Aside0.mk A230
      clear A230
      by_cases c24 : t547 = true
      ·subst c24
       have H1 : (spec_BackupOK.j0 k (decide ((l0_3.length : Int) > 120)) a0_0 a0_1 a0_2 l0_3 a0_4) = some r := by rw [if_pos rfl] at H; exact H
       clear H
       have H := H1
       clear H1
       have H' := Aside0.mk H
       clear H
       have hcz25_0 : w3.cell? ⟨gb540, 0, none⟩ = some (.string a0_0) := (blk_cell BK540.out 0).trans rfl
       have hcz25_1 : w3.cell? ⟨gb540, 1, none⟩ = some (.string a0_1) := (blk_cell BK540.out 1).trans rfl
       have hcz25_2 : w3.cell? ⟨gb540, 2, none⟩ = some (.int .i64 a0_2) := (blk_cell BK540.out 2).trans rfl
       have hcz25_3 : w3.cell? ⟨gb540, 3, none⟩ = some (.slice A0_3 l0_3.length c0_3) := (blk_cell BK540.out 3).trans rfl
       have hcz25_4 : w3.cell? ⟨gb540, 4, none⟩ = some (.int .i64 a0_4) := (blk_cell BK540.out 4).trans rfl
       have hfz25_0 := blk_frozen BK540.out 0
       have hfz25_1 := blk_frozen BK540.out 1
       have hfz25_2 := blk_frozen BK540.out 2
       have hfz25_3 := blk_frozen BK540.out 3
       have hfz25_4 := blk_frozen BK540.out 4
       go_wp2_with (first | (go_at_call 64; (with_reducible refine (spec_l04Name.calls k a0_0 true _ A17.out).mono ?_); rintro e w' ⟨rfl, ⟨nd, rfl⟩⟩) | (go_at_call 64; (with_reducible refine (spec_l04Name.calls k a0_1 true _ A19.out).mono ?_); rintro e w' ⟨rfl, ⟨nd, rfl⟩⟩) | (go_at_call 65; (with_reducible refine (spec_l01In.calls a0_2 0 4294967295 true _ A21.out).mono ?_); rintro e w' ⟨rfl, ⟨nd, rfl⟩⟩) | (go_at_call 65; (with_reducible refine (spec_l01In.calls a0_4 0 4294967295 true _ A23.out).mono ?_); rintro e w' ⟨rfl, ⟨nd, rfl⟩⟩))
       go_meet
       case rel => exact ⟨_, (decide ((l0_3.length : Int) > 120)), (by first | rfl | (simp; done) | (simp [*]; done)), H', ⟨by first | omega | exact Nat.le_refl _⟩, ⟨by (with_reducible repeat (first | refine blk_drewN ?_ _ | refine blk_drew ?_ | refine blk_alloc ?_ _)); exact BK540.out⟩, ⟨by repeat (first | (with_reducible first | exact HB.out | apply below_alloc | apply pw_below_drewN | apply below_drew1 | refine below_set ?_ GE540.out) | exact HB.out)⟩⟩
      ·replace c24 := Bool.eq_false_iff.mpr c24
       subst c24
       have H1 : (spec_BackupOK.j0 k true a0_0 a0_1 a0_2 l0_3 a0_4) = some r := by rw [if_neg (show ¬ (false = true) by decide)] at H; exact H
       clear H
       have H := H1
       clear H1
       have H' := Aside0.mk H
       clear H
       have hcz26_0 : w3.cell? ⟨gb540, 0, none⟩ = some (.string a0_0) := (blk_cell BK540.out 0).trans rfl
       have hcz26_1 : w3.cell? ⟨gb540, 1, none⟩ = some (.string a0_1) := (blk_cell BK540.out 1).trans rfl
       have hcz26_2 : w3.cell? ⟨gb540, 2, none⟩ = some (.int .i64 a0_2) := (blk_cell BK540.out 2).trans rfl
       have hcz26_3 : w3.cell? ⟨gb540, 3, none⟩ = some (.slice A0_3 l0_3.length c0_3) := (blk_cell BK540.out 3).trans rfl
       have hcz26_4 : w3.cell? ⟨gb540, 4, none⟩ = some (.int .i64 a0_4) := (blk_cell BK540.out 4).trans rfl
       have hfz26_0 := blk_frozen BK540.out 0
       have hfz26_1 := blk_frozen BK540.out 1
       have hfz26_2 := blk_frozen BK540.out 2
       have hfz26_3 := blk_frozen BK540.out 3
       have hfz26_4 := blk_frozen BK540.out 4
       go_wp2_with (first | (go_at_call 64; (with_reducible refine (spec_l04Name.calls k a0_0 true _ A17.out).mono ?_); rintro e w' ⟨rfl, ⟨nd, rfl⟩⟩) | (go_at_call 64; (with_reducible refine (spec_l04Name.calls k a0_1 true _ A19.out).mono ?_); rintro e w' ⟨rfl, ⟨nd, rfl⟩⟩) | (go_at_call 65; (with_reducible refine (spec_l01In.calls a0_2 0 4294967295 true _ A21.out).mono ?_); rintro e w' ⟨rfl, ⟨nd, rfl⟩⟩) | (go_at_call 65; (with_reducible refine (spec_l01In.calls a0_4 0 4294967295 false _ A23.out).mono ?_); rintro e w' ⟨rfl, ⟨nd, rfl⟩⟩))
       go_meet
       case rel => exact ⟨_, (true), (by first | rfl | (simp; done) | (simp [*]; done)), H', ⟨by first | omega | exact Nat.le_refl _⟩, ⟨by (with_reducible repeat (first | refine blk_drewN ?_ _ | refine blk_drew ?_ | refine blk_alloc ?_ _)); exact BK540.out⟩, ⟨by repeat (first | (with_reducible first | exact HB.out | apply below_alloc | apply pw_below_drewN | apply below_drew1 | refine below_set ?_ GE540.out) | exact HB.out)⟩⟩
     ·replace c22 := Bool.eq_false_iff.mpr c22
      subst c22
      have H1 : (spec_BackupOK.j0 k true a0_0 a0_1 a0_2 l0_3 a0_4) = some r := by rw [if_neg (show ¬ (false = true) by decide)] at H; exact H
      clear H
      have H := H1
      clear H1
      have H' := Aside0.mk H
      clear H
      have hcz27_0 : w3.cell? ⟨gb540, 0, none⟩ = some (.string a0_0) := (blk_cell BK540.out 0).trans rfl
      have hcz27_1 : w3.cell? ⟨gb540, 1, none⟩ = some (.string a0_1) := (blk_cell BK540.out 1).trans rfl
      have hcz27_2 : w3.cell? ⟨gb540, 2, none⟩ = some (.int .i64 a0_2) := (blk_cell BK540.out 2).trans rfl
      have hcz27_3 : w3.cell? ⟨gb540, 3, none⟩ = some (.slice A0_3 l0_3.length c0_3) := (blk_cell BK540.out 3).trans rfl
      have hcz27_4 : w3.cell? ⟨gb540, 4, none⟩ = some (.int .i64 a0_4) := (blk_cell BK540.out 4).trans rfl
      have hfz27_0 := blk_frozen BK540.out 0
      have hfz27_1 := blk_frozen BK540.out 1
      have hfz27_2 := blk_frozen BK540.out 2
      have hfz27_3 := blk_frozen BK540.out 3
      have hfz27_4 := blk_frozen BK540.out 4
      go_wp2_with (first | (go_at_call 64; (with_reducible refine (spec_l04Name.calls k a0_0 true _ A17.out).mono ?_); rintro e w' ⟨rfl, ⟨nd, rfl⟩⟩) | (go_at_call 64; (with_reducible refine (spec_l04Name.calls k a0_1 true _ A19.out).mono ?_); rintro e w' ⟨rfl, ⟨nd, rfl⟩⟩) | (go_at_call 65; (with_reducible refine (spec_l01In.calls a0_2 0 4294967295 false _ A21.out).mono ?_); rintro e w' ⟨rfl, ⟨nd, rfl⟩⟩))
      go_meet
      case rel => exact ⟨_, (true), (by first | rfl | (simp; done) | (simp [*]; done)), H', ⟨by first | omega | exact Nat.le_refl _⟩, ⟨by (with_reducible repeat (first | refine blk_drewN ?_ _ | refine blk_drew ?_ | refine blk_alloc ?_ _)); exact BK540.out⟩, ⟨by repeat (first | (with_reducible first | exact HB.out | apply below_alloc | apply pw_below_drewN | apply below_drew1 | refine below_set ?_ GE540.out) | exact HB.out)⟩⟩
    ·replace c20 := Bool.eq_false_iff.mpr c20
     subst c20
     have H1 : (spec_BackupOK.j0 k true a0_0 a0_1 a0_2 l0_3 a0_4) = some r := by rw [if_neg (show ¬ (false = true) by decide)] at H; exact H
     clear H
     have H := H1
     clear H1
     have H' := Aside0.mk H
     clear H
     have hcz28_0 : w3.cell? ⟨gb540, 0, none⟩ = some (.string a0_0) := (blk_cell BK540.out 0).trans rfl
     have hcz28_1 : w3.cell? ⟨gb540, 1, none⟩ = some (.string a0_1) := (blk_cell BK540.out 1).trans rfl
     have hcz28_2 : w3.cell? ⟨gb540, 2, none⟩ = some (.int .i64 a0_2) := (blk_cell BK540.out 2).trans rfl
     have hcz28_3 : w3.cell? ⟨gb540, 3, none⟩ = some (.slice A0_3 l0_3.length c0_3) := (blk_cell BK540.out 3).trans rfl
     have hcz28_4 : w3.cell? ⟨gb540, 4, none⟩ = some (.int .i64 a0_4) := (blk_cell BK540.out 4).trans rfl
     have hfz28_0 := blk_frozen BK540.out 0
     have hfz28_1 := blk_frozen BK540.out 1
     have hfz28_2 := blk_frozen BK540.out 2
     have hfz28_3 := blk_frozen BK540.out 3
     have hfz28_4 := blk_frozen BK540.out 4
     go_wp2_with (first | (go_at_call 64; (with_reducible refine (spec_l04Name.calls k a0_0 true _ A17.out).mono ?_); rintro e w' ⟨rfl, ⟨nd, rfl⟩⟩) | (go_at_call 64; (with_reducible refine (spec_l04Name.calls k a0_1 false _ A19.out).mono ?_); rintro e w' ⟨rfl, ⟨nd, rfl⟩⟩))
     go_meet
     case rel => exact ⟨_, (true), (by first | rfl | (simp; done) | (simp [*]; done)), H', ⟨by first | omega | exact Nat.le_refl _⟩, ⟨by (with_reducible repeat (first | refine blk_drewN ?_ _ | refine blk_drew ?_ | refine blk_alloc ?_ _)); exact BK540.out⟩, ⟨by repeat (first | (with_reducible first | exact HB.out | apply below_alloc | apply pw_below_drewN | apply below_drew1 | refine below_set ?_ GE540.out) | exact HB.out)⟩⟩
   ·replace c18 := Bool.eq_false_iff.mpr c18
    subst c18
    have H1 : (spec_BackupOK.j0 k true a0_0 a0_1 a0_2 l0_3 a0_4) = some r := by rw [if_neg (show ¬ (false = true) by decide)] at H; exact H
    clear H
    have H := H1
    clear H1
    have H' := Aside0.mk H
    clear H
    have hcz29_0 : w3.cell? ⟨gb540, 0, none⟩ = some (.string a0_0) := (blk_cell BK540.out 0).trans rfl
    have hcz29_1 : w3.cell? ⟨gb540, 1, none⟩ = some (.string a0_1) := (blk_cell BK540.out 1).trans rfl
    have hcz29_2 : w3.cell? ⟨gb540, 2, none⟩ = some (.int .i64 a0_2) := (blk_cell BK540.out 2).trans rfl
    have hcz29_3 : w3.cell? ⟨gb540, 3, none⟩ = some (.slice A0_3 l0_3.length c0_3) := (blk_cell BK540.out 3).trans rfl
    have hcz29_4 : w3.cell? ⟨gb540, 4, none⟩ = some (.int .i64 a0_4) := (blk_cell BK540.out 4).trans rfl
    have hfz29_0 := blk_frozen BK540.out 0
    have hfz29_1 := blk_frozen BK540.out 1
    have hfz29_2 := blk_frozen BK540.out 2
    have hfz29_3 := blk_frozen BK540.out 3
    have hfz29_4 := blk_frozen BK540.out 4
    go_wp2_with (first | (go_at_call 64; (with_reducible refine (spec_l04Name.calls k a0_0 false _ A17.out).mono ?_); rintro e w' ⟨rfl, ⟨nd, rfl⟩⟩))
    go_meet
    case rel => exact ⟨_, (true), (by first | rfl | (simp; done) | (simp [*]; done)), H', ⟨by first | omega | exact Nat.le_refl _⟩, ⟨by (with_reducible repeat (first | refine blk_drewN ?_ _ | refine blk_drew ?_ | refine blk_alloc ?_ _)); exact BK540.out⟩, ⟨by repeat (first | (with_reducible first | exact HB.out | apply below_alloc | apply pw_below_drewN | apply below_drew1 | refine below_set ?_ GE540.out) | exact HB.out)⟩⟩
 case rest =>
  clear HC2
  try clear c1
  try clear c2
  try clear p2
  try clear c4
  try clear c4b0
  try clear c4b1
  try clear c6
  try clear c8
  try clear c9
  try clear c9b0
  try clear c9b1
  try clear c11
  try clear c18
  try clear c20
  try clear c22
  try clear c24
  try clear c28
  try clear hcz12_0
  try clear hcz12_1
  try clear hcz12_2
  try clear hcz12_3
  try clear hcz12_4
  try clear hcz13_0
  try clear hcz13_1
  try clear hcz13_2
  try clear hcz13_3
  try clear hcz13_4
  try clear hcz14_0
  try clear hcz14_1
  try clear hcz14_2
  try clear hcz14_3
  try clear hcz14_4
  try clear hcz15_0
  try clear hcz15_1
  try clear hcz15_2
  try clear hcz15_3
  try clear hcz15_4
  try clear hcz16_0
  try clear hcz16_1
  try clear hcz16_2
  try clear hcz16_3
  try clear hcz16_4
  try clear hcz25_0
  try clear hcz25_1
  try clear hcz25_2
  try clear hcz25_3
  try clear hcz25_4
  try clear hcz26_0
  try clear hcz26_1
  try clear hcz26_2
  try clear hcz26_3
  try clear hcz26_4
  try clear hcz27_0
  try clear hcz27_1
  try clear hcz27_2
  try clear hcz27_3
  try clear hcz27_4
  try clear hcz28_0
  try clear hcz28_1
  try clear hcz28_2
  try clear hcz28_3
  try clear hcz28_4
  try clear hcz29_0
  try clear hcz29_1
  try clear hcz29_2
  try clear hcz29_3
  try clear hcz29_4
  try clear hfz12_0
  try clear hfz12_1
  try clear hfz12_2
  try clear hfz12_3
  try clear hfz12_4
  try clear hfz13_0
  try clear hfz13_1
  try clear hfz13_2
  try clear hfz13_3
  try clear hfz13_4
  try clear hfz14_0
  try clear hfz14_1
  try clear hfz14_2
  try clear hfz14_3
  try clear hfz14_4
  try clear hfz15_0
  try clear hfz15_1
  try clear hfz15_2
  try clear hfz15_3
  try clear hfz15_4
  try clear hfz16_0
  try clear hfz16_1
  try clear hfz16_2
  try clear hfz16_3
  try clear hfz16_4
  try clear hfz25_0
  try clear hfz25_1
  try clear hfz25_2
  try clear hfz25_3
  try clear hfz25_4
  try clear hfz26_0
  try clear hfz26_1
  try clear hfz26_2
  try clear hfz26_3
  try clear hfz26_4
  try clear hfz27_0
  try clear hfz27_1
  try clear hfz27_2
  try clear hfz27_3
  try clear hfz27_4
  try clear hfz28_0
  try clear hfz28_1
  try clear hfz28_2
  try clear hfz28_3
  try clear hfz28_4
  try clear hfz29_0
  try clear hfz29_1
  try clear hfz29_2
  try clear hfz29_3
  try clear hfz29_4
  obtain ⟨kq, x47_1, rfl, HA, HJ1, BK540, HB⟩ := hcut
  cases kq with
  | zero => exact absurd HA.out (by simp [spec_BackupOK.j0])
  | succ kj1 =>
   have H := HA.out
   clear HA
   simp only [spec_BackupOK.j0] at H
   by_cases c30 : x47_1 = true
   ·subst c30
    have H1 : (some false) = some r := by rw [if_pos rfl] at H; exact H
    clear H
    have H := H1
    clear H1
    obtain rfl := Option.some.inj H
    go_wp2
    go_ret
    exact ⟨by first | rfl | (simp [errW_none, errW_some] <;> rfl) | (simp [*, errW_none, errW_some] <;> rfl), by repeat (first | (with_reducible first | exact HB.out | apply below_alloc | apply pw_below_drewN | apply below_drew1 | refine below_set ?_ GE540.out) | exact HB.out)⟩
   ·replace c30 := Bool.eq_false_iff.mpr c30
    subst c30
    have H1 : (spec_BackupOK.l0 kj1 0 a0_0 a0_1 a0_2 l0_3 a0_4) = some r := by rw [if_neg (show ¬ (false = true) by decide)] at H; exact H
    clear H
    have H := H1
    clear H1
    have H' := Aside0.mk H
    clear H
    go_wp2
    go_loopg [3] kj1 (fun kq v3 w' => ∃ (x3_2 : Int), v3 = .int .i64 x3_2 ∧ Aside0 (spec_BackupOK.l0 kq x3_2 a0_0 a0_1 a0_2 l0_3 a0_4 = some r) ∧ Aside0 (kq ≤ kj1) ∧ Aside0 (w'.heap[gb540]? = some (.cells #[.string a0_0, .string a0_1, .int .i64 a0_2, (.slice A0_3 l0_3.length c0_3), .int .i64 a0_4] 48 (0, 0))) ∧ Aside0 (Below w.heap.size w w'))
    case atStart => exact ⟨(0), (by first | rfl | (simp; done) | (simp [*]; done)), H', ⟨Nat.le_refl _⟩, ⟨by (with_reducible repeat (first | refine blk_drewN ?_ _ | refine blk_drew ?_ | refine blk_alloc ?_ _)); exact BK540.out⟩, ⟨by repeat (first | (with_reducible first | exact HB.out | apply below_alloc | apply pw_below_drewN | apply below_drew1 | refine below_set ?_ GE540.out) | exact HB.out)⟩⟩
    case round =>
     clear H'
     try clear c1
     try clear c2
     try clear p2
     try clear c3
     try clear c4
     try clear c4b0
     try clear c4b1
     try clear c6
     try clear c8
     try clear c9
     try clear c9b0
     try clear c9b1
     try clear c11
     try clear c18
     try clear c20
     try clear c22
     try clear c24
     try clear c28
     try clear c30
     try clear hcz12_0
     try clear hcz12_1
     try clear hcz12_2
     try clear hcz12_3
     try clear hcz12_4
     try clear hcz13_0
     try clear hcz13_1
     try clear hcz13_2
     try clear hcz13_3
     try clear hcz13_4
     try clear hcz14_0
     try clear hcz14_1
     try clear hcz14_2
     try clear hcz14_3
     try clear hcz14_4
     try clear hcz15_0
     try clear hcz15_1
     try clear hcz15_2
     try clear hcz15_3
     try clear hcz15_4
     try clear hcz16_0
     try clear hcz16_1
     try clear hcz16_2
     try clear hcz16_3
     try clear hcz16_4
     try clear hcz25_0
     try clear hcz25_1
     try clear hcz25_2
     try clear hcz25_3
     try clear hcz25_4
     try clear hcz26_0
     try clear hcz26_1
     try clear hcz26_2
     try clear hcz26_3
     try clear hcz26_4
     try clear hcz27_0
     try clear hcz27_1
     try clear hcz27_2
     try clear hcz27_3
     try clear hcz27_4
     try clear hcz28_0
     try clear hcz28_1
     try clear hcz28_2
     try clear hcz28_3
     try clear hcz28_4
     try clear hcz29_0
     try clear hcz29_1
     try clear hcz29_2
     try clear hcz29_3
     try clear hcz29_4
     try clear hfz12_0
     try clear hfz12_1
     try clear hfz12_2
     try clear hfz12_3
     try clear hfz12_4
     try clear hfz13_0
     try clear hfz13_1
     try clear hfz13_2
     try clear hfz13_3
     try clear hfz13_4
     try clear hfz14_0
     try clear hfz14_1
     try clear hfz14_2
     try clear hfz14_3
     try clear hfz14_4
     try clear hfz15_0
     try clear hfz15_1
     try clear hfz15_2
     try clear hfz15_3
     try clear hfz15_4
     try clear hfz16_0
     try clear hfz16_1
     try clear hfz16_2
     try clear hfz16_3
     try clear hfz16_4
     try clear hfz25_0
     try clear hfz25_1
     try clear hfz25_2
     try clear hfz25_3
     try clear hfz25_4
     try clear hfz26_0
     try clear hfz26_1
     try clear hfz26_2
     try clear hfz26_3
     try clear hfz26_4
     try clear hfz27_0
     try clear hfz27_1
     try clear hfz27_2
     try clear hfz27_3
     try clear hfz27_4
     try clear hfz28_0
     try clear hfz28_1
     try clear hfz28_2
     try clear hfz28_3
     try clear hfz28_4
     try clear hfz29_0
     try clear hfz29_1
     try clear hfz29_2
     try clear hfz29_3
     try clear hfz29_4
     try clear p2
     obtain ⟨x3_2, rfl, HA, HK2, BK540, HB⟩ := hrel
     cases gk with
     | zero => exact absurd HA.out (by simp [spec_BackupOK.l0])
     | succ k2 =>
      have H := HA.out
      clear HA
      simp only [spec_BackupOK.l0] at H
      by_cases c31 : x3_2 < (l0_3.length : Int)
      ·rw [if_pos c31] at H
       have c31b0 : decide (x3_2 < (l0_3.length : Int)) = true := decide_eq_true c31
       clear c31
       by_cases c32 : 0 ≤ x3_2
       ·rw [if_pos c32] at H
        have c32b0 : decide (0 ≤ x3_2) = true := decide_eq_true c32
        clear c32
        replace H := Option.bind_eq_some_iff.mp H
        obtain ⟨t550, A330, H⟩ := H
        replace H : (if t550 = true then (if (((rd_T82 l0_3 x3_2).f1).size : Int) > 90 then (some false) else (if (((rd_T82 l0_3 x3_2).f2).size : Int) > 90 then (some false) else (if ((rd_T82 l0_3 x3_2).f3 = true) then (if ((rd_T82 l0_3 x3_2).f4 = true) then (if x3_2 > 0 then (if 0 ≤ (wrap64 (x3_2 - 1)) then (if (wrap64 (x3_2 - 1)) < (l0_3.length : Int) then (if ((Op.bytesLess (((rd_T82 l0_3 (wrap64 (x3_2 - 1))).f0).toList) (((rd_T82 l0_3 x3_2).f0).toList)) = true) then (spec_BackupOK.l0 k2 (wrap64 (x3_2 + 1)) a0_0 a0_1 a0_2 l0_3 a0_4) else (some false)) else (none)) else (none)) else (spec_BackupOK.l0 k2 (wrap64 (x3_2 + 1)) a0_0 a0_1 a0_2 l0_3 a0_4)) else (if ((rd_T82 l0_3 x3_2).f2).toList = ([] : List UInt8) then (if x3_2 > 0 then (if 0 ≤ (wrap64 (x3_2 - 1)) then (if (wrap64 (x3_2 - 1)) < (l0_3.length : Int) then (if ((Op.bytesLess (((rd_T82 l0_3 (wrap64 (x3_2 - 1))).f0).toList) (((rd_T82 l0_3 x3_2).f0).toList)) = true) then (spec_BackupOK.l0 k2 (wrap64 (x3_2 + 1)) a0_0 a0_1 a0_2 l0_3 a0_4) else (some false)) else (none)) else (none)) else (spec_BackupOK.l0 k2 (wrap64 (x3_2 + 1)) a0_0 a0_1 a0_2 l0_3 a0_4)) else (some false))) else (if ((rd_T82 l0_3 x3_2).f4 = true) then (if ((rd_T82 l0_3 x3_2).f1).toList = ([] : List UInt8) then (if x3_2 > 0 then (if 0 ≤ (wrap64 (x3_2 - 1)) then (if (wrap64 (x3_2 - 1)) < (l0_3.length : Int) then (if ((Op.bytesLess (((rd_T82 l0_3 (wrap64 (x3_2 - 1))).f0).toList) (((rd_T82 l0_3 x3_2).f0).toList)) = true) then (spec_BackupOK.l0 k2 (wrap64 (x3_2 + 1)) a0_0 a0_1 a0_2 l0_3 a0_4) else (some false)) else (none)) else (none)) else (spec_BackupOK.l0 k2 (wrap64 (x3_2 + 1)) a0_0 a0_1 a0_2 l0_3 a0_4)) else (some false)) else (some false))))) else (some false)) = some r := H
        have A33 := Aside0.mk A330
        clear A330
        by_cases c34 : t550 = true
        ·subst c34
         have H1 : (if (((rd_T82 l0_3 x3_2).f1).size : Int) > 90 then (some false) else (if (((rd_T82 l0_3 x3_2).f2).size : Int) > 90 then (some false) else (if ((rd_T82 l0_3 x3_2).f3 = true) then (if ((rd_T82 l0_3 x3_2).f4 = true) then (if x3_2 > 0 then (if 0 ≤ (wrap64 (x3_2 - 1)) then (if (wrap64 (x3_2 - 1)) < (l0_3.length : Int) then (if ((Op.bytesLess (((rd_T82 l0_3 (wrap64 (x3_2 - 1))).f0).toList) (((rd_T82 l0_3 x3_2).f0).toList)) = true) then (spec_BackupOK.l0 k2 (wrap64 (x3_2 + 1)) a0_0 a0_1 a0_2 l0_3 a0_4) else (some false)) else (none)) else (none)) else (spec_BackupOK.l0 k2 (wrap64 (x3_2 + 1)) a0_0 a0_1 a0_2 l0_3 a0_4)) else (if ((rd_T82 l0_3 x3_2).f2).toList = ([] : List UInt8) then (if x3_2 > 0 then (if 0 ≤ (wrap64 (x3_2 - 1)) then (if (wrap64 (x3_2 - 1)) < (l0_3.length : Int) then (if ((Op.bytesLess (((rd_T82 l0_3 (wrap64 (x3_2 - 1))).f0).toList) (((rd_T82 l0_3 x3_2).f0).toList)) = true) then (spec_BackupOK.l0 k2 (wrap64 (x3_2 + 1)) a0_0 a0_1 a0_2 l0_3 a0_4) else (some false)) else (none)) else (none)) else (spec_BackupOK.l0 k2 (wrap64 (x3_2 + 1)) a0_0 a0_1 a0_2 l0_3 a0_4)) else (some false))) else (if ((rd_T82 l0_3 x3_2).f4 = true) then (if ((rd_T82 l0_3 x3_2).f1).toList = ([] : List UInt8) then (if x3_2 > 0 then (if 0 ≤ (wrap64 (x3_2 - 1)) then (if (wrap64 (x3_2 - 1)) < (l0_3.length : Int) then (if ((Op.bytesLess (((rd_T82 l0_3 (wrap64 (x3_2 - 1))).f0).toList) (((rd_T82 l0_3 x3_2).f0).toList)) = true) then (spec_BackupOK.l0 k2 (wrap64 (x3_2 + 1)) a0_0 a0_1 a0_2 l0_3 a0_4) else (some false)) else (none)) else (none)) else (spec_BackupOK.l0 k2 (wrap64 (x3_2 + 1)) a0_0 a0_1 a0_2 l0_3 a0_4)) else (some false)) else (some false))))) = some r := by rw [if_pos rfl] at H; exact H
         clear H
         have H := H1
         clear H1
         by_cases c35 : (((rd_T82 l0_3 x3_2).f1).size : Int) > 90
         ·rw [if_pos c35] at H
          have c35b0 : decide (90 < (((rd_T82 l0_3 x3_2).f1).size : Int)) = true := decide_eq_true c35
          have c35b1 : decide (90 < ((rd_T82 l0_3 x3_2).f1).size) = true := decide_eq_true (by omega)
          clear c35
          obtain rfl := Option.some.inj H
          have hcz36_0 : wr.cell? ⟨gb540, 0, none⟩ = some (.string a0_0) := (blk_cell BK540.out 0).trans rfl
          have hcz36_1 : wr.cell? ⟨gb540, 1, none⟩ = some (.string a0_1) := (blk_cell BK540.out 1).trans rfl
          have hcz36_2 : wr.cell? ⟨gb540, 2, none⟩ = some (.int .i64 a0_2) := (blk_cell BK540.out 2).trans rfl
          have hcz36_3 : wr.cell? ⟨gb540, 3, none⟩ = some (.slice A0_3 l0_3.length c0_3) := (blk_cell BK540.out 3).trans rfl
          have hcz36_4 : wr.cell? ⟨gb540, 4, none⟩ = some (.int .i64 a0_4) := (blk_cell BK540.out 4).trans rfl
          have hfz36_0 := blk_frozen BK540.out 0
          have hfz36_1 := blk_frozen BK540.out 1
          have hfz36_2 := blk_frozen BK540.out 2
          have hfz36_3 := blk_frozen BK540.out 3
          have hfz36_4 := blk_frozen BK540.out 4
          have p548 : 0 ≤ (x3_2 : Int) := of_decide_eq_true (by first | (with_reducible assumption) | assumption)
          have q548 : x3_2 < (l0_3.length : Int) := of_decide_eq_true (by first | (with_reducible assumption) | assumption)
          obtain ⟨ad548, e548, hx548_0, hx548_1, hx548_2, hx548_3, hx548_4⟩ := at_T82 HR0_3.out x3_2 p548 q548
          cases e548
          replace hx548_0 := (HB.out.cell (World.block_lt_of_cell? w _ hx548_0)).trans hx548_0
          replace hx548_1 := (HB.out.cell (World.block_lt_of_cell? w _ hx548_1)).trans hx548_1
          replace hx548_2 := (HB.out.cell (World.block_lt_of_cell? w _ hx548_2)).trans hx548_2
          replace hx548_3 := (HB.out.cell (World.block_lt_of_cell? w _ hx548_3)).trans hx548_3
          replace hx548_4 := (HB.out.cell (World.block_lt_of_cell? w _ hx548_4)).trans hx548_4
          replace p548 := eq_true p548
          replace q548 := eq_true q548
          try go_wp2_with (first | ((with_reducible refine gate_dst (N := 4) rfl ?_); (try (refine gate_guard (by rfl) ?_; dsimp only)); refine box_event ?hg (N := 4) ?hd (cs := #[.string (⟨#[]⟩ : ByteArray), .string (⟨#[]⟩ : ByteArray), .string (⟨#[]⟩ : ByteArray), .bool false, .bool false]) (t := 82) ?hr ?_; (case hd => rfl); (case hg => rfl); (case hr => first | (go_simp; done) | (go_simp; rfl)); intro gb549 hg w37 hbox hb; have n0_ := Aside0.mk (blk_below (g := gb540) (o := .cells #[.string a0_0, .string a0_1, .int .i64 a0_2, .slice (some ad548) l0_3.length c0_3, .int .i64 a0_4] 48 (0, 0)) (by (with_reducible repeat (first | refine blk_drewN ?_ _ | refine blk_drew ?_ | refine blk_alloc ?_ _)); exact BK540.out) hb); have n1_ := Aside0.mk (below_step (by repeat (first | (with_reducible first | exact HB.out | apply below_alloc | apply pw_below_drewN | apply below_drew1 | refine below_set ?_ GE540.out) | exact HB.out)) hb); have n2_ := Aside0.mk (hbox); have n3_ := Aside0.mk ((by rw [hg]; exact (below_size (by repeat (first | (with_reducible first | exact HB.out | apply below_alloc | apply pw_below_drewN | apply below_drew1 | refine below_set ?_ GE540.out) | exact HB.out))) : w.heap.size ≤ gb549)); have n4_ := Aside0.mk ((by rw [hg]; exact (below_size (by repeat (first | (with_reducible first | exact HB.out | apply below_alloc | apply pw_below_drewN | apply below_drew1 | refine below_set ?_ GE540.out) | exact HB.out))) : w.heap.size ≤ gb549)); have n5_ := Aside0.mk ((by rw [hg]; exact Nat.ne_of_lt (blk_lt (g := gb540) (o := .cells #[.string a0_0, .string a0_1, .int .i64 a0_2, .slice (some ad548) l0_3.length c0_3, .int .i64 a0_4] 48 (0, 0)) (by (with_reducible repeat (first | refine blk_drewN ?_ _ | refine blk_drew ?_ | refine blk_alloc ?_ _)); exact BK540.out)) : gb540 ≠ gb549)); have n6_ := Aside0.mk ((by rw [hg]; exact Nat.ne_of_gt (blk_lt (g := gb540) (o := .cells #[.string a0_0, .string a0_1, .int .i64 a0_2, .slice (some ad548) l0_3.length c0_3, .int .i64 a0_4] 48 (0, 0)) (by (with_reducible repeat (first | refine blk_drewN ?_ _ | refine blk_drew ?_ | refine blk_alloc ?_ _)); exact BK540.out)) : gb549 ≠ gb540)); clear BK540; clear HB; have BK540 := n0_; have HB := n1_; have BK549 := n2_; have GW549 := n3_; have GE549 := n4_; have NB540_549 := n5_; have NB549_540 := n6_; clear n0_ n1_ n2_ n3_ n4_ n5_ n6_; clear hb hbox hg; have hnb38 := NB549_540.out; have hnc38 := NB540_549.out; have hcz39_0 : w37.cell? ⟨gb549, 0, none⟩ = some (.string (⟨#[]⟩ : ByteArray)) := (blk_cell BK549.out 0).trans rfl; have hcz39_1 : w37.cell? ⟨gb549, 1, none⟩ = some (.string (⟨#[]⟩ : ByteArray)) := (blk_cell BK549.out 1).trans rfl; have hcz39_2 : w37.cell? ⟨gb549, 2, none⟩ = some (.string (⟨#[]⟩ : ByteArray)) := (blk_cell BK549.out 2).trans rfl; have hcz39_3 : w37.cell? ⟨gb549, 3, none⟩ = some (.bool false) := (blk_cell BK549.out 3).trans rfl; have hcz39_4 : w37.cell? ⟨gb549, 4, none⟩ = some (.bool false) := (blk_cell BK549.out 4).trans rfl; have hfz39_0 := blk_frozen BK549.out 0; have hfz39_1 := blk_frozen BK549.out 1; have hfz39_2 := blk_frozen BK549.out 2; have hfz39_3 := blk_frozen BK549.out 3; have hfz39_4 := blk_frozen BK549.out 4))
          have n0_ : Aside0 ((((((w37.setCell ⟨gb549, 0, none⟩ (.string ((rd_T82 l0_3 x3_2).f0))).setCell ⟨gb549, 1, none⟩ (.string ((rd_T82 l0_3 x3_2).f1))).setCell ⟨gb549, 2, none⟩ (.string ((rd_T82 l0_3 x3_2).f2))).setCell ⟨gb549, 3, none⟩ (.bool ((rd_T82 l0_3 x3_2).f3))).setCell ⟨gb549, 4, none⟩ (.bool ((rd_T82 l0_3 x3_2).f4))).heap[gb540]? = some (.cells #[.string a0_0, .string a0_1, .int .i64 a0_2, .slice (some ad548) l0_3.length c0_3, .int .i64 a0_4] 48 (0, 0))) := ⟨by (with_reducible repeat (first | refine blk_drewN ?_ _ | refine blk_drew ?_ | refine blk_alloc ?_ _)); refine blk_far ?_ NB540_549.out _; (with_reducible repeat (first | refine blk_drewN ?_ _ | refine blk_drew ?_ | refine blk_alloc ?_ _)); refine blk_far ?_ NB540_549.out _; (with_reducible repeat (first | refine blk_drewN ?_ _ | refine blk_drew ?_ | refine blk_alloc ?_ _)); refine blk_far ?_ NB540_549.out _; (with_reducible repeat (first | refine blk_drewN ?_ _ | refine blk_drew ?_ | refine blk_alloc ?_ _)); refine blk_far ?_ NB540_549.out _; (with_reducible repeat (first | refine blk_drewN ?_ _ | refine blk_drew ?_ | refine blk_alloc ?_ _)); refine blk_far ?_ NB540_549.out _; (with_reducible repeat (first | refine blk_drewN ?_ _ | refine blk_drew ?_ | refine blk_alloc ?_ _)); exact BK540.out⟩
          have n1_ : Aside0 ((((((w37.setCell ⟨gb549, 0, none⟩ (.string ((rd_T82 l0_3 x3_2).f0))).setCell ⟨gb549, 1, none⟩ (.string ((rd_T82 l0_3 x3_2).f1))).setCell ⟨gb549, 2, none⟩ (.string ((rd_T82 l0_3 x3_2).f2))).setCell ⟨gb549, 3, none⟩ (.bool ((rd_T82 l0_3 x3_2).f3))).setCell ⟨gb549, 4, none⟩ (.bool ((rd_T82 l0_3 x3_2).f4))).heap[gb549]? = some (.cells #[.string ((rd_T82 l0_3 x3_2).f0), .string ((rd_T82 l0_3 x3_2).f1), .string ((rd_T82 l0_3 x3_2).f2), .bool ((rd_T82 l0_3 x3_2).f3), .bool ((rd_T82 l0_3 x3_2).f4)] 82 (0, 0))) := ⟨by (with_reducible repeat (first | refine blk_drewN ?_ _ | refine blk_drew ?_ | refine blk_alloc ?_ _)); refine blk_put (cs := #[.string ((rd_T82 l0_3 x3_2).f0), .string ((rd_T82 l0_3 x3_2).f1), .string ((rd_T82 l0_3 x3_2).f2), .bool ((rd_T82 l0_3 x3_2).f3), .bool false]) ?_ 4 _ rfl; (with_reducible repeat (first | refine blk_drewN ?_ _ | refine blk_drew ?_ | refine blk_alloc ?_ _)); refine blk_put (cs := #[.string ((rd_T82 l0_3 x3_2).f0), .string ((rd_T82 l0_3 x3_2).f1), .string ((rd_T82 l0_3 x3_2).f2), .bool false, .bool false]) ?_ 3 _ rfl; (with_reducible repeat (first | refine blk_drewN ?_ _ | refine blk_drew ?_ | refine blk_alloc ?_ _)); refine blk_put (cs := #[.string ((rd_T82 l0_3 x3_2).f0), .string ((rd_T82 l0_3 x3_2).f1), .string (⟨#[]⟩ : ByteArray), .bool false, .bool false]) ?_ 2 _ rfl; (with_reducible repeat (first | refine blk_drewN ?_ _ | refine blk_drew ?_ | refine blk_alloc ?_ _)); refine blk_put (cs := #[.string ((rd_T82 l0_3 x3_2).f0), .string (⟨#[]⟩ : ByteArray), .string (⟨#[]⟩ : ByteArray), .bool false, .bool false]) ?_ 1 _ rfl; (with_reducible repeat (first | refine blk_drewN ?_ _ | refine blk_drew ?_ | refine blk_alloc ?_ _)); refine blk_put (cs := #[.string (⟨#[]⟩ : ByteArray), .string (⟨#[]⟩ : ByteArray), .string (⟨#[]⟩ : ByteArray), .bool false, .bool false]) ?_ 0 _ rfl; (with_reducible repeat (first | refine blk_drewN ?_ _ | refine blk_drew ?_ | refine blk_alloc ?_ _)); exact BK549.out⟩
          have n2_ : Aside0 (Below w.heap.size w (((((w37.setCell ⟨gb549, 0, none⟩ (.string ((rd_T82 l0_3 x3_2).f0))).setCell ⟨gb549, 1, none⟩ (.string ((rd_T82 l0_3 x3_2).f1))).setCell ⟨gb549, 2, none⟩ (.string ((rd_T82 l0_3 x3_2).f2))).setCell ⟨gb549, 3, none⟩ (.bool ((rd_T82 l0_3 x3_2).f3))).setCell ⟨gb549, 4, none⟩ (.bool ((rd_T82 l0_3 x3_2).f4)))) := ⟨by repeat (first | (with_reducible first | exact HB.out | apply below_alloc | apply pw_below_drewN | apply below_drew1 | refine below_set ?_ GE540.out | refine below_set ?_ GE549.out) | exact HB.out)⟩
          (try clear BK540)
          (try clear BK549)
          (try clear HB)
          generalize (((((w37.setCell ⟨gb549, 0, none⟩ (.string ((rd_T82 l0_3 x3_2).f0))).setCell ⟨gb549, 1, none⟩ (.string ((rd_T82 l0_3 x3_2).f1))).setCell ⟨gb549, 2, none⟩ (.string ((rd_T82 l0_3 x3_2).f2))).setCell ⟨gb549, 3, none⟩ (.bool ((rd_T82 l0_3 x3_2).f3))).setCell ⟨gb549, 4, none⟩ (.bool ((rd_T82 l0_3 x3_2).f4))) = w40 at n0_ n1_ n2_ ⊢
          have BK540 := n0_
          have BK549 := n1_
          have HB := n2_
          clear n0_ n1_ n2_
          have n0_ := Aside0.mk (blk_drew BK540.out)
          have n1_ := Aside0.mk (blk_drew BK549.out)
          have n2_ := Aside0.mk (below_drew1 HB.out)
          clear BK540
          clear BK549
          clear HB
          have BK540 := n0_
          have BK549 := n1_
          have HB := n2_
          clear n0_ n1_ n2_
          refine wp_region_later (by kernel_rfl) (by kernel_rfl) ?_
          have hL0_ := Aside0.mk (show w40.drew.cell? ⟨gb549, 0, none⟩ = some (.string ((rd_T82 l0_3 x3_2).f0)) from (blk_cell BK549.out 0).trans rfl)
          have hL1_ := Aside0.mk (show w40.drew.cell? ⟨gb549, 1, none⟩ = some (.string ((rd_T82 l0_3 x3_2).f1)) from (blk_cell BK549.out 1).trans rfl)
          have hL2_ := Aside0.mk (show w40.drew.cell? ⟨gb549, 2, none⟩ = some (.string ((rd_T82 l0_3 x3_2).f2)) from (blk_cell BK549.out 2).trans rfl)
          have hL3_ := Aside0.mk (show w40.drew.cell? ⟨gb549, 3, none⟩ = some (.bool ((rd_T82 l0_3 x3_2).f3)) from (blk_cell BK549.out 3).trans rfl)
          have hL4_ := Aside0.mk (show w40.drew.cell? ⟨gb549, 4, none⟩ = some (.bool ((rd_T82 l0_3 x3_2).f4)) from (blk_cell BK549.out 4).trans rfl)
          generalize w40.drew = w41b at BK540 BK549 HB hL0_ hL1_ hL2_ hL3_ hL4_ ⊢
          have hL0 := fun (p_ : Later w41b) => Later.cell p_ hL0_.out
          have hL1 := fun (p_ : Later w41b) => Later.cell p_ hL1_.out
          have hL2 := fun (p_ : Later w41b) => Later.cell p_ hL2_.out
          have hL3 := fun (p_ : Later w41b) => Later.cell p_ hL3_.out
          have hL4 := fun (p_ : Later w41b) => Later.cell p_ hL4_.out
          clear hL0_ hL1_ hL2_ hL3_ hL4_
          repeat (first | go_big_quiet_step ((first | (go_at_call 65; exact Calls.later_drawn (spec_l01In.calls (((rd_T82 l0_3 x3_2).f0).size : Int) 1 30 true _ A33.out)))) | quiet_step ((first | (go_at_call 65; exact Calls.later_drawn (spec_l01In.calls (((rd_T82 l0_3 x3_2).f0).size : Int) 1 30 true _ A33.out)))))
          refine wpQuiet_nil ?_
          rintro w41 ⟨⟨wq_, hbL⟩, hq_⟩
          have hq2_ : w41 = wq_ := hq_
          clear hq_
          subst hq2_
          clear hL0 hL1 hL2 hL3 hL4
          have nBK540_ := Aside0.mk ((hbL.block _ (blk_lt BK540.out)).trans BK540.out)
          have nBK549_ := Aside0.mk ((hbL.block _ (blk_lt BK549.out)).trans BK549.out)
          have nHB_ := Aside0.mk (below_step HB.out hbL)
          clear BK540
          clear BK549
          clear HB
          have BK540 := nBK540_
          have BK549 := nBK549_
          have HB := nHB_
          clear nBK540_
          clear nBK549_
          clear nHB_
          clear hbL
          try go_wp2
          go_ret
          exact ⟨by first | rfl | (simp [errW_none, errW_some] <;> rfl) | (simp [*, errW_none, errW_some] <;> rfl), by repeat (first | (with_reducible first | exact HB.out | apply below_alloc | apply pw_below_drewN | apply below_drew1 | refine below_set ?_ GE540.out | refine below_set ?_ GE549.out) | exact HB.out)⟩
         ·rw [if_neg c35] at H
          have c35b0 : decide (90 < (((rd_T82 l0_3 x3_2).f1).size : Int)) = false := decide_eq_false c35
          have c35b1 : decide (90 < ((rd_T82 l0_3 x3_2).f1).size) = false := decide_eq_false (by omega)
          clear c35
          by_cases c42 : (((rd_T82 l0_3 x3_2).f2).size : Int) > 90
          ·rw [if_pos c42] at H
           have c42b0 : decide (90 < (((rd_T82 l0_3 x3_2).f2).size : Int)) = true := decide_eq_true c42
           have c42b1 : decide (90 < ((rd_T82 l0_3 x3_2).f2).size) = true := decide_eq_true (by omega)
           clear c42
           obtain rfl := Option.some.inj H
           have hcz43_0 : wr.cell? ⟨gb540, 0, none⟩ = some (.string a0_0) := (blk_cell BK540.out 0).trans rfl
           have hcz43_1 : wr.cell? ⟨gb540, 1, none⟩ = some (.string a0_1) := (blk_cell BK540.out 1).trans rfl
           have hcz43_2 : wr.cell? ⟨gb540, 2, none⟩ = some (.int .i64 a0_2) := (blk_cell BK540.out 2).trans rfl
           have hcz43_3 : wr.cell? ⟨gb540, 3, none⟩ = some (.slice A0_3 l0_3.length c0_3) := (blk_cell BK540.out 3).trans rfl
           have hcz43_4 : wr.cell? ⟨gb540, 4, none⟩ = some (.int .i64 a0_4) := (blk_cell BK540.out 4).trans rfl
           have hfz43_0 := blk_frozen BK540.out 0
           have hfz43_1 := blk_frozen BK540.out 1
           have hfz43_2 := blk_frozen BK540.out 2
           have hfz43_3 := blk_frozen BK540.out 3
           have hfz43_4 := blk_frozen BK540.out 4
           have p548 : 0 ≤ (x3_2 : Int) := of_decide_eq_true (by first | (with_reducible assumption) | assumption)
           have q548 : x3_2 < (l0_3.length : Int) := of_decide_eq_true (by first | (with_reducible assumption) | assumption)
           obtain ⟨ad548, e548, hx548_0, hx548_1, hx548_2, hx548_3, hx548_4⟩ := at_T82 HR0_3.out x3_2 p548 q548
           cases e548
           replace hx548_0 := (HB.out.cell (World.block_lt_of_cell? w _ hx548_0)).trans hx548_0
           replace hx548_1 := (HB.out.cell (World.block_lt_of_cell? w _ hx548_1)).trans hx548_1
           replace hx548_2 := (HB.out.cell (World.block_lt_of_cell? w _ hx548_2)).trans hx548_2
           replace hx548_3 := (HB.out.cell (World.block_lt_of_cell? w _ hx548_3)).trans hx548_3
           replace hx548_4 := (HB.out.cell (World.block_lt_of_cell? w _ hx548_4)).trans hx548_4
           replace p548 := eq_true p548
           replace q548 := eq_true q548
           try go_wp2_with (first | ((with_reducible refine gate_dst (N := 4) rfl ?_); (try (refine gate_guard (by rfl) ?_; dsimp only)); refine box_event ?hg (N := 4) ?hd (cs := #[.string (⟨#[]⟩ : ByteArray), .string (⟨#[]⟩ : ByteArray), .string (⟨#[]⟩ : ByteArray), .bool false, .bool false]) (t := 82) ?hr ?_; (case hd => rfl); (case hg => rfl); (case hr => first | (go_simp; done) | (go_simp; rfl)); intro gb549 hg w44 hbox hb; have n0_ := Aside0.mk (blk_below (g := gb540) (o := .cells #[.string a0_0, .string a0_1, .int .i64 a0_2, .slice (some ad548) l0_3.length c0_3, .int .i64 a0_4] 48 (0, 0)) (by (with_reducible repeat (first | refine blk_drewN ?_ _ | refine blk_drew ?_ | refine blk_alloc ?_ _)); exact BK540.out) hb); have n1_ := Aside0.mk (below_step (by repeat (first | (with_reducible first | exact HB.out | apply below_alloc | apply pw_below_drewN | apply below_drew1 | refine below_set ?_ GE540.out) | exact HB.out)) hb); have n2_ := Aside0.mk (hbox); have n3_ := Aside0.mk ((by rw [hg]; exact (below_size (by repeat (first | (with_reducible first | exact HB.out | apply below_alloc | apply pw_below_drewN | apply below_drew1 | refine below_set ?_ GE540.out) | exact HB.out))) : w.heap.size ≤ gb549)); have n4_ := Aside0.mk ((by rw [hg]; exact (below_size (by repeat (first | (with_reducible first | exact HB.out | apply below_alloc | apply pw_below_drewN | apply below_drew1 | refine below_set ?_ GE540.out) | exact HB.out))) : w.heap.size ≤ gb549)); have n5_ := Aside0.mk ((by rw [hg]; exact Nat.ne_of_lt (blk_lt (g := gb540) (o := .cells #[.string a0_0, .string a0_1, .int .i64 a0_2, .slice (some ad548) l0_3.length c0_3, .int .i64 a0_4] 48 (0, 0)) (by (with_reducible repeat (first | refine blk_drewN ?_ _ | refine blk_drew ?_ | refine blk_alloc ?_ _)); exact BK540.out)) : gb540 ≠ gb549)); have n6_ := Aside0.mk ((by rw [hg]; exact Nat.ne_of_gt (blk_lt (g := gb540) (o := .cells #[.string a0_0, .string a0_1, .int .i64 a0_2, .slice (some ad548) l0_3.length c0_3, .int .i64 a0_4] 48 (0, 0)) (by (with_reducible repeat (first | refine blk_drewN ?_ _ | refine blk_drew ?_ | refine blk_alloc ?_ _)); exact BK540.out)) : gb549 ≠ gb540)); clear BK540; clear HB; have BK540 := n0_; have HB := n1_; have BK549 := n2_; have GW549 := n3_; have GE549 := n4_; have NB540_549 := n5_; have NB549_540 := n6_; clear n0_ n1_ n2_ n3_ n4_ n5_ n6_; clear hb hbox hg; have hnb45 := NB549_540.out; have hnc45 := NB540_549.out; have hcz46_0 : w44.cell? ⟨gb549, 0, none⟩ = some (.string (⟨#[]⟩ : ByteArray)) := (blk_cell BK549.out 0).trans rfl; have hcz46_1 : w44.cell? ⟨gb549, 1, none⟩ = some (.string (⟨#[]⟩ : ByteArray)) := (blk_cell BK549.out 1).trans rfl; have hcz46_2 : w44.cell? ⟨gb549, 2, none⟩ = some (.string (⟨#[]⟩ : ByteArray)) := (blk_cell BK549.out 2).trans rfl; have hcz46_3 : w44.cell? ⟨gb549, 3, none⟩ = some (.bool false) := (blk_cell BK549.out 3).trans rfl; have hcz46_4 : w44.cell? ⟨gb549, 4, none⟩ = some (.bool false) := (blk_cell BK549.out 4).trans rfl; have hfz46_0 := blk_frozen BK549.out 0; have hfz46_1 := blk_frozen BK549.out 1; have hfz46_2 := blk_frozen BK549.out 2; have hfz46_3 := blk_frozen BK549.out 3; have hfz46_4 := blk_frozen BK549.out 4))
           have n0_ : Aside0 ((((((w44.setCell ⟨gb549, 0, none⟩ (.string ((rd_T82 l0_3 x3_2).f0))).setCell ⟨gb549, 1, none⟩ (.string ((rd_T82 l0_3 x3_2).f1))).setCell ⟨gb549, 2, none⟩ (.string ((rd_T82 l0_3 x3_2).f2))).setCell ⟨gb549, 3, none⟩ (.bool ((rd_T82 l0_3 x3_2).f3))).setCell ⟨gb549, 4, none⟩ (.bool ((rd_T82 l0_3 x3_2).f4))).heap[gb540]? = some (.cells #[.string a0_0, .string a0_1, .int .i64 a0_2, .slice (some ad548) l0_3.length c0_3, .int .i64 a0_4] 48 (0, 0))) := ⟨by (with_reducible repeat (first | refine blk_drewN ?_ _ | refine blk_drew ?_ | refine blk_alloc ?_ _)); refine blk_far ?_ NB540_549.out _; (with_reducible repeat (first | refine blk_drewN ?_ _ | refine blk_drew ?_ | refine blk_alloc ?_ _)); refine blk_far ?_ NB540_549.out _; (with_reducible repeat (first | refine blk_drewN ?_ _ | refine blk_drew ?_ | refine blk_alloc ?_ _)); refine blk_far ?_ NB540_549.out _; (with_reducible repeat (first | refine blk_drewN ?_ _ | refine blk_drew ?_ | refine blk_alloc ?_ _)); refine blk_far ?_ NB540_549.out _; (with_reducible repeat (first | refine blk_drewN ?_ _ | refine blk_drew ?_ | refine blk_alloc ?_ _)); refine blk_far ?_ NB540_549.out _; (with_reducible repeat (first | refine blk_drewN ?_ _ | refine blk_drew ?_ | refine blk_alloc ?_ _)); exact BK540.out⟩
           have n1_ : Aside0 ((((((w44.setCell ⟨gb549, 0, none⟩ (.string ((rd_T82 l0_3 x3_2).f0))).setCell ⟨gb549, 1, none⟩ (.string ((rd_T82 l0_3 x3_2).f1))).setCell ⟨gb549, 2, none⟩ (.string ((rd_T82 l0_3 x3_2).f2))).setCell ⟨gb549, 3, none⟩ (.bool ((rd_T82 l0_3 x3_2).f3))).setCell ⟨gb549, 4, none⟩ (.bool ((rd_T82 l0_3 x3_2).f4))).heap[gb549]? = some (.cells #[.string ((rd_T82 l0_3 x3_2).f0), .string ((rd_T82 l0_3 x3_2).f1), .string ((rd_T82 l0_3 x3_2).f2), .bool ((rd_T82 l0_3 x3_2).f3), .bool ((rd_T82 l0_3 x3_2).f4)] 82 (0, 0))) := ⟨by (with_reducible repeat (first | refine blk_drewN ?_ _ | refine blk_drew ?_ | refine blk_alloc ?_ _)); refine blk_put (cs := #[.string ((rd_T82 l0_3 x3_2).f0), .string ((rd_T82 l0_3 x3_2).f1), .string ((rd_T82 l0_3 x3_2).f2), .bool ((rd_T82 l0_3 x3_2).f3), .bool false]) ?_ 4 _ rfl; (with_reducible repeat (first | refine blk_drewN ?_ _ | refine blk_drew ?_ | refine blk_alloc ?_ _)); refine blk_put (cs := #[.string ((rd_T82 l0_3 x3_2).f0), .string ((rd_T82 l0_3 x3_2).f1), .string ((rd_T82 l0_3 x3_2).f2), .bool false, .bool false]) ?_ 3 _ rfl; (with_reducible repeat (first | refine blk_drewN ?_ _ | refine blk_drew ?_ | refine blk_alloc ?_ _)); refine blk_put (cs := #[.string ((rd_T82 l0_3 x3_2).f0), .string ((rd_T82 l0_3 x3_2).f1), .string (⟨#[]⟩ : ByteArray), .bool false, .bool false]) ?_ 2 _ rfl; (with_reducible repeat (first | refine blk_drewN ?_ _ | refine blk_drew ?_ | refine blk_alloc ?_ _)); refine blk_put (cs := #[.string ((rd_T82 l0_3 x3_2).f0), .string (⟨#[]⟩ : ByteArray), .string (⟨#[]⟩ : ByteArray), .bool false, .bool false]) ?_ 1 _ rfl; (with_reducible repeat (first | refine blk_drewN ?_ _ | refine blk_drew ?_ | refine blk_alloc ?_ _)); refine blk_put (cs := #[.string (⟨#[]⟩ : ByteArray), .string (⟨#[]⟩ : ByteArray), .string (⟨#[]⟩ : ByteArray), .bool false, .bool false]) ?_ 0 _ rfl; (with_reducible repeat (first | refine blk_drewN ?_ _ | refine blk_drew ?_ | refine blk_alloc ?_ _)); exact BK549.out⟩
           have n2_ : Aside0 (Below w.heap.size w (((((w44.setCell ⟨gb549, 0, none⟩ (.string ((rd_T82 l0_3 x3_2).f0))).setCell ⟨gb549, 1, none⟩ (.string ((rd_T82 l0_3 x3_2).f1))).setCell ⟨gb549, 2, none⟩ (.string ((rd_T82 l0_3 x3_2).f2))).setCell ⟨gb549, 3, none⟩ (.bool ((rd_T82 l0_3 x3_2).f3))).setCell ⟨gb549, 4, none⟩ (.bool ((rd_T82 l0_3 x3_2).f4)))) := ⟨by repeat (first | (with_reducible first | exact HB.out | apply below_alloc | apply pw_below_drewN | apply below_drew1 | refine below_set ?_ GE540.out | refine below_set ?_ GE549.out) | exact HB.out)⟩
           (try clear BK540)
           (try clear BK549)
           (try clear HB)
           generalize (((((w44.setCell ⟨gb549, 0, none⟩ (.string ((rd_T82 l0_3 x3_2).f0))).setCell ⟨gb549, 1, none⟩ (.string ((rd_T82 l0_3 x3_2).f1))).setCell ⟨gb549, 2, none⟩ (.string ((rd_T82 l0_3 x3_2).f2))).setCell ⟨gb549, 3, none⟩ (.bool ((rd_T82 l0_3 x3_2).f3))).setCell ⟨gb549, 4, none⟩ (.bool ((rd_T82 l0_3 x3_2).f4))) = w47 at n0_ n1_ n2_ ⊢
           have BK540 := n0_
           have BK549 := n1_
           have HB := n2_
           clear n0_ n1_ n2_
           have n0_ := Aside0.mk (blk_drew BK540.out)
           have n1_ := Aside0.mk (blk_drew BK549.out)
           have n2_ := Aside0.mk (below_drew1 HB.out)
           clear BK540
           clear BK549
           clear HB
           have BK540 := n0_
           have BK549 := n1_
           have HB := n2_
           clear n0_ n1_ n2_
           refine wp_region_later (by kernel_rfl) (by kernel_rfl) ?_
           have hL0_ := Aside0.mk (show w47.drew.cell? ⟨gb549, 0, none⟩ = some (.string ((rd_T82 l0_3 x3_2).f0)) from (blk_cell BK549.out 0).trans rfl)
           have hL1_ := Aside0.mk (show w47.drew.cell? ⟨gb549, 1, none⟩ = some (.string ((rd_T82 l0_3 x3_2).f1)) from (blk_cell BK549.out 1).trans rfl)
           have hL2_ := Aside0.mk (show w47.drew.cell? ⟨gb549, 2, none⟩ = some (.string ((rd_T82 l0_3 x3_2).f2)) from (blk_cell BK549.out 2).trans rfl)
           have hL3_ := Aside0.mk (show w47.drew.cell? ⟨gb549, 3, none⟩ = some (.bool ((rd_T82 l0_3 x3_2).f3)) from (blk_cell BK549.out 3).trans rfl)
           have hL4_ := Aside0.mk (show w47.drew.cell? ⟨gb549, 4, none⟩ = some (.bool ((rd_T82 l0_3 x3_2).f4)) from (blk_cell BK549.out 4).trans rfl)
           generalize w47.drew = w48b at BK540 BK549 HB hL0_ hL1_ hL2_ hL3_ hL4_ ⊢
           have hL0 := fun (p_ : Later w48b) => Later.cell p_ hL0_.out
           have hL1 := fun (p_ : Later w48b) => Later.cell p_ hL1_.out
           have hL2 := fun (p_ : Later w48b) => Later.cell p_ hL2_.out
           have hL3 := fun (p_ : Later w48b) => Later.cell p_ hL3_.out
           have hL4 := fun (p_ : Later w48b) => Later.cell p_ hL4_.out
           clear hL0_ hL1_ hL2_ hL3_ hL4_
           repeat (first | go_big_quiet_step ((first | (go_at_call 65; exact Calls.later_drawn (spec_l01In.calls (((rd_T82 l0_3 x3_2).f0).size : Int) 1 30 true _ A33.out)))) | quiet_step ((first | (go_at_call 65; exact Calls.later_drawn (spec_l01In.calls (((rd_T82 l0_3 x3_2).f0).size : Int) 1 30 true _ A33.out)))))
           refine wpQuiet_nil ?_
           rintro w48 ⟨⟨wq_, hbL⟩, hq_⟩
           have hq2_ : w48 = wq_ := hq_
           clear hq_
           subst hq2_
           clear hL0 hL1 hL2 hL3 hL4
           have nBK540_ := Aside0.mk ((hbL.block _ (blk_lt BK540.out)).trans BK540.out)
           have nBK549_ := Aside0.mk ((hbL.block _ (blk_lt BK549.out)).trans BK549.out)
           have nHB_ := Aside0.mk (below_step HB.out hbL)
           clear BK540
           clear BK549
           clear HB
           have BK540 := nBK540_
           have BK549 := nBK549_
           have HB := nHB_
           clear nBK540_
           clear nBK549_
           clear nHB_
           clear hbL
           try go_wp2
           go_ret
           exact ⟨by first | rfl | (simp [errW_none, errW_some] <;> rfl) | (simp [*, errW_none, errW_some] <;> rfl), by repeat (first | (with_reducible first | exact HB.out | apply below_alloc | apply pw_below_drewN | apply below_drew1 | refine below_set ?_ GE540.out | refine below_set ?_ GE549.out) | exact HB.out)⟩
          ·rw [if_neg c42] at H
           have c42b0 : decide (90 < (((rd_T82 l0_3 x3_2).f2).size : Int)) = false := decide_eq_false c42
           have c42b1 : decide (90 < ((rd_T82 l0_3 x3_2).f2).size) = false := decide_eq_false (by omega)
           clear c42
           obtain ⟨bq49, hbq49⟩ : ∃ b_ : Bool, b_ = ((rd_T82 l0_3 x3_2).f3) := ⟨_, rfl⟩
           replace H : (if (bq49 = true) then (if ((rd_T82 l0_3 x3_2).f4 = true) then (if x3_2 > 0 then (if 0 ≤ (wrap64 (x3_2 - 1)) then (if (wrap64 (x3_2 - 1)) < (l0_3.length : Int) then (if ((Op.bytesLess (((rd_T82 l0_3 (wrap64 (x3_2 - 1))).f0).toList) (((rd_T82 l0_3 x3_2).f0).toList)) = true) then (spec_BackupOK.l0 k2 (wrap64 (x3_2 + 1)) a0_0 a0_1 a0_2 l0_3 a0_4) else (some false)) else (none)) else (none)) else (spec_BackupOK.l0 k2 (wrap64 (x3_2 + 1)) a0_0 a0_1 a0_2 l0_3 a0_4)) else (if ((rd_T82 l0_3 x3_2).f2).toList = ([] : List UInt8) then (if x3_2 > 0 then (if 0 ≤ (wrap64 (x3_2 - 1)) then (if (wrap64 (x3_2 - 1)) < (l0_3.length : Int) then (if ((Op.bytesLess (((rd_T82 l0_3 (wrap64 (x3_2 - 1))).f0).toList) (((rd_T82 l0_3 x3_2).f0).toList)) = true) then (spec_BackupOK.l0 k2 (wrap64 (x3_2 + 1)) a0_0 a0_1 a0_2 l0_3 a0_4) else (some false)) else (none)) else (none)) else (spec_BackupOK.l0 k2 (wrap64 (x3_2 + 1)) a0_0 a0_1 a0_2 l0_3 a0_4)) else (some false))) else (if ((rd_T82 l0_3 x3_2).f4 = true) then (if ((rd_T82 l0_3 x3_2).f1).toList = ([] : List UInt8) then (if x3_2 > 0 then (if 0 ≤ (wrap64 (x3_2 - 1)) then (if (wrap64 (x3_2 - 1)) < (l0_3.length : Int) then (if ((Op.bytesLess (((rd_T82 l0_3 (wrap64 (x3_2 - 1))).f0).toList) (((rd_T82 l0_3 x3_2).f0).toList)) = true) then (spec_BackupOK.l0 k2 (wrap64 (x3_2 + 1)) a0_0 a0_1 a0_2 l0_3 a0_4) else (some false)) else (none)) else (none)) else (spec_BackupOK.l0 k2 (wrap64 (x3_2 + 1)) a0_0 a0_1 a0_2 l0_3 a0_4)) else (some false)) else (some false))) = some r := by rw [← hbq49] at H; exact H
           have Nbq49 := Aside0.mk hbq49
           clear hbq49
           by_cases c50 : (bq49 = true)
           ·subst c50
            have H1 : (if ((rd_T82 l0_3 x3_2).f4 = true) then (if x3_2 > 0 then (if 0 ≤ (wrap64 (x3_2 - 1)) then (if (wrap64 (x3_2 - 1)) < (l0_3.length : Int) then (if ((Op.bytesLess (((rd_T82 l0_3 (wrap64 (x3_2 - 1))).f0).toList) (((rd_T82 l0_3 x3_2).f0).toList)) = true) then (spec_BackupOK.l0 k2 (wrap64 (x3_2 + 1)) a0_0 a0_1 a0_2 l0_3 a0_4) else (some false)) else (none)) else (none)) else (spec_BackupOK.l0 k2 (wrap64 (x3_2 + 1)) a0_0 a0_1 a0_2 l0_3 a0_4)) else (if ((rd_T82 l0_3 x3_2).f2).toList = ([] : List UInt8) then (if x3_2 > 0 then (if 0 ≤ (wrap64 (x3_2 - 1)) then (if (wrap64 (x3_2 - 1)) < (l0_3.length : Int) then (if ((Op.bytesLess (((rd_T82 l0_3 (wrap64 (x3_2 - 1))).f0).toList) (((rd_T82 l0_3 x3_2).f0).toList)) = true) then (spec_BackupOK.l0 k2 (wrap64 (x3_2 + 1)) a0_0 a0_1 a0_2 l0_3 a0_4) else (some false)) else (none)) else (none)) else (spec_BackupOK.l0 k2 (wrap64 (x3_2 + 1)) a0_0 a0_1 a0_2 l0_3 a0_4)) else (some false))) = some r := by rw [if_pos rfl] at H; exact H
            clear H
            have H := H1
            clear H1
            obtain ⟨bq51, hbq51⟩ : ∃ b_ : Bool, b_ = ((rd_T82 l0_3 x3_2).f4) := ⟨_, rfl⟩
            replace H : (if (bq51 = true) then (if x3_2 > 0 then (if 0 ≤ (wrap64 (x3_2 - 1)) then (if (wrap64 (x3_2 - 1)) < (l0_3.length : Int) then (if ((Op.bytesLess (((rd_T82 l0_3 (wrap64 (x3_2 - 1))).f0).toList) (((rd_T82 l0_3 x3_2).f0).toList)) = true) then (spec_BackupOK.l0 k2 (wrap64 (x3_2 + 1)) a0_0 a0_1 a0_2 l0_3 a0_4) else (some false)) else (none)) else (none)) else (spec_BackupOK.l0 k2 (wrap64 (x3_2 + 1)) a0_0 a0_1 a0_2 l0_3 a0_4)) else (if ((rd_T82 l0_3 x3_2).f2).toList = ([] : List UInt8) then (if x3_2 > 0 then (if 0 ≤ (wrap64 (x3_2 - 1)) then (if (wrap64 (x3_2 - 1)) < (l0_3.length : Int) then (if ((Op.bytesLess (((rd_T82 l0_3 (wrap64 (x3_2 - 1))).f0).toList) (((rd_T82 l0_3 x3_2).f0).toList)) = true) then (spec_BackupOK.l0 k2 (wrap64 (x3_2 + 1)) a0_0 a0_1 a0_2 l0_3 a0_4) else (some false)) else (none)) else (none)) else (spec_BackupOK.l0 k2 (wrap64 (x3_2 + 1)) a0_0 a0_1 a0_2 l0_3 a0_4)) else (some false))) = some r := by rw [← hbq51] at H; exact H
            have Nbq51 := Aside0.mk hbq51
            clear hbq51
            by_cases c52 : (bq51 = true)
            ·subst c52
             have H1 : (if x3_2 > 0 then (if 0 ≤ (wrap64 (x3_2 - 1)) then (if (wrap64 (x3_2 - 1)) < (l0_3.length : Int) then (if ((Op.bytesLess (((rd_T82 l0_3 (wrap64 (x3_2 - 1))).f0).toList) (((rd_T82 l0_3 x3_2).f0).toList)) = true) then (spec_BackupOK.l0 k2 (wrap64 (x3_2 + 1)) a0_0 a0_1 a0_2 l0_3 a0_4) else (some false)) else (none)) else (none)) else (spec_BackupOK.l0 k2 (wrap64 (x3_2 + 1)) a0_0 a0_1 a0_2 l0_3 a0_4)) = some r := by rw [if_pos rfl] at H; exact H
             clear H
             have H := H1
             clear H1
             by_cases c53 : x3_2 > 0
             ·rw [if_pos c53] at H
              have c53b0 : decide (0 < x3_2) = true := decide_eq_true c53
              clear c53
              obtain ⟨ji54, hji54⟩ : ∃ j_ : Int, (wrap64 (x3_2 - 1)) = j_ := ⟨_, rfl⟩
              replace H : (if 0 ≤ (ji54) then (if (ji54) < (l0_3.length : Int) then (if ((Op.bytesLess (((rd_T82 l0_3 (ji54)).f0).toList) (((rd_T82 l0_3 x3_2).f0).toList)) = true) then (spec_BackupOK.l0 k2 (wrap64 (x3_2 + 1)) a0_0 a0_1 a0_2 l0_3 a0_4) else (some false)) else (none)) else (none)) = some r := by first | (rw [hji54] at H; exact H) | (simp only [hji54] at H ⊢; exact H)
              (try rw [hji54] at A33)
              have hji54w : (IntKind.i64.wrap (x3_2 - 1)) = ji54 := (i64_w _).trans hji54
              by_cases c55 : 0 ≤ (ji54)
              ·rw [if_pos c55] at H
               have c55b0 : decide (0 ≤ (ji54)) = true := decide_eq_true c55
               clear c55
               by_cases c56 : (ji54) < (l0_3.length : Int)
               ·rw [if_pos c56] at H
                have c56b0 : decide ((ji54) < (l0_3.length : Int)) = true := decide_eq_true c56
                clear c56
                by_cases c57 : ((Op.bytesLess (((rd_T82 l0_3 (ji54)).f0).toList) (((rd_T82 l0_3 x3_2).f0).toList)) = true)
                ·rw [if_pos c57] at H
                 have c57b0 : (Op.bytesLess (((rd_T82 l0_3 (ji54)).f0).toList) (((rd_T82 l0_3 x3_2).f0).toList)) = true := c57
                 clear c57
                 have H' := Aside0.mk H
                 clear H
                 have hcz58_0 : wr.cell? ⟨gb540, 0, none⟩ = some (.string a0_0) := (blk_cell BK540.out 0).trans rfl
                 have hcz58_1 : wr.cell? ⟨gb540, 1, none⟩ = some (.string a0_1) := (blk_cell BK540.out 1).trans rfl
                 have hcz58_2 : wr.cell? ⟨gb540, 2, none⟩ = some (.int .i64 a0_2) := (blk_cell BK540.out 2).trans rfl
                 have hcz58_3 : wr.cell? ⟨gb540, 3, none⟩ = some (.slice A0_3 l0_3.length c0_3) := (blk_cell BK540.out 3).trans rfl
                 have hcz58_4 : wr.cell? ⟨gb540, 4, none⟩ = some (.int .i64 a0_4) := (blk_cell BK540.out 4).trans rfl
                 have hfz58_0 := blk_frozen BK540.out 0
                 have hfz58_1 := blk_frozen BK540.out 1
                 have hfz58_2 := blk_frozen BK540.out 2
                 have hfz58_3 := blk_frozen BK540.out 3
                 have hfz58_4 := blk_frozen BK540.out 4
                 have p548 : 0 ≤ (x3_2 : Int) := of_decide_eq_true (by first | (with_reducible assumption) | assumption)
                 have q548 : x3_2 < (l0_3.length : Int) := of_decide_eq_true (by first | (with_reducible assumption) | assumption)
                 obtain ⟨ad548, e548, hx548_0, hx548_1, hx548_2, hx548_3, hx548_4⟩ := at_T82 HR0_3.out x3_2 p548 q548
                 (try rw [← Nbq49.out] at hx548_3)
                 (try rw [← Nbq51.out] at hx548_3)
                 (try rw [← Nbq49.out] at hx548_4)
                 (try rw [← Nbq51.out] at hx548_4)
                 cases e548
                 replace hx548_0 := (HB.out.cell (World.block_lt_of_cell? w _ hx548_0)).trans hx548_0
                 replace hx548_1 := (HB.out.cell (World.block_lt_of_cell? w _ hx548_1)).trans hx548_1
                 replace hx548_2 := (HB.out.cell (World.block_lt_of_cell? w _ hx548_2)).trans hx548_2
                 replace hx548_3 := (HB.out.cell (World.block_lt_of_cell? w _ hx548_3)).trans hx548_3
                 replace hx548_4 := (HB.out.cell (World.block_lt_of_cell? w _ hx548_4)).trans hx548_4
                 replace p548 := eq_true p548
                 replace q548 := eq_true q548
                 try go_wp2_with (first | ((with_reducible refine gate_dst (N := 4) rfl ?_); (try (refine gate_guard (by rfl) ?_; dsimp only)); refine box_event ?hg (N := 4) ?hd (cs := #[.string (⟨#[]⟩ : ByteArray), .string (⟨#[]⟩ : ByteArray), .string (⟨#[]⟩ : ByteArray), .bool false, .bool false]) (t := 82) ?hr ?_; (case hd => rfl); (case hg => rfl); (case hr => first | (go_simp; done) | (go_simp; rfl)); intro gb549 hg w59 hbox hb; have n0_ := Aside0.mk (blk_below (g := gb540) (o := .cells #[.string a0_0, .string a0_1, .int .i64 a0_2, .slice (some ad548) l0_3.length c0_3, .int .i64 a0_4] 48 (0, 0)) (by (with_reducible repeat (first | refine blk_drewN ?_ _ | refine blk_drew ?_ | refine blk_alloc ?_ _)); exact BK540.out) hb); have n1_ := Aside0.mk (below_step (by repeat (first | (with_reducible first | exact HB.out | apply below_alloc | apply pw_below_drewN | apply below_drew1 | refine below_set ?_ GE540.out) | exact HB.out)) hb); have n2_ := Aside0.mk (hbox); have n3_ := Aside0.mk ((by rw [hg]; exact (below_size (by repeat (first | (with_reducible first | exact HB.out | apply below_alloc | apply pw_below_drewN | apply below_drew1 | refine below_set ?_ GE540.out) | exact HB.out))) : w.heap.size ≤ gb549)); have n4_ := Aside0.mk ((by rw [hg]; exact (below_size (by repeat (first | (with_reducible first | exact HB.out | apply below_alloc | apply pw_below_drewN | apply below_drew1 | refine below_set ?_ GE540.out) | exact HB.out))) : w.heap.size ≤ gb549)); have n5_ := Aside0.mk ((by rw [hg]; exact Nat.ne_of_lt (blk_lt (g := gb540) (o := .cells #[.string a0_0, .string a0_1, .int .i64 a0_2, .slice (some ad548) l0_3.length c0_3, .int .i64 a0_4] 48 (0, 0)) (by (with_reducible repeat (first | refine blk_drewN ?_ _ | refine blk_drew ?_ | refine blk_alloc ?_ _)); exact BK540.out)) : gb540 ≠ gb549)); have n6_ := Aside0.mk ((by rw [hg]; exact Nat.ne_of_gt (blk_lt (g := gb540) (o := .cells #[.string a0_0, .string a0_1, .int .i64 a0_2, .slice (some ad548) l0_3.length c0_3, .int .i64 a0_4] 48 (0, 0)) (by (with_reducible repeat (first | refine blk_drewN ?_ _ | refine blk_drew ?_ | refine blk_alloc ?_ _)); exact BK540.out)) : gb549 ≠ gb540)); clear BK540; clear HB; have BK540 := n0_; have HB := n1_; have BK549 := n2_; have GW549 := n3_; have GE549 := n4_; have NB540_549 := n5_; have NB549_540 := n6_; clear n0_ n1_ n2_ n3_ n4_ n5_ n6_; clear hb hbox hg; have hnb60 := NB549_540.out; have hnc60 := NB540_549.out; have hcz61_0 : w59.cell? ⟨gb549, 0, none⟩ = some (.string (⟨#[]⟩ : ByteArray)) := (blk_cell BK549.out 0).trans rfl; have hcz61_1 : w59.cell? ⟨gb549, 1, none⟩ = some (.string (⟨#[]⟩ : ByteArray)) := (blk_cell BK549.out 1).trans rfl; have hcz61_2 : w59.cell? ⟨gb549, 2, none⟩ = some (.string (⟨#[]⟩ : ByteArray)) := (blk_cell BK549.out 2).trans rfl; have hcz61_3 : w59.cell? ⟨gb549, 3, none⟩ = some (.bool false) := (blk_cell BK549.out 3).trans rfl; have hcz61_4 : w59.cell? ⟨gb549, 4, none⟩ = some (.bool false) := (blk_cell BK549.out 4).trans rfl; have hfz61_0 := blk_frozen BK549.out 0; have hfz61_1 := blk_frozen BK549.out 1; have hfz61_2 := blk_frozen BK549.out 2; have hfz61_3 := blk_frozen BK549.out 3; have hfz61_4 := blk_frozen BK549.out 4))
                 have n0_ : Aside0 ((((((w59.setCell ⟨gb549, 0, none⟩ (.string ((rd_T82 l0_3 x3_2).f0))).setCell ⟨gb549, 1, none⟩ (.string ((rd_T82 l0_3 x3_2).f1))).setCell ⟨gb549, 2, none⟩ (.string ((rd_T82 l0_3 x3_2).f2))).setCell ⟨gb549, 3, none⟩ (.bool true)).setCell ⟨gb549, 4, none⟩ (.bool true)).heap[gb540]? = some (.cells #[.string a0_0, .string a0_1, .int .i64 a0_2, .slice (some ad548) l0_3.length c0_3, .int .i64 a0_4] 48 (0, 0))) := ⟨by (with_reducible repeat (first | refine blk_drewN ?_ _ | refine blk_drew ?_ | refine blk_alloc ?_ _)); refine blk_far ?_ NB540_549.out _; (with_reducible repeat (first | refine blk_drewN ?_ _ | refine blk_drew ?_ | refine blk_alloc ?_ _)); refine blk_far ?_ NB540_549.out _; (with_reducible repeat (first | refine blk_drewN ?_ _ | refine blk_drew ?_ | refine blk_alloc ?_ _)); refine blk_far ?_ NB540_549.out _; (with_reducible repeat (first | refine blk_drewN ?_ _ | refine blk_drew ?_ | refine blk_alloc ?_ _)); refine blk_far ?_ NB540_549.out _; (with_reducible repeat (first | refine blk_drewN ?_ _ | refine blk_drew ?_ | refine blk_alloc ?_ _)); refine blk_far ?_ NB540_549.out _; (with_reducible repeat (first | refine blk_drewN ?_ _ | refine blk_drew ?_ | refine blk_alloc ?_ _)); exact BK540.out⟩
                 have n1_ : Aside0 ((((((w59.setCell ⟨gb549, 0, none⟩ (.string ((rd_T82 l0_3 x3_2).f0))).setCell ⟨gb549, 1, none⟩ (.string ((rd_T82 l0_3 x3_2).f1))).setCell ⟨gb549, 2, none⟩ (.string ((rd_T82 l0_3 x3_2).f2))).setCell ⟨gb549, 3, none⟩ (.bool true)).setCell ⟨gb549, 4, none⟩ (.bool true)).heap[gb549]? = some (.cells #[.string ((rd_T82 l0_3 x3_2).f0), .string ((rd_T82 l0_3 x3_2).f1), .string ((rd_T82 l0_3 x3_2).f2), .bool true, .bool true] 82 (0, 0))) := ⟨by (with_reducible repeat (first | refine blk_drewN ?_ _ | refine blk_drew ?_ | refine blk_alloc ?_ _)); refine blk_put (cs := #[.string ((rd_T82 l0_3 x3_2).f0), .string ((rd_T82 l0_3 x3_2).f1), .string ((rd_T82 l0_3 x3_2).f2), .bool true, .bool false]) ?_ 4 _ rfl; (with_reducible repeat (first | refine blk_drewN ?_ _ | refine blk_drew ?_ | refine blk_alloc ?_ _)); refine blk_put (cs := #[.string ((rd_T82 l0_3 x3_2).f0), .string ((rd_T82 l0_3 x3_2).f1), .string ((rd_T82 l0_3 x3_2).f2), .bool false, .bool false]) ?_ 3 _ rfl; (with_reducible repeat (first | refine blk_drewN ?_ _ | refine blk_drew ?_ | refine blk_alloc ?_ _)); refine blk_put (cs := #[.string ((rd_T82 l0_3 x3_2).f0), .string ((rd_T82 l0_3 x3_2).f1), .string (⟨#[]⟩ : ByteArray), .bool false, .bool false]) ?_ 2 _ rfl; (with_reducible repeat (first | refine blk_drewN ?_ _ | refine blk_drew ?_ | refine blk_alloc ?_ _)); refine blk_put (cs := #[.string ((rd_T82 l0_3 x3_2).f0), .string (⟨#[]⟩ : ByteArray), .string (⟨#[]⟩ : ByteArray), .bool false, .bool false]) ?_ 1 _ rfl; (with_reducible repeat (first | refine blk_drewN ?_ _ | refine blk_drew ?_ | refine blk_alloc ?_ _)); refine blk_put (cs := #[.string (⟨#[]⟩ : ByteArray), .string (⟨#[]⟩ : ByteArray), .string (⟨#[]⟩ : ByteArray), .bool false, .bool false]) ?_ 0 _ rfl; (with_reducible repeat (first | refine blk_drewN ?_ _ | refine blk_drew ?_ | refine blk_alloc ?_ _)); exact BK549.out⟩
                 have n2_ : Aside0 (Below w.heap.size w (((((w59.setCell ⟨gb549, 0, none⟩ (.string ((rd_T82 l0_3 x3_2).f0))).setCell ⟨gb549, 1, none⟩ (.string ((rd_T82 l0_3 x3_2).f1))).setCell ⟨gb549, 2, none⟩ (.string ((rd_T82 l0_3 x3_2).f2))).setCell ⟨gb549, 3, none⟩ (.bool true)).setCell ⟨gb549, 4, none⟩ (.bool true))) := ⟨by repeat (first | (with_reducible first | exact HB.out | apply below_alloc | apply pw_below_drewN | apply below_drew1 | refine below_set ?_ GE540.out | refine below_set ?_ GE549.out) | exact HB.out)⟩
                 (try clear BK540)
                 (try clear BK549)
                 (try clear HB)
                 generalize (((((w59.setCell ⟨gb549, 0, none⟩ (.string ((rd_T82 l0_3 x3_2).f0))).setCell ⟨gb549, 1, none⟩ (.string ((rd_T82 l0_3 x3_2).f1))).setCell ⟨gb549, 2, none⟩ (.string ((rd_T82 l0_3 x3_2).f2))).setCell ⟨gb549, 3, none⟩ (.bool true)).setCell ⟨gb549, 4, none⟩ (.bool true)) = w62 at n0_ n1_ n2_ ⊢
                 have BK540 := n0_
                 have BK549 := n1_
                 have HB := n2_
                 clear n0_ n1_ n2_
                 have n0_ := Aside0.mk (blk_drew BK540.out)
                 have n1_ := Aside0.mk (blk_drew BK549.out)
                 have n2_ := Aside0.mk (below_drew1 HB.out)
                 clear BK540
                 clear BK549
                 clear HB
                 have BK540 := n0_
                 have BK549 := n1_
                 have HB := n2_
                 clear n0_ n1_ n2_
                 have p551 : 0 ≤ ((ji54) : Int) := of_decide_eq_true (by first | (with_reducible assumption) | assumption)
                 have q551 : (ji54) < (l0_3.length : Int) := of_decide_eq_true (by first | (with_reducible assumption) | assumption)
                 obtain ⟨ad551, e551, hx551_0, hx551_1, hx551_2, hx551_3, hx551_4⟩ := at_T82 HR0_3.out (ji54) p551 q551
                 have hw551_4 := hx551_4
                 have hw551_3 := hx551_3
                 have hw551_2 := hx551_2
                 have hw551_1 := hx551_1
                 have hw551_0 := hx551_0
                 (try rw [← Nbq49.out] at hx551_3)
                 (try rw [← Nbq51.out] at hx551_3)
                 (try rw [← Nbq49.out] at hx551_4)
                 (try rw [← Nbq51.out] at hx551_4)
                 obtain rfl : ad548 = ad551 := (by injection e551)
                 replace hx551_0 := (HB.out.cell (World.block_lt_of_cell? w _ hx551_0)).trans hx551_0
                 replace hx551_1 := (HB.out.cell (World.block_lt_of_cell? w _ hx551_1)).trans hx551_1
                 replace hx551_2 := (HB.out.cell (World.block_lt_of_cell? w _ hx551_2)).trans hx551_2
                 replace hx551_3 := (HB.out.cell (World.block_lt_of_cell? w _ hx551_3)).trans hx551_3
                 replace hx551_4 := (HB.out.cell (World.block_lt_of_cell? w _ hx551_4)).trans hx551_4
                 replace p551 := eq_true p551
                 replace q551 := eq_true q551
                 refine wp_region_later (by kernel_rfl) (by kernel_rfl) ?_
                 have hL0_ := Aside0.mk (show w62.drew.cell? ⟨gb549, 0, none⟩ = some (.string ((rd_T82 l0_3 x3_2).f0)) from (blk_cell BK549.out 0).trans rfl)
                 have hL1_ := Aside0.mk (show w62.drew.cell? ⟨gb549, 1, none⟩ = some (.string ((rd_T82 l0_3 x3_2).f1)) from (blk_cell BK549.out 1).trans rfl)
                 have hL2_ := Aside0.mk (show w62.drew.cell? ⟨gb549, 2, none⟩ = some (.string ((rd_T82 l0_3 x3_2).f2)) from (blk_cell BK549.out 2).trans rfl)
                 have hL3_ := Aside0.mk (show w62.drew.cell? ⟨gb549, 3, none⟩ = some (.bool true) from (blk_cell BK549.out 3).trans rfl)
                 have hL4_ := Aside0.mk (show w62.drew.cell? ⟨gb549, 4, none⟩ = some (.bool true) from (blk_cell BK549.out 4).trans rfl)
                 have hL5_ := Aside0.mk (show w62.drew.cell? ⟨gb540, 0, none⟩ = some (.string a0_0) from (blk_cell BK540.out 0).trans rfl)
                 have hL6_ := Aside0.mk (show w62.drew.cell? ⟨gb540, 1, none⟩ = some (.string a0_1) from (blk_cell BK540.out 1).trans rfl)
                 have hL7_ := Aside0.mk (show w62.drew.cell? ⟨gb540, 2, none⟩ = some (.int .i64 a0_2) from (blk_cell BK540.out 2).trans rfl)
                 have hL8_ := Aside0.mk (show w62.drew.cell? ⟨gb540, 3, none⟩ = some (.slice (some ad548) l0_3.length c0_3) from (blk_cell BK540.out 3).trans rfl)
                 have hL9_ := Aside0.mk (show w62.drew.cell? ⟨gb540, 4, none⟩ = some (.int .i64 a0_4) from (blk_cell BK540.out 4).trans rfl)
                 have hL10_ := Aside0.mk (show w62.drew.cell? (ad548.add (((ji54)).toNat * 5)) = some (.string ((rd_T82 l0_3 (ji54)).f0)) from ((HB.out.cell (World.block_lt_of_cell? w _ hw551_0)).trans hw551_0))
                 have hL11_ := Aside0.mk (show w62.drew.cell? ⟨(ad548.add (((ji54)).toNat * 5)).block, (ad548.add (((ji54)).toNat * 5)).off + 1, none⟩ = some (.string ((rd_T82 l0_3 (ji54)).f1)) from ((HB.out.cell (World.block_lt_of_cell? w _ hw551_1)).trans hw551_1))
                 have hL12_ := Aside0.mk (show w62.drew.cell? ⟨(ad548.add (((ji54)).toNat * 5)).block, (ad548.add (((ji54)).toNat * 5)).off + 2, none⟩ = some (.string ((rd_T82 l0_3 (ji54)).f2)) from ((HB.out.cell (World.block_lt_of_cell? w _ hw551_2)).trans hw551_2))
                 have hL13_ := Aside0.mk (show w62.drew.cell? ⟨(ad548.add (((ji54)).toNat * 5)).block, (ad548.add (((ji54)).toNat * 5)).off + 3, none⟩ = some (.bool ((rd_T82 l0_3 (ji54)).f3)) from ((HB.out.cell (World.block_lt_of_cell? w _ hw551_3)).trans hw551_3))
                 have hL14_ := Aside0.mk (show w62.drew.cell? ⟨(ad548.add (((ji54)).toNat * 5)).block, (ad548.add (((ji54)).toNat * 5)).off + 4, none⟩ = some (.bool ((rd_T82 l0_3 (ji54)).f4)) from ((HB.out.cell (World.block_lt_of_cell? w _ hw551_4)).trans hw551_4))
                 generalize w62.drew = w63b at BK540 BK549 HB hx551_0 hx551_1 hx551_2 hx551_3 hx551_4 hL0_ hL1_ hL2_ hL3_ hL4_ hL5_ hL6_ hL7_ hL8_ hL9_ hL10_ hL11_ hL12_ hL13_ hL14_ ⊢
                 clear hx551_0 hx551_1 hx551_2 hx551_3 hx551_4
                 have hL0 := fun (p_ : Later w63b) => Later.cell p_ hL0_.out
                 have hL1 := fun (p_ : Later w63b) => Later.cell p_ hL1_.out
                 have hL2 := fun (p_ : Later w63b) => Later.cell p_ hL2_.out
                 have hL3 := fun (p_ : Later w63b) => Later.cell p_ hL3_.out
                 have hL4 := fun (p_ : Later w63b) => Later.cell p_ hL4_.out
                 have hL5 := fun (p_ : Later w63b) => Later.cell p_ hL5_.out
                 have hL6 := fun (p_ : Later w63b) => Later.cell p_ hL6_.out
                 have hL7 := fun (p_ : Later w63b) => Later.cell p_ hL7_.out
                 have hL8 := fun (p_ : Later w63b) => Later.cell p_ hL8_.out
                 have hL9 := fun (p_ : Later w63b) => Later.cell p_ hL9_.out
                 have hL10 := fun (p_ : Later w63b) => Later.cell p_ hL10_.out
                 have hL11 := fun (p_ : Later w63b) => Later.cell p_ hL11_.out
                 have hL12 := fun (p_ : Later w63b) => Later.cell p_ hL12_.out
                 have hL13 := fun (p_ : Later w63b) => Later.cell p_ hL13_.out
                 have hL14 := fun (p_ : Later w63b) => Later.cell p_ hL14_.out
                 clear hL0_ hL1_ hL2_ hL3_ hL4_ hL5_ hL6_ hL7_ hL8_ hL9_ hL10_ hL11_ hL12_ hL13_ hL14_
                 repeat (first | go_big_quiet_step ((first | (go_at_call 65; exact Calls.later_drawn (spec_l01In.calls (((rd_T82 l0_3 x3_2).f0).size : Int) 1 30 true _ A33.out)))) | quiet_step ((first | (go_at_call 65; exact Calls.later_drawn (spec_l01In.calls (((rd_T82 l0_3 x3_2).f0).size : Int) 1 30 true _ A33.out)))))
                 refine wpQuiet_nil ?_
                 rintro w63 ⟨⟨wq_, hbL⟩, hq_⟩
                 have hq2_ : w63 = wq_ := hq_
                 clear hq_
                 subst hq2_
                 clear hL0 hL1 hL2 hL3 hL4 hL5 hL6 hL7 hL8 hL9 hL10 hL11 hL12 hL13 hL14
                 have nBK540_ := Aside0.mk ((hbL.block _ (blk_lt BK540.out)).trans BK540.out)
                 have nBK549_ := Aside0.mk ((hbL.block _ (blk_lt BK549.out)).trans BK549.out)
                 have nHB_ := Aside0.mk (below_step HB.out hbL)
                 clear BK540
                 clear BK549
                 clear HB
                 have BK540 := nBK540_
                 have BK549 := nBK549_
                 have HB := nHB_
                 clear nBK540_
                 clear nBK549_
                 clear nHB_
                 clear hbL
                 try go_wp2
                 go_roundg k2
                 case measure => have := HJ1.out; have := HK2.out; omega
                 case rel => exact ⟨(wrap64 (x3_2 + 1)), (by first | rfl | (simp; done) | (simp [*]; done)), H', ⟨by have := HJ1.out; have := HK2.out; omega⟩, ⟨by (with_reducible repeat (first | refine blk_drewN ?_ _ | refine blk_drew ?_ | refine blk_alloc ?_ _)); exact BK540.out⟩, ⟨by repeat (first | (with_reducible first | exact HB.out | apply below_alloc | apply pw_below_drewN | apply below_drew1 | refine below_set ?_ GE540.out | refine below_set ?_ GE549.out) | exact HB.out)⟩⟩
                ·rw [if_neg c57] at H
                 have c57b0 : (Op.bytesLess (((rd_T82 l0_3 (ji54)).f0).toList) (((rd_T82 l0_3 x3_2).f0).toList)) = false := by simpa using c57
                 clear c57
                 obtain rfl := Option.some.inj H
                 have hcz64_0 : wr.cell? ⟨gb540, 0, none⟩ = some (.string a0_0) := (blk_cell BK540.out 0).trans rfl
                 have hcz64_1 : wr.cell? ⟨gb540, 1, none⟩ = some (.string a0_1) := (blk_cell BK540.out 1).trans rfl
                 have hcz64_2 : wr.cell? ⟨gb540, 2, none⟩ = some (.int .i64 a0_2) := (blk_cell BK540.out 2).trans rfl
                 have hcz64_3 : wr.cell? ⟨gb540, 3, none⟩ = some (.slice A0_3 l0_3.length c0_3) := (blk_cell BK540.out 3).trans rfl
                 have hcz64_4 : wr.cell? ⟨gb540, 4, none⟩ = some (.int .i64 a0_4) := (blk_cell BK540.out 4).trans rfl
                 have hfz64_0 := blk_frozen BK540.out 0
                 have hfz64_1 := blk_frozen BK540.out 1
                 have hfz64_2 := blk_frozen BK540.out 2
                 have hfz64_3 := blk_frozen BK540.out 3
                 have hfz64_4 := blk_frozen BK540.out 4
                 have p548 : 0 ≤ (x3_2 : Int) := of_decide_eq_true (by first | (with_reducible assumption) | assumption)
                 have q548 : x3_2 < (l0_3.length : Int) := of_decide_eq_true (by first | (with_reducible assumption) | assumption)
                 obtain ⟨ad548, e548, hx548_0, hx548_1, hx548_2, hx548_3, hx548_4⟩ := at_T82 HR0_3.out x3_2 p548 q548
                 (try rw [← Nbq49.out] at hx548_3)
                 (try rw [← Nbq51.out] at hx548_3)
                 (try rw [← Nbq49.out] at hx548_4)
                 (try rw [← Nbq51.out] at hx548_4)
                 cases e548
                 replace hx548_0 := (HB.out.cell (World.block_lt_of_cell? w _ hx548_0)).trans hx548_0
                 replace hx548_1 := (HB.out.cell (World.block_lt_of_cell? w _ hx548_1)).trans hx548_1
                 replace hx548_2 := (HB.out.cell (World.block_lt_of_cell? w _ hx548_2)).trans hx548_2
                 replace hx548_3 := (HB.out.cell (World.block_lt_of_cell? w _ hx548_3)).trans hx548_3
                 replace hx548_4 := (HB.out.cell (World.block_lt_of_cell? w _ hx548_4)).trans hx548_4
                 replace p548 := eq_true p548
                 replace q548 := eq_true q548
                 try go_wp2_with (first | ((with_reducible refine gate_dst (N := 4) rfl ?_); (try (refine gate_guard (by rfl) ?_; dsimp only)); refine box_event ?hg (N := 4) ?hd (cs := #[.string (⟨#[]⟩ : ByteArray), .string (⟨#[]⟩ : ByteArray), .string (⟨#[]⟩ : ByteArray), .bool false, .bool false]) (t := 82) ?hr ?_; (case hd => rfl); (case hg => rfl); (case hr => first | (go_simp; done) | (go_simp; rfl)); intro gb549 hg w65 hbox hb; have n0_ := Aside0.mk (blk_below (g := gb540) (o := .cells #[.string a0_0, .string a0_1, .int .i64 a0_2, .slice (some ad548) l0_3.length c0_3, .int .i64 a0_4] 48 (0, 0)) (by (with_reducible repeat (first | refine blk_drewN ?_ _ | refine blk_drew ?_ | refine blk_alloc ?_ _)); exact BK540.out) hb); have n1_ := Aside0.mk (below_step (by repeat (first | (with_reducible first | exact HB.out | apply below_alloc | apply pw_below_drewN | apply below_drew1 | refine below_set ?_ GE540.out) | exact HB.out)) hb); have n2_ := Aside0.mk (hbox); have n3_ := Aside0.mk ((by rw [hg]; exact (below_size (by repeat (first | (with_reducible first | exact HB.out | apply below_alloc | apply pw_below_drewN | apply below_drew1 | refine below_set ?_ GE540.out) | exact HB.out))) : w.heap.size ≤ gb549)); have n4_ := Aside0.mk ((by rw [hg]; exact (below_size (by repeat (first | (with_reducible first | exact HB.out | apply below_alloc | apply pw_below_drewN | apply below_drew1 | refine below_set ?_ GE540.out) | exact HB.out))) : w.heap.size ≤ gb549)); have n5_ := Aside0.mk ((by rw [hg]; exact Nat.ne_of_lt (blk_lt (g := gb540) (o := .cells #[.string a0_0, .string a0_1, .int .i64 a0_2, .slice (some ad548) l0_3.length c0_3, .int .i64 a0_4] 48 (0, 0)) (by (with_reducible repeat (first | refine blk_drewN ?_ _ | refine blk_drew ?_ | refine blk_alloc ?_ _)); exact BK540.out)) : gb540 ≠ gb549)); have n6_ := Aside0.mk ((by rw [hg]; exact Nat.ne_of_gt (blk_lt (g := gb540) (o := .cells #[.string a0_0, .string a0_1, .int .i64 a0_2, .slice (some ad548) l0_3.length c0_3, .int .i64 a0_4] 48 (0, 0)) (by (with_reducible repeat (first | refine blk_drewN ?_ _ | refine blk_drew ?_ | refine blk_alloc ?_ _)); exact BK540.out)) : gb549 ≠ gb540)); clear BK540; clear HB; have BK540 := n0_; have HB := n1_; have BK549 := n2_; have GW549 := n3_; have GE549 := n4_; have NB540_549 := n5_; have NB549_540 := n6_; clear n0_ n1_ n2_ n3_ n4_ n5_ n6_; clear hb hbox hg; have hnb66 := NB549_540.out; have hnc66 := NB540_549.out; have hcz67_0 : w65.cell? ⟨gb549, 0, none⟩ = some (.string (⟨#[]⟩ : ByteArray)) := (blk_cell BK549.out 0).trans rfl; have hcz67_1 : w65.cell? ⟨gb549, 1, none⟩ = some (.string (⟨#[]⟩ : ByteArray)) := (blk_cell BK549.out 1).trans rfl; have hcz67_2 : w65.cell? ⟨gb549, 2, none⟩ = some (.string (⟨#[]⟩ : ByteArray)) := (blk_cell BK549.out 2).trans rfl; have hcz67_3 : w65.cell? ⟨gb549, 3, none⟩ = some (.bool false) := (blk_cell BK549.out 3).trans rfl; have hcz67_4 : w65.cell? ⟨gb549, 4, none⟩ = some (.bool false) := (blk_cell BK549.out 4).trans rfl; have hfz67_0 := blk_frozen BK549.out 0; have hfz67_1 := blk_frozen BK549.out 1; have hfz67_2 := blk_frozen BK549.out 2; have hfz67_3 := blk_frozen BK549.out 3; have hfz67_4 := blk_frozen BK549.out 4))
                 have n0_ : Aside0 ((((((w65.setCell ⟨gb549, 0, none⟩ (.string ((rd_T82 l0_3 x3_2).f0))).setCell ⟨gb549, 1, none⟩ (.string ((rd_T82 l0_3 x3_2).f1))).setCell ⟨gb549, 2, none⟩ (.string ((rd_T82 l0_3 x3_2).f2))).setCell ⟨gb549, 3, none⟩ (.bool true)).setCell ⟨gb549, 4, none⟩ (.bool true)).heap[gb540]? = some (.cells #[.string a0_0, .string a0_1, .int .i64 a0_2, .slice (some ad548) l0_3.length c0_3, .int .i64 a0_4] 48 (0, 0))) := ⟨by (with_reducible repeat (first | refine blk_drewN ?_ _ | refine blk_drew ?_ | refine blk_alloc ?_ _)); refine blk_far ?_ NB540_549.out _; (with_reducible repeat (first | refine blk_drewN ?_ _ | refine blk_drew ?_ | refine blk_alloc ?_ _)); refine blk_far ?_ NB540_549.out _; (with_reducible repeat (first | refine blk_drewN ?_ _ | refine blk_drew ?_ | refine blk_alloc ?_ _)); refine blk_far ?_ NB540_549.out _; (with_reducible repeat (first | refine blk_drewN ?_ _ | refine blk_drew ?_ | refine blk_alloc ?_ _)); refine blk_far ?_ NB540_549.out _; (with_reducible repeat (first | refine blk_drewN ?_ _ | refine blk_drew ?_ | refine blk_alloc ?_ _)); refine blk_far ?_ NB540_549.out _; (with_reducible repeat (first | refine blk_drewN ?_ _ | refine blk_drew ?_ | refine blk_alloc ?_ _)); exact BK540.out⟩
                 have n1_ : Aside0 ((((((w65.setCell ⟨gb549, 0, none⟩ (.string ((rd_T82 l0_3 x3_2).f0))).setCell ⟨gb549, 1, none⟩ (.string ((rd_T82 l0_3 x3_2).f1))).setCell ⟨gb549, 2, none⟩ (.string ((rd_T82 l0_3 x3_2).f2))).setCell ⟨gb549, 3, none⟩ (.bool true)).setCell ⟨gb549, 4, none⟩ (.bool true)).heap[gb549]? = some (.cells #[.string ((rd_T82 l0_3 x3_2).f0), .string ((rd_T82 l0_3 x3_2).f1), .string ((rd_T82 l0_3 x3_2).f2), .bool true, .bool true] 82 (0, 0))) := ⟨by (with_reducible repeat (first | refine blk_drewN ?_ _ | refine blk_drew ?_ | refine blk_alloc ?_ _)); refine blk_put (cs := #[.string ((rd_T82 l0_3 x3_2).f0), .string ((rd_T82 l0_3 x3_2).f1), .string ((rd_T82 l0_3 x3_2).f2), .bool true, .bool false]) ?_ 4 _ rfl; (with_reducible repeat (first | refine blk_drewN ?_ _ | refine blk_drew ?_ | refine blk_alloc ?_ _)); refine blk_put (cs := #[.string ((rd_T82 l0_3 x3_2).f0), .string ((rd_T82 l0_3 x3_2).f1), .string ((rd_T82 l0_3 x3_2).f2), .bool false, .bool false]) ?_ 3 _ rfl; (with_reducible repeat (first | refine blk_drewN ?_ _ | refine blk_drew ?_ | refine blk_alloc ?_ _)); refine blk_put (cs := #[.string ((rd_T82 l0_3 x3_2).f0), .string ((rd_T82 l0_3 x3_2).f1), .string (⟨#[]⟩ : ByteArray), .bool false, .bool false]) ?_ 2 _ rfl; (with_reducible repeat (first | refine blk_drewN ?_ _ | refine blk_drew ?_ | refine blk_alloc ?_ _)); refine blk_put (cs := #[.string ((rd_T82 l0_3 x3_2).f0), .string (⟨#[]⟩ : ByteArray), .string (⟨#[]⟩ : ByteArray), .bool false, .bool false]) ?_ 1 _ rfl; (with_reducible repeat (first | refine blk_drewN ?_ _ | refine blk_drew ?_ | refine blk_alloc ?_ _)); refine blk_put (cs := #[.string (⟨#[]⟩ : ByteArray), .string (⟨#[]⟩ : ByteArray), .string (⟨#[]⟩ : ByteArray), .bool false, .bool false]) ?_ 0 _ rfl; (with_reducible repeat (first | refine blk_drewN ?_ _ | refine blk_drew ?_ | refine blk_alloc ?_ _)); exact BK549.out⟩
                 have n2_ : Aside0 (Below w.heap.size w (((((w65.setCell ⟨gb549, 0, none⟩ (.string ((rd_T82 l0_3 x3_2).f0))).setCell ⟨gb549, 1, none⟩ (.string ((rd_T82 l0_3 x3_2).f1))).setCell ⟨gb549, 2, none⟩ (.string ((rd_T82 l0_3 x3_2).f2))).setCell ⟨gb549, 3, none⟩ (.bool true)).setCell ⟨gb549, 4, none⟩ (.bool true))) := ⟨by repeat (first | (with_reducible first | exact HB.out | apply below_alloc | apply pw_below_drewN | apply below_drew1 | refine below_set ?_ GE540.out | refine below_set ?_ GE549.out) | exact HB.out)⟩
                 (try clear BK540)
                 (try clear BK549)
                 (try clear HB)
                 generalize (((((w65.setCell ⟨gb549, 0, none⟩ (.string ((rd_T82 l0_3 x3_2).f0))).setCell ⟨gb549, 1, none⟩ (.string ((rd_T82 l0_3 x3_2).f1))).setCell ⟨gb549, 2, none⟩ (.string ((rd_T82 l0_3 x3_2).f2))).setCell ⟨gb549, 3, none⟩ (.bool true)).setCell ⟨gb549, 4, none⟩ (.bool true)) = w68 at n0_ n1_ n2_ ⊢
                 have BK540 := n0_
                 have BK549 := n1_
                 have HB := n2_
                 clear n0_ n1_ n2_
                 have n0_ := Aside0.mk (blk_drew BK540.out)
                 have n1_ := Aside0.mk (blk_drew BK549.out)
                 have n2_ := Aside0.mk (below_drew1 HB.out)
                 clear BK540
                 clear BK549
                 clear HB
                 have BK540 := n0_
                 have BK549 := n1_
                 have HB := n2_
                 clear n0_ n1_ n2_
                 have p551 : 0 ≤ ((ji54) : Int) := of_decide_eq_true (by first | (with_reducible assumption) | assumption)
                 have q551 : (ji54) < (l0_3.length : Int) := of_decide_eq_true (by first | (with_reducible assumption) | assumption)
                 obtain ⟨ad551, e551, hx551_0, hx551_1, hx551_2, hx551_3, hx551_4⟩ := at_T82 HR0_3.out (ji54) p551 q551
                 have hw551_4 := hx551_4
                 have hw551_3 := hx551_3
                 have hw551_2 := hx551_2
                 have hw551_1 := hx551_1
                 have hw551_0 := hx551_0
                 (try rw [← Nbq49.out] at hx551_3)
                 (try rw [← Nbq51.out] at hx551_3)
                 (try rw [← Nbq49.out] at hx551_4)
                 (try rw [← Nbq51.out] at hx551_4)
                 obtain rfl : ad548 = ad551 := (by injection e551)
                 replace hx551_0 := (HB.out.cell (World.block_lt_of_cell? w _ hx551_0)).trans hx551_0
                 replace hx551_1 := (HB.out.cell (World.block_lt_of_cell? w _ hx551_1)).trans hx551_1
                 replace hx551_2 := (HB.out.cell (World.block_lt_of_cell? w _ hx551_2)).trans hx551_2
                 replace hx551_3 := (HB.out.cell (World.block_lt_of_cell? w _ hx551_3)).trans hx551_3
                 replace hx551_4 := (HB.out.cell (World.block_lt_of_cell? w _ hx551_4)).trans hx551_4
                 replace p551 := eq_true p551
                 replace q551 := eq_true q551
                 refine wp_region_later (by kernel_rfl) (by kernel_rfl) ?_
                 have hL0_ := Aside0.mk (show w68.drew.cell? ⟨gb549, 0, none⟩ = some (.string ((rd_T82 l0_3 x3_2).f0)) from (blk_cell BK549.out 0).trans rfl)
                 have hL1_ := Aside0.mk (show w68.drew.cell? ⟨gb549, 1, none⟩ = some (.string ((rd_T82 l0_3 x3_2).f1)) from (blk_cell BK549.out 1).trans rfl)
                 have hL2_ := Aside0.mk (show w68.drew.cell? ⟨gb549, 2, none⟩ = some (.string ((rd_T82 l0_3 x3_2).f2)) from (blk_cell BK549.out 2).trans rfl)
                 have hL3_ := Aside0.mk (show w68.drew.cell? ⟨gb549, 3, none⟩ = some (.bool true) from (blk_cell BK549.out 3).trans rfl)
                 have hL4_ := Aside0.mk (show w68.drew.cell? ⟨gb549, 4, none⟩ = some (.bool true) from (blk_cell BK549.out 4).trans rfl)
                 have hL5_ := Aside0.mk (show w68.drew.cell? ⟨gb540, 0, none⟩ = some (.string a0_0) from (blk_cell BK540.out 0).trans rfl)
                 have hL6_ := Aside0.mk (show w68.drew.cell? ⟨gb540, 1, none⟩ = some (.string a0_1) from (blk_cell BK540.out 1).trans rfl)
                 have hL7_ := Aside0.mk (show w68.drew.cell? ⟨gb540, 2, none⟩ = some (.int .i64 a0_2) from (blk_cell BK540.out 2).trans rfl)
                 have hL8_ := Aside0.mk (show w68.drew.cell? ⟨gb540, 3, none⟩ = some (.slice (some ad548) l0_3.length c0_3) from (blk_cell BK540.out 3).trans rfl)
                 have hL9_ := Aside0.mk (show w68.drew.cell? ⟨gb540, 4, none⟩ = some (.int .i64 a0_4) from (blk_cell BK540.out 4).trans rfl)
                 have hL10_ := Aside0.mk (show w68.drew.cell? (ad548.add (((ji54)).toNat * 5)) = some (.string ((rd_T82 l0_3 (ji54)).f0)) from ((HB.out.cell (World.block_lt_of_cell? w _ hw551_0)).trans hw551_0))
                 have hL11_ := Aside0.mk (show w68.drew.cell? ⟨(ad548.add (((ji54)).toNat * 5)).block, (ad548.add (((ji54)).toNat * 5)).off + 1, none⟩ = some (.string ((rd_T82 l0_3 (ji54)).f1)) from ((HB.out.cell (World.block_lt_of_cell? w _ hw551_1)).trans hw551_1))
                 have hL12_ := Aside0.mk (show w68.drew.cell? ⟨(ad548.add (((ji54)).toNat * 5)).block, (ad548.add (((ji54)).toNat * 5)).off + 2, none⟩ = some (.string ((rd_T82 l0_3 (ji54)).f2)) from ((HB.out.cell (World.block_lt_of_cell? w _ hw551_2)).trans hw551_2))
                 have hL13_ := Aside0.mk (show w68.drew.cell? ⟨(ad548.add (((ji54)).toNat * 5)).block, (ad548.add (((ji54)).toNat * 5)).off + 3, none⟩ = some (.bool ((rd_T82 l0_3 (ji54)).f3)) from ((HB.out.cell (World.block_lt_of_cell? w _ hw551_3)).trans hw551_3))
                 have hL14_ := Aside0.mk (show w68.drew.cell? ⟨(ad548.add (((ji54)).toNat * 5)).block, (ad548.add (((ji54)).toNat * 5)).off + 4, none⟩ = some (.bool ((rd_T82 l0_3 (ji54)).f4)) from ((HB.out.cell (World.block_lt_of_cell? w _ hw551_4)).trans hw551_4))
                 generalize w68.drew = w69b at BK540 BK549 HB hx551_0 hx551_1 hx551_2 hx551_3 hx551_4 hL0_ hL1_ hL2_ hL3_ hL4_ hL5_ hL6_ hL7_ hL8_ hL9_ hL10_ hL11_ hL12_ hL13_ hL14_ ⊢
                 clear hx551_0 hx551_1 hx551_2 hx551_3 hx551_4
                 have hL0 := fun (p_ : Later w69b) => Later.cell p_ hL0_.out
                 have hL1 := fun (p_ : Later w69b) => Later.cell p_ hL1_.out
                 have hL2 := fun (p_ : Later w69b) => Later.cell p_ hL2_.out
                 have hL3 := fun (p_ : Later w69b) => Later.cell p_ hL3_.out
                 have hL4 := fun (p_ : Later w69b) => Later.cell p_ hL4_.out
                 have hL5 := fun (p_ : Later w69b) => Later.cell p_ hL5_.out
                 have hL6 := fun (p_ : Later w69b) => Later.cell p_ hL6_.out
                 have hL7 := fun (p_ : Later w69b) => Later.cell p_ hL7_.out
                 have hL8 := fun (p_ : Later w69b) => Later.cell p_ hL8_.out
                 have hL9 := fun (p_ : Later w69b) => Later.cell p_ hL9_.out
                 have hL10 := fun (p_ : Later w69b) => Later.cell p_ hL10_.out
                 have hL11 := fun (p_ : Later w69b) => Later.cell p_ hL11_.out
                 have hL12 := fun (p_ : Later w69b) => Later.cell p_ hL12_.out
                 have hL13 := fun (p_ : Later w69b) => Later.cell p_ hL13_.out
                 have hL14 := fun (p_ : Later w69b) => Later.cell p_ hL14_.out
                 clear hL0_ hL1_ hL2_ hL3_ hL4_ hL5_ hL6_ hL7_ hL8_ hL9_ hL10_ hL11_ hL12_ hL13_ hL14_
                 repeat (first | go_big_quiet_step ((first | (go_at_call 65; exact Calls.later_drawn (spec_l01In.calls (((rd_T82 l0_3 x3_2).f0).size : Int) 1 30 true _ A33.out)))) | quiet_step ((first | (go_at_call 65; exact Calls.later_drawn (spec_l01In.calls (((rd_T82 l0_3 x3_2).f0).size : Int) 1 30 true _ A33.out)))))
                 refine wpQuiet_nil ?_
                 rintro w69 ⟨⟨wq_, hbL⟩, hq_⟩
                 have hq2_ : w69 = wq_ := hq_
                 clear hq_
                 subst hq2_
                 clear hL0 hL1 hL2 hL3 hL4 hL5 hL6 hL7 hL8 hL9 hL10 hL11 hL12 hL13 hL14
                 have nBK540_ := Aside0.mk ((hbL.block _ (blk_lt BK540.out)).trans BK540.out)
                 have nBK549_ := Aside0.mk ((hbL.block _ (blk_lt BK549.out)).trans BK549.out)
                 have nHB_ := Aside0.mk (below_step HB.out hbL)
                 clear BK540
                 clear BK549
                 clear HB
                 have BK540 := nBK540_
                 have BK549 := nBK549_
                 have HB := nHB_
                 clear nBK540_
                 clear nBK549_
                 clear nHB_
                 clear hbL
                 try go_wp2
                 go_ret
                 exact ⟨by first | rfl | (simp [errW_none, errW_some] <;> rfl) | (simp only [← hji54]; first | rfl | (simp [errW_none, errW_some] <;> rfl)) | (simp [*, errW_none, errW_some] <;> rfl), by repeat (first | (with_reducible first | exact HB.out | apply below_alloc | apply pw_below_drewN | apply below_drew1 | refine below_set ?_ GE540.out | refine below_set ?_ GE549.out) | exact HB.out)⟩
               ·rw [if_neg c56] at H
                exact absurd H (by simp)
              ·rw [if_neg c55] at H
               exact absurd H (by simp)
             ·rw [if_neg c53] at H
              have c53b0 : decide (0 < x3_2) = false := decide_eq_false c53
              clear c53
              have H' := Aside0.mk H
              clear H
              have hcz70_0 : wr.cell? ⟨gb540, 0, none⟩ = some (.string a0_0) := (blk_cell BK540.out 0).trans rfl
              have hcz70_1 : wr.cell? ⟨gb540, 1, none⟩ = some (.string a0_1) := (blk_cell BK540.out 1).trans rfl
              have hcz70_2 : wr.cell? ⟨gb540, 2, none⟩ = some (.int .i64 a0_2) := (blk_cell BK540.out 2).trans rfl
              have hcz70_3 : wr.cell? ⟨gb540, 3, none⟩ = some (.slice A0_3 l0_3.length c0_3) := (blk_cell BK540.out 3).trans rfl
              have hcz70_4 : wr.cell? ⟨gb540, 4, none⟩ = some (.int .i64 a0_4) := (blk_cell BK540.out 4).trans rfl
              have hfz70_0 := blk_frozen BK540.out 0
              have hfz70_1 := blk_frozen BK540.out 1
              have hfz70_2 := blk_frozen BK540.out 2
              have hfz70_3 := blk_frozen BK540.out 3
              have hfz70_4 := blk_frozen BK540.out 4
              have p548 : 0 ≤ (x3_2 : Int) := of_decide_eq_true (by first | (with_reducible assumption) | assumption)
              have q548 : x3_2 < (l0_3.length : Int) := of_decide_eq_true (by first | (with_reducible assumption) | assumption)
              obtain ⟨ad548, e548, hx548_0, hx548_1, hx548_2, hx548_3, hx548_4⟩ := at_T82 HR0_3.out x3_2 p548 q548
              (try rw [← Nbq49.out] at hx548_3)
              (try rw [← Nbq51.out] at hx548_3)
              (try rw [← Nbq49.out] at hx548_4)
              (try rw [← Nbq51.out] at hx548_4)
              cases e548
              replace hx548_0 := (HB.out.cell (World.block_lt_of_cell? w _ hx548_0)).trans hx548_0
              replace hx548_1 := (HB.out.cell (World.block_lt_of_cell? w _ hx548_1)).trans hx548_1
              replace hx548_2 := (HB.out.cell (World.block_lt_of_cell? w _ hx548_2)).trans hx548_2
              replace hx548_3 := (HB.out.cell (World.block_lt_of_cell? w _ hx548_3)).trans hx548_3
              replace hx548_4 := (HB.out.cell (World.block_lt_of_cell? w _ hx548_4)).trans hx548_4
              replace p548 := eq_true p548
              replace q548 := eq_true q548
              try go_wp2_with (first | ((with_reducible refine gate_dst (N := 4) rfl ?_); (try (refine gate_guard (by rfl) ?_; dsimp only)); refine box_event ?hg (N := 4) ?hd (cs := #[.string (⟨#[]⟩ : ByteArray), .string (⟨#[]⟩ : ByteArray), .string (⟨#[]⟩ : ByteArray), .bool false, .bool false]) (t := 82) ?hr ?_; (case hd => rfl); (case hg => rfl); (case hr => first | (go_simp; done) | (go_simp; rfl)); intro gb549 hg w71 hbox hb; have n0_ := Aside0.mk (blk_below (g := gb540) (o := .cells #[.string a0_0, .string a0_1, .int .i64 a0_2, .slice (some ad548) l0_3.length c0_3, .int .i64 a0_4] 48 (0, 0)) (by (with_reducible repeat (first | refine blk_drewN ?_ _ | refine blk_drew ?_ | refine blk_alloc ?_ _)); exact BK540.out) hb); have n1_ := Aside0.mk (below_step (by repeat (first | (with_reducible first | exact HB.out | apply below_alloc | apply pw_below_drewN | apply below_drew1 | refine below_set ?_ GE540.out) | exact HB.out)) hb); have n2_ := Aside0.mk (hbox); have n3_ := Aside0.mk ((by rw [hg]; exact (below_size (by repeat (first | (with_reducible first | exact HB.out | apply below_alloc | apply pw_below_drewN | apply below_drew1 | refine below_set ?_ GE540.out) | exact HB.out))) : w.heap.size ≤ gb549)); have n4_ := Aside0.mk ((by rw [hg]; exact (below_size (by repeat (first | (with_reducible first | exact HB.out | apply below_alloc | apply pw_below_drewN | apply below_drew1 | refine below_set ?_ GE540.out) | exact HB.out))) : w.heap.size ≤ gb549)); have n5_ := Aside0.mk ((by rw [hg]; exact Nat.ne_of_lt (blk_lt (g := gb540) (o := .cells #[.string a0_0, .string a0_1, .int .i64 a0_2, .slice (some ad548) l0_3.length c0_3, .int .i64 a0_4] 48 (0, 0)) (by (with_reducible repeat (first | refine blk_drewN ?_ _ | refine blk_drew ?_ | refine blk_alloc ?_ _)); exact BK540.out)) : gb540 ≠ gb549)); have n6_ := Aside0.mk ((by rw [hg]; exact Nat.ne_of_gt (blk_lt (g := gb540) (o := .cells #[.string a0_0, .string a0_1, .int .i64 a0_2, .slice (some ad548) l0_3.length c0_3, .int .i64 a0_4] 48 (0, 0)) (by (with_reducible repeat (first | refine blk_drewN ?_ _ | refine blk_drew ?_ | refine blk_alloc ?_ _)); exact BK540.out)) : gb549 ≠ gb540)); clear BK540; clear HB; have BK540 := n0_; have HB := n1_; have BK549 := n2_; have GW549 := n3_; have GE549 := n4_; have NB540_549 := n5_; have NB549_540 := n6_; clear n0_ n1_ n2_ n3_ n4_ n5_ n6_; clear hb hbox hg; have hnb72 := NB549_540.out; have hnc72 := NB540_549.out; have hcz73_0 : w71.cell? ⟨gb549, 0, none⟩ = some (.string (⟨#[]⟩ : ByteArray)) := (blk_cell BK549.out 0).trans rfl; have hcz73_1 : w71.cell? ⟨gb549, 1, none⟩ = some (.string (⟨#[]⟩ : ByteArray)) := (blk_cell BK549.out 1).trans rfl; have hcz73_2 : w71.cell? ⟨gb549, 2, none⟩ = some (.string (⟨#[]⟩ : ByteArray)) := (blk_cell BK549.out 2).trans rfl; have hcz73_3 : w71.cell? ⟨gb549, 3, none⟩ = some (.bool false) := (blk_cell BK549.out 3).trans rfl; have hcz73_4 : w71.cell? ⟨gb549, 4, none⟩ = some (.bool false) := (blk_cell BK549.out 4).trans rfl; have hfz73_0 := blk_frozen BK549.out 0; have hfz73_1 := blk_frozen BK549.out 1; have hfz73_2 := blk_frozen BK549.out 2; have hfz73_3 := blk_frozen BK549.out 3; have hfz73_4 := blk_frozen BK549.out 4))
              have n0_ : Aside0 ((((((w71.setCell ⟨gb549, 0, none⟩ (.string ((rd_T82 l0_3 x3_2).f0))).setCell ⟨gb549, 1, none⟩ (.string ((rd_T82 l0_3 x3_2).f1))).setCell ⟨gb549, 2, none⟩ (.string ((rd_T82 l0_3 x3_2).f2))).setCell ⟨gb549, 3, none⟩ (.bool true)).setCell ⟨gb549, 4, none⟩ (.bool true)).heap[gb540]? = some (.cells #[.string a0_0, .string a0_1, .int .i64 a0_2, .slice (some ad548) l0_3.length c0_3, .int .i64 a0_4] 48 (0, 0))) := ⟨by (with_reducible repeat (first | refine blk_drewN ?_ _ | refine blk_drew ?_ | refine blk_alloc ?_ _)); refine blk_far ?_ NB540_549.out _; (with_reducible repeat (first | refine blk_drewN ?_ _ | refine blk_drew ?_ | refine blk_alloc ?_ _)); refine blk_far ?_ NB540_549.out _; (with_reducible repeat (first | refine blk_drewN ?_ _ | refine blk_drew ?_ | refine blk_alloc ?_ _)); refine blk_far ?_ NB540_549.out _; (with_reducible repeat (first | refine blk_drewN ?_ _ | refine blk_drew ?_ | refine blk_alloc ?_ _)); refine blk_far ?_ NB540_549.out _; (with_reducible repeat (first | refine blk_drewN ?_ _ | refine blk_drew ?_ | refine blk_alloc ?_ _)); refine blk_far ?_ NB540_549.out _; (with_reducible repeat (first | refine blk_drewN ?_ _ | refine blk_drew ?_ | refine blk_alloc ?_ _)); exact BK540.out⟩
              have n1_ : Aside0 ((((((w71.setCell ⟨gb549, 0, none⟩ (.string ((rd_T82 l0_3 x3_2).f0))).setCell ⟨gb549, 1, none⟩ (.string ((rd_T82 l0_3 x3_2).f1))).setCell ⟨gb549, 2, none⟩ (.string ((rd_T82 l0_3 x3_2).f2))).setCell ⟨gb549, 3, none⟩ (.bool true)).setCell ⟨gb549, 4, none⟩ (.bool true)).heap[gb549]? = some (.cells #[.string ((rd_T82 l0_3 x3_2).f0), .string ((rd_T82 l0_3 x3_2).f1), .string ((rd_T82 l0_3 x3_2).f2), .bool true, .bool true] 82 (0, 0))) := ⟨by (with_reducible repeat (first | refine blk_drewN ?_ _ | refine blk_drew ?_ | refine blk_alloc ?_ _)); refine blk_put (cs := #[.string ((rd_T82 l0_3 x3_2).f0), .string ((rd_T82 l0_3 x3_2).f1), .string ((rd_T82 l0_3 x3_2).f2), .bool true, .bool false]) ?_ 4 _ rfl; (with_reducible repeat (first | refine blk_drewN ?_ _ | refine blk_drew ?_ | refine blk_alloc ?_ _)); refine blk_put (cs := #[.string ((rd_T82 l0_3 x3_2).f0), .string ((rd_T82 l0_3 x3_2).f1), .string ((rd_T82 l0_3 x3_2).f2), .bool false, .bool false]) ?_ 3 _ rfl; (with_reducible repeat (first | refine blk_drewN ?_ _ | refine blk_drew ?_ | refine blk_alloc ?_ _)); refine blk_put (cs := #[.string ((rd_T82 l0_3 x3_2).f0), .string ((rd_T82 l0_3 x3_2).f1), .string (⟨#[]⟩ : ByteArray), .bool false, .bool false]) ?_ 2 _ rfl; (with_reducible repeat (first | refine blk_drewN ?_ _ | refine blk_drew ?_ | refine blk_alloc ?_ _)); refine blk_put (cs := #[.string ((rd_T82 l0_3 x3_2).f0), .string (⟨#[]⟩ : ByteArray), .string (⟨#[]⟩ : ByteArray), .bool false, .bool false]) ?_ 1 _ rfl; (with_reducible repeat (first | refine blk_drewN ?_ _ | refine blk_drew ?_ | refine blk_alloc ?_ _)); refine blk_put (cs := #[.string (⟨#[]⟩ : ByteArray), .string (⟨#[]⟩ : ByteArray), .string (⟨#[]⟩ : ByteArray), .bool false, .bool false]) ?_ 0 _ rfl; (with_reducible repeat (first | refine blk_drewN ?_ _ | refine blk_drew ?_ | refine blk_alloc ?_ _)); exact BK549.out⟩
              have n2_ : Aside0 (Below w.heap.size w (((((w71.setCell ⟨gb549, 0, none⟩ (.string ((rd_T82 l0_3 x3_2).f0))).setCell ⟨gb549, 1, none⟩ (.string ((rd_T82 l0_3 x3_2).f1))).setCell ⟨gb549, 2, none⟩ (.string ((rd_T82 l0_3 x3_2).f2))).setCell ⟨gb549, 3, none⟩ (.bool true)).setCell ⟨gb549, 4, none⟩ (.bool true))) := ⟨by repeat (first | (with_reducible first | exact HB.out | apply below_alloc | apply pw_below_drewN | apply below_drew1 | refine below_set ?_ GE540.out | refine below_set ?_ GE549.out) | exact HB.out)⟩
              (try clear BK540)
              (try clear BK549)
              (try clear HB)
              generalize (((((w71.setCell ⟨gb549, 0, none⟩ (.string ((rd_T82 l0_3 x3_2).f0))).setCell ⟨gb549, 1, none⟩ (.string ((rd_T82 l0_3 x3_2).f1))).setCell ⟨gb549, 2, none⟩ (.string ((rd_T82 l0_3 x3_2).f2))).setCell ⟨gb549, 3, none⟩ (.bool true)).setCell ⟨gb549, 4, none⟩ (.bool true)) = w74 at n0_ n1_ n2_ ⊢
              have BK540 := n0_
              have BK549 := n1_
              have HB := n2_
              clear n0_ n1_ n2_
              have n0_ := Aside0.mk (blk_drew BK540.out)
              have n1_ := Aside0.mk (blk_drew BK549.out)
              have n2_ := Aside0.mk (below_drew1 HB.out)
              clear BK540
              clear BK549
              clear HB
              have BK540 := n0_
              have BK549 := n1_
              have HB := n2_
              clear n0_ n1_ n2_
              refine wp_region_later (by kernel_rfl) (by kernel_rfl) ?_
              have hL0_ := Aside0.mk (show w74.drew.cell? ⟨gb549, 0, none⟩ = some (.string ((rd_T82 l0_3 x3_2).f0)) from (blk_cell BK549.out 0).trans rfl)
              have hL1_ := Aside0.mk (show w74.drew.cell? ⟨gb549, 1, none⟩ = some (.string ((rd_T82 l0_3 x3_2).f1)) from (blk_cell BK549.out 1).trans rfl)
              have hL2_ := Aside0.mk (show w74.drew.cell? ⟨gb549, 2, none⟩ = some (.string ((rd_T82 l0_3 x3_2).f2)) from (blk_cell BK549.out 2).trans rfl)
              have hL3_ := Aside0.mk (show w74.drew.cell? ⟨gb549, 3, none⟩ = some (.bool true) from (blk_cell BK549.out 3).trans rfl)
              have hL4_ := Aside0.mk (show w74.drew.cell? ⟨gb549, 4, none⟩ = some (.bool true) from (blk_cell BK549.out 4).trans rfl)
              generalize w74.drew = w75b at BK540 BK549 HB hL0_ hL1_ hL2_ hL3_ hL4_ ⊢
              have hL0 := fun (p_ : Later w75b) => Later.cell p_ hL0_.out
              have hL1 := fun (p_ : Later w75b) => Later.cell p_ hL1_.out
              have hL2 := fun (p_ : Later w75b) => Later.cell p_ hL2_.out
              have hL3 := fun (p_ : Later w75b) => Later.cell p_ hL3_.out
              have hL4 := fun (p_ : Later w75b) => Later.cell p_ hL4_.out
              clear hL0_ hL1_ hL2_ hL3_ hL4_
              repeat (first | go_big_quiet_step ((first | (go_at_call 65; exact Calls.later_drawn (spec_l01In.calls (((rd_T82 l0_3 x3_2).f0).size : Int) 1 30 true _ A33.out)))) | quiet_step ((first | (go_at_call 65; exact Calls.later_drawn (spec_l01In.calls (((rd_T82 l0_3 x3_2).f0).size : Int) 1 30 true _ A33.out)))))
              refine wpQuiet_nil ?_
              rintro w75 ⟨⟨wq_, hbL⟩, hq_⟩
              have hq2_ : w75 = wq_ := hq_
              clear hq_
              subst hq2_
              clear hL0 hL1 hL2 hL3 hL4
              have nBK540_ := Aside0.mk ((hbL.block _ (blk_lt BK540.out)).trans BK540.out)
              have nBK549_ := Aside0.mk ((hbL.block _ (blk_lt BK549.out)).trans BK549.out)
              have nHB_ := Aside0.mk (below_step HB.out hbL)
              clear BK540
              clear BK549
              clear HB
              have BK540 := nBK540_
              have BK549 := nBK549_
              have HB := nHB_
              clear nBK540_
              clear nBK549_
              clear nHB_
              clear hbL
              try go_wp2
              go_roundg k2
              case measure => have := HJ1.out; have := HK2.out; omega
              case rel => exact ⟨(wrap64 (x3_2 + 1)), (by first | rfl | (simp; done) | (simp [*]; done)), H', ⟨by have := HJ1.out; have := HK2.out; omega⟩, ⟨by (with_reducible repeat (first | refine blk_drewN ?_ _ | refine blk_drew ?_ | refine blk_alloc ?_ _)); exact BK540.out⟩, ⟨by repeat (first | (with_reducible first | exact HB.out | apply below_alloc | apply pw_below_drewN | apply below_drew1 | refine below_set ?_ GE540.out | refine below_set ?_ GE549.out) | exact HB.out)⟩⟩
            ·replace c52 := Bool.eq_false_iff.mpr c52
             subst c52
             have H1 : (if ((rd_T82 l0_3 x3_2).f2).toList = ([] : List UInt8) then (if x3_2 > 0 then (if 0 ≤ (wrap64 (x3_2 - 1)) then (if (wrap64 (x3_2 - 1)) < (l0_3.length : Int) then (if ((Op.bytesLess (((rd_T82 l0_3 (wrap64 (x3_2 - 1))).f0).toList) (((rd_T82 l0_3 x3_2).f0).toList)) = true) then (spec_BackupOK.l0 k2 (wrap64 (x3_2 + 1)) a0_0 a0_1 a0_2 l0_3 a0_4) else (some false)) else (none)) else (none)) else (spec_BackupOK.l0 k2 (wrap64 (x3_2 + 1)) a0_0 a0_1 a0_2 l0_3 a0_4)) else (some false)) = some r := by rw [if_neg (show ¬ (false = true) by decide)] at H; exact H
             clear H
             have H := H1
             clear H1
             by_cases c76 : ((rd_T82 l0_3 x3_2).f2).toList = ([] : List UInt8)
             ·rw [if_pos c76] at H
              have c76b0 : (((rd_T82 l0_3 x3_2).f2).toList == ([] : List UInt8)) = true := beq_iff_eq.mpr c76
              have c76b1 : (((rd_T82 l0_3 x3_2).f2).toList != ([] : List UInt8)) = false := bne_eq_false_iff_eq.mpr c76
              clear c76
              by_cases c77 : x3_2 > 0
              ·rw [if_pos c77] at H
               have c77b0 : decide (0 < x3_2) = true := decide_eq_true c77
               clear c77
               obtain ⟨ji78, hji78⟩ : ∃ j_ : Int, (wrap64 (x3_2 - 1)) = j_ := ⟨_, rfl⟩
               replace H : (if 0 ≤ (ji78) then (if (ji78) < (l0_3.length : Int) then (if ((Op.bytesLess (((rd_T82 l0_3 (ji78)).f0).toList) (((rd_T82 l0_3 x3_2).f0).toList)) = true) then (spec_BackupOK.l0 k2 (wrap64 (x3_2 + 1)) a0_0 a0_1 a0_2 l0_3 a0_4) else (some false)) else (none)) else (none)) = some r := by first | (rw [hji78] at H; exact H) | (simp only [hji78] at H ⊢; exact H)
               (try rw [hji78] at A33)
               have hji78w : (IntKind.i64.wrap (x3_2 - 1)) = ji78 := (i64_w _).trans hji78
               by_cases c79 : 0 ≤ (ji78)
               ·rw [if_pos c79] at H
                have c79b0 : decide (0 ≤ (ji78)) = true := decide_eq_true c79
                clear c79
                by_cases c80 : (ji78) < (l0_3.length : Int)
                ·rw [if_pos c80] at H
                 have c80b0 : decide ((ji78) < (l0_3.length : Int)) = true := decide_eq_true c80
                 clear c80
                 by_cases c81 : ((Op.bytesLess (((rd_T82 l0_3 (ji78)).f0).toList) (((rd_T82 l0_3 x3_2).f0).toList)) = true)
                 ·rw [if_pos c81] at H
                  have c81b0 : (Op.bytesLess (((rd_T82 l0_3 (ji78)).f0).toList) (((rd_T82 l0_3 x3_2).f0).toList)) = true := c81
                  clear c81
                  have H' := Aside0.mk H
                  clear H
                  have hcz82_0 : wr.cell? ⟨gb540, 0, none⟩ = some (.string a0_0) := (blk_cell BK540.out 0).trans rfl
                  have hcz82_1 : wr.cell? ⟨gb540, 1, none⟩ = some (.string a0_1) := (blk_cell BK540.out 1).trans rfl
                  have hcz82_2 : wr.cell? ⟨gb540, 2, none⟩ = some (.int .i64 a0_2) := (blk_cell BK540.out 2).trans rfl
                  have hcz82_3 : wr.cell? ⟨gb540, 3, none⟩ = some (.slice A0_3 l0_3.length c0_3) := (blk_cell BK540.out 3).trans rfl
                  have hcz82_4 : wr.cell? ⟨gb540, 4, none⟩ = some (.int .i64 a0_4) := (blk_cell BK540.out 4).trans rfl
                  have hfz82_0 := blk_frozen BK540.out 0
                  have hfz82_1 := blk_frozen BK540.out 1
                  have hfz82_2 := blk_frozen BK540.out 2
                  have hfz82_3 := blk_frozen BK540.out 3
                  have hfz82_4 := blk_frozen BK540.out 4
                  have p548 : 0 ≤ (x3_2 : Int) := of_decide_eq_true (by first | (with_reducible assumption) | assumption)
                  have q548 : x3_2 < (l0_3.length : Int) := of_decide_eq_true (by first | (with_reducible assumption) | assumption)
                  obtain ⟨ad548, e548, hx548_0, hx548_1, hx548_2, hx548_3, hx548_4⟩ := at_T82 HR0_3.out x3_2 p548 q548
                  (try rw [← Nbq49.out] at hx548_3)
                  (try rw [← Nbq51.out] at hx548_3)
                  (try rw [← Nbq49.out] at hx548_4)
                  (try rw [← Nbq51.out] at hx548_4)
                  cases e548
                  replace hx548_0 := (HB.out.cell (World.block_lt_of_cell? w _ hx548_0)).trans hx548_0
                  replace hx548_1 := (HB.out.cell (World.block_lt_of_cell? w _ hx548_1)).trans hx548_1
                  replace hx548_2 := (HB.out.cell (World.block_lt_of_cell? w _ hx548_2)).trans hx548_2
                  replace hx548_3 := (HB.out.cell (World.block_lt_of_cell? w _ hx548_3)).trans hx548_3
                  replace hx548_4 := (HB.out.cell (World.block_lt_of_cell? w _ hx548_4)).trans hx548_4
                  replace p548 := eq_true p548
                  replace q548 := eq_true q548
                  try go_wp2_with (first | ((with_reducible refine gate_dst (N := 4) rfl ?_); (try (refine gate_guard (by rfl) ?_; dsimp only)); refine box_event ?hg (N := 4) ?hd (cs := #[.string (⟨#[]⟩ : ByteArray), .string (⟨#[]⟩ : ByteArray), .string (⟨#[]⟩ : ByteArray), .bool false, .bool false]) (t := 82) ?hr ?_; (case hd => rfl); (case hg => rfl); (case hr => first | (go_simp; done) | (go_simp; rfl)); intro gb549 hg w83 hbox hb; have n0_ := Aside0.mk (blk_below (g := gb540) (o := .cells #[.string a0_0, .string a0_1, .int .i64 a0_2, .slice (some ad548) l0_3.length c0_3, .int .i64 a0_4] 48 (0, 0)) (by (with_reducible repeat (first | refine blk_drewN ?_ _ | refine blk_drew ?_ | refine blk_alloc ?_ _)); exact BK540.out) hb); have n1_ := Aside0.mk (below_step (by repeat (first | (with_reducible first | exact HB.out | apply below_alloc | apply pw_below_drewN | apply below_drew1 | refine below_set ?_ GE540.out) | exact HB.out)) hb); have n2_ := Aside0.mk (hbox); have n3_ := Aside0.mk ((by rw [hg]; exact (below_size (by repeat (first | (with_reducible first | exact HB.out | apply below_alloc | apply pw_below_drewN | apply below_drew1 | refine below_set ?_ GE540.out) | exact HB.out))) : w.heap.size ≤ gb549)); have n4_ := Aside0.mk ((by rw [hg]; exact (below_size (by repeat (first | (with_reducible first | exact HB.out | apply below_alloc | apply pw_below_drewN | apply below_drew1 | refine below_set ?_ GE540.out) | exact HB.out))) : w.heap.size ≤ gb549)); have n5_ := Aside0.mk ((by rw [hg]; exact Nat.ne_of_lt (blk_lt (g := gb540) (o := .cells #[.string a0_0, .string a0_1, .int .i64 a0_2, .slice (some ad548) l0_3.length c0_3, .int .i64 a0_4] 48 (0, 0)) (by (with_reducible repeat (first | refine blk_drewN ?_ _ | refine blk_drew ?_ | refine blk_alloc ?_ _)); exact BK540.out)) : gb540 ≠ gb549)); have n6_ := Aside0.mk ((by rw [hg]; exact Nat.ne_of_gt (blk_lt (g := gb540) (o := .cells #[.string a0_0, .string a0_1, .int .i64 a0_2, .slice (some ad548) l0_3.length c0_3, .int .i64 a0_4] 48 (0, 0)) (by (with_reducible repeat (first | refine blk_drewN ?_ _ | refine blk_drew ?_ | refine blk_alloc ?_ _)); exact BK540.out)) : gb549 ≠ gb540)); clear BK540; clear HB; have BK540 := n0_; have HB := n1_; have BK549 := n2_; have GW549 := n3_; have GE549 := n4_; have NB540_549 := n5_; have NB549_540 := n6_; clear n0_ n1_ n2_ n3_ n4_ n5_ n6_; clear hb hbox hg; have hnb84 := NB549_540.out; have hnc84 := NB540_549.out; have hcz85_0 : w83.cell? ⟨gb549, 0, none⟩ = some (.string (⟨#[]⟩ : ByteArray)) := (blk_cell BK549.out 0).trans rfl; have hcz85_1 : w83.cell? ⟨gb549, 1, none⟩ = some (.string (⟨#[]⟩ : ByteArray)) := (blk_cell BK549.out 1).trans rfl; have hcz85_2 : w83.cell? ⟨gb549, 2, none⟩ = some (.string (⟨#[]⟩ : ByteArray)) := (blk_cell BK549.out 2).trans rfl; have hcz85_3 : w83.cell? ⟨gb549, 3, none⟩ = some (.bool false) := (blk_cell BK549.out 3).trans rfl; have hcz85_4 : w83.cell? ⟨gb549, 4, none⟩ = some (.bool false) := (blk_cell BK549.out 4).trans rfl; have hfz85_0 := blk_frozen BK549.out 0; have hfz85_1 := blk_frozen BK549.out 1; have hfz85_2 := blk_frozen BK549.out 2; have hfz85_3 := blk_frozen BK549.out 3; have hfz85_4 := blk_frozen BK549.out 4))
                  have n0_ : Aside0 ((((((w83.setCell ⟨gb549, 0, none⟩ (.string ((rd_T82 l0_3 x3_2).f0))).setCell ⟨gb549, 1, none⟩ (.string ((rd_T82 l0_3 x3_2).f1))).setCell ⟨gb549, 2, none⟩ (.string ((rd_T82 l0_3 x3_2).f2))).setCell ⟨gb549, 3, none⟩ (.bool true)).setCell ⟨gb549, 4, none⟩ (.bool false)).heap[gb540]? = some (.cells #[.string a0_0, .string a0_1, .int .i64 a0_2, .slice (some ad548) l0_3.length c0_3, .int .i64 a0_4] 48 (0, 0))) := ⟨by (with_reducible repeat (first | refine blk_drewN ?_ _ | refine blk_drew ?_ | refine blk_alloc ?_ _)); refine blk_far ?_ NB540_549.out _; (with_reducible repeat (first | refine blk_drewN ?_ _ | refine blk_drew ?_ | refine blk_alloc ?_ _)); refine blk_far ?_ NB540_549.out _; (with_reducible repeat (first | refine blk_drewN ?_ _ | refine blk_drew ?_ | refine blk_alloc ?_ _)); refine blk_far ?_ NB540_549.out _; (with_reducible repeat (first | refine blk_drewN ?_ _ | refine blk_drew ?_ | refine blk_alloc ?_ _)); refine blk_far ?_ NB540_549.out _; (with_reducible repeat (first | refine blk_drewN ?_ _ | refine blk_drew ?_ | refine blk_alloc ?_ _)); refine blk_far ?_ NB540_549.out _; (with_reducible repeat (first | refine blk_drewN ?_ _ | refine blk_drew ?_ | refine blk_alloc ?_ _)); exact BK540.out⟩
                  have n1_ : Aside0 ((((((w83.setCell ⟨gb549, 0, none⟩ (.string ((rd_T82 l0_3 x3_2).f0))).setCell ⟨gb549, 1, none⟩ (.string ((rd_T82 l0_3 x3_2).f1))).setCell ⟨gb549, 2, none⟩ (.string ((rd_T82 l0_3 x3_2).f2))).setCell ⟨gb549, 3, none⟩ (.bool true)).setCell ⟨gb549, 4, none⟩ (.bool false)).heap[gb549]? = some (.cells #[.string ((rd_T82 l0_3 x3_2).f0), .string ((rd_T82 l0_3 x3_2).f1), .string ((rd_T82 l0_3 x3_2).f2), .bool true, .bool false] 82 (0, 0))) := ⟨by (with_reducible repeat (first | refine blk_drewN ?_ _ | refine blk_drew ?_ | refine blk_alloc ?_ _)); refine blk_put (cs := #[.string ((rd_T82 l0_3 x3_2).f0), .string ((rd_T82 l0_3 x3_2).f1), .string ((rd_T82 l0_3 x3_2).f2), .bool true, .bool false]) ?_ 4 _ rfl; (with_reducible repeat (first | refine blk_drewN ?_ _ | refine blk_drew ?_ | refine blk_alloc ?_ _)); refine blk_put (cs := #[.string ((rd_T82 l0_3 x3_2).f0), .string ((rd_T82 l0_3 x3_2).f1), .string ((rd_T82 l0_3 x3_2).f2), .bool false, .bool false]) ?_ 3 _ rfl; (with_reducible repeat (first | refine blk_drewN ?_ _ | refine blk_drew ?_ | refine blk_alloc ?_ _)); refine blk_put (cs := #[.string ((rd_T82 l0_3 x3_2).f0), .string ((rd_T82 l0_3 x3_2).f1), .string (⟨#[]⟩ : ByteArray), .bool false, .bool false]) ?_ 2 _ rfl; (with_reducible repeat (first | refine blk_drewN ?_ _ | refine blk_drew ?_ | refine blk_alloc ?_ _)); refine blk_put (cs := #[.string ((rd_T82 l0_3 x3_2).f0), .string (⟨#[]⟩ : ByteArray), .string (⟨#[]⟩ : ByteArray), .bool false, .bool false]) ?_ 1 _ rfl; (with_reducible repeat (first | refine blk_drewN ?_ _ | refine blk_drew ?_ | refine blk_alloc ?_ _)); refine blk_put (cs := #[.string (⟨#[]⟩ : ByteArray), .string (⟨#[]⟩ : ByteArray), .string (⟨#[]⟩ : ByteArray), .bool false, .bool false]) ?_ 0 _ rfl; (with_reducible repeat (first | refine blk_drewN ?_ _ | refine blk_drew ?_ | refine blk_alloc ?_ _)); exact BK549.out⟩
                  have n2_ : Aside0 (Below w.heap.size w (((((w83.setCell ⟨gb549, 0, none⟩ (.string ((rd_T82 l0_3 x3_2).f0))).setCell ⟨gb549, 1, none⟩ (.string ((rd_T82 l0_3 x3_2).f1))).setCell ⟨gb549, 2, none⟩ (.string ((rd_T82 l0_3 x3_2).f2))).setCell ⟨gb549, 3, none⟩ (.bool true)).setCell ⟨gb549, 4, none⟩ (.bool false))) := ⟨by repeat (first | (with_reducible first | exact HB.out | apply below_alloc | apply pw_below_drewN | apply below_drew1 | refine below_set ?_ GE540.out | refine below_set ?_ GE549.out) | exact HB.out)⟩
                  (try clear BK540)
                  (try clear BK549)
                  (try clear HB)
                  generalize (((((w83.setCell ⟨gb549, 0, none⟩ (.string ((rd_T82 l0_3 x3_2).f0))).setCell ⟨gb549, 1, none⟩ (.string ((rd_T82 l0_3 x3_2).f1))).setCell ⟨gb549, 2, none⟩ (.string ((rd_T82 l0_3 x3_2).f2))).setCell ⟨gb549, 3, none⟩ (.bool true)).setCell ⟨gb549, 4, none⟩ (.bool false)) = w86 at n0_ n1_ n2_ ⊢
                  have BK540 := n0_
                  have BK549 := n1_
                  have HB := n2_
                  clear n0_ n1_ n2_
                  have n0_ := Aside0.mk (blk_drew BK540.out)
                  have n1_ := Aside0.mk (blk_drew BK549.out)
                  have n2_ := Aside0.mk (below_drew1 HB.out)
                  clear BK540
                  clear BK549
                  clear HB
                  have BK540 := n0_
                  have BK549 := n1_
                  have HB := n2_
                  clear n0_ n1_ n2_
                  have p552 : 0 ≤ ((ji78) : Int) := of_decide_eq_true (by first | (with_reducible assumption) | assumption)
                  have q552 : (ji78) < (l0_3.length : Int) := of_decide_eq_true (by first | (with_reducible assumption) | assumption)
                  obtain ⟨ad552, e552, hx552_0, hx552_1, hx552_2, hx552_3, hx552_4⟩ := at_T82 HR0_3.out (ji78) p552 q552
                  have hw552_4 := hx552_4
                  have hw552_3 := hx552_3
                  have hw552_2 := hx552_2
                  have hw552_1 := hx552_1
                  have hw552_0 := hx552_0
                  (try rw [← Nbq49.out] at hx552_3)
                  (try rw [← Nbq51.out] at hx552_3)
                  (try rw [← Nbq49.out] at hx552_4)
                  (try rw [← Nbq51.out] at hx552_4)
                  obtain rfl : ad548 = ad552 := (by injection e552)
                  replace hx552_0 := (HB.out.cell (World.block_lt_of_cell? w _ hx552_0)).trans hx552_0
                  replace hx552_1 := (HB.out.cell (World.block_lt_of_cell? w _ hx552_1)).trans hx552_1
                  replace hx552_2 := (HB.out.cell (World.block_lt_of_cell? w _ hx552_2)).trans hx552_2
                  replace hx552_3 := (HB.out.cell (World.block_lt_of_cell? w _ hx552_3)).trans hx552_3
                  replace hx552_4 := (HB.out.cell (World.block_lt_of_cell? w _ hx552_4)).trans hx552_4
                  replace p552 := eq_true p552
                  replace q552 := eq_true q552
                  refine wp_region_later (by kernel_rfl) (by kernel_rfl) ?_
                  have hL0_ := Aside0.mk (show w86.drew.cell? ⟨gb549, 0, none⟩ = some (.string ((rd_T82 l0_3 x3_2).f0)) from (blk_cell BK549.out 0).trans rfl)
                  have hL1_ := Aside0.mk (show w86.drew.cell? ⟨gb549, 1, none⟩ = some (.string ((rd_T82 l0_3 x3_2).f1)) from (blk_cell BK549.out 1).trans rfl)
                  have hL2_ := Aside0.mk (show w86.drew.cell? ⟨gb549, 2, none⟩ = some (.string ((rd_T82 l0_3 x3_2).f2)) from (blk_cell BK549.out 2).trans rfl)
                  have hL3_ := Aside0.mk (show w86.drew.cell? ⟨gb549, 3, none⟩ = some (.bool true) from (blk_cell BK549.out 3).trans rfl)
                  have hL4_ := Aside0.mk (show w86.drew.cell? ⟨gb549, 4, none⟩ = some (.bool false) from (blk_cell BK549.out 4).trans rfl)
                  have hL5_ := Aside0.mk (show w86.drew.cell? ⟨gb540, 0, none⟩ = some (.string a0_0) from (blk_cell BK540.out 0).trans rfl)
                  have hL6_ := Aside0.mk (show w86.drew.cell? ⟨gb540, 1, none⟩ = some (.string a0_1) from (blk_cell BK540.out 1).trans rfl)
                  have hL7_ := Aside0.mk (show w86.drew.cell? ⟨gb540, 2, none⟩ = some (.int .i64 a0_2) from (blk_cell BK540.out 2).trans rfl)
                  have hL8_ := Aside0.mk (show w86.drew.cell? ⟨gb540, 3, none⟩ = some (.slice (some ad548) l0_3.length c0_3) from (blk_cell BK540.out 3).trans rfl)
                  have hL9_ := Aside0.mk (show w86.drew.cell? ⟨gb540, 4, none⟩ = some (.int .i64 a0_4) from (blk_cell BK540.out 4).trans rfl)
                  have hL10_ := Aside0.mk (show w86.drew.cell? (ad548.add (((ji78)).toNat * 5)) = some (.string ((rd_T82 l0_3 (ji78)).f0)) from ((HB.out.cell (World.block_lt_of_cell? w _ hw552_0)).trans hw552_0))
                  have hL11_ := Aside0.mk (show w86.drew.cell? ⟨(ad548.add (((ji78)).toNat * 5)).block, (ad548.add (((ji78)).toNat * 5)).off + 1, none⟩ = some (.string ((rd_T82 l0_3 (ji78)).f1)) from ((HB.out.cell (World.block_lt_of_cell? w _ hw552_1)).trans hw552_1))
                  have hL12_ := Aside0.mk (show w86.drew.cell? ⟨(ad548.add (((ji78)).toNat * 5)).block, (ad548.add (((ji78)).toNat * 5)).off + 2, none⟩ = some (.string ((rd_T82 l0_3 (ji78)).f2)) from ((HB.out.cell (World.block_lt_of_cell? w _ hw552_2)).trans hw552_2))
                  have hL13_ := Aside0.mk (show w86.drew.cell? ⟨(ad548.add (((ji78)).toNat * 5)).block, (ad548.add (((ji78)).toNat * 5)).off + 3, none⟩ = some (.bool ((rd_T82 l0_3 (ji78)).f3)) from ((HB.out.cell (World.block_lt_of_cell? w _ hw552_3)).trans hw552_3))
                  have hL14_ := Aside0.mk (show w86.drew.cell? ⟨(ad548.add (((ji78)).toNat * 5)).block, (ad548.add (((ji78)).toNat * 5)).off + 4, none⟩ = some (.bool ((rd_T82 l0_3 (ji78)).f4)) from ((HB.out.cell (World.block_lt_of_cell? w _ hw552_4)).trans hw552_4))
                  generalize w86.drew = w87b at BK540 BK549 HB hx552_0 hx552_1 hx552_2 hx552_3 hx552_4 hL0_ hL1_ hL2_ hL3_ hL4_ hL5_ hL6_ hL7_ hL8_ hL9_ hL10_ hL11_ hL12_ hL13_ hL14_ ⊢
                  clear hx552_0 hx552_1 hx552_2 hx552_3 hx552_4
                  have hL0 := fun (p_ : Later w87b) => Later.cell p_ hL0_.out
                  have hL1 := fun (p_ : Later w87b) => Later.cell p_ hL1_.out
                  have hL2 := fun (p_ : Later w87b) => Later.cell p_ hL2_.out
                  have hL3 := fun (p_ : Later w87b) => Later.cell p_ hL3_.out
                  have hL4 := fun (p_ : Later w87b) => Later.cell p_ hL4_.out
                  have hL5 := fun (p_ : Later w87b) => Later.cell p_ hL5_.out
                  have hL6 := fun (p_ : Later w87b) => Later.cell p_ hL6_.out
                  have hL7 := fun (p_ : Later w87b) => Later.cell p_ hL7_.out
                  have hL8 := fun (p_ : Later w87b) => Later.cell p_ hL8_.out
                  have hL9 := fun (p_ : Later w87b) => Later.cell p_ hL9_.out
                  have hL10 := fun (p_ : Later w87b) => Later.cell p_ hL10_.out
                  have hL11 := fun (p_ : Later w87b) => Later.cell p_ hL11_.out
                  have hL12 := fun (p_ : Later w87b) => Later.cell p_ hL12_.out
                  have hL13 := fun (p_ : Later w87b) => Later.cell p_ hL13_.out
                  have hL14 := fun (p_ : Later w87b) => Later.cell p_ hL14_.out
                  clear hL0_ hL1_ hL2_ hL3_ hL4_ hL5_ hL6_ hL7_ hL8_ hL9_ hL10_ hL11_ hL12_ hL13_ hL14_
                  repeat (first | go_big_quiet_step ((first | (go_at_call 65; exact Calls.later_drawn (spec_l01In.calls (((rd_T82 l0_3 x3_2).f0).size : Int) 1 30 true _ A33.out)))) | quiet_step ((first | (go_at_call 65; exact Calls.later_drawn (spec_l01In.calls (((rd_T82 l0_3 x3_2).f0).size : Int) 1 30 true _ A33.out)))))
                  refine wpQuiet_nil ?_
                  rintro w87 ⟨⟨wq_, hbL⟩, hq_⟩
                  have hq2_ : w87 = wq_ := hq_
                  clear hq_
                  subst hq2_
                  clear hL0 hL1 hL2 hL3 hL4 hL5 hL6 hL7 hL8 hL9 hL10 hL11 hL12 hL13 hL14
                  have nBK540_ := Aside0.mk ((hbL.block _ (blk_lt BK540.out)).trans BK540.out)
                  have nBK549_ := Aside0.mk ((hbL.block _ (blk_lt BK549.out)).trans BK549.out)
                  have nHB_ := Aside0.mk (below_step HB.out hbL)
                  clear BK540
                  clear BK549
                  clear HB
                  have BK540 := nBK540_
                  have BK549 := nBK549_
                  have HB := nHB_
                  clear nBK540_
                  clear nBK549_
                  clear nHB_
                  clear hbL
                  try go_wp2
                  go_roundg k2
                  case measure => have := HJ1.out; have := HK2.out; omega
                  case rel => exact ⟨(wrap64 (x3_2 + 1)), (by first | rfl | (simp; done) | (simp [*]; done)), H', ⟨by have := HJ1.out; have := HK2.out; omega⟩, ⟨by (with_reducible repeat (first | refine blk_drewN ?_ _ | refine blk_drew ?_ | refine blk_alloc ?_ _)); exact BK540.out⟩, ⟨by repeat (first | (with_reducible first | exact HB.out | apply below_alloc | apply pw_below_drewN | apply below_drew1 | refine below_set ?_ GE540.out | refine below_set ?_ GE549.out) | exact HB.out)⟩⟩
                 ·rw [if_neg c81] at H
                  have c81b0 : (Op.bytesLess (((rd_T82 l0_3 (ji78)).f0).toList) (((rd_T82 l0_3 x3_2).f0).toList)) = false := by simpa using c81
                  clear c81
                  obtain rfl := Option.some.inj H
                  have hcz88_0 : wr.cell? ⟨gb540, 0, none⟩ = some (.string a0_0) := (blk_cell BK540.out 0).trans rfl
                  have hcz88_1 : wr.cell? ⟨gb540, 1, none⟩ = some (.string a0_1) := (blk_cell BK540.out 1).trans rfl
                  have hcz88_2 : wr.cell? ⟨gb540, 2, none⟩ = some (.int .i64 a0_2) := (blk_cell BK540.out 2).trans rfl
                  have hcz88_3 : wr.cell? ⟨gb540, 3, none⟩ = some (.slice A0_3 l0_3.length c0_3) := (blk_cell BK540.out 3).trans rfl
                  have hcz88_4 : wr.cell? ⟨gb540, 4, none⟩ = some (.int .i64 a0_4) := (blk_cell BK540.out 4).trans rfl
                  have hfz88_0 := blk_frozen BK540.out 0
                  have hfz88_1 := blk_frozen BK540.out 1
                  have hfz88_2 := blk_frozen BK540.out 2
                  have hfz88_3 := blk_frozen BK540.out 3
                  have hfz88_4 := blk_frozen BK540.out 4
                  have p548 : 0 ≤ (x3_2 : Int) := of_decide_eq_true (by first | (with_reducible assumption) | assumption)
                  have q548 : x3_2 < (l0_3.length : Int) := of_decide_eq_true (by first | (with_reducible assumption) | assumption)
                  obtain ⟨ad548, e548, hx548_0, hx548_1, hx548_2, hx548_3, hx548_4⟩ := at_T82 HR0_3.out x3_2 p548 q548
                  (try rw [← Nbq49.out] at hx548_3)
                  (try rw [← Nbq51.out] at hx548_3)
                  (try rw [← Nbq49.out] at hx548_4)
                  (try rw [← Nbq51.out] at hx548_4)
                  cases e548
                  replace hx548_0 := (HB.out.cell (World.block_lt_of_cell? w _ hx548_0)).trans hx548_0
                  replace hx548_1 := (HB.out.cell (World.block_lt_of_cell? w _ hx548_1)).trans hx548_1
                  replace hx548_2 := (HB.out.cell (World.block_lt_of_cell? w _ hx548_2)).trans hx548_2
                  replace hx548_3 := (HB.out.cell (World.block_lt_of_cell? w _ hx548_3)).trans hx548_3
                  replace hx548_4 := (HB.out.cell (World.block_lt_of_cell? w _ hx548_4)).trans hx548_4
                  replace p548 := eq_true p548
                  replace q548 := eq_true q548
                  try go_wp2_with (first | ((with_reducible refine gate_dst (N := 4) rfl ?_); (try (refine gate_guard (by rfl) ?_; dsimp only)); refine box_event ?hg (N := 4) ?hd (cs := #[.string (⟨#[]⟩ : ByteArray), .string (⟨#[]⟩ : ByteArray), .string (⟨#[]⟩ : ByteArray), .bool false, .bool false]) (t := 82) ?hr ?_; (case hd => rfl); (case hg => rfl); (case hr => first | (go_simp; done) | (go_simp; rfl)); intro gb549 hg w89 hbox hb; have n0_ := Aside0.mk (blk_below (g := gb540) (o := .cells #[.string a0_0, .string a0_1, .int .i64 a0_2, .slice (some ad548) l0_3.length c0_3, .int .i64 a0_4] 48 (0, 0)) (by (with_reducible repeat (first | refine blk_drewN ?_ _ | refine blk_drew ?_ | refine blk_alloc ?_ _)); exact BK540.out) hb); have n1_ := Aside0.mk (below_step (by repeat (first | (with_reducible first | exact HB.out | apply below_alloc | apply pw_below_drewN | apply below_drew1 | refine below_set ?_ GE540.out) | exact HB.out)) hb); have n2_ := Aside0.mk (hbox); have n3_ := Aside0.mk ((by rw [hg]; exact (below_size (by repeat (first | (with_reducible first | exact HB.out | apply below_alloc | apply pw_below_drewN | apply below_drew1 | refine below_set ?_ GE540.out) | exact HB.out))) : w.heap.size ≤ gb549)); have n4_ := Aside0.mk ((by rw [hg]; exact (below_size (by repeat (first | (with_reducible first | exact HB.out | apply below_alloc | apply pw_below_drewN | apply below_drew1 | refine below_set ?_ GE540.out) | exact HB.out))) : w.heap.size ≤ gb549)); have n5_ := Aside0.mk ((by rw [hg]; exact Nat.ne_of_lt (blk_lt (g := gb540) (o := .cells #[.string a0_0, .string a0_1, .int .i64 a0_2, .slice (some ad548) l0_3.length c0_3, .int .i64 a0_4] 48 (0, 0)) (by (with_reducible repeat (first | refine blk_drewN ?_ _ | refine blk_drew ?_ | refine blk_alloc ?_ _)); exact BK540.out)) : gb540 ≠ gb549)); have n6_ := Aside0.mk ((by rw [hg]; exact Nat.ne_of_gt (blk_lt (g := gb540) (o := .cells #[.string a0_0, .string a0_1, .int .i64 a0_2, .slice (some ad548) l0_3.length c0_3, .int .i64 a0_4] 48 (0, 0)) (by (with_reducible repeat (first | refine blk_drewN ?_ _ | refine blk_drew ?_ | refine blk_alloc ?_ _)); exact BK540.out)) : gb549 ≠ gb540)); clear BK540; clear HB; have BK540 := n0_; have HB := n1_; have BK549 := n2_; have GW549 := n3_; have GE549 := n4_; have NB540_549 := n5_; have NB549_540 := n6_; clear n0_ n1_ n2_ n3_ n4_ n5_ n6_; clear hb hbox hg; have hnb90 := NB549_540.out; have hnc90 := NB540_549.out; have hcz91_0 : w89.cell? ⟨gb549, 0, none⟩ = some (.string (⟨#[]⟩ : ByteArray)) := (blk_cell BK549.out 0).trans rfl; have hcz91_1 : w89.cell? ⟨gb549, 1, none⟩ = some (.string (⟨#[]⟩ : ByteArray)) := (blk_cell BK549.out 1).trans rfl; have hcz91_2 : w89.cell? ⟨gb549, 2, none⟩ = some (.string (⟨#[]⟩ : ByteArray)) := (blk_cell BK549.out 2).trans rfl; have hcz91_3 : w89.cell? ⟨gb549, 3, none⟩ = some (.bool false) := (blk_cell BK549.out 3).trans rfl; have hcz91_4 : w89.cell? ⟨gb549, 4, none⟩ = some (.bool false) := (blk_cell BK549.out 4).trans rfl; have hfz91_0 := blk_frozen BK549.out 0; have hfz91_1 := blk_frozen BK549.out 1; have hfz91_2 := blk_frozen BK549.out 2; have hfz91_3 := blk_frozen BK549.out 3; have hfz91_4 := blk_frozen BK549.out 4))
                  have n0_ : Aside0 ((((((w89.setCell ⟨gb549, 0, none⟩ (.string ((rd_T82 l0_3 x3_2).f0))).setCell ⟨gb549, 1, none⟩ (.string ((rd_T82 l0_3 x3_2).f1))).setCell ⟨gb549, 2, none⟩ (.string ((rd_T82 l0_3 x3_2).f2))).setCell ⟨gb549, 3, none⟩ (.bool true)).setCell ⟨gb549, 4, none⟩ (.bool false)).heap[gb540]? = some (.cells #[.string a0_0, .string a0_1, .int .i64 a0_2, .slice (some ad548) l0_3.length c0_3, .int .i64 a0_4] 48 (0, 0))) := ⟨by (with_reducible repeat (first | refine blk_drewN ?_ _ | refine blk_drew ?_ | refine blk_alloc ?_ _)); refine blk_far ?_ NB540_549.out _; (with_reducible repeat (first | refine blk_drewN ?_ _ | refine blk_drew ?_ | refine blk_alloc ?_ _)); refine blk_far ?_ NB540_549.out _; (with_reducible repeat (first | refine blk_drewN ?_ _ | refine blk_drew ?_ | refine blk_alloc ?_ _)); refine blk_far ?_ NB540_549.out _; (with_reducible repeat (first | refine blk_drewN ?_ _ | refine blk_drew ?_ | refine blk_alloc ?_ _)); refine blk_far ?_ NB540_549.out _; (with_reducible repeat (first | refine blk_drewN ?_ _ | refine blk_drew ?_ | refine blk_alloc ?_ _)); refine blk_far ?_ NB540_549.out _; (with_reducible repeat (first | refine blk_drewN ?_ _ | refine blk_drew ?_ | refine blk_alloc ?_ _)); exact BK540.out⟩
                  have n1_ : Aside0 ((((((w89.setCell ⟨gb549, 0, none⟩ (.string ((rd_T82 l0_3 x3_2).f0))).setCell ⟨gb549, 1, none⟩ (.string ((rd_T82 l0_3 x3_2).f1))).setCell ⟨gb549, 2, none⟩ (.string ((rd_T82 l0_3 x3_2).f2))).setCell ⟨gb549, 3, none⟩ (.bool true)).setCell ⟨gb549, 4, none⟩ (.bool false)).heap[gb549]? = some (.cells #[.string ((rd_T82 l0_3 x3_2).f0), .string ((rd_T82 l0_3 x3_2).f1), .string ((rd_T82 l0_3 x3_2).f2), .bool true, .bool false] 82 (0, 0))) := ⟨by (with_reducible repeat (first | refine blk_drewN ?_ _ | refine blk_drew ?_ | refine blk_alloc ?_ _)); refine blk_put (cs := #[.string ((rd_T82 l0_3 x3_2).f0), .string ((rd_T82 l0_3 x3_2).f1), .string ((rd_T82 l0_3 x3_2).f2), .bool true, .bool false]) ?_ 4 _ rfl; (with_reducible repeat (first | refine blk_drewN ?_ _ | refine blk_drew ?_ | refine blk_alloc ?_ _)); refine blk_put (cs := #[.string ((rd_T82 l0_3 x3_2).f0), .string ((rd_T82 l0_3 x3_2).f1), .string ((rd_T82 l0_3 x3_2).f2), .bool false, .bool false]) ?_ 3 _ rfl; (with_reducible repeat (first | refine blk_drewN ?_ _ | refine blk_drew ?_ | refine blk_alloc ?_ _)); refine blk_put (cs := #[.string ((rd_T82 l0_3 x3_2).f0), .string ((rd_T82 l0_3 x3_2).f1), .string (⟨#[]⟩ : ByteArray), .bool false, .bool false]) ?_ 2 _ rfl; (with_reducible repeat (first | refine blk_drewN ?_ _ | refine blk_drew ?_ | refine blk_alloc ?_ _)); refine blk_put (cs := #[.string ((rd_T82 l0_3 x3_2).f0), .string (⟨#[]⟩ : ByteArray), .string (⟨#[]⟩ : ByteArray), .bool false, .bool false]) ?_ 1 _ rfl; (with_reducible repeat (first | refine blk_drewN ?_ _ | refine blk_drew ?_ | refine blk_alloc ?_ _)); refine blk_put (cs := #[.string (⟨#[]⟩ : ByteArray), .string (⟨#[]⟩ : ByteArray), .string (⟨#[]⟩ : ByteArray), .bool false, .bool false]) ?_ 0 _ rfl; (with_reducible repeat (first | refine blk_drewN ?_ _ | refine blk_drew ?_ | refine blk_alloc ?_ _)); exact BK549.out⟩
                  have n2_ : Aside0 (Below w.heap.size w (((((w89.setCell ⟨gb549, 0, none⟩ (.string ((rd_T82 l0_3 x3_2).f0))).setCell ⟨gb549, 1, none⟩ (.string ((rd_T82 l0_3 x3_2).f1))).setCell ⟨gb549, 2, none⟩ (.string ((rd_T82 l0_3 x3_2).f2))).setCell ⟨gb549, 3, none⟩ (.bool true)).setCell ⟨gb549, 4, none⟩ (.bool false))) := ⟨by repeat (first | (with_reducible first | exact HB.out | apply below_alloc | apply pw_below_drewN | apply below_drew1 | refine below_set ?_ GE540.out | refine below_set ?_ GE549.out) | exact HB.out)⟩
                  (try clear BK540)
                  (try clear BK549)
                  (try clear HB)
                  generalize (((((w89.setCell ⟨gb549, 0, none⟩ (.string ((rd_T82 l0_3 x3_2).f0))).setCell ⟨gb549, 1, none⟩ (.string ((rd_T82 l0_3 x3_2).f1))).setCell ⟨gb549, 2, none⟩ (.string ((rd_T82 l0_3 x3_2).f2))).setCell ⟨gb549, 3, none⟩ (.bool true)).setCell ⟨gb549, 4, none⟩ (.bool false)) = w92 at n0_ n1_ n2_ ⊢
                  have BK540 := n0_
                  have BK549 := n1_
                  have HB := n2_
                  clear n0_ n1_ n2_
                  have n0_ := Aside0.mk (blk_drew BK540.out)
                  have n1_ := Aside0.mk (blk_drew BK549.out)
                  have n2_ := Aside0.mk (below_drew1 HB.out)
                  clear BK540
                  clear BK549
                  clear HB
                  have BK540 := n0_
                  have BK549 := n1_
                  have HB := n2_
                  clear n0_ n1_ n2_
                  have p552 : 0 ≤ ((ji78) : Int) := of_decide_eq_true (by first | (with_reducible assumption) | assumption)
                  have q552 : (ji78) < (l0_3.length : Int) := of_decide_eq_true (by first | (with_reducible assumption) | assumption)
                  obtain ⟨ad552, e552, hx552_0, hx552_1, hx552_2, hx552_3, hx552_4⟩ := at_T82 HR0_3.out (ji78) p552 q552
                  have hw552_4 := hx552_4
                  have hw552_3 := hx552_3
                  have hw552_2 := hx552_2
                  have hw552_1 := hx552_1
                  have hw552_0 := hx552_0
                  (try rw [← Nbq49.out] at hx552_3)
                  (try rw [← Nbq51.out] at hx552_3)
                  (try rw [← Nbq49.out] at hx552_4)
                  (try rw [← Nbq51.out] at hx552_4)
                  obtain rfl : ad548 = ad552 := (by injection e552)
                  replace hx552_0 := (HB.out.cell (World.block_lt_of_cell? w _ hx552_0)).trans hx552_0
                  replace hx552_1 := (HB.out.cell (World.block_lt_of_cell? w _ hx552_1)).trans hx552_1
                  replace hx552_2 := (HB.out.cell (World.block_lt_of_cell? w _ hx552_2)).trans hx552_2
                  replace hx552_3 := (HB.out.cell (World.block_lt_of_cell? w _ hx552_3)).trans hx552_3
                  replace hx552_4 := (HB.out.cell (World.block_lt_of_cell? w _ hx552_4)).trans hx552_4
                  replace p552 := eq_true p552
                  replace q552 := eq_true q552
                  refine wp_region_later (by kernel_rfl) (by kernel_rfl) ?_
                  have hL0_ := Aside0.mk (show w92.drew.cell? ⟨gb549, 0, none⟩ = some (.string ((rd_T82 l0_3 x3_2).f0)) from (blk_cell BK549.out 0).trans rfl)
                  have hL1_ := Aside0.mk (show w92.drew.cell? ⟨gb549, 1, none⟩ = some (.string ((rd_T82 l0_3 x3_2).f1)) from (blk_cell BK549.out 1).trans rfl)
                  have hL2_ := Aside0.mk (show w92.drew.cell? ⟨gb549, 2, none⟩ = some (.string ((rd_T82 l0_3 x3_2).f2)) from (blk_cell BK549.out 2).trans rfl)
                  have hL3_ := Aside0.mk (show w92.drew.cell? ⟨gb549, 3, none⟩ = some (.bool true) from (blk_cell BK549.out 3).trans rfl)
                  have hL4_ := Aside0.mk (show w92.drew.cell? ⟨gb549, 4, none⟩ = some (.bool false) from (blk_cell BK549.out 4).trans rfl)
                  have hL5_ := Aside0.mk (show w92.drew.cell? ⟨gb540, 0, none⟩ = some (.string a0_0) from (blk_cell BK540.out 0).trans rfl)
                  have hL6_ := Aside0.mk (show w92.drew.cell? ⟨gb540, 1, none⟩ = some (.string a0_1) from (blk_cell BK540.out 1).trans rfl)
                  have hL7_ := Aside0.mk (show w92.drew.cell? ⟨gb540, 2, none⟩ = some (.int .i64 a0_2) from (blk_cell BK540.out 2).trans rfl)
                  have hL8_ := Aside0.mk (show w92.drew.cell? ⟨gb540, 3, none⟩ = some (.slice (some ad548) l0_3.length c0_3) from (blk_cell BK540.out 3).trans rfl)
                  have hL9_ := Aside0.mk (show w92.drew.cell? ⟨gb540, 4, none⟩ = some (.int .i64 a0_4) from (blk_cell BK540.out 4).trans rfl)
                  have hL10_ := Aside0.mk (show w92.drew.cell? (ad548.add (((ji78)).toNat * 5)) = some (.string ((rd_T82 l0_3 (ji78)).f0)) from ((HB.out.cell (World.block_lt_of_cell? w _ hw552_0)).trans hw552_0))
                  have hL11_ := Aside0.mk (show w92.drew.cell? ⟨(ad548.add (((ji78)).toNat * 5)).block, (ad548.add (((ji78)).toNat * 5)).off + 1, none⟩ = some (.string ((rd_T82 l0_3 (ji78)).f1)) from ((HB.out.cell (World.block_lt_of_cell? w _ hw552_1)).trans hw552_1))
                  have hL12_ := Aside0.mk (show w92.drew.cell? ⟨(ad548.add (((ji78)).toNat * 5)).block, (ad548.add (((ji78)).toNat * 5)).off + 2, none⟩ = some (.string ((rd_T82 l0_3 (ji78)).f2)) from ((HB.out.cell (World.block_lt_of_cell? w _ hw552_2)).trans hw552_2))
                  have hL13_ := Aside0.mk (show w92.drew.cell? ⟨(ad548.add (((ji78)).toNat * 5)).block, (ad548.add (((ji78)).toNat * 5)).off + 3, none⟩ = some (.bool ((rd_T82 l0_3 (ji78)).f3)) from ((HB.out.cell (World.block_lt_of_cell? w _ hw552_3)).trans hw552_3))
                  have hL14_ := Aside0.mk (show w92.drew.cell? ⟨(ad548.add (((ji78)).toNat * 5)).block, (ad548.add (((ji78)).toNat * 5)).off + 4, none⟩ = some (.bool ((rd_T82 l0_3 (ji78)).f4)) from ((HB.out.cell (World.block_lt_of_cell? w _ hw552_4)).trans hw552_4))
                  generalize w92.drew = w93b at BK540 BK549 HB hx552_0 hx552_1 hx552_2 hx552_3 hx552_4 hL0_ hL1_ hL2_ hL3_ hL4_ hL5_ hL6_ hL7_ hL8_ hL9_ hL10_ hL11_ hL12_ hL13_ hL14_ ⊢
                  clear hx552_0 hx552_1 hx552_2 hx552_3 hx552_4
                  have hL0 := fun (p_ : Later w93b) => Later.cell p_ hL0_.out
                  have hL1 := fun (p_ : Later w93b) => Later.cell p_ hL1_.out
                  have hL2 := fun (p_ : Later w93b) => Later.cell p_ hL2_.out
                  have hL3 := fun (p_ : Later w93b) => Later.cell p_ hL3_.out
                  have hL4 := fun (p_ : Later w93b) => Later.cell p_ hL4_.out
                  have hL5 := fun (p_ : Later w93b) => Later.cell p_ hL5_.out
                  have hL6 := fun (p_ : Later w93b) => Later.cell p_ hL6_.out
                  have hL7 := fun (p_ : Later w93b) => Later.cell p_ hL7_.out
                  have hL8 := fun (p_ : Later w93b) => Later.cell p_ hL8_.out
                  have hL9 := fun (p_ : Later w93b) => Later.cell p_ hL9_.out
                  have hL10 := fun (p_ : Later w93b) => Later.cell p_ hL10_.out
                  have hL11 := fun (p_ : Later w93b) => Later.cell p_ hL11_.out
                  have hL12 := fun (p_ : Later w93b) => Later.cell p_ hL12_.out
                  have hL13 := fun (p_ : Later w93b) => Later.cell p_ hL13_.out
                  have hL14 := fun (p_ : Later w93b) => Later.cell p_ hL14_.out
                  clear hL0_ hL1_ hL2_ hL3_ hL4_ hL5_ hL6_ hL7_ hL8_ hL9_ hL10_ hL11_ hL12_ hL13_ hL14_
                  repeat (first | go_big_quiet_step ((first | (go_at_call 65; exact Calls.later_drawn (spec_l01In.calls (((rd_T82 l0_3 x3_2).f0).size : Int) 1 30 true _ A33.out)))) | quiet_step ((first | (go_at_call 65; exact Calls.later_drawn (spec_l01In.calls (((rd_T82 l0_3 x3_2).f0).size : Int) 1 30 true _ A33.out)))))
                  refine wpQuiet_nil ?_
                  rintro w93 ⟨⟨wq_, hbL⟩, hq_⟩
                  have hq2_ : w93 = wq_ := hq_
                  clear hq_
                  subst hq2_
                  clear hL0 hL1 hL2 hL3 hL4 hL5 hL6 hL7 hL8 hL9 hL10 hL11 hL12 hL13 hL14
                  have nBK540_ := Aside0.mk ((hbL.block _ (blk_lt BK540.out)).trans BK540.out)
                  have nBK549_ := Aside0.mk ((hbL.block _ (blk_lt BK549.out)).trans BK549.out)
                  have nHB_ := Aside0.mk (below_step HB.out hbL)
                  clear BK540
                  clear BK549
                  clear HB
                  have BK540 := nBK540_
                  have BK549 := nBK549_
                  have HB := nHB_
                  clear nBK540_
                  clear nBK549_
                  clear nHB_
                  clear hbL
                  try go_wp2
                  go_ret
                  exact ⟨by first | rfl | (simp [errW_none, errW_some] <;> rfl) | (simp only [← hji78]; first | rfl | (simp [errW_none, errW_some] <;> rfl)) | (simp [*, errW_none, errW_some] <;> rfl), by repeat (first | (with_reducible first | exact HB.out | apply below_alloc | apply pw_below_drewN | apply below_drew1 | refine below_set ?_ GE540.out | refine below_set ?_ GE549.out) | exact HB.out)⟩
                ·rw [if_neg c80] at H
                 exact absurd H (by simp)
               ·rw [if_neg c79] at H
                exact absurd H (by simp)
              ·rw [if_neg c77] at H
               have c77b0 : decide (0 < x3_2) = false := decide_eq_false c77
               clear c77
               have H' := Aside0.mk H
               clear H
               have hcz94_0 : wr.cell? ⟨gb540, 0, none⟩ = some (.string a0_0) := (blk_cell BK540.out 0).trans rfl
               have hcz94_1 : wr.cell? ⟨gb540, 1, none⟩ = some (.string a0_1) := (blk_cell BK540.out 1).trans rfl
               have hcz94_2 : wr.cell? ⟨gb540, 2, none⟩ = some (.int .i64 a0_2) := (blk_cell BK540.out 2).trans rfl
               have hcz94_3 : wr.cell? ⟨gb540, 3, none⟩ = some (.slice A0_3 l0_3.length c0_3) := (blk_cell BK540.out 3).trans rfl
               have hcz94_4 : wr.cell? ⟨gb540, 4, none⟩ = some (.int .i64 a0_4) := (blk_cell BK540.out 4).trans rfl
               have hfz94_0 := blk_frozen BK540.out 0
               have hfz94_1 := blk_frozen BK540.out 1
               have hfz94_2 := blk_frozen BK540.out 2
               have hfz94_3 := blk_frozen BK540.out 3
               have hfz94_4 := blk_frozen BK540.out 4
               have p548 : 0 ≤ (x3_2 : Int) := of_decide_eq_true (by first | (with_reducible assumption) | assumption)
               have q548 : x3_2 < (l0_3.length : Int) := of_decide_eq_true (by first | (with_reducible assumption) | assumption)
               obtain ⟨ad548, e548, hx548_0, hx548_1, hx548_2, hx548_3, hx548_4⟩ := at_T82 HR0_3.out x3_2 p548 q548
               (try rw [← Nbq49.out] at hx548_3)
               (try rw [← Nbq51.out] at hx548_3)
               (try rw [← Nbq49.out] at hx548_4)
               (try rw [← Nbq51.out] at hx548_4)
               cases e548
               replace hx548_0 := (HB.out.cell (World.block_lt_of_cell? w _ hx548_0)).trans hx548_0
               replace hx548_1 := (HB.out.cell (World.block_lt_of_cell? w _ hx548_1)).trans hx548_1
               replace hx548_2 := (HB.out.cell (World.block_lt_of_cell? w _ hx548_2)).trans hx548_2
               replace hx548_3 := (HB.out.cell (World.block_lt_of_cell? w _ hx548_3)).trans hx548_3
               replace hx548_4 := (HB.out.cell (World.block_lt_of_cell? w _ hx548_4)).trans hx548_4
               replace p548 := eq_true p548
               replace q548 := eq_true q548
               try go_wp2_with (first | ((with_reducible refine gate_dst (N := 4) rfl ?_); (try (refine gate_guard (by rfl) ?_; dsimp only)); refine box_event ?hg (N := 4) ?hd (cs := #[.string (⟨#[]⟩ : ByteArray), .string (⟨#[]⟩ : ByteArray), .string (⟨#[]⟩ : ByteArray), .bool false, .bool false]) (t := 82) ?hr ?_; (case hd => rfl); (case hg => rfl); (case hr => first | (go_simp; done) | (go_simp; rfl)); intro gb549 hg w95 hbox hb; have n0_ := Aside0.mk (blk_below (g := gb540) (o := .cells #[.string a0_0, .string a0_1, .int .i64 a0_2, .slice (some ad548) l0_3.length c0_3, .int .i64 a0_4] 48 (0, 0)) (by (with_reducible repeat (first | refine blk_drewN ?_ _ | refine blk_drew ?_ | refine blk_alloc ?_ _)); exact BK540.out) hb); have n1_ := Aside0.mk (below_step (by repeat (first | (with_reducible first | exact HB.out | apply below_alloc | apply pw_below_drewN | apply below_drew1 | refine below_set ?_ GE540.out) | exact HB.out)) hb); have n2_ := Aside0.mk (hbox); have n3_ := Aside0.mk ((by rw [hg]; exact (below_size (by repeat (first | (with_reducible first | exact HB.out | apply below_alloc | apply pw_below_drewN | apply below_drew1 | refine below_set ?_ GE540.out) | exact HB.out))) : w.heap.size ≤ gb549)); have n4_ := Aside0.mk ((by rw [hg]; exact (below_size (by repeat (first | (with_reducible first | exact HB.out | apply below_alloc | apply pw_below_drewN | apply below_drew1 | refine below_set ?_ GE540.out) | exact HB.out))) : w.heap.size ≤ gb549)); have n5_ := Aside0.mk ((by rw [hg]; exact Nat.ne_of_lt (blk_lt (g := gb540) (o := .cells #[.string a0_0, .string a0_1, .int .i64 a0_2, .slice (some ad548) l0_3.length c0_3, .int .i64 a0_4] 48 (0, 0)) (by (with_reducible repeat (first | refine blk_drewN ?_ _ | refine blk_drew ?_ | refine blk_alloc ?_ _)); exact BK540.out)) : gb540 ≠ gb549)); have n6_ := Aside0.mk ((by rw [hg]; exact Nat.ne_of_gt (blk_lt (g := gb540) (o := .cells #[.string a0_0, .string a0_1, .int .i64 a0_2, .slice (some ad548) l0_3.length c0_3, .int .i64 a0_4] 48 (0, 0)) (by (with_reducible repeat (first | refine blk_drewN ?_ _ | refine blk_drew ?_ | refine blk_alloc ?_ _)); exact BK540.out)) : gb549 ≠ gb540)); clear BK540; clear HB; have BK540 := n0_; have HB := n1_; have BK549 := n2_; have GW549 := n3_; have GE549 := n4_; have NB540_549 := n5_; have NB549_540 := n6_; clear n0_ n1_ n2_ n3_ n4_ n5_ n6_; clear hb hbox hg; have hnb96 := NB549_540.out; have hnc96 := NB540_549.out; have hcz97_0 : w95.cell? ⟨gb549, 0, none⟩ = some (.string (⟨#[]⟩ : ByteArray)) := (blk_cell BK549.out 0).trans rfl; have hcz97_1 : w95.cell? ⟨gb549, 1, none⟩ = some (.string (⟨#[]⟩ : ByteArray)) := (blk_cell BK549.out 1).trans rfl; have hcz97_2 : w95.cell? ⟨gb549, 2, none⟩ = some (.string (⟨#[]⟩ : ByteArray)) := (blk_cell BK549.out 2).trans rfl; have hcz97_3 : w95.cell? ⟨gb549, 3, none⟩ = some (.bool false) := (blk_cell BK549.out 3).trans rfl; have hcz97_4 : w95.cell? ⟨gb549, 4, none⟩ = some (.bool false) := (blk_cell BK549.out 4).trans rfl; have hfz97_0 := blk_frozen BK549.out 0; have hfz97_1 := blk_frozen BK549.out 1; have hfz97_2 := blk_frozen BK549.out 2; have hfz97_3 := blk_frozen BK549.out 3; have hfz97_4 := blk_frozen BK549.out 4))
               have n0_ : Aside0 ((((((w95.setCell ⟨gb549, 0, none⟩ (.string ((rd_T82 l0_3 x3_2).f0))).setCell ⟨gb549, 1, none⟩ (.string ((rd_T82 l0_3 x3_2).f1))).setCell ⟨gb549, 2, none⟩ (.string ((rd_T82 l0_3 x3_2).f2))).setCell ⟨gb549, 3, none⟩ (.bool true)).setCell ⟨gb549, 4, none⟩ (.bool false)).heap[gb540]? = some (.cells #[.string a0_0, .string a0_1, .int .i64 a0_2, .slice (some ad548) l0_3.length c0_3, .int .i64 a0_4] 48 (0, 0))) := ⟨by (with_reducible repeat (first | refine blk_drewN ?_ _ | refine blk_drew ?_ | refine blk_alloc ?_ _)); refine blk_far ?_ NB540_549.out _; (with_reducible repeat (first | refine blk_drewN ?_ _ | refine blk_drew ?_ | refine blk_alloc ?_ _)); refine blk_far ?_ NB540_549.out _; (with_reducible repeat (first | refine blk_drewN ?_ _ | refine blk_drew ?_ | refine blk_alloc ?_ _)); refine blk_far ?_ NB540_549.out _; (with_reducible repeat (first | refine blk_drewN ?_ _ | refine blk_drew ?_ | refine blk_alloc ?_ _)); refine blk_far ?_ NB540_549.out _; (with_reducible repeat (first | refine blk_drewN ?_ _ | refine blk_drew ?_ | refine blk_alloc ?_ _)); refine blk_far ?_ NB540_549.out _; (with_reducible repeat (first | refine blk_drewN ?_ _ | refine blk_drew ?_ | refine blk_alloc ?_ _)); exact BK540.out⟩
               have n1_ : Aside0 ((((((w95.setCell ⟨gb549, 0, none⟩ (.string ((rd_T82 l0_3 x3_2).f0))).setCell ⟨gb549, 1, none⟩ (.string ((rd_T82 l0_3 x3_2).f1))).setCell ⟨gb549, 2, none⟩ (.string ((rd_T82 l0_3 x3_2).f2))).setCell ⟨gb549, 3, none⟩ (.bool true)).setCell ⟨gb549, 4, none⟩ (.bool false)).heap[gb549]? = some (.cells #[.string ((rd_T82 l0_3 x3_2).f0), .string ((rd_T82 l0_3 x3_2).f1), .string ((rd_T82 l0_3 x3_2).f2), .bool true, .bool false] 82 (0, 0))) := ⟨by (with_reducible repeat (first | refine blk_drewN ?_ _ | refine blk_drew ?_ | refine blk_alloc ?_ _)); refine blk_put (cs := #[.string ((rd_T82 l0_3 x3_2).f0), .string ((rd_T82 l0_3 x3_2).f1), .string ((rd_T82 l0_3 x3_2).f2), .bool true, .bool false]) ?_ 4 _ rfl; (with_reducible repeat (first | refine blk_drewN ?_ _ | refine blk_drew ?_ | refine blk_alloc ?_ _)); refine blk_put (cs := #[.string ((rd_T82 l0_3 x3_2).f0), .string ((rd_T82 l0_3 x3_2).f1), .string ((rd_T82 l0_3 x3_2).f2), .bool false, .bool false]) ?_ 3 _ rfl; (with_reducible repeat (first | refine blk_drewN ?_ _ | refine blk_drew ?_ | refine blk_alloc ?_ _)); refine blk_put (cs := #[.string ((rd_T82 l0_3 x3_2).f0), .string ((rd_T82 l0_3 x3_2).f1), .string (⟨#[]⟩ : ByteArray), .bool false, .bool false]) ?_ 2 _ rfl; (with_reducible repeat (first | refine blk_drewN ?_ _ | refine blk_drew ?_ | refine blk_alloc ?_ _)); refine blk_put (cs := #[.string ((rd_T82 l0_3 x3_2).f0), .string (⟨#[]⟩ : ByteArray), .string (⟨#[]⟩ : ByteArray), .bool false, .bool false]) ?_ 1 _ rfl; (with_reducible repeat (first | refine blk_drewN ?_ _ | refine blk_drew ?_ | refine blk_alloc ?_ _)); refine blk_put (cs := #[.string (⟨#[]⟩ : ByteArray), .string (⟨#[]⟩ : ByteArray), .string (⟨#[]⟩ : ByteArray), .bool false, .bool false]) ?_ 0 _ rfl; (with_reducible repeat (first | refine blk_drewN ?_ _ | refine blk_drew ?_ | refine blk_alloc ?_ _)); exact BK549.out⟩
               have n2_ : Aside0 (Below w.heap.size w (((((w95.setCell ⟨gb549, 0, none⟩ (.string ((rd_T82 l0_3 x3_2).f0))).setCell ⟨gb549, 1, none⟩ (.string ((rd_T82 l0_3 x3_2).f1))).setCell ⟨gb549, 2, none⟩ (.string ((rd_T82 l0_3 x3_2).f2))).setCell ⟨gb549, 3, none⟩ (.bool true)).setCell ⟨gb549, 4, none⟩ (.bool false))) := ⟨by repeat (first | (with_reducible first | exact HB.out | apply below_alloc | apply pw_below_drewN | apply below_drew1 | refine below_set ?_ GE540.out | refine below_set ?_ GE549.out) | exact HB.out)⟩
               (try clear BK540)
               (try clear BK549)
               (try clear HB)
               generalize (((((w95.setCell ⟨gb549, 0, none⟩ (.string ((rd_T82 l0_3 x3_2).f0))).setCell ⟨gb549, 1, none⟩ (.string ((rd_T82 l0_3 x3_2).f1))).setCell ⟨gb549, 2, none⟩ (.string ((rd_T82 l0_3 x3_2).f2))).setCell ⟨gb549, 3, none⟩ (.bool true)).setCell ⟨gb549, 4, none⟩ (.bool false)) = w98 at n0_ n1_ n2_ ⊢
               have BK540 := n0_
               have BK549 := n1_
               have HB := n2_
               clear n0_ n1_ n2_
               have n0_ := Aside0.mk (blk_drew BK540.out)
               have n1_ := Aside0.mk (blk_drew BK549.out)
               have n2_ := Aside0.mk (below_drew1 HB.out)
               clear BK540
               clear BK549
               clear HB
               have BK540 := n0_
               have BK549 := n1_
               have HB := n2_
               clear n0_ n1_ n2_
               refine wp_region_later (by kernel_rfl) (by kernel_rfl) ?_
               have hL0_ := Aside0.mk (show w98.drew.cell? ⟨gb549, 0, none⟩ = some (.string ((rd_T82 l0_3 x3_2).f0)) from (blk_cell BK549.out 0).trans rfl)
               have hL1_ := Aside0.mk (show w98.drew.cell? ⟨gb549, 1, none⟩ = some (.string ((rd_T82 l0_3 x3_2).f1)) from (blk_cell BK549.out 1).trans rfl)
               have hL2_ := Aside0.mk (show w98.drew.cell? ⟨gb549, 2, none⟩ = some (.string ((rd_T82 l0_3 x3_2).f2)) from (blk_cell BK549.out 2).trans rfl)
               have hL3_ := Aside0.mk (show w98.drew.cell? ⟨gb549, 3, none⟩ = some (.bool true) from (blk_cell BK549.out 3).trans rfl)
               have hL4_ := Aside0.mk (show w98.drew.cell? ⟨gb549, 4, none⟩ = some (.bool false) from (blk_cell BK549.out 4).trans rfl)
               generalize w98.drew = w99b at BK540 BK549 HB hL0_ hL1_ hL2_ hL3_ hL4_ ⊢
               have hL0 := fun (p_ : Later w99b) => Later.cell p_ hL0_.out
               have hL1 := fun (p_ : Later w99b) => Later.cell p_ hL1_.out
               have hL2 := fun (p_ : Later w99b) => Later.cell p_ hL2_.out
               have hL3 := fun (p_ : Later w99b) => Later.cell p_ hL3_.out
               have hL4 := fun (p_ : Later w99b) => Later.cell p_ hL4_.out
               clear hL0_ hL1_ hL2_ hL3_ hL4_
               repeat (first | go_big_quiet_step ((first | (go_at_call 65; exact Calls.later_drawn (spec_l01In.calls (((rd_T82 l0_3 x3_2).f0).size : Int) 1 30 true _ A33.out)))) | quiet_step ((first | (go_at_call 65; exact Calls.later_drawn (spec_l01In.calls (((rd_T82 l0_3 x3_2).f0).size : Int) 1 30 true _ A33.out)))))
               refine wpQuiet_nil ?_
               rintro w99 ⟨⟨wq_, hbL⟩, hq_⟩
               have hq2_ : w99 = wq_ := hq_
               clear hq_
               subst hq2_
               clear hL0 hL1 hL2 hL3 hL4
               have nBK540_ := Aside0.mk ((hbL.block _ (blk_lt BK540.out)).trans BK540.out)
               have nBK549_ := Aside0.mk ((hbL.block _ (blk_lt BK549.out)).trans BK549.out)
               have nHB_ := Aside0.mk (below_step HB.out hbL)
               clear BK540
               clear BK549
               clear HB
               have BK540 := nBK540_
               have BK549 := nBK549_
               have HB := nHB_
               clear nBK540_
               clear nBK549_
               clear nHB_
               clear hbL
               try go_wp2
               go_roundg k2
               case measure => have := HJ1.out; have := HK2.out; omega
               case rel => exact ⟨(wrap64 (x3_2 + 1)), (by first | rfl | (simp; done) | (simp [*]; done)), H', ⟨by have := HJ1.out; have := HK2.out; omega⟩, ⟨by (with_reducible repeat (first | refine blk_drewN ?_ _ | refine blk_drew ?_ | refine blk_alloc ?_ _)); exact BK540.out⟩, ⟨by repeat (first | (with_reducible first | exact HB.out | apply below_alloc | apply pw_below_drewN | apply below_drew1 | refine below_set ?_ GE540.out | refine below_set ?_ GE549.out) | exact HB.out)⟩⟩
             ·rw [if_neg c76] at H
              have c76b0 : (((rd_T82 l0_3 x3_2).f2).toList == ([] : List UInt8)) = false := beq_eq_false_iff_ne.mpr c76
              have c76b1 : (((rd_T82 l0_3 x3_2).f2).toList != ([] : List UInt8)) = true := bne_iff_ne.mpr c76
              obtain rfl := Option.some.inj H
              have hcz100_0 : wr.cell? ⟨gb540, 0, none⟩ = some (.string a0_0) := (blk_cell BK540.out 0).trans rfl
              have hcz100_1 : wr.cell? ⟨gb540, 1, none⟩ = some (.string a0_1) := (blk_cell BK540.out 1).trans rfl
              have hcz100_2 : wr.cell? ⟨gb540, 2, none⟩ = some (.int .i64 a0_2) := (blk_cell BK540.out 2).trans rfl
              have hcz100_3 : wr.cell? ⟨gb540, 3, none⟩ = some (.slice A0_3 l0_3.length c0_3) := (blk_cell BK540.out 3).trans rfl
              have hcz100_4 : wr.cell? ⟨gb540, 4, none⟩ = some (.int .i64 a0_4) := (blk_cell BK540.out 4).trans rfl
              have hfz100_0 := blk_frozen BK540.out 0
              have hfz100_1 := blk_frozen BK540.out 1
              have hfz100_2 := blk_frozen BK540.out 2
              have hfz100_3 := blk_frozen BK540.out 3
              have hfz100_4 := blk_frozen BK540.out 4
              have p548 : 0 ≤ (x3_2 : Int) := of_decide_eq_true (by first | (with_reducible assumption) | assumption)
              have q548 : x3_2 < (l0_3.length : Int) := of_decide_eq_true (by first | (with_reducible assumption) | assumption)
              obtain ⟨ad548, e548, hx548_0, hx548_1, hx548_2, hx548_3, hx548_4⟩ := at_T82 HR0_3.out x3_2 p548 q548
              (try rw [← Nbq49.out] at hx548_3)
              (try rw [← Nbq51.out] at hx548_3)
              (try rw [← Nbq49.out] at hx548_4)
              (try rw [← Nbq51.out] at hx548_4)
              cases e548
              replace hx548_0 := (HB.out.cell (World.block_lt_of_cell? w _ hx548_0)).trans hx548_0
              replace hx548_1 := (HB.out.cell (World.block_lt_of_cell? w _ hx548_1)).trans hx548_1
              replace hx548_2 := (HB.out.cell (World.block_lt_of_cell? w _ hx548_2)).trans hx548_2
              replace hx548_3 := (HB.out.cell (World.block_lt_of_cell? w _ hx548_3)).trans hx548_3
              replace hx548_4 := (HB.out.cell (World.block_lt_of_cell? w _ hx548_4)).trans hx548_4
              replace p548 := eq_true p548
              replace q548 := eq_true q548
              try go_wp2_with (first | ((with_reducible refine gate_dst (N := 4) rfl ?_); (try (refine gate_guard (by rfl) ?_; dsimp only)); refine box_event ?hg (N := 4) ?hd (cs := #[.string (⟨#[]⟩ : ByteArray), .string (⟨#[]⟩ : ByteArray), .string (⟨#[]⟩ : ByteArray), .bool false, .bool false]) (t := 82) ?hr ?_; (case hd => rfl); (case hg => rfl); (case hr => first | (go_simp; done) | (go_simp; rfl)); intro gb549 hg w101 hbox hb; have n0_ := Aside0.mk (blk_below (g := gb540) (o := .cells #[.string a0_0, .string a0_1, .int .i64 a0_2, .slice (some ad548) l0_3.length c0_3, .int .i64 a0_4] 48 (0, 0)) (by (with_reducible repeat (first | refine blk_drewN ?_ _ | refine blk_drew ?_ | refine blk_alloc ?_ _)); exact BK540.out) hb); have n1_ := Aside0.mk (below_step (by repeat (first | (with_reducible first | exact HB.out | apply below_alloc | apply pw_below_drewN | apply below_drew1 | refine below_set ?_ GE540.out) | exact HB.out)) hb); have n2_ := Aside0.mk (hbox); have n3_ := Aside0.mk ((by rw [hg]; exact (below_size (by repeat (first | (with_reducible first | exact HB.out | apply below_alloc | apply pw_below_drewN | apply below_drew1 | refine below_set ?_ GE540.out) | exact HB.out))) : w.heap.size ≤ gb549)); have n4_ := Aside0.mk ((by rw [hg]; exact (below_size (by repeat (first | (with_reducible first | exact HB.out | apply below_alloc | apply pw_below_drewN | apply below_drew1 | refine below_set ?_ GE540.out) | exact HB.out))) : w.heap.size ≤ gb549)); have n5_ := Aside0.mk ((by rw [hg]; exact Nat.ne_of_lt (blk_lt (g := gb540) (o := .cells #[.string a0_0, .string a0_1, .int .i64 a0_2, .slice (some ad548) l0_3.length c0_3, .int .i64 a0_4] 48 (0, 0)) (by (with_reducible repeat (first | refine blk_drewN ?_ _ | refine blk_drew ?_ | refine blk_alloc ?_ _)); exact BK540.out)) : gb540 ≠ gb549)); have n6_ := Aside0.mk ((by rw [hg]; exact Nat.ne_of_gt (blk_lt (g := gb540) (o := .cells #[.string a0_0, .string a0_1, .int .i64 a0_2, .slice (some ad548) l0_3.length c0_3, .int .i64 a0_4] 48 (0, 0)) (by (with_reducible repeat (first | refine blk_drewN ?_ _ | refine blk_drew ?_ | refine blk_alloc ?_ _)); exact BK540.out)) : gb549 ≠ gb540)); clear BK540; clear HB; have BK540 := n0_; have HB := n1_; have BK549 := n2_; have GW549 := n3_; have GE549 := n4_; have NB540_549 := n5_; have NB549_540 := n6_; clear n0_ n1_ n2_ n3_ n4_ n5_ n6_; clear hb hbox hg; have hnb102 := NB549_540.out; have hnc102 := NB540_549.out; have hcz103_0 : w101.cell? ⟨gb549, 0, none⟩ = some (.string (⟨#[]⟩ : ByteArray)) := (blk_cell BK549.out 0).trans rfl; have hcz103_1 : w101.cell? ⟨gb549, 1, none⟩ = some (.string (⟨#[]⟩ : ByteArray)) := (blk_cell BK549.out 1).trans rfl; have hcz103_2 : w101.cell? ⟨gb549, 2, none⟩ = some (.string (⟨#[]⟩ : ByteArray)) := (blk_cell BK549.out 2).trans rfl; have hcz103_3 : w101.cell? ⟨gb549, 3, none⟩ = some (.bool false) := (blk_cell BK549.out 3).trans rfl; have hcz103_4 : w101.cell? ⟨gb549, 4, none⟩ = some (.bool false) := (blk_cell BK549.out 4).trans rfl; have hfz103_0 := blk_frozen BK549.out 0; have hfz103_1 := blk_frozen BK549.out 1; have hfz103_2 := blk_frozen BK549.out 2; have hfz103_3 := blk_frozen BK549.out 3; have hfz103_4 := blk_frozen BK549.out 4))
              have n0_ : Aside0 ((((((w101.setCell ⟨gb549, 0, none⟩ (.string ((rd_T82 l0_3 x3_2).f0))).setCell ⟨gb549, 1, none⟩ (.string ((rd_T82 l0_3 x3_2).f1))).setCell ⟨gb549, 2, none⟩ (.string ((rd_T82 l0_3 x3_2).f2))).setCell ⟨gb549, 3, none⟩ (.bool true)).setCell ⟨gb549, 4, none⟩ (.bool false)).heap[gb540]? = some (.cells #[.string a0_0, .string a0_1, .int .i64 a0_2, .slice (some ad548) l0_3.length c0_3, .int .i64 a0_4] 48 (0, 0))) := ⟨by (with_reducible repeat (first | refine blk_drewN ?_ _ | refine blk_drew ?_ | refine blk_alloc ?_ _)); refine blk_far ?_ NB540_549.out _; (with_reducible repeat (first | refine blk_drewN ?_ _ | refine blk_drew ?_ | refine blk_alloc ?_ _)); refine blk_far ?_ NB540_549.out _; (with_reducible repeat (first | refine blk_drewN ?_ _ | refine blk_drew ?_ | refine blk_alloc ?_ _)); refine blk_far ?_ NB540_549.out _; (with_reducible repeat (first | refine blk_drewN ?_ _ | refine blk_drew ?_ | refine blk_alloc ?_ _)); refine blk_far ?_ NB540_549.out _; (with_reducible repeat (first | refine blk_drewN ?_ _ | refine blk_drew ?_ | refine blk_alloc ?_ _)); refine blk_far ?_ NB540_549.out _; (with_reducible repeat (first | refine blk_drewN ?_ _ | refine blk_drew ?_ | refine blk_alloc ?_ _)); exact BK540.out⟩
              have n1_ : Aside0 ((((((w101.setCell ⟨gb549, 0, none⟩ (.string ((rd_T82 l0_3 x3_2).f0))).setCell ⟨gb549, 1, none⟩ (.string ((rd_T82 l0_3 x3_2).f1))).setCell ⟨gb549, 2, none⟩ (.string ((rd_T82 l0_3 x3_2).f2))).setCell ⟨gb549, 3, none⟩ (.bool true)).setCell ⟨gb549, 4, none⟩ (.bool false)).heap[gb549]? = some (.cells #[.string ((rd_T82 l0_3 x3_2).f0), .string ((rd_T82 l0_3 x3_2).f1), .string ((rd_T82 l0_3 x3_2).f2), .bool true, .bool false] 82 (0, 0))) := ⟨by (with_reducible repeat (first | refine blk_drewN ?_ _ | refine blk_drew ?_ | refine blk_alloc ?_ _)); refine blk_put (cs := #[.string ((rd_T82 l0_3 x3_2).f0), .string ((rd_T82 l0_3 x3_2).f1), .string ((rd_T82 l0_3 x3_2).f2), .bool true, .bool false]) ?_ 4 _ rfl; (with_reducible repeat (first | refine blk_drewN ?_ _ | refine blk_drew ?_ | refine blk_alloc ?_ _)); refine blk_put (cs := #[.string ((rd_T82 l0_3 x3_2).f0), .string ((rd_T82 l0_3 x3_2).f1), .string ((rd_T82 l0_3 x3_2).f2), .bool false, .bool false]) ?_ 3 _ rfl; (with_reducible repeat (first | refine blk_drewN ?_ _ | refine blk_drew ?_ | refine blk_alloc ?_ _)); refine blk_put (cs := #[.string ((rd_T82 l0_3 x3_2).f0), .string ((rd_T82 l0_3 x3_2).f1), .string (⟨#[]⟩ : ByteArray), .bool false, .bool false]) ?_ 2 _ rfl; (with_reducible repeat (first | refine blk_drewN ?_ _ | refine blk_drew ?_ | refine blk_alloc ?_ _)); refine blk_put (cs := #[.string ((rd_T82 l0_3 x3_2).f0), .string (⟨#[]⟩ : ByteArray), .string (⟨#[]⟩ : ByteArray), .bool false, .bool false]) ?_ 1 _ rfl; (with_reducible repeat (first | refine blk_drewN ?_ _ | refine blk_drew ?_ | refine blk_alloc ?_ _)); refine blk_put (cs := #[.string (⟨#[]⟩ : ByteArray), .string (⟨#[]⟩ : ByteArray), .string (⟨#[]⟩ : ByteArray), .bool false, .bool false]) ?_ 0 _ rfl; (with_reducible repeat (first | refine blk_drewN ?_ _ | refine blk_drew ?_ | refine blk_alloc ?_ _)); exact BK549.out⟩
              have n2_ : Aside0 (Below w.heap.size w (((((w101.setCell ⟨gb549, 0, none⟩ (.string ((rd_T82 l0_3 x3_2).f0))).setCell ⟨gb549, 1, none⟩ (.string ((rd_T82 l0_3 x3_2).f1))).setCell ⟨gb549, 2, none⟩ (.string ((rd_T82 l0_3 x3_2).f2))).setCell ⟨gb549, 3, none⟩ (.bool true)).setCell ⟨gb549, 4, none⟩ (.bool false))) := ⟨by repeat (first | (with_reducible first | exact HB.out | apply below_alloc | apply pw_below_drewN | apply below_drew1 | refine below_set ?_ GE540.out | refine below_set ?_ GE549.out) | exact HB.out)⟩
              (try clear BK540)
              (try clear BK549)
              (try clear HB)
              generalize (((((w101.setCell ⟨gb549, 0, none⟩ (.string ((rd_T82 l0_3 x3_2).f0))).setCell ⟨gb549, 1, none⟩ (.string ((rd_T82 l0_3 x3_2).f1))).setCell ⟨gb549, 2, none⟩ (.string ((rd_T82 l0_3 x3_2).f2))).setCell ⟨gb549, 3, none⟩ (.bool true)).setCell ⟨gb549, 4, none⟩ (.bool false)) = w104 at n0_ n1_ n2_ ⊢
              have BK540 := n0_
              have BK549 := n1_
              have HB := n2_
              clear n0_ n1_ n2_
              have n0_ := Aside0.mk (blk_drew BK540.out)
              have n1_ := Aside0.mk (blk_drew BK549.out)
              have n2_ := Aside0.mk (below_drew1 HB.out)
              clear BK540
              clear BK549
              clear HB
              have BK540 := n0_
              have BK549 := n1_
              have HB := n2_
              clear n0_ n1_ n2_
              refine wp_region_later (by kernel_rfl) (by kernel_rfl) ?_
              have hL0_ := Aside0.mk (show w104.drew.cell? ⟨gb549, 0, none⟩ = some (.string ((rd_T82 l0_3 x3_2).f0)) from (blk_cell BK549.out 0).trans rfl)
              have hL1_ := Aside0.mk (show w104.drew.cell? ⟨gb549, 1, none⟩ = some (.string ((rd_T82 l0_3 x3_2).f1)) from (blk_cell BK549.out 1).trans rfl)
              have hL2_ := Aside0.mk (show w104.drew.cell? ⟨gb549, 2, none⟩ = some (.string ((rd_T82 l0_3 x3_2).f2)) from (blk_cell BK549.out 2).trans rfl)
              have hL3_ := Aside0.mk (show w104.drew.cell? ⟨gb549, 3, none⟩ = some (.bool true) from (blk_cell BK549.out 3).trans rfl)
              have hL4_ := Aside0.mk (show w104.drew.cell? ⟨gb549, 4, none⟩ = some (.bool false) from (blk_cell BK549.out 4).trans rfl)
              generalize w104.drew = w105b at BK540 BK549 HB hL0_ hL1_ hL2_ hL3_ hL4_ ⊢
              have hL0 := fun (p_ : Later w105b) => Later.cell p_ hL0_.out
              have hL1 := fun (p_ : Later w105b) => Later.cell p_ hL1_.out
              have hL2 := fun (p_ : Later w105b) => Later.cell p_ hL2_.out
              have hL3 := fun (p_ : Later w105b) => Later.cell p_ hL3_.out
              have hL4 := fun (p_ : Later w105b) => Later.cell p_ hL4_.out
              clear hL0_ hL1_ hL2_ hL3_ hL4_
              repeat (first | go_big_quiet_step ((first | (go_at_call 65; exact Calls.later_drawn (spec_l01In.calls (((rd_T82 l0_3 x3_2).f0).size : Int) 1 30 true _ A33.out)))) | quiet_step ((first | (go_at_call 65; exact Calls.later_drawn (spec_l01In.calls (((rd_T82 l0_3 x3_2).f0).size : Int) 1 30 true _ A33.out)))))
              refine wpQuiet_nil ?_
              rintro w105 ⟨⟨wq_, hbL⟩, hq_⟩
              have hq2_ : w105 = wq_ := hq_
              clear hq_
              subst hq2_
              clear hL0 hL1 hL2 hL3 hL4
              have nBK540_ := Aside0.mk ((hbL.block _ (blk_lt BK540.out)).trans BK540.out)
              have nBK549_ := Aside0.mk ((hbL.block _ (blk_lt BK549.out)).trans BK549.out)
              have nHB_ := Aside0.mk (below_step HB.out hbL)
              clear BK540
              clear BK549
              clear HB
              have BK540 := nBK540_
              have BK549 := nBK549_
              have HB := nHB_
              clear nBK540_
              clear nBK549_
              clear nHB_
              clear hbL
              try go_wp2
              go_ret
              exact ⟨by first | rfl | (simp [errW_none, errW_some] <;> rfl) | (simp [*, errW_none, errW_some] <;> rfl), by repeat (first | (with_reducible first | exact HB.out | apply below_alloc | apply pw_below_drewN | apply below_drew1 | refine below_set ?_ GE540.out | refine below_set ?_ GE549.out) | exact HB.out)⟩
           ·replace c50 := Bool.eq_false_iff.mpr c50
            subst c50
            have H1 : (if ((rd_T82 l0_3 x3_2).f4 = true) then (if ((rd_T82 l0_3 x3_2).f1).toList = ([] : List UInt8) then (if x3_2 > 0 then (if 0 ≤ (wrap64 (x3_2 - 1)) then (if (wrap64 (x3_2 - 1)) < (l0_3.length : Int) then (if ((Op.bytesLess (((rd_T82 l0_3 (wrap64 (x3_2 - 1))).f0).toList) (((rd_T82 l0_3 x3_2).f0).toList)) = true) then (spec_BackupOK.l0 k2 (wrap64 (x3_2 + 1)) a0_0 a0_1 a0_2 l0_3 a0_4) else (some false)) else (none)) else (none)) else (spec_BackupOK.l0 k2 (wrap64 (x3_2 + 1)) a0_0 a0_1 a0_2 l0_3 a0_4)) else (some false)) else (some false)) = some r := by rw [if_neg (show ¬ (false = true) by decide)] at H; exact H
            clear H
            have H := H1
            clear H1
            obtain ⟨bq106, hbq106⟩ : ∃ b_ : Bool, b_ = ((rd_T82 l0_3 x3_2).f4) := ⟨_, rfl⟩
            replace H : (if (bq106 = true) then (if ((rd_T82 l0_3 x3_2).f1).toList = ([] : List UInt8) then (if x3_2 > 0 then (if 0 ≤ (wrap64 (x3_2 - 1)) then (if (wrap64 (x3_2 - 1)) < (l0_3.length : Int) then (if ((Op.bytesLess (((rd_T82 l0_3 (wrap64 (x3_2 - 1))).f0).toList) (((rd_T82 l0_3 x3_2).f0).toList)) = true) then (spec_BackupOK.l0 k2 (wrap64 (x3_2 + 1)) a0_0 a0_1 a0_2 l0_3 a0_4) else (some false)) else (none)) else (none)) else (spec_BackupOK.l0 k2 (wrap64 (x3_2 + 1)) a0_0 a0_1 a0_2 l0_3 a0_4)) else (some false)) else (some false)) = some r := by rw [← hbq106] at H; exact H
            have Nbq106 := Aside0.mk hbq106
            clear hbq106
            by_cases c107 : (bq106 = true)
            ·subst c107
             have H1 : (if ((rd_T82 l0_3 x3_2).f1).toList = ([] : List UInt8) then (if x3_2 > 0 then (if 0 ≤ (wrap64 (x3_2 - 1)) then (if (wrap64 (x3_2 - 1)) < (l0_3.length : Int) then (if ((Op.bytesLess (((rd_T82 l0_3 (wrap64 (x3_2 - 1))).f0).toList) (((rd_T82 l0_3 x3_2).f0).toList)) = true) then (spec_BackupOK.l0 k2 (wrap64 (x3_2 + 1)) a0_0 a0_1 a0_2 l0_3 a0_4) else (some false)) else (none)) else (none)) else (spec_BackupOK.l0 k2 (wrap64 (x3_2 + 1)) a0_0 a0_1 a0_2 l0_3 a0_4)) else (some false)) = some r := by rw [if_pos rfl] at H; exact H
             clear H
             have H := H1
             clear H1
             by_cases c108 : ((rd_T82 l0_3 x3_2).f1).toList = ([] : List UInt8)
             ·rw [if_pos c108] at H
              have c108b0 : (((rd_T82 l0_3 x3_2).f1).toList == ([] : List UInt8)) = true := beq_iff_eq.mpr c108
              have c108b1 : (((rd_T82 l0_3 x3_2).f1).toList != ([] : List UInt8)) = false := bne_eq_false_iff_eq.mpr c108
              clear c108
              by_cases c109 : x3_2 > 0
              ·rw [if_pos c109] at H
               have c109b0 : decide (0 < x3_2) = true := decide_eq_true c109
               clear c109
               obtain ⟨ji110, hji110⟩ : ∃ j_ : Int, (wrap64 (x3_2 - 1)) = j_ := ⟨_, rfl⟩
               replace H : (if 0 ≤ (ji110) then (if (ji110) < (l0_3.length : Int) then (if ((Op.bytesLess (((rd_T82 l0_3 (ji110)).f0).toList) (((rd_T82 l0_3 x3_2).f0).toList)) = true) then (spec_BackupOK.l0 k2 (wrap64 (x3_2 + 1)) a0_0 a0_1 a0_2 l0_3 a0_4) else (some false)) else (none)) else (none)) = some r := by first | (rw [hji110] at H; exact H) | (simp only [hji110] at H ⊢; exact H)
               (try rw [hji110] at A33)
               have hji110w : (IntKind.i64.wrap (x3_2 - 1)) = ji110 := (i64_w _).trans hji110
               by_cases c111 : 0 ≤ (ji110)
               ·rw [if_pos c111] at H
                have c111b0 : decide (0 ≤ (ji110)) = true := decide_eq_true c111
                clear c111
                by_cases c112 : (ji110) < (l0_3.length : Int)
                ·rw [if_pos c112] at H
                 have c112b0 : decide ((ji110) < (l0_3.length : Int)) = true := decide_eq_true c112
                 clear c112
                 by_cases c113 : ((Op.bytesLess (((rd_T82 l0_3 (ji110)).f0).toList) (((rd_T82 l0_3 x3_2).f0).toList)) = true)
                 ·rw [if_pos c113] at H
                  have c113b0 : (Op.bytesLess (((rd_T82 l0_3 (ji110)).f0).toList) (((rd_T82 l0_3 x3_2).f0).toList)) = true := c113
                  clear c113
                  have H' := Aside0.mk H
                  clear H
                  have hcz114_0 : wr.cell? ⟨gb540, 0, none⟩ = some (.string a0_0) := (blk_cell BK540.out 0).trans rfl
                  have hcz114_1 : wr.cell? ⟨gb540, 1, none⟩ = some (.string a0_1) := (blk_cell BK540.out 1).trans rfl
                  have hcz114_2 : wr.cell? ⟨gb540, 2, none⟩ = some (.int .i64 a0_2) := (blk_cell BK540.out 2).trans rfl
                  have hcz114_3 : wr.cell? ⟨gb540, 3, none⟩ = some (.slice A0_3 l0_3.length c0_3) := (blk_cell BK540.out 3).trans rfl
                  have hcz114_4 : wr.cell? ⟨gb540, 4, none⟩ = some (.int .i64 a0_4) := (blk_cell BK540.out 4).trans rfl
                  have hfz114_0 := blk_frozen BK540.out 0
                  have hfz114_1 := blk_frozen BK540.out 1
                  have hfz114_2 := blk_frozen BK540.out 2
                  have hfz114_3 := blk_frozen BK540.out 3
                  have hfz114_4 := blk_frozen BK540.out 4
                  have p548 : 0 ≤ (x3_2 : Int) := of_decide_eq_true (by first | (with_reducible assumption) | assumption)
                  have q548 : x3_2 < (l0_3.length : Int) := of_decide_eq_true (by first | (with_reducible assumption) | assumption)
                  obtain ⟨ad548, e548, hx548_0, hx548_1, hx548_2, hx548_3, hx548_4⟩ := at_T82 HR0_3.out x3_2 p548 q548
                  (try rw [← Nbq49.out] at hx548_3)
                  (try rw [← Nbq106.out] at hx548_3)
                  (try rw [← Nbq49.out] at hx548_4)
                  (try rw [← Nbq106.out] at hx548_4)
                  cases e548
                  replace hx548_0 := (HB.out.cell (World.block_lt_of_cell? w _ hx548_0)).trans hx548_0
                  replace hx548_1 := (HB.out.cell (World.block_lt_of_cell? w _ hx548_1)).trans hx548_1
                  replace hx548_2 := (HB.out.cell (World.block_lt_of_cell? w _ hx548_2)).trans hx548_2
                  replace hx548_3 := (HB.out.cell (World.block_lt_of_cell? w _ hx548_3)).trans hx548_3
                  replace hx548_4 := (HB.out.cell (World.block_lt_of_cell? w _ hx548_4)).trans hx548_4
                  replace p548 := eq_true p548
                  replace q548 := eq_true q548
                  try go_wp2_with (first | ((with_reducible refine gate_dst (N := 4) rfl ?_); (try (refine gate_guard (by rfl) ?_; dsimp only)); refine box_event ?hg (N := 4) ?hd (cs := #[.string (⟨#[]⟩ : ByteArray), .string (⟨#[]⟩ : ByteArray), .string (⟨#[]⟩ : ByteArray), .bool false, .bool false]) (t := 82) ?hr ?_; (case hd => rfl); (case hg => rfl); (case hr => first | (go_simp; done) | (go_simp; rfl)); intro gb549 hg w115 hbox hb; have n0_ := Aside0.mk (blk_below (g := gb540) (o := .cells #[.string a0_0, .string a0_1, .int .i64 a0_2, .slice (some ad548) l0_3.length c0_3, .int .i64 a0_4] 48 (0, 0)) (by (with_reducible repeat (first | refine blk_drewN ?_ _ | refine blk_drew ?_ | refine blk_alloc ?_ _)); exact BK540.out) hb); have n1_ := Aside0.mk (below_step (by repeat (first | (with_reducible first | exact HB.out | apply below_alloc | apply pw_below_drewN | apply below_drew1 | refine below_set ?_ GE540.out) | exact HB.out)) hb); have n2_ := Aside0.mk (hbox); have n3_ := Aside0.mk ((by rw [hg]; exact (below_size (by repeat (first | (with_reducible first | exact HB.out | apply below_alloc | apply pw_below_drewN | apply below_drew1 | refine below_set ?_ GE540.out) | exact HB.out))) : w.heap.size ≤ gb549)); have n4_ := Aside0.mk ((by rw [hg]; exact (below_size (by repeat (first | (with_reducible first | exact HB.out | apply below_alloc | apply pw_below_drewN | apply below_drew1 | refine below_set ?_ GE540.out) | exact HB.out))) : w.heap.size ≤ gb549)); have n5_ := Aside0.mk ((by rw [hg]; exact Nat.ne_of_lt (blk_lt (g := gb540) (o := .cells #[.string a0_0, .string a0_1, .int .i64 a0_2, .slice (some ad548) l0_3.length c0_3, .int .i64 a0_4] 48 (0, 0)) (by (with_reducible repeat (first | refine blk_drewN ?_ _ | refine blk_drew ?_ | refine blk_alloc ?_ _)); exact BK540.out)) : gb540 ≠ gb549)); have n6_ := Aside0.mk ((by rw [hg]; exact Nat.ne_of_gt (blk_lt (g := gb540) (o := .cells #[.string a0_0, .string a0_1, .int .i64 a0_2, .slice (some ad548) l0_3.length c0_3, .int .i64 a0_4] 48 (0, 0)) (by (with_reducible repeat (first | refine blk_drewN ?_ _ | refine blk_drew ?_ | refine blk_alloc ?_ _)); exact BK540.out)) : gb549 ≠ gb540)); clear BK540; clear HB; have BK540 := n0_; have HB := n1_; have BK549 := n2_; have GW549 := n3_; have GE549 := n4_; have NB540_549 := n5_; have NB549_540 := n6_; clear n0_ n1_ n2_ n3_ n4_ n5_ n6_; clear hb hbox hg; have hnb116 := NB549_540.out; have hnc116 := NB540_549.out; have hcz117_0 : w115.cell? ⟨gb549, 0, none⟩ = some (.string (⟨#[]⟩ : ByteArray)) := (blk_cell BK549.out 0).trans rfl; have hcz117_1 : w115.cell? ⟨gb549, 1, none⟩ = some (.string (⟨#[]⟩ : ByteArray)) := (blk_cell BK549.out 1).trans rfl; have hcz117_2 : w115.cell? ⟨gb549, 2, none⟩ = some (.string (⟨#[]⟩ : ByteArray)) := (blk_cell BK549.out 2).trans rfl; have hcz117_3 : w115.cell? ⟨gb549, 3, none⟩ = some (.bool false) := (blk_cell BK549.out 3).trans rfl; have hcz117_4 : w115.cell? ⟨gb549, 4, none⟩ = some (.bool false) := (blk_cell BK549.out 4).trans rfl; have hfz117_0 := blk_frozen BK549.out 0; have hfz117_1 := blk_frozen BK549.out 1; have hfz117_2 := blk_frozen BK549.out 2; have hfz117_3 := blk_frozen BK549.out 3; have hfz117_4 := blk_frozen BK549.out 4))
                  have n0_ : Aside0 ((((((w115.setCell ⟨gb549, 0, none⟩ (.string ((rd_T82 l0_3 x3_2).f0))).setCell ⟨gb549, 1, none⟩ (.string ((rd_T82 l0_3 x3_2).f1))).setCell ⟨gb549, 2, none⟩ (.string ((rd_T82 l0_3 x3_2).f2))).setCell ⟨gb549, 3, none⟩ (.bool false)).setCell ⟨gb549, 4, none⟩ (.bool true)).heap[gb540]? = some (.cells #[.string a0_0, .string a0_1, .int .i64 a0_2, .slice (some ad548) l0_3.length c0_3, .int .i64 a0_4] 48 (0, 0))) := ⟨by (with_reducible repeat (first | refine blk_drewN ?_ _ | refine blk_drew ?_ | refine blk_alloc ?_ _)); refine blk_far ?_ NB540_549.out _; (with_reducible repeat (first | refine blk_drewN ?_ _ | refine blk_drew ?_ | refine blk_alloc ?_ _)); refine blk_far ?_ NB540_549.out _; (with_reducible repeat (first | refine blk_drewN ?_ _ | refine blk_drew ?_ | refine blk_alloc ?_ _)); refine blk_far ?_ NB540_549.out _; (with_reducible repeat (first | refine blk_drewN ?_ _ | refine blk_drew ?_ | refine blk_alloc ?_ _)); refine blk_far ?_ NB540_549.out _; (with_reducible repeat (first | refine blk_drewN ?_ _ | refine blk_drew ?_ | refine blk_alloc ?_ _)); refine blk_far ?_ NB540_549.out _; (with_reducible repeat (first | refine blk_drewN ?_ _ | refine blk_drew ?_ | refine blk_alloc ?_ _)); exact BK540.out⟩
                  have n1_ : Aside0 ((((((w115.setCell ⟨gb549, 0, none⟩ (.string ((rd_T82 l0_3 x3_2).f0))).setCell ⟨gb549, 1, none⟩ (.string ((rd_T82 l0_3 x3_2).f1))).setCell ⟨gb549, 2, none⟩ (.string ((rd_T82 l0_3 x3_2).f2))).setCell ⟨gb549, 3, none⟩ (.bool false)).setCell ⟨gb549, 4, none⟩ (.bool true)).heap[gb549]? = some (.cells #[.string ((rd_T82 l0_3 x3_2).f0), .string ((rd_T82 l0_3 x3_2).f1), .string ((rd_T82 l0_3 x3_2).f2), .bool false, .bool true] 82 (0, 0))) := ⟨by (with_reducible repeat (first | refine blk_drewN ?_ _ | refine blk_drew ?_ | refine blk_alloc ?_ _)); refine blk_put (cs := #[.string ((rd_T82 l0_3 x3_2).f0), .string ((rd_T82 l0_3 x3_2).f1), .string ((rd_T82 l0_3 x3_2).f2), .bool false, .bool false]) ?_ 4 _ rfl; (with_reducible repeat (first | refine blk_drewN ?_ _ | refine blk_drew ?_ | refine blk_alloc ?_ _)); refine blk_put (cs := #[.string ((rd_T82 l0_3 x3_2).f0), .string ((rd_T82 l0_3 x3_2).f1), .string ((rd_T82 l0_3 x3_2).f2), .bool false, .bool false]) ?_ 3 _ rfl; (with_reducible repeat (first | refine blk_drewN ?_ _ | refine blk_drew ?_ | refine blk_alloc ?_ _)); refine blk_put (cs := #[.string ((rd_T82 l0_3 x3_2).f0), .string ((rd_T82 l0_3 x3_2).f1), .string (⟨#[]⟩ : ByteArray), .bool false, .bool false]) ?_ 2 _ rfl; (with_reducible repeat (first | refine blk_drewN ?_ _ | refine blk_drew ?_ | refine blk_alloc ?_ _)); refine blk_put (cs := #[.string ((rd_T82 l0_3 x3_2).f0), .string (⟨#[]⟩ : ByteArray), .string (⟨#[]⟩ : ByteArray), .bool false, .bool false]) ?_ 1 _ rfl; (with_reducible repeat (first | refine blk_drewN ?_ _ | refine blk_drew ?_ | refine blk_alloc ?_ _)); refine blk_put (cs := #[.string (⟨#[]⟩ : ByteArray), .string (⟨#[]⟩ : ByteArray), .string (⟨#[]⟩ : ByteArray), .bool false, .bool false]) ?_ 0 _ rfl; (with_reducible repeat (first | refine blk_drewN ?_ _ | refine blk_drew ?_ | refine blk_alloc ?_ _)); exact BK549.out⟩
                  have n2_ : Aside0 (Below w.heap.size w (((((w115.setCell ⟨gb549, 0, none⟩ (.string ((rd_T82 l0_3 x3_2).f0))).setCell ⟨gb549, 1, none⟩ (.string ((rd_T82 l0_3 x3_2).f1))).setCell ⟨gb549, 2, none⟩ (.string ((rd_T82 l0_3 x3_2).f2))).setCell ⟨gb549, 3, none⟩ (.bool false)).setCell ⟨gb549, 4, none⟩ (.bool true))) := ⟨by repeat (first | (with_reducible first | exact HB.out | apply below_alloc | apply pw_below_drewN | apply below_drew1 | refine below_set ?_ GE540.out | refine below_set ?_ GE549.out) | exact HB.out)⟩
                  (try clear BK540)
                  (try clear BK549)
                  (try clear HB)
                  generalize (((((w115.setCell ⟨gb549, 0, none⟩ (.string ((rd_T82 l0_3 x3_2).f0))).setCell ⟨gb549, 1, none⟩ (.string ((rd_T82 l0_3 x3_2).f1))).setCell ⟨gb549, 2, none⟩ (.string ((rd_T82 l0_3 x3_2).f2))).setCell ⟨gb549, 3, none⟩ (.bool false)).setCell ⟨gb549, 4, none⟩ (.bool true)) = w118 at n0_ n1_ n2_ ⊢
                  have BK540 := n0_
                  have BK549 := n1_
                  have HB := n2_
                  clear n0_ n1_ n2_
                  have n0_ := Aside0.mk (blk_drew BK540.out)
                  have n1_ := Aside0.mk (blk_drew BK549.out)
                  have n2_ := Aside0.mk (below_drew1 HB.out)
                  clear BK540
                  clear BK549
                  clear HB
                  have BK540 := n0_
                  have BK549 := n1_
                  have HB := n2_
                  clear n0_ n1_ n2_
                  have p553 : 0 ≤ ((ji110) : Int) := of_decide_eq_true (by first | (with_reducible assumption) | assumption)
                  have q553 : (ji110) < (l0_3.length : Int) := of_decide_eq_true (by first | (with_reducible assumption) | assumption)
                  obtain ⟨ad553, e553, hx553_0, hx553_1, hx553_2, hx553_3, hx553_4⟩ := at_T82 HR0_3.out (ji110) p553 q553
                  have hw553_4 := hx553_4
                  have hw553_3 := hx553_3
                  have hw553_2 := hx553_2
                  have hw553_1 := hx553_1
                  have hw553_0 := hx553_0
                  (try rw [← Nbq49.out] at hx553_3)
                  (try rw [← Nbq106.out] at hx553_3)
                  (try rw [← Nbq49.out] at hx553_4)
                  (try rw [← Nbq106.out] at hx553_4)
                  obtain rfl : ad548 = ad553 := (by injection e553)
                  replace hx553_0 := (HB.out.cell (World.block_lt_of_cell? w _ hx553_0)).trans hx553_0
                  replace hx553_1 := (HB.out.cell (World.block_lt_of_cell? w _ hx553_1)).trans hx553_1
                  replace hx553_2 := (HB.out.cell (World.block_lt_of_cell? w _ hx553_2)).trans hx553_2
                  replace hx553_3 := (HB.out.cell (World.block_lt_of_cell? w _ hx553_3)).trans hx553_3
                  replace hx553_4 := (HB.out.cell (World.block_lt_of_cell? w _ hx553_4)).trans hx553_4
                  replace p553 := eq_true p553
                  replace q553 := eq_true q553
                  refine wp_region_later (by kernel_rfl) (by kernel_rfl) ?_
                  have hL0_ := Aside0.mk (show w118.drew.cell? ⟨gb549, 0, none⟩ = some (.string ((rd_T82 l0_3 x3_2).f0)) from (blk_cell BK549.out 0).trans rfl)
                  have hL1_ := Aside0.mk (show w118.drew.cell? ⟨gb549, 1, none⟩ = some (.string ((rd_T82 l0_3 x3_2).f1)) from (blk_cell BK549.out 1).trans rfl)
                  have hL2_ := Aside0.mk (show w118.drew.cell? ⟨gb549, 2, none⟩ = some (.string ((rd_T82 l0_3 x3_2).f2)) from (blk_cell BK549.out 2).trans rfl)
                  have hL3_ := Aside0.mk (show w118.drew.cell? ⟨gb549, 3, none⟩ = some (.bool false) from (blk_cell BK549.out 3).trans rfl)
                  have hL4_ := Aside0.mk (show w118.drew.cell? ⟨gb549, 4, none⟩ = some (.bool true) from (blk_cell BK549.out 4).trans rfl)
                  have hL5_ := Aside0.mk (show w118.drew.cell? ⟨gb540, 0, none⟩ = some (.string a0_0) from (blk_cell BK540.out 0).trans rfl)
                  have hL6_ := Aside0.mk (show w118.drew.cell? ⟨gb540, 1, none⟩ = some (.string a0_1) from (blk_cell BK540.out 1).trans rfl)
                  have hL7_ := Aside0.mk (show w118.drew.cell? ⟨gb540, 2, none⟩ = some (.int .i64 a0_2) from (blk_cell BK540.out 2).trans rfl)
                  have hL8_ := Aside0.mk (show w118.drew.cell? ⟨gb540, 3, none⟩ = some (.slice (some ad548) l0_3.length c0_3) from (blk_cell BK540.out 3).trans rfl)
                  have hL9_ := Aside0.mk (show w118.drew.cell? ⟨gb540, 4, none⟩ = some (.int .i64 a0_4) from (blk_cell BK540.out 4).trans rfl)
                  have hL10_ := Aside0.mk (show w118.drew.cell? (ad548.add (((ji110)).toNat * 5)) = some (.string ((rd_T82 l0_3 (ji110)).f0)) from ((HB.out.cell (World.block_lt_of_cell? w _ hw553_0)).trans hw553_0))
                  have hL11_ := Aside0.mk (show w118.drew.cell? ⟨(ad548.add (((ji110)).toNat * 5)).block, (ad548.add (((ji110)).toNat * 5)).off + 1, none⟩ = some (.string ((rd_T82 l0_3 (ji110)).f1)) from ((HB.out.cell (World.block_lt_of_cell? w _ hw553_1)).trans hw553_1))
                  have hL12_ := Aside0.mk (show w118.drew.cell? ⟨(ad548.add (((ji110)).toNat * 5)).block, (ad548.add (((ji110)).toNat * 5)).off + 2, none⟩ = some (.string ((rd_T82 l0_3 (ji110)).f2)) from ((HB.out.cell (World.block_lt_of_cell? w _ hw553_2)).trans hw553_2))
                  have hL13_ := Aside0.mk (show w118.drew.cell? ⟨(ad548.add (((ji110)).toNat * 5)).block, (ad548.add (((ji110)).toNat * 5)).off + 3, none⟩ = some (.bool ((rd_T82 l0_3 (ji110)).f3)) from ((HB.out.cell (World.block_lt_of_cell? w _ hw553_3)).trans hw553_3))
                  have hL14_ := Aside0.mk (show w118.drew.cell? ⟨(ad548.add (((ji110)).toNat * 5)).block, (ad548.add (((ji110)).toNat * 5)).off + 4, none⟩ = some (.bool ((rd_T82 l0_3 (ji110)).f4)) from ((HB.out.cell (World.block_lt_of_cell? w _ hw553_4)).trans hw553_4))
                  generalize w118.drew = w119b at BK540 BK549 HB hx553_0 hx553_1 hx553_2 hx553_3 hx553_4 hL0_ hL1_ hL2_ hL3_ hL4_ hL5_ hL6_ hL7_ hL8_ hL9_ hL10_ hL11_ hL12_ hL13_ hL14_ ⊢
                  clear hx553_0 hx553_1 hx553_2 hx553_3 hx553_4
                  have hL0 := fun (p_ : Later w119b) => Later.cell p_ hL0_.out
                  have hL1 := fun (p_ : Later w119b) => Later.cell p_ hL1_.out
                  have hL2 := fun (p_ : Later w119b) => Later.cell p_ hL2_.out
                  have hL3 := fun (p_ : Later w119b) => Later.cell p_ hL3_.out
                  have hL4 := fun (p_ : Later w119b) => Later.cell p_ hL4_.out
                  have hL5 := fun (p_ : Later w119b) => Later.cell p_ hL5_.out
                  have hL6 := fun (p_ : Later w119b) => Later.cell p_ hL6_.out
                  have hL7 := fun (p_ : Later w119b) => Later.cell p_ hL7_.out
                  have hL8 := fun (p_ : Later w119b) => Later.cell p_ hL8_.out
                  have hL9 := fun (p_ : Later w119b) => Later.cell p_ hL9_.out
                  have hL10 := fun (p_ : Later w119b) => Later.cell p_ hL10_.out
                  have hL11 := fun (p_ : Later w119b) => Later.cell p_ hL11_.out
                  have hL12 := fun (p_ : Later w119b) => Later.cell p_ hL12_.out
                  have hL13 := fun (p_ : Later w119b) => Later.cell p_ hL13_.out
                  have hL14 := fun (p_ : Later w119b) => Later.cell p_ hL14_.out
                  clear hL0_ hL1_ hL2_ hL3_ hL4_ hL5_ hL6_ hL7_ hL8_ hL9_ hL10_ hL11_ hL12_ hL13_ hL14_
                  repeat (first | go_big_quiet_step ((first | (go_at_call 65; exact Calls.later_drawn (spec_l01In.calls (((rd_T82 l0_3 x3_2).f0).size : Int) 1 30 true _ A33.out)))) | quiet_step ((first | (go_at_call 65; exact Calls.later_drawn (spec_l01In.calls (((rd_T82 l0_3 x3_2).f0).size : Int) 1 30 true _ A33.out)))))
                  refine wpQuiet_nil ?_
                  rintro w119 ⟨⟨wq_, hbL⟩, hq_⟩
                  have hq2_ : w119 = wq_ := hq_
                  clear hq_
                  subst hq2_
                  clear hL0 hL1 hL2 hL3 hL4 hL5 hL6 hL7 hL8 hL9 hL10 hL11 hL12 hL13 hL14
                  have nBK540_ := Aside0.mk ((hbL.block _ (blk_lt BK540.out)).trans BK540.out)
                  have nBK549_ := Aside0.mk ((hbL.block _ (blk_lt BK549.out)).trans BK549.out)
                  have nHB_ := Aside0.mk (below_step HB.out hbL)
                  clear BK540
                  clear BK549
                  clear HB
                  have BK540 := nBK540_
                  have BK549 := nBK549_
                  have HB := nHB_
                  clear nBK540_
                  clear nBK549_
                  clear nHB_
                  clear hbL
                  try go_wp2
                  go_roundg k2
                  case measure => have := HJ1.out; have := HK2.out; omega
                  case rel => exact ⟨(wrap64 (x3_2 + 1)), (by first | rfl | (simp; done) | (simp [*]; done)), H', ⟨by have := HJ1.out; have := HK2.out; omega⟩, ⟨by (with_reducible repeat (first | refine blk_drewN ?_ _ | refine blk_drew ?_ | refine blk_alloc ?_ _)); exact BK540.out⟩, ⟨by repeat (first | (with_reducible first | exact HB.out | apply below_alloc | apply pw_below_drewN | apply below_drew1 | refine below_set ?_ GE540.out | refine below_set ?_ GE549.out) | exact HB.out)⟩⟩
                 ·rw [if_neg c113] at H
                  have c113b0 : (Op.bytesLess (((rd_T82 l0_3 (ji110)).f0).toList) (((rd_T82 l0_3 x3_2).f0).toList)) = false := by simpa using c113
                  clear c113
                  obtain rfl := Option.some.inj H
                  have hcz120_0 : wr.cell? ⟨gb540, 0, none⟩ = some (.string a0_0) := (blk_cell BK540.out 0).trans rfl
                  have hcz120_1 : wr.cell? ⟨gb540, 1, none⟩ = some (.string a0_1) := (blk_cell BK540.out 1).trans rfl
                  have hcz120_2 : wr.cell? ⟨gb540, 2, none⟩ = some (.int .i64 a0_2) := (blk_cell BK540.out 2).trans rfl
                  have hcz120_3 : wr.cell? ⟨gb540, 3, none⟩ = some (.slice A0_3 l0_3.length c0_3) := (blk_cell BK540.out 3).trans rfl
                  have hcz120_4 : wr.cell? ⟨gb540, 4, none⟩ = some (.int .i64 a0_4) := (blk_cell BK540.out 4).trans rfl
                  have hfz120_0 := blk_frozen BK540.out 0
                  have hfz120_1 := blk_frozen BK540.out 1
                  have hfz120_2 := blk_frozen BK540.out 2
                  have hfz120_3 := blk_frozen BK540.out 3
                  have hfz120_4 := blk_frozen BK540.out 4
                  have p548 : 0 ≤ (x3_2 : Int) := of_decide_eq_true (by first | (with_reducible assumption) | assumption)
                  have q548 : x3_2 < (l0_3.length : Int) := of_decide_eq_true (by first | (with_reducible assumption) | assumption)
                  obtain ⟨ad548, e548, hx548_0, hx548_1, hx548_2, hx548_3, hx548_4⟩ := at_T82 HR0_3.out x3_2 p548 q548
                  (try rw [← Nbq49.out] at hx548_3)
                  (try rw [← Nbq106.out] at hx548_3)
                  (try rw [← Nbq49.out] at hx548_4)
                  (try rw [← Nbq106.out] at hx548_4)
                  cases e548
                  replace hx548_0 := (HB.out.cell (World.block_lt_of_cell? w _ hx548_0)).trans hx548_0
                  replace hx548_1 := (HB.out.cell (World.block_lt_of_cell? w _ hx548_1)).trans hx548_1
                  replace hx548_2 := (HB.out.cell (World.block_lt_of_cell? w _ hx548_2)).trans hx548_2
                  replace hx548_3 := (HB.out.cell (World.block_lt_of_cell? w _ hx548_3)).trans hx548_3
                  replace hx548_4 := (HB.out.cell (World.block_lt_of_cell? w _ hx548_4)).trans hx548_4
                  replace p548 := eq_true p548
                  replace q548 := eq_true q548
                  try go_wp2_with (first | ((with_reducible refine gate_dst (N := 4) rfl ?_); (try (refine gate_guard (by rfl) ?_; dsimp only)); refine box_event ?hg (N := 4) ?hd (cs := #[.string (⟨#[]⟩ : ByteArray), .string (⟨#[]⟩ : ByteArray), .string (⟨#[]⟩ : ByteArray), .bool false, .bool false]) (t := 82) ?hr ?_; (case hd => rfl); (case hg => rfl); (case hr => first | (go_simp; done) | (go_simp; rfl)); intro gb549 hg w121 hbox hb; have n0_ := Aside0.mk (blk_below (g := gb540) (o := .cells #[.string a0_0, .string a0_1, .int .i64 a0_2, .slice (some ad548) l0_3.length c0_3, .int .i64 a0_4] 48 (0, 0)) (by (with_reducible repeat (first | refine blk_drewN ?_ _ | refine blk_drew ?_ | refine blk_alloc ?_ _)); exact BK540.out) hb); have n1_ := Aside0.mk (below_step (by repeat (first | (with_reducible first | exact HB.out | apply below_alloc | apply pw_below_drewN | apply below_drew1 | refine below_set ?_ GE540.out) | exact HB.out)) hb); have n2_ := Aside0.mk (hbox); have n3_ := Aside0.mk ((by rw [hg]; exact (below_size (by repeat (first | (with_reducible first | exact HB.out | apply below_alloc | apply pw_below_drewN | apply below_drew1 | refine below_set ?_ GE540.out) | exact HB.out))) : w.heap.size ≤ gb549)); have n4_ := Aside0.mk ((by rw [hg]; exact (below_size (by repeat (first | (with_reducible first | exact HB.out | apply below_alloc | apply pw_below_drewN | apply below_drew1 | refine below_set ?_ GE540.out) | exact HB.out))) : w.heap.size ≤ gb549)); have n5_ := Aside0.mk ((by rw [hg]; exact Nat.ne_of_lt (blk_lt (g := gb540) (o := .cells #[.string a0_0, .string a0_1, .int .i64 a0_2, .slice (some ad548) l0_3.length c0_3, .int .i64 a0_4] 48 (0, 0)) (by (with_reducible repeat (first | refine blk_drewN ?_ _ | refine blk_drew ?_ | refine blk_alloc ?_ _)); exact BK540.out)) : gb540 ≠ gb549)); have n6_ := Aside0.mk ((by rw [hg]; exact Nat.ne_of_gt (blk_lt (g := gb540) (o := .cells #[.string a0_0, .string a0_1, .int .i64 a0_2, .slice (some ad548) l0_3.length c0_3, .int .i64 a0_4] 48 (0, 0)) (by (with_reducible repeat (first | refine blk_drewN ?_ _ | refine blk_drew ?_ | refine blk_alloc ?_ _)); exact BK540.out)) : gb549 ≠ gb540)); clear BK540; clear HB; have BK540 := n0_; have HB := n1_; have BK549 := n2_; have GW549 := n3_; have GE549 := n4_; have NB540_549 := n5_; have NB549_540 := n6_; clear n0_ n1_ n2_ n3_ n4_ n5_ n6_; clear hb hbox hg; have hnb122 := NB549_540.out; have hnc122 := NB540_549.out; have hcz123_0 : w121.cell? ⟨gb549, 0, none⟩ = some (.string (⟨#[]⟩ : ByteArray)) := (blk_cell BK549.out 0).trans rfl; have hcz123_1 : w121.cell? ⟨gb549, 1, none⟩ = some (.string (⟨#[]⟩ : ByteArray)) := (blk_cell BK549.out 1).trans rfl; have hcz123_2 : w121.cell? ⟨gb549, 2, none⟩ = some (.string (⟨#[]⟩ : ByteArray)) := (blk_cell BK549.out 2).trans rfl; have hcz123_3 : w121.cell? ⟨gb549, 3, none⟩ = some (.bool false) := (blk_cell BK549.out 3).trans rfl; have hcz123_4 : w121.cell? ⟨gb549, 4, none⟩ = some (.bool false) := (blk_cell BK549.out 4).trans rfl; have hfz123_0 := blk_frozen BK549.out 0; have hfz123_1 := blk_frozen BK549.out 1; have hfz123_2 := blk_frozen BK549.out 2; have hfz123_3 := blk_frozen BK549.out 3; have hfz123_4 := blk_frozen BK549.out 4))
                  have n0_ : Aside0 ((((((w121.setCell ⟨gb549, 0, none⟩ (.string ((rd_T82 l0_3 x3_2).f0))).setCell ⟨gb549, 1, none⟩ (.string ((rd_T82 l0_3 x3_2).f1))).setCell ⟨gb549, 2, none⟩ (.string ((rd_T82 l0_3 x3_2).f2))).setCell ⟨gb549, 3, none⟩ (.bool false)).setCell ⟨gb549, 4, none⟩ (.bool true)).heap[gb540]? = some (.cells #[.string a0_0, .string a0_1, .int .i64 a0_2, .slice (some ad548) l0_3.length c0_3, .int .i64 a0_4] 48 (0, 0))) := ⟨by (with_reducible repeat (first | refine blk_drewN ?_ _ | refine blk_drew ?_ | refine blk_alloc ?_ _)); refine blk_far ?_ NB540_549.out _; (with_reducible repeat (first | refine blk_drewN ?_ _ | refine blk_drew ?_ | refine blk_alloc ?_ _)); refine blk_far ?_ NB540_549.out _; (with_reducible repeat (first | refine blk_drewN ?_ _ | refine blk_drew ?_ | refine blk_alloc ?_ _)); refine blk_far ?_ NB540_549.out _; (with_reducible repeat (first | refine blk_drewN ?_ _ | refine blk_drew ?_ | refine blk_alloc ?_ _)); refine blk_far ?_ NB540_549.out _; (with_reducible repeat (first | refine blk_drewN ?_ _ | refine blk_drew ?_ | refine blk_alloc ?_ _)); refine blk_far ?_ NB540_549.out _; (with_reducible repeat (first | refine blk_drewN ?_ _ | refine blk_drew ?_ | refine blk_alloc ?_ _)); exact BK540.out⟩
                  have n1_ : Aside0 ((((((w121.setCell ⟨gb549, 0, none⟩ (.string ((rd_T82 l0_3 x3_2).f0))).setCell ⟨gb549, 1, none⟩ (.string ((rd_T82 l0_3 x3_2).f1))).setCell ⟨gb549, 2, none⟩ (.string ((rd_T82 l0_3 x3_2).f2))).setCell ⟨gb549, 3, none⟩ (.bool false)).setCell ⟨gb549, 4, none⟩ (.bool true)).heap[gb549]? = some (.cells #[.string ((rd_T82 l0_3 x3_2).f0), .string ((rd_T82 l0_3 x3_2).f1), .string ((rd_T82 l0_3 x3_2).f2), .bool false, .bool true] 82 (0, 0))) := ⟨by (with_reducible repeat (first | refine blk_drewN ?_ _ | refine blk_drew ?_ | refine blk_alloc ?_ _)); refine blk_put (cs := #[.string ((rd_T82 l0_3 x3_2).f0), .string ((rd_T82 l0_3 x3_2).f1), .string ((rd_T82 l0_3 x3_2).f2), .bool false, .bool false]) ?_ 4 _ rfl; (with_reducible repeat (first | refine blk_drewN ?_ _ | refine blk_drew ?_ | refine blk_alloc ?_ _)); refine blk_put (cs := #[.string ((rd_T82 l0_3 x3_2).f0), .string ((rd_T82 l0_3 x3_2).f1), .string ((rd_T82 l0_3 x3_2).f2), .bool false, .bool false]) ?_ 3 _ rfl; (with_reducible repeat (first | refine blk_drewN ?_ _ | refine blk_drew ?_ | refine blk_alloc ?_ _)); refine blk_put (cs := #[.string ((rd_T82 l0_3 x3_2).f0), .string ((rd_T82 l0_3 x3_2).f1), .string (⟨#[]⟩ : ByteArray), .bool false, .bool false]) ?_ 2 _ rfl; (with_reducible repeat (first | refine blk_drewN ?_ _ | refine blk_drew ?_ | refine blk_alloc ?_ _)); refine blk_put (cs := #[.string ((rd_T82 l0_3 x3_2).f0), .string (⟨#[]⟩ : ByteArray), .string (⟨#[]⟩ : ByteArray), .bool false, .bool false]) ?_ 1 _ rfl; (with_reducible repeat (first | refine blk_drewN ?_ _ | refine blk_drew ?_ | refine blk_alloc ?_ _)); refine blk_put (cs := #[.string (⟨#[]⟩ : ByteArray), .string (⟨#[]⟩ : ByteArray), .string (⟨#[]⟩ : ByteArray), .bool false, .bool false]) ?_ 0 _ rfl; (with_reducible repeat (first | refine blk_drewN ?_ _ | refine blk_drew ?_ | refine blk_alloc ?_ _)); exact BK549.out⟩
                  have n2_ : Aside0 (Below w.heap.size w (((((w121.setCell ⟨gb549, 0, none⟩ (.string ((rd_T82 l0_3 x3_2).f0))).setCell ⟨gb549, 1, none⟩ (.string ((rd_T82 l0_3 x3_2).f1))).setCell ⟨gb549, 2, none⟩ (.string ((rd_T82 l0_3 x3_2).f2))).setCell ⟨gb549, 3, none⟩ (.bool false)).setCell ⟨gb549, 4, none⟩ (.bool true))) := ⟨by repeat (first | (with_reducible first | exact HB.out | apply below_alloc | apply pw_below_drewN | apply below_drew1 | refine below_set ?_ GE540.out | refine below_set ?_ GE549.out) | exact HB.out)⟩
                  (try clear BK540)
                  (try clear BK549)
                  (try clear HB)
                  generalize (((((w121.setCell ⟨gb549, 0, none⟩ (.string ((rd_T82 l0_3 x3_2).f0))).setCell ⟨gb549, 1, none⟩ (.string ((rd_T82 l0_3 x3_2).f1))).setCell ⟨gb549, 2, none⟩ (.string ((rd_T82 l0_3 x3_2).f2))).setCell ⟨gb549, 3, none⟩ (.bool false)).setCell ⟨gb549, 4, none⟩ (.bool true)) = w124 at n0_ n1_ n2_ ⊢
                  have BK540 := n0_
                  have BK549 := n1_
                  have HB := n2_
                  clear n0_ n1_ n2_
                  have n0_ := Aside0.mk (blk_drew BK540.out)
                  have n1_ := Aside0.mk (blk_drew BK549.out)
                  have n2_ := Aside0.mk (below_drew1 HB.out)
                  clear BK540
                  clear BK549
                  clear HB
                  have BK540 := n0_
                  have BK549 := n1_
                  have HB := n2_
                  clear n0_ n1_ n2_
                  have p553 : 0 ≤ ((ji110) : Int) := of_decide_eq_true (by first | (with_reducible assumption) | assumption)
                  have q553 : (ji110) < (l0_3.length : Int) := of_decide_eq_true (by first | (with_reducible assumption) | assumption)
                  obtain ⟨ad553, e553, hx553_0, hx553_1, hx553_2, hx553_3, hx553_4⟩ := at_T82 HR0_3.out (ji110) p553 q553
                  have hw553_4 := hx553_4
                  have hw553_3 := hx553_3
                  have hw553_2 := hx553_2
                  have hw553_1 := hx553_1
                  have hw553_0 := hx553_0
                  (try rw [← Nbq49.out] at hx553_3)
                  (try rw [← Nbq106.out] at hx553_3)
                  (try rw [← Nbq49.out] at hx553_4)
                  (try rw [← Nbq106.out] at hx553_4)
                  obtain rfl : ad548 = ad553 := (by injection e553)
                  replace hx553_0 := (HB.out.cell (World.block_lt_of_cell? w _ hx553_0)).trans hx553_0
                  replace hx553_1 := (HB.out.cell (World.block_lt_of_cell? w _ hx553_1)).trans hx553_1
                  replace hx553_2 := (HB.out.cell (World.block_lt_of_cell? w _ hx553_2)).trans hx553_2
                  replace hx553_3 := (HB.out.cell (World.block_lt_of_cell? w _ hx553_3)).trans hx553_3
                  replace hx553_4 := (HB.out.cell (World.block_lt_of_cell? w _ hx553_4)).trans hx553_4
                  replace p553 := eq_true p553
                  replace q553 := eq_true q553
                  refine wp_region_later (by kernel_rfl) (by kernel_rfl) ?_
                  have hL0_ := Aside0.mk (show w124.drew.cell? ⟨gb549, 0, none⟩ = some (.string ((rd_T82 l0_3 x3_2).f0)) from (blk_cell BK549.out 0).trans rfl)
                  have hL1_ := Aside0.mk (show w124.drew.cell? ⟨gb549, 1, none⟩ = some (.string ((rd_T82 l0_3 x3_2).f1)) from (blk_cell BK549.out 1).trans rfl)
                  have hL2_ := Aside0.mk (show w124.drew.cell? ⟨gb549, 2, none⟩ = some (.string ((rd_T82 l0_3 x3_2).f2)) from (blk_cell BK549.out 2).trans rfl)
                  have hL3_ := Aside0.mk (show w124.drew.cell? ⟨gb549, 3, none⟩ = some (.bool false) from (blk_cell BK549.out 3).trans rfl)
                  have hL4_ := Aside0.mk (show w124.drew.cell? ⟨gb549, 4, none⟩ = some (.bool true) from (blk_cell BK549.out 4).trans rfl)
                  have hL5_ := Aside0.mk (show w124.drew.cell? ⟨gb540, 0, none⟩ = some (.string a0_0) from (blk_cell BK540.out 0).trans rfl)
                  have hL6_ := Aside0.mk (show w124.drew.cell? ⟨gb540, 1, none⟩ = some (.string a0_1) from (blk_cell BK540.out 1).trans rfl)
                  have hL7_ := Aside0.mk (show w124.drew.cell? ⟨gb540, 2, none⟩ = some (.int .i64 a0_2) from (blk_cell BK540.out 2).trans rfl)
                  have hL8_ := Aside0.mk (show w124.drew.cell? ⟨gb540, 3, none⟩ = some (.slice (some ad548) l0_3.length c0_3) from (blk_cell BK540.out 3).trans rfl)
                  have hL9_ := Aside0.mk (show w124.drew.cell? ⟨gb540, 4, none⟩ = some (.int .i64 a0_4) from (blk_cell BK540.out 4).trans rfl)
                  have hL10_ := Aside0.mk (show w124.drew.cell? (ad548.add (((ji110)).toNat * 5)) = some (.string ((rd_T82 l0_3 (ji110)).f0)) from ((HB.out.cell (World.block_lt_of_cell? w _ hw553_0)).trans hw553_0))
                  have hL11_ := Aside0.mk (show w124.drew.cell? ⟨(ad548.add (((ji110)).toNat * 5)).block, (ad548.add (((ji110)).toNat * 5)).off + 1, none⟩ = some (.string ((rd_T82 l0_3 (ji110)).f1)) from ((HB.out.cell (World.block_lt_of_cell? w _ hw553_1)).trans hw553_1))
                  have hL12_ := Aside0.mk (show w124.drew.cell? ⟨(ad548.add (((ji110)).toNat * 5)).block, (ad548.add (((ji110)).toNat * 5)).off + 2, none⟩ = some (.string ((rd_T82 l0_3 (ji110)).f2)) from ((HB.out.cell (World.block_lt_of_cell? w _ hw553_2)).trans hw553_2))
                  have hL13_ := Aside0.mk (show w124.drew.cell? ⟨(ad548.add (((ji110)).toNat * 5)).block, (ad548.add (((ji110)).toNat * 5)).off + 3, none⟩ = some (.bool ((rd_T82 l0_3 (ji110)).f3)) from ((HB.out.cell (World.block_lt_of_cell? w _ hw553_3)).trans hw553_3))
                  have hL14_ := Aside0.mk (show w124.drew.cell? ⟨(ad548.add (((ji110)).toNat * 5)).block, (ad548.add (((ji110)).toNat * 5)).off + 4, none⟩ = some (.bool ((rd_T82 l0_3 (ji110)).f4)) from ((HB.out.cell (World.block_lt_of_cell? w _ hw553_4)).trans hw553_4))
                  generalize w124.drew = w125b at BK540 BK549 HB hx553_0 hx553_1 hx553_2 hx553_3 hx553_4 hL0_ hL1_ hL2_ hL3_ hL4_ hL5_ hL6_ hL7_ hL8_ hL9_ hL10_ hL11_ hL12_ hL13_ hL14_ ⊢
                  clear hx553_0 hx553_1 hx553_2 hx553_3 hx553_4
                  have hL0 := fun (p_ : Later w125b) => Later.cell p_ hL0_.out
                  have hL1 := fun (p_ : Later w125b) => Later.cell p_ hL1_.out
                  have hL2 := fun (p_ : Later w125b) => Later.cell p_ hL2_.out
                  have hL3 := fun (p_ : Later w125b) => Later.cell p_ hL3_.out
                  have hL4 := fun (p_ : Later w125b) => Later.cell p_ hL4_.out
                  have hL5 := fun (p_ : Later w125b) => Later.cell p_ hL5_.out
                  have hL6 := fun (p_ : Later w125b) => Later.cell p_ hL6_.out
                  have hL7 := fun (p_ : Later w125b) => Later.cell p_ hL7_.out
                  have hL8 := fun (p_ : Later w125b) => Later.cell p_ hL8_.out
                  have hL9 := fun (p_ : Later w125b) => Later.cell p_ hL9_.out
                  have hL10 := fun (p_ : Later w125b) => Later.cell p_ hL10_.out
                  have hL11 := fun (p_ : Later w125b) => Later.cell p_ hL11_.out
                  have hL12 := fun (p_ : Later w125b) => Later.cell p_ hL12_.out
                  have hL13 := fun (p_ : Later w125b) => Later.cell p_ hL13_.out
                  have hL14 := fun (p_ : Later w125b) => Later.cell p_ hL14_.out
                  clear hL0_ hL1_ hL2_ hL3_ hL4_ hL5_ hL6_ hL7_ hL8_ hL9_ hL10_ hL11_ hL12_ hL13_ hL14_
                  repeat (first | go_big_quiet_step ((first | (go_at_call 65; exact Calls.later_drawn (spec_l01In.calls (((rd_T82 l0_3 x3_2).f0).size : Int) 1 30 true _ A33.out)))) | quiet_step ((first | (go_at_call 65; exact Calls.later_drawn (spec_l01In.calls (((rd_T82 l0_3 x3_2).f0).size : Int) 1 30 true _ A33.out)))))
                  refine wpQuiet_nil ?_
                  rintro w125 ⟨⟨wq_, hbL⟩, hq_⟩
                  have hq2_ : w125 = wq_ := hq_
                  clear hq_
                  subst hq2_
                  clear hL0 hL1 hL2 hL3 hL4 hL5 hL6 hL7 hL8 hL9 hL10 hL11 hL12 hL13 hL14
                  have nBK540_ := Aside0.mk ((hbL.block _ (blk_lt BK540.out)).trans BK540.out)
                  have nBK549_ := Aside0.mk ((hbL.block _ (blk_lt BK549.out)).trans BK549.out)
                  have nHB_ := Aside0.mk (below_step HB.out hbL)
                  clear BK540
                  clear BK549
                  clear HB
                  have BK540 := nBK540_
                  have BK549 := nBK549_
                  have HB := nHB_
                  clear nBK540_
                  clear nBK549_
                  clear nHB_
                  clear hbL
                  try go_wp2
                  go_ret
                  exact ⟨by first | rfl | (simp [errW_none, errW_some] <;> rfl) | (simp only [← hji110]; first | rfl | (simp [errW_none, errW_some] <;> rfl)) | (simp [*, errW_none, errW_some] <;> rfl), by repeat (first | (with_reducible first | exact HB.out | apply below_alloc | apply pw_below_drewN | apply below_drew1 | refine below_set ?_ GE540.out | refine below_set ?_ GE549.out) | exact HB.out)⟩
                ·rw [if_neg c112] at H
                 exact absurd H (by simp)
               ·rw [if_neg c111] at H
                exact absurd H (by simp)
              ·rw [if_neg c109] at H
               have c109b0 : decide (0 < x3_2) = false := decide_eq_false c109
               clear c109
               have H' := Aside0.mk H
               clear H
               have hcz126_0 : wr.cell? ⟨gb540, 0, none⟩ = some (.string a0_0) := (blk_cell BK540.out 0).trans rfl
               have hcz126_1 : wr.cell? ⟨gb540, 1, none⟩ = some (.string a0_1) := (blk_cell BK540.out 1).trans rfl
               have hcz126_2 : wr.cell? ⟨gb540, 2, none⟩ = some (.int .i64 a0_2) := (blk_cell BK540.out 2).trans rfl
               have hcz126_3 : wr.cell? ⟨gb540, 3, none⟩ = some (.slice A0_3 l0_3.length c0_3) := (blk_cell BK540.out 3).trans rfl
               have hcz126_4 : wr.cell? ⟨gb540, 4, none⟩ = some (.int .i64 a0_4) := (blk_cell BK540.out 4).trans rfl
               have hfz126_0 := blk_frozen BK540.out 0
               have hfz126_1 := blk_frozen BK540.out 1
               have hfz126_2 := blk_frozen BK540.out 2
               have hfz126_3 := blk_frozen BK540.out 3
               have hfz126_4 := blk_frozen BK540.out 4
               have p548 : 0 ≤ (x3_2 : Int) := of_decide_eq_true (by first | (with_reducible assumption) | assumption)
               have q548 : x3_2 < (l0_3.length : Int) := of_decide_eq_true (by first | (with_reducible assumption) | assumption)
               obtain ⟨ad548, e548, hx548_0, hx548_1, hx548_2, hx548_3, hx548_4⟩ := at_T82 HR0_3.out x3_2 p548 q548
               (try rw [← Nbq49.out] at hx548_3)
               (try rw [← Nbq106.out] at hx548_3)
               (try rw [← Nbq49.out] at hx548_4)
               (try rw [← Nbq106.out] at hx548_4)
               cases e548
               replace hx548_0 := (HB.out.cell (World.block_lt_of_cell? w _ hx548_0)).trans hx548_0
               replace hx548_1 := (HB.out.cell (World.block_lt_of_cell? w _ hx548_1)).trans hx548_1
               replace hx548_2 := (HB.out.cell (World.block_lt_of_cell? w _ hx548_2)).trans hx548_2
               replace hx548_3 := (HB.out.cell (World.block_lt_of_cell? w _ hx548_3)).trans hx548_3
               replace hx548_4 := (HB.out.cell (World.block_lt_of_cell? w _ hx548_4)).trans hx548_4
               replace p548 := eq_true p548
               replace q548 := eq_true q548
               try go_wp2_with (first | ((with_reducible refine gate_dst (N := 4) rfl ?_); (try (refine gate_guard (by rfl) ?_; dsimp only)); refine box_event ?hg (N := 4) ?hd (cs := #[.string (⟨#[]⟩ : ByteArray), .string (⟨#[]⟩ : ByteArray), .string (⟨#[]⟩ : ByteArray), .bool false, .bool false]) (t := 82) ?hr ?_; (case hd => rfl); (case hg => rfl); (case hr => first | (go_simp; done) | (go_simp; rfl)); intro gb549 hg w127 hbox hb; have n0_ := Aside0.mk (blk_below (g := gb540) (o := .cells #[.string a0_0, .string a0_1, .int .i64 a0_2, .slice (some ad548) l0_3.length c0_3, .int .i64 a0_4] 48 (0, 0)) (by (with_reducible repeat (first | refine blk_drewN ?_ _ | refine blk_drew ?_ | refine blk_alloc ?_ _)); exact BK540.out) hb); have n1_ := Aside0.mk (below_step (by repeat (first | (with_reducible first | exact HB.out | apply below_alloc | apply pw_below_drewN | apply below_drew1 | refine below_set ?_ GE540.out) | exact HB.out)) hb); have n2_ := Aside0.mk (hbox); have n3_ := Aside0.mk ((by rw [hg]; exact (below_size (by repeat (first | (with_reducible first | exact HB.out | apply below_alloc | apply pw_below_drewN | apply below_drew1 | refine below_set ?_ GE540.out) | exact HB.out))) : w.heap.size ≤ gb549)); have n4_ := Aside0.mk ((by rw [hg]; exact (below_size (by repeat (first | (with_reducible first | exact HB.out | apply below_alloc | apply pw_below_drewN | apply below_drew1 | refine below_set ?_ GE540.out) | exact HB.out))) : w.heap.size ≤ gb549)); have n5_ := Aside0.mk ((by rw [hg]; exact Nat.ne_of_lt (blk_lt (g := gb540) (o := .cells #[.string a0_0, .string a0_1, .int .i64 a0_2, .slice (some ad548) l0_3.length c0_3, .int .i64 a0_4] 48 (0, 0)) (by (with_reducible repeat (first | refine blk_drewN ?_ _ | refine blk_drew ?_ | refine blk_alloc ?_ _)); exact BK540.out)) : gb540 ≠ gb549)); have n6_ := Aside0.mk ((by rw [hg]; exact Nat.ne_of_gt (blk_lt (g := gb540) (o := .cells #[.string a0_0, .string a0_1, .int .i64 a0_2, .slice (some ad548) l0_3.length c0_3, .int .i64 a0_4] 48 (0, 0)) (by (with_reducible repeat (first | refine blk_drewN ?_ _ | refine blk_drew ?_ | refine blk_alloc ?_ _)); exact BK540.out)) : gb549 ≠ gb540)); clear BK540; clear HB; have BK540 := n0_; have HB := n1_; have BK549 := n2_; have GW549 := n3_; have GE549 := n4_; have NB540_549 := n5_; have NB549_540 := n6_; clear n0_ n1_ n2_ n3_ n4_ n5_ n6_; clear hb hbox hg; have hnb128 := NB549_540.out; have hnc128 := NB540_549.out; have hcz129_0 : w127.cell? ⟨gb549, 0, none⟩ = some (.string (⟨#[]⟩ : ByteArray)) := (blk_cell BK549.out 0).trans rfl; have hcz129_1 : w127.cell? ⟨gb549, 1, none⟩ = some (.string (⟨#[]⟩ : ByteArray)) := (blk_cell BK549.out 1).trans rfl; have hcz129_2 : w127.cell? ⟨gb549, 2, none⟩ = some (.string (⟨#[]⟩ : ByteArray)) := (blk_cell BK549.out 2).trans rfl; have hcz129_3 : w127.cell? ⟨gb549, 3, none⟩ = some (.bool false) := (blk_cell BK549.out 3).trans rfl; have hcz129_4 : w127.cell? ⟨gb549, 4, none⟩ = some (.bool false) := (blk_cell BK549.out 4).trans rfl; have hfz129_0 := blk_frozen BK549.out 0; have hfz129_1 := blk_frozen BK549.out 1; have hfz129_2 := blk_frozen BK549.out 2; have hfz129_3 := blk_frozen BK549.out 3; have hfz129_4 := blk_frozen BK549.out 4))
               have n0_ : Aside0 ((((((w127.setCell ⟨gb549, 0, none⟩ (.string ((rd_T82 l0_3 x3_2).f0))).setCell ⟨gb549, 1, none⟩ (.string ((rd_T82 l0_3 x3_2).f1))).setCell ⟨gb549, 2, none⟩ (.string ((rd_T82 l0_3 x3_2).f2))).setCell ⟨gb549, 3, none⟩ (.bool false)).setCell ⟨gb549, 4, none⟩ (.bool true)).heap[gb540]? = some (.cells #[.string a0_0, .string a0_1, .int .i64 a0_2, .slice (some ad548) l0_3.length c0_3, .int .i64 a0_4] 48 (0, 0))) := ⟨by (with_reducible repeat (first | refine blk_drewN ?_ _ | refine blk_drew ?_ | refine blk_alloc ?_ _)); refine blk_far ?_ NB540_549.out _; (with_reducible repeat (first | refine blk_drewN ?_ _ | refine blk_drew ?_ | refine blk_alloc ?_ _)); refine blk_far ?_ NB540_549.out _; (with_reducible repeat (first | refine blk_drewN ?_ _ | refine blk_drew ?_ | refine blk_alloc ?_ _)); refine blk_far ?_ NB540_549.out _; (with_reducible repeat (first | refine blk_drewN ?_ _ | refine blk_drew ?_ | refine blk_alloc ?_ _)); refine blk_far ?_ NB540_549.out _; (with_reducible repeat (first | refine blk_drewN ?_ _ | refine blk_drew ?_ | refine blk_alloc ?_ _)); refine blk_far ?_ NB540_549.out _; (with_reducible repeat (first | refine blk_drewN ?_ _ | refine blk_drew ?_ | refine blk_alloc ?_ _)); exact BK540.out⟩
               have n1_ : Aside0 ((((((w127.setCell ⟨gb549, 0, none⟩ (.string ((rd_T82 l0_3 x3_2).f0))).setCell ⟨gb549, 1, none⟩ (.string ((rd_T82 l0_3 x3_2).f1))).setCell ⟨gb549, 2, none⟩ (.string ((rd_T82 l0_3 x3_2).f2))).setCell ⟨gb549, 3, none⟩ (.bool false)).setCell ⟨gb549, 4, none⟩ (.bool true)).heap[gb549]? = some (.cells #[.string ((rd_T82 l0_3 x3_2).f0), .string ((rd_T82 l0_3 x3_2).f1), .string ((rd_T82 l0_3 x3_2).f2), .bool false, .bool true] 82 (0, 0))) := ⟨by (with_reducible repeat (first | refine blk_drewN ?_ _ | refine blk_drew ?_ | refine blk_alloc ?_ _)); refine blk_put (cs := #[.string ((rd_T82 l0_3 x3_2).f0), .string ((rd_T82 l0_3 x3_2).f1), .string ((rd_T82 l0_3 x3_2).f2), .bool false, .bool false]) ?_ 4 _ rfl; (with_reducible repeat (first | refine blk_drewN ?_ _ | refine blk_drew ?_ | refine blk_alloc ?_ _)); refine blk_put (cs := #[.string ((rd_T82 l0_3 x3_2).f0), .string ((rd_T82 l0_3 x3_2).f1), .string ((rd_T82 l0_3 x3_2).f2), .bool false, .bool false]) ?_ 3 _ rfl; (with_reducible repeat (first | refine blk_drewN ?_ _ | refine blk_drew ?_ | refine blk_alloc ?_ _)); refine blk_put (cs := #[.string ((rd_T82 l0_3 x3_2).f0), .string ((rd_T82 l0_3 x3_2).f1), .string (⟨#[]⟩ : ByteArray), .bool false, .bool false]) ?_ 2 _ rfl; (with_reducible repeat (first | refine blk_drewN ?_ _ | refine blk_drew ?_ | refine blk_alloc ?_ _)); refine blk_put (cs := #[.string ((rd_T82 l0_3 x3_2).f0), .string (⟨#[]⟩ : ByteArray), .string (⟨#[]⟩ : ByteArray), .bool false, .bool false]) ?_ 1 _ rfl; (with_reducible repeat (first | refine blk_drewN ?_ _ | refine blk_drew ?_ | refine blk_alloc ?_ _)); refine blk_put (cs := #[.string (⟨#[]⟩ : ByteArray), .string (⟨#[]⟩ : ByteArray), .string (⟨#[]⟩ : ByteArray), .bool false, .bool false]) ?_ 0 _ rfl; (with_reducible repeat (first | refine blk_drewN ?_ _ | refine blk_drew ?_ | refine blk_alloc ?_ _)); exact BK549.out⟩
               have n2_ : Aside0 (Below w.heap.size w (((((w127.setCell ⟨gb549, 0, none⟩ (.string ((rd_T82 l0_3 x3_2).f0))).setCell ⟨gb549, 1, none⟩ (.string ((rd_T82 l0_3 x3_2).f1))).setCell ⟨gb549, 2, none⟩ (.string ((rd_T82 l0_3 x3_2).f2))).setCell ⟨gb549, 3, none⟩ (.bool false)).setCell ⟨gb549, 4, none⟩ (.bool true))) := ⟨by repeat (first | (with_reducible first | exact HB.out | apply below_alloc | apply pw_below_drewN | apply below_drew1 | refine below_set ?_ GE540.out | refine below_set ?_ GE549.out) | exact HB.out)⟩
               (try clear BK540)
               (try clear BK549)
               (try clear HB)
               generalize (((((w127.setCell ⟨gb549, 0, none⟩ (.string ((rd_T82 l0_3 x3_2).f0))).setCell ⟨gb549, 1, none⟩ (.string ((rd_T82 l0_3 x3_2).f1))).setCell ⟨gb549, 2, none⟩ (.string ((rd_T82 l0_3 x3_2).f2))).setCell ⟨gb549, 3, none⟩ (.bool false)).setCell ⟨gb549, 4, none⟩ (.bool true)) = w130 at n0_ n1_ n2_ ⊢
               have BK540 := n0_
               have BK549 := n1_
               have HB := n2_
               clear n0_ n1_ n2_
               have n0_ := Aside0.mk (blk_drew BK540.out)
               have n1_ := Aside0.mk (blk_drew BK549.out)
               have n2_ := Aside0.mk (below_drew1 HB.out)
               clear BK540
               clear BK549
               clear HB
               have BK540 := n0_
               have BK549 := n1_
               have HB := n2_
               clear n0_ n1_ n2_
               refine wp_region_later (by kernel_rfl) (by kernel_rfl) ?_
               have hL0_ := Aside0.mk (show w130.drew.cell? ⟨gb549, 0, none⟩ = some (.string ((rd_T82 l0_3 x3_2).f0)) from (blk_cell BK549.out 0).trans rfl)
               have hL1_ := Aside0.mk (show w130.drew.cell? ⟨gb549, 1, none⟩ = some (.string ((rd_T82 l0_3 x3_2).f1)) from (blk_cell BK549.out 1).trans rfl)
               have hL2_ := Aside0.mk (show w130.drew.cell? ⟨gb549, 2, none⟩ = some (.string ((rd_T82 l0_3 x3_2).f2)) from (blk_cell BK549.out 2).trans rfl)
               have hL3_ := Aside0.mk (show w130.drew.cell? ⟨gb549, 3, none⟩ = some (.bool false) from (blk_cell BK549.out 3).trans rfl)
               have hL4_ := Aside0.mk (show w130.drew.cell? ⟨gb549, 4, none⟩ = some (.bool true) from (blk_cell BK549.out 4).trans rfl)
               generalize w130.drew = w131b at BK540 BK549 HB hL0_ hL1_ hL2_ hL3_ hL4_ ⊢
               have hL0 := fun (p_ : Later w131b) => Later.cell p_ hL0_.out
               have hL1 := fun (p_ : Later w131b) => Later.cell p_ hL1_.out
               have hL2 := fun (p_ : Later w131b) => Later.cell p_ hL2_.out
               have hL3 := fun (p_ : Later w131b) => Later.cell p_ hL3_.out
               have hL4 := fun (p_ : Later w131b) => Later.cell p_ hL4_.out
               clear hL0_ hL1_ hL2_ hL3_ hL4_
               repeat (first | go_big_quiet_step ((first | (go_at_call 65; exact Calls.later_drawn (spec_l01In.calls (((rd_T82 l0_3 x3_2).f0).size : Int) 1 30 true _ A33.out)))) | quiet_step ((first | (go_at_call 65; exact Calls.later_drawn (spec_l01In.calls (((rd_T82 l0_3 x3_2).f0).size : Int) 1 30 true _ A33.out)))))
               refine wpQuiet_nil ?_
               rintro w131 ⟨⟨wq_, hbL⟩, hq_⟩
               have hq2_ : w131 = wq_ := hq_
               clear hq_
               subst hq2_
               clear hL0 hL1 hL2 hL3 hL4
               have nBK540_ := Aside0.mk ((hbL.block _ (blk_lt BK540.out)).trans BK540.out)
               have nBK549_ := Aside0.mk ((hbL.block _ (blk_lt BK549.out)).trans BK549.out)
               have nHB_ := Aside0.mk (below_step HB.out hbL)
               clear BK540
               clear BK549
               clear HB
               have BK540 := nBK540_
               have BK549 := nBK549_
               have HB := nHB_
               clear nBK540_
               clear nBK549_
               clear nHB_
               clear hbL
               try go_wp2
               go_roundg k2
               case measure => have := HJ1.out; have := HK2.out; omega
               case rel => exact ⟨(wrap64 (x3_2 + 1)), (by first | rfl | (simp; done) | (simp [*]; done)), H', ⟨by have := HJ1.out; have := HK2.out; omega⟩, ⟨by (with_reducible repeat (first | refine blk_drewN ?_ _ | refine blk_drew ?_ | refine blk_alloc ?_ _)); exact BK540.out⟩, ⟨by repeat (first | (with_reducible first | exact HB.out | apply below_alloc | apply pw_below_drewN | apply below_drew1 | refine below_set ?_ GE540.out | refine below_set ?_ GE549.out) | exact HB.out)⟩⟩
             ·rw [if_neg c108] at H
              have c108b0 : (((rd_T82 l0_3 x3_2).f1).toList == ([] : List UInt8)) = false := beq_eq_false_iff_ne.mpr c108
              have c108b1 : (((rd_T82 l0_3 x3_2).f1).toList != ([] : List UInt8)) = true := bne_iff_ne.mpr c108
              obtain rfl := Option.some.inj H
              have hcz132_0 : wr.cell? ⟨gb540, 0, none⟩ = some (.string a0_0) := (blk_cell BK540.out 0).trans rfl
              have hcz132_1 : wr.cell? ⟨gb540, 1, none⟩ = some (.string a0_1) := (blk_cell BK540.out 1).trans rfl
              have hcz132_2 : wr.cell? ⟨gb540, 2, none⟩ = some (.int .i64 a0_2) := (blk_cell BK540.out 2).trans rfl
              have hcz132_3 : wr.cell? ⟨gb540, 3, none⟩ = some (.slice A0_3 l0_3.length c0_3) := (blk_cell BK540.out 3).trans rfl
              have hcz132_4 : wr.cell? ⟨gb540, 4, none⟩ = some (.int .i64 a0_4) := (blk_cell BK540.out 4).trans rfl
              have hfz132_0 := blk_frozen BK540.out 0
              have hfz132_1 := blk_frozen BK540.out 1
              have hfz132_2 := blk_frozen BK540.out 2
              have hfz132_3 := blk_frozen BK540.out 3
              have hfz132_4 := blk_frozen BK540.out 4
              have p548 : 0 ≤ (x3_2 : Int) := of_decide_eq_true (by first | (with_reducible assumption) | assumption)
              have q548 : x3_2 < (l0_3.length : Int) := of_decide_eq_true (by first | (with_reducible assumption) | assumption)
              obtain ⟨ad548, e548, hx548_0, hx548_1, hx548_2, hx548_3, hx548_4⟩ := at_T82 HR0_3.out x3_2 p548 q548
              (try rw [← Nbq49.out] at hx548_3)
              (try rw [← Nbq106.out] at hx548_3)
              (try rw [← Nbq49.out] at hx548_4)
              (try rw [← Nbq106.out] at hx548_4)
              cases e548
              replace hx548_0 := (HB.out.cell (World.block_lt_of_cell? w _ hx548_0)).trans hx548_0
              replace hx548_1 := (HB.out.cell (World.block_lt_of_cell? w _ hx548_1)).trans hx548_1
              replace hx548_2 := (HB.out.cell (World.block_lt_of_cell? w _ hx548_2)).trans hx548_2
              replace hx548_3 := (HB.out.cell (World.block_lt_of_cell? w _ hx548_3)).trans hx548_3
              replace hx548_4 := (HB.out.cell (World.block_lt_of_cell? w _ hx548_4)).trans hx548_4
              replace p548 := eq_true p548
              replace q548 := eq_true q548
              try go_wp2_with (first | ((with_reducible refine gate_dst (N := 4) rfl ?_); (try (refine gate_guard (by rfl) ?_; dsimp only)); refine box_event ?hg (N := 4) ?hd (cs := #[.string (⟨#[]⟩ : ByteArray), .string (⟨#[]⟩ : ByteArray), .string (⟨#[]⟩ : ByteArray), .bool false, .bool false]) (t := 82) ?hr ?_; (case hd => rfl); (case hg => rfl); (case hr => first | (go_simp; done) | (go_simp; rfl)); intro gb549 hg w133 hbox hb; have n0_ := Aside0.mk (blk_below (g := gb540) (o := .cells #[.string a0_0, .string a0_1, .int .i64 a0_2, .slice (some ad548) l0_3.length c0_3, .int .i64 a0_4] 48 (0, 0)) (by (with_reducible repeat (first | refine blk_drewN ?_ _ | refine blk_drew ?_ | refine blk_alloc ?_ _)); exact BK540.out) hb); have n1_ := Aside0.mk (below_step (by repeat (first | (with_reducible first | exact HB.out | apply below_alloc | apply pw_below_drewN | apply below_drew1 | refine below_set ?_ GE540.out) | exact HB.out)) hb); have n2_ := Aside0.mk (hbox); have n3_ := Aside0.mk ((by rw [hg]; exact (below_size (by repeat (first | (with_reducible first | exact HB.out | apply below_alloc | apply pw_below_drewN | apply below_drew1 | refine below_set ?_ GE540.out) | exact HB.out))) : w.heap.size ≤ gb549)); have n4_ := Aside0.mk ((by rw [hg]; exact (below_size (by repeat (first | (with_reducible first | exact HB.out | apply below_alloc | apply pw_below_drewN | apply below_drew1 | refine below_set ?_ GE540.out) | exact HB.out))) : w.heap.size ≤ gb549)); have n5_ := Aside0.mk ((by rw [hg]; exact Nat.ne_of_lt (blk_lt (g := gb540) (o := .cells #[.string a0_0, .string a0_1, .int .i64 a0_2, .slice (some ad548) l0_3.length c0_3, .int .i64 a0_4] 48 (0, 0)) (by (with_reducible repeat (first | refine blk_drewN ?_ _ | refine blk_drew ?_ | refine blk_alloc ?_ _)); exact BK540.out)) : gb540 ≠ gb549)); have n6_ := Aside0.mk ((by rw [hg]; exact Nat.ne_of_gt (blk_lt (g := gb540) (o := .cells #[.string a0_0, .string a0_1, .int .i64 a0_2, .slice (some ad548) l0_3.length c0_3, .int .i64 a0_4] 48 (0, 0)) (by (with_reducible repeat (first | refine blk_drewN ?_ _ | refine blk_drew ?_ | refine blk_alloc ?_ _)); exact BK540.out)) : gb549 ≠ gb540)); clear BK540; clear HB; have BK540 := n0_; have HB := n1_; have BK549 := n2_; have GW549 := n3_; have GE549 := n4_; have NB540_549 := n5_; have NB549_540 := n6_; clear n0_ n1_ n2_ n3_ n4_ n5_ n6_; clear hb hbox hg; have hnb134 := NB549_540.out; have hnc134 := NB540_549.out; have hcz135_0 : w133.cell? ⟨gb549, 0, none⟩ = some (.string (⟨#[]⟩ : ByteArray)) := (blk_cell BK549.out 0).trans rfl; have hcz135_1 : w133.cell? ⟨gb549, 1, none⟩ = some (.string (⟨#[]⟩ : ByteArray)) := (blk_cell BK549.out 1).trans rfl; have hcz135_2 : w133.cell? ⟨gb549, 2, none⟩ = some (.string (⟨#[]⟩ : ByteArray)) := (blk_cell BK549.out 2).trans rfl; have hcz135_3 : w133.cell? ⟨gb549, 3, none⟩ = some (.bool false) := (blk_cell BK549.out 3).trans rfl; have hcz135_4 : w133.cell? ⟨gb549, 4, none⟩ = some (.bool false) := (blk_cell BK549.out 4).trans rfl; have hfz135_0 := blk_frozen BK549.out 0; have hfz135_1 := blk_frozen BK549.out 1; have hfz135_2 := blk_frozen BK549.out 2; have hfz135_3 := blk_frozen BK549.out 3; have hfz135_4 := blk_frozen BK549.out 4))
              have n0_ : Aside0 ((((((w133.setCell ⟨gb549, 0, none⟩ (.string ((rd_T82 l0_3 x3_2).f0))).setCell ⟨gb549, 1, none⟩ (.string ((rd_T82 l0_3 x3_2).f1))).setCell ⟨gb549, 2, none⟩ (.string ((rd_T82 l0_3 x3_2).f2))).setCell ⟨gb549, 3, none⟩ (.bool false)).setCell ⟨gb549, 4, none⟩ (.bool true)).heap[gb540]? = some (.cells #[.string a0_0, .string a0_1, .int .i64 a0_2, .slice (some ad548) l0_3.length c0_3, .int .i64 a0_4] 48 (0, 0))) := ⟨by (with_reducible repeat (first | refine blk_drewN ?_ _ | refine blk_drew ?_ | refine blk_alloc ?_ _)); refine blk_far ?_ NB540_549.out _; (with_reducible repeat (first | refine blk_drewN ?_ _ | refine blk_drew ?_ | refine blk_alloc ?_ _)); refine blk_far ?_ NB540_549.out _; (with_reducible repeat (first | refine blk_drewN ?_ _ | refine blk_drew ?_ | refine blk_alloc ?_ _)); refine blk_far ?_ NB540_549.out _; (with_reducible repeat (first | refine blk_drewN ?_ _ | refine blk_drew ?_ | refine blk_alloc ?_ _)); refine blk_far ?_ NB540_549.out _; (with_reducible repeat (first | refine blk_drewN ?_ _ | refine blk_drew ?_ | refine blk_alloc ?_ _)); refine blk_far ?_ NB540_549.out _; (with_reducible repeat (first | refine blk_drewN ?_ _ | refine blk_drew ?_ | refine blk_alloc ?_ _)); exact BK540.out⟩
              have n1_ : Aside0 ((((((w133.setCell ⟨gb549, 0, none⟩ (.string ((rd_T82 l0_3 x3_2).f0))).setCell ⟨gb549, 1, none⟩ (.string ((rd_T82 l0_3 x3_2).f1))).setCell ⟨gb549, 2, none⟩ (.string ((rd_T82 l0_3 x3_2).f2))).setCell ⟨gb549, 3, none⟩ (.bool false)).setCell ⟨gb549, 4, none⟩ (.bool true)).heap[gb549]? = some (.cells #[.string ((rd_T82 l0_3 x3_2).f0), .string ((rd_T82 l0_3 x3_2).f1), .string ((rd_T82 l0_3 x3_2).f2), .bool false, .bool true] 82 (0, 0))) := ⟨by (with_reducible repeat (first | refine blk_drewN ?_ _ | refine blk_drew ?_ | refine blk_alloc ?_ _)); refine blk_put (cs := #[.string ((rd_T82 l0_3 x3_2).f0), .string ((rd_T82 l0_3 x3_2).f1), .string ((rd_T82 l0_3 x3_2).f2), .bool false, .bool false]) ?_ 4 _ rfl; (with_reducible repeat (first | refine blk_drewN ?_ _ | refine blk_drew ?_ | refine blk_alloc ?_ _)); refine blk_put (cs := #[.string ((rd_T82 l0_3 x3_2).f0), .string ((rd_T82 l0_3 x3_2).f1), .string ((rd_T82 l0_3 x3_2).f2), .bool false, .bool false]) ?_ 3 _ rfl; (with_reducible repeat (first | refine blk_drewN ?_ _ | refine blk_drew ?_ | refine blk_alloc ?_ _)); refine blk_put (cs := #[.string ((rd_T82 l0_3 x3_2).f0), .string ((rd_T82 l0_3 x3_2).f1), .string (⟨#[]⟩ : ByteArray), .bool false, .bool false]) ?_ 2 _ rfl; (with_reducible repeat (first | refine blk_drewN ?_ _ | refine blk_drew ?_ | refine blk_alloc ?_ _)); refine blk_put (cs := #[.string ((rd_T82 l0_3 x3_2).f0), .string (⟨#[]⟩ : ByteArray), .string (⟨#[]⟩ : ByteArray), .bool false, .bool false]) ?_ 1 _ rfl; (with_reducible repeat (first | refine blk_drewN ?_ _ | refine blk_drew ?_ | refine blk_alloc ?_ _)); refine blk_put (cs := #[.string (⟨#[]⟩ : ByteArray), .string (⟨#[]⟩ : ByteArray), .string (⟨#[]⟩ : ByteArray), .bool false, .bool false]) ?_ 0 _ rfl; (with_reducible repeat (first | refine blk_drewN ?_ _ | refine blk_drew ?_ | refine blk_alloc ?_ _)); exact BK549.out⟩
              have n2_ : Aside0 (Below w.heap.size w (((((w133.setCell ⟨gb549, 0, none⟩ (.string ((rd_T82 l0_3 x3_2).f0))).setCell ⟨gb549, 1, none⟩ (.string ((rd_T82 l0_3 x3_2).f1))).setCell ⟨gb549, 2, none⟩ (.string ((rd_T82 l0_3 x3_2).f2))).setCell ⟨gb549, 3, none⟩ (.bool false)).setCell ⟨gb549, 4, none⟩ (.bool true))) := ⟨by repeat (first | (with_reducible first | exact HB.out | apply below_alloc | apply pw_below_drewN | apply below_drew1 | refine below_set ?_ GE540.out | refine below_set ?_ GE549.out) | exact HB.out)⟩
              (try clear BK540)
              (try clear BK549)
              (try clear HB)
              generalize (((((w133.setCell ⟨gb549, 0, none⟩ (.string ((rd_T82 l0_3 x3_2).f0))).setCell ⟨gb549, 1, none⟩ (.string ((rd_T82 l0_3 x3_2).f1))).setCell ⟨gb549, 2, none⟩ (.string ((rd_T82 l0_3 x3_2).f2))).setCell ⟨gb549, 3, none⟩ (.bool false)).setCell ⟨gb549, 4, none⟩ (.bool true)) = w136 at n0_ n1_ n2_ ⊢
              have BK540 := n0_
              have BK549 := n1_
              have HB := n2_
              clear n0_ n1_ n2_
              have n0_ := Aside0.mk (blk_drew BK540.out)
              have n1_ := Aside0.mk (blk_drew BK549.out)
              have n2_ := Aside0.mk (below_drew1 HB.out)
              clear BK540
              clear BK549
              clear HB
              have BK540 := n0_
              have BK549 := n1_
              have HB := n2_
              clear n0_ n1_ n2_
              refine wp_region_later (by kernel_rfl) (by kernel_rfl) ?_
              have hL0_ := Aside0.mk (show w136.drew.cell? ⟨gb549, 0, none⟩ = some (.string ((rd_T82 l0_3 x3_2).f0)) from (blk_cell BK549.out 0).trans rfl)
              have hL1_ := Aside0.mk (show w136.drew.cell? ⟨gb549, 1, none⟩ = some (.string ((rd_T82 l0_3 x3_2).f1)) from (blk_cell BK549.out 1).trans rfl)
              have hL2_ := Aside0.mk (show w136.drew.cell? ⟨gb549, 2, none⟩ = some (.string ((rd_T82 l0_3 x3_2).f2)) from (blk_cell BK549.out 2).trans rfl)
              have hL3_ := Aside0.mk (show w136.drew.cell? ⟨gb549, 3, none⟩ = some (.bool false) from (blk_cell BK549.out 3).trans rfl)
              have hL4_ := Aside0.mk (show w136.drew.cell? ⟨gb549, 4, none⟩ = some (.bool true) from (blk_cell BK549.out 4).trans rfl)
              generalize w136.drew = w137b at BK540 BK549 HB hL0_ hL1_ hL2_ hL3_ hL4_ ⊢
              have hL0 := fun (p_ : Later w137b) => Later.cell p_ hL0_.out
              have hL1 := fun (p_ : Later w137b) => Later.cell p_ hL1_.out
              have hL2 := fun (p_ : Later w137b) => Later.cell p_ hL2_.out
              have hL3 := fun (p_ : Later w137b) => Later.cell p_ hL3_.out
              have hL4 := fun (p_ : Later w137b) => Later.cell p_ hL4_.out
              clear hL0_ hL1_ hL2_ hL3_ hL4_
              repeat (first | go_big_quiet_step ((first | (go_at_call 65; exact Calls.later_drawn (spec_l01In.calls (((rd_T82 l0_3 x3_2).f0).size : Int) 1 30 true _ A33.out)))) | quiet_step ((first | (go_at_call 65; exact Calls.later_drawn (spec_l01In.calls (((rd_T82 l0_3 x3_2).f0).size : Int) 1 30 true _ A33.out)))))
              refine wpQuiet_nil ?_
              rintro w137 ⟨⟨wq_, hbL⟩, hq_⟩
              have hq2_ : w137 = wq_ := hq_
              clear hq_
              subst hq2_
              clear hL0 hL1 hL2 hL3 hL4
              have nBK540_ := Aside0.mk ((hbL.block _ (blk_lt BK540.out)).trans BK540.out)
              have nBK549_ := Aside0.mk ((hbL.block _ (blk_lt BK549.out)).trans BK549.out)
              have nHB_ := Aside0.mk (below_step HB.out hbL)
              clear BK540
              clear BK549
              clear HB
              have BK540 := nBK540_
              have BK549 := nBK549_
              have HB := nHB_
              clear nBK540_
              clear nBK549_
              clear nHB_
              clear hbL
              try go_wp2
              go_ret
              exact ⟨by first | rfl | (simp [errW_none, errW_some] <;> rfl) | (simp [*, errW_none, errW_some] <;> rfl), by repeat (first | (with_reducible first | exact HB.out | apply below_alloc | apply pw_below_drewN | apply below_drew1 | refine below_set ?_ GE540.out | refine below_set ?_ GE549.out) | exact HB.out)⟩
            ·replace c107 := Bool.eq_false_iff.mpr c107
             subst c107
             have H1 : (some false) = some r := by rw [if_neg (show ¬ (false = true) by decide)] at H; exact H
             clear H
             have H := H1
             clear H1
             obtain rfl := Option.some.inj H
             have hcz138_0 : wr.cell? ⟨gb540, 0, none⟩ = some (.string a0_0) := (blk_cell BK540.out 0).trans rfl
             have hcz138_1 : wr.cell? ⟨gb540, 1, none⟩ = some (.string a0_1) := (blk_cell BK540.out 1).trans rfl
             have hcz138_2 : wr.cell? ⟨gb540, 2, none⟩ = some (.int .i64 a0_2) := (blk_cell BK540.out 2).trans rfl
             have hcz138_3 : wr.cell? ⟨gb540, 3, none⟩ = some (.slice A0_3 l0_3.length c0_3) := (blk_cell BK540.out 3).trans rfl
             have hcz138_4 : wr.cell? ⟨gb540, 4, none⟩ = some (.int .i64 a0_4) := (blk_cell BK540.out 4).trans rfl
             have hfz138_0 := blk_frozen BK540.out 0
             have hfz138_1 := blk_frozen BK540.out 1
             have hfz138_2 := blk_frozen BK540.out 2
             have hfz138_3 := blk_frozen BK540.out 3
             have hfz138_4 := blk_frozen BK540.out 4
             have p548 : 0 ≤ (x3_2 : Int) := of_decide_eq_true (by first | (with_reducible assumption) | assumption)
             have q548 : x3_2 < (l0_3.length : Int) := of_decide_eq_true (by first | (with_reducible assumption) | assumption)
             obtain ⟨ad548, e548, hx548_0, hx548_1, hx548_2, hx548_3, hx548_4⟩ := at_T82 HR0_3.out x3_2 p548 q548
             (try rw [← Nbq49.out] at hx548_3)
             (try rw [← Nbq106.out] at hx548_3)
             (try rw [← Nbq49.out] at hx548_4)
             (try rw [← Nbq106.out] at hx548_4)
             cases e548
             replace hx548_0 := (HB.out.cell (World.block_lt_of_cell? w _ hx548_0)).trans hx548_0
             replace hx548_1 := (HB.out.cell (World.block_lt_of_cell? w _ hx548_1)).trans hx548_1
             replace hx548_2 := (HB.out.cell (World.block_lt_of_cell? w _ hx548_2)).trans hx548_2
             replace hx548_3 := (HB.out.cell (World.block_lt_of_cell? w _ hx548_3)).trans hx548_3
             replace hx548_4 := (HB.out.cell (World.block_lt_of_cell? w _ hx548_4)).trans hx548_4
             replace p548 := eq_true p548
             replace q548 := eq_true q548
             try go_wp2_with (first | ((with_reducible refine gate_dst (N := 4) rfl ?_); (try (refine gate_guard (by rfl) ?_; dsimp only)); refine box_event ?hg (N := 4) ?hd (cs := #[.string (⟨#[]⟩ : ByteArray), .string (⟨#[]⟩ : ByteArray), .string (⟨#[]⟩ : ByteArray), .bool false, .bool false]) (t := 82) ?hr ?_; (case hd => rfl); (case hg => rfl); (case hr => first | (go_simp; done) | (go_simp; rfl)); intro gb549 hg w139 hbox hb; have n0_ := Aside0.mk (blk_below (g := gb540) (o := .cells #[.string a0_0, .string a0_1, .int .i64 a0_2, .slice (some ad548) l0_3.length c0_3, .int .i64 a0_4] 48 (0, 0)) (by (with_reducible repeat (first | refine blk_drewN ?_ _ | refine blk_drew ?_ | refine blk_alloc ?_ _)); exact BK540.out) hb); have n1_ := Aside0.mk (below_step (by repeat (first | (with_reducible first | exact HB.out | apply below_alloc | apply pw_below_drewN | apply below_drew1 | refine below_set ?_ GE540.out) | exact HB.out)) hb); have n2_ := Aside0.mk (hbox); have n3_ := Aside0.mk ((by rw [hg]; exact (below_size (by repeat (first | (with_reducible first | exact HB.out | apply below_alloc | apply pw_below_drewN | apply below_drew1 | refine below_set ?_ GE540.out) | exact HB.out))) : w.heap.size ≤ gb549)); have n4_ := Aside0.mk ((by rw [hg]; exact (below_size (by repeat (first | (with_reducible first | exact HB.out | apply below_alloc | apply pw_below_drewN | apply below_drew1 | refine below_set ?_ GE540.out) | exact HB.out))) : w.heap.size ≤ gb549)); have n5_ := Aside0.mk ((by rw [hg]; exact Nat.ne_of_lt (blk_lt (g := gb540) (o := .cells #[.string a0_0, .string a0_1, .int .i64 a0_2, .slice (some ad548) l0_3.length c0_3, .int .i64 a0_4] 48 (0, 0)) (by (with_reducible repeat (first | refine blk_drewN ?_ _ | refine blk_drew ?_ | refine blk_alloc ?_ _)); exact BK540.out)) : gb540 ≠ gb549)); have n6_ := Aside0.mk ((by rw [hg]; exact Nat.ne_of_gt (blk_lt (g := gb540) (o := .cells #[.string a0_0, .string a0_1, .int .i64 a0_2, .slice (some ad548) l0_3.length c0_3, .int .i64 a0_4] 48 (0, 0)) (by (with_reducible repeat (first | refine blk_drewN ?_ _ | refine blk_drew ?_ | refine blk_alloc ?_ _)); exact BK540.out)) : gb549 ≠ gb540)); clear BK540; clear HB; have BK540 := n0_; have HB := n1_; have BK549 := n2_; have GW549 := n3_; have GE549 := n4_; have NB540_549 := n5_; have NB549_540 := n6_; clear n0_ n1_ n2_ n3_ n4_ n5_ n6_; clear hb hbox hg; have hnb140 := NB549_540.out; have hnc140 := NB540_549.out; have hcz141_0 : w139.cell? ⟨gb549, 0, none⟩ = some (.string (⟨#[]⟩ : ByteArray)) := (blk_cell BK549.out 0).trans rfl; have hcz141_1 : w139.cell? ⟨gb549, 1, none⟩ = some (.string (⟨#[]⟩ : ByteArray)) := (blk_cell BK549.out 1).trans rfl; have hcz141_2 : w139.cell? ⟨gb549, 2, none⟩ = some (.string (⟨#[]⟩ : ByteArray)) := (blk_cell BK549.out 2).trans rfl; have hcz141_3 : w139.cell? ⟨gb549, 3, none⟩ = some (.bool false) := (blk_cell BK549.out 3).trans rfl; have hcz141_4 : w139.cell? ⟨gb549, 4, none⟩ = some (.bool false) := (blk_cell BK549.out 4).trans rfl; have hfz141_0 := blk_frozen BK549.out 0; have hfz141_1 := blk_frozen BK549.out 1; have hfz141_2 := blk_frozen BK549.out 2; have hfz141_3 := blk_frozen BK549.out 3; have hfz141_4 := blk_frozen BK549.out 4))
             have n0_ : Aside0 ((((((w139.setCell ⟨gb549, 0, none⟩ (.string ((rd_T82 l0_3 x3_2).f0))).setCell ⟨gb549, 1, none⟩ (.string ((rd_T82 l0_3 x3_2).f1))).setCell ⟨gb549, 2, none⟩ (.string ((rd_T82 l0_3 x3_2).f2))).setCell ⟨gb549, 3, none⟩ (.bool false)).setCell ⟨gb549, 4, none⟩ (.bool false)).heap[gb540]? = some (.cells #[.string a0_0, .string a0_1, .int .i64 a0_2, .slice (some ad548) l0_3.length c0_3, .int .i64 a0_4] 48 (0, 0))) := ⟨by (with_reducible repeat (first | refine blk_drewN ?_ _ | refine blk_drew ?_ | refine blk_alloc ?_ _)); refine blk_far ?_ NB540_549.out _; (with_reducible repeat (first | refine blk_drewN ?_ _ | refine blk_drew ?_ | refine blk_alloc ?_ _)); refine blk_far ?_ NB540_549.out _; (with_reducible repeat (first | refine blk_drewN ?_ _ | refine blk_drew ?_ | refine blk_alloc ?_ _)); refine blk_far ?_ NB540_549.out _; (with_reducible repeat (first | refine blk_drewN ?_ _ | refine blk_drew ?_ | refine blk_alloc ?_ _)); refine blk_far ?_ NB540_549.out _; (with_reducible repeat (first | refine blk_drewN ?_ _ | refine blk_drew ?_ | refine blk_alloc ?_ _)); refine blk_far ?_ NB540_549.out _; (with_reducible repeat (first | refine blk_drewN ?_ _ | refine blk_drew ?_ | refine blk_alloc ?_ _)); exact BK540.out⟩
             have n1_ : Aside0 ((((((w139.setCell ⟨gb549, 0, none⟩ (.string ((rd_T82 l0_3 x3_2).f0))).setCell ⟨gb549, 1, none⟩ (.string ((rd_T82 l0_3 x3_2).f1))).setCell ⟨gb549, 2, none⟩ (.string ((rd_T82 l0_3 x3_2).f2))).setCell ⟨gb549, 3, none⟩ (.bool false)).setCell ⟨gb549, 4, none⟩ (.bool false)).heap[gb549]? = some (.cells #[.string ((rd_T82 l0_3 x3_2).f0), .string ((rd_T82 l0_3 x3_2).f1), .string ((rd_T82 l0_3 x3_2).f2), .bool false, .bool false] 82 (0, 0))) := ⟨by (with_reducible repeat (first | refine blk_drewN ?_ _ | refine blk_drew ?_ | refine blk_alloc ?_ _)); refine blk_put (cs := #[.string ((rd_T82 l0_3 x3_2).f0), .string ((rd_T82 l0_3 x3_2).f1), .string ((rd_T82 l0_3 x3_2).f2), .bool false, .bool false]) ?_ 4 _ rfl; (with_reducible repeat (first | refine blk_drewN ?_ _ | refine blk_drew ?_ | refine blk_alloc ?_ _)); refine blk_put (cs := #[.string ((rd_T82 l0_3 x3_2).f0), .string ((rd_T82 l0_3 x3_2).f1), .string ((rd_T82 l0_3 x3_2).f2), .bool false, .bool false]) ?_ 3 _ rfl; (with_reducible repeat (first | refine blk_drewN ?_ _ | refine blk_drew ?_ | refine blk_alloc ?_ _)); refine blk_put (cs := #[.string ((rd_T82 l0_3 x3_2).f0), .string ((rd_T82 l0_3 x3_2).f1), .string (⟨#[]⟩ : ByteArray), .bool false, .bool false]) ?_ 2 _ rfl; (with_reducible repeat (first | refine blk_drewN ?_ _ | refine blk_drew ?_ | refine blk_alloc ?_ _)); refine blk_put (cs := #[.string ((rd_T82 l0_3 x3_2).f0), .string (⟨#[]⟩ : ByteArray), .string (⟨#[]⟩ : ByteArray), .bool false, .bool false]) ?_ 1 _ rfl; (with_reducible repeat (first | refine blk_drewN ?_ _ | refine blk_drew ?_ | refine blk_alloc ?_ _)); refine blk_put (cs := #[.string (⟨#[]⟩ : ByteArray), .string (⟨#[]⟩ : ByteArray), .string (⟨#[]⟩ : ByteArray), .bool false, .bool false]) ?_ 0 _ rfl; (with_reducible repeat (first | refine blk_drewN ?_ _ | refine blk_drew ?_ | refine blk_alloc ?_ _)); exact BK549.out⟩
             have n2_ : Aside0 (Below w.heap.size w (((((w139.setCell ⟨gb549, 0, none⟩ (.string ((rd_T82 l0_3 x3_2).f0))).setCell ⟨gb549, 1, none⟩ (.string ((rd_T82 l0_3 x3_2).f1))).setCell ⟨gb549, 2, none⟩ (.string ((rd_T82 l0_3 x3_2).f2))).setCell ⟨gb549, 3, none⟩ (.bool false)).setCell ⟨gb549, 4, none⟩ (.bool false))) := ⟨by repeat (first | (with_reducible first | exact HB.out | apply below_alloc | apply pw_below_drewN | apply below_drew1 | refine below_set ?_ GE540.out | refine below_set ?_ GE549.out) | exact HB.out)⟩
             (try clear BK540)
             (try clear BK549)
             (try clear HB)
             generalize (((((w139.setCell ⟨gb549, 0, none⟩ (.string ((rd_T82 l0_3 x3_2).f0))).setCell ⟨gb549, 1, none⟩ (.string ((rd_T82 l0_3 x3_2).f1))).setCell ⟨gb549, 2, none⟩ (.string ((rd_T82 l0_3 x3_2).f2))).setCell ⟨gb549, 3, none⟩ (.bool false)).setCell ⟨gb549, 4, none⟩ (.bool false)) = w142 at n0_ n1_ n2_ ⊢
             have BK540 := n0_
             have BK549 := n1_
             have HB := n2_
             clear n0_ n1_ n2_
             have n0_ := Aside0.mk (blk_drew BK540.out)
             have n1_ := Aside0.mk (blk_drew BK549.out)
             have n2_ := Aside0.mk (below_drew1 HB.out)
             clear BK540
             clear BK549
             clear HB
             have BK540 := n0_
             have BK549 := n1_
             have HB := n2_
             clear n0_ n1_ n2_
             refine wp_region_later (by kernel_rfl) (by kernel_rfl) ?_
             have hL0_ := Aside0.mk (show w142.drew.cell? ⟨gb549, 0, none⟩ = some (.string ((rd_T82 l0_3 x3_2).f0)) from (blk_cell BK549.out 0).trans rfl)
             have hL1_ := Aside0.mk (show w142.drew.cell? ⟨gb549, 1, none⟩ = some (.string ((rd_T82 l0_3 x3_2).f1)) from (blk_cell BK549.out 1).trans rfl)
             have hL2_ := Aside0.mk (show w142.drew.cell? ⟨gb549, 2, none⟩ = some (.string ((rd_T82 l0_3 x3_2).f2)) from (blk_cell BK549.out 2).trans rfl)
             have hL3_ := Aside0.mk (show w142.drew.cell? ⟨gb549, 3, none⟩ = some (.bool false) from (blk_cell BK549.out 3).trans rfl)
             have hL4_ := Aside0.mk (show w142.drew.cell? ⟨gb549, 4, none⟩ = some (.bool false) from (blk_cell BK549.out 4).trans rfl)
             generalize w142.drew = w143b at BK540 BK549 HB hL0_ hL1_ hL2_ hL3_ hL4_ ⊢
             have hL0 := fun (p_ : Later w143b) => Later.cell p_ hL0_.out
             have hL1 := fun (p_ : Later w143b) => Later.cell p_ hL1_.out
             have hL2 := fun (p_ : Later w143b) => Later.cell p_ hL2_.out
             have hL3 := fun (p_ : Later w143b) => Later.cell p_ hL3_.out
             have hL4 := fun (p_ : Later w143b) => Later.cell p_ hL4_.out
             clear hL0_ hL1_ hL2_ hL3_ hL4_
             repeat (first | go_big_quiet_step ((first | (go_at_call 65; exact Calls.later_drawn (spec_l01In.calls (((rd_T82 l0_3 x3_2).f0).size : Int) 1 30 true _ A33.out)))) | quiet_step ((first | (go_at_call 65; exact Calls.later_drawn (spec_l01In.calls (((rd_T82 l0_3 x3_2).f0).size : Int) 1 30 true _ A33.out)))))
             refine wpQuiet_nil ?_
             rintro w143 ⟨⟨wq_, hbL⟩, hq_⟩
             have hq2_ : w143 = wq_ := hq_
             clear hq_
             subst hq2_
             clear hL0 hL1 hL2 hL3 hL4
             have nBK540_ := Aside0.mk ((hbL.block _ (blk_lt BK540.out)).trans BK540.out)
             have nBK549_ := Aside0.mk ((hbL.block _ (blk_lt BK549.out)).trans BK549.out)
             have nHB_ := Aside0.mk (below_step HB.out hbL)
             clear BK540
             clear BK549
             clear HB
             have BK540 := nBK540_
             have BK549 := nBK549_
             have HB := nHB_
             clear nBK540_
             clear nBK549_
             clear nHB_
             clear hbL
             try go_wp2
             go_ret
             exact ⟨by first | rfl | (simp [errW_none, errW_some] <;> rfl) | (simp [*, errW_none, errW_some] <;> rfl), by repeat (first | (with_reducible first | exact HB.out | apply below_alloc | apply pw_below_drewN | apply below_drew1 | refine below_set ?_ GE540.out | refine below_set ?_ GE549.out) | exact HB.out)⟩
        ·replace c34 := Bool.eq_false_iff.mpr c34
         subst c34
         have H1 : (some false) = some r := by rw [if_neg (show ¬ (false = true) by decide)] at H; exact H
         clear H
         have H := H1
         clear H1
         obtain rfl := Option.some.inj H
         have hcz144_0 : wr.cell? ⟨gb540, 0, none⟩ = some (.string a0_0) := (blk_cell BK540.out 0).trans rfl
         have hcz144_1 : wr.cell? ⟨gb540, 1, none⟩ = some (.string a0_1) := (blk_cell BK540.out 1).trans rfl
         have hcz144_2 : wr.cell? ⟨gb540, 2, none⟩ = some (.int .i64 a0_2) := (blk_cell BK540.out 2).trans rfl
         have hcz144_3 : wr.cell? ⟨gb540, 3, none⟩ = some (.slice A0_3 l0_3.length c0_3) := (blk_cell BK540.out 3).trans rfl
         have hcz144_4 : wr.cell? ⟨gb540, 4, none⟩ = some (.int .i64 a0_4) := (blk_cell BK540.out 4).trans rfl
         have hfz144_0 := blk_frozen BK540.out 0
         have hfz144_1 := blk_frozen BK540.out 1
         have hfz144_2 := blk_frozen BK540.out 2
         have hfz144_3 := blk_frozen BK540.out 3
         have hfz144_4 := blk_frozen BK540.out 4
         have p548 : 0 ≤ (x3_2 : Int) := of_decide_eq_true (by first | (with_reducible assumption) | assumption)
         have q548 : x3_2 < (l0_3.length : Int) := of_decide_eq_true (by first | (with_reducible assumption) | assumption)
         obtain ⟨ad548, e548, hx548_0, hx548_1, hx548_2, hx548_3, hx548_4⟩ := at_T82 HR0_3.out x3_2 p548 q548
         cases e548
         replace hx548_0 := (HB.out.cell (World.block_lt_of_cell? w _ hx548_0)).trans hx548_0
         replace hx548_1 := (HB.out.cell (World.block_lt_of_cell? w _ hx548_1)).trans hx548_1
         replace hx548_2 := (HB.out.cell (World.block_lt_of_cell? w _ hx548_2)).trans hx548_2
         replace hx548_3 := (HB.out.cell (World.block_lt_of_cell? w _ hx548_3)).trans hx548_3
         replace hx548_4 := (HB.out.cell (World.block_lt_of_cell? w _ hx548_4)).trans hx548_4
         replace p548 := eq_true p548
         replace q548 := eq_true q548
         try go_wp2_with (first | ((with_reducible refine gate_dst (N := 4) rfl ?_); (try (refine gate_guard (by rfl) ?_; dsimp only)); refine box_event ?hg (N := 4) ?hd (cs := #[.string (⟨#[]⟩ : ByteArray), .string (⟨#[]⟩ : ByteArray), .string (⟨#[]⟩ : ByteArray), .bool false, .bool false]) (t := 82) ?hr ?_; (case hd => rfl); (case hg => rfl); (case hr => first | (go_simp; done) | (go_simp; rfl)); intro gb549 hg w145 hbox hb; have n0_ := Aside0.mk (blk_below (g := gb540) (o := .cells #[.string a0_0, .string a0_1, .int .i64 a0_2, .slice (some ad548) l0_3.length c0_3, .int .i64 a0_4] 48 (0, 0)) (by (with_reducible repeat (first | refine blk_drewN ?_ _ | refine blk_drew ?_ | refine blk_alloc ?_ _)); exact BK540.out) hb); have n1_ := Aside0.mk (below_step (by repeat (first | (with_reducible first | exact HB.out | apply below_alloc | apply pw_below_drewN | apply below_drew1 | refine below_set ?_ GE540.out) | exact HB.out)) hb); have n2_ := Aside0.mk (hbox); have n3_ := Aside0.mk ((by rw [hg]; exact (below_size (by repeat (first | (with_reducible first | exact HB.out | apply below_alloc | apply pw_below_drewN | apply below_drew1 | refine below_set ?_ GE540.out) | exact HB.out))) : w.heap.size ≤ gb549)); have n4_ := Aside0.mk ((by rw [hg]; exact (below_size (by repeat (first | (with_reducible first | exact HB.out | apply below_alloc | apply pw_below_drewN | apply below_drew1 | refine below_set ?_ GE540.out) | exact HB.out))) : w.heap.size ≤ gb549)); have n5_ := Aside0.mk ((by rw [hg]; exact Nat.ne_of_lt (blk_lt (g := gb540) (o := .cells #[.string a0_0, .string a0_1, .int .i64 a0_2, .slice (some ad548) l0_3.length c0_3, .int .i64 a0_4] 48 (0, 0)) (by (with_reducible repeat (first | refine blk_drewN ?_ _ | refine blk_drew ?_ | refine blk_alloc ?_ _)); exact BK540.out)) : gb540 ≠ gb549)); have n6_ := Aside0.mk ((by rw [hg]; exact Nat.ne_of_gt (blk_lt (g := gb540) (o := .cells #[.string a0_0, .string a0_1, .int .i64 a0_2, .slice (some ad548) l0_3.length c0_3, .int .i64 a0_4] 48 (0, 0)) (by (with_reducible repeat (first | refine blk_drewN ?_ _ | refine blk_drew ?_ | refine blk_alloc ?_ _)); exact BK540.out)) : gb549 ≠ gb540)); clear BK540; clear HB; have BK540 := n0_; have HB := n1_; have BK549 := n2_; have GW549 := n3_; have GE549 := n4_; have NB540_549 := n5_; have NB549_540 := n6_; clear n0_ n1_ n2_ n3_ n4_ n5_ n6_; clear hb hbox hg; have hnb146 := NB549_540.out; have hnc146 := NB540_549.out; have hcz147_0 : w145.cell? ⟨gb549, 0, none⟩ = some (.string (⟨#[]⟩ : ByteArray)) := (blk_cell BK549.out 0).trans rfl; have hcz147_1 : w145.cell? ⟨gb549, 1, none⟩ = some (.string (⟨#[]⟩ : ByteArray)) := (blk_cell BK549.out 1).trans rfl; have hcz147_2 : w145.cell? ⟨gb549, 2, none⟩ = some (.string (⟨#[]⟩ : ByteArray)) := (blk_cell BK549.out 2).trans rfl; have hcz147_3 : w145.cell? ⟨gb549, 3, none⟩ = some (.bool false) := (blk_cell BK549.out 3).trans rfl; have hcz147_4 : w145.cell? ⟨gb549, 4, none⟩ = some (.bool false) := (blk_cell BK549.out 4).trans rfl; have hfz147_0 := blk_frozen BK549.out 0; have hfz147_1 := blk_frozen BK549.out 1; have hfz147_2 := blk_frozen BK549.out 2; have hfz147_3 := blk_frozen BK549.out 3; have hfz147_4 := blk_frozen BK549.out 4))
         have n0_ : Aside0 ((((((w145.setCell ⟨gb549, 0, none⟩ (.string ((rd_T82 l0_3 x3_2).f0))).setCell ⟨gb549, 1, none⟩ (.string ((rd_T82 l0_3 x3_2).f1))).setCell ⟨gb549, 2, none⟩ (.string ((rd_T82 l0_3 x3_2).f2))).setCell ⟨gb549, 3, none⟩ (.bool ((rd_T82 l0_3 x3_2).f3))).setCell ⟨gb549, 4, none⟩ (.bool ((rd_T82 l0_3 x3_2).f4))).heap[gb540]? = some (.cells #[.string a0_0, .string a0_1, .int .i64 a0_2, .slice (some ad548) l0_3.length c0_3, .int .i64 a0_4] 48 (0, 0))) := ⟨by (with_reducible repeat (first | refine blk_drewN ?_ _ | refine blk_drew ?_ | refine blk_alloc ?_ _)); refine blk_far ?_ NB540_549.out _; (with_reducible repeat (first | refine blk_drewN ?_ _ | refine blk_drew ?_ | refine blk_alloc ?_ _)); refine blk_far ?_ NB540_549.out _; (with_reducible repeat (first | refine blk_drewN ?_ _ | refine blk_drew ?_ | refine blk_alloc ?_ _)); refine blk_far ?_ NB540_549.out _; (with_reducible repeat (first | refine blk_drewN ?_ _ | refine blk_drew ?_ | refine blk_alloc ?_ _)); refine blk_far ?_ NB540_549.out _; (with_reducible repeat (first | refine blk_drewN ?_ _ | refine blk_drew ?_ | refine blk_alloc ?_ _)); refine blk_far ?_ NB540_549.out _; (with_reducible repeat (first | refine blk_drewN ?_ _ | refine blk_drew ?_ | refine blk_alloc ?_ _)); exact BK540.out⟩
         have n1_ : Aside0 ((((((w145.setCell ⟨gb549, 0, none⟩ (.string ((rd_T82 l0_3 x3_2).f0))).setCell ⟨gb549, 1, none⟩ (.string ((rd_T82 l0_3 x3_2).f1))).setCell ⟨gb549, 2, none⟩ (.string ((rd_T82 l0_3 x3_2).f2))).setCell ⟨gb549, 3, none⟩ (.bool ((rd_T82 l0_3 x3_2).f3))).setCell ⟨gb549, 4, none⟩ (.bool ((rd_T82 l0_3 x3_2).f4))).heap[gb549]? = some (.cells #[.string ((rd_T82 l0_3 x3_2).f0), .string ((rd_T82 l0_3 x3_2).f1), .string ((rd_T82 l0_3 x3_2).f2), .bool ((rd_T82 l0_3 x3_2).f3), .bool ((rd_T82 l0_3 x3_2).f4)] 82 (0, 0))) := ⟨by (with_reducible repeat (first | refine blk_drewN ?_ _ | refine blk_drew ?_ | refine blk_alloc ?_ _)); refine blk_put (cs := #[.string ((rd_T82 l0_3 x3_2).f0), .string ((rd_T82 l0_3 x3_2).f1), .string ((rd_T82 l0_3 x3_2).f2), .bool ((rd_T82 l0_3 x3_2).f3), .bool false]) ?_ 4 _ rfl; (with_reducible repeat (first | refine blk_drewN ?_ _ | refine blk_drew ?_ | refine blk_alloc ?_ _)); refine blk_put (cs := #[.string ((rd_T82 l0_3 x3_2).f0), .string ((rd_T82 l0_3 x3_2).f1), .string ((rd_T82 l0_3 x3_2).f2), .bool false, .bool false]) ?_ 3 _ rfl; (with_reducible repeat (first | refine blk_drewN ?_ _ | refine blk_drew ?_ | refine blk_alloc ?_ _)); refine blk_put (cs := #[.string ((rd_T82 l0_3 x3_2).f0), .string ((rd_T82 l0_3 x3_2).f1), .string (⟨#[]⟩ : ByteArray), .bool false, .bool false]) ?_ 2 _ rfl; (with_reducible repeat (first | refine blk_drewN ?_ _ | refine blk_drew ?_ | refine blk_alloc ?_ _)); refine blk_put (cs := #[.string ((rd_T82 l0_3 x3_2).f0), .string (⟨#[]⟩ : ByteArray), .string (⟨#[]⟩ : ByteArray), .bool false, .bool false]) ?_ 1 _ rfl; (with_reducible repeat (first | refine blk_drewN ?_ _ | refine blk_drew ?_ | refine blk_alloc ?_ _)); refine blk_put (cs := #[.string (⟨#[]⟩ : ByteArray), .string (⟨#[]⟩ : ByteArray), .string (⟨#[]⟩ : ByteArray), .bool false, .bool false]) ?_ 0 _ rfl; (with_reducible repeat (first | refine blk_drewN ?_ _ | refine blk_drew ?_ | refine blk_alloc ?_ _)); exact BK549.out⟩
         have n2_ : Aside0 (Below w.heap.size w (((((w145.setCell ⟨gb549, 0, none⟩ (.string ((rd_T82 l0_3 x3_2).f0))).setCell ⟨gb549, 1, none⟩ (.string ((rd_T82 l0_3 x3_2).f1))).setCell ⟨gb549, 2, none⟩ (.string ((rd_T82 l0_3 x3_2).f2))).setCell ⟨gb549, 3, none⟩ (.bool ((rd_T82 l0_3 x3_2).f3))).setCell ⟨gb549, 4, none⟩ (.bool ((rd_T82 l0_3 x3_2).f4)))) := ⟨by repeat (first | (with_reducible first | exact HB.out | apply below_alloc | apply pw_below_drewN | apply below_drew1 | refine below_set ?_ GE540.out | refine below_set ?_ GE549.out) | exact HB.out)⟩
         (try clear BK540)
         (try clear BK549)
         (try clear HB)
         generalize (((((w145.setCell ⟨gb549, 0, none⟩ (.string ((rd_T82 l0_3 x3_2).f0))).setCell ⟨gb549, 1, none⟩ (.string ((rd_T82 l0_3 x3_2).f1))).setCell ⟨gb549, 2, none⟩ (.string ((rd_T82 l0_3 x3_2).f2))).setCell ⟨gb549, 3, none⟩ (.bool ((rd_T82 l0_3 x3_2).f3))).setCell ⟨gb549, 4, none⟩ (.bool ((rd_T82 l0_3 x3_2).f4))) = w148 at n0_ n1_ n2_ ⊢
         have BK540 := n0_
         have BK549 := n1_
         have HB := n2_
         clear n0_ n1_ n2_
         have n0_ := Aside0.mk (blk_drew BK540.out)
         have n1_ := Aside0.mk (blk_drew BK549.out)
         have n2_ := Aside0.mk (below_drew1 HB.out)
         clear BK540
         clear BK549
         clear HB
         have BK540 := n0_
         have BK549 := n1_
         have HB := n2_
         clear n0_ n1_ n2_
         refine wp_region_later (by kernel_rfl) (by kernel_rfl) ?_
         have hL0_ := Aside0.mk (show w148.drew.cell? ⟨gb549, 0, none⟩ = some (.string ((rd_T82 l0_3 x3_2).f0)) from (blk_cell BK549.out 0).trans rfl)
         have hL1_ := Aside0.mk (show w148.drew.cell? ⟨gb549, 1, none⟩ = some (.string ((rd_T82 l0_3 x3_2).f1)) from (blk_cell BK549.out 1).trans rfl)
         have hL2_ := Aside0.mk (show w148.drew.cell? ⟨gb549, 2, none⟩ = some (.string ((rd_T82 l0_3 x3_2).f2)) from (blk_cell BK549.out 2).trans rfl)
         have hL3_ := Aside0.mk (show w148.drew.cell? ⟨gb549, 3, none⟩ = some (.bool ((rd_T82 l0_3 x3_2).f3)) from (blk_cell BK549.out 3).trans rfl)
         have hL4_ := Aside0.mk (show w148.drew.cell? ⟨gb549, 4, none⟩ = some (.bool ((rd_T82 l0_3 x3_2).f4)) from (blk_cell BK549.out 4).trans rfl)
         generalize w148.drew = w149b at BK540 BK549 HB hL0_ hL1_ hL2_ hL3_ hL4_ ⊢
         have hL0 := fun (p_ : Later w149b) => Later.cell p_ hL0_.out
         have hL1 := fun (p_ : Later w149b) => Later.cell p_ hL1_.out
         have hL2 := fun (p_ : Later w149b) => Later.cell p_ hL2_.out
         have hL3 := fun (p_ : Later w149b) => Later.cell p_ hL3_.out
         have hL4 := fun (p_ : Later w149b) => Later.cell p_ hL4_.out
         clear hL0_ hL1_ hL2_ hL3_ hL4_
         repeat (first | go_big_quiet_step ((first | (go_at_call 65; exact Calls.later_drawn (spec_l01In.calls (((rd_T82 l0_3 x3_2).f0).size : Int) 1 30 false _ A33.out)))) | quiet_step ((first | (go_at_call 65; exact Calls.later_drawn (spec_l01In.calls (((rd_T82 l0_3 x3_2).f0).size : Int) 1 30 false _ A33.out)))))
         refine wpQuiet_nil ?_
         rintro w149 ⟨⟨wq_, hbL⟩, hq_⟩
         have hq2_ : w149 = wq_ := hq_
         clear hq_
         subst hq2_
         clear hL0 hL1 hL2 hL3 hL4
         have nBK540_ := Aside0.mk ((hbL.block _ (blk_lt BK540.out)).trans BK540.out)
         have nBK549_ := Aside0.mk ((hbL.block _ (blk_lt BK549.out)).trans BK549.out)
         have nHB_ := Aside0.mk (below_step HB.out hbL)
         clear BK540
         clear BK549
         clear HB
         have BK540 := nBK540_
         have BK549 := nBK549_
         have HB := nHB_
         clear nBK540_
         clear nBK549_
         clear nHB_
         clear hbL
         try go_wp2
         go_ret
         exact ⟨by first | rfl | (simp [errW_none, errW_some] <;> rfl) | (simp [*, errW_none, errW_some] <;> rfl), by repeat (first | (with_reducible first | exact HB.out | apply below_alloc | apply pw_below_drewN | apply below_drew1 | refine below_set ?_ GE540.out | refine below_set ?_ GE549.out) | exact HB.out)⟩
       ·rw [if_neg c32] at H
        exact absurd H (by simp)
      ·rw [if_neg c31] at H
       have c31b0 : decide (x3_2 < (l0_3.length : Int)) = false := decide_eq_false c31
       clear c31
       obtain rfl := Option.some.inj H
       have hcz150_0 : wr.cell? ⟨gb540, 0, none⟩ = some (.string a0_0) := (blk_cell BK540.out 0).trans rfl
       have hcz150_1 : wr.cell? ⟨gb540, 1, none⟩ = some (.string a0_1) := (blk_cell BK540.out 1).trans rfl
       have hcz150_2 : wr.cell? ⟨gb540, 2, none⟩ = some (.int .i64 a0_2) := (blk_cell BK540.out 2).trans rfl
       have hcz150_3 : wr.cell? ⟨gb540, 3, none⟩ = some (.slice A0_3 l0_3.length c0_3) := (blk_cell BK540.out 3).trans rfl
       have hcz150_4 : wr.cell? ⟨gb540, 4, none⟩ = some (.int .i64 a0_4) := (blk_cell BK540.out 4).trans rfl
       have hfz150_0 := blk_frozen BK540.out 0
       have hfz150_1 := blk_frozen BK540.out 1
       have hfz150_2 := blk_frozen BK540.out 2
       have hfz150_3 := blk_frozen BK540.out 3
       have hfz150_4 := blk_frozen BK540.out 4
       go_wp2
       go_ret
       exact ⟨by first | rfl | (simp [errW_none, errW_some] <;> rfl) | (simp [*, errW_none, errW_some] <;> rfl), by repeat (first | (with_reducible first | exact HB.out | apply below_alloc | apply pw_below_drewN | apply below_drew1 | refine below_set ?_ GE540.out) | exact HB.out)⟩
end Go.Proofs.Ytgcncphdjabjjaa.X
