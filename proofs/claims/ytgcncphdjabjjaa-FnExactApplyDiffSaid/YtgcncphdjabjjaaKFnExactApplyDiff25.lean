import Derived.Test.YtgcncphdjabjjaaKFnExactApplyDiff3
import Derived.Test.YtgcncphdjabjjaaKFnExactApplyDiff4
import Derived.Test.YtgcncphdjabjjaaKFnExactApplyDiff7
import Derived.Test.YtgcncphdjabjjaaKFnExactApplyDiff23
import Derived.Test.YtgcncphdjabjjaaKFnExactApplyDiff24
namespace Go.Proofs.Ytgcncphdjabjjaa.X
open Go.RowKit Go.Proofs.YtgcncphdjabjjaaW.PrintWords Go.Proofs.YtgcncphdjabjjaaW.PrintLast Go.Proofs.YtgcncphdjabjjaaW.PrintMore
attribute [local go_sem] xbin_geq xbin_leq xbin_gtr max2_int min2_int max_two min_two max_three min_three max_four min_four
set_option linter.unusedVariables false
set_option linter.unusedSimpArgs false
def impl_ApplyDiff.j0 : Nat → List (S76) → List (S82) → Bool → Option ((List (S76)) × Int)
 | 0, _, _, _ => none
 | k + 1, x0, x1, x6 => if x6 = true then (some (([] : List (S76)), 2)) else ((impl_PairsOK.f k x0).bind fun t510 => (if t510 = true then (if (x1.length : Int) > 120 then (some (([] : List (S76)), 6)) else ((impl_applyDiffs.f k x0 x1).bind fun bt511 => (some (bt511.1, bt511.2)))) else (some (([] : List (S76)), 1))))
def impl_ApplyDiff.f (k : Nat) (l0 : List (S76)) (l1 : List (S82)) : Option ((List (S76)) × Int) := if (l0.length : Int) > 4096 then (impl_ApplyDiff.j0 k l0 l1 true) else (impl_ApplyDiff.j0 k l0 l1 (decide ((l1.length : Int) > 4096)))
theorem impl_ApplyDiff.mono_l : ∀ k, (∀ y0 y1 y2, LeO (impl_ApplyDiff.j0 k y0 y1 y2) (impl_ApplyDiff.j0 (k + 1) y0 y1 y2))
 | 0 => fun _ _ _ r h => by simp [impl_ApplyDiff.j0] at h
 | k + 1 => by
  have ih0 := impl_ApplyDiff.mono_l k
  ·intro y0 y1 y2
   unfold impl_ApplyDiff.j0
   repeat' first
   | (with_reducible exact ih0 _ _ _)
   | (with_reducible exact impl_PairsOK.mono _ _)
   | (with_reducible exact impl_applyDiffs.mono _ _ _)
   | (with_reducible exact LeO.refl _)
   | (with_reducible exact LeO.none _)
   | (with_reducible refine LeO.ite ?_ ?_)
   | (with_reducible refine LeO.bind ?_ (fun _ => ?_))
   | exact ih0 _ _ _
   | exact impl_PairsOK.mono _ _
   | exact impl_applyDiffs.mono _ _ _
   | exact LeO.none _
   | refine LeO.ite ?_ ?_
   | refine LeO.bind ?_ (fun _ => ?_)
theorem impl_ApplyDiff.mono : ∀ a0 a1 k, LeO (impl_ApplyDiff.f k a0 a1) (impl_ApplyDiff.f (k + 1) a0 a1) := by
 intro a0 a1 k
 have ih0 := impl_ApplyDiff.mono_l k
 unfold impl_ApplyDiff.f
 repeat' first
   | (with_reducible exact ih0 _ _ _)
   | (with_reducible exact impl_PairsOK.mono _ _)
   | (with_reducible exact impl_applyDiffs.mono _ _ _)
   | (with_reducible exact LeO.refl _)
   | (with_reducible exact LeO.none _)
   | (with_reducible refine LeO.ite ?_ ?_)
   | (with_reducible refine LeO.bind ?_ (fun _ => ?_))
   | exact ih0 _ _ _
   | exact impl_PairsOK.mono _ _
   | exact impl_applyDiffs.mono _ _ _
   | exact LeO.none _
   | refine LeO.ite ?_ ?_
   | refine LeO.bind ?_ (fun _ => ?_)
set_option maxHeartbeats 8000000 in
set_option maxRecDepth 100000 in
theorem impl_ApplyDiff.calls (k : Nat) (A0 : Option Addr) (c0 : Nat) (l0 : List (S76)) (A1 : Option Addr) (c1 : Nat) (l1 : List (S82)) (r1 : List (S76)) (r2 : Int) (w : World) (hr0 : Kd.C k76 w A0 l0.length l0) (hc0 : l0.length ≤ c0) (hr1 : Kd.C k82 w A1 l1.length l1) (hc1 : l1.length ≤ c1) (h : impl_ApplyDiff.f k l0 l1 = some (r1, r2)) :
  Calls Try.prog 25 #[.slice A0 l0.length c0, .slice A1 l1.length c1] w fun e w' => ∃ v0_ : Value, e = .returned (.tuple #[v0_, .int .i64 r2]) ∧ Kd.R k76 76 w' w.heap.size (fun _ => True) v0_ r1 ∧ Below w.heap.size w w' := by
 have HR0 := Aside0.mk hr0
 have HC0 := Aside0.mk hc0
 clear hr0 hc0
 have HR1 := Aside0.mk hr1
 have HC1 := Aside0.mk hc1
 clear hr1 hc1
 have HB := Aside0.mk (Below.refl w.heap.size w)
 have H : (if (l0.length : Int) > 4096 then (impl_ApplyDiff.j0 k l0 l1 true) else (impl_ApplyDiff.j0 k l0 l1 (decide ((l1.length : Int) > 4096)))) = some (r1, r2) := h
 clear h
 have HC3 := Aside0.mk H
 clear H
 go_enter Try.func25, Try.ntmps25
 go_upto_region 1 with (fail)
 go_cut [6] (fun v6 wc => ∃ (kq : Nat) (x6_2 : Bool), v6 = .bool x6_2 ∧ Aside0 (impl_ApplyDiff.j0 kq l0 l1 x6_2 = some (r1, r2)) ∧ Aside0 (kq ≤ k) ∧ Aside0 (Below w.heap.size w wc))
 case first =>
  have H := HC3.out
  clear HC3
  by_cases c4 : (l0.length : Int) > 4096
  ·rw [if_pos c4] at H
   have c4b0 : decide (4096 < (l0.length : Int)) = true := decide_eq_true c4
   have c4b1 : decide (4096 < l0.length) = true := decide_eq_true (by omega)
   clear c4
   (first | rw [c4b0] | (simp only [i64_w, i32_w]; rw [c4b0]) | skip)
   have H' := Aside0.mk H
   clear H
   go_wp2
   go_meet
   case rel => exact ⟨_, (true), (by first | rfl | (simp; done) | (simp [*]; done)), H', ⟨by first | omega | exact Nat.le_refl _⟩, ⟨by repeat (first | (with_reducible first | exact HB.out | apply below_alloc | apply pw_below_drewN | apply below_drew1) | exact HB.out)⟩⟩
  ·rw [if_neg c4] at H
   have c4b0 : decide (4096 < (l0.length : Int)) = false := decide_eq_false c4
   have c4b1 : decide (4096 < l0.length) = false := decide_eq_false (by omega)
   clear c4
   (first | rw [c4b0] | (simp only [i64_w, i32_w]; rw [c4b0]) | skip)
   have H' := Aside0.mk H
   clear H
   go_wp2
   go_meet
   case rel => exact ⟨_, (decide ((l1.length : Int) > 4096)), (by first | rfl | (simp; done) | (simp [*]; done)), H', ⟨by first | omega | exact Nat.le_refl _⟩, ⟨by repeat (first | (with_reducible first | exact HB.out | apply below_alloc | apply pw_below_drewN | apply below_drew1) | exact HB.out)⟩⟩
 case rest =>
  clear HC3
  try clear c1
  try clear c2
  try clear p2
  try clear c4
  try clear c4b0
  try clear c4b1
  obtain ⟨kq, x6_2, rfl, HA, HJ2, HB⟩ := hcut
  cases kq with
  | zero => exact absurd HA.out (by simp [impl_ApplyDiff.j0])
  | succ kj2 =>
   have H := HA.out
   clear HA
   simp only [impl_ApplyDiff.j0] at H
   by_cases c5 : x6_2 = true
   ·subst c5
    have H1 : (some (([] : List (S76)), 2)) = some (r1, r2) := by rw [if_pos rfl] at H; exact H
    clear H
    have H := H1
    clear H1
    simp only [Option.some.injEq, Prod.mk.injEq] at H
    obtain ⟨rfl, rfl⟩ := H
    go_wp2
    go_ret2
    exact ⟨_, by first | rfl | (simp [errW_none, errW_some] <;> rfl) | (simp [*, errW_none, errW_some] <;> rfl), by first | exact Kd.R_nil _ _ _ _ _ | exact Kd.N_nil _ _ _ _ _ | exact Kd.V_nil _ _ _ _ _ | exact Kd.Q_nil _ _ _ _ _ | exact Kd.S_nil _ _ _ _ _, by repeat (first | (with_reducible first | exact HB.out | apply below_alloc | apply pw_below_drewN | apply below_drew1) | exact HB.out)⟩
   ·replace c5 := Bool.eq_false_iff.mpr c5
    subst c5
    have H1 : ((impl_PairsOK.f kj2 l0).bind fun t510 => (if t510 = true then (if (l1.length : Int) > 120 then (some (([] : List (S76)), 6)) else ((impl_applyDiffs.f kj2 l0 l1).bind fun bt511 => (some (bt511.1, bt511.2)))) else (some (([] : List (S76)), 1)))) = some (r1, r2) := by rw [if_neg (show ¬ (false = true) by decide)] at H; exact H
    clear H
    have H := H1
    clear H1
    replace H := Option.bind_eq_some_iff.mp H
    obtain ⟨t510, A60, H⟩ := H
    replace H : (if t510 = true then (if (l1.length : Int) > 120 then (some (([] : List (S76)), 6)) else ((impl_applyDiffs.f kj2 l0 l1).bind fun bt511 => (some (bt511.1, bt511.2)))) else (some (([] : List (S76)), 1))) = some (r1, r2) := H
    have A6 := Aside0.mk A60
    clear A60
    by_cases c7 : t510 = true
    ·subst c7
     have H1 : (if (l1.length : Int) > 120 then (some (([] : List (S76)), 6)) else ((impl_applyDiffs.f kj2 l0 l1).bind fun bt511 => (some (bt511.1, bt511.2)))) = some (r1, r2) := by rw [if_pos rfl] at H; exact H
     clear H
     have H := H1
     clear H1
     by_cases c8 : (l1.length : Int) > 120
     ·rw [if_pos c8] at H
      have c8b0 : decide (120 < (l1.length : Int)) = true := decide_eq_true c8
      have c8b1 : decide (120 < l1.length) = true := decide_eq_true (by omega)
      clear c8
      simp only [Option.some.injEq, Prod.mk.injEq] at H
      obtain ⟨rfl, rfl⟩ := H
      go_wp2_with (first | ((with_reducible refine gate_callee (f := 53) rfl ?_); refine goesL_ (some 17) rfl rfl Try.func53 (by kernel_rfl) rfl #[.slice A0 l0.length c0] rfl (by (try simp only [List.map_toArray, List.map_cons, List.map_nil]); first | done | rfl | (simp only [List.length_drop, List.length_take]; rfl)) ?_; (with_reducible refine (impl_PairsOK.calls kj2 _ _ l0 true _ ?side1 ?side2 A6.out).mono ?_); (case side1 => repeat (first | exact (Kd.C_below HR0.out HB.out) | (with_reducible refine Kd.C_alloc ?_ _) | (with_reducible refine Kd.C_drewN ?_ _) | (with_reducible refine Kd.C_drew ?_))); (case side2 => exact HC0.out); rintro e w9 ⟨rfl, hb⟩; refine ⟨_, rfl, ?_⟩; have n0_ := Aside0.mk (below_step (by repeat (first | (with_reducible first | exact HB.out | apply below_alloc | apply pw_below_drewN | apply below_drew1) | exact HB.out)) hb); clear HB; have HB := n0_; clear n0_; (try clear hb); (try clear hb2); (try clear hk); (try clear hi)))
      go_ret2
      exact ⟨_, by first | rfl | (simp [errW_none, errW_some] <;> rfl) | (simp [*, errW_none, errW_some] <;> rfl), by first | exact Kd.R_nil _ _ _ _ _ | exact Kd.N_nil _ _ _ _ _ | exact Kd.V_nil _ _ _ _ _ | exact Kd.Q_nil _ _ _ _ _ | exact Kd.S_nil _ _ _ _ _, by repeat (first | (with_reducible first | exact HB.out | apply below_alloc | apply pw_below_drewN | apply below_drew1) | exact HB.out)⟩
     ·rw [if_neg c8] at H
      have c8b0 : decide (120 < (l1.length : Int)) = false := decide_eq_false c8
      have c8b1 : decide (120 < l1.length) = false := decide_eq_false (by omega)
      clear c8
      replace H := Option.bind_eq_some_iff.mp H
      obtain ⟨⟨t511, t512⟩, A100, H⟩ := H
      replace H : (some (t511, t512)) = some (r1, r2) := H
      have A10 := Aside0.mk A100
      clear A100
      simp only [Option.some.injEq, Prod.mk.injEq] at H
      obtain ⟨rfl, rfl⟩ := H
      go_wp2_with (first | ((with_reducible refine gate_callee (f := 53) rfl ?_); refine goesL_ (some 17) rfl rfl Try.func53 (by kernel_rfl) rfl #[.slice A0 l0.length c0] rfl (by (try simp only [List.map_toArray, List.map_cons, List.map_nil]); first | done | rfl | (simp only [List.length_drop, List.length_take]; rfl)) ?_; (with_reducible refine (impl_PairsOK.calls kj2 _ _ l0 true _ ?side1 ?side2 A6.out).mono ?_); (case side1 => repeat (first | exact (Kd.C_below HR0.out HB.out) | (with_reducible refine Kd.C_alloc ?_ _) | (with_reducible refine Kd.C_drewN ?_ _) | (with_reducible refine Kd.C_drew ?_))); (case side2 => exact HC0.out); rintro e w11 ⟨rfl, hb⟩; refine ⟨_, rfl, ?_⟩; have n0_ := Aside0.mk (below_step (by repeat (first | (with_reducible first | exact HB.out | apply below_alloc | apply pw_below_drewN | apply below_drew1) | exact HB.out)) hb); clear HB; have HB := n0_; clear n0_; (try clear hb); (try clear hb2); (try clear hk); (try clear hi)) | ((with_reducible refine gate_callee (f := 63) rfl ?_); refine goesL_ (some 25) rfl rfl Try.func63 (by kernel_rfl) rfl #[.slice A0 l0.length c0, .slice A1 l1.length c1] rfl (by (try simp only [List.map_toArray, List.map_cons, List.map_nil]); first | done | rfl | (simp only [List.length_drop, List.length_take]; rfl)) ?_; (with_reducible refine (impl_applyDiffs.calls kj2 _ _ l0 _ _ l1 t511 t512 _ ?side1 ?side2 ?side3 ?side4 A10.out).mono ?_); (case side1 => repeat (first | exact (Kd.C_below HR0.out HB.out) | (with_reducible refine Kd.C_alloc ?_ _) | (with_reducible refine Kd.C_drewN ?_ _) | (with_reducible refine Kd.C_drew ?_))); (case side2 => exact HC0.out); (case side3 => repeat (first | exact (Kd.C_below HR1.out HB.out) | (with_reducible refine Kd.C_alloc ?_ _) | (with_reducible refine Kd.C_drewN ?_ _) | (with_reducible refine Kd.C_drew ?_))); (case side4 => exact HC1.out); rintro e w12 ⟨v513, rfl, ho0, hb⟩; refine ⟨_, rfl, ?_⟩; have n0_ := Aside0.mk (Kd.R_lower ho0 (below_size (by repeat (first | (with_reducible first | exact HB.out | apply below_alloc | apply pw_below_drewN | apply below_drew1) | exact HB.out)))); have n1_ := Aside0.mk (below_step (by repeat (first | (with_reducible first | exact HB.out | apply below_alloc | apply pw_below_drewN | apply below_drew1) | exact HB.out)) hb); clear HB; have HO514 := n0_; have HB := n1_; clear n0_ n1_; (try clear hb); (try clear hb2); (try clear hk); (try clear hi); (try clear ho0)))
      go_ret2
      exact ⟨_, by first | rfl | (simp [errW_none, errW_some] <;> rfl) | (simp [*, errW_none, errW_some] <;> rfl), by (with_reducible repeat (first | apply Kd.R_alloc | apply Kd.R_drewN | apply Kd.R_drew)); exact HO514.out, by repeat (first | (with_reducible first | exact HB.out | apply below_alloc | apply pw_below_drewN | apply below_drew1) | exact HB.out)⟩
    ·replace c7 := Bool.eq_false_iff.mpr c7
     subst c7
     have H1 : (some (([] : List (S76)), 1)) = some (r1, r2) := by rw [if_neg (show ¬ (false = true) by decide)] at H; exact H
     clear H
     have H := H1
     clear H1
     simp only [Option.some.injEq, Prod.mk.injEq] at H
     obtain ⟨rfl, rfl⟩ := H
     go_wp2_with (first | ((with_reducible refine gate_callee (f := 53) rfl ?_); refine goesL_ (some 17) rfl rfl Try.func53 (by kernel_rfl) rfl #[.slice A0 l0.length c0] rfl (by (try simp only [List.map_toArray, List.map_cons, List.map_nil]); first | done | rfl | (simp only [List.length_drop, List.length_take]; rfl)) ?_; (with_reducible refine (impl_PairsOK.calls kj2 _ _ l0 false _ ?side1 ?side2 A6.out).mono ?_); (case side1 => repeat (first | exact (Kd.C_below HR0.out HB.out) | (with_reducible refine Kd.C_alloc ?_ _) | (with_reducible refine Kd.C_drewN ?_ _) | (with_reducible refine Kd.C_drew ?_))); (case side2 => exact HC0.out); rintro e w13 ⟨rfl, hb⟩; refine ⟨_, rfl, ?_⟩; have n0_ := Aside0.mk (below_step (by repeat (first | (with_reducible first | exact HB.out | apply below_alloc | apply pw_below_drewN | apply below_drew1) | exact HB.out)) hb); clear HB; have HB := n0_; clear n0_; (try clear hb); (try clear hb2); (try clear hk); (try clear hi)))
     go_ret2
     exact ⟨_, by first | rfl | (simp [errW_none, errW_some] <;> rfl) | (simp [*, errW_none, errW_some] <;> rfl), by first | exact Kd.R_nil _ _ _ _ _ | exact Kd.N_nil _ _ _ _ _ | exact Kd.V_nil _ _ _ _ _ | exact Kd.Q_nil _ _ _ _ _ | exact Kd.S_nil _ _ _ _ _, by repeat (first | (with_reducible first | exact HB.out | apply below_alloc | apply pw_below_drewN | apply below_drew1) | exact HB.out)⟩
end Go.Proofs.Ytgcncphdjabjjaa.X
namespace Go.Proofs.Ytgcncphdjabjjaa.X
open Go.RowKit Go.Proofs.YtgcncphdjabjjaaW.PrintWords Go.Proofs.YtgcncphdjabjjaaW.PrintLast Go.Proofs.YtgcncphdjabjjaaW.PrintMore
attribute [local go_sem] xbin_geq xbin_leq xbin_gtr max2_int min2_int max_two min_two max_three min_three max_four min_four
set_option linter.unusedVariables false
set_option linter.unusedSimpArgs false
def laws_heldPairS.l0 : Nat → List (S76) → Int → Int → Option (Int)
 | 0, _, _, _ => none
 | k + 1, x0, x1, x5 => if x5 < (x0.length : Int) then (if 0 ≤ x5 then ((laws_markText.f k x1).bind fun t516 => (if ((rd_T76 x0 x5).f0).toList = t516.toList then ((laws_markText.f k (wrap64 (x1 + 1))).bind fun t518 => (if ((rd_T76 x0 x5).f1).toList = t518.toList then (laws_heldPairS.l0 k x0 (wrap64 ((wrap64 (x1 + 1)) + 1)) (wrap64 (x5 + 1))) else (some (-1)))) else (some (-1)))) else (none)) else (some x1)
def laws_heldPairS.f (k : Nat) (l0 : List (S76)) (a1 : Int) : Option (Int) := laws_heldPairS.l0 k l0 a1 0
theorem laws_heldPairS.mono_l : ∀ k, (∀ y0 y1 y2, LeO (laws_heldPairS.l0 k y0 y1 y2) (laws_heldPairS.l0 (k + 1) y0 y1 y2))
 | 0 => fun _ _ _ r h => by simp [laws_heldPairS.l0] at h
 | k + 1 => by
  have ih0 := laws_heldPairS.mono_l k
  ·intro y0 y1 y2
   unfold laws_heldPairS.l0
   repeat' first
   | (with_reducible exact ih0 _ _ _)
   | (with_reducible exact laws_markText.mono _ _)
   | (with_reducible exact LeO.refl _)
   | (with_reducible exact LeO.none _)
   | (with_reducible refine LeO.ite ?_ ?_)
   | (with_reducible refine LeO.bind ?_ (fun _ => ?_))
   | exact ih0 _ _ _
   | exact laws_markText.mono _ _
   | exact LeO.none _
   | refine LeO.ite ?_ ?_
   | refine LeO.bind ?_ (fun _ => ?_)
theorem laws_heldPairS.mono : ∀ a0 a1 k, LeO (laws_heldPairS.f k a0 a1) (laws_heldPairS.f (k + 1) a0 a1) := by
 intro a0 a1 k
 have ih0 := laws_heldPairS.mono_l k
 unfold laws_heldPairS.f
 repeat' first
   | (with_reducible exact ih0 _ _ _)
   | (with_reducible exact laws_markText.mono _ _)
   | (with_reducible exact LeO.refl _)
   | (with_reducible exact LeO.none _)
   | (with_reducible refine LeO.ite ?_ ?_)
   | (with_reducible refine LeO.bind ?_ (fun _ => ?_))
   | exact ih0 _ _ _
   | exact laws_markText.mono _ _
   | exact LeO.none _
   | refine LeO.ite ?_ ?_
   | refine LeO.bind ?_ (fun _ => ?_)
set_option maxHeartbeats 8000000 in
set_option maxRecDepth 100000 in
theorem laws_heldPairS.calls (k : Nat) (A0 : Option Addr) (c0 : Nat) (l0 : List (S76)) (a1 : Int) (r : Int) (w : World) (hr0 : Kd.C k76 w A0 l0.length l0) (hc0 : l0.length ≤ c0) (h : laws_heldPairS.f k l0 a1 = some r) :
  Calls Try.prog 26 #[.slice A0 l0.length c0, .int .i64 a1] w fun e w' => e = .returned (.int .i64 r) ∧ Below w.heap.size w w' := by
 have HR0 := Aside0.mk hr0
 have HC0 := Aside0.mk hc0
 clear hr0 hc0
 have HB := Aside0.mk (Below.refl w.heap.size w)
 have H : (laws_heldPairS.l0 k l0 a1 0) = some r := h
 clear h
 have H' := Aside0.mk H
 clear H
 go_enter Try.func26, Try.ntmps26
 go_wp2
 go_loopg [1, 5] k (fun kq v1 v5 w' => ∃ (x1_1 : Int) (x5_1 : Int), v1 = .int .i64 x1_1 ∧ v5 = .int .i64 x5_1 ∧ Aside0 (laws_heldPairS.l0 kq l0 x1_1 x5_1 = some r) ∧ Aside0 (kq ≤ k) ∧ Aside0 (Below w.heap.size w w'))
 case atStart => exact ⟨(a1), (0), (by first | rfl | (simp; done) | (simp [*]; done)), (by first | rfl | (simp; done) | (simp [*]; done)), H', ⟨Nat.le_refl _⟩, ⟨by repeat (first | (with_reducible first | exact HB.out | apply below_alloc | apply pw_below_drewN | apply below_drew1) | exact HB.out)⟩⟩
 case round =>
  clear H'
  try clear c2
  try clear p2
  obtain ⟨x1_1, x5_1, rfl, rfl, HA, HK1, HB⟩ := hrel
  cases gk with
  | zero => exact absurd HA.out (by simp [laws_heldPairS.l0])
  | succ k1 =>
   have H := HA.out
   clear HA
   simp only [laws_heldPairS.l0] at H
   by_cases c3 : x5_1 < (l0.length : Int)
   ·rw [if_pos c3] at H
    have c3b0 : decide (x5_1 < (l0.length : Int)) = true := decide_eq_true c3
    clear c3
    by_cases c4 : 0 ≤ x5_1
    ·rw [if_pos c4] at H
     have c4b0 : decide (0 ≤ x5_1) = true := decide_eq_true c4
     clear c4
     replace H := Option.bind_eq_some_iff.mp H
     obtain ⟨t516, A50, H⟩ := H
     replace H : (if ((rd_T76 l0 x5_1).f0).toList = t516.toList then ((laws_markText.f k1 (wrap64 (x1_1 + 1))).bind fun t518 => (if ((rd_T76 l0 x5_1).f1).toList = t518.toList then (laws_heldPairS.l0 k1 l0 (wrap64 ((wrap64 (x1_1 + 1)) + 1)) (wrap64 (x5_1 + 1))) else (some (-1)))) else (some (-1))) = some r := H
     have A5 := Aside0.mk A50
     clear A50
     by_cases c6 : ((rd_T76 l0 x5_1).f0).toList = t516.toList
     ·rw [if_pos c6] at H
      have c6b0 : (((rd_T76 l0 x5_1).f0).toList == t516.toList) = true := beq_iff_eq.mpr c6
      have c6b1 : (((rd_T76 l0 x5_1).f0).toList != t516.toList) = false := bne_eq_false_iff_eq.mpr c6
      clear c6
      replace H := Option.bind_eq_some_iff.mp H
      obtain ⟨t518, A70, H⟩ := H
      replace H : (if ((rd_T76 l0 x5_1).f1).toList = t518.toList then (laws_heldPairS.l0 k1 l0 (wrap64 ((wrap64 (x1_1 + 1)) + 1)) (wrap64 (x5_1 + 1))) else (some (-1))) = some r := H
      have A7 := Aside0.mk A70
      clear A70
      by_cases c8 : ((rd_T76 l0 x5_1).f1).toList = t518.toList
      ·rw [if_pos c8] at H
       have c8b0 : (((rd_T76 l0 x5_1).f1).toList == t518.toList) = true := beq_iff_eq.mpr c8
       have c8b1 : (((rd_T76 l0 x5_1).f1).toList != t518.toList) = false := bne_eq_false_iff_eq.mpr c8
       clear c8
       have H' := Aside0.mk H
       clear H
       try go_wp2
       have n0_ := Aside0.mk (below_drew1 HB.out)
       clear HB
       have HB := n0_
       clear n0_
       have p515 : 0 ≤ (x5_1 : Int) := of_decide_eq_true (by first | (with_reducible assumption) | assumption)
       have q515 : x5_1 < (l0.length : Int) := of_decide_eq_true (by first | (with_reducible assumption) | assumption)
       obtain ⟨ad515, e515, hx515_0, hx515_1⟩ := at_T76 HR0.out x5_1 p515 q515
       have hw515_1 := hx515_1
       have hw515_0 := hx515_0
       cases e515
       replace hx515_0 := (HB.out.cell (World.block_lt_of_cell? w _ hx515_0)).trans hx515_0
       replace hx515_1 := (HB.out.cell (World.block_lt_of_cell? w _ hx515_1)).trans hx515_1
       replace p515 := eq_true p515
       replace q515 := eq_true q515
       refine wp_region_later (by kernel_rfl) (by kernel_rfl) ?_
       have hL0_ := Aside0.mk (show wr.drew.cell? (ad515.add ((x5_1).toNat * 2)) = some (.string ((rd_T76 l0 x5_1).f0)) from ((HB.out.cell (World.block_lt_of_cell? w _ hw515_0)).trans hw515_0))
       have hL1_ := Aside0.mk (show wr.drew.cell? ⟨(ad515.add ((x5_1).toNat * 2)).block, (ad515.add ((x5_1).toNat * 2)).off + 1, none⟩ = some (.string ((rd_T76 l0 x5_1).f1)) from ((HB.out.cell (World.block_lt_of_cell? w _ hw515_1)).trans hw515_1))
       generalize wr.drew = w9 at HB hx515_0 hx515_1 hL0_ hL1_ ⊢
       clear hx515_0 hx515_1
       have hL0 := fun (p_ : Later w9) => Later.cell p_ hL0_.out
       have hL1 := fun (p_ : Later w9) => Later.cell p_ hL1_.out
       clear hL0_ hL1_
       repeat (first | go_big_quiet_step ((first | (go_at_call 59; exact Calls.later_of (laws_markText.calls k1 x1_1 t516 _ A5.out)))) | quiet_step ((first | (go_at_call 59; exact Calls.later_of (laws_markText.calls k1 x1_1 t516 _ A5.out)))))
       refine wpQuiet_nil ?_
       rintro w10 ⟨⟨wq_, hbL⟩, hq_⟩
       have hq2_ : w10 = wq_ := hq_
       clear hq_
       subst hq2_
       clear hL0 hL1
       have nHB_ := Aside0.mk (below_step HB.out hbL)
       clear HB
       have HB := nHB_
       clear nHB_
       clear hbL
       try go_wp2
       have n0_ := Aside0.mk (below_drew1 HB.out)
       clear HB
       have HB := n0_
       clear n0_
       have p517 : 0 ≤ (x5_1 : Int) := of_decide_eq_true (by first | (with_reducible assumption) | assumption)
       have q517 : x5_1 < (l0.length : Int) := of_decide_eq_true (by first | (with_reducible assumption) | assumption)
       obtain ⟨ad517, e517, hx517_0, hx517_1⟩ := at_T76 HR0.out x5_1 p517 q517
       have hw517_1 := hx517_1
       have hw517_0 := hx517_0
       obtain rfl : ad515 = ad517 := (by injection e517)
       replace hx517_0 := (HB.out.cell (World.block_lt_of_cell? w _ hx517_0)).trans hx517_0
       replace hx517_1 := (HB.out.cell (World.block_lt_of_cell? w _ hx517_1)).trans hx517_1
       replace p517 := eq_true p517
       replace q517 := eq_true q517
       refine wp_region_later (by kernel_rfl) (by kernel_rfl) ?_
       have hL0_ := Aside0.mk (show w10.drew.cell? (ad515.add ((x5_1).toNat * 2)) = some (.string ((rd_T76 l0 x5_1).f0)) from ((HB.out.cell (World.block_lt_of_cell? w _ hw517_0)).trans hw517_0))
       have hL1_ := Aside0.mk (show w10.drew.cell? ⟨(ad515.add ((x5_1).toNat * 2)).block, (ad515.add ((x5_1).toNat * 2)).off + 1, none⟩ = some (.string ((rd_T76 l0 x5_1).f1)) from ((HB.out.cell (World.block_lt_of_cell? w _ hw517_1)).trans hw517_1))
       generalize w10.drew = w11 at HB hx517_0 hx517_1 hL0_ hL1_ ⊢
       clear hx517_0 hx517_1
       have hL0 := fun (p_ : Later w11) => Later.cell p_ hL0_.out
       have hL1 := fun (p_ : Later w11) => Later.cell p_ hL1_.out
       clear hL0_ hL1_
       repeat (first | go_big_quiet_step ((first | (go_at_call 59; exact Calls.later_of (laws_markText.calls k1 (wrap64 (x1_1 + 1)) t518 _ A7.out)))) | quiet_step ((first | (go_at_call 59; exact Calls.later_of (laws_markText.calls k1 (wrap64 (x1_1 + 1)) t518 _ A7.out)))))
       refine wpQuiet_nil ?_
       rintro w12 ⟨⟨wq_, hbL⟩, hq_⟩
       have hq2_ : w12 = wq_ := hq_
       clear hq_
       subst hq2_
       clear hL0 hL1
       have nHB_ := Aside0.mk (below_step HB.out hbL)
       clear HB
       have HB := nHB_
       clear nHB_
       clear hbL
       try go_wp2
       go_roundg k1
       case measure => have := HK1.out; omega
       case rel => exact ⟨(wrap64 ((wrap64 (x1_1 + 1)) + 1)), (wrap64 (x5_1 + 1)), (by first | rfl | (simp; done) | (simp [*]; done)), (by first | rfl | (simp; done) | (simp [*]; done)), H', ⟨by have := HK1.out; omega⟩, ⟨by repeat (first | (with_reducible first | exact HB.out | apply below_alloc | apply pw_below_drewN | apply below_drew1) | exact HB.out)⟩⟩
      ·rw [if_neg c8] at H
       have c8b0 : (((rd_T76 l0 x5_1).f1).toList == t518.toList) = false := beq_eq_false_iff_ne.mpr c8
       have c8b1 : (((rd_T76 l0 x5_1).f1).toList != t518.toList) = true := bne_iff_ne.mpr c8
       obtain rfl := Option.some.inj H
       try go_wp2
       have n0_ := Aside0.mk (below_drew1 HB.out)
       clear HB
       have HB := n0_
       clear n0_
       have p515 : 0 ≤ (x5_1 : Int) := of_decide_eq_true (by first | (with_reducible assumption) | assumption)
       have q515 : x5_1 < (l0.length : Int) := of_decide_eq_true (by first | (with_reducible assumption) | assumption)
       obtain ⟨ad515, e515, hx515_0, hx515_1⟩ := at_T76 HR0.out x5_1 p515 q515
       have hw515_1 := hx515_1
       have hw515_0 := hx515_0
       cases e515
       replace hx515_0 := (HB.out.cell (World.block_lt_of_cell? w _ hx515_0)).trans hx515_0
       replace hx515_1 := (HB.out.cell (World.block_lt_of_cell? w _ hx515_1)).trans hx515_1
       replace p515 := eq_true p515
       replace q515 := eq_true q515
       refine wp_region_later (by kernel_rfl) (by kernel_rfl) ?_
       have hL0_ := Aside0.mk (show wr.drew.cell? (ad515.add ((x5_1).toNat * 2)) = some (.string ((rd_T76 l0 x5_1).f0)) from ((HB.out.cell (World.block_lt_of_cell? w _ hw515_0)).trans hw515_0))
       have hL1_ := Aside0.mk (show wr.drew.cell? ⟨(ad515.add ((x5_1).toNat * 2)).block, (ad515.add ((x5_1).toNat * 2)).off + 1, none⟩ = some (.string ((rd_T76 l0 x5_1).f1)) from ((HB.out.cell (World.block_lt_of_cell? w _ hw515_1)).trans hw515_1))
       generalize wr.drew = w13 at HB hx515_0 hx515_1 hL0_ hL1_ ⊢
       clear hx515_0 hx515_1
       have hL0 := fun (p_ : Later w13) => Later.cell p_ hL0_.out
       have hL1 := fun (p_ : Later w13) => Later.cell p_ hL1_.out
       clear hL0_ hL1_
       repeat (first | go_big_quiet_step ((first | (go_at_call 59; exact Calls.later_of (laws_markText.calls k1 x1_1 t516 _ A5.out)))) | quiet_step ((first | (go_at_call 59; exact Calls.later_of (laws_markText.calls k1 x1_1 t516 _ A5.out)))))
       refine wpQuiet_nil ?_
       rintro w14 ⟨⟨wq_, hbL⟩, hq_⟩
       have hq2_ : w14 = wq_ := hq_
       clear hq_
       subst hq2_
       clear hL0 hL1
       have nHB_ := Aside0.mk (below_step HB.out hbL)
       clear HB
       have HB := nHB_
       clear nHB_
       clear hbL
       try go_wp2
       have n0_ := Aside0.mk (below_drew1 HB.out)
       clear HB
       have HB := n0_
       clear n0_
       have p517 : 0 ≤ (x5_1 : Int) := of_decide_eq_true (by first | (with_reducible assumption) | assumption)
       have q517 : x5_1 < (l0.length : Int) := of_decide_eq_true (by first | (with_reducible assumption) | assumption)
       obtain ⟨ad517, e517, hx517_0, hx517_1⟩ := at_T76 HR0.out x5_1 p517 q517
       have hw517_1 := hx517_1
       have hw517_0 := hx517_0
       obtain rfl : ad515 = ad517 := (by injection e517)
       replace hx517_0 := (HB.out.cell (World.block_lt_of_cell? w _ hx517_0)).trans hx517_0
       replace hx517_1 := (HB.out.cell (World.block_lt_of_cell? w _ hx517_1)).trans hx517_1
       replace p517 := eq_true p517
       replace q517 := eq_true q517
       refine wp_region_later (by kernel_rfl) (by kernel_rfl) ?_
       have hL0_ := Aside0.mk (show w14.drew.cell? (ad515.add ((x5_1).toNat * 2)) = some (.string ((rd_T76 l0 x5_1).f0)) from ((HB.out.cell (World.block_lt_of_cell? w _ hw517_0)).trans hw517_0))
       have hL1_ := Aside0.mk (show w14.drew.cell? ⟨(ad515.add ((x5_1).toNat * 2)).block, (ad515.add ((x5_1).toNat * 2)).off + 1, none⟩ = some (.string ((rd_T76 l0 x5_1).f1)) from ((HB.out.cell (World.block_lt_of_cell? w _ hw517_1)).trans hw517_1))
       generalize w14.drew = w15 at HB hx517_0 hx517_1 hL0_ hL1_ ⊢
       clear hx517_0 hx517_1
       have hL0 := fun (p_ : Later w15) => Later.cell p_ hL0_.out
       have hL1 := fun (p_ : Later w15) => Later.cell p_ hL1_.out
       clear hL0_ hL1_
       repeat (first | go_big_quiet_step ((first | (go_at_call 59; exact Calls.later_of (laws_markText.calls k1 (wrap64 (x1_1 + 1)) t518 _ A7.out)))) | quiet_step ((first | (go_at_call 59; exact Calls.later_of (laws_markText.calls k1 (wrap64 (x1_1 + 1)) t518 _ A7.out)))))
       refine wpQuiet_nil ?_
       rintro w16 ⟨⟨wq_, hbL⟩, hq_⟩
       have hq2_ : w16 = wq_ := hq_
       clear hq_
       subst hq2_
       clear hL0 hL1
       have nHB_ := Aside0.mk (below_step HB.out hbL)
       clear HB
       have HB := nHB_
       clear nHB_
       clear hbL
       try go_wp2
       go_ret
       exact ⟨by first | rfl | (simp [errW_none, errW_some] <;> rfl) | (simp [*, errW_none, errW_some] <;> rfl), by repeat (first | (with_reducible first | exact HB.out | apply below_alloc | apply pw_below_drewN | apply below_drew1) | exact HB.out)⟩
     ·rw [if_neg c6] at H
      have c6b0 : (((rd_T76 l0 x5_1).f0).toList == t516.toList) = false := beq_eq_false_iff_ne.mpr c6
      have c6b1 : (((rd_T76 l0 x5_1).f0).toList != t516.toList) = true := bne_iff_ne.mpr c6
      obtain rfl := Option.some.inj H
      try go_wp2
      have n0_ := Aside0.mk (below_drew1 HB.out)
      clear HB
      have HB := n0_
      clear n0_
      have p515 : 0 ≤ (x5_1 : Int) := of_decide_eq_true (by first | (with_reducible assumption) | assumption)
      have q515 : x5_1 < (l0.length : Int) := of_decide_eq_true (by first | (with_reducible assumption) | assumption)
      obtain ⟨ad515, e515, hx515_0, hx515_1⟩ := at_T76 HR0.out x5_1 p515 q515
      have hw515_1 := hx515_1
      have hw515_0 := hx515_0
      cases e515
      replace hx515_0 := (HB.out.cell (World.block_lt_of_cell? w _ hx515_0)).trans hx515_0
      replace hx515_1 := (HB.out.cell (World.block_lt_of_cell? w _ hx515_1)).trans hx515_1
      replace p515 := eq_true p515
      replace q515 := eq_true q515
      refine wp_region_later (by kernel_rfl) (by kernel_rfl) ?_
      have hL0_ := Aside0.mk (show wr.drew.cell? (ad515.add ((x5_1).toNat * 2)) = some (.string ((rd_T76 l0 x5_1).f0)) from ((HB.out.cell (World.block_lt_of_cell? w _ hw515_0)).trans hw515_0))
      have hL1_ := Aside0.mk (show wr.drew.cell? ⟨(ad515.add ((x5_1).toNat * 2)).block, (ad515.add ((x5_1).toNat * 2)).off + 1, none⟩ = some (.string ((rd_T76 l0 x5_1).f1)) from ((HB.out.cell (World.block_lt_of_cell? w _ hw515_1)).trans hw515_1))
      generalize wr.drew = w17 at HB hx515_0 hx515_1 hL0_ hL1_ ⊢
      clear hx515_0 hx515_1
      have hL0 := fun (p_ : Later w17) => Later.cell p_ hL0_.out
      have hL1 := fun (p_ : Later w17) => Later.cell p_ hL1_.out
      clear hL0_ hL1_
      repeat (first | go_big_quiet_step ((first | (go_at_call 59; exact Calls.later_of (laws_markText.calls k1 x1_1 t516 _ A5.out)))) | quiet_step ((first | (go_at_call 59; exact Calls.later_of (laws_markText.calls k1 x1_1 t516 _ A5.out)))))
      refine wpQuiet_nil ?_
      rintro w18 ⟨⟨wq_, hbL⟩, hq_⟩
      have hq2_ : w18 = wq_ := hq_
      clear hq_
      subst hq2_
      clear hL0 hL1
      have nHB_ := Aside0.mk (below_step HB.out hbL)
      clear HB
      have HB := nHB_
      clear nHB_
      clear hbL
      try go_wp2
      go_ret
      exact ⟨by first | rfl | (simp [errW_none, errW_some] <;> rfl) | (simp [*, errW_none, errW_some] <;> rfl), by repeat (first | (with_reducible first | exact HB.out | apply below_alloc | apply pw_below_drewN | apply below_drew1) | exact HB.out)⟩
    ·rw [if_neg c4] at H
     exact absurd H (by simp)
   ·rw [if_neg c3] at H
    have c3b0 : decide (x5_1 < (l0.length : Int)) = false := decide_eq_false c3
    clear c3
    obtain rfl := Option.some.inj H
    go_wp2
    go_ret
    exact ⟨by first | rfl | (simp [errW_none, errW_some] <;> rfl) | (simp [*, errW_none, errW_some] <;> rfl), by repeat (first | (with_reducible first | exact HB.out | apply below_alloc | apply pw_below_drewN | apply below_drew1) | exact HB.out)⟩
end Go.Proofs.Ytgcncphdjabjjaa.X
