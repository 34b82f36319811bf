import Derived.Test.YtgcncphdjabjjaaKFnExactDiffPairs3
namespace Go.Proofs.Ytgcncphdjabjjaa.X
open Go.RowKit Go.Proofs.YtgcncphdjabjjaaW.PrintWords Go.Proofs.YtgcncphdjabjjaaW.PrintLast Go.Proofs.YtgcncphdjabjjaaW.PrintMore
attribute [local go_sem] xbin_geq xbin_leq xbin_gtr max2_int min2_int max_two min_two max_three min_three max_four min_four
set_option linter.unusedVariables false
set_option linter.unusedSimpArgs false
mutual
def impl_diffs.l0 : Nat → List (S76) → List (S76) → List (S82) → Option ((List (S82)))
  | 0, _, _, _ => none
  | k + 1, x0, x1, x5 => if (x0.length : Int) > 0 then (impl_diffs.j1 k x0 x1 x5 true) else (impl_diffs.j1 k x0 x1 x5 (decide ((x1.length : Int) > 0)))
def impl_diffs.j1 : Nat → List (S76) → List (S76) → List (S82) → Bool → Option ((List (S82)))
  | 0, _, _, _, _ => none
  | k + 1, x0, x1, x5, x14 => if x14 = true then (if (x1.length : Int) = 0 then (impl_diffs.j2 k x0 x1 x5 true) else (if (x0.length : Int) > 0 then (if 0 < (x0.length : Int) then (if 0 < (x1.length : Int) then (impl_diffs.j2 k x0 x1 x5 (Op.bytesLess (((rd_T76 x0 0).f0).toList) (((rd_T76 x1 0).f0).toList))) else (none)) else (none)) else (impl_diffs.j2 k x0 x1 x5 false))) else (some x5)
def impl_diffs.j2 : Nat → List (S76) → List (S76) → List (S82) → Bool → Option ((List (S82)))
  | 0, _, _, _, _ => none
  | k + 1, x0, x1, x5, x44 => if x44 = true then (if 0 < (x0.length : Int) then (if x5.length < 2513169434916 then (if 1 ≤ (x0.length : Int) then (impl_diffs.l0 k (x0.drop 1) x1 (x5 ++ [(⟨(rd_T76 x0 0).f0, (rd_T76 x0 0).f1, (⟨#[]⟩ : ByteArray), true, false⟩ : S82)])) else (none)) else (none)) else (none)) else (if (x0.length : Int) = 0 then (impl_diffs.j3 k x0 x1 x5 true) else (if 0 < (x1.length : Int) then (if 0 < (x0.length : Int) then (impl_diffs.j3 k x0 x1 x5 (Op.bytesLess (((rd_T76 x1 0).f0).toList) (((rd_T76 x0 0).f0).toList))) else (none)) else (none)))
def impl_diffs.j3 : Nat → List (S76) → List (S76) → List (S82) → Bool → Option ((List (S82)))
  | 0, _, _, _, _ => none
  | k + 1, x0, x1, x5, x78 => if x78 = true then (if 0 < (x1.length : Int) then (if x5.length < 2513169434916 then (if 1 ≤ (x1.length : Int) then (impl_diffs.l0 k x0 (x1.drop 1) (x5 ++ [(⟨(rd_T76 x1 0).f0, (⟨#[]⟩ : ByteArray), (rd_T76 x1 0).f1, false, true⟩ : S82)])) else (none)) else (none)) else (none)) else (if 0 < (x0.length : Int) then (if 0 < (x1.length : Int) then (if ((rd_T76 x0 0).f1).toList = ((rd_T76 x1 0).f1).toList then (if 1 ≤ (x0.length : Int) then (if 1 ≤ (x1.length : Int) then (impl_diffs.l0 k (x0.drop 1) (x1.drop 1) x5) else (none)) else (none)) else (if x5.length < 2513169434916 then (if 1 ≤ (x0.length : Int) then (if 1 ≤ (x1.length : Int) then (impl_diffs.l0 k (x0.drop 1) (x1.drop 1) (x5 ++ [(⟨(rd_T76 x0 0).f0, (rd_T76 x0 0).f1, (rd_T76 x1 0).f1, true, true⟩ : S82)])) else (none)) else (none)) else (none))) else (none)) else (none))
end
def impl_diffs.f (k : Nat) (l0 : List (S76)) (l1 : List (S76)) : Option ((List (S82))) := impl_diffs.l0 k l0 l1 (([] : List (S82)))
theorem impl_diffs.mono_l : ∀ k, (∀ y0 y1 y2, LeO (impl_diffs.l0 k y0 y1 y2) (impl_diffs.l0 (k + 1) y0 y1 y2)) ∧ (∀ y0 y1 y2 y3, LeO (impl_diffs.j1 k y0 y1 y2 y3) (impl_diffs.j1 (k + 1) y0 y1 y2 y3)) ∧ (∀ y0 y1 y2 y3, LeO (impl_diffs.j2 k y0 y1 y2 y3) (impl_diffs.j2 (k + 1) y0 y1 y2 y3)) ∧ (∀ y0 y1 y2 y3, LeO (impl_diffs.j3 k y0 y1 y2 y3) (impl_diffs.j3 (k + 1) y0 y1 y2 y3))
  | 0 => ⟨fun _ _ _ r h => by simp [impl_diffs.l0] at h, fun _ _ _ _ r h => by simp [impl_diffs.j1] at h, fun _ _ _ _ r h => by simp [impl_diffs.j2] at h, fun _ _ _ _ r h => by simp [impl_diffs.j3] at h⟩
  | k + 1 => by
    obtain ⟨ih0, ih1, ih2, ih3⟩ := impl_diffs.mono_l k
    refine ⟨?_, ?_, ?_, ?_⟩
    · intro y0 y1 y2
      unfold impl_diffs.l0
      repeat' first
      | (with_reducible exact ih0 _ _ _)
      | (with_reducible exact ih1 _ _ _ _)
      | (with_reducible exact ih2 _ _ _ _)
      | (with_reducible exact ih3 _ _ _ _)
      | (with_reducible exact LeO.refl _)
      | (with_reducible exact LeO.none _)
      | (with_reducible refine LeO.ite ?_ ?_)
      | (with_reducible refine LeO.bind ?_ (fun _ => ?_))
      | exact ih0 _ _ _
      | exact ih1 _ _ _ _
      | exact ih2 _ _ _ _
      | exact ih3 _ _ _ _
      | exact LeO.none _
      | refine LeO.ite ?_ ?_
      | refine LeO.bind ?_ (fun _ => ?_)
    · intro y0 y1 y2 y3
      unfold impl_diffs.j1
      repeat' first
      | (with_reducible exact ih0 _ _ _)
      | (with_reducible exact ih1 _ _ _ _)
      | (with_reducible exact ih2 _ _ _ _)
      | (with_reducible exact ih3 _ _ _ _)
      | (with_reducible exact LeO.refl _)
      | (with_reducible exact LeO.none _)
      | (with_reducible refine LeO.ite ?_ ?_)
      | (with_reducible refine LeO.bind ?_ (fun _ => ?_))
      | exact ih0 _ _ _
      | exact ih1 _ _ _ _
      | exact ih2 _ _ _ _
      | exact ih3 _ _ _ _
      | exact LeO.none _
      | refine LeO.ite ?_ ?_
      | refine LeO.bind ?_ (fun _ => ?_)
    · intro y0 y1 y2 y3
      unfold impl_diffs.j2
      repeat' first
      | (with_reducible exact ih0 _ _ _)
      | (with_reducible exact ih1 _ _ _ _)
      | (with_reducible exact ih2 _ _ _ _)
      | (with_reducible exact ih3 _ _ _ _)
      | (with_reducible exact LeO.refl _)
      | (with_reducible exact LeO.none _)
      | (with_reducible refine LeO.ite ?_ ?_)
      | (with_reducible refine LeO.bind ?_ (fun _ => ?_))
      | exact ih0 _ _ _
      | exact ih1 _ _ _ _
      | exact ih2 _ _ _ _
      | exact ih3 _ _ _ _
      | exact LeO.none _
      | refine LeO.ite ?_ ?_
      | refine LeO.bind ?_ (fun _ => ?_)
    · intro y0 y1 y2 y3
      unfold impl_diffs.j3
      repeat' first
      | (with_reducible exact ih0 _ _ _)
      | (with_reducible exact ih1 _ _ _ _)
      | (with_reducible exact ih2 _ _ _ _)
      | (with_reducible exact ih3 _ _ _ _)
      | (with_reducible exact LeO.refl _)
      | (with_reducible exact LeO.none _)
      | (with_reducible refine LeO.ite ?_ ?_)
      | (with_reducible refine LeO.bind ?_ (fun _ => ?_))
      | exact ih0 _ _ _
      | exact ih1 _ _ _ _
      | exact ih2 _ _ _ _
      | exact ih3 _ _ _ _
      | exact LeO.none _
      | refine LeO.ite ?_ ?_
      | refine LeO.bind ?_ (fun _ => ?_)
theorem impl_diffs.mono : ∀ a0 a1 k, LeO (impl_diffs.f k a0 a1) (impl_diffs.f (k + 1) a0 a1) := by
  intro a0 a1 k
  obtain ⟨ih0, ih1, ih2, ih3⟩ := impl_diffs.mono_l k
  unfold impl_diffs.f
  repeat' first
      | (with_reducible exact ih0 _ _ _)
      | (with_reducible exact ih1 _ _ _ _)
      | (with_reducible exact ih2 _ _ _ _)
      | (with_reducible exact ih3 _ _ _ _)
      | (with_reducible exact LeO.refl _)
      | (with_reducible exact LeO.none _)
      | (with_reducible refine LeO.ite ?_ ?_)
      | (with_reducible refine LeO.bind ?_ (fun _ => ?_))
      | exact ih0 _ _ _
      | exact ih1 _ _ _ _
      | exact ih2 _ _ _ _
      | exact ih3 _ _ _ _
      | exact LeO.none _
      | refine LeO.ite ?_ ?_
      | refine LeO.bind ?_ (fun _ => ?_)
def impl_diffs.T4 : Bool × List (List Nat × List Nat) := (true, [([], []), ([], []), ([1], [1]), ([2], [2]), ([3], [3]), ([], []), ([5], [5]), ([6], [6]), ([7], [7]), ([], []), ([9], [9]), ([10], [10]), ([11], [11]), ([4, 8, 12], [4, 8, 12]), ([13], [13]), ([0, 14], [0, 14]), ([15, 15, 0, 1, 2, 3, 4, 5, 6, 7, 8, 9, 10, 11, 12, 13, 14, 15], [0, 15])])
def impl_diffs.B4 : List Nat := [0, 0, 2, 6, 14, 0, 32, 96, 224, 0, 512, 1536, 3584, 8190, 16382, 32767, 65535]
theorem impl_diffs.tab4 : rtab .any (opsOf Try.f57 4) = impl_diffs.T4 := by kernel_rfl
theorem impl_diffs.bits4 : waitsOk impl_diffs.T4.2 impl_diffs.B4 = true := by kernel_rfl
def impl_diffs.T6 : Bool × List (List Nat × List Nat) := (true, [([], []), ([0], [0]), ([1], [1]), ([2], [2]), ([3], [3]), ([4, 3], [3, 4]), ([5, 3], [3, 5]), ([6, 3, 3], [3, 6]), ([7], [7]), ([8, 7], [7, 8]), ([9, 7], [7, 9]), ([10, 7], [7, 10]), ([7], [7]), ([12, 7], [7, 12]), ([13, 7], [7, 13]), ([14, 7], [7, 14]), ([11, 15, 7], [7, 11, 15]), ([7, 16, 3], [3, 7, 16]), ([3, 17], [3, 17]), ([18, 7], [18])])
def impl_diffs.B6 : List Nat := [0, 1, 3, 7, 15, 31, 63, 127, 255, 511, 1023, 2047, 255, 4351, 12543, 28927, 65535, 131071, 262143, 524287]
theorem impl_diffs.tab6 : rtab .any (opsOf Try.f57 6) = impl_diffs.T6 := by kernel_rfl
theorem impl_diffs.bits6 : waitsOk impl_diffs.T6.2 impl_diffs.B6 = true := by kernel_rfl
def impl_diffs.T7 : Bool × List (List Nat × List Nat) := (true, [([], []), ([], []), ([1], [1]), ([2], [2]), ([3], [3]), ([], []), ([5], [5]), ([6], [6]), ([7], [7]), ([4, 8], [4, 8]), ([9], [9]), ([0, 10], [0, 10]), ([11, 11, 0, 1, 2, 3, 4, 5, 6, 7, 8, 9, 10, 11], [0, 11])])
def impl_diffs.B7 : List Nat := [0, 0, 2, 6, 14, 0, 32, 96, 224, 510, 1022, 2047, 4095]
theorem impl_diffs.tab7 : rtab .any (opsOf Try.f57 7) = impl_diffs.T7 := by kernel_rfl
theorem impl_diffs.bits7 : waitsOk impl_diffs.T7.2 impl_diffs.B7 = true := by kernel_rfl
def impl_diffs.T10 : Bool × List (List Nat × List Nat) := (true, [([], []), ([], []), ([1], [1]), ([2], [2]), ([3], [3]), ([], []), ([5], [5]), ([6], [6]), ([7], [7]), ([4, 8], [4, 8]), ([9], [9]), ([0, 10], [0, 10]), ([11, 11, 0, 1, 2, 3, 4, 5, 6, 7, 8, 9, 10, 11], [0, 11])])
def impl_diffs.B10 : List Nat := [0, 0, 2, 6, 14, 0, 32, 96, 224, 510, 1022, 2047, 4095]
theorem impl_diffs.tab10 : rtab .any (opsOf Try.f57 10) = impl_diffs.T10 := by kernel_rfl
theorem impl_diffs.bits10 : waitsOk impl_diffs.T10.2 impl_diffs.B10 = true := by kernel_rfl
set_option maxHeartbeats 8000000 in
set_option maxRecDepth 100000 in
theorem impl_diffs.calls (k : Nat) (P0_ : Nat → Prop) (A0 : Option Addr) (c0 : Nat) (l0 : List (S76)) (P1_ : Nat → Prop) (A1 : Option Addr) (c1 : Nat) (l1 : List (S76)) (r : List (S82)) (w : World) (hs0 : Kd.V k76 76 w w.heap.size (fun k_ => P0_ k_) (.slice A0 l0.length c0) l0) (hs1 : Kd.V k76 76 w w.heap.size (fun k_ => P1_ k_) (.slice A1 l1.length c1) l1) (h : impl_diffs.f k l0 l1 = some r) :
    Calls Try.prog 57 #[.slice A0 l0.length c0, .slice A1 l1.length c1] w fun e w' => ∃ v0_ : Value, e = .returned (v0_) ∧ Kd.R k82 82 w' w.heap.size (fun k_ => (w.heap.size ≤ k_)) v0_ r ∧ Below w.heap.size w w' := by
  have hu82 := Try.underlying82
  have HO0 := Aside0.mk (show Kd.V k76 76 w w.heap.size (fun k_ => ((P0_ k_ ∨ P1_ k_) ∨ w.heap.size ≤ k_)) (.slice A0 l0.length c0) l0 from Kd.V_mono hs0 (fun k_ hk => .inl (.inl hk)))
  have HO1 := Aside0.mk (show Kd.V k76 76 w w.heap.size (fun k_ => ((P0_ k_ ∨ P1_ k_) ∨ w.heap.size ≤ k_)) (.slice A1 l1.length c1) l1 from Kd.V_mono hs1 (fun k_ hk => .inl (.inr hk)))
  have HB := Aside0.mk (Below.refl w.heap.size w)
  have H : (impl_diffs.l0 k l0 l1 (([] : List (S82)))) = some r := h
  clear h
  obtain ⟨y211, hy211⟩ : ∃ y_ : List (S82), y_ = (([] : List (S82))) := ⟨_, rfl⟩
  replace H : (impl_diffs.l0 k l0 l1 y211) = some r := by first | (rw [hy211]; with_reducible exact H) | (have H2_ := (Option.bind_some _ _).symm.trans H; rw [hy211]; with_reducible exact H2_) | (have H2_ := (Option.bind_some _ _).symm.trans H; with_reducible exact H2_) | with_reducible exact H | (rw [hy211]; exact H) | exact H
  have Ny211 := Aside0.mk hy211
  clear hy211
  have H' := Aside0.mk H
  clear H
  go_enter Try.func57, Try.ntmps57
  go_wp2_with (first | ((with_reducible refine gate_dst (N := 6) rfl ?_); (try (refine gate_guard (by rfl) ?_; dsimp only)); refine Kd.R_lit k82 _ 82 ?hg (N := 6) ?hd (xs := ([] : List (S82))) (inner := []) (ok := fun _ => True) (okp := fun _ => True) ?hr ?hp (fun _ hk => hk) trivial (Below.refl _ _) (Nat.le_refl _) (by simp) ?_; (case hd => rfl); (case hg => rfl); (case hr => first | (go_simp; done) | (go_simp; rfl)); (case hp => exact (Reps.none _ _)); intro v212 w3 ho4 hb hg_ hnew_; clear hg_ hnew_; (first | rw [← Ny211.out] at ho4 | (simp only [Int.reduceToNat] at ho4; rw [← Ny211.out] at ho4)); have n0_ := Aside0.mk (Kd.V_elder' (by (with_reducible repeat (first | apply Kd.V_alloc | apply Kd.V_drewN | apply Kd.V_drew)); exact HO0.out) (Kd.R_base ho4) hb); have n1_ := Aside0.mk (Kd.V_elder' (by (with_reducible repeat (first | apply Kd.V_alloc | apply Kd.V_drewN | apply Kd.V_drew)); exact HO1.out) (Kd.R_base ho4) hb); have n2_ := Aside0.mk (Kd.R_lower (Kd.R_newM (M := fun k_ => (w.heap.size ≤ k_)) ho4 (below_size (by repeat (first | (with_reducible first | exact HB.out | apply below_alloc | apply pw_below_drewN | apply below_drew1) | exact HB.out))) (fun k_ h_ => h_)) (below_size (by repeat (first | (with_reducible first | exact HB.out | apply below_alloc | apply pw_below_drewN | apply below_drew1) | exact HB.out)))); have n3_ := Aside0.mk (below_step (by repeat (first | (with_reducible first | exact HB.out | apply below_alloc | apply pw_below_drewN | apply below_drew1) | exact HB.out)) hb); clear HO0; clear HO1; clear HB; have HO0 := n0_; have HO1 := n1_; have HO213 := n2_; have HB := n3_; clear n0_ n1_ n2_ n3_; clear hb ho4))
  go_loopg [0, 1, 5] k (fun kq v0 v1 v5 w' => ∃ (x0_1 : List (S76)) (x1_1 : List (S76)) (x5_1 : List (S82)), Aside0 (impl_diffs.l0 kq x0_1 x1_1 x5_1 = some r) ∧ Aside0 (kq ≤ k) ∧ Aside0 (Kd.V k76 76 w' w.heap.size (fun k_ => ((P0_ k_ ∨ P1_ k_) ∨ w.heap.size ≤ k_) ∧ some k_ ≠ (v5 : Value).ownBlock) v0 x0_1) ∧ Aside0 (Kd.V k76 76 w' w.heap.size (fun k_ => ((P0_ k_ ∨ P1_ k_) ∨ w.heap.size ≤ k_) ∧ some k_ ≠ (v5 : Value).ownBlock) v1 x1_1) ∧ Aside0 (Kd.R k82 82 w' w.heap.size (fun k_ => (w.heap.size ≤ k_)) v5 x5_1) ∧ Aside0 (Below w.heap.size w w'))
  case atStart => exact ⟨(l0), (l1), (y211), H', ⟨Nat.le_refl _⟩, ⟨by (with_reducible repeat (first | apply Kd.V_alloc | apply Kd.V_drewN | apply Kd.V_drew)); exact HO0.out⟩, ⟨by (with_reducible repeat (first | apply Kd.V_alloc | apply Kd.V_drewN | apply Kd.V_drew)); exact HO1.out⟩, ⟨by (with_reducible repeat (first | apply Kd.R_alloc | apply Kd.R_drewN | apply Kd.R_drew)); exact Kd.R_mono HO213.out (fun _ hk => hk.1)⟩, ⟨by repeat (first | (with_reducible first | exact HB.out | apply below_alloc | apply pw_below_drewN | apply below_drew1) | exact HB.out)⟩⟩
  case round =>
    clear H'
    try clear c1
    try clear p2
    obtain ⟨x0_1, x1_1, x5_1, HA, HK1, HO_0, HO_1, HO_5, HB⟩ := hrel
    cases gk with
    | zero => exact absurd HA.out (by simp [impl_diffs.l0])
    | succ k1 =>
      have H := HA.out
      clear HA
      simp only [impl_diffs.l0] at H
      have HC5 := Aside0.mk H
      clear H
      go_upto_region 2 with (fail)
      go_cut [14] (fun v14 wc => ∃ (kq : Nat) (x14_4 : Bool), v14 = .bool x14_4 ∧ Aside0 (impl_diffs.j1 kq x0_1 x1_1 x5_1 x14_4 = some r) ∧ Aside0 (kq ≤ k1) ∧ Aside0 (Kd.V k76 76 wc w.heap.size (fun k_ => ((P0_ k_ ∨ P1_ k_) ∨ w.heap.size ≤ k_) ∧ some k_ ≠ (u5 : Value).ownBlock) u0 x0_1) ∧ Aside0 (Kd.V k76 76 wc w.heap.size (fun k_ => ((P0_ k_ ∨ P1_ k_) ∨ w.heap.size ≤ k_) ∧ some k_ ≠ (u5 : Value).ownBlock) u1 x1_1) ∧ Aside0 (Kd.R k82 82 wc w.heap.size (fun k_ => (w.heap.size ≤ k_)) u5 x5_1) ∧ Aside0 (Below w.heap.size w wc))
      case first =>
        have H := HC5.out
        clear HC5
        by_cases c6 : (x0_1.length : Int) > 0
        · rw [if_pos c6] at H
          have c6b0 : decide (0 < (x0_1.length : Int)) = true := decide_eq_true c6
          have c6b1 : decide (0 < x0_1.length) = true := decide_eq_true (by omega)
          clear c6
          (first | rw [c6b0] | (simp only [i64_w, i32_w]; rw [c6b0]) | skip)
          have H' := Aside0.mk H
          clear H
          obtain ⟨Ao7, co7, eo7⟩ := Kd.V_slice HO_0.out
          subst eo7
          go_wp2
          go_meet
          case rel => exact ⟨_, (true), (by first | rfl | (simp; done) | (simp [*]; done)), H', ⟨by have := HK1.out; first | omega | exact Nat.le_refl _⟩, ⟨by (with_reducible repeat (first | apply Kd.V_alloc | apply Kd.V_drewN | apply Kd.V_drew)); exact HO_0.out⟩, ⟨by (with_reducible repeat (first | apply Kd.V_alloc | apply Kd.V_drewN | apply Kd.V_drew)); exact HO_1.out⟩, ⟨by (with_reducible repeat (first | apply Kd.R_alloc | apply Kd.R_drewN | apply Kd.R_drew)); exact HO_5.out⟩, ⟨by repeat (first | (with_reducible first | exact HB.out | apply below_alloc | apply pw_below_drewN | apply below_drew1) | exact HB.out)⟩⟩
        · rw [if_neg c6] at H
          have c6b0 : decide (0 < (x0_1.length : Int)) = false := decide_eq_false c6
          have c6b1 : decide (0 < x0_1.length) = false := decide_eq_false (by omega)
          clear c6
          (first | rw [c6b0] | (simp only [i64_w, i32_w]; rw [c6b0]) | skip)
          have H' := Aside0.mk H
          clear H
          obtain ⟨Ao8, co8, eo8⟩ := Kd.V_slice HO_0.out
          subst eo8
          obtain ⟨Ao9, co9, eo9⟩ := Kd.V_slice HO_1.out
          subst eo9
          go_wp2
          go_meet
          case rel => exact ⟨_, (decide ((x1_1.length : Int) > 0)), (by first | rfl | (simp; done) | (simp [*]; done)), H', ⟨by have := HK1.out; first | omega | exact Nat.le_refl _⟩, ⟨by (with_reducible repeat (first | apply Kd.V_alloc | apply Kd.V_drewN | apply Kd.V_drew)); exact HO_0.out⟩, ⟨by (with_reducible repeat (first | apply Kd.V_alloc | apply Kd.V_drewN | apply Kd.V_drew)); exact HO_1.out⟩, ⟨by (with_reducible repeat (first | apply Kd.R_alloc | apply Kd.R_drewN | apply Kd.R_drew)); exact HO_5.out⟩, ⟨by repeat (first | (with_reducible first | exact HB.out | apply below_alloc | apply pw_below_drewN | apply below_drew1) | exact HB.out)⟩⟩
      case rest =>
        clear HC5
        try clear c1
        try clear p2
        try clear c5
        try clear c6
        try clear c6b0
        try clear c6b1
        try clear p2
        obtain ⟨kq, x14_4, rfl, HA, HJ4, HO_0, HO_1, HO_5, HB⟩ := hcut
        cases kq with
        | zero => exact absurd HA.out (by simp [impl_diffs.j1])
        | succ kj4 =>
          have H := HA.out
          clear HA
          simp only [impl_diffs.j1] at H
          by_cases c10 : x14_4 = true
          · subst c10
            have H1 : (if (x1_1.length : Int) = 0 then (impl_diffs.j2 kj4 x0_1 x1_1 x5_1 true) else (if (x0_1.length : Int) > 0 then (if 0 < (x0_1.length : Int) then (if 0 < (x1_1.length : Int) then (impl_diffs.j2 kj4 x0_1 x1_1 x5_1 (Op.bytesLess (((rd_T76 x0_1 0).f0).toList) (((rd_T76 x1_1 0).f0).toList))) else (none)) else (none)) else (impl_diffs.j2 kj4 x0_1 x1_1 x5_1 false))) = some r := by rw [if_pos rfl] at H; exact H
            clear H
            have H := H1
            clear H1
            have HC11 := Aside0.mk H
            clear H
            go_upto_region 6 with (fail)
            go_cut [44] (fun v44 wc => ∃ (kq : Nat) (x44_10 : Bool), v44 = .bool x44_10 ∧ Aside0 (impl_diffs.j2 kq x0_1 x1_1 x5_1 x44_10 = some r) ∧ Aside0 (kq ≤ kj4) ∧ Aside0 (Kd.V k76 76 wc w.heap.size (fun k_ => ((P0_ k_ ∨ P1_ k_) ∨ w.heap.size ≤ k_) ∧ some k_ ≠ (u5 : Value).ownBlock) u0 x0_1) ∧ Aside0 (Kd.V k76 76 wc w.heap.size (fun k_ => ((P0_ k_ ∨ P1_ k_) ∨ w.heap.size ≤ k_) ∧ some k_ ≠ (u5 : Value).ownBlock) u1 x1_1) ∧ Aside0 (Kd.R k82 82 wc w.heap.size (fun k_ => (w.heap.size ≤ k_)) u5 x5_1) ∧ Aside0 (Below w.heap.size w wc))
            case first =>
              have H := HC11.out
              clear HC11
              by_cases c12 : (x1_1.length : Int) = 0
              · rw [if_pos c12] at H
                have c12b0 : ((x1_1.length : Int) == 0) = true := beq_iff_eq.mpr c12
                have c12b1 : ((x1_1.length : Int) != 0) = false := bne_eq_false_iff_eq.mpr c12
                clear c12
                (first | rw [c12b0] | (simp only [i64_w, i32_w]; rw [c12b0]) | skip)
                have H' := Aside0.mk H
                clear H
                try go_wp2
                have n0_ := Aside0.mk (Kd.V_drew HO_0.out)
                have n1_ := Aside0.mk (Kd.V_drew HO_1.out)
                have n2_ := Aside0.mk (Kd.R_drew HO_5.out)
                have n3_ := Aside0.mk (below_drew1 HB.out)
                clear HO_0
                clear HO_1
                clear HO_5
                clear HB
                have HO_0 := n0_
                have HO_1 := n1_
                have HO_5 := n2_
                have HB := n3_
                clear n0_ n1_ n2_ n3_
                obtain ⟨Ao14, co14, eo14⟩ := Kd.V_slice HO_1.out
                (first | subst eo14 | (injection eo14 with f1_ f2_ f3_; have f4_ := f1_.symm; have f5_ := f3_.symm; clear f1_ f2_ f3_; subst f4_; subst f5_))
                refine wp_region_later (by kernel_rfl) (by kernel_rfl) ?_
                generalize wc.drew = w13b at HO_0 HO_1 HO_5 HB ⊢
                repeat (first | go_big_quiet_step (fail) | quiet_step (fail))
                refine wpQuiet_nil ?_
                rintro w13 ⟨⟨wq_, hbL⟩, hq_⟩
                have hq2_ : w13 = wq_ := hq_
                clear hq_
                subst hq2_
                have nHO_0_ := by first | exact Aside0.mk (below_step HO_0.out hbL) | exact Aside0.mk (Kd.R_below HO_0.out hbL) | exact Aside0.mk (Kd.S_below HO_0.out hbL) | exact Aside0.mk (Kd.N_below HO_0.out hbL) | exact Aside0.mk (Kd.V_below HO_0.out hbL) | exact Aside0.mk (Kd.Q_below HO_0.out hbL) | exact Aside0.mk (Kd.C_below HO_0.out hbL) | exact Aside0.mk ((hbL.block _ (blk_lt HO_0.out)).trans HO_0.out)
                have nHO_1_ := by first | exact Aside0.mk (below_step HO_1.out hbL) | exact Aside0.mk (Kd.R_below HO_1.out hbL) | exact Aside0.mk (Kd.S_below HO_1.out hbL) | exact Aside0.mk (Kd.N_below HO_1.out hbL) | exact Aside0.mk (Kd.V_below HO_1.out hbL) | exact Aside0.mk (Kd.Q_below HO_1.out hbL) | exact Aside0.mk (Kd.C_below HO_1.out hbL) | exact Aside0.mk ((hbL.block _ (blk_lt HO_1.out)).trans HO_1.out)
                have nHO_5_ := by first | exact Aside0.mk (below_step HO_5.out hbL) | exact Aside0.mk (Kd.R_below HO_5.out hbL) | exact Aside0.mk (Kd.S_below HO_5.out hbL) | exact Aside0.mk (Kd.N_below HO_5.out hbL) | exact Aside0.mk (Kd.V_below HO_5.out hbL) | exact Aside0.mk (Kd.Q_below HO_5.out hbL) | exact Aside0.mk (Kd.C_below HO_5.out hbL) | exact Aside0.mk ((hbL.block _ (blk_lt HO_5.out)).trans HO_5.out)
                have nHB_ := by first | exact Aside0.mk (below_step HB.out hbL) | exact Aside0.mk (Kd.R_below HB.out hbL) | exact Aside0.mk (Kd.S_below HB.out hbL) | exact Aside0.mk (Kd.N_below HB.out hbL) | exact Aside0.mk (Kd.V_below HB.out hbL) | exact Aside0.mk (Kd.Q_below HB.out hbL) | exact Aside0.mk (Kd.C_below HB.out hbL) | exact Aside0.mk ((hbL.block _ (blk_lt HB.out)).trans HB.out)
                clear HO_0
                clear HO_1
                clear HO_5
                clear HB
                have HO_0 := nHO_0_
                have HO_1 := nHO_1_
                have HO_5 := nHO_5_
                have HB := nHB_
                clear nHO_0_
                clear nHO_1_
                clear nHO_5_
                clear nHB_
                clear hbL
                try go_wp2
                go_meet
                case rel => exact ⟨_, (true), (by first | rfl | (simp; done) | (simp [*]; done)), H', ⟨by have := HK1.out; have := HJ4.out; first | omega | exact Nat.le_refl _⟩, ⟨by (with_reducible repeat (first | apply Kd.V_alloc | apply Kd.V_drewN | apply Kd.V_drew)); exact HO_0.out⟩, ⟨by (with_reducible repeat (first | apply Kd.V_alloc | apply Kd.V_drewN | apply Kd.V_drew)); exact HO_1.out⟩, ⟨by (with_reducible repeat (first | apply Kd.R_alloc | apply Kd.R_drewN | apply Kd.R_drew)); exact HO_5.out⟩, ⟨by repeat (first | (with_reducible first | exact HB.out | apply below_alloc | apply pw_below_drewN | apply below_drew1) | exact HB.out)⟩⟩
              · rw [if_neg c12] at H
                have c12b0 : ((x1_1.length : Int) == 0) = false := beq_eq_false_iff_ne.mpr c12
                have c12b1 : ((x1_1.length : Int) != 0) = true := bne_iff_ne.mpr c12
                have c12b2 : ¬ (x1_1 = []) := fun h_ => c12 (by rw [h_]; rfl)
                (first | rw [c12b0] | (simp only [i64_w, i32_w]; rw [c12b0]) | skip)
                by_cases c15 : (x0_1.length : Int) > 0
                · rw [if_pos c15] at H
                  have c15b0 : decide (0 < (x0_1.length : Int)) = true := decide_eq_true c15
                  have c15b1 : decide (0 < x0_1.length) = true := decide_eq_true (by omega)
                  clear c15
                  by_cases c16 : 0 < (x0_1.length : Int)
                  · rw [if_pos c16] at H
                    have c16b0 : decide (0 < (x0_1.length : Int)) = true := decide_eq_true c16
                    have c16b1 : decide (0 < x0_1.length) = true := decide_eq_true (by omega)
                    clear c16
                    by_cases c17 : 0 < (x1_1.length : Int)
                    · rw [if_pos c17] at H
                      have c17b0 : decide (0 < (x1_1.length : Int)) = true := decide_eq_true c17
                      have c17b1 : decide (0 < x1_1.length) = true := decide_eq_true (by omega)
                      clear c17
                      have H' := Aside0.mk H
                      clear H
                      try go_wp2
                      have n0_ := Aside0.mk (Kd.V_drew HO_0.out)
                      have n1_ := Aside0.mk (Kd.V_drew HO_1.out)
                      have n2_ := Aside0.mk (Kd.R_drew HO_5.out)
                      have n3_ := Aside0.mk (below_drew1 HB.out)
                      clear HO_0
                      clear HO_1
                      clear HO_5
                      clear HB
                      have HO_0 := n0_
                      have HO_1 := n1_
                      have HO_5 := n2_
                      have HB := n3_
                      clear n0_ n1_ n2_ n3_
                      obtain ⟨Ao19, co19, eo19⟩ := Kd.V_slice HO_1.out
                      (first | subst eo19 | (injection eo19 with f1_ f2_ f3_; have f4_ := f1_.symm; have f5_ := f3_.symm; clear f1_ f2_ f3_; subst f4_; subst f5_))
                      obtain ⟨Ao20, co20, eo20⟩ := Kd.V_slice HO_0.out
                      (first | subst eo20 | (injection eo20 with f1_ f2_ f3_; have f4_ := f1_.symm; have f5_ := f3_.symm; clear f1_ f2_ f3_; subst f4_; subst f5_))
                      have p214 : 0 ≤ (0 : Int) := (by omega)
                      have q214 : 0 < (x0_1.length : Int) := of_decide_eq_true (by first | (with_reducible assumption) | assumption)
                      obtain ⟨ad214, e214, hx214_0, hx214_1⟩ := at_T76 (Kd.V_reads' HO_0.out).2.2 0 p214 q214
                      cases e214
                      have qi214 : (0 < x0_1.length) = True := eq_true (by omega)
                      (try rw [show ((0 : Int)).toNat = 0 from rfl] at hx214_0)
                      (try rw [show 0 * 2 = 0 from rfl] at hx214_0)
                      (try rw [Addr.add_zero'] at hx214_0)
                      (try rw [show ((0 : Int)).toNat = 0 from rfl] at hx214_1)
                      (try rw [show 0 * 2 = 0 from rfl] at hx214_1)
                      (try rw [Addr.add_zero'] at hx214_1)
                      replace p214 := eq_true p214
                      replace q214 := eq_true q214
                      have p215 : 0 ≤ (0 : Int) := (by omega)
                      have q215 : 0 < (x1_1.length : Int) := of_decide_eq_true (by first | (with_reducible assumption) | assumption)
                      obtain ⟨ad215, e215, hx215_0, hx215_1⟩ := at_T76 (Kd.V_reads' HO_1.out).2.2 0 p215 q215
                      cases e215
                      have qi215 : (0 < x1_1.length) = True := eq_true (by omega)
                      (try rw [show ((0 : Int)).toNat = 0 from rfl] at hx215_0)
                      (try rw [show 0 * 2 = 0 from rfl] at hx215_0)
                      (try rw [Addr.add_zero'] at hx215_0)
                      (try rw [show ((0 : Int)).toNat = 0 from rfl] at hx215_1)
                      (try rw [show 0 * 2 = 0 from rfl] at hx215_1)
                      (try rw [Addr.add_zero'] at hx215_1)
                      replace p215 := eq_true p215
                      replace q215 := eq_true q215
                      refine wp_region_later (by kernel_rfl) (by kernel_rfl) ?_
                      have hL0_ := Aside0.mk (show wc.drew.cell? ad214 = some (.string ((rd_T76 x0_1 0).f0)) from hx214_0)
                      have hL1_ := Aside0.mk (show wc.drew.cell? ⟨ad214.block, ad214.off + 1, none⟩ = some (.string ((rd_T76 x0_1 0).f1)) from hx214_1)
                      have hL2_ := Aside0.mk (show wc.drew.cell? ad215 = some (.string ((rd_T76 x1_1 0).f0)) from hx215_0)
                      have hL3_ := Aside0.mk (show wc.drew.cell? ⟨ad215.block, ad215.off + 1, none⟩ = some (.string ((rd_T76 x1_1 0).f1)) from hx215_1)
                      generalize wc.drew = w18b at HO_0 HO_1 HO_5 HB hx214_0 hx214_1 hx215_0 hx215_1 hL0_ hL1_ hL2_ hL3_ ⊢
                      clear hx214_0 hx214_1 hx215_0 hx215_1
                      have hL0 := fun (p_ : Later w18b) => (show p_.val.cell? ad214 = some (.string ((rd_T76 x0_1 0).f0)) from Later.cell p_ hL0_.out)
                      have hL1 := fun (p_ : Later w18b) => (show p_.val.cell? ⟨ad214.block, ad214.off + 1, none⟩ = some (.string ((rd_T76 x0_1 0).f1)) from Later.cell p_ hL1_.out)
                      have hL2 := fun (p_ : Later w18b) => (show p_.val.cell? ad215 = some (.string ((rd_T76 x1_1 0).f0)) from Later.cell p_ hL2_.out)
                      have hL3 := fun (p_ : Later w18b) => (show p_.val.cell? ⟨ad215.block, ad215.off + 1, none⟩ = some (.string ((rd_T76 x1_1 0).f1)) from Later.cell p_ hL3_.out)
                      clear hL0_ hL1_ hL2_ hL3_
                      repeat (first | go_big_quiet_step (fail) | quiet_step (fail))
                      refine wpQuiet_nil ?_
                      rintro w18 ⟨⟨wq_, hbL⟩, hq_⟩
                      have hq2_ : w18 = wq_ := hq_
                      clear hq_
                      subst hq2_
                      clear hL0 hL1 hL2 hL3
                      have nHO_0_ := by first | exact Aside0.mk (below_step HO_0.out hbL) | exact Aside0.mk (Kd.R_below HO_0.out hbL) | exact Aside0.mk (Kd.S_below HO_0.out hbL) | exact Aside0.mk (Kd.N_below HO_0.out hbL) | exact Aside0.mk (Kd.V_below HO_0.out hbL) | exact Aside0.mk (Kd.Q_below HO_0.out hbL) | exact Aside0.mk (Kd.C_below HO_0.out hbL) | exact Aside0.mk ((hbL.block _ (blk_lt HO_0.out)).trans HO_0.out)
                      have nHO_1_ := by first | exact Aside0.mk (below_step HO_1.out hbL) | exact Aside0.mk (Kd.R_below HO_1.out hbL) | exact Aside0.mk (Kd.S_below HO_1.out hbL) | exact Aside0.mk (Kd.N_below HO_1.out hbL) | exact Aside0.mk (Kd.V_below HO_1.out hbL) | exact Aside0.mk (Kd.Q_below HO_1.out hbL) | exact Aside0.mk (Kd.C_below HO_1.out hbL) | exact Aside0.mk ((hbL.block _ (blk_lt HO_1.out)).trans HO_1.out)
                      have nHO_5_ := by first | exact Aside0.mk (below_step HO_5.out hbL) | exact Aside0.mk (Kd.R_below HO_5.out hbL) | exact Aside0.mk (Kd.S_below HO_5.out hbL) | exact Aside0.mk (Kd.N_below HO_5.out hbL) | exact Aside0.mk (Kd.V_below HO_5.out hbL) | exact Aside0.mk (Kd.Q_below HO_5.out hbL) | exact Aside0.mk (Kd.C_below HO_5.out hbL) | exact Aside0.mk ((hbL.block _ (blk_lt HO_5.out)).trans HO_5.out)
                      have nHB_ := by first | exact Aside0.mk (below_step HB.out hbL) | exact Aside0.mk (Kd.R_below HB.out hbL) | exact Aside0.mk (Kd.S_below HB.out hbL) | exact Aside0.mk (Kd.N_below HB.out hbL) | exact Aside0.mk (Kd.V_below HB.out hbL) | exact Aside0.mk (Kd.Q_below HB.out hbL) | exact Aside0.mk (Kd.C_below HB.out hbL) | exact Aside0.mk ((hbL.block _ (blk_lt HB.out)).trans HB.out)
                      clear HO_0
                      clear HO_1
                      clear HO_5
                      clear HB
                      have HO_0 := nHO_0_
                      have HO_1 := nHO_1_
                      have HO_5 := nHO_5_
                      have HB := nHB_
                      clear nHO_0_
                      clear nHO_1_
                      clear nHO_5_
                      clear nHB_
                      clear hbL
                      try go_wp2
                      go_meet
                      case rel => exact ⟨_, ((Op.bytesLess (((rd_T76 x0_1 0).f0).toList) (((rd_T76 x1_1 0).f0).toList))), (by first | rfl | (simp; done) | (simp [*]; done)), H', ⟨by have := HK1.out; have := HJ4.out; first | omega | exact Nat.le_refl _⟩, ⟨by (with_reducible repeat (first | apply Kd.V_alloc | apply Kd.V_drewN | apply Kd.V_drew)); exact HO_0.out⟩, ⟨by (with_reducible repeat (first | apply Kd.V_alloc | apply Kd.V_drewN | apply Kd.V_drew)); exact HO_1.out⟩, ⟨by (with_reducible repeat (first | apply Kd.R_alloc | apply Kd.R_drewN | apply Kd.R_drew)); exact HO_5.out⟩, ⟨by repeat (first | (with_reducible first | exact HB.out | apply below_alloc | apply pw_below_drewN | apply below_drew1) | exact HB.out)⟩⟩
                    · rw [if_neg c17] at H
                      exact absurd H (by simp)
                  · rw [if_neg c16] at H
                    exact absurd H (by simp)
                · rw [if_neg c15] at H
                  have c15b0 : decide (0 < (x0_1.length : Int)) = false := decide_eq_false c15
                  have c15b1 : decide (0 < x0_1.length) = false := decide_eq_false (by omega)
                  clear c15
                  have H' := Aside0.mk H
                  clear H
                  try go_wp2
                  have n0_ := Aside0.mk (Kd.V_drew HO_0.out)
                  have n1_ := Aside0.mk (Kd.V_drew HO_1.out)
                  have n2_ := Aside0.mk (Kd.R_drew HO_5.out)
                  have n3_ := Aside0.mk (below_drew1 HB.out)
                  clear HO_0
                  clear HO_1
                  clear HO_5
                  clear HB
                  have HO_0 := n0_
                  have HO_1 := n1_
                  have HO_5 := n2_
                  have HB := n3_
                  clear n0_ n1_ n2_ n3_
                  obtain ⟨Ao22, co22, eo22⟩ := Kd.V_slice HO_1.out
                  (first | subst eo22 | (injection eo22 with f1_ f2_ f3_; have f4_ := f1_.symm; have f5_ := f3_.symm; clear f1_ f2_ f3_; subst f4_; subst f5_))
                  obtain ⟨Ao23, co23, eo23⟩ := Kd.V_slice HO_0.out
                  (first | subst eo23 | (injection eo23 with f1_ f2_ f3_; have f4_ := f1_.symm; have f5_ := f3_.symm; clear f1_ f2_ f3_; subst f4_; subst f5_))
                  refine wp_region_later (by kernel_rfl) (by kernel_rfl) ?_
                  generalize wc.drew = w21b at HO_0 HO_1 HO_5 HB ⊢
                  repeat (first | go_big_quiet_step (fail) | quiet_step (fail))
                  refine wpQuiet_nil ?_
                  rintro w21 ⟨⟨wq_, hbL⟩, hq_⟩
                  have hq2_ : w21 = wq_ := hq_
                  clear hq_
                  subst hq2_
                  have nHO_0_ := by first | exact Aside0.mk (below_step HO_0.out hbL) | exact Aside0.mk (Kd.R_below HO_0.out hbL) | exact Aside0.mk (Kd.S_below HO_0.out hbL) | exact Aside0.mk (Kd.N_below HO_0.out hbL) | exact Aside0.mk (Kd.V_below HO_0.out hbL) | exact Aside0.mk (Kd.Q_below HO_0.out hbL) | exact Aside0.mk (Kd.C_below HO_0.out hbL) | exact Aside0.mk ((hbL.block _ (blk_lt HO_0.out)).trans HO_0.out)
                  have nHO_1_ := by first | exact Aside0.mk (below_step HO_1.out hbL) | exact Aside0.mk (Kd.R_below HO_1.out hbL) | exact Aside0.mk (Kd.S_below HO_1.out hbL) | exact Aside0.mk (Kd.N_below HO_1.out hbL) | exact Aside0.mk (Kd.V_below HO_1.out hbL) | exact Aside0.mk (Kd.Q_below HO_1.out hbL) | exact Aside0.mk (Kd.C_below HO_1.out hbL) | exact Aside0.mk ((hbL.block _ (blk_lt HO_1.out)).trans HO_1.out)
                  have nHO_5_ := by first | exact Aside0.mk (below_step HO_5.out hbL) | exact Aside0.mk (Kd.R_below HO_5.out hbL) | exact Aside0.mk (Kd.S_below HO_5.out hbL) | exact Aside0.mk (Kd.N_below HO_5.out hbL) | exact Aside0.mk (Kd.V_below HO_5.out hbL) | exact Aside0.mk (Kd.Q_below HO_5.out hbL) | exact Aside0.mk (Kd.C_below HO_5.out hbL) | exact Aside0.mk ((hbL.block _ (blk_lt HO_5.out)).trans HO_5.out)
                  have nHB_ := by first | exact Aside0.mk (below_step HB.out hbL) | exact Aside0.mk (Kd.R_below HB.out hbL) | exact Aside0.mk (Kd.S_below HB.out hbL) | exact Aside0.mk (Kd.N_below HB.out hbL) | exact Aside0.mk (Kd.V_below HB.out hbL) | exact Aside0.mk (Kd.Q_below HB.out hbL) | exact Aside0.mk (Kd.C_below HB.out hbL) | exact Aside0.mk ((hbL.block _ (blk_lt HB.out)).trans HB.out)
                  clear HO_0
                  clear HO_1
                  clear HO_5
                  clear HB
                  have HO_0 := nHO_0_
                  have HO_1 := nHO_1_
                  have HO_5 := nHO_5_
                  have HB := nHB_
                  clear nHO_0_
                  clear nHO_1_
                  clear nHO_5_
                  clear nHB_
                  clear hbL
                  try go_wp2
                  go_meet
                  case rel => exact ⟨_, (false), (by first | rfl | (simp; done) | (simp [*]; done)), H', ⟨by have := HK1.out; have := HJ4.out; first | omega | exact Nat.le_refl _⟩, ⟨by (with_reducible repeat (first | apply Kd.V_alloc | apply Kd.V_drewN | apply Kd.V_drew)); exact HO_0.out⟩, ⟨by (with_reducible repeat (first | apply Kd.V_alloc | apply Kd.V_drewN | apply Kd.V_drew)); exact HO_1.out⟩, ⟨by (with_reducible repeat (first | apply Kd.R_alloc | apply Kd.R_drewN | apply Kd.R_drew)); exact HO_5.out⟩, ⟨by repeat (first | (with_reducible first | exact HB.out | apply below_alloc | apply pw_below_drewN | apply below_drew1) | exact HB.out)⟩⟩
            case rest =>
              clear HC11
              try clear c1
              try clear p2
              try clear q2
              try clear hx2
              try clear qi2
              try clear c5
              try clear c6
              try clear c6b0
              try clear c6b1
              try clear c10
              try clear c12
              try clear c12b0
              try clear c12b1
              try clear c12b2
              try clear c15
              try clear c15b0
              try clear c15b1
              try clear c16
              try clear c16b0
              try clear c16b1
              try clear c17
              try clear c17b0
              try clear c17b1
              try clear p21
              try clear q21
              try clear hx21
              try clear qi21
              try clear hx214_0
              try clear hx214_1
              try clear hx215_0
              try clear hx215_1
              try clear p2
              try clear p214
              try clear p215
              try clear q214
              try clear q215
              obtain ⟨kq, x44_10, rfl, HA, HJ10, HO_0, HO_1, HO_5, HB⟩ := hcut
              cases kq with
              | zero => exact absurd HA.out (by simp [impl_diffs.j2])
              | succ kj10 =>
                have H := HA.out
                clear HA
                simp only [impl_diffs.j2] at H
                by_cases c24 : x44_10 = true
                · subst c24
                  have H1 : (if 0 < (x0_1.length : Int) then (if x5_1.length < 2513169434916 then (if 1 ≤ (x0_1.length : Int) then (impl_diffs.l0 kj10 (x0_1.drop 1) x1_1 (x5_1 ++ [(⟨(rd_T76 x0_1 0).f0, (rd_T76 x0_1 0).f1, (⟨#[]⟩ : ByteArray), true, false⟩ : S82)])) else (none)) else (none)) else (none)) = some r := by rw [if_pos rfl] at H; exact H
                  clear H
                  have H := H1
                  clear H1
                  by_cases c25 : 0 < (x0_1.length : Int)
                  · rw [if_pos c25] at H
                    have c25b0 : decide (0 < (x0_1.length : Int)) = true := decide_eq_true c25
                    have c25b1 : decide (0 < x0_1.length) = true := decide_eq_true (by omega)
                    clear c25
                    by_cases c26 : x5_1.length < 2513169434916
                    · rw [if_pos c26] at H
                      have LMc26 := Aside0.mk c26
                      clear c26
                      obtain ⟨y218, hy218⟩ : ∃ y_ : List (S82), y_ = (x5_1 ++ [(⟨(rd_T76 x0_1 0).f0, (rd_T76 x0_1 0).f1, (⟨#[]⟩ : ByteArray), true, false⟩ : S82)]) := ⟨_, rfl⟩
                      replace H : (if 1 ≤ (x0_1.length : Int) then (impl_diffs.l0 kj10 (x0_1.drop 1) x1_1 y218) else (none)) = some r := by first | (rw [hy218]; with_reducible exact H) | (have H2_ := (Option.bind_some _ _).symm.trans H; rw [hy218]; with_reducible exact H2_) | (have H2_ := (Option.bind_some _ _).symm.trans H; with_reducible exact H2_) | with_reducible exact H | (rw [hy218]; exact H) | exact H
                      have Ny218 := Aside0.mk hy218
                      clear hy218
                      by_cases c27 : 1 ≤ (x0_1.length : Int)
                      · rw [if_pos c27] at H
                        have c27b0 := eq_true c27
                        have c27b1 : decide (1 ≤ (x0_1.length : Int)) = true := decide_eq_true c27
                        clear c27
                        obtain ⟨y221, hy221⟩ : ∃ y_ : List (S76), y_ = (x0_1.drop 1) := ⟨_, rfl⟩
                        replace H : (impl_diffs.l0 kj10 y221 x1_1 y218) = some r := by first | (rw [hy221]; with_reducible exact H) | (have H2_ := (Option.bind_some _ _).symm.trans H; rw [hy221]; with_reducible exact H2_) | (have H2_ := (Option.bind_some _ _).symm.trans H; with_reducible exact H2_) | with_reducible exact H | (rw [hy221]; exact H) | exact H
                        have Ny221 := Aside0.mk hy221
                        clear hy221
                        have H' := Aside0.mk H
                        clear H
                        try go_wp2
                        have n0_ := Aside0.mk (Kd.V_drew HO_0.out)
                        have n1_ := Aside0.mk (Kd.V_drew HO_1.out)
                        have n2_ := Aside0.mk (Kd.R_drew HO_5.out)
                        have n3_ := Aside0.mk (below_drew1 HB.out)
                        clear HO_0
                        clear HO_1
                        clear HO_5
                        clear HB
                        have HO_0 := n0_
                        have HO_1 := n1_
                        have HO_5 := n2_
                        have HB := n3_
                        clear n0_ n1_ n2_ n3_
                        obtain ⟨Ao29, co29, eo29⟩ := Kd.V_slice HO_0.out
                        (first | subst eo29 | (injection eo29 with f1_ f2_ f3_; have f4_ := f1_.symm; have f5_ := f3_.symm; clear f1_ f2_ f3_; subst f4_; subst f5_))
                        have p216 : 0 ≤ (0 : Int) := (by omega)
                        have q216 : 0 < (x0_1.length : Int) := of_decide_eq_true (by first | (with_reducible assumption) | assumption)
                        obtain ⟨ad216, e216, hx216_0, hx216_1⟩ := at_T76 (Kd.V_reads' HO_0.out).2.2 0 p216 q216
                        cases e216
                        have qi216 : (0 < x0_1.length) = True := eq_true (by omega)
                        (try rw [show ((0 : Int)).toNat = 0 from rfl] at hx216_0)
                        (try rw [show 0 * 2 = 0 from rfl] at hx216_0)
                        (try rw [Addr.add_zero'] at hx216_0)
                        (try rw [show ((0 : Int)).toNat = 0 from rfl] at hx216_1)
                        (try rw [show 0 * 2 = 0 from rfl] at hx216_1)
                        (try rw [Addr.add_zero'] at hx216_1)
                        replace p216 := eq_true p216
                        replace q216 := eq_true q216
                        have p217 : 0 ≤ (0 : Int) := (by omega)
                        have q217 : 0 < (x0_1.length : Int) := of_decide_eq_true (by first | (with_reducible assumption) | assumption)
                        obtain ⟨ad217, e217, hx217_0, hx217_1⟩ := at_T76 (Kd.V_reads' HO_0.out).2.2 0 p217 q217
                        obtain rfl : ad216 = ad217 := (by injection e217)
                        have qi217 : (0 < x0_1.length) = True := eq_true (by omega)
                        (try rw [show ((0 : Int)).toNat = 0 from rfl] at hx217_0)
                        (try rw [show 0 * 2 = 0 from rfl] at hx217_0)
                        (try rw [Addr.add_zero'] at hx217_0)
                        (try rw [show ((0 : Int)).toNat = 0 from rfl] at hx217_1)
                        (try rw [show 0 * 2 = 0 from rfl] at hx217_1)
                        (try rw [Addr.add_zero'] at hx217_1)
                        replace p217 := eq_true p217
                        replace q217 := eq_true q217
                        refine start_ (n := 13) (S := fun w' => w'.cell? ad216 = some (.string ((rd_T76 x0_1 0).f0)) ∧ w'.cell? ⟨ad216.block, ad216.off + 1, none⟩ = some (.string ((rd_T76 x0_1 0).f1)) ∧ w'.cell? ad216 = some (.string ((rd_T76 x0_1 0).f0)) ∧ w'.cell? ⟨ad216.block, ad216.off + 1, none⟩ = some (.string ((rd_T76 x0_1 0).f1))) (ds := [10, 11]) #[false, false, false, false, false, false, false, false, false, false, false, false, false] (by kernel_rfl) rfl rfl ⟨hx216_0, hx216_1, hx217_0, hx217_1⟩ (fun hHeld => ?_); refine with_tabW impl_diffs.tab7 impl_diffs.bits7 (fun HT_ HW_ => ?_)
                        generalize wc.drew = w28 at HO_0 HO_1 HO_5 HB hx216_0 hx216_1 hx217_0 hx217_1 hHeld ⊢
                        refine pure_ (i := 0) (N := some 64) (v := ?_) (a' := ?_) #[true, false, false, false, false, false, false, false, false, false, false, false, false] rfl rfl (any_of HT_.out (by kernel_rfl)) (fun _ _ _ h => h) (Or.inl ⟨by rfl, ?_⟩) ?_ ?_
                        rotate_left
                        · intro w'
                          go_simp
                          with_reducible rfl
                        rotate_left
                        · simp only [Act.put, List.setIfInBounds_toArray, List.set_cons_zero, List.set_cons_succ, i64_w, i32_w]
                          rfl
                        refine pure_ (i := 1) (N := some 65) (v := ?_) (a' := ?_) #[true, true, false, false, false, false, false, false, false, false, false, false, false] rfl rfl (any_of HT_.out (by kernel_rfl)) (fun _ _ _ h => h) (Or.inl ⟨by rfl, ?_⟩) ?_ ?_
                        rotate_left
                        · intro w'
                          go_simp
                          with_reducible rfl
                        rotate_left
                        · simp only [Act.put, List.setIfInBounds_toArray, List.set_cons_zero, List.set_cons_succ, i64_w, i32_w]
                          rfl
                        refine pure_ (i := 2) (N := some 66) (v := ?_) (a' := ?_) #[true, true, true, false, false, false, false, false, false, false, false, false, false] rfl rfl (any_of HT_.out (by kernel_rfl)) (fun _ _ _ h => h) (Or.inl ⟨by rfl, ?_⟩) ?_ ?_
                        rotate_left
                        · intro w'
                          go_simp
                          with_reducible rfl
                        rotate_left
                        · simp only [Act.put, List.setIfInBounds_toArray, List.set_cons_zero, List.set_cons_succ, i64_w, i32_w]
                          rfl
                        refine pure_ (i := 3) (N := some 67) (v := ?_) (a' := ?_) #[true, true, true, true, false, false, false, false, false, false, false, false, false] rfl rfl (any_of HT_.out (by kernel_rfl)) (fun _ _ _ h => h) (Or.inl ⟨by rfl, ?_⟩) ?_ ?_
                        rotate_left
                        · intro w'
                          go_simp
                          with_reducible rfl
                        rotate_left
                        · simp only [Act.put, List.setIfInBounds_toArray, List.set_cons_zero, List.set_cons_succ, i64_w, i32_w]
                          rfl
                        refine pure_ (i := 5) (N := some 69) (v := ?_) (a' := ?_) #[true, true, true, true, false, true, false, false, false, false, false, false, false] rfl rfl (any_of HT_.out (by kernel_rfl)) (fun _ _ _ h => h) (Or.inl ⟨by rfl, ?_⟩) ?_ ?_
                        rotate_left
                        · intro w'
                          go_simp
                          with_reducible rfl
                        rotate_left
                        · simp only [Act.put, List.setIfInBounds_toArray, List.set_cons_zero, List.set_cons_succ, i64_w, i32_w]
                          rfl
                        refine pure_ (i := 6) (N := some 70) (v := ?_) (a' := ?_) #[true, true, true, true, false, true, true, false, false, false, false, false, false] rfl rfl (any_of HT_.out (by kernel_rfl)) (fun _ _ _ h => h) (Or.inl ⟨by rfl, ?_⟩) ?_ ?_
                        rotate_left
                        · intro w'
                          go_simp
                          with_reducible rfl
                        rotate_left
                        · simp only [Act.put, List.setIfInBounds_toArray, List.set_cons_zero, List.set_cons_succ, i64_w, i32_w]
                          rfl
                        refine pure_ (i := 7) (N := some 71) (v := ?_) (a' := ?_) #[true, true, true, true, false, true, true, true, false, false, false, false, false] rfl rfl (any_of HT_.out (by kernel_rfl)) (fun _ _ _ h => h) (Or.inl ⟨by rfl, ?_⟩) ?_ ?_
                        rotate_left
                        · intro w'
                          go_simp
                          with_reducible rfl
                        rotate_left
                        · simp only [Act.put, List.setIfInBounds_toArray, List.set_cons_zero, List.set_cons_succ, i64_w, i32_w]
                          rfl
                        refine take_ (i := 4) (N := some 68) (v := ?_) (a' := ?_) #[true, true, true, true, true, true, true, true, false, false, false, false, false] rfl rfl (take_ofW HT_.out HW_.out (by kernel_rfl)) (fun _ _ _ h => h) (Or.inl ⟨by rfl, ?_⟩) hHeld ?_ ?_
                        rotate_left
                        · rintro w' ⟨s0, s1, s2, s3⟩
                          go_simp
                          with_reducible rfl
                        rotate_left
                        · simp only [Act.put, List.setIfInBounds_toArray, List.set_cons_zero, List.set_cons_succ, i64_w, i32_w]
                          rfl
                        refine take_ (i := 8) (N := some 72) (v := ?_) (a' := ?_) #[true, true, true, true, true, true, true, true, true, false, false, false, false] rfl rfl (take_ofW HT_.out HW_.out (by kernel_rfl)) (fun _ _ _ h => h) (Or.inl ⟨by rfl, ?_⟩) hHeld ?_ ?_
                        rotate_left
                        · rintro w' ⟨s0, s1, s2, s3⟩
                          go_simp
                          with_reducible rfl
                        rotate_left
                        · simp only [Act.put, List.setIfInBounds_toArray, List.set_cons_zero, List.set_cons_succ, i64_w, i32_w]
                          rfl
                        refine pure_ (i := 9) (N := some 73) (v := ?_) (a' := ?_) #[true, true, true, true, true, true, true, true, true, true, false, false, false] rfl rfl (any_of HT_.out (by kernel_rfl)) (fun _ _ _ h => h) (Or.inl ⟨by rfl, ?_⟩) ?_ ?_
                        rotate_left
                        · intro w'
                          go_simp
                          with_reducible rfl
                        rotate_left
                        · simp only [Act.put, List.setIfInBounds_toArray, List.set_cons_zero, List.set_cons_succ, i64_w, i32_w]
                          rfl
                        refine last_ (i := 10) (N := some 74) #[true, true, true, true, true, true, true, true, true, true, true, false, false] rfl rfl (one_of HT_.out (by kernel_rfl)) (by decide) (fun K hK => ?_)
                        refine value_ (w1 := ?_) (v := ?_) (by rfl) rfl ?_ ?_
                        rotate_left 2
                        · go_simp
                          constructor
                          · rfl
                          · rfl
                        refine hK.out _ _ ?_
                        clear hK K
                        refine norm_ (a' := ?_) ?_ ?_
                        rotate_left
                        · show Act.put _ (some 74) _ = _
                          simp only [Act.put, List.setIfInBounds_toArray, List.set_cons_zero, List.set_cons_succ, i64_w, i32_w]
                          rfl
                        refine last_ (i := 11) (N := some 75) #[true, true, true, true, true, true, true, true, true, true, true, true, false] rfl rfl (one_of HT_.out (by kernel_rfl)) (by decide) (fun K hK => ?_)
                        refine Kd.R_append_step k82 (w0 := w) w.heap.size (by rfl) (.tmp 64) (.tmp 74) 30 82 (.agg #[(.string ⟨#[]⟩), (.string ⟨#[]⟩), (.string ⟨#[]⟩), (.bool false), (.bool false)]) 56 rfl Try.underlying30 info82 rfl (by decide) (by omega) u5 x5_1 (⟨(rd_T76 x0_1 0).f0, (rd_T76 x0_1 0).f1, (⟨#[]⟩ : ByteArray), true, false⟩ : S82) [.string ((rd_T76 x0_1 0).f0), .string ((rd_T76 x0_1 0).f1), .string (⟨#[]⟩ : ByteArray), .bool true, .bool false] (fun k_ => (w.heap.size ≤ k_)) (fun _ => False) rfl rfl ?aP (fun _ hk => hk.elim) ?aF ?aO ?aB ?aS ?aL ?_
                        (case aP => exact k82_mkM _ _ _ (⟨(rd_T76 x0_1 0).f0, (rd_T76 x0_1 0).f1, (⟨#[]⟩ : ByteArray), true, false⟩ : S82))
                        (case aB => exact (by repeat (first | (with_reducible first | exact HB.out | apply below_alloc | apply pw_below_drewN | apply below_drew1) | exact HB.out)))
                        (case aF => exact (fun k_ hk => (Nat.le_trans (below_size (by repeat (first | (with_reducible first | exact HB.out | apply below_alloc | apply pw_below_drewN | apply below_drew1) | exact HB.out))) hk)))
                        (case aO => exact (by (with_reducible repeat (first | apply Kd.R_alloc | apply Kd.R_drewN | apply Kd.R_drew)); exact HO_5.out))
                        (case aS => exact (below_size (by repeat (first | (with_reducible first | exact HB.out | apply below_alloc | apply pw_below_drewN | apply below_drew1) | exact HB.out))))
                        (case aL => have := LMc26.out; omega)
                        intro v219 w30 ho hb hg hat
                        rw [← Ny218.out] at ho
                        have n0_ := Aside0.mk (Kd.V_afterv (ok := (fun k_ => ((P0_ k_ ∨ P1_ k_) ∨ w.heap.size ≤ k_))) (by (with_reducible repeat (first | apply Kd.V_alloc | apply Kd.V_drewN | apply Kd.V_drew)); exact HO_0.out) hg hat)
                        have n1_ := Aside0.mk (Kd.V_afterv (ok := (fun k_ => ((P0_ k_ ∨ P1_ k_) ∨ w.heap.size ≤ k_))) (by (with_reducible repeat (first | apply Kd.V_alloc | apply Kd.V_drewN | apply Kd.V_drew)); exact HO_1.out) hg hat)
                        have n2_ := Aside0.mk (hb)
                        have n3_ := Aside0.mk (ho)
                        clear HO_0
                        clear HO_1
                        clear HB
                        clear HO_5
                        have HO_0 := n0_
                        have HO_1 := n1_
                        have HB := n2_
                        have HO220 := n3_
                        clear n0_ n1_ n2_ n3_
                        clear ho hb hg hat
                        refine hK.out _ _ ?_
                        clear hK K
                        refine norm_ (a' := ?_) ?_ ?_
                        rotate_left
                        · show Act.put _ (some 75) _ = _
                          simp only [Act.put, List.setIfInBounds_toArray, List.set_cons_zero, List.set_cons_succ, i64_w, i32_w]
                          rfl
                        refine pure_ (i := 12) (N := some 5) (v := ?_) (a' := ?_) #[true, true, true, true, true, true, true, true, true, true, true, true, true] rfl rfl (any_of HT_.out (by kernel_rfl)) (fun _ _ _ h => h) (Or.inl ⟨by rfl, ?_⟩) ?_ ?_
                        rotate_left
                        · intro w'
                          go_simp
                          with_reducible rfl
                        rotate_left
                        · simp only [Act.put, List.setIfInBounds_toArray, List.set_cons_zero, List.set_cons_succ, i64_w, i32_w]
                          rfl
                        refine done_ (done_of HT_.out (by kernel_rfl)) ?_
                        have q31 : (1 : Int) ≤ ((x0_1.length : Int) : Int) := of_decide_eq_true (by first | (with_reducible assumption) | assumption)
                        obtain ⟨i031, hi031, _, hsz31, _⟩ := info_parts info76
                        have hroom31 : x0_1.length ≤ co29 := (Kd.V_reads' HO_0.out).2.1
                        have hC31 : Kd.F k76 _ _ (some ad216) x0_1.length x0_1 := (Kd.V_at (base := w.heap.size) HO_0.out).2.2
                        have hcut31 := cut_from (P := Try.prog) 26 76 .i64 Try.underlying26 hi031 2 hsz31 (some ad216) x0_1.length co29 1 (by omega) q31
                        have hr31 := Kd.F_cut (m := (1 : Int).toNat) (c := co29) hC31 (by omega) hroom31
                        obtain ⟨A31, hA31⟩ : ∃ A1, A1 = (if co29 = (1 : Int).toNat then (some ad216) else ((some ad216) : Option Addr).map (·.add ((1 : Int).toNat * 2))) := ⟨_, rfl⟩
                        obtain ⟨c31, hc31⟩ : ∃ c1, c1 = co29 - (1 : Int).toNat := ⟨_, rfl⟩
                        have hy31 : y221.length = x0_1.length - (1 : Int).toNat := (by rw [Ny221.out, List.length_drop] <;> omega)
                        rw [show (x0_1).drop (1 : Int).toNat = y221 from Ny221.out.symm] at hr31
                        replace hr31 : Kd.F k76 _ _ A31 y221.length y221 := (by rw [hA31]; exact hr31)
                        rw [← hy31, ← hA31, ← hc31] at hcut31
                        have HO225 := Aside0.mk (show Kd.V k76 76 _ w.heap.size _ (.slice A31 y221.length c31) y221 from Kd.V_mk (by rw [hy31, hc31]; exact Nat.sub_le_sub_right hroom31 _) hr31)
                        have HC225 := Aside0.mk (show y221.length ≤ c31 from by rw [hy31, hc31]; exact Nat.sub_le_sub_right hroom31 _)
                        clear hr31 hC31 hroom31 hi031 hsz31 hc31
                        have KY31 := Aside0.mk hy31
                        have KA31 := Aside0.mk hA31
                        clear hy31 hA31
                        replace q31 := eq_true q31
                        try go_wp2
                        go_roundg kj10
                        case measure => have := HK1.out; have := HJ4.out; have := HJ10.out; omega
                        case rel => exact ⟨(y221), (x1_1), (y218), H', ⟨by have := HK1.out; have := HJ4.out; have := HJ10.out; omega⟩, ⟨by (with_reducible repeat (first | apply Kd.V_alloc | apply Kd.V_drewN | apply Kd.V_drew)); exact HO225.out⟩, ⟨by (with_reducible repeat (first | apply Kd.V_alloc | apply Kd.V_drewN | apply Kd.V_drew)); exact HO_1.out⟩, ⟨by (with_reducible repeat (first | apply Kd.R_alloc | apply Kd.R_drewN | apply Kd.R_drew)); exact HO220.out⟩, ⟨by repeat (first | (with_reducible first | exact HB.out | apply below_alloc | apply pw_below_drewN | apply below_drew1) | exact HB.out)⟩⟩
                      · rw [if_neg c27] at H
                        exact absurd H (by simp)
                    · rw [if_neg c26] at H
                      exact absurd H (by simp)
                  · rw [if_neg c25] at H
                    exact absurd H (by simp)
                · replace c24 := Bool.eq_false_iff.mpr c24
                  subst c24
                  have H1 : (if (x0_1.length : Int) = 0 then (impl_diffs.j3 kj10 x0_1 x1_1 x5_1 true) else (if 0 < (x1_1.length : Int) then (if 0 < (x0_1.length : Int) then (impl_diffs.j3 kj10 x0_1 x1_1 x5_1 (Op.bytesLess (((rd_T76 x1_1 0).f0).toList) (((rd_T76 x0_1 0).f0).toList))) else (none)) else (none))) = some r := by rw [if_neg (show ¬ (false = true) by decide)] at H; exact H
                  clear H
                  have H := H1
                  clear H1
                  have HC32 := Aside0.mk H
                  clear H
                  go_upto_region 9 with (fail)
                  go_cut [78] (fun v78 wc => ∃ (kq : Nat) (x78_31 : Bool), v78 = .bool x78_31 ∧ Aside0 (impl_diffs.j3 kq x0_1 x1_1 x5_1 x78_31 = some r) ∧ Aside0 (kq ≤ kj10) ∧ Aside0 (Kd.V k76 76 wc w.heap.size (fun k_ => ((P0_ k_ ∨ P1_ k_) ∨ w.heap.size ≤ k_) ∧ some k_ ≠ (u5 : Value).ownBlock) u0 x0_1) ∧ Aside0 (Kd.V k76 76 wc w.heap.size (fun k_ => ((P0_ k_ ∨ P1_ k_) ∨ w.heap.size ≤ k_) ∧ some k_ ≠ (u5 : Value).ownBlock) u1 x1_1) ∧ Aside0 (Kd.R k82 82 wc w.heap.size (fun k_ => (w.heap.size ≤ k_)) u5 x5_1) ∧ Aside0 (Below w.heap.size w wc))
                  case first =>
                    have H := HC32.out
                    clear HC32
                    by_cases c33 : (x0_1.length : Int) = 0
                    · rw [if_pos c33] at H
                      have c33b0 : ((x0_1.length : Int) == 0) = true := beq_iff_eq.mpr c33
                      have c33b1 : ((x0_1.length : Int) != 0) = false := bne_eq_false_iff_eq.mpr c33
                      clear c33
                      (first | rw [c33b0] | (simp only [i64_w, i32_w]; rw [c33b0]) | skip)
                      have H' := Aside0.mk H
                      clear H
                      try go_wp2
                      have n0_ := Aside0.mk (Kd.V_drew HO_0.out)
                      have n1_ := Aside0.mk (Kd.V_drew HO_1.out)
                      have n2_ := Aside0.mk (Kd.R_drew HO_5.out)
                      have n3_ := Aside0.mk (below_drew1 HB.out)
                      clear HO_0
                      clear HO_1
                      clear HO_5
                      clear HB
                      have HO_0 := n0_
                      have HO_1 := n1_
                      have HO_5 := n2_
                      have HB := n3_
                      clear n0_ n1_ n2_ n3_
                      obtain ⟨Ao35, co35, eo35⟩ := Kd.V_slice HO_0.out
                      (first | subst eo35 | (injection eo35 with f1_ f2_ f3_; have f4_ := f1_.symm; have f5_ := f3_.symm; clear f1_ f2_ f3_; subst f4_; subst f5_))
                      refine wp_region_later (by kernel_rfl) (by kernel_rfl) ?_
                      generalize wc.drew = w34b at HO_0 HO_1 HO_5 HB ⊢
                      repeat (first | go_big_quiet_step (fail) | quiet_step (fail))
                      refine wpQuiet_nil ?_
                      rintro w34 ⟨⟨wq_, hbL⟩, hq_⟩
                      have hq2_ : w34 = wq_ := hq_
                      clear hq_
                      subst hq2_
                      have nHO_0_ := by first | exact Aside0.mk (below_step HO_0.out hbL) | exact Aside0.mk (Kd.R_below HO_0.out hbL) | exact Aside0.mk (Kd.S_below HO_0.out hbL) | exact Aside0.mk (Kd.N_below HO_0.out hbL) | exact Aside0.mk (Kd.V_below HO_0.out hbL) | exact Aside0.mk (Kd.Q_below HO_0.out hbL) | exact Aside0.mk (Kd.C_below HO_0.out hbL) | exact Aside0.mk ((hbL.block _ (blk_lt HO_0.out)).trans HO_0.out)
                      have nHO_1_ := by first | exact Aside0.mk (below_step HO_1.out hbL) | exact Aside0.mk (Kd.R_below HO_1.out hbL) | exact Aside0.mk (Kd.S_below HO_1.out hbL) | exact Aside0.mk (Kd.N_below HO_1.out hbL) | exact Aside0.mk (Kd.V_below HO_1.out hbL) | exact Aside0.mk (Kd.Q_below HO_1.out hbL) | exact Aside0.mk (Kd.C_below HO_1.out hbL) | exact Aside0.mk ((hbL.block _ (blk_lt HO_1.out)).trans HO_1.out)
                      have nHO_5_ := by first | exact Aside0.mk (below_step HO_5.out hbL) | exact Aside0.mk (Kd.R_below HO_5.out hbL) | exact Aside0.mk (Kd.S_below HO_5.out hbL) | exact Aside0.mk (Kd.N_below HO_5.out hbL) | exact Aside0.mk (Kd.V_below HO_5.out hbL) | exact Aside0.mk (Kd.Q_below HO_5.out hbL) | exact Aside0.mk (Kd.C_below HO_5.out hbL) | exact Aside0.mk ((hbL.block _ (blk_lt HO_5.out)).trans HO_5.out)
                      have nHB_ := by first | exact Aside0.mk (below_step HB.out hbL) | exact Aside0.mk (Kd.R_below HB.out hbL) | exact Aside0.mk (Kd.S_below HB.out hbL) | exact Aside0.mk (Kd.N_below HB.out hbL) | exact Aside0.mk (Kd.V_below HB.out hbL) | exact Aside0.mk (Kd.Q_below HB.out hbL) | exact Aside0.mk (Kd.C_below HB.out hbL) | exact Aside0.mk ((hbL.block _ (blk_lt HB.out)).trans HB.out)
                      clear HO_0
                      clear HO_1
                      clear HO_5
                      clear HB
                      have HO_0 := nHO_0_
                      have HO_1 := nHO_1_
                      have HO_5 := nHO_5_
                      have HB := nHB_
                      clear nHO_0_
                      clear nHO_1_
                      clear nHO_5_
                      clear nHB_
                      clear hbL
                      try go_wp2
                      go_meet
                      case rel => exact ⟨_, (true), (by first | rfl | (simp; done) | (simp [*]; done)), H', ⟨by have := HK1.out; have := HJ4.out; have := HJ10.out; first | omega | exact Nat.le_refl _⟩, ⟨by (with_reducible repeat (first | apply Kd.V_alloc | apply Kd.V_drewN | apply Kd.V_drew)); exact HO_0.out⟩, ⟨by (with_reducible repeat (first | apply Kd.V_alloc | apply Kd.V_drewN | apply Kd.V_drew)); exact HO_1.out⟩, ⟨by (with_reducible repeat (first | apply Kd.R_alloc | apply Kd.R_drewN | apply Kd.R_drew)); exact HO_5.out⟩, ⟨by repeat (first | (with_reducible first | exact HB.out | apply below_alloc | apply pw_below_drewN | apply below_drew1) | exact HB.out)⟩⟩
                    · rw [if_neg c33] at H
                      have c33b0 : ((x0_1.length : Int) == 0) = false := beq_eq_false_iff_ne.mpr c33
                      have c33b1 : ((x0_1.length : Int) != 0) = true := bne_iff_ne.mpr c33
                      have c33b2 : ¬ (x0_1 = []) := fun h_ => c33 (by rw [h_]; rfl)
                      (first | rw [c33b0] | (simp only [i64_w, i32_w]; rw [c33b0]) | skip)
                      by_cases c36 : 0 < (x1_1.length : Int)
                      · rw [if_pos c36] at H
                        have c36b0 : decide (0 < (x1_1.length : Int)) = true := decide_eq_true c36
                        have c36b1 : decide (0 < x1_1.length) = true := decide_eq_true (by omega)
                        clear c36
                        by_cases c37 : 0 < (x0_1.length : Int)
                        · rw [if_pos c37] at H
                          have c37b0 : decide (0 < (x0_1.length : Int)) = true := decide_eq_true c37
                          have c37b1 : decide (0 < x0_1.length) = true := decide_eq_true (by omega)
                          clear c37
                          have H' := Aside0.mk H
                          clear H
                          try go_wp2
                          have n0_ := Aside0.mk (Kd.V_drew HO_0.out)
                          have n1_ := Aside0.mk (Kd.V_drew HO_1.out)
                          have n2_ := Aside0.mk (Kd.R_drew HO_5.out)
                          have n3_ := Aside0.mk (below_drew1 HB.out)
                          clear HO_0
                          clear HO_1
                          clear HO_5
                          clear HB
                          have HO_0 := n0_
                          have HO_1 := n1_
                          have HO_5 := n2_
                          have HB := n3_
                          clear n0_ n1_ n2_ n3_
                          obtain ⟨Ao39, co39, eo39⟩ := Kd.V_slice HO_0.out
                          (first | subst eo39 | (injection eo39 with f1_ f2_ f3_; have f4_ := f1_.symm; have f5_ := f3_.symm; clear f1_ f2_ f3_; subst f4_; subst f5_))
                          obtain ⟨Ao40, co40, eo40⟩ := Kd.V_slice HO_1.out
                          (first | subst eo40 | (injection eo40 with f1_ f2_ f3_; have f4_ := f1_.symm; have f5_ := f3_.symm; clear f1_ f2_ f3_; subst f4_; subst f5_))
                          have p226 : 0 ≤ (0 : Int) := (by omega)
                          have q226 : 0 < (x1_1.length : Int) := of_decide_eq_true (by first | (with_reducible assumption) | assumption)
                          obtain ⟨ad226, e226, hx226_0, hx226_1⟩ := at_T76 (Kd.V_reads' HO_1.out).2.2 0 p226 q226
                          cases e226
                          have qi226 : (0 < x1_1.length) = True := eq_true (by omega)
                          (try rw [show ((0 : Int)).toNat = 0 from rfl] at hx226_0)
                          (try rw [show 0 * 2 = 0 from rfl] at hx226_0)
                          (try rw [Addr.add_zero'] at hx226_0)
                          (try rw [show ((0 : Int)).toNat = 0 from rfl] at hx226_1)
                          (try rw [show 0 * 2 = 0 from rfl] at hx226_1)
                          (try rw [Addr.add_zero'] at hx226_1)
                          replace p226 := eq_true p226
                          replace q226 := eq_true q226
                          have p227 : 0 ≤ (0 : Int) := (by omega)
                          have q227 : 0 < (x0_1.length : Int) := of_decide_eq_true (by first | (with_reducible assumption) | assumption)
                          obtain ⟨ad227, e227, hx227_0, hx227_1⟩ := at_T76 (Kd.V_reads' HO_0.out).2.2 0 p227 q227
                          cases e227
                          have qi227 : (0 < x0_1.length) = True := eq_true (by omega)
                          (try rw [show ((0 : Int)).toNat = 0 from rfl] at hx227_0)
                          (try rw [show 0 * 2 = 0 from rfl] at hx227_0)
                          (try rw [Addr.add_zero'] at hx227_0)
                          (try rw [show ((0 : Int)).toNat = 0 from rfl] at hx227_1)
                          (try rw [show 0 * 2 = 0 from rfl] at hx227_1)
                          (try rw [Addr.add_zero'] at hx227_1)
                          replace p227 := eq_true p227
                          replace q227 := eq_true q227
                          refine wp_region_later (by kernel_rfl) (by kernel_rfl) ?_
                          have hL0_ := Aside0.mk (show wc.drew.cell? ad226 = some (.string ((rd_T76 x1_1 0).f0)) from hx226_0)
                          have hL1_ := Aside0.mk (show wc.drew.cell? ⟨ad226.block, ad226.off + 1, none⟩ = some (.string ((rd_T76 x1_1 0).f1)) from hx226_1)
                          have hL2_ := Aside0.mk (show wc.drew.cell? ad227 = some (.string ((rd_T76 x0_1 0).f0)) from hx227_0)
                          have hL3_ := Aside0.mk (show wc.drew.cell? ⟨ad227.block, ad227.off + 1, none⟩ = some (.string ((rd_T76 x0_1 0).f1)) from hx227_1)
                          generalize wc.drew = w38b at HO_0 HO_1 HO_5 HB hx226_0 hx226_1 hx227_0 hx227_1 hL0_ hL1_ hL2_ hL3_ ⊢
                          clear hx226_0 hx226_1 hx227_0 hx227_1
                          have hL0 := fun (p_ : Later w38b) => (show p_.val.cell? ad226 = some (.string ((rd_T76 x1_1 0).f0)) from Later.cell p_ hL0_.out)
                          have hL1 := fun (p_ : Later w38b) => (show p_.val.cell? ⟨ad226.block, ad226.off + 1, none⟩ = some (.string ((rd_T76 x1_1 0).f1)) from Later.cell p_ hL1_.out)
                          have hL2 := fun (p_ : Later w38b) => (show p_.val.cell? ad227 = some (.string ((rd_T76 x0_1 0).f0)) from Later.cell p_ hL2_.out)
                          have hL3 := fun (p_ : Later w38b) => (show p_.val.cell? ⟨ad227.block, ad227.off + 1, none⟩ = some (.string ((rd_T76 x0_1 0).f1)) from Later.cell p_ hL3_.out)
                          clear hL0_ hL1_ hL2_ hL3_
                          repeat (first | go_big_quiet_step (fail) | quiet_step (fail))
                          refine wpQuiet_nil ?_
                          rintro w38 ⟨⟨wq_, hbL⟩, hq_⟩
                          have hq2_ : w38 = wq_ := hq_
                          clear hq_
                          subst hq2_
                          clear hL0 hL1 hL2 hL3
                          have nHO_0_ := by first | exact Aside0.mk (below_step HO_0.out hbL) | exact Aside0.mk (Kd.R_below HO_0.out hbL) | exact Aside0.mk (Kd.S_below HO_0.out hbL) | exact Aside0.mk (Kd.N_below HO_0.out hbL) | exact Aside0.mk (Kd.V_below HO_0.out hbL) | exact Aside0.mk (Kd.Q_below HO_0.out hbL) | exact Aside0.mk (Kd.C_below HO_0.out hbL) | exact Aside0.mk ((hbL.block _ (blk_lt HO_0.out)).trans HO_0.out)
                          have nHO_1_ := by first | exact Aside0.mk (below_step HO_1.out hbL) | exact Aside0.mk (Kd.R_below HO_1.out hbL) | exact Aside0.mk (Kd.S_below HO_1.out hbL) | exact Aside0.mk (Kd.N_below HO_1.out hbL) | exact Aside0.mk (Kd.V_below HO_1.out hbL) | exact Aside0.mk (Kd.Q_below HO_1.out hbL) | exact Aside0.mk (Kd.C_below HO_1.out hbL) | exact Aside0.mk ((hbL.block _ (blk_lt HO_1.out)).trans HO_1.out)
                          have nHO_5_ := by first | exact Aside0.mk (below_step HO_5.out hbL) | exact Aside0.mk (Kd.R_below HO_5.out hbL) | exact Aside0.mk (Kd.S_below HO_5.out hbL) | exact Aside0.mk (Kd.N_below HO_5.out hbL) | exact Aside0.mk (Kd.V_below HO_5.out hbL) | exact Aside0.mk (Kd.Q_below HO_5.out hbL) | exact Aside0.mk (Kd.C_below HO_5.out hbL) | exact Aside0.mk ((hbL.block _ (blk_lt HO_5.out)).trans HO_5.out)
                          have nHB_ := by first | exact Aside0.mk (below_step HB.out hbL) | exact Aside0.mk (Kd.R_below HB.out hbL) | exact Aside0.mk (Kd.S_below HB.out hbL) | exact Aside0.mk (Kd.N_below HB.out hbL) | exact Aside0.mk (Kd.V_below HB.out hbL) | exact Aside0.mk (Kd.Q_below HB.out hbL) | exact Aside0.mk (Kd.C_below HB.out hbL) | exact Aside0.mk ((hbL.block _ (blk_lt HB.out)).trans HB.out)
                          clear HO_0
                          clear HO_1
                          clear HO_5
                          clear HB
                          have HO_0 := nHO_0_
                          have HO_1 := nHO_1_
                          have HO_5 := nHO_5_
                          have HB := nHB_
                          clear nHO_0_
                          clear nHO_1_
                          clear nHO_5_
                          clear nHB_
                          clear hbL
                          try go_wp2
                          go_meet
                          case rel => exact ⟨_, ((Op.bytesLess (((rd_T76 x1_1 0).f0).toList) (((rd_T76 x0_1 0).f0).toList))), (by first | rfl | (simp; done) | (simp [*]; done)), H', ⟨by have := HK1.out; have := HJ4.out; have := HJ10.out; first | omega | exact Nat.le_refl _⟩, ⟨by (with_reducible repeat (first | apply Kd.V_alloc | apply Kd.V_drewN | apply Kd.V_drew)); exact HO_0.out⟩, ⟨by (with_reducible repeat (first | apply Kd.V_alloc | apply Kd.V_drewN | apply Kd.V_drew)); exact HO_1.out⟩, ⟨by (with_reducible repeat (first | apply Kd.R_alloc | apply Kd.R_drewN | apply Kd.R_drew)); exact HO_5.out⟩, ⟨by repeat (first | (with_reducible first | exact HB.out | apply below_alloc | apply pw_below_drewN | apply below_drew1) | exact HB.out)⟩⟩
                        · rw [if_neg c37] at H
                          exact absurd H (by simp)
                      · rw [if_neg c36] at H
                        exact absurd H (by simp)
                  case rest =>
                    clear HC32
                    try clear c1
                    try clear c2
                    try clear p2
                    try clear q2
                    try clear hx2
                    try clear qi2
                    try clear c3
                    try clear q3
                    try clear c5
                    try clear c6
                    try clear c6b0
                    try clear c6b1
                    try clear c10
                    try clear c12
                    try clear c12b0
                    try clear c12b1
                    try clear c12b2
                    try clear c15
                    try clear c15b0
                    try clear c15b1
                    try clear c16
                    try clear c16b0
                    try clear c16b1
                    try clear c17
                    try clear c17b0
                    try clear c17b1
                    try clear p21
                    try clear q21
                    try clear hx21
                    try clear qi21
                    try clear p22
                    try clear q22
                    try clear hx22
                    try clear qi22
                    try clear c24
                    try clear c25
                    try clear c25b0
                    try clear c25b1
                    try clear c26
                    try clear c27
                    try clear c27b0
                    try clear c27b1
                    try clear c31
                    try clear q31
                    try clear c33
                    try clear c33b0
                    try clear c33b1
                    try clear c33b2
                    try clear c36
                    try clear c36b0
                    try clear c36b1
                    try clear c37
                    try clear c37b0
                    try clear c37b1
                    try clear hx214_0
                    try clear hx214_1
                    try clear hx215_0
                    try clear hx215_1
                    try clear hx216_0
                    try clear hx216_1
                    try clear hx217_0
                    try clear hx217_1
                    try clear hx226_0
                    try clear hx226_1
                    try clear hx227_0
                    try clear hx227_1
                    try clear p2
                    try clear p21
                    try clear p214
                    try clear p215
                    try clear p216
                    try clear p217
                    try clear p226
                    try clear p227
                    try clear q2
                    try clear q21
                    try clear q214
                    try clear q215
                    try clear q216
                    try clear q217
                    try clear q226
                    try clear q227
                    try clear q31
                    obtain ⟨kq, x78_31, rfl, HA, HJ31, HO_0, HO_1, HO_5, HB⟩ := hcut
                    cases kq with
                    | zero => exact absurd HA.out (by simp [impl_diffs.j3])
                    | succ kj31 =>
                      have H := HA.out
                      clear HA
                      simp only [impl_diffs.j3] at H
                      by_cases c41 : x78_31 = true
                      · subst c41
                        have H1 : (if 0 < (x1_1.length : Int) then (if x5_1.length < 2513169434916 then (if 1 ≤ (x1_1.length : Int) then (impl_diffs.l0 kj31 x0_1 (x1_1.drop 1) (x5_1 ++ [(⟨(rd_T76 x1_1 0).f0, (⟨#[]⟩ : ByteArray), (rd_T76 x1_1 0).f1, false, true⟩ : S82)])) else (none)) else (none)) else (none)) = some r := by rw [if_pos rfl] at H; exact H
                        clear H
                        have H := H1
                        clear H1
                        by_cases c42 : 0 < (x1_1.length : Int)
                        · rw [if_pos c42] at H
                          have c42b0 : decide (0 < (x1_1.length : Int)) = true := decide_eq_true c42
                          have c42b1 : decide (0 < x1_1.length) = true := decide_eq_true (by omega)
                          clear c42
                          by_cases c43 : x5_1.length < 2513169434916
                          · rw [if_pos c43] at H
                            have LMc43 := Aside0.mk c43
                            clear c43
                            obtain ⟨y230, hy230⟩ : ∃ y_ : List (S82), y_ = (x5_1 ++ [(⟨(rd_T76 x1_1 0).f0, (⟨#[]⟩ : ByteArray), (rd_T76 x1_1 0).f1, false, true⟩ : S82)]) := ⟨_, rfl⟩
                            replace H : (if 1 ≤ (x1_1.length : Int) then (impl_diffs.l0 kj31 x0_1 (x1_1.drop 1) y230) else (none)) = some r := by first | (rw [hy230]; with_reducible exact H) | (have H2_ := (Option.bind_some _ _).symm.trans H; rw [hy230]; with_reducible exact H2_) | (have H2_ := (Option.bind_some _ _).symm.trans H; with_reducible exact H2_) | with_reducible exact H | (rw [hy230]; exact H) | exact H
                            have Ny230 := Aside0.mk hy230
                            clear hy230
                            by_cases c44 : 1 ≤ (x1_1.length : Int)
                            · rw [if_pos c44] at H
                              have c44b0 := eq_true c44
                              have c44b1 : decide (1 ≤ (x1_1.length : Int)) = true := decide_eq_true c44
                              clear c44
                              obtain ⟨y233, hy233⟩ : ∃ y_ : List (S76), y_ = (x1_1.drop 1) := ⟨_, rfl⟩
                              replace H : (impl_diffs.l0 kj31 x0_1 y233 y230) = some r := by first | (rw [hy233]; with_reducible exact H) | (have H2_ := (Option.bind_some _ _).symm.trans H; rw [hy233]; with_reducible exact H2_) | (have H2_ := (Option.bind_some _ _).symm.trans H; with_reducible exact H2_) | with_reducible exact H | (rw [hy233]; exact H) | exact H
                              have Ny233 := Aside0.mk hy233
                              clear hy233
                              have H' := Aside0.mk H
                              clear H
                              try go_wp2
                              have n0_ := Aside0.mk (Kd.V_drew HO_0.out)
                              have n1_ := Aside0.mk (Kd.V_drew HO_1.out)
                              have n2_ := Aside0.mk (Kd.R_drew HO_5.out)
                              have n3_ := Aside0.mk (below_drew1 HB.out)
                              clear HO_0
                              clear HO_1
                              clear HO_5
                              clear HB
                              have HO_0 := n0_
                              have HO_1 := n1_
                              have HO_5 := n2_
                              have HB := n3_
                              clear n0_ n1_ n2_ n3_
                              obtain ⟨Ao46, co46, eo46⟩ := Kd.V_slice HO_1.out
                              (first | subst eo46 | (injection eo46 with f1_ f2_ f3_; have f4_ := f1_.symm; have f5_ := f3_.symm; clear f1_ f2_ f3_; subst f4_; subst f5_))
                              have p228 : 0 ≤ (0 : Int) := (by omega)
                              have q228 : 0 < (x1_1.length : Int) := of_decide_eq_true (by first | (with_reducible assumption) | assumption)
                              obtain ⟨ad228, e228, hx228_0, hx228_1⟩ := at_T76 (Kd.V_reads' HO_1.out).2.2 0 p228 q228
                              cases e228
                              have qi228 : (0 < x1_1.length) = True := eq_true (by omega)
                              (try rw [show ((0 : Int)).toNat = 0 from rfl] at hx228_0)
                              (try rw [show 0 * 2 = 0 from rfl] at hx228_0)
                              (try rw [Addr.add_zero'] at hx228_0)
                              (try rw [show ((0 : Int)).toNat = 0 from rfl] at hx228_1)
                              (try rw [show 0 * 2 = 0 from rfl] at hx228_1)
                              (try rw [Addr.add_zero'] at hx228_1)
                              replace p228 := eq_true p228
                              replace q228 := eq_true q228
                              have p229 : 0 ≤ (0 : Int) := (by omega)
                              have q229 : 0 < (x1_1.length : Int) := of_decide_eq_true (by first | (with_reducible assumption) | assumption)
                              obtain ⟨ad229, e229, hx229_0, hx229_1⟩ := at_T76 (Kd.V_reads' HO_1.out).2.2 0 p229 q229
                              obtain rfl : ad228 = ad229 := (by injection e229)
                              have qi229 : (0 < x1_1.length) = True := eq_true (by omega)
                              (try rw [show ((0 : Int)).toNat = 0 from rfl] at hx229_0)
                              (try rw [show 0 * 2 = 0 from rfl] at hx229_0)
                              (try rw [Addr.add_zero'] at hx229_0)
                              (try rw [show ((0 : Int)).toNat = 0 from rfl] at hx229_1)
                              (try rw [show 0 * 2 = 0 from rfl] at hx229_1)
                              (try rw [Addr.add_zero'] at hx229_1)
                              replace p229 := eq_true p229
                              replace q229 := eq_true q229
                              refine start_ (n := 13) (S := fun w' => w'.cell? ad228 = some (.string ((rd_T76 x1_1 0).f0)) ∧ w'.cell? ⟨ad228.block, ad228.off + 1, none⟩ = some (.string ((rd_T76 x1_1 0).f1)) ∧ w'.cell? ad228 = some (.string ((rd_T76 x1_1 0).f0)) ∧ w'.cell? ⟨ad228.block, ad228.off + 1, none⟩ = some (.string ((rd_T76 x1_1 0).f1))) (ds := [10, 11]) #[false, false, false, false, false, false, false, false, false, false, false, false, false] (by kernel_rfl) rfl rfl ⟨hx228_0, hx228_1, hx229_0, hx229_1⟩ (fun hHeld => ?_); refine with_tabW impl_diffs.tab10 impl_diffs.bits10 (fun HT_ HW_ => ?_)
                              generalize wc.drew = w45 at HO_0 HO_1 HO_5 HB hx228_0 hx228_1 hx229_0 hx229_1 hHeld ⊢
                              refine pure_ (i := 0) (N := some 93) (v := ?_) (a' := ?_) #[true, false, false, false, false, false, false, false, false, false, false, false, false] rfl rfl (any_of HT_.out (by kernel_rfl)) (fun _ _ _ h => h) (Or.inl ⟨by rfl, ?_⟩) ?_ ?_
                              rotate_left
                              · intro w'
                                go_simp
                                with_reducible rfl
                              rotate_left
                              · simp only [Act.put, List.setIfInBounds_toArray, List.set_cons_zero, List.set_cons_succ, i64_w, i32_w]
                                rfl
                              refine pure_ (i := 1) (N := some 94) (v := ?_) (a' := ?_) #[true, true, false, false, false, false, false, false, false, false, false, false, false] rfl rfl (any_of HT_.out (by kernel_rfl)) (fun _ _ _ h => h) (Or.inl ⟨by rfl, ?_⟩) ?_ ?_
                              rotate_left
                              · intro w'
                                go_simp
                                with_reducible rfl
                              rotate_left
                              · simp only [Act.put, List.setIfInBounds_toArray, List.set_cons_zero, List.set_cons_succ, i64_w, i32_w]
                                rfl
                              refine pure_ (i := 2) (N := some 95) (v := ?_) (a' := ?_) #[true, true, true, false, false, false, false, false, false, false, false, false, false] rfl rfl (any_of HT_.out (by kernel_rfl)) (fun _ _ _ h => h) (Or.inl ⟨by rfl, ?_⟩) ?_ ?_
                              rotate_left
                              · intro w'
                                go_simp
                                with_reducible rfl
                              rotate_left
                              · simp only [Act.put, List.setIfInBounds_toArray, List.set_cons_zero, List.set_cons_succ, i64_w, i32_w]
                                rfl
                              refine pure_ (i := 3) (N := some 96) (v := ?_) (a' := ?_) #[true, true, true, true, false, false, false, false, false, false, false, false, false] rfl rfl (any_of HT_.out (by kernel_rfl)) (fun _ _ _ h => h) (Or.inl ⟨by rfl, ?_⟩) ?_ ?_
                              rotate_left
                              · intro w'
                                go_simp
                                with_reducible rfl
                              rotate_left
                              · simp only [Act.put, List.setIfInBounds_toArray, List.set_cons_zero, List.set_cons_succ, i64_w, i32_w]
                                rfl
                              refine pure_ (i := 5) (N := some 98) (v := ?_) (a' := ?_) #[true, true, true, true, false, true, false, false, false, false, false, false, false] rfl rfl (any_of HT_.out (by kernel_rfl)) (fun _ _ _ h => h) (Or.inl ⟨by rfl, ?_⟩) ?_ ?_
                              rotate_left
                              · intro w'
                                go_simp
                                with_reducible rfl
                              rotate_left
                              · simp only [Act.put, List.setIfInBounds_toArray, List.set_cons_zero, List.set_cons_succ, i64_w, i32_w]
                                rfl
                              refine pure_ (i := 6) (N := some 99) (v := ?_) (a' := ?_) #[true, true, true, true, false, true, true, false, false, false, false, false, false] rfl rfl (any_of HT_.out (by kernel_rfl)) (fun _ _ _ h => h) (Or.inl ⟨by rfl, ?_⟩) ?_ ?_
                              rotate_left
                              · intro w'
                                go_simp
                                with_reducible rfl
                              rotate_left
                              · simp only [Act.put, List.setIfInBounds_toArray, List.set_cons_zero, List.set_cons_succ, i64_w, i32_w]
                                rfl
                              refine pure_ (i := 7) (N := some 100) (v := ?_) (a' := ?_) #[true, true, true, true, false, true, true, true, false, false, false, false, false] rfl rfl (any_of HT_.out (by kernel_rfl)) (fun _ _ _ h => h) (Or.inl ⟨by rfl, ?_⟩) ?_ ?_
                              rotate_left
                              · intro w'
                                go_simp
                                with_reducible rfl
                              rotate_left
                              · simp only [Act.put, List.setIfInBounds_toArray, List.set_cons_zero, List.set_cons_succ, i64_w, i32_w]
                                rfl
                              refine take_ (i := 4) (N := some 97) (v := ?_) (a' := ?_) #[true, true, true, true, true, true, true, true, false, false, false, false, false] rfl rfl (take_ofW HT_.out HW_.out (by kernel_rfl)) (fun _ _ _ h => h) (Or.inl ⟨by rfl, ?_⟩) hHeld ?_ ?_
                              rotate_left
                              · rintro w' ⟨s0, s1, s2, s3⟩
                                go_simp
                                with_reducible rfl
                              rotate_left
                              · simp only [Act.put, List.setIfInBounds_toArray, List.set_cons_zero, List.set_cons_succ, i64_w, i32_w]
                                rfl
                              refine take_ (i := 8) (N := some 101) (v := ?_) (a' := ?_) #[true, true, true, true, true, true, true, true, true, false, false, false, false] rfl rfl (take_ofW HT_.out HW_.out (by kernel_rfl)) (fun _ _ _ h => h) (Or.inl ⟨by rfl, ?_⟩) hHeld ?_ ?_
                              rotate_left
                              · rintro w' ⟨s0, s1, s2, s3⟩
                                go_simp
                                with_reducible rfl
                              rotate_left
                              · simp only [Act.put, List.setIfInBounds_toArray, List.set_cons_zero, List.set_cons_succ, i64_w, i32_w]
                                rfl
                              refine pure_ (i := 9) (N := some 102) (v := ?_) (a' := ?_) #[true, true, true, true, true, true, true, true, true, true, false, false, false] rfl rfl (any_of HT_.out (by kernel_rfl)) (fun _ _ _ h => h) (Or.inl ⟨by rfl, ?_⟩) ?_ ?_
                              rotate_left
                              · intro w'
                                go_simp
                                with_reducible rfl
                              rotate_left
                              · simp only [Act.put, List.setIfInBounds_toArray, List.set_cons_zero, List.set_cons_succ, i64_w, i32_w]
                                rfl
                              refine last_ (i := 10) (N := some 103) #[true, true, true, true, true, true, true, true, true, true, true, false, false] rfl rfl (one_of HT_.out (by kernel_rfl)) (by decide) (fun K hK => ?_)
                              refine value_ (w1 := ?_) (v := ?_) (by rfl) rfl ?_ ?_
                              rotate_left 2
                              · go_simp
                                constructor
                                · rfl
                                · rfl
                              refine hK.out _ _ ?_
                              clear hK K
                              refine norm_ (a' := ?_) ?_ ?_
                              rotate_left
                              · show Act.put _ (some 103) _ = _
                                simp only [Act.put, List.setIfInBounds_toArray, List.set_cons_zero, List.set_cons_succ, i64_w, i32_w]
                                rfl
                              refine last_ (i := 11) (N := some 104) #[true, true, true, true, true, true, true, true, true, true, true, true, false] rfl rfl (one_of HT_.out (by kernel_rfl)) (by decide) (fun K hK => ?_)
                              refine Kd.R_append_step k82 (w0 := w) w.heap.size (by rfl) (.tmp 93) (.tmp 103) 30 82 (.agg #[(.string ⟨#[]⟩), (.string ⟨#[]⟩), (.string ⟨#[]⟩), (.bool false), (.bool false)]) 56 rfl Try.underlying30 info82 rfl (by decide) (by omega) u5 x5_1 (⟨(rd_T76 x1_1 0).f0, (⟨#[]⟩ : ByteArray), (rd_T76 x1_1 0).f1, false, true⟩ : S82) [.string ((rd_T76 x1_1 0).f0), .string (⟨#[]⟩ : ByteArray), .string ((rd_T76 x1_1 0).f1), .bool false, .bool true] (fun k_ => (w.heap.size ≤ k_)) (fun _ => False) rfl rfl ?aP (fun _ hk => hk.elim) ?aF ?aO ?aB ?aS ?aL ?_
                              (case aP => exact k82_mkM _ _ _ (⟨(rd_T76 x1_1 0).f0, (⟨#[]⟩ : ByteArray), (rd_T76 x1_1 0).f1, false, true⟩ : S82))
                              (case aB => exact (by repeat (first | (with_reducible first | exact HB.out | apply below_alloc | apply pw_below_drewN | apply below_drew1) | exact HB.out)))
                              (case aF => exact (fun k_ hk => (Nat.le_trans (below_size (by repeat (first | (with_reducible first | exact HB.out | apply below_alloc | apply pw_below_drewN | apply below_drew1) | exact HB.out))) hk)))
                              (case aO => exact (by (with_reducible repeat (first | apply Kd.R_alloc | apply Kd.R_drewN | apply Kd.R_drew)); exact HO_5.out))
                              (case aS => exact (below_size (by repeat (first | (with_reducible first | exact HB.out | apply below_alloc | apply pw_below_drewN | apply below_drew1) | exact HB.out))))
                              (case aL => have := LMc43.out; omega)
                              intro v231 w47 ho hb hg hat
                              rw [← Ny230.out] at ho
                              have n0_ := Aside0.mk (Kd.V_afterv (ok := (fun k_ => ((P0_ k_ ∨ P1_ k_) ∨ w.heap.size ≤ k_))) (by (with_reducible repeat (first | apply Kd.V_alloc | apply Kd.V_drewN | apply Kd.V_drew)); exact HO_0.out) hg hat)
                              have n1_ := Aside0.mk (Kd.V_afterv (ok := (fun k_ => ((P0_ k_ ∨ P1_ k_) ∨ w.heap.size ≤ k_))) (by (with_reducible repeat (first | apply Kd.V_alloc | apply Kd.V_drewN | apply Kd.V_drew)); exact HO_1.out) hg hat)
                              have n2_ := Aside0.mk (hb)
                              have n3_ := Aside0.mk (ho)
                              clear HO_0
                              clear HO_1
                              clear HB
                              clear HO_5
                              have HO_0 := n0_
                              have HO_1 := n1_
                              have HB := n2_
                              have HO232 := n3_
                              clear n0_ n1_ n2_ n3_
                              clear ho hb hg hat
                              refine hK.out _ _ ?_
                              clear hK K
                              refine norm_ (a' := ?_) ?_ ?_
                              rotate_left
                              · show Act.put _ (some 104) _ = _
                                simp only [Act.put, List.setIfInBounds_toArray, List.set_cons_zero, List.set_cons_succ, i64_w, i32_w]
                                rfl
                              refine pure_ (i := 12) (N := some 5) (v := ?_) (a' := ?_) #[true, true, true, true, true, true, true, true, true, true, true, true, true] rfl rfl (any_of HT_.out (by kernel_rfl)) (fun _ _ _ h => h) (Or.inl ⟨by rfl, ?_⟩) ?_ ?_
                              rotate_left
                              · intro w'
                                go_simp
                                with_reducible rfl
                              rotate_left
                              · simp only [Act.put, List.setIfInBounds_toArray, List.set_cons_zero, List.set_cons_succ, i64_w, i32_w]
                                rfl
                              refine done_ (done_of HT_.out (by kernel_rfl)) ?_
                              have q48 : (1 : Int) ≤ ((x1_1.length : Int) : Int) := of_decide_eq_true (by first | (with_reducible assumption) | assumption)
                              obtain ⟨i048, hi048, _, hsz48, _⟩ := info_parts info76
                              have hroom48 : x1_1.length ≤ co46 := (Kd.V_reads' HO_1.out).2.1
                              have hC48 : Kd.F k76 _ _ (some ad228) x1_1.length x1_1 := (Kd.V_at (base := w.heap.size) HO_1.out).2.2
                              have hcut48 := cut_from (P := Try.prog) 26 76 .i64 Try.underlying26 hi048 2 hsz48 (some ad228) x1_1.length co46 1 (by omega) q48
                              have hr48 := Kd.F_cut (m := (1 : Int).toNat) (c := co46) hC48 (by omega) hroom48
                              obtain ⟨A48, hA48⟩ : ∃ A1, A1 = (if co46 = (1 : Int).toNat then (some ad228) else ((some ad228) : Option Addr).map (·.add ((1 : Int).toNat * 2))) := ⟨_, rfl⟩
                              obtain ⟨c48, hc48⟩ : ∃ c1, c1 = co46 - (1 : Int).toNat := ⟨_, rfl⟩
                              have hy48 : y233.length = x1_1.length - (1 : Int).toNat := (by rw [Ny233.out, List.length_drop] <;> omega)
                              rw [show (x1_1).drop (1 : Int).toNat = y233 from Ny233.out.symm] at hr48
                              replace hr48 : Kd.F k76 _ _ A48 y233.length y233 := (by rw [hA48]; exact hr48)
                              rw [← hy48, ← hA48, ← hc48] at hcut48
                              have HO237 := Aside0.mk (show Kd.V k76 76 _ w.heap.size _ (.slice A48 y233.length c48) y233 from Kd.V_mk (by rw [hy48, hc48]; exact Nat.sub_le_sub_right hroom48 _) hr48)
                              have HC237 := Aside0.mk (show y233.length ≤ c48 from by rw [hy48, hc48]; exact Nat.sub_le_sub_right hroom48 _)
                              clear hr48 hC48 hroom48 hi048 hsz48 hc48
                              have KY48 := Aside0.mk hy48
                              have KA48 := Aside0.mk hA48
                              clear hy48 hA48
                              replace q48 := eq_true q48
                              try go_wp2
                              go_roundg kj31
                              case measure => have := HK1.out; have := HJ4.out; have := HJ10.out; have := HJ31.out; omega
                              case rel => exact ⟨(x0_1), (y233), (y230), H', ⟨by have := HK1.out; have := HJ4.out; have := HJ10.out; have := HJ31.out; omega⟩, ⟨by (with_reducible repeat (first | apply Kd.V_alloc | apply Kd.V_drewN | apply Kd.V_drew)); exact HO_0.out⟩, ⟨by (with_reducible repeat (first | apply Kd.V_alloc | apply Kd.V_drewN | apply Kd.V_drew)); exact HO237.out⟩, ⟨by (with_reducible repeat (first | apply Kd.R_alloc | apply Kd.R_drewN | apply Kd.R_drew)); exact HO232.out⟩, ⟨by repeat (first | (with_reducible first | exact HB.out | apply below_alloc | apply pw_below_drewN | apply below_drew1) | exact HB.out)⟩⟩
                            · rw [if_neg c44] at H
                              exact absurd H (by simp)
                          · rw [if_neg c43] at H
                            exact absurd H (by simp)
                        · rw [if_neg c42] at H
                          exact absurd H (by simp)
                      · replace c41 := Bool.eq_false_iff.mpr c41
                        subst c41
                        have H1 : (if 0 < (x0_1.length : Int) then (if 0 < (x1_1.length : Int) then (if ((rd_T76 x0_1 0).f1).toList = ((rd_T76 x1_1 0).f1).toList then (if 1 ≤ (x0_1.length : Int) then (if 1 ≤ (x1_1.length : Int) then (impl_diffs.l0 kj31 (x0_1.drop 1) (x1_1.drop 1) x5_1) else (none)) else (none)) else (if x5_1.length < 2513169434916 then (if 1 ≤ (x0_1.length : Int) then (if 1 ≤ (x1_1.length : Int) then (impl_diffs.l0 kj31 (x0_1.drop 1) (x1_1.drop 1) (x5_1 ++ [(⟨(rd_T76 x0_1 0).f0, (rd_T76 x0_1 0).f1, (rd_T76 x1_1 0).f1, true, true⟩ : S82)])) else (none)) else (none)) else (none))) else (none)) else (none)) = some r := by rw [if_neg (show ¬ (false = true) by decide)] at H; exact H
                        clear H
                        have H := H1
                        clear H1
                        by_cases c49 : 0 < (x0_1.length : Int)
                        · rw [if_pos c49] at H
                          have c49b0 : decide (0 < (x0_1.length : Int)) = true := decide_eq_true c49
                          have c49b1 : decide (0 < x0_1.length) = true := decide_eq_true (by omega)
                          clear c49
                          by_cases c50 : 0 < (x1_1.length : Int)
                          · rw [if_pos c50] at H
                            have c50b0 : decide (0 < (x1_1.length : Int)) = true := decide_eq_true c50
                            have c50b1 : decide (0 < x1_1.length) = true := decide_eq_true (by omega)
                            clear c50
                            by_cases c51 : ((rd_T76 x0_1 0).f1).toList = ((rd_T76 x1_1 0).f1).toList
                            · rw [if_pos c51] at H
                              have c51b0 : (((rd_T76 x0_1 0).f1).toList == ((rd_T76 x1_1 0).f1).toList) = true := beq_iff_eq.mpr c51
                              have c51b1 : (((rd_T76 x0_1 0).f1).toList != ((rd_T76 x1_1 0).f1).toList) = false := bne_eq_false_iff_eq.mpr c51
                              clear c51
                              by_cases c52 : 1 ≤ (x0_1.length : Int)
                              · rw [if_pos c52] at H
                                have c52b0 := eq_true c52
                                have c52b1 : decide (1 ≤ (x0_1.length : Int)) = true := decide_eq_true c52
                                clear c52
                                obtain ⟨y240, hy240⟩ : ∃ y_ : List (S76), y_ = (x0_1.drop 1) := ⟨_, rfl⟩
                                replace H : (if 1 ≤ (x1_1.length : Int) then (impl_diffs.l0 kj31 y240 (x1_1.drop 1) x5_1) else (none)) = some r := by first | (rw [hy240]; with_reducible exact H) | (have H2_ := (Option.bind_some _ _).symm.trans H; rw [hy240]; with_reducible exact H2_) | (have H2_ := (Option.bind_some _ _).symm.trans H; with_reducible exact H2_) | with_reducible exact H | (rw [hy240]; exact H) | exact H
                                have Ny240 := Aside0.mk hy240
                                clear hy240
                                by_cases c53 : 1 ≤ (x1_1.length : Int)
                                · rw [if_pos c53] at H
                                  have c53b0 := eq_true c53
                                  have c53b1 : decide (1 ≤ (x1_1.length : Int)) = true := decide_eq_true c53
                                  clear c53
                                  obtain ⟨y245, hy245⟩ : ∃ y_ : List (S76), y_ = (x1_1.drop 1) := ⟨_, rfl⟩
                                  replace H : (impl_diffs.l0 kj31 y240 y245 x5_1) = some r := by first | (rw [hy245]; with_reducible exact H) | (have H2_ := (Option.bind_some _ _).symm.trans H; rw [hy245]; with_reducible exact H2_) | (have H2_ := (Option.bind_some _ _).symm.trans H; with_reducible exact H2_) | with_reducible exact H | (rw [hy245]; exact H) | exact H
                                  have Ny245 := Aside0.mk hy245
                                  clear hy245
                                  have H' := Aside0.mk H
                                  clear H
                                  try go_wp2
                                  have n0_ := Aside0.mk (Kd.V_drew HO_0.out)
                                  have n1_ := Aside0.mk (Kd.V_drew HO_1.out)
                                  have n2_ := Aside0.mk (Kd.R_drew HO_5.out)
                                  have n3_ := Aside0.mk (below_drew1 HB.out)
                                  clear HO_0
                                  clear HO_1
                                  clear HO_5
                                  clear HB
                                  have HO_0 := n0_
                                  have HO_1 := n1_
                                  have HO_5 := n2_
                                  have HB := n3_
                                  clear n0_ n1_ n2_ n3_
                                  obtain ⟨Ao55, co55, eo55⟩ := Kd.V_slice HO_0.out
                                  (first | subst eo55 | (injection eo55 with f1_ f2_ f3_; have f4_ := f1_.symm; have f5_ := f3_.symm; clear f1_ f2_ f3_; subst f4_; subst f5_))
                                  have p238 : 0 ≤ (0 : Int) := (by omega)
                                  have q238 : 0 < (x0_1.length : Int) := of_decide_eq_true (by first | (with_reducible assumption) | assumption)
                                  obtain ⟨ad238, e238, hx238_0, hx238_1⟩ := at_T76 (Kd.V_reads' HO_0.out).2.2 0 p238 q238
                                  cases e238
                                  have qi238 : (0 < x0_1.length) = True := eq_true (by omega)
                                  (try rw [show ((0 : Int)).toNat = 0 from rfl] at hx238_0)
                                  (try rw [show 0 * 2 = 0 from rfl] at hx238_0)
                                  (try rw [Addr.add_zero'] at hx238_0)
                                  (try rw [show ((0 : Int)).toNat = 0 from rfl] at hx238_1)
                                  (try rw [show 0 * 2 = 0 from rfl] at hx238_1)
                                  (try rw [Addr.add_zero'] at hx238_1)
                                  replace p238 := eq_true p238
                                  replace q238 := eq_true q238
                                  obtain ⟨Ao56, co56, eo56⟩ := Kd.V_slice HO_1.out
                                  (first | subst eo56 | (injection eo56 with f1_ f2_ f3_; have f4_ := f1_.symm; have f5_ := f3_.symm; clear f1_ f2_ f3_; subst f4_; subst f5_))
                                  have p239 : 0 ≤ (0 : Int) := (by omega)
                                  have q239 : 0 < (x1_1.length : Int) := of_decide_eq_true (by first | (with_reducible assumption) | assumption)
                                  obtain ⟨ad239, e239, hx239_0, hx239_1⟩ := at_T76 (Kd.V_reads' HO_1.out).2.2 0 p239 q239
                                  cases e239
                                  have qi239 : (0 < x1_1.length) = True := eq_true (by omega)
                                  (try rw [show ((0 : Int)).toNat = 0 from rfl] at hx239_0)
                                  (try rw [show 0 * 2 = 0 from rfl] at hx239_0)
                                  (try rw [Addr.add_zero'] at hx239_0)
                                  (try rw [show ((0 : Int)).toNat = 0 from rfl] at hx239_1)
                                  (try rw [show 0 * 2 = 0 from rfl] at hx239_1)
                                  (try rw [Addr.add_zero'] at hx239_1)
                                  replace p239 := eq_true p239
                                  replace q239 := eq_true q239
                                  refine wp_region_later (by kernel_rfl) (by kernel_rfl) ?_
                                  have hL0_ := Aside0.mk (show wc.drew.cell? ad238 = some (.string ((rd_T76 x0_1 0).f0)) from hx238_0)
                                  have hL1_ := Aside0.mk (show wc.drew.cell? ⟨ad238.block, ad238.off + 1, none⟩ = some (.string ((rd_T76 x0_1 0).f1)) from hx238_1)
                                  have hL2_ := Aside0.mk (show wc.drew.cell? ad239 = some (.string ((rd_T76 x1_1 0).f0)) from hx239_0)
                                  have hL3_ := Aside0.mk (show wc.drew.cell? ⟨ad239.block, ad239.off + 1, none⟩ = some (.string ((rd_T76 x1_1 0).f1)) from hx239_1)
                                  generalize wc.drew = w54b at HO_0 HO_1 HO_5 HB hx238_0 hx238_1 hx239_0 hx239_1 hL0_ hL1_ hL2_ hL3_ ⊢
                                  clear hx238_0 hx238_1 hx239_0 hx239_1
                                  have hL0 := fun (p_ : Later w54b) => (show p_.val.cell? ad238 = some (.string ((rd_T76 x0_1 0).f0)) from Later.cell p_ hL0_.out)
                                  have hL1 := fun (p_ : Later w54b) => (show p_.val.cell? ⟨ad238.block, ad238.off + 1, none⟩ = some (.string ((rd_T76 x0_1 0).f1)) from Later.cell p_ hL1_.out)
                                  have hL2 := fun (p_ : Later w54b) => (show p_.val.cell? ad239 = some (.string ((rd_T76 x1_1 0).f0)) from Later.cell p_ hL2_.out)
                                  have hL3 := fun (p_ : Later w54b) => (show p_.val.cell? ⟨ad239.block, ad239.off + 1, none⟩ = some (.string ((rd_T76 x1_1 0).f1)) from Later.cell p_ hL3_.out)
                                  clear hL0_ hL1_ hL2_ hL3_
                                  repeat (first | go_big_quiet_step (fail) | quiet_step (fail))
                                  refine wpQuiet_nil ?_
                                  rintro w54 ⟨⟨wq_, hbL⟩, hq_⟩
                                  have hq2_ : w54 = wq_ := hq_
                                  clear hq_
                                  subst hq2_
                                  clear hL0 hL1 hL2 hL3
                                  have nHO_0_ := by first | exact Aside0.mk (below_step HO_0.out hbL) | exact Aside0.mk (Kd.R_below HO_0.out hbL) | exact Aside0.mk (Kd.S_below HO_0.out hbL) | exact Aside0.mk (Kd.N_below HO_0.out hbL) | exact Aside0.mk (Kd.V_below HO_0.out hbL) | exact Aside0.mk (Kd.Q_below HO_0.out hbL) | exact Aside0.mk (Kd.C_below HO_0.out hbL) | exact Aside0.mk ((hbL.block _ (blk_lt HO_0.out)).trans HO_0.out)
                                  have nHO_1_ := by first | exact Aside0.mk (below_step HO_1.out hbL) | exact Aside0.mk (Kd.R_below HO_1.out hbL) | exact Aside0.mk (Kd.S_below HO_1.out hbL) | exact Aside0.mk (Kd.N_below HO_1.out hbL) | exact Aside0.mk (Kd.V_below HO_1.out hbL) | exact Aside0.mk (Kd.Q_below HO_1.out hbL) | exact Aside0.mk (Kd.C_below HO_1.out hbL) | exact Aside0.mk ((hbL.block _ (blk_lt HO_1.out)).trans HO_1.out)
                                  have nHO_5_ := by first | exact Aside0.mk (below_step HO_5.out hbL) | exact Aside0.mk (Kd.R_below HO_5.out hbL) | exact Aside0.mk (Kd.S_below HO_5.out hbL) | exact Aside0.mk (Kd.N_below HO_5.out hbL) | exact Aside0.mk (Kd.V_below HO_5.out hbL) | exact Aside0.mk (Kd.Q_below HO_5.out hbL) | exact Aside0.mk (Kd.C_below HO_5.out hbL) | exact Aside0.mk ((hbL.block _ (blk_lt HO_5.out)).trans HO_5.out)
                                  have nHB_ := by first | exact Aside0.mk (below_step HB.out hbL) | exact Aside0.mk (Kd.R_below HB.out hbL) | exact Aside0.mk (Kd.S_below HB.out hbL) | exact Aside0.mk (Kd.N_below HB.out hbL) | exact Aside0.mk (Kd.V_below HB.out hbL) | exact Aside0.mk (Kd.Q_below HB.out hbL) | exact Aside0.mk (Kd.C_below HB.out hbL) | exact Aside0.mk ((hbL.block _ (blk_lt HB.out)).trans HB.out)
                                  clear HO_0
                                  clear HO_1
                                  clear HO_5
                                  clear HB
                                  have HO_0 := nHO_0_
                                  have HO_1 := nHO_1_
                                  have HO_5 := nHO_5_
                                  have HB := nHB_
                                  clear nHO_0_
                                  clear nHO_1_
                                  clear nHO_5_
                                  clear nHB_
                                  clear hbL
                                  try go_wp2
                                  have n0_ := Aside0.mk (Kd.V_drew HO_0.out)
                                  have n1_ := Aside0.mk (Kd.V_drew HO_1.out)
                                  have n2_ := Aside0.mk (Kd.R_drew HO_5.out)
                                  have n3_ := Aside0.mk (below_drew1 HB.out)
                                  clear HO_0
                                  clear HO_1
                                  clear HO_5
                                  clear HB
                                  have HO_0 := n0_
                                  have HO_1 := n1_
                                  have HO_5 := n2_
                                  have HB := n3_
                                  clear n0_ n1_ n2_ n3_
                                  have q58 : (1 : Int) ≤ ((x0_1.length : Int) : Int) := of_decide_eq_true (by first | (with_reducible assumption) | assumption)
                                  obtain ⟨i058, hi058, _, hsz58, _⟩ := info_parts info76
                                  have hroom58 : x0_1.length ≤ co55 := (Kd.V_reads' HO_0.out).2.1
                                  have hC58 : Kd.F k76 _ _ (some ad238) x0_1.length x0_1 := (Kd.V_at (base := w.heap.size) HO_0.out).2.2
                                  have hcut58 := cut_from (P := Try.prog) 26 76 .i64 Try.underlying26 hi058 2 hsz58 (some ad238) x0_1.length co55 1 (by omega) q58
                                  have hr58 := Kd.F_cut (m := (1 : Int).toNat) (c := co55) hC58 (by omega) hroom58
                                  obtain ⟨A58, hA58⟩ : ∃ A1, A1 = (if co55 = (1 : Int).toNat then (some ad238) else ((some ad238) : Option Addr).map (·.add ((1 : Int).toNat * 2))) := ⟨_, rfl⟩
                                  obtain ⟨c58, hc58⟩ : ∃ c1, c1 = co55 - (1 : Int).toNat := ⟨_, rfl⟩
                                  have hy58 : y240.length = x0_1.length - (1 : Int).toNat := (by rw [Ny240.out, List.length_drop] <;> omega)
                                  rw [show (x0_1).drop (1 : Int).toNat = y240 from Ny240.out.symm] at hr58
                                  replace hr58 : Kd.F k76 _ _ A58 y240.length y240 := (by rw [hA58]; exact hr58)
                                  rw [← hy58, ← hA58, ← hc58] at hcut58
                                  have HO244 := Aside0.mk (show Kd.V k76 76 _ w.heap.size _ (.slice A58 y240.length c58) y240 from Kd.V_mk (by rw [hy58, hc58]; exact Nat.sub_le_sub_right hroom58 _) hr58)
                                  have HC244 := Aside0.mk (show y240.length ≤ c58 from by rw [hy58, hc58]; exact Nat.sub_le_sub_right hroom58 _)
                                  clear hr58 hC58 hroom58 hi058 hsz58 hc58
                                  have KY58 := Aside0.mk hy58
                                  have KA58 := Aside0.mk hA58
                                  clear hy58 hA58
                                  replace q58 := eq_true q58
                                  have q59 : (1 : Int) ≤ ((x1_1.length : Int) : Int) := of_decide_eq_true (by first | (with_reducible assumption) | assumption)
                                  obtain ⟨i059, hi059, _, hsz59, _⟩ := info_parts info76
                                  have hroom59 : x1_1.length ≤ co56 := (Kd.V_reads' HO_1.out).2.1
                                  have hC59 : Kd.F k76 _ _ (some ad239) x1_1.length x1_1 := (Kd.V_at (base := w.heap.size) HO_1.out).2.2
                                  have hcut59 := cut_from (P := Try.prog) 26 76 .i64 Try.underlying26 hi059 2 hsz59 (some ad239) x1_1.length co56 1 (by omega) q59
                                  have hr59 := Kd.F_cut (m := (1 : Int).toNat) (c := co56) hC59 (by omega) hroom59
                                  obtain ⟨A59, hA59⟩ : ∃ A1, A1 = (if co56 = (1 : Int).toNat then (some ad239) else ((some ad239) : Option Addr).map (·.add ((1 : Int).toNat * 2))) := ⟨_, rfl⟩
                                  obtain ⟨c59, hc59⟩ : ∃ c1, c1 = co56 - (1 : Int).toNat := ⟨_, rfl⟩
                                  have hy59 : y245.length = x1_1.length - (1 : Int).toNat := (by rw [Ny245.out, List.length_drop] <;> omega)
                                  rw [show (x1_1).drop (1 : Int).toNat = y245 from Ny245.out.symm] at hr59
                                  replace hr59 : Kd.F k76 _ _ A59 y245.length y245 := (by rw [hA59]; exact hr59)
                                  rw [← hy59, ← hA59, ← hc59] at hcut59
                                  have HO249 := Aside0.mk (show Kd.V k76 76 _ w.heap.size _ (.slice A59 y245.length c59) y245 from Kd.V_mk (by rw [hy59, hc59]; exact Nat.sub_le_sub_right hroom59 _) hr59)
                                  have HC249 := Aside0.mk (show y245.length ≤ c59 from by rw [hy59, hc59]; exact Nat.sub_le_sub_right hroom59 _)
                                  clear hr59 hC59 hroom59 hi059 hsz59 hc59
                                  have KY59 := Aside0.mk hy59
                                  have KA59 := Aside0.mk hA59
                                  clear hy59 hA59
                                  replace q59 := eq_true q59
                                  refine wp_region_later (by kernel_rfl) (by kernel_rfl) ?_
                                  generalize w54.drew = w57b at HO_0 HO_1 HO_5 HB HO244 HO249 ⊢
                                  repeat (first | go_big_quiet_step (fail) | quiet_step (fail))
                                  refine wpQuiet_nil ?_
                                  rintro w57 ⟨⟨wq_, hbL⟩, hq_⟩
                                  have hq2_ : w57 = wq_ := hq_
                                  clear hq_
                                  subst hq2_
                                  have nHO_0_ := by first | exact Aside0.mk (below_step HO_0.out hbL) | exact Aside0.mk (Kd.R_below HO_0.out hbL) | exact Aside0.mk (Kd.S_below HO_0.out hbL) | exact Aside0.mk (Kd.N_below HO_0.out hbL) | exact Aside0.mk (Kd.V_below HO_0.out hbL) | exact Aside0.mk (Kd.Q_below HO_0.out hbL) | exact Aside0.mk (Kd.C_below HO_0.out hbL) | exact Aside0.mk ((hbL.block _ (blk_lt HO_0.out)).trans HO_0.out)
                                  have nHO_1_ := by first | exact Aside0.mk (below_step HO_1.out hbL) | exact Aside0.mk (Kd.R_below HO_1.out hbL) | exact Aside0.mk (Kd.S_below HO_1.out hbL) | exact Aside0.mk (Kd.N_below HO_1.out hbL) | exact Aside0.mk (Kd.V_below HO_1.out hbL) | exact Aside0.mk (Kd.Q_below HO_1.out hbL) | exact Aside0.mk (Kd.C_below HO_1.out hbL) | exact Aside0.mk ((hbL.block _ (blk_lt HO_1.out)).trans HO_1.out)
                                  have nHO_5_ := by first | exact Aside0.mk (below_step HO_5.out hbL) | exact Aside0.mk (Kd.R_below HO_5.out hbL) | exact Aside0.mk (Kd.S_below HO_5.out hbL) | exact Aside0.mk (Kd.N_below HO_5.out hbL) | exact Aside0.mk (Kd.V_below HO_5.out hbL) | exact Aside0.mk (Kd.Q_below HO_5.out hbL) | exact Aside0.mk (Kd.C_below HO_5.out hbL) | exact Aside0.mk ((hbL.block _ (blk_lt HO_5.out)).trans HO_5.out)
                                  have nHB_ := by first | exact Aside0.mk (below_step HB.out hbL) | exact Aside0.mk (Kd.R_below HB.out hbL) | exact Aside0.mk (Kd.S_below HB.out hbL) | exact Aside0.mk (Kd.N_below HB.out hbL) | exact Aside0.mk (Kd.V_below HB.out hbL) | exact Aside0.mk (Kd.Q_below HB.out hbL) | exact Aside0.mk (Kd.C_below HB.out hbL) | exact Aside0.mk ((hbL.block _ (blk_lt HB.out)).trans HB.out)
                                  have nHO244_ := by first | exact Aside0.mk (below_step HO244.out hbL) | exact Aside0.mk (Kd.R_below HO244.out hbL) | exact Aside0.mk (Kd.S_below HO244.out hbL) | exact Aside0.mk (Kd.N_below HO244.out hbL) | exact Aside0.mk (Kd.V_below HO244.out hbL) | exact Aside0.mk (Kd.Q_below HO244.out hbL) | exact Aside0.mk (Kd.C_below HO244.out hbL) | exact Aside0.mk ((hbL.block _ (blk_lt HO244.out)).trans HO244.out)
                                  have nHO249_ := by first | exact Aside0.mk (below_step HO249.out hbL) | exact Aside0.mk (Kd.R_below HO249.out hbL) | exact Aside0.mk (Kd.S_below HO249.out hbL) | exact Aside0.mk (Kd.N_below HO249.out hbL) | exact Aside0.mk (Kd.V_below HO249.out hbL) | exact Aside0.mk (Kd.Q_below HO249.out hbL) | exact Aside0.mk (Kd.C_below HO249.out hbL) | exact Aside0.mk ((hbL.block _ (blk_lt HO249.out)).trans HO249.out)
                                  clear HO_0
                                  clear HO_1
                                  clear HO_5
                                  clear HB
                                  clear HO244
                                  clear HO249
                                  have HO_0 := nHO_0_
                                  have HO_1 := nHO_1_
                                  have HO_5 := nHO_5_
                                  have HB := nHB_
                                  have HO244 := nHO244_
                                  have HO249 := nHO249_
                                  clear nHO_0_
                                  clear nHO_1_
                                  clear nHO_5_
                                  clear nHB_
                                  clear nHO244_
                                  clear nHO249_
                                  clear hbL
                                  try go_wp2
                                  go_roundg kj31
                                  case measure => have := HK1.out; have := HJ4.out; have := HJ10.out; have := HJ31.out; omega
                                  case rel => exact ⟨(y240), (y245), (x5_1), H', ⟨by have := HK1.out; have := HJ4.out; have := HJ10.out; have := HJ31.out; omega⟩, ⟨by (with_reducible repeat (first | apply Kd.V_alloc | apply Kd.V_drewN | apply Kd.V_drew)); exact HO244.out⟩, ⟨by (with_reducible repeat (first | apply Kd.V_alloc | apply Kd.V_drewN | apply Kd.V_drew)); exact HO249.out⟩, ⟨by (with_reducible repeat (first | apply Kd.R_alloc | apply Kd.R_drewN | apply Kd.R_drew)); exact HO_5.out⟩, ⟨by repeat (first | (with_reducible first | exact HB.out | apply below_alloc | apply pw_below_drewN | apply below_drew1) | exact HB.out)⟩⟩
                                · rw [if_neg c53] at H
                                  exact absurd H (by simp)
                              · rw [if_neg c52] at H
                                exact absurd H (by simp)
                            · rw [if_neg c51] at H
                              have c51b0 : (((rd_T76 x0_1 0).f1).toList == ((rd_T76 x1_1 0).f1).toList) = false := beq_eq_false_iff_ne.mpr c51
                              have c51b1 : (((rd_T76 x0_1 0).f1).toList != ((rd_T76 x1_1 0).f1).toList) = true := bne_iff_ne.mpr c51
                              by_cases c60 : x5_1.length < 2513169434916
                              · rw [if_pos c60] at H
                                have LMc60 := Aside0.mk c60
                                clear c60
                                obtain ⟨y253, hy253⟩ : ∃ y_ : List (S82), y_ = (x5_1 ++ [(⟨(rd_T76 x0_1 0).f0, (rd_T76 x0_1 0).f1, (rd_T76 x1_1 0).f1, true, true⟩ : S82)]) := ⟨_, rfl⟩
                                replace H : (if 1 ≤ (x0_1.length : Int) then (if 1 ≤ (x1_1.length : Int) then (impl_diffs.l0 kj31 (x0_1.drop 1) (x1_1.drop 1) y253) else (none)) else (none)) = some r := by first | (rw [hy253]; with_reducible exact H) | (have H2_ := (Option.bind_some _ _).symm.trans H; rw [hy253]; with_reducible exact H2_) | (have H2_ := (Option.bind_some _ _).symm.trans H; with_reducible exact H2_) | with_reducible exact H | (rw [hy253]; exact H) | exact H
                                have Ny253 := Aside0.mk hy253
                                clear hy253
                                by_cases c61 : 1 ≤ (x0_1.length : Int)
                                · rw [if_pos c61] at H
                                  have c61b0 := eq_true c61
                                  have c61b1 : decide (1 ≤ (x0_1.length : Int)) = true := decide_eq_true c61
                                  clear c61
                                  obtain ⟨y256, hy256⟩ : ∃ y_ : List (S76), y_ = (x0_1.drop 1) := ⟨_, rfl⟩
                                  replace H : (if 1 ≤ (x1_1.length : Int) then (impl_diffs.l0 kj31 y256 (x1_1.drop 1) y253) else (none)) = some r := by first | (rw [hy256]; with_reducible exact H) | (have H2_ := (Option.bind_some _ _).symm.trans H; rw [hy256]; with_reducible exact H2_) | (have H2_ := (Option.bind_some _ _).symm.trans H; with_reducible exact H2_) | with_reducible exact H | (rw [hy256]; exact H) | exact H
                                  have Ny256 := Aside0.mk hy256
                                  clear hy256
                                  by_cases c62 : 1 ≤ (x1_1.length : Int)
                                  · rw [if_pos c62] at H
                                    have c62b0 := eq_true c62
                                    have c62b1 : decide (1 ≤ (x1_1.length : Int)) = true := decide_eq_true c62
                                    clear c62
                                    obtain ⟨y261, hy261⟩ : ∃ y_ : List (S76), y_ = (x1_1.drop 1) := ⟨_, rfl⟩
                                    replace H : (impl_diffs.l0 kj31 y256 y261 y253) = some r := by first | (rw [hy261]; with_reducible exact H) | (have H2_ := (Option.bind_some _ _).symm.trans H; rw [hy261]; with_reducible exact H2_) | (have H2_ := (Option.bind_some _ _).symm.trans H; with_reducible exact H2_) | with_reducible exact H | (rw [hy261]; exact H) | exact H
                                    have Ny261 := Aside0.mk hy261
                                    clear hy261
                                    have H' := Aside0.mk H
                                    clear H
                                    try go_wp2
                                    have n0_ := Aside0.mk (Kd.V_drew HO_0.out)
                                    have n1_ := Aside0.mk (Kd.V_drew HO_1.out)
                                    have n2_ := Aside0.mk (Kd.R_drew HO_5.out)
                                    have n3_ := Aside0.mk (below_drew1 HB.out)
                                    clear HO_0
                                    clear HO_1
                                    clear HO_5
                                    clear HB
                                    have HO_0 := n0_
                                    have HO_1 := n1_
                                    have HO_5 := n2_
                                    have HB := n3_
                                    clear n0_ n1_ n2_ n3_
                                    obtain ⟨Ao64, co64, eo64⟩ := Kd.V_slice HO_0.out
                                    (first | subst eo64 | (injection eo64 with f1_ f2_ f3_; have f4_ := f1_.symm; have f5_ := f3_.symm; clear f1_ f2_ f3_; subst f4_; subst f5_))
                                    have p238 : 0 ≤ (0 : Int) := (by omega)
                                    have q238 : 0 < (x0_1.length : Int) := of_decide_eq_true (by first | (with_reducible assumption) | assumption)
                                    obtain ⟨ad238, e238, hx238_0, hx238_1⟩ := at_T76 (Kd.V_reads' HO_0.out).2.2 0 p238 q238
                                    cases e238
                                    have qi238 : (0 < x0_1.length) = True := eq_true (by omega)
                                    (try rw [show ((0 : Int)).toNat = 0 from rfl] at hx238_0)
                                    (try rw [show 0 * 2 = 0 from rfl] at hx238_0)
                                    (try rw [Addr.add_zero'] at hx238_0)
                                    (try rw [show ((0 : Int)).toNat = 0 from rfl] at hx238_1)
                                    (try rw [show 0 * 2 = 0 from rfl] at hx238_1)
                                    (try rw [Addr.add_zero'] at hx238_1)
                                    replace p238 := eq_true p238
                                    replace q238 := eq_true q238
                                    obtain ⟨Ao65, co65, eo65⟩ := Kd.V_slice HO_1.out
                                    (first | subst eo65 | (injection eo65 with f1_ f2_ f3_; have f4_ := f1_.symm; have f5_ := f3_.symm; clear f1_ f2_ f3_; subst f4_; subst f5_))
                                    have p239 : 0 ≤ (0 : Int) := (by omega)
                                    have q239 : 0 < (x1_1.length : Int) := of_decide_eq_true (by first | (with_reducible assumption) | assumption)
                                    obtain ⟨ad239, e239, hx239_0, hx239_1⟩ := at_T76 (Kd.V_reads' HO_1.out).2.2 0 p239 q239
                                    cases e239
                                    have qi239 : (0 < x1_1.length) = True := eq_true (by omega)
                                    (try rw [show ((0 : Int)).toNat = 0 from rfl] at hx239_0)
                                    (try rw [show 0 * 2 = 0 from rfl] at hx239_0)
                                    (try rw [Addr.add_zero'] at hx239_0)
                                    (try rw [show ((0 : Int)).toNat = 0 from rfl] at hx239_1)
                                    (try rw [show 0 * 2 = 0 from rfl] at hx239_1)
                                    (try rw [Addr.add_zero'] at hx239_1)
                                    replace p239 := eq_true p239
                                    replace q239 := eq_true q239
                                    refine wp_region_later (by kernel_rfl) (by kernel_rfl) ?_
                                    have hL0_ := Aside0.mk (show wc.drew.cell? ad238 = some (.string ((rd_T76 x0_1 0).f0)) from hx238_0)
                                    have hL1_ := Aside0.mk (show wc.drew.cell? ⟨ad238.block, ad238.off + 1, none⟩ = some (.string ((rd_T76 x0_1 0).f1)) from hx238_1)
                                    have hL2_ := Aside0.mk (show wc.drew.cell? ad239 = some (.string ((rd_T76 x1_1 0).f0)) from hx239_0)
                                    have hL3_ := Aside0.mk (show wc.drew.cell? ⟨ad239.block, ad239.off + 1, none⟩ = some (.string ((rd_T76 x1_1 0).f1)) from hx239_1)
                                    generalize wc.drew = w63b at HO_0 HO_1 HO_5 HB hx238_0 hx238_1 hx239_0 hx239_1 hL0_ hL1_ hL2_ hL3_ ⊢
                                    clear hx238_0 hx238_1 hx239_0 hx239_1
                                    have hL0 := fun (p_ : Later w63b) => (show p_.val.cell? ad238 = some (.string ((rd_T76 x0_1 0).f0)) from Later.cell p_ hL0_.out)
                                    have hL1 := fun (p_ : Later w63b) => (show p_.val.cell? ⟨ad238.block, ad238.off + 1, none⟩ = some (.string ((rd_T76 x0_1 0).f1)) from Later.cell p_ hL1_.out)
                                    have hL2 := fun (p_ : Later w63b) => (show p_.val.cell? ad239 = some (.string ((rd_T76 x1_1 0).f0)) from Later.cell p_ hL2_.out)
                                    have hL3 := fun (p_ : Later w63b) => (show p_.val.cell? ⟨ad239.block, ad239.off + 1, none⟩ = some (.string ((rd_T76 x1_1 0).f1)) from Later.cell p_ hL3_.out)
                                    clear hL0_ hL1_ hL2_ hL3_
                                    repeat (first | go_big_quiet_step (fail) | quiet_step (fail))
                                    refine wpQuiet_nil ?_
                                    rintro w63 ⟨⟨wq_, hbL⟩, hq_⟩
                                    have hq2_ : w63 = wq_ := hq_
                                    clear hq_
                                    subst hq2_
                                    clear hL0 hL1 hL2 hL3
                                    have nHO_0_ := by first | exact Aside0.mk (below_step HO_0.out hbL) | exact Aside0.mk (Kd.R_below HO_0.out hbL) | exact Aside0.mk (Kd.S_below HO_0.out hbL) | exact Aside0.mk (Kd.N_below HO_0.out hbL) | exact Aside0.mk (Kd.V_below HO_0.out hbL) | exact Aside0.mk (Kd.Q_below HO_0.out hbL) | exact Aside0.mk (Kd.C_below HO_0.out hbL) | exact Aside0.mk ((hbL.block _ (blk_lt HO_0.out)).trans HO_0.out)
                                    have nHO_1_ := by first | exact Aside0.mk (below_step HO_1.out hbL) | exact Aside0.mk (Kd.R_below HO_1.out hbL) | exact Aside0.mk (Kd.S_below HO_1.out hbL) | exact Aside0.mk (Kd.N_below HO_1.out hbL) | exact Aside0.mk (Kd.V_below HO_1.out hbL) | exact Aside0.mk (Kd.Q_below HO_1.out hbL) | exact Aside0.mk (Kd.C_below HO_1.out hbL) | exact Aside0.mk ((hbL.block _ (blk_lt HO_1.out)).trans HO_1.out)
                                    have nHO_5_ := by first | exact Aside0.mk (below_step HO_5.out hbL) | exact Aside0.mk (Kd.R_below HO_5.out hbL) | exact Aside0.mk (Kd.S_below HO_5.out hbL) | exact Aside0.mk (Kd.N_below HO_5.out hbL) | exact Aside0.mk (Kd.V_below HO_5.out hbL) | exact Aside0.mk (Kd.Q_below HO_5.out hbL) | exact Aside0.mk (Kd.C_below HO_5.out hbL) | exact Aside0.mk ((hbL.block _ (blk_lt HO_5.out)).trans HO_5.out)
                                    have nHB_ := by first | exact Aside0.mk (below_step HB.out hbL) | exact Aside0.mk (Kd.R_below HB.out hbL) | exact Aside0.mk (Kd.S_below HB.out hbL) | exact Aside0.mk (Kd.N_below HB.out hbL) | exact Aside0.mk (Kd.V_below HB.out hbL) | exact Aside0.mk (Kd.Q_below HB.out hbL) | exact Aside0.mk (Kd.C_below HB.out hbL) | exact Aside0.mk ((hbL.block _ (blk_lt HB.out)).trans HB.out)
                                    clear HO_0
                                    clear HO_1
                                    clear HO_5
                                    clear HB
                                    have HO_0 := nHO_0_
                                    have HO_1 := nHO_1_
                                    have HO_5 := nHO_5_
                                    have HB := nHB_
                                    clear nHO_0_
                                    clear nHO_1_
                                    clear nHO_5_
                                    clear nHB_
                                    clear hbL
                                    try go_wp2
                                    have n0_ := Aside0.mk (Kd.V_drew HO_0.out)
                                    have n1_ := Aside0.mk (Kd.V_drew HO_1.out)
                                    have n2_ := Aside0.mk (Kd.R_drew HO_5.out)
                                    have n3_ := Aside0.mk (below_drew1 HB.out)
                                    clear HO_0
                                    clear HO_1
                                    clear HO_5
                                    clear HB
                                    have HO_0 := n0_
                                    have HO_1 := n1_
                                    have HO_5 := n2_
                                    have HB := n3_
                                    clear n0_ n1_ n2_ n3_
                                    have p250 : 0 ≤ (0 : Int) := (by omega)
                                    have q250 : 0 < (x0_1.length : Int) := of_decide_eq_true (by first | (with_reducible assumption) | assumption)
                                    obtain ⟨ad250, e250, hx250_0, hx250_1⟩ := at_T76 (Kd.V_reads' HO_0.out).2.2 0 p250 q250
                                    obtain rfl : ad238 = ad250 := (by injection e250)
                                    have qi250 : (0 < x0_1.length) = True := eq_true (by omega)
                                    (try rw [show ((0 : Int)).toNat = 0 from rfl] at hx250_0)
                                    (try rw [show 0 * 2 = 0 from rfl] at hx250_0)
                                    (try rw [Addr.add_zero'] at hx250_0)
                                    (try rw [show ((0 : Int)).toNat = 0 from rfl] at hx250_1)
                                    (try rw [show 0 * 2 = 0 from rfl] at hx250_1)
                                    (try rw [Addr.add_zero'] at hx250_1)
                                    replace p250 := eq_true p250
                                    replace q250 := eq_true q250
                                    have p251 : 0 ≤ (0 : Int) := (by omega)
                                    have q251 : 0 < (x0_1.length : Int) := of_decide_eq_true (by first | (with_reducible assumption) | assumption)
                                    obtain ⟨ad251, e251, hx251_0, hx251_1⟩ := at_T76 (Kd.V_reads' HO_0.out).2.2 0 p251 q251
                                    obtain rfl : ad238 = ad251 := (by injection e251)
                                    have qi251 : (0 < x0_1.length) = True := eq_true (by omega)
                                    (try rw [show ((0 : Int)).toNat = 0 from rfl] at hx251_0)
                                    (try rw [show 0 * 2 = 0 from rfl] at hx251_0)
                                    (try rw [Addr.add_zero'] at hx251_0)
                                    (try rw [show ((0 : Int)).toNat = 0 from rfl] at hx251_1)
                                    (try rw [show 0 * 2 = 0 from rfl] at hx251_1)
                                    (try rw [Addr.add_zero'] at hx251_1)
                                    replace p251 := eq_true p251
                                    replace q251 := eq_true q251
                                    have p252 : 0 ≤ (0 : Int) := (by omega)
                                    have q252 : 0 < (x1_1.length : Int) := of_decide_eq_true (by first | (with_reducible assumption) | assumption)
                                    obtain ⟨ad252, e252, hx252_0, hx252_1⟩ := at_T76 (Kd.V_reads' HO_1.out).2.2 0 p252 q252
                                    obtain rfl : ad239 = ad252 := (by injection e252)
                                    have qi252 : (0 < x1_1.length) = True := eq_true (by omega)
                                    (try rw [show ((0 : Int)).toNat = 0 from rfl] at hx252_0)
                                    (try rw [show 0 * 2 = 0 from rfl] at hx252_0)
                                    (try rw [Addr.add_zero'] at hx252_0)
                                    (try rw [show ((0 : Int)).toNat = 0 from rfl] at hx252_1)
                                    (try rw [show 0 * 2 = 0 from rfl] at hx252_1)
                                    (try rw [Addr.add_zero'] at hx252_1)
                                    replace p252 := eq_true p252
                                    replace q252 := eq_true q252
                                    refine start_ (n := 17) (S := fun w' => w'.cell? ad238 = some (.string ((rd_T76 x0_1 0).f0)) ∧ w'.cell? ⟨ad238.block, ad238.off + 1, none⟩ = some (.string ((rd_T76 x0_1 0).f1)) ∧ w'.cell? ad238 = some (.string ((rd_T76 x0_1 0).f0)) ∧ w'.cell? ⟨ad238.block, ad238.off + 1, none⟩ = some (.string ((rd_T76 x0_1 0).f1)) ∧ w'.cell? ad239 = some (.string ((rd_T76 x1_1 0).f0)) ∧ w'.cell? ⟨ad239.block, ad239.off + 1, none⟩ = some (.string ((rd_T76 x1_1 0).f1))) (ds := [14, 15]) #[false, false, false, false, false, false, false, false, false, false, false, false, false, false, false, false, false] (by kernel_rfl) rfl rfl ⟨hx250_0, hx250_1, hx251_0, hx251_1, hx252_0, hx252_1⟩ (fun hHeld => ?_); refine with_tabW impl_diffs.tab4 impl_diffs.bits4 (fun HT_ HW_ => ?_)
                                    generalize w63.drew = w66 at HO_0 HO_1 HO_5 HB hx250_0 hx250_1 hx251_0 hx251_1 hx252_0 hx252_1 hHeld ⊢
                                    refine pure_ (i := 0) (N := some 24) (v := ?_) (a' := ?_) #[true, false, false, false, false, false, false, false, false, false, false, false, false, false, false, false, false] rfl rfl (any_of HT_.out (by kernel_rfl)) (fun _ _ _ h => h) (Or.inl ⟨by rfl, ?_⟩) ?_ ?_
                                    rotate_left
                                    · intro w'
                                      go_simp
                                      with_reducible rfl
                                    rotate_left
                                    · simp only [Act.put, List.setIfInBounds_toArray, List.set_cons_zero, List.set_cons_succ, i64_w, i32_w]
                                      rfl
                                    refine pure_ (i := 1) (N := some 25) (v := ?_) (a' := ?_) #[true, true, false, false, false, false, false, false, false, false, false, false, false, false, false, false, false] rfl rfl (any_of HT_.out (by kernel_rfl)) (fun _ _ _ h => h) (Or.inl ⟨by rfl, ?_⟩) ?_ ?_
                                    rotate_left
                                    · intro w'
                                      go_simp
                                      with_reducible rfl
                                    rotate_left
                                    · simp only [Act.put, List.setIfInBounds_toArray, List.set_cons_zero, List.set_cons_succ, i64_w, i32_w]
                                      rfl
                                    refine pure_ (i := 2) (N := some 26) (v := ?_) (a' := ?_) #[true, true, true, false, false, false, false, false, false, false, false, false, false, false, false, false, false] rfl rfl (any_of HT_.out (by kernel_rfl)) (fun _ _ _ h => h) (Or.inl ⟨by rfl, ?_⟩) ?_ ?_
                                    rotate_left
                                    · intro w'
                                      go_simp
                                      with_reducible rfl
                                    rotate_left
                                    · simp only [Act.put, List.setIfInBounds_toArray, List.set_cons_zero, List.set_cons_succ, i64_w, i32_w]
                                      rfl
                                    refine pure_ (i := 3) (N := some 27) (v := ?_) (a' := ?_) #[true, true, true, true, false, false, false, false, false, false, false, false, false, false, false, false, false] rfl rfl (any_of HT_.out (by kernel_rfl)) (fun _ _ _ h => h) (Or.inl ⟨by rfl, ?_⟩) ?_ ?_
                                    rotate_left
                                    · intro w'
                                      go_simp
                                      with_reducible rfl
                                    rotate_left
                                    · simp only [Act.put, List.setIfInBounds_toArray, List.set_cons_zero, List.set_cons_succ, i64_w, i32_w]
                                      rfl
                                    refine pure_ (i := 5) (N := some 29) (v := ?_) (a' := ?_) #[true, true, true, true, false, true, false, false, false, false, false, false, false, false, false, false, false] rfl rfl (any_of HT_.out (by kernel_rfl)) (fun _ _ _ h => h) (Or.inl ⟨by rfl, ?_⟩) ?_ ?_
                                    rotate_left
                                    · intro w'
                                      go_simp
                                      with_reducible rfl
                                    rotate_left
                                    · simp only [Act.put, List.setIfInBounds_toArray, List.set_cons_zero, List.set_cons_succ, i64_w, i32_w]
                                      rfl
                                    refine pure_ (i := 6) (N := some 30) (v := ?_) (a' := ?_) #[true, true, true, true, false, true, true, false, false, false, false, false, false, false, false, false, false] rfl rfl (any_of HT_.out (by kernel_rfl)) (fun _ _ _ h => h) (Or.inl ⟨by rfl, ?_⟩) ?_ ?_
                                    rotate_left
                                    · intro w'
                                      go_simp
                                      with_reducible rfl
                                    rotate_left
                                    · simp only [Act.put, List.setIfInBounds_toArray, List.set_cons_zero, List.set_cons_succ, i64_w, i32_w]
                                      rfl
                                    refine pure_ (i := 7) (N := some 31) (v := ?_) (a' := ?_) #[true, true, true, true, false, true, true, true, false, false, false, false, false, false, false, false, false] rfl rfl (any_of HT_.out (by kernel_rfl)) (fun _ _ _ h => h) (Or.inl ⟨by rfl, ?_⟩) ?_ ?_
                                    rotate_left
                                    · intro w'
                                      go_simp
                                      with_reducible rfl
                                    rotate_left
                                    · simp only [Act.put, List.setIfInBounds_toArray, List.set_cons_zero, List.set_cons_succ, i64_w, i32_w]
                                      rfl
                                    refine pure_ (i := 9) (N := some 33) (v := ?_) (a' := ?_) #[true, true, true, true, false, true, true, true, false, true, false, false, false, false, false, false, false] rfl rfl (any_of HT_.out (by kernel_rfl)) (fun _ _ _ h => h) (Or.inl ⟨by rfl, ?_⟩) ?_ ?_
                                    rotate_left
                                    · intro w'
                                      go_simp
                                      with_reducible rfl
                                    rotate_left
                                    · simp only [Act.put, List.setIfInBounds_toArray, List.set_cons_zero, List.set_cons_succ, i64_w, i32_w]
                                      rfl
                                    refine pure_ (i := 10) (N := some 34) (v := ?_) (a' := ?_) #[true, true, true, true, false, true, true, true, false, true, true, false, false, false, false, false, false] rfl rfl (any_of HT_.out (by kernel_rfl)) (fun _ _ _ h => h) (Or.inl ⟨by rfl, ?_⟩) ?_ ?_
                                    rotate_left
                                    · intro w'
                                      go_simp
                                      with_reducible rfl
                                    rotate_left
                                    · simp only [Act.put, List.setIfInBounds_toArray, List.set_cons_zero, List.set_cons_succ, i64_w, i32_w]
                                      rfl
                                    refine pure_ (i := 11) (N := some 35) (v := ?_) (a' := ?_) #[true, true, true, true, false, true, true, true, false, true, true, true, false, false, false, false, false] rfl rfl (any_of HT_.out (by kernel_rfl)) (fun _ _ _ h => h) (Or.inl ⟨by rfl, ?_⟩) ?_ ?_
                                    rotate_left
                                    · intro w'
                                      go_simp
                                      with_reducible rfl
                                    rotate_left
                                    · simp only [Act.put, List.setIfInBounds_toArray, List.set_cons_zero, List.set_cons_succ, i64_w, i32_w]
                                      rfl
                                    refine take_ (i := 4) (N := some 28) (v := ?_) (a' := ?_) #[true, true, true, true, true, true, true, true, false, true, true, true, false, false, false, false, false] rfl rfl (take_ofW HT_.out HW_.out (by kernel_rfl)) (fun _ _ _ h => h) (Or.inl ⟨by rfl, ?_⟩) hHeld ?_ ?_
                                    rotate_left
                                    · rintro w' ⟨s0, s1, s2, s3, s4, s5⟩
                                      go_simp
                                      with_reducible rfl
                                    rotate_left
                                    · simp only [Act.put, List.setIfInBounds_toArray, List.set_cons_zero, List.set_cons_succ, i64_w, i32_w]
                                      rfl
                                    refine take_ (i := 8) (N := some 32) (v := ?_) (a' := ?_) #[true, true, true, true, true, true, true, true, true, true, true, true, false, false, false, false, false] rfl rfl (take_ofW HT_.out HW_.out (by kernel_rfl)) (fun _ _ _ h => h) (Or.inl ⟨by rfl, ?_⟩) hHeld ?_ ?_
                                    rotate_left
                                    · rintro w' ⟨s0, s1, s2, s3, s4, s5⟩
                                      go_simp
                                      with_reducible rfl
                                    rotate_left
                                    · simp only [Act.put, List.setIfInBounds_toArray, List.set_cons_zero, List.set_cons_succ, i64_w, i32_w]
                                      rfl
                                    refine take_ (i := 12) (N := some 36) (v := ?_) (a' := ?_) #[true, true, true, true, true, true, true, true, true, true, true, true, true, false, false, false, false] rfl rfl (take_ofW HT_.out HW_.out (by kernel_rfl)) (fun _ _ _ h => h) (Or.inl ⟨by rfl, ?_⟩) hHeld ?_ ?_
                                    rotate_left
                                    · rintro w' ⟨s0, s1, s2, s3, s4, s5⟩
                                      go_simp
                                      with_reducible rfl
                                    rotate_left
                                    · simp only [Act.put, List.setIfInBounds_toArray, List.set_cons_zero, List.set_cons_succ, i64_w, i32_w]
                                      rfl
                                    refine pure_ (i := 13) (N := some 37) (v := ?_) (a' := ?_) #[true, true, true, true, true, true, true, true, true, true, true, true, true, true, false, false, false] rfl rfl (any_of HT_.out (by kernel_rfl)) (fun _ _ _ h => h) (Or.inl ⟨by rfl, ?_⟩) ?_ ?_
                                    rotate_left
                                    · intro w'
                                      go_simp
                                      with_reducible rfl
                                    rotate_left
                                    · simp only [Act.put, List.setIfInBounds_toArray, List.set_cons_zero, List.set_cons_succ, i64_w, i32_w]
                                      rfl
                                    refine last_ (i := 14) (N := some 38) #[true, true, true, true, true, true, true, true, true, true, true, true, true, true, true, false, false] rfl rfl (one_of HT_.out (by kernel_rfl)) (by decide) (fun K hK => ?_)
                                    refine value_ (w1 := ?_) (v := ?_) (by rfl) rfl ?_ ?_
                                    rotate_left 2
                                    · go_simp
                                      constructor
                                      · rfl
                                      · rfl
                                    refine hK.out _ _ ?_
                                    clear hK K
                                    refine norm_ (a' := ?_) ?_ ?_
                                    rotate_left
                                    · show Act.put _ (some 38) _ = _
                                      simp only [Act.put, List.setIfInBounds_toArray, List.set_cons_zero, List.set_cons_succ, i64_w, i32_w]
                                      rfl
                                    refine last_ (i := 15) (N := some 39) #[true, true, true, true, true, true, true, true, true, true, true, true, true, true, true, true, false] rfl rfl (one_of HT_.out (by kernel_rfl)) (by decide) (fun K hK => ?_)
                                    refine Kd.R_append_step k82 (w0 := w) w.heap.size (by rfl) (.tmp 24) (.tmp 38) 30 82 (.agg #[(.string ⟨#[]⟩), (.string ⟨#[]⟩), (.string ⟨#[]⟩), (.bool false), (.bool false)]) 56 rfl Try.underlying30 info82 rfl (by decide) (by omega) u5 x5_1 (⟨(rd_T76 x0_1 0).f0, (rd_T76 x0_1 0).f1, (rd_T76 x1_1 0).f1, true, true⟩ : S82) [.string ((rd_T76 x0_1 0).f0), .string ((rd_T76 x0_1 0).f1), .string ((rd_T76 x1_1 0).f1), .bool true, .bool true] (fun k_ => (w.heap.size ≤ k_)) (fun _ => False) rfl rfl ?aP (fun _ hk => hk.elim) ?aF ?aO ?aB ?aS ?aL ?_
                                    (case aP => exact k82_mkM _ _ _ (⟨(rd_T76 x0_1 0).f0, (rd_T76 x0_1 0).f1, (rd_T76 x1_1 0).f1, true, true⟩ : S82))
                                    (case aB => exact (by repeat (first | (with_reducible first | exact HB.out | apply below_alloc | apply pw_below_drewN | apply below_drew1) | exact HB.out)))
                                    (case aF => exact (fun k_ hk => (Nat.le_trans (below_size (by repeat (first | (with_reducible first | exact HB.out | apply below_alloc | apply pw_below_drewN | apply below_drew1) | exact HB.out))) hk)))
                                    (case aO => exact (by (with_reducible repeat (first | apply Kd.R_alloc | apply Kd.R_drewN | apply Kd.R_drew)); exact HO_5.out))
                                    (case aS => exact (below_size (by repeat (first | (with_reducible first | exact HB.out | apply below_alloc | apply pw_below_drewN | apply below_drew1) | exact HB.out))))
                                    (case aL => have := LMc60.out; omega)
                                    intro v254 w67 ho hb hg hat
                                    rw [← Ny253.out] at ho
                                    have n0_ := Aside0.mk (Kd.V_afterv (ok := (fun k_ => ((P0_ k_ ∨ P1_ k_) ∨ w.heap.size ≤ k_))) (by (with_reducible repeat (first | apply Kd.V_alloc | apply Kd.V_drewN | apply Kd.V_drew)); exact HO_0.out) hg hat)
                                    have n1_ := Aside0.mk (Kd.V_afterv (ok := (fun k_ => ((P0_ k_ ∨ P1_ k_) ∨ w.heap.size ≤ k_))) (by (with_reducible repeat (first | apply Kd.V_alloc | apply Kd.V_drewN | apply Kd.V_drew)); exact HO_1.out) hg hat)
                                    have n2_ := Aside0.mk (hb)
                                    have n3_ := Aside0.mk (ho)
                                    clear HO_0
                                    clear HO_1
                                    clear HB
                                    clear HO_5
                                    have HO_0 := n0_
                                    have HO_1 := n1_
                                    have HB := n2_
                                    have HO255 := n3_
                                    clear n0_ n1_ n2_ n3_
                                    clear ho hb hg hat
                                    refine hK.out _ _ ?_
                                    clear hK K
                                    refine norm_ (a' := ?_) ?_ ?_
                                    rotate_left
                                    · show Act.put _ (some 39) _ = _
                                      simp only [Act.put, List.setIfInBounds_toArray, List.set_cons_zero, List.set_cons_succ, i64_w, i32_w]
                                      rfl
                                    refine pure_ (i := 16) (N := some 5) (v := ?_) (a' := ?_) #[true, true, true, true, true, true, true, true, true, true, true, true, true, true, true, true, true] rfl rfl (any_of HT_.out (by kernel_rfl)) (fun _ _ _ h => h) (Or.inl ⟨by rfl, ?_⟩) ?_ ?_
                                    rotate_left
                                    · intro w'
                                      go_simp
                                      with_reducible rfl
                                    rotate_left
                                    · simp only [Act.put, List.setIfInBounds_toArray, List.set_cons_zero, List.set_cons_succ, i64_w, i32_w]
                                      rfl
                                    refine done_ (done_of HT_.out (by kernel_rfl)) ?_
                                    try go_wp2
                                    have n0_ := Aside0.mk (Kd.V_drew HO_0.out)
                                    have n1_ := Aside0.mk (Kd.V_drew HO_1.out)
                                    have n2_ := Aside0.mk (Kd.R_drew HO255.out)
                                    have n3_ := Aside0.mk (below_drew1 HB.out)
                                    clear HO_0
                                    clear HO_1
                                    clear HO255
                                    clear HB
                                    have HO_0 := n0_
                                    have HO_1 := n1_
                                    have HO255 := n2_
                                    have HB := n3_
                                    clear n0_ n1_ n2_ n3_
                                    have q69 : (1 : Int) ≤ ((x0_1.length : Int) : Int) := of_decide_eq_true (by first | (with_reducible assumption) | assumption)
                                    obtain ⟨i069, hi069, _, hsz69, _⟩ := info_parts info76
                                    have hroom69 : x0_1.length ≤ co64 := (Kd.V_reads' HO_0.out).2.1
                                    have hC69 : Kd.F k76 _ _ (some ad238) x0_1.length x0_1 := (Kd.V_at (base := w.heap.size) HO_0.out).2.2
                                    have hcut69 := cut_from (P := Try.prog) 26 76 .i64 Try.underlying26 hi069 2 hsz69 (some ad238) x0_1.length co64 1 (by omega) q69
                                    have hr69 := Kd.F_cut (m := (1 : Int).toNat) (c := co64) hC69 (by omega) hroom69
                                    obtain ⟨A69, hA69⟩ : ∃ A1, A1 = (if co64 = (1 : Int).toNat then (some ad238) else ((some ad238) : Option Addr).map (·.add ((1 : Int).toNat * 2))) := ⟨_, rfl⟩
                                    obtain ⟨c69, hc69⟩ : ∃ c1, c1 = co64 - (1 : Int).toNat := ⟨_, rfl⟩
                                    have hy69 : y256.length = x0_1.length - (1 : Int).toNat := (by rw [Ny256.out, List.length_drop] <;> omega)
                                    rw [show (x0_1).drop (1 : Int).toNat = y256 from Ny256.out.symm] at hr69
                                    replace hr69 : Kd.F k76 _ _ A69 y256.length y256 := (by rw [hA69]; exact hr69)
                                    rw [← hy69, ← hA69, ← hc69] at hcut69
                                    have HO260 := Aside0.mk (show Kd.V k76 76 _ w.heap.size _ (.slice A69 y256.length c69) y256 from Kd.V_mk (by rw [hy69, hc69]; exact Nat.sub_le_sub_right hroom69 _) hr69)
                                    have HC260 := Aside0.mk (show y256.length ≤ c69 from by rw [hy69, hc69]; exact Nat.sub_le_sub_right hroom69 _)
                                    clear hr69 hC69 hroom69 hi069 hsz69 hc69
                                    have KY69 := Aside0.mk hy69
                                    have KA69 := Aside0.mk hA69
                                    clear hy69 hA69
                                    replace q69 := eq_true q69
                                    have q70 : (1 : Int) ≤ ((x1_1.length : Int) : Int) := of_decide_eq_true (by first | (with_reducible assumption) | assumption)
                                    obtain ⟨i070, hi070, _, hsz70, _⟩ := info_parts info76
                                    have hroom70 : x1_1.length ≤ co65 := (Kd.V_reads' HO_1.out).2.1
                                    have hC70 : Kd.F k76 _ _ (some ad239) x1_1.length x1_1 := (Kd.V_at (base := w.heap.size) HO_1.out).2.2
                                    have hcut70 := cut_from (P := Try.prog) 26 76 .i64 Try.underlying26 hi070 2 hsz70 (some ad239) x1_1.length co65 1 (by omega) q70
                                    have hr70 := Kd.F_cut (m := (1 : Int).toNat) (c := co65) hC70 (by omega) hroom70
                                    obtain ⟨A70, hA70⟩ : ∃ A1, A1 = (if co65 = (1 : Int).toNat then (some ad239) else ((some ad239) : Option Addr).map (·.add ((1 : Int).toNat * 2))) := ⟨_, rfl⟩
                                    obtain ⟨c70, hc70⟩ : ∃ c1, c1 = co65 - (1 : Int).toNat := ⟨_, rfl⟩
                                    have hy70 : y261.length = x1_1.length - (1 : Int).toNat := (by rw [Ny261.out, List.length_drop] <;> omega)
                                    rw [show (x1_1).drop (1 : Int).toNat = y261 from Ny261.out.symm] at hr70
                                    replace hr70 : Kd.F k76 _ _ A70 y261.length y261 := (by rw [hA70]; exact hr70)
                                    rw [← hy70, ← hA70, ← hc70] at hcut70
                                    have HO265 := Aside0.mk (show Kd.V k76 76 _ w.heap.size _ (.slice A70 y261.length c70) y261 from Kd.V_mk (by rw [hy70, hc70]; exact Nat.sub_le_sub_right hroom70 _) hr70)
                                    have HC265 := Aside0.mk (show y261.length ≤ c70 from by rw [hy70, hc70]; exact Nat.sub_le_sub_right hroom70 _)
                                    clear hr70 hC70 hroom70 hi070 hsz70 hc70
                                    have KY70 := Aside0.mk hy70
                                    have KA70 := Aside0.mk hA70
                                    clear hy70 hA70
                                    replace q70 := eq_true q70
                                    refine wp_region_later (by kernel_rfl) (by kernel_rfl) ?_
                                    generalize w67.drew = w68b at HO_0 HO_1 HO255 HB HO260 HO265 ⊢
                                    repeat (first | go_big_quiet_step (fail) | quiet_step (fail))
                                    refine wpQuiet_nil ?_
                                    rintro w68 ⟨⟨wq_, hbL⟩, hq_⟩
                                    have hq2_ : w68 = wq_ := hq_
                                    clear hq_
                                    subst hq2_
                                    have nHO_0_ := by first | exact Aside0.mk (below_step HO_0.out hbL) | exact Aside0.mk (Kd.R_below HO_0.out hbL) | exact Aside0.mk (Kd.S_below HO_0.out hbL) | exact Aside0.mk (Kd.N_below HO_0.out hbL) | exact Aside0.mk (Kd.V_below HO_0.out hbL) | exact Aside0.mk (Kd.Q_below HO_0.out hbL) | exact Aside0.mk (Kd.C_below HO_0.out hbL) | exact Aside0.mk ((hbL.block _ (blk_lt HO_0.out)).trans HO_0.out)
                                    have nHO_1_ := by first | exact Aside0.mk (below_step HO_1.out hbL) | exact Aside0.mk (Kd.R_below HO_1.out hbL) | exact Aside0.mk (Kd.S_below HO_1.out hbL) | exact Aside0.mk (Kd.N_below HO_1.out hbL) | exact Aside0.mk (Kd.V_below HO_1.out hbL) | exact Aside0.mk (Kd.Q_below HO_1.out hbL) | exact Aside0.mk (Kd.C_below HO_1.out hbL) | exact Aside0.mk ((hbL.block _ (blk_lt HO_1.out)).trans HO_1.out)
                                    have nHO255_ := by first | exact Aside0.mk (below_step HO255.out hbL) | exact Aside0.mk (Kd.R_below HO255.out hbL) | exact Aside0.mk (Kd.S_below HO255.out hbL) | exact Aside0.mk (Kd.N_below HO255.out hbL) | exact Aside0.mk (Kd.V_below HO255.out hbL) | exact Aside0.mk (Kd.Q_below HO255.out hbL) | exact Aside0.mk (Kd.C_below HO255.out hbL) | exact Aside0.mk ((hbL.block _ (blk_lt HO255.out)).trans HO255.out)
                                    have nHB_ := by first | exact Aside0.mk (below_step HB.out hbL) | exact Aside0.mk (Kd.R_below HB.out hbL) | exact Aside0.mk (Kd.S_below HB.out hbL) | exact Aside0.mk (Kd.N_below HB.out hbL) | exact Aside0.mk (Kd.V_below HB.out hbL) | exact Aside0.mk (Kd.Q_below HB.out hbL) | exact Aside0.mk (Kd.C_below HB.out hbL) | exact Aside0.mk ((hbL.block _ (blk_lt HB.out)).trans HB.out)
                                    have nHO260_ := by first | exact Aside0.mk (below_step HO260.out hbL) | exact Aside0.mk (Kd.R_below HO260.out hbL) | exact Aside0.mk (Kd.S_below HO260.out hbL) | exact Aside0.mk (Kd.N_below HO260.out hbL) | exact Aside0.mk (Kd.V_below HO260.out hbL) | exact Aside0.mk (Kd.Q_below HO260.out hbL) | exact Aside0.mk (Kd.C_below HO260.out hbL) | exact Aside0.mk ((hbL.block _ (blk_lt HO260.out)).trans HO260.out)
                                    have nHO265_ := by first | exact Aside0.mk (below_step HO265.out hbL) | exact Aside0.mk (Kd.R_below HO265.out hbL) | exact Aside0.mk (Kd.S_below HO265.out hbL) | exact Aside0.mk (Kd.N_below HO265.out hbL) | exact Aside0.mk (Kd.V_below HO265.out hbL) | exact Aside0.mk (Kd.Q_below HO265.out hbL) | exact Aside0.mk (Kd.C_below HO265.out hbL) | exact Aside0.mk ((hbL.block _ (blk_lt HO265.out)).trans HO265.out)
                                    clear HO_0
                                    clear HO_1
                                    clear HO255
                                    clear HB
                                    clear HO260
                                    clear HO265
                                    have HO_0 := nHO_0_
                                    have HO_1 := nHO_1_
                                    have HO255 := nHO255_
                                    have HB := nHB_
                                    have HO260 := nHO260_
                                    have HO265 := nHO265_
                                    clear nHO_0_
                                    clear nHO_1_
                                    clear nHO255_
                                    clear nHB_
                                    clear nHO260_
                                    clear nHO265_
                                    clear hbL
                                    try go_wp2
                                    go_roundg kj31
                                    case measure => have := HK1.out; have := HJ4.out; have := HJ10.out; have := HJ31.out; omega
                                    case rel => exact ⟨(y256), (y261), (y253), H', ⟨by have := HK1.out; have := HJ4.out; have := HJ10.out; have := HJ31.out; omega⟩, ⟨by (with_reducible repeat (first | apply Kd.V_alloc | apply Kd.V_drewN | apply Kd.V_drew)); exact HO260.out⟩, ⟨by (with_reducible repeat (first | apply Kd.V_alloc | apply Kd.V_drewN | apply Kd.V_drew)); exact HO265.out⟩, ⟨by (with_reducible repeat (first | apply Kd.R_alloc | apply Kd.R_drewN | apply Kd.R_drew)); exact HO255.out⟩, ⟨by repeat (first | (with_reducible first | exact HB.out | apply below_alloc | apply pw_below_drewN | apply below_drew1) | exact HB.out)⟩⟩
                                  · rw [if_neg c62] at H
                                    exact absurd H (by simp)
                                · rw [if_neg c61] at H
                                  exact absurd H (by simp)
                              · rw [if_neg c60] at H
                                exact absurd H (by simp)
                          · rw [if_neg c50] at H
                            exact absurd H (by simp)
                        · rw [if_neg c49] at H
                          exact absurd H (by simp)
          · replace c10 := Bool.eq_false_iff.mpr c10
            subst c10
            have H1 : (some x5_1) = some r := by rw [if_neg (show ¬ (false = true) by decide)] at H; exact H
            clear H
            have H := H1
            clear H1
            obtain rfl := Option.some.inj H
            go_wp2
            go_ret
            exact ⟨_, by first | rfl | (simp [errW_none, errW_some] <;> rfl) | (simp [*, errW_none, errW_some] <;> rfl), by (with_reducible repeat (first | apply Kd.R_alloc | apply Kd.R_drewN | apply Kd.R_drew)); exact HO_5.out, by repeat (first | (with_reducible first | exact HB.out | apply below_alloc | apply pw_below_drewN | apply below_drew1) | exact HB.out)⟩
end Go.Proofs.Ytgcncphdjabjjaa.X
