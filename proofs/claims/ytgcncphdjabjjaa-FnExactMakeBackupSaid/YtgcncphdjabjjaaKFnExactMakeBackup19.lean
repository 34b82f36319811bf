import Derived.Test.YtgcncphdjabjjaaKFnExactMakeBackup3
import Derived.Test.YtgcncphdjabjjaaKFnExactMakeBackup4
namespace Go.Proofs.Ytgcncphdjabjjaa.X
open Go.RowKit Go.Proofs.YtgcncphdjabjjaaW.PrintWords Go.Proofs.YtgcncphdjabjjaaW.PrintLast Go.Proofs.YtgcncphdjabjjaaW.PrintMore
attribute [local go_sem] qaT qaU qaV qaP qaQ qa3 qa4 qaJ qaK qaR qaS
set_option linter.unusedVariables false
set_option linter.unusedSimpArgs false
mutual
def qaw.l0 : Nat → List (S76) → List (S76) → List (S82) → Option ((List (S82)))
 | 0, _, _, _ => none
 | k + 1, x0, x1, x5 => if (x0.length : Int) > 0 then (qaw.j1 k x0 x1 x5 true) else (qaw.j1 k x0 x1 x5 (decide ((x1.length : Int) > 0)))
def qaw.j1 : Nat → List (S76) → List (S76) → List (S82) → Bool → Option ((List (S82)))
 | 0, _, _, _, _ => none
 | k + 1, x0, x1, x5, x14 => if x14 = true then (if (x1.length : Int) = 0 then (qaw.j2 k x0 x1 x5 true) else (if (x0.length : Int) > 0 then (if 0 < (x0.length : Int) then (if 0 < (x1.length : Int) then (qaw.j2 k x0 x1 x5 (Op.bytesLess (((qal x0 0).f0).toList) (((qal x1 0).f0).toList))) else (none)) else (none)) else (qaw.j2 k x0 x1 x5 false))) else (some x5)
def qaw.j2 : Nat → List (S76) → List (S76) → List (S82) → Bool → Option ((List (S82)))
 | 0, _, _, _, _ => none
 | k + 1, x0, x1, x5, x44 => if x44 = true then (if 0 < (x0.length : Int) then (if x5.length < 2513169434916 then (if 1 ≤ (x0.length : Int) then (qaw.l0 k (x0.drop 1) x1 (x5 ++ [(⟨(qal x0 0).f0, (qal x0 0).f1, (⟨#[]⟩ : ByteArray), true, false⟩ : S82)])) else (none)) else (none)) else (none)) else (if (x0.length : Int) = 0 then (qaw.j3 k x0 x1 x5 true) else (if 0 < (x1.length : Int) then (if 0 < (x0.length : Int) then (qaw.j3 k x0 x1 x5 (Op.bytesLess (((qal x1 0).f0).toList) (((qal x0 0).f0).toList))) else (none)) else (none)))
def qaw.j3 : Nat → List (S76) → List (S76) → List (S82) → Bool → Option ((List (S82)))
 | 0, _, _, _, _ => none
 | k + 1, x0, x1, x5, x78 => if x78 = true then (if 0 < (x1.length : Int) then (if x5.length < 2513169434916 then (if 1 ≤ (x1.length : Int) then (qaw.l0 k x0 (x1.drop 1) (x5 ++ [(⟨(qal x1 0).f0, (⟨#[]⟩ : ByteArray), (qal x1 0).f1, false, true⟩ : S82)])) else (none)) else (none)) else (none)) else (if 0 < (x0.length : Int) then (if 0 < (x1.length : Int) then (if ((qal x0 0).f1).toList = ((qal x1 0).f1).toList then (if 1 ≤ (x0.length : Int) then (if 1 ≤ (x1.length : Int) then (qaw.l0 k (x0.drop 1) (x1.drop 1) x5) else (none)) else (none)) else (if x5.length < 2513169434916 then (if 1 ≤ (x0.length : Int) then (if 1 ≤ (x1.length : Int) then (qaw.l0 k (x0.drop 1) (x1.drop 1) (x5 ++ [(⟨(qal x0 0).f0, (qal x0 0).f1, (qal x1 0).f1, true, true⟩ : S82)])) else (none)) else (none)) else (none))) else (none)) else (none))
end
def qaw.f (k : Nat) (l0 : List (S76)) (l1 : List (S76)) : Option ((List (S82))) := qaw.l0 k l0 l1 (([] : List (S82)))
theorem qaw.qbs : ∀ k, (∀ y0 y1 y2, LeO (qaw.l0 k y0 y1 y2) (qaw.l0 (k + 1) y0 y1 y2)) ∧ (∀ y0 y1 y2 y3, LeO (qaw.j1 k y0 y1 y2 y3) (qaw.j1 (k + 1) y0 y1 y2 y3)) ∧ (∀ y0 y1 y2 y3, LeO (qaw.j2 k y0 y1 y2 y3) (qaw.j2 (k + 1) y0 y1 y2 y3)) ∧ (∀ y0 y1 y2 y3, LeO (qaw.j3 k y0 y1 y2 y3) (qaw.j3 (k + 1) y0 y1 y2 y3))
 | 0 => ⟨fun _ _ _ r h => by simp [qaw.l0] at h, fun _ _ _ _ r h => by simp [qaw.j1] at h, fun _ _ _ _ r h => by simp [qaw.j2] at h, fun _ _ _ _ r h => by simp [qaw.j3] at h⟩
 | k + 1 => by
  obtain ⟨ih0, ih1, ih2, ih3⟩ := qaw.qbs k
  refine ⟨?_, ?_, ?_, ?_⟩
  ·intro y0 y1 y2
   unfold qaw.l0
   repeat' first
   | (with_reducible exact ih0 _ _ _)
   | (with_reducible exact ih1 _ _ _ _)
   | (with_reducible exact ih2 _ _ _ _)
   | (with_reducible exact ih3 _ _ _ _)
   | (with_reducible exact LeO.refl _)
   | (with_reducible exact LeO.none _)
   | (with_reducible refine LeO.ite ?_ ?_)
   | (with_reducible refine LeO.bind ?_ (fun _ => ?_))
   | exact ih0 _ _ _
   | exact ih1 _ _ _ _
   | exact ih2 _ _ _ _
   | exact ih3 _ _ _ _
   | exact LeO.none _
   | refine LeO.ite ?_ ?_
   | refine LeO.bind ?_ (fun _ => ?_)
  ·intro y0 y1 y2 y3
   unfold qaw.j1
   repeat' first
   | (with_reducible exact ih0 _ _ _)
   | (with_reducible exact ih1 _ _ _ _)
   | (with_reducible exact ih2 _ _ _ _)
   | (with_reducible exact ih3 _ _ _ _)
   | (with_reducible exact LeO.refl _)
   | (with_reducible exact LeO.none _)
   | (with_reducible refine LeO.ite ?_ ?_)
   | (with_reducible refine LeO.bind ?_ (fun _ => ?_))
   | exact ih0 _ _ _
   | exact ih1 _ _ _ _
   | exact ih2 _ _ _ _
   | exact ih3 _ _ _ _
   | exact LeO.none _
   | refine LeO.ite ?_ ?_
   | refine LeO.bind ?_ (fun _ => ?_)
  ·intro y0 y1 y2 y3
   unfold qaw.j2
   repeat' first
   | (with_reducible exact ih0 _ _ _)
   | (with_reducible exact ih1 _ _ _ _)
   | (with_reducible exact ih2 _ _ _ _)
   | (with_reducible exact ih3 _ _ _ _)
   | (with_reducible exact LeO.refl _)
   | (with_reducible exact LeO.none _)
   | (with_reducible refine LeO.ite ?_ ?_)
   | (with_reducible refine LeO.bind ?_ (fun _ => ?_))
   | exact ih0 _ _ _
   | exact ih1 _ _ _ _
   | exact ih2 _ _ _ _
   | exact ih3 _ _ _ _
   | exact LeO.none _
   | refine LeO.ite ?_ ?_
   | refine LeO.bind ?_ (fun _ => ?_)
  ·intro y0 y1 y2 y3
   unfold qaw.j3
   repeat' first
   | (with_reducible exact ih0 _ _ _)
   | (with_reducible exact ih1 _ _ _ _)
   | (with_reducible exact ih2 _ _ _ _)
   | (with_reducible exact ih3 _ _ _ _)
   | (with_reducible exact LeO.refl _)
   | (with_reducible exact LeO.none _)
   | (with_reducible refine LeO.ite ?_ ?_)
   | (with_reducible refine LeO.bind ?_ (fun _ => ?_))
   | exact ih0 _ _ _
   | exact ih1 _ _ _ _
   | exact ih2 _ _ _ _
   | exact ih3 _ _ _ _
   | exact LeO.none _
   | refine LeO.ite ?_ ?_
   | refine LeO.bind ?_ (fun _ => ?_)
theorem qaw.mono : ∀ a0 a1 k, LeO (qaw.f k a0 a1) (qaw.f (k + 1) a0 a1) := by
 intro a0 a1 k
 obtain ⟨ih0, ih1, ih2, ih3⟩ := qaw.qbs k
 unfold qaw.f
 repeat' first
   | (with_reducible exact ih0 _ _ _)
   | (with_reducible exact ih1 _ _ _ _)
   | (with_reducible exact ih2 _ _ _ _)
   | (with_reducible exact ih3 _ _ _ _)
   | (with_reducible exact LeO.refl _)
   | (with_reducible exact LeO.none _)
   | (with_reducible refine LeO.ite ?_ ?_)
   | (with_reducible refine LeO.bind ?_ (fun _ => ?_))
   | exact ih0 _ _ _
   | exact ih1 _ _ _ _
   | exact ih2 _ _ _ _
   | exact ih3 _ _ _ _
   | exact LeO.none _
   | refine LeO.ite ?_ ?_
   | refine LeO.bind ?_ (fun _ => ?_)
def qaw.T4 : Bool × List (List Nat × List Nat) := (true, [([], []), ([], []), ([1], [1]), ([2], [2]), ([3], [3]), ([], []), ([5], [5]), ([6], [6]), ([7], [7]), ([], []), ([9], [9]), ([10], [10]), ([11], [11]), ([4, 8, 12], [4, 8, 12]), ([13], [13]), ([0, 14], [0, 14]), ([15, 15, 0, 1, 2, 3, 4, 5, 6, 7, 8, 9, 10, 11, 12, 13, 14, 15], [0, 15])])
def qaw.B4 : List Nat := [0, 0, 2, 6, 14, 0, 32, 96, 224, 0, 512, 1536, 3584, 8190, 16382, 32767, 65535]
theorem qaw.tab4 : rtab .any (opsOf Try.f57 4) = qaw.T4 := by kernel_rfl
theorem qaw.bits4 : waitsOk qaw.T4.2 qaw.B4 = true := by kernel_rfl
def qaw.T6 : Bool × List (List Nat × List Nat) := (true, [([], []), ([0], [0]), ([1], [1]), ([2], [2]), ([3], [3]), ([4, 3], [3, 4]), ([5, 3], [3, 5]), ([6, 3, 3], [3, 6]), ([7], [7]), ([8, 7], [7, 8]), ([9, 7], [7, 9]), ([10, 7], [7, 10]), ([7], [7]), ([12, 7], [7, 12]), ([13, 7], [7, 13]), ([14, 7], [7, 14]), ([11, 15, 7], [7, 11, 15]), ([7, 16, 3], [3, 7, 16]), ([3, 17], [3, 17]), ([18, 7], [18])])
def qaw.B6 : List Nat := [0, 1, 3, 7, 15, 31, 63, 127, 255, 511, 1023, 2047, 255, 4351, 12543, 28927, 65535, 131071, 262143, 524287]
theorem qaw.tab6 : rtab .any (opsOf Try.f57 6) = qaw.T6 := by kernel_rfl
theorem qaw.bits6 : waitsOk qaw.T6.2 qaw.B6 = true := by kernel_rfl
def qaw.T7 : Bool × List (List Nat × List Nat) := (true, [([], []), ([], []), ([1], [1]), ([2], [2]), ([3], [3]), ([], []), ([5], [5]), ([6], [6]), ([7], [7]), ([4, 8], [4, 8]), ([9], [9]), ([0, 10], [0, 10]), ([11, 11, 0, 1, 2, 3, 4, 5, 6, 7, 8, 9, 10, 11], [0, 11])])
def qaw.B7 : List Nat := [0, 0, 2, 6, 14, 0, 32, 96, 224, 510, 1022, 2047, 4095]
theorem qaw.tab7 : rtab .any (opsOf Try.f57 7) = qaw.T7 := by kernel_rfl
theorem qaw.bits7 : waitsOk qaw.T7.2 qaw.B7 = true := by kernel_rfl
def qaw.T10 : Bool × List (List Nat × List Nat) := (true, [([], []), ([], []), ([1], [1]), ([2], [2]), ([3], [3]), ([], []), ([5], [5]), ([6], [6]), ([7], [7]), ([4, 8], [4, 8]), ([9], [9]), ([0, 10], [0, 10]), ([11, 11, 0, 1, 2, 3, 4, 5, 6, 7, 8, 9, 10, 11], [0, 11])])
def qaw.B10 : List Nat := [0, 0, 2, 6, 14, 0, 32, 96, 224, 510, 1022, 2047, 4095]
theorem qaw.tab10 : rtab .any (opsOf Try.f57 10) = qaw.T10 := by kernel_rfl
theorem qaw.bits10 : waitsOk qaw.T10.2 qaw.B10 = true := by kernel_rfl
set_option maxHeartbeats 8000000 in
set_option maxRecDepth 100000 in
theorem qaw.calls (k : Nat) (P0_ : Nat → Prop) (A0 : Option Addr) (c0 : Nat) (l0 : List (S76)) (P1_ : Nat → Prop) (A1 : Option Addr) (c1 : Nat) (l1 : List (S76)) (r : List (S82)) (w : World) (hs0 : Kd.V k76 76 w w.heap.size (fun k_ => P0_ k_) (.slice A0 l0.length c0) l0) (hs1 : Kd.V k76 76 w w.heap.size (fun k_ => P1_ k_) (.slice A1 l1.length c1) l1) (h : qaw.f k l0 l1 = some r) :
  Calls Try.prog 57 #[.slice A0 l0.length c0, .slice A1 l1.length c1] w fun e w' => ∃ v0_ : Value, e = .returned (v0_) ∧ Kd.R k82 82 w' w.heap.size (fun k_ => (w.heap.size ≤ k_)) v0_ r ∧ Below w.heap.size w w' := by
 have hu82 := Try.underlying82
 have HO0 := Aside0.mk (show Kd.V k76 76 w w.heap.size (fun k_ => ((P0_ k_ ∨ P1_ k_) ∨ w.heap.size ≤ k_)) (.slice A0 l0.length c0) l0 from Kd.V_mono hs0 (fun k_ hk => .inl (.inl hk)))
 have HO1 := Aside0.mk (show Kd.V k76 76 w w.heap.size (fun k_ => ((P0_ k_ ∨ P1_ k_) ∨ w.heap.size ≤ k_)) (.slice A1 l1.length c1) l1 from Kd.V_mono hs1 (fun k_ hk => .inl (.inr hk)))
 have HB := Aside0.mk (Below.refl w.heap.size w)
 have H : (qaw.l0 k l0 l1 (([] : List (S82)))) = some r := h
 clear h
 obtain ⟨y217, hy217⟩ : ∃ y_ : List (S82), y_ = (([] : List (S82))) := ⟨_, rfl⟩
 replace H : (qaw.l0 k l0 l1 y217) = some r := by first | (rw [hy217]; with_reducible exact H) | (have H2_ := (Option.bind_some _ _).symm.trans H; rw [hy217]; with_reducible exact H2_) | (have H2_ := (Option.bind_some _ _).symm.trans H; with_reducible exact H2_) | with_reducible exact H | (rw [hy217]; exact H) | exact H
 have Ny217 := Aside0.mk hy217
 clear hy217
 have H' := Aside0.mk H
 clear H
 go_enter Try.func57, Try.ntmps57
 go_wp2_with (first | ((with_reducible refine qbc (N := 6) rfl ?_); (try (refine qcg (by rfl) ?_; dsimp only)); refine Kd.qfb k82 _ 82 ?hg (N := 6) ?hd (xs := ([] : List (S82))) (inner := []) (ok := fun _ => True) (okp := fun _ => True) ?hr ?hp (fun _ hk => hk) trivial (Below.refl _ _) (Nat.le_refl _) (by simp) ?_; (case hd => rfl); (case hg => rfl); (case hr => first | (go_simp; done) | (go_simp; rfl)); (case hp => exact (Reps.none _ _)); intro v218 w3 ho4 hb hg_ hnew_; clear hg_ hnew_; (first | rw [← Ny217.out] at ho4 | (simp only [Int.reduceToNat] at ho4; rw [← Ny217.out] at ho4)); have n0_ := Aside0.mk (Kd.qe0 (by (with_reducible repeat (first | apply Kd.qbH | apply Kd.qbI | apply Kd.qbu)); exact HO0.out) (Kd.qb2 ho4) hb); have n1_ := Aside0.mk (Kd.qe0 (by (with_reducible repeat (first | apply Kd.qbH | apply Kd.qbI | apply Kd.qbu)); exact HO1.out) (Kd.qb2 ho4) hb); have n2_ := Aside0.mk (Kd.qbL (Kd.R_newM (M := fun k_ => (w.heap.size ≤ k_)) ho4 (qau (by repeat (first | (with_reducible first | exact HB.out | apply qac | apply qaa | apply qab) | exact HB.out))) (fun k_ h_ => h_)) (qau (by repeat (first | (with_reducible first | exact HB.out | apply qac | apply qaa | apply qab) | exact HB.out)))); have n3_ := Aside0.mk (qak (by repeat (first | (with_reducible first | exact HB.out | apply qac | apply qaa | apply qab) | exact HB.out)) hb); clear HO0; clear HO1; clear HB; have HO0 := n0_; have HO1 := n1_; have HO219 := n2_; have HB := n3_; clear n0_ n1_ n2_ n3_; clear hb ho4))
 go_loopg [0, 1, 5] k (fun kq v0 v1 v5 w' => ∃ (x0_1 : List (S76)) (x1_1 : List (S76)) (x5_1 : List (S82)), Aside0 (qaw.l0 kq x0_1 x1_1 x5_1 = some r) ∧ Aside0 (kq ≤ k) ∧ Aside0 (Kd.V k76 76 w' w.heap.size (fun k_ => ((P0_ k_ ∨ P1_ k_) ∨ w.heap.size ≤ k_) ∧ some k_ ≠ (v5 : Value).ownBlock) v0 x0_1) ∧ Aside0 (Kd.V k76 76 w' w.heap.size (fun k_ => ((P0_ k_ ∨ P1_ k_) ∨ w.heap.size ≤ k_) ∧ some k_ ≠ (v5 : Value).ownBlock) v1 x1_1) ∧ Aside0 (Kd.R k82 82 w' w.heap.size (fun k_ => (w.heap.size ≤ k_)) v5 x5_1) ∧ Aside0 (Below w.heap.size w w'))
 case atStart => exact ⟨(l0), (l1), (y217), H', ⟨Nat.le_refl _⟩, ⟨by (with_reducible repeat (first | apply Kd.qbH | apply Kd.qbI | apply Kd.qbu)); exact HO0.out⟩, ⟨by (with_reducible repeat (first | apply Kd.qbH | apply Kd.qbI | apply Kd.qbu)); exact HO1.out⟩, ⟨by (with_reducible repeat (first | apply Kd.qar | apply Kd.qas | apply Kd.qax)); exact Kd.qbn HO219.out (fun _ hk => hk.1)⟩, ⟨by repeat (first | (with_reducible first | exact HB.out | apply qac | apply qaa | apply qab) | exact HB.out)⟩⟩
 case round =>
  clear H'
  try clear c1
  try clear p2
  obtain ⟨x0_1, x1_1, x5_1, HA, HK1, HO_0, HO_1, HO_5, HB⟩ := hrel
  cases gk with
  | zero => exact absurd HA.out (by simp [qaw.l0])
  | succ k1 =>
   have H := HA.out
   clear HA
   simp only [qaw.l0] at H
   have HC5 := Aside0.mk H
   clear H
   go_upto_region 2 with (fail)
   go_cut [14] (fun v14 wc => ∃ (kq : Nat) (x14_4 : Bool), v14 = .bool x14_4 ∧ Aside0 (qaw.j1 kq x0_1 x1_1 x5_1 x14_4 = some r) ∧ Aside0 (kq ≤ k1) ∧ Aside0 (Kd.V k76 76 wc w.heap.size (fun k_ => ((P0_ k_ ∨ P1_ k_) ∨ w.heap.size ≤ k_) ∧ some k_ ≠ (u5 : Value).ownBlock) u0 x0_1) ∧ Aside0 (Kd.V k76 76 wc w.heap.size (fun k_ => ((P0_ k_ ∨ P1_ k_) ∨ w.heap.size ≤ k_) ∧ some k_ ≠ (u5 : Value).ownBlock) u1 x1_1) ∧ Aside0 (Kd.R k82 82 wc w.heap.size (fun k_ => (w.heap.size ≤ k_)) u5 x5_1) ∧ Aside0 (Below w.heap.size w wc))
   case first =>
    have H := HC5.out
    clear HC5
    by_cases c6 : (x0_1.length : Int) > 0
    ·rw [if_pos c6] at H
     have c6b0 : decide (0 < (x0_1.length : Int)) = true := decide_eq_true c6
     have c6b1 : decide (0 < x0_1.length) = true := decide_eq_true (by omega)
     clear c6
     (first | rw [c6b0] | (simp only [qbh, qbi]; rw [c6b0]) | skip)
     have H' := Aside0.mk H
     clear H
     obtain ⟨Ao7, co7, eo7⟩ := Kd.qb5 HO_0.out
     subst eo7
     go_wp2
     go_meet
     case rel => exact ⟨_, (true), (by first | rfl | (simp; done) | (simp [*]; done)), H', ⟨by have := HK1.out; first | omega | exact Nat.le_refl _⟩, ⟨by (with_reducible repeat (first | apply Kd.qbH | apply Kd.qbI | apply Kd.qbu)); exact HO_0.out⟩, ⟨by (with_reducible repeat (first | apply Kd.qbH | apply Kd.qbI | apply Kd.qbu)); exact HO_1.out⟩, ⟨by (with_reducible repeat (first | apply Kd.qar | apply Kd.qas | apply Kd.qax)); exact HO_5.out⟩, ⟨by repeat (first | (with_reducible first | exact HB.out | apply qac | apply qaa | apply qab) | exact HB.out)⟩⟩
    ·rw [if_neg c6] at H
     have c6b0 : decide (0 < (x0_1.length : Int)) = false := decide_eq_false c6
     have c6b1 : decide (0 < x0_1.length) = false := decide_eq_false (by omega)
     clear c6
     (first | rw [c6b0] | (simp only [qbh, qbi]; rw [c6b0]) | skip)
     have H' := Aside0.mk H
     clear H
     obtain ⟨Ao8, co8, eo8⟩ := Kd.qb5 HO_0.out
     subst eo8
     obtain ⟨Ao9, co9, eo9⟩ := Kd.qb5 HO_1.out
     subst eo9
     go_wp2
     go_meet
     case rel => exact ⟨_, (decide ((x1_1.length : Int) > 0)), (by first | rfl | (simp; done) | (simp [*]; done)), H', ⟨by have := HK1.out; first | omega | exact Nat.le_refl _⟩, ⟨by (with_reducible repeat (first | apply Kd.qbH | apply Kd.qbI | apply Kd.qbu)); exact HO_0.out⟩, ⟨by (with_reducible repeat (first | apply Kd.qbH | apply Kd.qbI | apply Kd.qbu)); exact HO_1.out⟩, ⟨by (with_reducible repeat (first | apply Kd.qar | apply Kd.qas | apply Kd.qax)); exact HO_5.out⟩, ⟨by repeat (first | (with_reducible first | exact HB.out | apply qac | apply qaa | apply qab) | exact HB.out)⟩⟩
   case rest =>
    clear HC5
    try clear c1
    try clear p2
    try clear c5
    try clear c6
    try clear c6b0
    try clear c6b1
    try clear p2
    obtain ⟨kq, x14_4, rfl, HA, HJ4, HO_0, HO_1, HO_5, HB⟩ := hcut
    cases kq with
    | zero => exact absurd HA.out (by simp [qaw.j1])
    | succ kj4 =>
     have H := HA.out
     clear HA
     simp only [qaw.j1] at H
     by_cases c10 : x14_4 = true
     ·subst c10
      have H1 : (if (x1_1.length : Int) = 0 then (qaw.j2 kj4 x0_1 x1_1 x5_1 true) else (if (x0_1.length : Int) > 0 then (if 0 < (x0_1.length : Int) then (if 0 < (x1_1.length : Int) then (qaw.j2 kj4 x0_1 x1_1 x5_1 (Op.bytesLess (((qal x0_1 0).f0).toList) (((qal x1_1 0).f0).toList))) else (none)) else (none)) else (qaw.j2 kj4 x0_1 x1_1 x5_1 false))) = some r := by rw [if_pos rfl] at H; exact H
      clear H
      have H := H1
      clear H1
      have HC11 := Aside0.mk H
      clear H
      go_upto_region 6 with (fail)
      go_cut [44] (fun v44 wc => ∃ (kq : Nat) (x44_10 : Bool), v44 = .bool x44_10 ∧ Aside0 (qaw.j2 kq x0_1 x1_1 x5_1 x44_10 = some r) ∧ Aside0 (kq ≤ kj4) ∧ Aside0 (Kd.V k76 76 wc w.heap.size (fun k_ => ((P0_ k_ ∨ P1_ k_) ∨ w.heap.size ≤ k_) ∧ some k_ ≠ (u5 : Value).ownBlock) u0 x0_1) ∧ Aside0 (Kd.V k76 76 wc w.heap.size (fun k_ => ((P0_ k_ ∨ P1_ k_) ∨ w.heap.size ≤ k_) ∧ some k_ ≠ (u5 : Value).ownBlock) u1 x1_1) ∧ Aside0 (Kd.R k82 82 wc w.heap.size (fun k_ => (w.heap.size ≤ k_)) u5 x5_1) ∧ Aside0 (Below w.heap.size w wc))
      case first =>
       have H := HC11.out
       clear HC11
       by_cases c12 : (x1_1.length : Int) = 0
       ·rw [if_pos c12] at H
        have c12b0 : ((x1_1.length : Int) == 0) = true := beq_iff_eq.mpr c12
        have c12b1 : ((x1_1.length : Int) != 0) = false := bne_eq_false_iff_eq.mpr c12
        clear c12
        (first | rw [c12b0] | (simp only [qbh, qbi]; rw [c12b0]) | skip)
        have H' := Aside0.mk H
        clear H
        try go_wp2
        have n0_ := Aside0.mk (Kd.qbu HO_0.out)
        have n1_ := Aside0.mk (Kd.qbu HO_1.out)
        have n2_ := Aside0.mk (Kd.qax HO_5.out)
        have n3_ := Aside0.mk (qab HB.out)
        clear HO_0
        clear HO_1
        clear HO_5
        clear HB
        have HO_0 := n0_
        have HO_1 := n1_
        have HO_5 := n2_
        have HB := n3_
        clear n0_ n1_ n2_ n3_
        obtain ⟨Ao14, co14, eo14⟩ := Kd.qb5 HO_1.out
        (first | subst eo14 | (injection eo14 with f1_ f2_ f3_; have f4_ := f1_.symm; have f5_ := f3_.symm; clear f1_ f2_ f3_; subst f4_; subst f5_))
        refine qaF (by kernel_rfl) (by kernel_rfl) ?_
        generalize wc.drew = w13b at HO_0 HO_1 HO_5 HB ⊢
        repeat (first | go_big_quiet_step (fail) | quiet_step (fail))
        refine wpQuiet_nil ?_
        rintro w13 ⟨⟨wq_, hbL⟩, hq_⟩
        have hq2_ : w13 = wq_ := hq_
        clear hq_
        subst hq2_
        have nHO_0_ := by first | exact Aside0.mk (qak HO_0.out hbL) | exact Aside0.mk (Kd.qaA HO_0.out hbL) | exact Aside0.mk (Kd.qbz HO_0.out hbL) | exact Aside0.mk (Kd.qbA HO_0.out hbL) | exact Aside0.mk (Kd.qbB HO_0.out hbL) | exact Aside0.mk (Kd.qbx HO_0.out hbL) | exact Aside0.mk (Kd.qa2 HO_0.out hbL) | exact Aside0.mk ((hbL.block _ (qbj HO_0.out)).trans HO_0.out)
        have nHO_1_ := by first | exact Aside0.mk (qak HO_1.out hbL) | exact Aside0.mk (Kd.qaA HO_1.out hbL) | exact Aside0.mk (Kd.qbz HO_1.out hbL) | exact Aside0.mk (Kd.qbA HO_1.out hbL) | exact Aside0.mk (Kd.qbB HO_1.out hbL) | exact Aside0.mk (Kd.qbx HO_1.out hbL) | exact Aside0.mk (Kd.qa2 HO_1.out hbL) | exact Aside0.mk ((hbL.block _ (qbj HO_1.out)).trans HO_1.out)
        have nHO_5_ := by first | exact Aside0.mk (qak HO_5.out hbL) | exact Aside0.mk (Kd.qaA HO_5.out hbL) | exact Aside0.mk (Kd.qbz HO_5.out hbL) | exact Aside0.mk (Kd.qbA HO_5.out hbL) | exact Aside0.mk (Kd.qbB HO_5.out hbL) | exact Aside0.mk (Kd.qbx HO_5.out hbL) | exact Aside0.mk (Kd.qa2 HO_5.out hbL) | exact Aside0.mk ((hbL.block _ (qbj HO_5.out)).trans HO_5.out)
        have nHB_ := Aside0.mk (qak HB.out hbL)
        clear HO_0
        clear HO_1
        clear HO_5
        clear HB
        have HO_0 := nHO_0_
        have HO_1 := nHO_1_
        have HO_5 := nHO_5_
        have HB := nHB_
        clear nHO_0_
        clear nHO_1_
        clear nHO_5_
        clear nHB_
        clear hbL
        try go_wp2
        go_meet
        case rel => exact ⟨_, (true), (by first | rfl | (simp; done) | (simp [*]; done)), H', ⟨by have := HK1.out; have := HJ4.out; first | omega | exact Nat.le_refl _⟩, ⟨by (with_reducible repeat (first | apply Kd.qbH | apply Kd.qbI | apply Kd.qbu)); exact HO_0.out⟩, ⟨by (with_reducible repeat (first | apply Kd.qbH | apply Kd.qbI | apply Kd.qbu)); exact HO_1.out⟩, ⟨by (with_reducible repeat (first | apply Kd.qar | apply Kd.qas | apply Kd.qax)); exact HO_5.out⟩, ⟨by repeat (first | (with_reducible first | exact HB.out | apply qac | apply qaa | apply qab) | exact HB.out)⟩⟩
       ·rw [if_neg c12] at H
        have c12b0 : ((x1_1.length : Int) == 0) = false := beq_eq_false_iff_ne.mpr c12
        have c12b1 : ((x1_1.length : Int) != 0) = true := bne_iff_ne.mpr c12
        have c12b2 : ¬ (x1_1 = []) := fun h_ => c12 (by rw [h_]; rfl)
        (first | rw [c12b0] | (simp only [qbh, qbi]; rw [c12b0]) | skip)
        by_cases c15 : (x0_1.length : Int) > 0
        ·rw [if_pos c15] at H
         have c15b0 : decide (0 < (x0_1.length : Int)) = true := decide_eq_true c15
         have c15b1 : decide (0 < x0_1.length) = true := decide_eq_true (by omega)
         clear c15
         by_cases c16 : 0 < (x0_1.length : Int)
         ·rw [if_pos c16] at H
          have c16b0 : decide (0 < (x0_1.length : Int)) = true := decide_eq_true c16
          have c16b1 : decide (0 < x0_1.length) = true := decide_eq_true (by omega)
          clear c16
          by_cases c17 : 0 < (x1_1.length : Int)
          ·rw [if_pos c17] at H
           have c17b0 : decide (0 < (x1_1.length : Int)) = true := decide_eq_true c17
           have c17b1 : decide (0 < x1_1.length) = true := decide_eq_true (by omega)
           clear c17
           have H' := Aside0.mk H
           clear H
           try go_wp2
           have n0_ := Aside0.mk (Kd.qbu HO_0.out)
           have n1_ := Aside0.mk (Kd.qbu HO_1.out)
           have n2_ := Aside0.mk (Kd.qax HO_5.out)
           have n3_ := Aside0.mk (qab HB.out)
           clear HO_0
           clear HO_1
           clear HO_5
           clear HB
           have HO_0 := n0_
           have HO_1 := n1_
           have HO_5 := n2_
           have HB := n3_
           clear n0_ n1_ n2_ n3_
           obtain ⟨Ao19, co19, eo19⟩ := Kd.qb5 HO_1.out
           (first | subst eo19 | (injection eo19 with f1_ f2_ f3_; have f4_ := f1_.symm; have f5_ := f3_.symm; clear f1_ f2_ f3_; subst f4_; subst f5_))
           obtain ⟨Ao20, co20, eo20⟩ := Kd.qb5 HO_0.out
           (first | subst eo20 | (injection eo20 with f1_ f2_ f3_; have f4_ := f1_.symm; have f5_ := f3_.symm; clear f1_ f2_ f3_; subst f4_; subst f5_))
           have p220 : 0 ≤ (0 : Int) := (by omega)
           have q220 : 0 < (x0_1.length : Int) := of_decide_eq_true (by first | (with_reducible assumption) | assumption)
           obtain ⟨ad220, e220, hx220_0, hx220_1⟩ := qbv (Kd.qbQ HO_0.out).2.2 0 p220 q220
           cases e220
           have qi220 : (0 < x0_1.length) = True := eq_true (by omega)
           (try rw [show ((0 : Int)).toNat = 0 from rfl] at hx220_0)
           (try rw [show 0 * 2 = 0 from rfl] at hx220_0)
           (try rw [Addr.add_zero'] at hx220_0)
           (try rw [show ((0 : Int)).toNat = 0 from rfl] at hx220_1)
           (try rw [show 0 * 2 = 0 from rfl] at hx220_1)
           (try rw [Addr.add_zero'] at hx220_1)
           replace p220 := eq_true p220
           replace q220 := eq_true q220
           have p221 : 0 ≤ (0 : Int) := (by omega)
           have q221 : 0 < (x1_1.length : Int) := of_decide_eq_true (by first | (with_reducible assumption) | assumption)
           obtain ⟨ad221, e221, hx221_0, hx221_1⟩ := qbv (Kd.qbQ HO_1.out).2.2 0 p221 q221
           cases e221
           have qi221 : (0 < x1_1.length) = True := eq_true (by omega)
           (try rw [show ((0 : Int)).toNat = 0 from rfl] at hx221_0)
           (try rw [show 0 * 2 = 0 from rfl] at hx221_0)
           (try rw [Addr.add_zero'] at hx221_0)
           (try rw [show ((0 : Int)).toNat = 0 from rfl] at hx221_1)
           (try rw [show 0 * 2 = 0 from rfl] at hx221_1)
           (try rw [Addr.add_zero'] at hx221_1)
           replace p221 := eq_true p221
           replace q221 := eq_true q221
           refine qaF (by kernel_rfl) (by kernel_rfl) ?_
           have hL0_ := Aside0.mk (show wc.drew.cell? ad220 = some (.string ((qal x0_1 0).f0)) from hx220_0)
           have hL1_ := Aside0.mk (show wc.drew.cell? ⟨ad220.block, ad220.off + 1, none⟩ = some (.string ((qal x0_1 0).f1)) from hx220_1)
           have hL2_ := Aside0.mk (show wc.drew.cell? ad221 = some (.string ((qal x1_1 0).f0)) from hx221_0)
           have hL3_ := Aside0.mk (show wc.drew.cell? ⟨ad221.block, ad221.off + 1, none⟩ = some (.string ((qal x1_1 0).f1)) from hx221_1)
           generalize wc.drew = w18b at HO_0 HO_1 HO_5 HB hx220_0 hx220_1 hx221_0 hx221_1 hL0_ hL1_ hL2_ hL3_ ⊢
           clear hx220_0 hx220_1 hx221_0 hx221_1
           have hL0 := fun (p_ : Later w18b) => Later.cell p_ hL0_.out
           have hL1 := fun (p_ : Later w18b) => Later.cell p_ hL1_.out
           have hL2 := fun (p_ : Later w18b) => Later.cell p_ hL2_.out
           have hL3 := fun (p_ : Later w18b) => Later.cell p_ hL3_.out
           clear hL0_ hL1_ hL2_ hL3_
           repeat (first | go_big_quiet_step (fail) | quiet_step (fail))
           refine wpQuiet_nil ?_
           rintro w18 ⟨⟨wq_, hbL⟩, hq_⟩
           have hq2_ : w18 = wq_ := hq_
           clear hq_
           subst hq2_
           clear hL0 hL1 hL2 hL3
           have nHO_0_ := by first | exact Aside0.mk (qak HO_0.out hbL) | exact Aside0.mk (Kd.qaA HO_0.out hbL) | exact Aside0.mk (Kd.qbz HO_0.out hbL) | exact Aside0.mk (Kd.qbA HO_0.out hbL) | exact Aside0.mk (Kd.qbB HO_0.out hbL) | exact Aside0.mk (Kd.qbx HO_0.out hbL) | exact Aside0.mk (Kd.qa2 HO_0.out hbL) | exact Aside0.mk ((hbL.block _ (qbj HO_0.out)).trans HO_0.out)
           have nHO_1_ := by first | exact Aside0.mk (qak HO_1.out hbL) | exact Aside0.mk (Kd.qaA HO_1.out hbL) | exact Aside0.mk (Kd.qbz HO_1.out hbL) | exact Aside0.mk (Kd.qbA HO_1.out hbL) | exact Aside0.mk (Kd.qbB HO_1.out hbL) | exact Aside0.mk (Kd.qbx HO_1.out hbL) | exact Aside0.mk (Kd.qa2 HO_1.out hbL) | exact Aside0.mk ((hbL.block _ (qbj HO_1.out)).trans HO_1.out)
           have nHO_5_ := by first | exact Aside0.mk (qak HO_5.out hbL) | exact Aside0.mk (Kd.qaA HO_5.out hbL) | exact Aside0.mk (Kd.qbz HO_5.out hbL) | exact Aside0.mk (Kd.qbA HO_5.out hbL) | exact Aside0.mk (Kd.qbB HO_5.out hbL) | exact Aside0.mk (Kd.qbx HO_5.out hbL) | exact Aside0.mk (Kd.qa2 HO_5.out hbL) | exact Aside0.mk ((hbL.block _ (qbj HO_5.out)).trans HO_5.out)
           have nHB_ := Aside0.mk (qak HB.out hbL)
           clear HO_0
           clear HO_1
           clear HO_5
           clear HB
           have HO_0 := nHO_0_
           have HO_1 := nHO_1_
           have HO_5 := nHO_5_
           have HB := nHB_
           clear nHO_0_
           clear nHO_1_
           clear nHO_5_
           clear nHB_
           clear hbL
           try go_wp2
           go_meet
           case rel => exact ⟨_, ((Op.bytesLess (((qal x0_1 0).f0).toList) (((qal x1_1 0).f0).toList))), (by first | rfl | (simp; done) | (simp [*]; done)), H', ⟨by have := HK1.out; have := HJ4.out; first | omega | exact Nat.le_refl _⟩, ⟨by (with_reducible repeat (first | apply Kd.qbH | apply Kd.qbI | apply Kd.qbu)); exact HO_0.out⟩, ⟨by (with_reducible repeat (first | apply Kd.qbH | apply Kd.qbI | apply Kd.qbu)); exact HO_1.out⟩, ⟨by (with_reducible repeat (first | apply Kd.qar | apply Kd.qas | apply Kd.qax)); exact HO_5.out⟩, ⟨by repeat (first | (with_reducible first | exact HB.out | apply qac | apply qaa | apply qab) | exact HB.out)⟩⟩
          ·rw [if_neg c17] at H
           exact absurd H (by simp)
         ·rw [if_neg c16] at H
          exact absurd H (by simp)
        ·rw [if_neg c15] at H
         have c15b0 : decide (0 < (x0_1.length : Int)) = false := decide_eq_false c15
         have c15b1 : decide (0 < x0_1.length) = false := decide_eq_false (by omega)
         clear c15
         have H' := Aside0.mk H
         clear H
         try go_wp2
         have n0_ := Aside0.mk (Kd.qbu HO_0.out)
         have n1_ := Aside0.mk (Kd.qbu HO_1.out)
         have n2_ := Aside0.mk (Kd.qax HO_5.out)
         have n3_ := Aside0.mk (qab HB.out)
         clear HO_0
         clear HO_1
         clear HO_5
         clear HB
         have HO_0 := n0_
         have HO_1 := n1_
         have HO_5 := n2_
         have HB := n3_
         clear n0_ n1_ n2_ n3_
         obtain ⟨Ao22, co22, eo22⟩ := Kd.qb5 HO_1.out
         (first | subst eo22 | (injection eo22 with f1_ f2_ f3_; have f4_ := f1_.symm; have f5_ := f3_.symm; clear f1_ f2_ f3_; subst f4_; subst f5_))
         obtain ⟨Ao23, co23, eo23⟩ := Kd.qb5 HO_0.out
         (first | subst eo23 | (injection eo23 with f1_ f2_ f3_; have f4_ := f1_.symm; have f5_ := f3_.symm; clear f1_ f2_ f3_; subst f4_; subst f5_))
         refine qaF (by kernel_rfl) (by kernel_rfl) ?_
         generalize wc.drew = w21b at HO_0 HO_1 HO_5 HB ⊢
         repeat (first | go_big_quiet_step (fail) | quiet_step (fail))
         refine wpQuiet_nil ?_
         rintro w21 ⟨⟨wq_, hbL⟩, hq_⟩
         have hq2_ : w21 = wq_ := hq_
         clear hq_
         subst hq2_
         have nHO_0_ := by first | exact Aside0.mk (qak HO_0.out hbL) | exact Aside0.mk (Kd.qaA HO_0.out hbL) | exact Aside0.mk (Kd.qbz HO_0.out hbL) | exact Aside0.mk (Kd.qbA HO_0.out hbL) | exact Aside0.mk (Kd.qbB HO_0.out hbL) | exact Aside0.mk (Kd.qbx HO_0.out hbL) | exact Aside0.mk (Kd.qa2 HO_0.out hbL) | exact Aside0.mk ((hbL.block _ (qbj HO_0.out)).trans HO_0.out)
         have nHO_1_ := by first | exact Aside0.mk (qak HO_1.out hbL) | exact Aside0.mk (Kd.qaA HO_1.out hbL) | exact Aside0.mk (Kd.qbz HO_1.out hbL) | exact Aside0.mk (Kd.qbA HO_1.out hbL) | exact Aside0.mk (Kd.qbB HO_1.out hbL) | exact Aside0.mk (Kd.qbx HO_1.out hbL) | exact Aside0.mk (Kd.qa2 HO_1.out hbL) | exact Aside0.mk ((hbL.block _ (qbj HO_1.out)).trans HO_1.out)
         have nHO_5_ := by first | exact Aside0.mk (qak HO_5.out hbL) | exact Aside0.mk (Kd.qaA HO_5.out hbL) | exact Aside0.mk (Kd.qbz HO_5.out hbL) | exact Aside0.mk (Kd.qbA HO_5.out hbL) | exact Aside0.mk (Kd.qbB HO_5.out hbL) | exact Aside0.mk (Kd.qbx HO_5.out hbL) | exact Aside0.mk (Kd.qa2 HO_5.out hbL) | exact Aside0.mk ((hbL.block _ (qbj HO_5.out)).trans HO_5.out)
         have nHB_ := Aside0.mk (qak HB.out hbL)
         clear HO_0
         clear HO_1
         clear HO_5
         clear HB
         have HO_0 := nHO_0_
         have HO_1 := nHO_1_
         have HO_5 := nHO_5_
         have HB := nHB_
         clear nHO_0_
         clear nHO_1_
         clear nHO_5_
         clear nHB_
         clear hbL
         try go_wp2
         go_meet
         case rel => exact ⟨_, (false), (by first | rfl | (simp; done) | (simp [*]; done)), H', ⟨by have := HK1.out; have := HJ4.out; first | omega | exact Nat.le_refl _⟩, ⟨by (with_reducible repeat (first | apply Kd.qbH | apply Kd.qbI | apply Kd.qbu)); exact HO_0.out⟩, ⟨by (with_reducible repeat (first | apply Kd.qbH | apply Kd.qbI | apply Kd.qbu)); exact HO_1.out⟩, ⟨by (with_reducible repeat (first | apply Kd.qar | apply Kd.qas | apply Kd.qax)); exact HO_5.out⟩, ⟨by repeat (first | (with_reducible first | exact HB.out | apply qac | apply qaa | apply qab) | exact HB.out)⟩⟩
      case rest =>
       clear HC11
       try clear c1
       try clear p2
       try clear q2
       try clear hx2
       try clear qi2
       try clear c5
       try clear c6
       try clear c6b0
       try clear c6b1
       try clear c10
       try clear c12
       try clear c12b0
       try clear c12b1
       try clear c12b2
       try clear c15
       try clear c15b0
       try clear c15b1
       try clear c16
       try clear c16b0
       try clear c16b1
       try clear c17
       try clear c17b0
       try clear c17b1
       try clear p22
       try clear q22
       try clear hx22
       try clear qi22
       try clear hx220_0
       try clear hx220_1
       try clear hx221_0
       try clear hx221_1
       try clear p2
       try clear p220
       try clear p221
       try clear q220
       try clear q221
       obtain ⟨kq, x44_10, rfl, HA, HJ10, HO_0, HO_1, HO_5, HB⟩ := hcut
       cases kq with
       | zero => exact absurd HA.out (by simp [qaw.j2])
       | succ kj10 =>
        have H := HA.out
        clear HA
        simp only [qaw.j2] at H
        by_cases c24 : x44_10 = true
        ·subst c24
         have H1 : (if 0 < (x0_1.length : Int) then (if x5_1.length < 2513169434916 then (if 1 ≤ (x0_1.length : Int) then (qaw.l0 kj10 (x0_1.drop 1) x1_1 (x5_1 ++ [(⟨(qal x0_1 0).f0, (qal x0_1 0).f1, (⟨#[]⟩ : ByteArray), true, false⟩ : S82)])) else (none)) else (none)) else (none)) = some r := by rw [if_pos rfl] at H; exact H
         clear H
         have H := H1
         clear H1
         by_cases c25 : 0 < (x0_1.length : Int)
         ·rw [if_pos c25] at H
          have c25b0 : decide (0 < (x0_1.length : Int)) = true := decide_eq_true c25
          have c25b1 : decide (0 < x0_1.length) = true := decide_eq_true (by omega)
          clear c25
          by_cases c26 : x5_1.length < 2513169434916
          ·rw [if_pos c26] at H
           have LMc26 := Aside0.mk c26
           clear c26
           obtain ⟨y224, hy224⟩ : ∃ y_ : List (S82), y_ = (x5_1 ++ [(⟨(qal x0_1 0).f0, (qal x0_1 0).f1, (⟨#[]⟩ : ByteArray), true, false⟩ : S82)]) := ⟨_, rfl⟩
           replace H : (if 1 ≤ (x0_1.length : Int) then (qaw.l0 kj10 (x0_1.drop 1) x1_1 y224) else (none)) = some r := by first | (rw [hy224]; with_reducible exact H) | (have H2_ := (Option.bind_some _ _).symm.trans H; rw [hy224]; with_reducible exact H2_) | (have H2_ := (Option.bind_some _ _).symm.trans H; with_reducible exact H2_) | with_reducible exact H | (rw [hy224]; exact H) | exact H
           have Ny224 := Aside0.mk hy224
           clear hy224
           by_cases c27 : 1 ≤ (x0_1.length : Int)
           ·rw [if_pos c27] at H
            have c27b0 := eq_true c27
            have c27b1 : decide (1 ≤ (x0_1.length : Int)) = true := decide_eq_true c27
            clear c27
            obtain ⟨y227, hy227⟩ : ∃ y_ : List (S76), y_ = (x0_1.drop 1) := ⟨_, rfl⟩
            replace H : (qaw.l0 kj10 y227 x1_1 y224) = some r := by first | (rw [hy227]; with_reducible exact H) | (have H2_ := (Option.bind_some _ _).symm.trans H; rw [hy227]; with_reducible exact H2_) | (have H2_ := (Option.bind_some _ _).symm.trans H; with_reducible exact H2_) | with_reducible exact H | (rw [hy227]; exact H) | exact H
            have Ny227 := Aside0.mk hy227
            clear hy227
            have H' := Aside0.mk H
            clear H
            try go_wp2
            have n0_ := Aside0.mk (Kd.qbu HO_0.out)
            have n1_ := Aside0.mk (Kd.qbu HO_1.out)
            have n2_ := Aside0.mk (Kd.qax HO_5.out)
            have n3_ := Aside0.mk (qab HB.out)
            clear HO_0
            clear HO_1
            clear HO_5
            clear HB
            have HO_0 := n0_
            have HO_1 := n1_
            have HO_5 := n2_
            have HB := n3_
            clear n0_ n1_ n2_ n3_
            obtain ⟨Ao29, co29, eo29⟩ := Kd.qb5 HO_0.out
            (first | subst eo29 | (injection eo29 with f1_ f2_ f3_; have f4_ := f1_.symm; have f5_ := f3_.symm; clear f1_ f2_ f3_; subst f4_; subst f5_))
            have p222 : 0 ≤ (0 : Int) := (by omega)
            have q222 : 0 < (x0_1.length : Int) := of_decide_eq_true (by first | (with_reducible assumption) | assumption)
            obtain ⟨ad222, e222, hx222_0, hx222_1⟩ := qbv (Kd.qbQ HO_0.out).2.2 0 p222 q222
            cases e222
            have qi222 : (0 < x0_1.length) = True := eq_true (by omega)
            (try rw [show ((0 : Int)).toNat = 0 from rfl] at hx222_0)
            (try rw [show 0 * 2 = 0 from rfl] at hx222_0)
            (try rw [Addr.add_zero'] at hx222_0)
            (try rw [show ((0 : Int)).toNat = 0 from rfl] at hx222_1)
            (try rw [show 0 * 2 = 0 from rfl] at hx222_1)
            (try rw [Addr.add_zero'] at hx222_1)
            replace p222 := eq_true p222
            replace q222 := eq_true q222
            have p223 : 0 ≤ (0 : Int) := (by omega)
            have q223 : 0 < (x0_1.length : Int) := of_decide_eq_true (by first | (with_reducible assumption) | assumption)
            obtain ⟨ad223, e223, hx223_0, hx223_1⟩ := qbv (Kd.qbQ HO_0.out).2.2 0 p223 q223
            obtain rfl : ad222 = ad223 := (by injection e223)
            have qi223 : (0 < x0_1.length) = True := eq_true (by omega)
            (try rw [show ((0 : Int)).toNat = 0 from rfl] at hx223_0)
            (try rw [show 0 * 2 = 0 from rfl] at hx223_0)
            (try rw [Addr.add_zero'] at hx223_0)
            (try rw [show ((0 : Int)).toNat = 0 from rfl] at hx223_1)
            (try rw [show 0 * 2 = 0 from rfl] at hx223_1)
            (try rw [Addr.add_zero'] at hx223_1)
            replace p223 := eq_true p223
            replace q223 := eq_true q223
            refine qdz (n := 13) (S := fun w' => w'.cell? ad222 = some (.string ((qal x0_1 0).f0)) ∧ w'.cell? ⟨ad222.block, ad222.off + 1, none⟩ = some (.string ((qal x0_1 0).f1)) ∧ w'.cell? ad222 = some (.string ((qal x0_1 0).f0)) ∧ w'.cell? ⟨ad222.block, ad222.off + 1, none⟩ = some (.string ((qal x0_1 0).f1))) (ds := [10, 11]) #[false, false, false, false, false, false, false, false, false, false, false, false, false] (by kernel_rfl) rfl rfl ⟨hx222_0, hx222_1, hx223_0, hx223_1⟩ (fun hHeld => ?_); refine qcq qaw.tab7 qaw.bits7 (fun HT_ HW_ => ?_)
            generalize wc.drew = w28 at HO_0 HO_1 HO_5 HB hx222_0 hx222_1 hx223_0 hx223_1 hHeld ⊢
            refine qby (i := 0) (N := some 64) (v := ?_) (a' := ?_) #[true, false, false, false, false, false, false, false, false, false, false, false, false] rfl rfl (qbo HT_.out (by kernel_rfl)) (fun _ _ _ h => h) (Or.inl ⟨by rfl, ?_⟩) ?_ ?_
            rotate_left
            ·intro w'
             go_simp
             with_reducible rfl
            rotate_left
            ·simp only [Act.put, List.setIfInBounds_toArray, List.set_cons_zero, List.set_cons_succ, qbh, qbi]
             rfl
            refine qby (i := 1) (N := some 65) (v := ?_) (a' := ?_) #[true, true, false, false, false, false, false, false, false, false, false, false, false] rfl rfl (qbo HT_.out (by kernel_rfl)) (fun _ _ _ h => h) (Or.inl ⟨by rfl, ?_⟩) ?_ ?_
            rotate_left
            ·intro w'
             go_simp
             with_reducible rfl
            rotate_left
            ·simp only [Act.put, List.setIfInBounds_toArray, List.set_cons_zero, List.set_cons_succ, qbh, qbi]
             rfl
            refine qby (i := 2) (N := some 66) (v := ?_) (a' := ?_) #[true, true, true, false, false, false, false, false, false, false, false, false, false] rfl rfl (qbo HT_.out (by kernel_rfl)) (fun _ _ _ h => h) (Or.inl ⟨by rfl, ?_⟩) ?_ ?_
            rotate_left
            ·intro w'
             go_simp
             with_reducible rfl
            rotate_left
            ·simp only [Act.put, List.setIfInBounds_toArray, List.set_cons_zero, List.set_cons_succ, qbh, qbi]
             rfl
            refine qby (i := 3) (N := some 67) (v := ?_) (a' := ?_) #[true, true, true, true, false, false, false, false, false, false, false, false, false] rfl rfl (qbo HT_.out (by kernel_rfl)) (fun _ _ _ h => h) (Or.inl ⟨by rfl, ?_⟩) ?_ ?_
            rotate_left
            ·intro w'
             go_simp
             with_reducible rfl
            rotate_left
            ·simp only [Act.put, List.setIfInBounds_toArray, List.set_cons_zero, List.set_cons_succ, qbh, qbi]
             rfl
            refine qby (i := 5) (N := some 69) (v := ?_) (a' := ?_) #[true, true, true, true, false, true, false, false, false, false, false, false, false] rfl rfl (qbo HT_.out (by kernel_rfl)) (fun _ _ _ h => h) (Or.inl ⟨by rfl, ?_⟩) ?_ ?_
            rotate_left
            ·intro w'
             go_simp
             with_reducible rfl
            rotate_left
            ·simp only [Act.put, List.setIfInBounds_toArray, List.set_cons_zero, List.set_cons_succ, qbh, qbi]
             rfl
            refine qby (i := 6) (N := some 70) (v := ?_) (a' := ?_) #[true, true, true, true, false, true, true, false, false, false, false, false, false] rfl rfl (qbo HT_.out (by kernel_rfl)) (fun _ _ _ h => h) (Or.inl ⟨by rfl, ?_⟩) ?_ ?_
            rotate_left
            ·intro w'
             go_simp
             with_reducible rfl
            rotate_left
            ·simp only [Act.put, List.setIfInBounds_toArray, List.set_cons_zero, List.set_cons_succ, qbh, qbi]
             rfl
            refine qby (i := 7) (N := some 71) (v := ?_) (a' := ?_) #[true, true, true, true, false, true, true, true, false, false, false, false, false] rfl rfl (qbo HT_.out (by kernel_rfl)) (fun _ _ _ h => h) (Or.inl ⟨by rfl, ?_⟩) ?_ ?_
            rotate_left
            ·intro w'
             go_simp
             with_reducible rfl
            rotate_left
            ·simp only [Act.put, List.setIfInBounds_toArray, List.set_cons_zero, List.set_cons_succ, qbh, qbi]
             rfl
            refine qcC (i := 4) (N := some 68) (v := ?_) (a' := ?_) #[true, true, true, true, true, true, true, true, false, false, false, false, false] rfl rfl (qbY HT_.out HW_.out (by kernel_rfl)) (fun _ _ _ h => h) (Or.inl ⟨by rfl, ?_⟩) hHeld ?_ ?_
            rotate_left
            ·rintro w' ⟨s0, s1, s2, s3⟩
             go_simp
             with_reducible rfl
            rotate_left
            ·simp only [Act.put, List.setIfInBounds_toArray, List.set_cons_zero, List.set_cons_succ, qbh, qbi]
             rfl
            refine qcC (i := 8) (N := some 72) (v := ?_) (a' := ?_) #[true, true, true, true, true, true, true, true, true, false, false, false, false] rfl rfl (qbY HT_.out HW_.out (by kernel_rfl)) (fun _ _ _ h => h) (Or.inl ⟨by rfl, ?_⟩) hHeld ?_ ?_
            rotate_left
            ·rintro w' ⟨s0, s1, s2, s3⟩
             go_simp
             with_reducible rfl
            rotate_left
            ·simp only [Act.put, List.setIfInBounds_toArray, List.set_cons_zero, List.set_cons_succ, qbh, qbi]
             rfl
            refine qby (i := 9) (N := some 73) (v := ?_) (a' := ?_) #[true, true, true, true, true, true, true, true, true, true, false, false, false] rfl rfl (qbo HT_.out (by kernel_rfl)) (fun _ _ _ h => h) (Or.inl ⟨by rfl, ?_⟩) ?_ ?_
            rotate_left
            ·intro w'
             go_simp
             with_reducible rfl
            rotate_left
            ·simp only [Act.put, List.setIfInBounds_toArray, List.set_cons_zero, List.set_cons_succ, qbh, qbi]
             rfl
            refine qfe (i := 10) (N := some 74) #[true, true, true, true, true, true, true, true, true, true, true, false, false] rfl rfl (qcp HT_.out (by kernel_rfl)) (by decide) (fun K hK => ?_)
            refine qd1 (w1 := ?_) (v := ?_) (by rfl) rfl ?_ ?_
            rotate_left 2
            ·go_simp
             constructor
             ·rfl
             ·rfl
            refine hK.out _ _ ?_
            clear hK K
            refine qcT (a' := ?_) ?_ ?_
            rotate_left
            ·show Act.put _ (some 74) _ = _
             simp only [Act.put, List.setIfInBounds_toArray, List.set_cons_zero, List.set_cons_succ, qbh, qbi]
             rfl
            refine qfe (i := 11) (N := some 75) #[true, true, true, true, true, true, true, true, true, true, true, true, false] rfl rfl (qcp HT_.out (by kernel_rfl)) (by decide) (fun K hK => ?_)
            refine Kd.qb6 k82 (w0 := w) w.heap.size (by rfl) (.tmp 64) (.tmp 74) 30 82 (.agg #[(.string ⟨#[]⟩), (.string ⟨#[]⟩), (.string ⟨#[]⟩), (.bool false), (.bool false)]) 56 rfl Try.underlying30 info82 rfl (by decide) (by omega) u5 x5_1 (⟨(qal x0_1 0).f0, (qal x0_1 0).f1, (⟨#[]⟩ : ByteArray), true, false⟩ : S82) [.string ((qal x0_1 0).f0), .string ((qal x0_1 0).f1), .string (⟨#[]⟩ : ByteArray), .bool true, .bool false] (fun k_ => (w.heap.size ≤ k_)) (fun _ => False) rfl rfl ?aP (fun _ hk => hk.elim) ?aF ?aO ?aB ?aS ?aL ?_
            (case aP => exact qcr _ _ _ (⟨(qal x0_1 0).f0, (qal x0_1 0).f1, (⟨#[]⟩ : ByteArray), true, false⟩ : S82))
            (case aB => exact (by repeat (first | (with_reducible first | exact HB.out | apply qac | apply qaa | apply qab) | exact HB.out)))
            (case aF => exact (fun k_ hk => (Nat.le_trans (qau (by repeat (first | (with_reducible first | exact HB.out | apply qac | apply qaa | apply qab) | exact HB.out))) hk)))
            (case aO => exact (by (with_reducible repeat (first | apply Kd.qar | apply Kd.qas | apply Kd.qax)); exact HO_5.out))
            (case aS => exact (qau (by repeat (first | (with_reducible first | exact HB.out | apply qac | apply qaa | apply qab) | exact HB.out))))
            (case aL => have := LMc26.out; omega)
            intro v225 w30 ho hb hg hat
            rw [← Ny224.out] at ho
            have n0_ := Aside0.mk (Kd.qcN (ok := (fun k_ => ((P0_ k_ ∨ P1_ k_) ∨ w.heap.size ≤ k_))) (by (with_reducible repeat (first | apply Kd.qbH | apply Kd.qbI | apply Kd.qbu)); exact HO_0.out) hg hat)
            have n1_ := Aside0.mk (Kd.qcN (ok := (fun k_ => ((P0_ k_ ∨ P1_ k_) ∨ w.heap.size ≤ k_))) (by (with_reducible repeat (first | apply Kd.qbH | apply Kd.qbI | apply Kd.qbu)); exact HO_1.out) hg hat)
            have n2_ := Aside0.mk (hb)
            have n3_ := Aside0.mk (ho)
            clear HO_0
            clear HO_1
            clear HB
            clear HO_5
            have HO_0 := n0_
            have HO_1 := n1_
            have HB := n2_
            have HO226 := n3_
            clear n0_ n1_ n2_ n3_
            clear ho hb hg hat
            refine hK.out _ _ ?_
            clear hK K
            refine qcT (a' := ?_) ?_ ?_
            rotate_left
            ·show Act.put _ (some 75) _ = _
             simp only [Act.put, List.setIfInBounds_toArray, List.set_cons_zero, List.set_cons_succ, qbh, qbi]
             rfl
            refine qby (i := 12) (N := some 5) (v := ?_) (a' := ?_) #[true, true, true, true, true, true, true, true, true, true, true, true, true] rfl rfl (qbo HT_.out (by kernel_rfl)) (fun _ _ _ h => h) (Or.inl ⟨by rfl, ?_⟩) ?_ ?_
            rotate_left
            ·intro w'
             go_simp
             with_reducible rfl
            rotate_left
            ·simp only [Act.put, List.setIfInBounds_toArray, List.set_cons_zero, List.set_cons_succ, qbh, qbi]
             rfl
            refine qeL (qcU HT_.out (by kernel_rfl)) ?_
            have q31 : (1 : Int) ≤ ((x0_1.length : Int) : Int) := of_decide_eq_true (by first | (with_reducible assumption) | assumption)
            obtain ⟨i031, hi031, _, hsz31, _⟩ := info_parts info76
            have hroom31 : x0_1.length ≤ co29 := (Kd.qbQ HO_0.out).2.1
            have hC31 : Kd.F k76 _ _ (some ad222) x0_1.length x0_1 := (Kd.V_at (base := w.heap.size) HO_0.out).2.2
            have hcut31 := qcM (P := Try.prog) 26 76 .i64 Try.underlying26 hi031 2 hsz31 (some ad222) x0_1.length co29 1 (by omega) q31
            have hr31 := Kd.qfg (m := (1 : Int).toNat) (c := co29) hC31 (by omega) hroom31
            obtain ⟨A31, hA31⟩ : ∃ A1, A1 = (if co29 = (1 : Int).toNat then (some ad222) else ((some ad222) : Option Addr).map (·.add ((1 : Int).toNat * 2))) := ⟨_, rfl⟩
            obtain ⟨c31, hc31⟩ : ∃ c1, c1 = co29 - (1 : Int).toNat := ⟨_, rfl⟩
            have hy31 : y227.length = x0_1.length - (1 : Int).toNat := (by rw [Ny227.out, List.length_drop] <;> omega)
            rw [show (x0_1).drop (1 : Int).toNat = y227 from Ny227.out.symm] at hr31
            replace hr31 : Kd.F k76 _ _ A31 y227.length y227 := (by rw [hA31]; exact hr31)
            rw [← hy31, ← hA31, ← hc31] at hcut31
            have HO231 := Aside0.mk (show Kd.V k76 76 _ w.heap.size _ (.slice A31 y227.length c31) y227 from Kd.V_mk (by rw [hy31, hc31]; exact Nat.sub_le_sub_right hroom31 _) hr31)
            have HC231 := Aside0.mk (show y227.length ≤ c31 from by rw [hy31, hc31]; exact Nat.sub_le_sub_right hroom31 _)
            clear hr31 hC31 hroom31 hi031 hsz31 hc31
            have KY31 := Aside0.mk hy31
            have KA31 := Aside0.mk hA31
            clear hy31 hA31
            replace q31 := eq_true q31
            try go_wp2
            go_roundg kj10
            case measure => have := HK1.out; have := HJ4.out; have := HJ10.out; omega
            case rel => exact ⟨(y227), (x1_1), (y224), H', ⟨by have := HK1.out; have := HJ4.out; have := HJ10.out; omega⟩, ⟨by (with_reducible repeat (first | apply Kd.qbH | apply Kd.qbI | apply Kd.qbu)); exact HO231.out⟩, ⟨by (with_reducible repeat (first | apply Kd.qbH | apply Kd.qbI | apply Kd.qbu)); exact HO_1.out⟩, ⟨by (with_reducible repeat (first | apply Kd.qar | apply Kd.qas | apply Kd.qax)); exact HO226.out⟩, ⟨by repeat (first | (with_reducible first | exact HB.out | apply qac | apply qaa | apply qab) | exact HB.out)⟩⟩
           ·rw [if_neg c27] at H
            exact absurd H (by simp)
          ·rw [if_neg c26] at H
           exact absurd H (by simp)
         ·rw [if_neg c25] at H
          exact absurd H (by simp)
        ·replace c24 := Bool.eq_false_iff.mpr c24
         subst c24
         have H1 : (if (x0_1.length : Int) = 0 then (qaw.j3 kj10 x0_1 x1_1 x5_1 true) else (if 0 < (x1_1.length : Int) then (if 0 < (x0_1.length : Int) then (qaw.j3 kj10 x0_1 x1_1 x5_1 (Op.bytesLess (((qal x1_1 0).f0).toList) (((qal x0_1 0).f0).toList))) else (none)) else (none))) = some r := by rw [if_neg (show ¬ (false = true) by decide)] at H; exact H
         clear H
         have H := H1
         clear H1
         have HC32 := Aside0.mk H
         clear H
         go_upto_region 9 with (fail)
         go_cut [78] (fun v78 wc => ∃ (kq : Nat) (x78_31 : Bool), v78 = .bool x78_31 ∧ Aside0 (qaw.j3 kq x0_1 x1_1 x5_1 x78_31 = some r) ∧ Aside0 (kq ≤ kj10) ∧ Aside0 (Kd.V k76 76 wc w.heap.size (fun k_ => ((P0_ k_ ∨ P1_ k_) ∨ w.heap.size ≤ k_) ∧ some k_ ≠ (u5 : Value).ownBlock) u0 x0_1) ∧ Aside0 (Kd.V k76 76 wc w.heap.size (fun k_ => ((P0_ k_ ∨ P1_ k_) ∨ w.heap.size ≤ k_) ∧ some k_ ≠ (u5 : Value).ownBlock) u1 x1_1) ∧ Aside0 (Kd.R k82 82 wc w.heap.size (fun k_ => (w.heap.size ≤ k_)) u5 x5_1) ∧ Aside0 (Below w.heap.size w wc))
         case first =>
          have H := HC32.out
          clear HC32
          by_cases c33 : (x0_1.length : Int) = 0
          ·rw [if_pos c33] at H
           have c33b0 : ((x0_1.length : Int) == 0) = true := beq_iff_eq.mpr c33
           have c33b1 : ((x0_1.length : Int) != 0) = false := bne_eq_false_iff_eq.mpr c33
           clear c33
           (first | rw [c33b0] | (simp only [qbh, qbi]; rw [c33b0]) | skip)
           have H' := Aside0.mk H
           clear H
           try go_wp2
           have n0_ := Aside0.mk (Kd.qbu HO_0.out)
           have n1_ := Aside0.mk (Kd.qbu HO_1.out)
           have n2_ := Aside0.mk (Kd.qax HO_5.out)
           have n3_ := Aside0.mk (qab HB.out)
           clear HO_0
           clear HO_1
           clear HO_5
           clear HB
           have HO_0 := n0_
           have HO_1 := n1_
           have HO_5 := n2_
           have HB := n3_
           clear n0_ n1_ n2_ n3_
           obtain ⟨Ao35, co35, eo35⟩ := Kd.qb5 HO_0.out
           (first | subst eo35 | (injection eo35 with f1_ f2_ f3_; have f4_ := f1_.symm; have f5_ := f3_.symm; clear f1_ f2_ f3_; subst f4_; subst f5_))
           refine qaF (by kernel_rfl) (by kernel_rfl) ?_
           generalize wc.drew = w34b at HO_0 HO_1 HO_5 HB ⊢
           repeat (first | go_big_quiet_step (fail) | quiet_step (fail))
           refine wpQuiet_nil ?_
           rintro w34 ⟨⟨wq_, hbL⟩, hq_⟩
           have hq2_ : w34 = wq_ := hq_
           clear hq_
           subst hq2_
           have nHO_0_ := by first | exact Aside0.mk (qak HO_0.out hbL) | exact Aside0.mk (Kd.qaA HO_0.out hbL) | exact Aside0.mk (Kd.qbz HO_0.out hbL) | exact Aside0.mk (Kd.qbA HO_0.out hbL) | exact Aside0.mk (Kd.qbB HO_0.out hbL) | exact Aside0.mk (Kd.qbx HO_0.out hbL) | exact Aside0.mk (Kd.qa2 HO_0.out hbL) | exact Aside0.mk ((hbL.block _ (qbj HO_0.out)).trans HO_0.out)
           have nHO_1_ := by first | exact Aside0.mk (qak HO_1.out hbL) | exact Aside0.mk (Kd.qaA HO_1.out hbL) | exact Aside0.mk (Kd.qbz HO_1.out hbL) | exact Aside0.mk (Kd.qbA HO_1.out hbL) | exact Aside0.mk (Kd.qbB HO_1.out hbL) | exact Aside0.mk (Kd.qbx HO_1.out hbL) | exact Aside0.mk (Kd.qa2 HO_1.out hbL) | exact Aside0.mk ((hbL.block _ (qbj HO_1.out)).trans HO_1.out)
           have nHO_5_ := by first | exact Aside0.mk (qak HO_5.out hbL) | exact Aside0.mk (Kd.qaA HO_5.out hbL) | exact Aside0.mk (Kd.qbz HO_5.out hbL) | exact Aside0.mk (Kd.qbA HO_5.out hbL) | exact Aside0.mk (Kd.qbB HO_5.out hbL) | exact Aside0.mk (Kd.qbx HO_5.out hbL) | exact Aside0.mk (Kd.qa2 HO_5.out hbL) | exact Aside0.mk ((hbL.block _ (qbj HO_5.out)).trans HO_5.out)
           have nHB_ := Aside0.mk (qak HB.out hbL)
           clear HO_0
           clear HO_1
           clear HO_5
           clear HB
           have HO_0 := nHO_0_
           have HO_1 := nHO_1_
           have HO_5 := nHO_5_
           have HB := nHB_
           clear nHO_0_
           clear nHO_1_
           clear nHO_5_
           clear nHB_
           clear hbL
           try go_wp2
           go_meet
           case rel => exact ⟨_, (true), (by first | rfl | (simp; done) | (simp [*]; done)), H', ⟨by have := HK1.out; have := HJ4.out; have := HJ10.out; first | omega | exact Nat.le_refl _⟩, ⟨by (with_reducible repeat (first | apply Kd.qbH | apply Kd.qbI | apply Kd.qbu)); exact HO_0.out⟩, ⟨by (with_reducible repeat (first | apply Kd.qbH | apply Kd.qbI | apply Kd.qbu)); exact HO_1.out⟩, ⟨by (with_reducible repeat (first | apply Kd.qar | apply Kd.qas | apply Kd.qax)); exact HO_5.out⟩, ⟨by repeat (first | (with_reducible first | exact HB.out | apply qac | apply qaa | apply qab) | exact HB.out)⟩⟩
          ·rw [if_neg c33] at H
           have c33b0 : ((x0_1.length : Int) == 0) = false := beq_eq_false_iff_ne.mpr c33
           have c33b1 : ((x0_1.length : Int) != 0) = true := bne_iff_ne.mpr c33
           have c33b2 : ¬ (x0_1 = []) := fun h_ => c33 (by rw [h_]; rfl)
           (first | rw [c33b0] | (simp only [qbh, qbi]; rw [c33b0]) | skip)
           by_cases c36 : 0 < (x1_1.length : Int)
           ·rw [if_pos c36] at H
            have c36b0 : decide (0 < (x1_1.length : Int)) = true := decide_eq_true c36
            have c36b1 : decide (0 < x1_1.length) = true := decide_eq_true (by omega)
            clear c36
            by_cases c37 : 0 < (x0_1.length : Int)
            ·rw [if_pos c37] at H
             have c37b0 : decide (0 < (x0_1.length : Int)) = true := decide_eq_true c37
             have c37b1 : decide (0 < x0_1.length) = true := decide_eq_true (by omega)
             clear c37
             have H' := Aside0.mk H
             clear H
             try go_wp2
             have n0_ := Aside0.mk (Kd.qbu HO_0.out)
             have n1_ := Aside0.mk (Kd.qbu HO_1.out)
             have n2_ := Aside0.mk (Kd.qax HO_5.out)
             have n3_ := Aside0.mk (qab HB.out)
             clear HO_0
             clear HO_1
             clear HO_5
             clear HB
             have HO_0 := n0_
             have HO_1 := n1_
             have HO_5 := n2_
             have HB := n3_
             clear n0_ n1_ n2_ n3_
             obtain ⟨Ao39, co39, eo39⟩ := Kd.qb5 HO_0.out
             (first | subst eo39 | (injection eo39 with f1_ f2_ f3_; have f4_ := f1_.symm; have f5_ := f3_.symm; clear f1_ f2_ f3_; subst f4_; subst f5_))
             obtain ⟨Ao40, co40, eo40⟩ := Kd.qb5 HO_1.out
             (first | subst eo40 | (injection eo40 with f1_ f2_ f3_; have f4_ := f1_.symm; have f5_ := f3_.symm; clear f1_ f2_ f3_; subst f4_; subst f5_))
             have p232 : 0 ≤ (0 : Int) := (by omega)
             have q232 : 0 < (x1_1.length : Int) := of_decide_eq_true (by first | (with_reducible assumption) | assumption)
             obtain ⟨ad232, e232, hx232_0, hx232_1⟩ := qbv (Kd.qbQ HO_1.out).2.2 0 p232 q232
             cases e232
             have qi232 : (0 < x1_1.length) = True := eq_true (by omega)
             (try rw [show ((0 : Int)).toNat = 0 from rfl] at hx232_0)
             (try rw [show 0 * 2 = 0 from rfl] at hx232_0)
             (try rw [Addr.add_zero'] at hx232_0)
             (try rw [show ((0 : Int)).toNat = 0 from rfl] at hx232_1)
             (try rw [show 0 * 2 = 0 from rfl] at hx232_1)
             (try rw [Addr.add_zero'] at hx232_1)
             replace p232 := eq_true p232
             replace q232 := eq_true q232
             have p233 : 0 ≤ (0 : Int) := (by omega)
             have q233 : 0 < (x0_1.length : Int) := of_decide_eq_true (by first | (with_reducible assumption) | assumption)
             obtain ⟨ad233, e233, hx233_0, hx233_1⟩ := qbv (Kd.qbQ HO_0.out).2.2 0 p233 q233
             cases e233
             have qi233 : (0 < x0_1.length) = True := eq_true (by omega)
             (try rw [show ((0 : Int)).toNat = 0 from rfl] at hx233_0)
             (try rw [show 0 * 2 = 0 from rfl] at hx233_0)
             (try rw [Addr.add_zero'] at hx233_0)
             (try rw [show ((0 : Int)).toNat = 0 from rfl] at hx233_1)
             (try rw [show 0 * 2 = 0 from rfl] at hx233_1)
             (try rw [Addr.add_zero'] at hx233_1)
             replace p233 := eq_true p233
             replace q233 := eq_true q233
             refine qaF (by kernel_rfl) (by kernel_rfl) ?_
             have hL0_ := Aside0.mk (show wc.drew.cell? ad232 = some (.string ((qal x1_1 0).f0)) from hx232_0)
             have hL1_ := Aside0.mk (show wc.drew.cell? ⟨ad232.block, ad232.off + 1, none⟩ = some (.string ((qal x1_1 0).f1)) from hx232_1)
             have hL2_ := Aside0.mk (show wc.drew.cell? ad233 = some (.string ((qal x0_1 0).f0)) from hx233_0)
             have hL3_ := Aside0.mk (show wc.drew.cell? ⟨ad233.block, ad233.off + 1, none⟩ = some (.string ((qal x0_1 0).f1)) from hx233_1)
             generalize wc.drew = w38b at HO_0 HO_1 HO_5 HB hx232_0 hx232_1 hx233_0 hx233_1 hL0_ hL1_ hL2_ hL3_ ⊢
             clear hx232_0 hx232_1 hx233_0 hx233_1
             have hL0 := fun (p_ : Later w38b) => Later.cell p_ hL0_.out
             have hL1 := fun (p_ : Later w38b) => Later.cell p_ hL1_.out
             have hL2 := fun (p_ : Later w38b) => Later.cell p_ hL2_.out
             have hL3 := fun (p_ : Later w38b) => Later.cell p_ hL3_.out
             clear hL0_ hL1_ hL2_ hL3_
             repeat (first | go_big_quiet_step (fail) | quiet_step (fail))
             refine wpQuiet_nil ?_
             rintro w38 ⟨⟨wq_, hbL⟩, hq_⟩
             have hq2_ : w38 = wq_ := hq_
             clear hq_
             subst hq2_
             clear hL0 hL1 hL2 hL3
             have nHO_0_ := by first | exact Aside0.mk (qak HO_0.out hbL) | exact Aside0.mk (Kd.qaA HO_0.out hbL) | exact Aside0.mk (Kd.qbz HO_0.out hbL) | exact Aside0.mk (Kd.qbA HO_0.out hbL) | exact Aside0.mk (Kd.qbB HO_0.out hbL) | exact Aside0.mk (Kd.qbx HO_0.out hbL) | exact Aside0.mk (Kd.qa2 HO_0.out hbL) | exact Aside0.mk ((hbL.block _ (qbj HO_0.out)).trans HO_0.out)
             have nHO_1_ := by first | exact Aside0.mk (qak HO_1.out hbL) | exact Aside0.mk (Kd.qaA HO_1.out hbL) | exact Aside0.mk (Kd.qbz HO_1.out hbL) | exact Aside0.mk (Kd.qbA HO_1.out hbL) | exact Aside0.mk (Kd.qbB HO_1.out hbL) | exact Aside0.mk (Kd.qbx HO_1.out hbL) | exact Aside0.mk (Kd.qa2 HO_1.out hbL) | exact Aside0.mk ((hbL.block _ (qbj HO_1.out)).trans HO_1.out)
             have nHO_5_ := by first | exact Aside0.mk (qak HO_5.out hbL) | exact Aside0.mk (Kd.qaA HO_5.out hbL) | exact Aside0.mk (Kd.qbz HO_5.out hbL) | exact Aside0.mk (Kd.qbA HO_5.out hbL) | exact Aside0.mk (Kd.qbB HO_5.out hbL) | exact Aside0.mk (Kd.qbx HO_5.out hbL) | exact Aside0.mk (Kd.qa2 HO_5.out hbL) | exact Aside0.mk ((hbL.block _ (qbj HO_5.out)).trans HO_5.out)
             have nHB_ := Aside0.mk (qak HB.out hbL)
             clear HO_0
             clear HO_1
             clear HO_5
             clear HB
             have HO_0 := nHO_0_
             have HO_1 := nHO_1_
             have HO_5 := nHO_5_
             have HB := nHB_
             clear nHO_0_
             clear nHO_1_
             clear nHO_5_
             clear nHB_
             clear hbL
             try go_wp2
             go_meet
             case rel => exact ⟨_, ((Op.bytesLess (((qal x1_1 0).f0).toList) (((qal x0_1 0).f0).toList))), (by first | rfl | (simp; done) | (simp [*]; done)), H', ⟨by have := HK1.out; have := HJ4.out; have := HJ10.out; first | omega | exact Nat.le_refl _⟩, ⟨by (with_reducible repeat (first | apply Kd.qbH | apply Kd.qbI | apply Kd.qbu)); exact HO_0.out⟩, ⟨by (with_reducible repeat (first | apply Kd.qbH | apply Kd.qbI | apply Kd.qbu)); exact HO_1.out⟩, ⟨by (with_reducible repeat (first | apply Kd.qar | apply Kd.qas | apply Kd.qax)); exact HO_5.out⟩, ⟨by repeat (first | (with_reducible first | exact HB.out | apply qac | apply qaa | apply qab) | exact HB.out)⟩⟩
            ·rw [if_neg c37] at H
             exact absurd H (by simp)
           ·rw [if_neg c36] at H
            exact absurd H (by simp)
         case rest =>
          clear HC32
          try clear c1
          try clear c2
          try clear p2
          try clear q2
          try clear hx2
          try clear qi2
          try clear c3
          try clear q3
          try clear c5
          try clear c6
          try clear c6b0
          try clear c6b1
          try clear c10
          try clear c12
          try clear c12b0
          try clear c12b1
          try clear c12b2
          try clear c15
          try clear c15b0
          try clear c15b1
          try clear c16
          try clear c16b0
          try clear c16b1
          try clear c17
          try clear c17b0
          try clear c17b1
          try clear p22
          try clear q22
          try clear hx22
          try clear qi22
          try clear p23
          try clear q23
          try clear hx23
          try clear qi23
          try clear c24
          try clear c25
          try clear c25b0
          try clear c25b1
          try clear c26
          try clear c27
          try clear c27b0
          try clear c27b1
          try clear c31
          try clear q31
          try clear c33
          try clear c33b0
          try clear c33b1
          try clear c33b2
          try clear c36
          try clear c36b0
          try clear c36b1
          try clear c37
          try clear c37b0
          try clear c37b1
          try clear hx220_0
          try clear hx220_1
          try clear hx221_0
          try clear hx221_1
          try clear hx222_0
          try clear hx222_1
          try clear hx223_0
          try clear hx223_1
          try clear hx232_0
          try clear hx232_1
          try clear hx233_0
          try clear hx233_1
          try clear p2
          try clear p22
          try clear p220
          try clear p221
          try clear p222
          try clear p223
          try clear p232
          try clear p233
          try clear q2
          try clear q22
          try clear q220
          try clear q221
          try clear q222
          try clear q223
          try clear q232
          try clear q233
          try clear q31
          obtain ⟨kq, x78_31, rfl, HA, HJ31, HO_0, HO_1, HO_5, HB⟩ := hcut
          cases kq with
          | zero => exact absurd HA.out (by simp [qaw.j3])
          | succ kj31 =>
           have H := HA.out
           clear HA
           simp only [qaw.j3] at H
           by_cases c41 : x78_31 = true
           ·subst c41
            have H1 : (if 0 < (x1_1.length : Int) then (if x5_1.length < 2513169434916 then (if 1 ≤ (x1_1.length : Int) then (qaw.l0 kj31 x0_1 (x1_1.drop 1) (x5_1 ++ [(⟨(qal x1_1 0).f0, (⟨#[]⟩ : ByteArray), (qal x1_1 0).f1, false, true⟩ : S82)])) else (none)) else (none)) else (none)) = some r := by rw [if_pos rfl] at H; exact H
            clear H
            have H := H1
            clear H1
            by_cases c42 : 0 < (x1_1.length : Int)
            ·rw [if_pos c42] at H
             have c42b0 : decide (0 < (x1_1.length : Int)) = true := decide_eq_true c42
             have c42b1 : decide (0 < x1_1.length) = true := decide_eq_true (by omega)
             clear c42
             by_cases c43 : x5_1.length < 2513169434916
             ·rw [if_pos c43] at H
              have LMc43 := Aside0.mk c43
              clear c43
              obtain ⟨y236, hy236⟩ : ∃ y_ : List (S82), y_ = (x5_1 ++ [(⟨(qal x1_1 0).f0, (⟨#[]⟩ : ByteArray), (qal x1_1 0).f1, false, true⟩ : S82)]) := ⟨_, rfl⟩
              replace H : (if 1 ≤ (x1_1.length : Int) then (qaw.l0 kj31 x0_1 (x1_1.drop 1) y236) else (none)) = some r := by first | (rw [hy236]; with_reducible exact H) | (have H2_ := (Option.bind_some _ _).symm.trans H; rw [hy236]; with_reducible exact H2_) | (have H2_ := (Option.bind_some _ _).symm.trans H; with_reducible exact H2_) | with_reducible exact H | (rw [hy236]; exact H) | exact H
              have Ny236 := Aside0.mk hy236
              clear hy236
              by_cases c44 : 1 ≤ (x1_1.length : Int)
              ·rw [if_pos c44] at H
               have c44b0 := eq_true c44
               have c44b1 : decide (1 ≤ (x1_1.length : Int)) = true := decide_eq_true c44
               clear c44
               obtain ⟨y239, hy239⟩ : ∃ y_ : List (S76), y_ = (x1_1.drop 1) := ⟨_, rfl⟩
               replace H : (qaw.l0 kj31 x0_1 y239 y236) = some r := by first | (rw [hy239]; with_reducible exact H) | (have H2_ := (Option.bind_some _ _).symm.trans H; rw [hy239]; with_reducible exact H2_) | (have H2_ := (Option.bind_some _ _).symm.trans H; with_reducible exact H2_) | with_reducible exact H | (rw [hy239]; exact H) | exact H
               have Ny239 := Aside0.mk hy239
               clear hy239
               have H' := Aside0.mk H
               clear H
               try go_wp2
               have n0_ := Aside0.mk (Kd.qbu HO_0.out)
               have n1_ := Aside0.mk (Kd.qbu HO_1.out)
               have n2_ := Aside0.mk (Kd.qax HO_5.out)
               have n3_ := Aside0.mk (qab HB.out)
               clear HO_0
               clear HO_1
               clear HO_5
               clear HB
               have HO_0 := n0_
               have HO_1 := n1_
               have HO_5 := n2_
               have HB := n3_
               clear n0_ n1_ n2_ n3_
               obtain ⟨Ao46, co46, eo46⟩ := Kd.qb5 HO_1.out
               (first | subst eo46 | (injection eo46 with f1_ f2_ f3_; have f4_ := f1_.symm; have f5_ := f3_.symm; clear f1_ f2_ f3_; subst f4_; subst f5_))
               have p234 : 0 ≤ (0 : Int) := (by omega)
               have q234 : 0 < (x1_1.length : Int) := of_decide_eq_true (by first | (with_reducible assumption) | assumption)
               obtain ⟨ad234, e234, hx234_0, hx234_1⟩ := qbv (Kd.qbQ HO_1.out).2.2 0 p234 q234
               cases e234
               have qi234 : (0 < x1_1.length) = True := eq_true (by omega)
               (try rw [show ((0 : Int)).toNat = 0 from rfl] at hx234_0)
               (try rw [show 0 * 2 = 0 from rfl] at hx234_0)
               (try rw [Addr.add_zero'] at hx234_0)
               (try rw [show ((0 : Int)).toNat = 0 from rfl] at hx234_1)
               (try rw [show 0 * 2 = 0 from rfl] at hx234_1)
               (try rw [Addr.add_zero'] at hx234_1)
               replace p234 := eq_true p234
               replace q234 := eq_true q234
               have p235 : 0 ≤ (0 : Int) := (by omega)
               have q235 : 0 < (x1_1.length : Int) := of_decide_eq_true (by first | (with_reducible assumption) | assumption)
               obtain ⟨ad235, e235, hx235_0, hx235_1⟩ := qbv (Kd.qbQ HO_1.out).2.2 0 p235 q235
               obtain rfl : ad234 = ad235 := (by injection e235)
               have qi235 : (0 < x1_1.length) = True := eq_true (by omega)
               (try rw [show ((0 : Int)).toNat = 0 from rfl] at hx235_0)
               (try rw [show 0 * 2 = 0 from rfl] at hx235_0)
               (try rw [Addr.add_zero'] at hx235_0)
               (try rw [show ((0 : Int)).toNat = 0 from rfl] at hx235_1)
               (try rw [show 0 * 2 = 0 from rfl] at hx235_1)
               (try rw [Addr.add_zero'] at hx235_1)
               replace p235 := eq_true p235
               replace q235 := eq_true q235
               refine qdz (n := 13) (S := fun w' => w'.cell? ad234 = some (.string ((qal x1_1 0).f0)) ∧ w'.cell? ⟨ad234.block, ad234.off + 1, none⟩ = some (.string ((qal x1_1 0).f1)) ∧ w'.cell? ad234 = some (.string ((qal x1_1 0).f0)) ∧ w'.cell? ⟨ad234.block, ad234.off + 1, none⟩ = some (.string ((qal x1_1 0).f1))) (ds := [10, 11]) #[false, false, false, false, false, false, false, false, false, false, false, false, false] (by kernel_rfl) rfl rfl ⟨hx234_0, hx234_1, hx235_0, hx235_1⟩ (fun hHeld => ?_); refine qcq qaw.tab10 qaw.bits10 (fun HT_ HW_ => ?_)
               generalize wc.drew = w45 at HO_0 HO_1 HO_5 HB hx234_0 hx234_1 hx235_0 hx235_1 hHeld ⊢
               refine qby (i := 0) (N := some 93) (v := ?_) (a' := ?_) #[true, false, false, false, false, false, false, false, false, false, false, false, false] rfl rfl (qbo HT_.out (by kernel_rfl)) (fun _ _ _ h => h) (Or.inl ⟨by rfl, ?_⟩) ?_ ?_
               rotate_left
               ·intro w'
                go_simp
                with_reducible rfl
               rotate_left
               ·simp only [Act.put, List.setIfInBounds_toArray, List.set_cons_zero, List.set_cons_succ, qbh, qbi]
                rfl
               refine qby (i := 1) (N := some 94) (v := ?_) (a' := ?_) #[true, true, false, false, false, false, false, false, false, false, false, false, false] rfl rfl (qbo HT_.out (by kernel_rfl)) (fun _ _ _ h => h) (Or.inl ⟨by rfl, ?_⟩) ?_ ?_
               rotate_left
               ·intro w'
                go_simp
                with_reducible rfl
               rotate_left
               ·simp only [Act.put, List.setIfInBounds_toArray, List.set_cons_zero, List.set_cons_succ, qbh, qbi]
                rfl
               refine qby (i := 2) (N := some 95) (v := ?_) (a' := ?_) #[true, true, true, false, false, false, false, false, false, false, false, false, false] rfl rfl (qbo HT_.out (by kernel_rfl)) (fun _ _ _ h => h) (Or.inl ⟨by rfl, ?_⟩) ?_ ?_
               rotate_left
               ·intro w'
                go_simp
                with_reducible rfl
               rotate_left
               ·simp only [Act.put, List.setIfInBounds_toArray, List.set_cons_zero, List.set_cons_succ, qbh, qbi]
                rfl
               refine qby (i := 3) (N := some 96) (v := ?_) (a' := ?_) #[true, true, true, true, false, false, false, false, false, false, false, false, false] rfl rfl (qbo HT_.out (by kernel_rfl)) (fun _ _ _ h => h) (Or.inl ⟨by rfl, ?_⟩) ?_ ?_
               rotate_left
               ·intro w'
                go_simp
                with_reducible rfl
               rotate_left
               ·simp only [Act.put, List.setIfInBounds_toArray, List.set_cons_zero, List.set_cons_succ, qbh, qbi]
                rfl
               refine qby (i := 5) (N := some 98) (v := ?_) (a' := ?_) #[true, true, true, true, false, true, false, false, false, false, false, false, false] rfl rfl (qbo HT_.out (by kernel_rfl)) (fun _ _ _ h => h) (Or.inl ⟨by rfl, ?_⟩) ?_ ?_
               rotate_left
               ·intro w'
                go_simp
                with_reducible rfl
               rotate_left
               ·simp only [Act.put, List.setIfInBounds_toArray, List.set_cons_zero, List.set_cons_succ, qbh, qbi]
                rfl
               refine qby (i := 6) (N := some 99) (v := ?_) (a' := ?_) #[true, true, true, true, false, true, true, false, false, false, false, false, false] rfl rfl (qbo HT_.out (by kernel_rfl)) (fun _ _ _ h => h) (Or.inl ⟨by rfl, ?_⟩) ?_ ?_
               rotate_left
               ·intro w'
                go_simp
                with_reducible rfl
               rotate_left
               ·simp only [Act.put, List.setIfInBounds_toArray, List.set_cons_zero, List.set_cons_succ, qbh, qbi]
                rfl
               refine qby (i := 7) (N := some 100) (v := ?_) (a' := ?_) #[true, true, true, true, false, true, true, true, false, false, false, false, false] rfl rfl (qbo HT_.out (by kernel_rfl)) (fun _ _ _ h => h) (Or.inl ⟨by rfl, ?_⟩) ?_ ?_
               rotate_left
               ·intro w'
                go_simp
                with_reducible rfl
               rotate_left
               ·simp only [Act.put, List.setIfInBounds_toArray, List.set_cons_zero, List.set_cons_succ, qbh, qbi]
                rfl
               refine qcC (i := 4) (N := some 97) (v := ?_) (a' := ?_) #[true, true, true, true, true, true, true, true, false, false, false, false, false] rfl rfl (qbY HT_.out HW_.out (by kernel_rfl)) (fun _ _ _ h => h) (Or.inl ⟨by rfl, ?_⟩) hHeld ?_ ?_
               rotate_left
               ·rintro w' ⟨s0, s1, s2, s3⟩
                go_simp
                with_reducible rfl
               rotate_left
               ·simp only [Act.put, List.setIfInBounds_toArray, List.set_cons_zero, List.set_cons_succ, qbh, qbi]
                rfl
               refine qcC (i := 8) (N := some 101) (v := ?_) (a' := ?_) #[true, true, true, true, true, true, true, true, true, false, false, false, false] rfl rfl (qbY HT_.out HW_.out (by kernel_rfl)) (fun _ _ _ h => h) (Or.inl ⟨by rfl, ?_⟩) hHeld ?_ ?_
               rotate_left
               ·rintro w' ⟨s0, s1, s2, s3⟩
                go_simp
                with_reducible rfl
               rotate_left
               ·simp only [Act.put, List.setIfInBounds_toArray, List.set_cons_zero, List.set_cons_succ, qbh, qbi]
                rfl
               refine qby (i := 9) (N := some 102) (v := ?_) (a' := ?_) #[true, true, true, true, true, true, true, true, true, true, false, false, false] rfl rfl (qbo HT_.out (by kernel_rfl)) (fun _ _ _ h => h) (Or.inl ⟨by rfl, ?_⟩) ?_ ?_
               rotate_left
               ·intro w'
                go_simp
                with_reducible rfl
               rotate_left
               ·simp only [Act.put, List.setIfInBounds_toArray, List.set_cons_zero, List.set_cons_succ, qbh, qbi]
                rfl
               refine qfe (i := 10) (N := some 103) #[true, true, true, true, true, true, true, true, true, true, true, false, false] rfl rfl (qcp HT_.out (by kernel_rfl)) (by decide) (fun K hK => ?_)
               refine qd1 (w1 := ?_) (v := ?_) (by rfl) rfl ?_ ?_
               rotate_left 2
               ·go_simp
                constructor
                ·rfl
                ·rfl
               refine hK.out _ _ ?_
               clear hK K
               refine qcT (a' := ?_) ?_ ?_
               rotate_left
               ·show Act.put _ (some 103) _ = _
                simp only [Act.put, List.setIfInBounds_toArray, List.set_cons_zero, List.set_cons_succ, qbh, qbi]
                rfl
               refine qfe (i := 11) (N := some 104) #[true, true, true, true, true, true, true, true, true, true, true, true, false] rfl rfl (qcp HT_.out (by kernel_rfl)) (by decide) (fun K hK => ?_)
               refine Kd.qb6 k82 (w0 := w) w.heap.size (by rfl) (.tmp 93) (.tmp 103) 30 82 (.agg #[(.string ⟨#[]⟩), (.string ⟨#[]⟩), (.string ⟨#[]⟩), (.bool false), (.bool false)]) 56 rfl Try.underlying30 info82 rfl (by decide) (by omega) u5 x5_1 (⟨(qal x1_1 0).f0, (⟨#[]⟩ : ByteArray), (qal x1_1 0).f1, false, true⟩ : S82) [.string ((qal x1_1 0).f0), .string (⟨#[]⟩ : ByteArray), .string ((qal x1_1 0).f1), .bool false, .bool true] (fun k_ => (w.heap.size ≤ k_)) (fun _ => False) rfl rfl ?aP (fun _ hk => hk.elim) ?aF ?aO ?aB ?aS ?aL ?_
               (case aP => exact qcr _ _ _ (⟨(qal x1_1 0).f0, (⟨#[]⟩ : ByteArray), (qal x1_1 0).f1, false, true⟩ : S82))
               (case aB => exact (by repeat (first | (with_reducible first | exact HB.out | apply qac | apply qaa | apply qab) | exact HB.out)))
               (case aF => exact (fun k_ hk => (Nat.le_trans (qau (by repeat (first | (with_reducible first | exact HB.out | apply qac | apply qaa | apply qab) | exact HB.out))) hk)))
               (case aO => exact (by (with_reducible repeat (first | apply Kd.qar | apply Kd.qas | apply Kd.qax)); exact HO_5.out))
               (case aS => exact (qau (by repeat (first | (with_reducible first | exact HB.out | apply qac | apply qaa | apply qab) | exact HB.out))))
               (case aL => have := LMc43.out; omega)
               intro v237 w47 ho hb hg hat
               rw [← Ny236.out] at ho
               have n0_ := Aside0.mk (Kd.qcN (ok := (fun k_ => ((P0_ k_ ∨ P1_ k_) ∨ w.heap.size ≤ k_))) (by (with_reducible repeat (first | apply Kd.qbH | apply Kd.qbI | apply Kd.qbu)); exact HO_0.out) hg hat)
               have n1_ := Aside0.mk (Kd.qcN (ok := (fun k_ => ((P0_ k_ ∨ P1_ k_) ∨ w.heap.size ≤ k_))) (by (with_reducible repeat (first | apply Kd.qbH | apply Kd.qbI | apply Kd.qbu)); exact HO_1.out) hg hat)
               have n2_ := Aside0.mk (hb)
               have n3_ := Aside0.mk (ho)
               clear HO_0
               clear HO_1
               clear HB
               clear HO_5
               have HO_0 := n0_
               have HO_1 := n1_
               have HB := n2_
               have HO238 := n3_
               clear n0_ n1_ n2_ n3_
               clear ho hb hg hat
               refine hK.out _ _ ?_
               clear hK K
               refine qcT (a' := ?_) ?_ ?_
               rotate_left
               ·show Act.put _ (some 104) _ = _
                simp only [Act.put, List.setIfInBounds_toArray, List.set_cons_zero, List.set_cons_succ, qbh, qbi]
                rfl
               refine qby (i := 12) (N := some 5) (v := ?_) (a' := ?_) #[true, true, true, true, true, true, true, true, true, true, true, true, true] rfl rfl (qbo HT_.out (by kernel_rfl)) (fun _ _ _ h => h) (Or.inl ⟨by rfl, ?_⟩) ?_ ?_
               rotate_left
               ·intro w'
                go_simp
                with_reducible rfl
               rotate_left
               ·simp only [Act.put, List.setIfInBounds_toArray, List.set_cons_zero, List.set_cons_succ, qbh, qbi]
                rfl
               refine qeL (qcU HT_.out (by kernel_rfl)) ?_
               have q48 : (1 : Int) ≤ ((x1_1.length : Int) : Int) := of_decide_eq_true (by first | (with_reducible assumption) | assumption)
               obtain ⟨i048, hi048, _, hsz48, _⟩ := info_parts info76
               have hroom48 : x1_1.length ≤ co46 := (Kd.qbQ HO_1.out).2.1
               have hC48 : Kd.F k76 _ _ (some ad234) x1_1.length x1_1 := (Kd.V_at (base := w.heap.size) HO_1.out).2.2
               have hcut48 := qcM (P := Try.prog) 26 76 .i64 Try.underlying26 hi048 2 hsz48 (some ad234) x1_1.length co46 1 (by omega) q48
               have hr48 := Kd.qfg (m := (1 : Int).toNat) (c := co46) hC48 (by omega) hroom48
               obtain ⟨A48, hA48⟩ : ∃ A1, A1 = (if co46 = (1 : Int).toNat then (some ad234) else ((some ad234) : Option Addr).map (·.add ((1 : Int).toNat * 2))) := ⟨_, rfl⟩
               obtain ⟨c48, hc48⟩ : ∃ c1, c1 = co46 - (1 : Int).toNat := ⟨_, rfl⟩
               have hy48 : y239.length = x1_1.length - (1 : Int).toNat := (by rw [Ny239.out, List.length_drop] <;> omega)
               rw [show (x1_1).drop (1 : Int).toNat = y239 from Ny239.out.symm] at hr48
               replace hr48 : Kd.F k76 _ _ A48 y239.length y239 := (by rw [hA48]; exact hr48)
               rw [← hy48, ← hA48, ← hc48] at hcut48
               have HO243 := Aside0.mk (show Kd.V k76 76 _ w.heap.size _ (.slice A48 y239.length c48) y239 from Kd.V_mk (by rw [hy48, hc48]; exact Nat.sub_le_sub_right hroom48 _) hr48)
               have HC243 := Aside0.mk (show y239.length ≤ c48 from by rw [hy48, hc48]; exact Nat.sub_le_sub_right hroom48 _)
               clear hr48 hC48 hroom48 hi048 hsz48 hc48
               have KY48 := Aside0.mk hy48
               have KA48 := Aside0.mk hA48
               clear hy48 hA48
               replace q48 := eq_true q48
               try go_wp2
               go_roundg kj31
               case measure => have := HK1.out; have := HJ4.out; have := HJ10.out; have := HJ31.out; omega
               case rel => exact ⟨(x0_1), (y239), (y236), H', ⟨by have := HK1.out; have := HJ4.out; have := HJ10.out; have := HJ31.out; omega⟩, ⟨by (with_reducible repeat (first | apply Kd.qbH | apply Kd.qbI | apply Kd.qbu)); exact HO_0.out⟩, ⟨by (with_reducible repeat (first | apply Kd.qbH | apply Kd.qbI | apply Kd.qbu)); exact HO243.out⟩, ⟨by (with_reducible repeat (first | apply Kd.qar | apply Kd.qas | apply Kd.qax)); exact HO238.out⟩, ⟨by repeat (first | (with_reducible first | exact HB.out | apply qac | apply qaa | apply qab) | exact HB.out)⟩⟩
              ·rw [if_neg c44] at H
               exact absurd H (by simp)
             ·rw [if_neg c43] at H
              exact absurd H (by simp)
            ·rw [if_neg c42] at H
             exact absurd H (by simp)
           ·replace c41 := Bool.eq_false_iff.mpr c41
            subst c41
            have H1 : (if 0 < (x0_1.length : Int) then (if 0 < (x1_1.length : Int) then (if ((qal x0_1 0).f1).toList = ((qal x1_1 0).f1).toList then (if 1 ≤ (x0_1.length : Int) then (if 1 ≤ (x1_1.length : Int) then (qaw.l0 kj31 (x0_1.drop 1) (x1_1.drop 1) x5_1) else (none)) else (none)) else (if x5_1.length < 2513169434916 then (if 1 ≤ (x0_1.length : Int) then (if 1 ≤ (x1_1.length : Int) then (qaw.l0 kj31 (x0_1.drop 1) (x1_1.drop 1) (x5_1 ++ [(⟨(qal x0_1 0).f0, (qal x0_1 0).f1, (qal x1_1 0).f1, true, true⟩ : S82)])) else (none)) else (none)) else (none))) else (none)) else (none)) = some r := by rw [if_neg (show ¬ (false = true) by decide)] at H; exact H
            clear H
            have H := H1
            clear H1
            by_cases c49 : 0 < (x0_1.length : Int)
            ·rw [if_pos c49] at H
             have c49b0 : decide (0 < (x0_1.length : Int)) = true := decide_eq_true c49
             have c49b1 : decide (0 < x0_1.length) = true := decide_eq_true (by omega)
             clear c49
             by_cases c50 : 0 < (x1_1.length : Int)
             ·rw [if_pos c50] at H
              have c50b0 : decide (0 < (x1_1.length : Int)) = true := decide_eq_true c50
              have c50b1 : decide (0 < x1_1.length) = true := decide_eq_true (by omega)
              clear c50
              by_cases c51 : ((qal x0_1 0).f1).toList = ((qal x1_1 0).f1).toList
              ·rw [if_pos c51] at H
               have c51b0 : (((qal x0_1 0).f1).toList == ((qal x1_1 0).f1).toList) = true := beq_iff_eq.mpr c51
               have c51b1 : (((qal x0_1 0).f1).toList != ((qal x1_1 0).f1).toList) = false := bne_eq_false_iff_eq.mpr c51
               clear c51
               by_cases c52 : 1 ≤ (x0_1.length : Int)
               ·rw [if_pos c52] at H
                have c52b0 := eq_true c52
                have c52b1 : decide (1 ≤ (x0_1.length : Int)) = true := decide_eq_true c52
                clear c52
                obtain ⟨y246, hy246⟩ : ∃ y_ : List (S76), y_ = (x0_1.drop 1) := ⟨_, rfl⟩
                replace H : (if 1 ≤ (x1_1.length : Int) then (qaw.l0 kj31 y246 (x1_1.drop 1) x5_1) else (none)) = some r := by first | (rw [hy246]; with_reducible exact H) | (have H2_ := (Option.bind_some _ _).symm.trans H; rw [hy246]; with_reducible exact H2_) | (have H2_ := (Option.bind_some _ _).symm.trans H; with_reducible exact H2_) | with_reducible exact H | (rw [hy246]; exact H) | exact H
                have Ny246 := Aside0.mk hy246
                clear hy246
                by_cases c53 : 1 ≤ (x1_1.length : Int)
                ·rw [if_pos c53] at H
                 have c53b0 := eq_true c53
                 have c53b1 : decide (1 ≤ (x1_1.length : Int)) = true := decide_eq_true c53
                 clear c53
                 obtain ⟨y251, hy251⟩ : ∃ y_ : List (S76), y_ = (x1_1.drop 1) := ⟨_, rfl⟩
                 replace H : (qaw.l0 kj31 y246 y251 x5_1) = some r := by first | (rw [hy251]; with_reducible exact H) | (have H2_ := (Option.bind_some _ _).symm.trans H; rw [hy251]; with_reducible exact H2_) | (have H2_ := (Option.bind_some _ _).symm.trans H; with_reducible exact H2_) | with_reducible exact H | (rw [hy251]; exact H) | exact H
                 have Ny251 := Aside0.mk hy251
                 clear hy251
                 have H' := Aside0.mk H
                 clear H
                 try go_wp2
                 have n0_ := Aside0.mk (Kd.qbu HO_0.out)
                 have n1_ := Aside0.mk (Kd.qbu HO_1.out)
                 have n2_ := Aside0.mk (Kd.qax HO_5.out)
                 have n3_ := Aside0.mk (qab HB.out)
                 clear HO_0
                 clear HO_1
                 clear HO_5
                 clear HB
                 have HO_0 := n0_
                 have HO_1 := n1_
                 have HO_5 := n2_
                 have HB := n3_
                 clear n0_ n1_ n2_ n3_
                 obtain ⟨Ao55, co55, eo55⟩ := Kd.qb5 HO_0.out
                 (first | subst eo55 | (injection eo55 with f1_ f2_ f3_; have f4_ := f1_.symm; have f5_ := f3_.symm; clear f1_ f2_ f3_; subst f4_; subst f5_))
                 have p244 : 0 ≤ (0 : Int) := (by omega)
                 have q244 : 0 < (x0_1.length : Int) := of_decide_eq_true (by first | (with_reducible assumption) | assumption)
                 obtain ⟨ad244, e244, hx244_0, hx244_1⟩ := qbv (Kd.qbQ HO_0.out).2.2 0 p244 q244
                 cases e244
                 have qi244 : (0 < x0_1.length) = True := eq_true (by omega)
                 (try rw [show ((0 : Int)).toNat = 0 from rfl] at hx244_0)
                 (try rw [show 0 * 2 = 0 from rfl] at hx244_0)
                 (try rw [Addr.add_zero'] at hx244_0)
                 (try rw [show ((0 : Int)).toNat = 0 from rfl] at hx244_1)
                 (try rw [show 0 * 2 = 0 from rfl] at hx244_1)
                 (try rw [Addr.add_zero'] at hx244_1)
                 replace p244 := eq_true p244
                 replace q244 := eq_true q244
                 obtain ⟨Ao56, co56, eo56⟩ := Kd.qb5 HO_1.out
                 (first | subst eo56 | (injection eo56 with f1_ f2_ f3_; have f4_ := f1_.symm; have f5_ := f3_.symm; clear f1_ f2_ f3_; subst f4_; subst f5_))
                 have p245 : 0 ≤ (0 : Int) := (by omega)
                 have q245 : 0 < (x1_1.length : Int) := of_decide_eq_true (by first | (with_reducible assumption) | assumption)
                 obtain ⟨ad245, e245, hx245_0, hx245_1⟩ := qbv (Kd.qbQ HO_1.out).2.2 0 p245 q245
                 cases e245
                 have qi245 : (0 < x1_1.length) = True := eq_true (by omega)
                 (try rw [show ((0 : Int)).toNat = 0 from rfl] at hx245_0)
                 (try rw [show 0 * 2 = 0 from rfl] at hx245_0)
                 (try rw [Addr.add_zero'] at hx245_0)
                 (try rw [show ((0 : Int)).toNat = 0 from rfl] at hx245_1)
                 (try rw [show 0 * 2 = 0 from rfl] at hx245_1)
                 (try rw [Addr.add_zero'] at hx245_1)
                 replace p245 := eq_true p245
                 replace q245 := eq_true q245
                 refine qaF (by kernel_rfl) (by kernel_rfl) ?_
                 have hL0_ := Aside0.mk (show wc.drew.cell? ad244 = some (.string ((qal x0_1 0).f0)) from hx244_0)
                 have hL1_ := Aside0.mk (show wc.drew.cell? ⟨ad244.block, ad244.off + 1, none⟩ = some (.string ((qal x0_1 0).f1)) from hx244_1)
                 have hL2_ := Aside0.mk (show wc.drew.cell? ad245 = some (.string ((qal x1_1 0).f0)) from hx245_0)
                 have hL3_ := Aside0.mk (show wc.drew.cell? ⟨ad245.block, ad245.off + 1, none⟩ = some (.string ((qal x1_1 0).f1)) from hx245_1)
                 generalize wc.drew = w54b at HO_0 HO_1 HO_5 HB hx244_0 hx244_1 hx245_0 hx245_1 hL0_ hL1_ hL2_ hL3_ ⊢
                 clear hx244_0 hx244_1 hx245_0 hx245_1
                 have hL0 := fun (p_ : Later w54b) => Later.cell p_ hL0_.out
                 have hL1 := fun (p_ : Later w54b) => Later.cell p_ hL1_.out
                 have hL2 := fun (p_ : Later w54b) => Later.cell p_ hL2_.out
                 have hL3 := fun (p_ : Later w54b) => Later.cell p_ hL3_.out
                 clear hL0_ hL1_ hL2_ hL3_
                 repeat (first | go_big_quiet_step (fail) | quiet_step (fail))
                 refine wpQuiet_nil ?_
                 rintro w54 ⟨⟨wq_, hbL⟩, hq_⟩
                 have hq2_ : w54 = wq_ := hq_
                 clear hq_
                 subst hq2_
                 clear hL0 hL1 hL2 hL3
                 have nHO_0_ := by first | exact Aside0.mk (qak HO_0.out hbL) | exact Aside0.mk (Kd.qaA HO_0.out hbL) | exact Aside0.mk (Kd.qbz HO_0.out hbL) | exact Aside0.mk (Kd.qbA HO_0.out hbL) | exact Aside0.mk (Kd.qbB HO_0.out hbL) | exact Aside0.mk (Kd.qbx HO_0.out hbL) | exact Aside0.mk (Kd.qa2 HO_0.out hbL) | exact Aside0.mk ((hbL.block _ (qbj HO_0.out)).trans HO_0.out)
                 have nHO_1_ := by first | exact Aside0.mk (qak HO_1.out hbL) | exact Aside0.mk (Kd.qaA HO_1.out hbL) | exact Aside0.mk (Kd.qbz HO_1.out hbL) | exact Aside0.mk (Kd.qbA HO_1.out hbL) | exact Aside0.mk (Kd.qbB HO_1.out hbL) | exact Aside0.mk (Kd.qbx HO_1.out hbL) | exact Aside0.mk (Kd.qa2 HO_1.out hbL) | exact Aside0.mk ((hbL.block _ (qbj HO_1.out)).trans HO_1.out)
                 have nHO_5_ := by first | exact Aside0.mk (qak HO_5.out hbL) | exact Aside0.mk (Kd.qaA HO_5.out hbL) | exact Aside0.mk (Kd.qbz HO_5.out hbL) | exact Aside0.mk (Kd.qbA HO_5.out hbL) | exact Aside0.mk (Kd.qbB HO_5.out hbL) | exact Aside0.mk (Kd.qbx HO_5.out hbL) | exact Aside0.mk (Kd.qa2 HO_5.out hbL) | exact Aside0.mk ((hbL.block _ (qbj HO_5.out)).trans HO_5.out)
                 have nHB_ := Aside0.mk (qak HB.out hbL)
                 clear HO_0
                 clear HO_1
                 clear HO_5
                 clear HB
                 have HO_0 := nHO_0_
                 have HO_1 := nHO_1_
                 have HO_5 := nHO_5_
                 have HB := nHB_
                 clear nHO_0_
                 clear nHO_1_
                 clear nHO_5_
                 clear nHB_
                 clear hbL
                 try go_wp2
                 have n0_ := Aside0.mk (Kd.qbu HO_0.out)
                 have n1_ := Aside0.mk (Kd.qbu HO_1.out)
                 have n2_ := Aside0.mk (Kd.qax HO_5.out)
                 have n3_ := Aside0.mk (qab HB.out)
                 clear HO_0
                 clear HO_1
                 clear HO_5
                 clear HB
                 have HO_0 := n0_
                 have HO_1 := n1_
                 have HO_5 := n2_
                 have HB := n3_
                 clear n0_ n1_ n2_ n3_
                 have q58 : (1 : Int) ≤ ((x0_1.length : Int) : Int) := of_decide_eq_true (by first | (with_reducible assumption) | assumption)
                 obtain ⟨i058, hi058, _, hsz58, _⟩ := info_parts info76
                 have hroom58 : x0_1.length ≤ co55 := (Kd.qbQ HO_0.out).2.1
                 have hC58 : Kd.F k76 _ _ (some ad244) x0_1.length x0_1 := (Kd.V_at (base := w.heap.size) HO_0.out).2.2
                 have hcut58 := qcM (P := Try.prog) 26 76 .i64 Try.underlying26 hi058 2 hsz58 (some ad244) x0_1.length co55 1 (by omega) q58
                 have hr58 := Kd.qfg (m := (1 : Int).toNat) (c := co55) hC58 (by omega) hroom58
                 obtain ⟨A58, hA58⟩ : ∃ A1, A1 = (if co55 = (1 : Int).toNat then (some ad244) else ((some ad244) : Option Addr).map (·.add ((1 : Int).toNat * 2))) := ⟨_, rfl⟩
                 obtain ⟨c58, hc58⟩ : ∃ c1, c1 = co55 - (1 : Int).toNat := ⟨_, rfl⟩
                 have hy58 : y246.length = x0_1.length - (1 : Int).toNat := (by rw [Ny246.out, List.length_drop] <;> omega)
                 rw [show (x0_1).drop (1 : Int).toNat = y246 from Ny246.out.symm] at hr58
                 replace hr58 : Kd.F k76 _ _ A58 y246.length y246 := (by rw [hA58]; exact hr58)
                 rw [← hy58, ← hA58, ← hc58] at hcut58
                 have HO250 := Aside0.mk (show Kd.V k76 76 _ w.heap.size _ (.slice A58 y246.length c58) y246 from Kd.V_mk (by rw [hy58, hc58]; exact Nat.sub_le_sub_right hroom58 _) hr58)
                 have HC250 := Aside0.mk (show y246.length ≤ c58 from by rw [hy58, hc58]; exact Nat.sub_le_sub_right hroom58 _)
                 clear hr58 hC58 hroom58 hi058 hsz58 hc58
                 have KY58 := Aside0.mk hy58
                 have KA58 := Aside0.mk hA58
                 clear hy58 hA58
                 replace q58 := eq_true q58
                 have q59 : (1 : Int) ≤ ((x1_1.length : Int) : Int) := of_decide_eq_true (by first | (with_reducible assumption) | assumption)
                 obtain ⟨i059, hi059, _, hsz59, _⟩ := info_parts info76
                 have hroom59 : x1_1.length ≤ co56 := (Kd.qbQ HO_1.out).2.1
                 have hC59 : Kd.F k76 _ _ (some ad245) x1_1.length x1_1 := (Kd.V_at (base := w.heap.size) HO_1.out).2.2
                 have hcut59 := qcM (P := Try.prog) 26 76 .i64 Try.underlying26 hi059 2 hsz59 (some ad245) x1_1.length co56 1 (by omega) q59
                 have hr59 := Kd.qfg (m := (1 : Int).toNat) (c := co56) hC59 (by omega) hroom59
                 obtain ⟨A59, hA59⟩ : ∃ A1, A1 = (if co56 = (1 : Int).toNat then (some ad245) else ((some ad245) : Option Addr).map (·.add ((1 : Int).toNat * 2))) := ⟨_, rfl⟩
                 obtain ⟨c59, hc59⟩ : ∃ c1, c1 = co56 - (1 : Int).toNat := ⟨_, rfl⟩
                 have hy59 : y251.length = x1_1.length - (1 : Int).toNat := (by rw [Ny251.out, List.length_drop] <;> omega)
                 rw [show (x1_1).drop (1 : Int).toNat = y251 from Ny251.out.symm] at hr59
                 replace hr59 : Kd.F k76 _ _ A59 y251.length y251 := (by rw [hA59]; exact hr59)
                 rw [← hy59, ← hA59, ← hc59] at hcut59
                 have HO255 := Aside0.mk (show Kd.V k76 76 _ w.heap.size _ (.slice A59 y251.length c59) y251 from Kd.V_mk (by rw [hy59, hc59]; exact Nat.sub_le_sub_right hroom59 _) hr59)
                 have HC255 := Aside0.mk (show y251.length ≤ c59 from by rw [hy59, hc59]; exact Nat.sub_le_sub_right hroom59 _)
                 clear hr59 hC59 hroom59 hi059 hsz59 hc59
                 have KY59 := Aside0.mk hy59
                 have KA59 := Aside0.mk hA59
                 clear hy59 hA59
                 replace q59 := eq_true q59
                 refine qaF (by kernel_rfl) (by kernel_rfl) ?_
                 generalize w54.drew = w57b at HO_0 HO_1 HO_5 HB HO250 HO255 ⊢
                 repeat (first | go_big_quiet_step (fail) | quiet_step (fail))
                 refine wpQuiet_nil ?_
                 rintro w57 ⟨⟨wq_, hbL⟩, hq_⟩
                 have hq2_ : w57 = wq_ := hq_
                 clear hq_
                 subst hq2_
                 have nHO_0_ := by first | exact Aside0.mk (qak HO_0.out hbL) | exact Aside0.mk (Kd.qaA HO_0.out hbL) | exact Aside0.mk (Kd.qbz HO_0.out hbL) | exact Aside0.mk (Kd.qbA HO_0.out hbL) | exact Aside0.mk (Kd.qbB HO_0.out hbL) | exact Aside0.mk (Kd.qbx HO_0.out hbL) | exact Aside0.mk (Kd.qa2 HO_0.out hbL) | exact Aside0.mk ((hbL.block _ (qbj HO_0.out)).trans HO_0.out)
                 have nHO_1_ := by first | exact Aside0.mk (qak HO_1.out hbL) | exact Aside0.mk (Kd.qaA HO_1.out hbL) | exact Aside0.mk (Kd.qbz HO_1.out hbL) | exact Aside0.mk (Kd.qbA HO_1.out hbL) | exact Aside0.mk (Kd.qbB HO_1.out hbL) | exact Aside0.mk (Kd.qbx HO_1.out hbL) | exact Aside0.mk (Kd.qa2 HO_1.out hbL) | exact Aside0.mk ((hbL.block _ (qbj HO_1.out)).trans HO_1.out)
                 have nHO_5_ := by first | exact Aside0.mk (qak HO_5.out hbL) | exact Aside0.mk (Kd.qaA HO_5.out hbL) | exact Aside0.mk (Kd.qbz HO_5.out hbL) | exact Aside0.mk (Kd.qbA HO_5.out hbL) | exact Aside0.mk (Kd.qbB HO_5.out hbL) | exact Aside0.mk (Kd.qbx HO_5.out hbL) | exact Aside0.mk (Kd.qa2 HO_5.out hbL) | exact Aside0.mk ((hbL.block _ (qbj HO_5.out)).trans HO_5.out)
                 have nHB_ := Aside0.mk (qak HB.out hbL)
                 have nHO250_ := by first | exact Aside0.mk (qak HO250.out hbL) | exact Aside0.mk (Kd.qaA HO250.out hbL) | exact Aside0.mk (Kd.qbz HO250.out hbL) | exact Aside0.mk (Kd.qbA HO250.out hbL) | exact Aside0.mk (Kd.qbB HO250.out hbL) | exact Aside0.mk (Kd.qbx HO250.out hbL) | exact Aside0.mk (Kd.qa2 HO250.out hbL) | exact Aside0.mk ((hbL.block _ (qbj HO250.out)).trans HO250.out)
                 have nHO255_ := by first | exact Aside0.mk (qak HO255.out hbL) | exact Aside0.mk (Kd.qaA HO255.out hbL) | exact Aside0.mk (Kd.qbz HO255.out hbL) | exact Aside0.mk (Kd.qbA HO255.out hbL) | exact Aside0.mk (Kd.qbB HO255.out hbL) | exact Aside0.mk (Kd.qbx HO255.out hbL) | exact Aside0.mk (Kd.qa2 HO255.out hbL) | exact Aside0.mk ((hbL.block _ (qbj HO255.out)).trans HO255.out)
                 clear HO_0
                 clear HO_1
                 clear HO_5
                 clear HB
                 clear HO250
                 clear HO255
                 have HO_0 := nHO_0_
                 have HO_1 := nHO_1_
                 have HO_5 := nHO_5_
                 have HB := nHB_
                 have HO250 := nHO250_
                 have HO255 := nHO255_
                 clear nHO_0_
                 clear nHO_1_
                 clear nHO_5_
                 clear nHB_
                 clear nHO250_
                 clear nHO255_
                 clear hbL
                 try go_wp2
                 go_roundg kj31
                 case measure => have := HK1.out; have := HJ4.out; have := HJ10.out; have := HJ31.out; omega
                 case rel => exact ⟨(y246), (y251), (x5_1), H', ⟨by have := HK1.out; have := HJ4.out; have := HJ10.out; have := HJ31.out; omega⟩, ⟨by (with_reducible repeat (first | apply Kd.qbH | apply Kd.qbI | apply Kd.qbu)); exact HO250.out⟩, ⟨by (with_reducible repeat (first | apply Kd.qbH | apply Kd.qbI | apply Kd.qbu)); exact HO255.out⟩, ⟨by (with_reducible repeat (first | apply Kd.qar | apply Kd.qas | apply Kd.qax)); exact HO_5.out⟩, ⟨by repeat (first | (with_reducible first | exact HB.out | apply qac | apply qaa | apply qab) | exact HB.out)⟩⟩
                ·rw [if_neg c53] at H
                 exact absurd H (by simp)
               ·rw [if_neg c52] at H
                exact absurd H (by simp)
              ·rw [if_neg c51] at H
               have c51b0 : (((qal x0_1 0).f1).toList == ((qal x1_1 0).f1).toList) = false := beq_eq_false_iff_ne.mpr c51
               have c51b1 : (((qal x0_1 0).f1).toList != ((qal x1_1 0).f1).toList) = true := bne_iff_ne.mpr c51
               by_cases c60 : x5_1.length < 2513169434916
               ·rw [if_pos c60] at H
                have LMc60 := Aside0.mk c60
                clear c60
                obtain ⟨y259, hy259⟩ : ∃ y_ : List (S82), y_ = (x5_1 ++ [(⟨(qal x0_1 0).f0, (qal x0_1 0).f1, (qal x1_1 0).f1, true, true⟩ : S82)]) := ⟨_, rfl⟩
                replace H : (if 1 ≤ (x0_1.length : Int) then (if 1 ≤ (x1_1.length : Int) then (qaw.l0 kj31 (x0_1.drop 1) (x1_1.drop 1) y259) else (none)) else (none)) = some r := by first | (rw [hy259]; with_reducible exact H) | (have H2_ := (Option.bind_some _ _).symm.trans H; rw [hy259]; with_reducible exact H2_) | (have H2_ := (Option.bind_some _ _).symm.trans H; with_reducible exact H2_) | with_reducible exact H | (rw [hy259]; exact H) | exact H
                have Ny259 := Aside0.mk hy259
                clear hy259
                by_cases c61 : 1 ≤ (x0_1.length : Int)
                ·rw [if_pos c61] at H
                 have c61b0 := eq_true c61
                 have c61b1 : decide (1 ≤ (x0_1.length : Int)) = true := decide_eq_true c61
                 clear c61
                 obtain ⟨y262, hy262⟩ : ∃ y_ : List (S76), y_ = (x0_1.drop 1) := ⟨_, rfl⟩
                 replace H : (if 1 ≤ (x1_1.length : Int) then (qaw.l0 kj31 y262 (x1_1.drop 1) y259) else (none)) = some r := by first | (rw [hy262]; with_reducible exact H) | (have H2_ := (Option.bind_some _ _).symm.trans H; rw [hy262]; with_reducible exact H2_) | (have H2_ := (Option.bind_some _ _).symm.trans H; with_reducible exact H2_) | with_reducible exact H | (rw [hy262]; exact H) | exact H
                 have Ny262 := Aside0.mk hy262
                 clear hy262
                 by_cases c62 : 1 ≤ (x1_1.length : Int)
                 ·rw [if_pos c62] at H
                  have c62b0 := eq_true c62
                  have c62b1 : decide (1 ≤ (x1_1.length : Int)) = true := decide_eq_true c62
                  clear c62
                  obtain ⟨y267, hy267⟩ : ∃ y_ : List (S76), y_ = (x1_1.drop 1) := ⟨_, rfl⟩
                  replace H : (qaw.l0 kj31 y262 y267 y259) = some r := by first | (rw [hy267]; with_reducible exact H) | (have H2_ := (Option.bind_some _ _).symm.trans H; rw [hy267]; with_reducible exact H2_) | (have H2_ := (Option.bind_some _ _).symm.trans H; with_reducible exact H2_) | with_reducible exact H | (rw [hy267]; exact H) | exact H
                  have Ny267 := Aside0.mk hy267
                  clear hy267
                  have H' := Aside0.mk H
                  clear H
                  try go_wp2
                  have n0_ := Aside0.mk (Kd.qbu HO_0.out)
                  have n1_ := Aside0.mk (Kd.qbu HO_1.out)
                  have n2_ := Aside0.mk (Kd.qax HO_5.out)
                  have n3_ := Aside0.mk (qab HB.out)
                  clear HO_0
                  clear HO_1
                  clear HO_5
                  clear HB
                  have HO_0 := n0_
                  have HO_1 := n1_
                  have HO_5 := n2_
                  have HB := n3_
                  clear n0_ n1_ n2_ n3_
                  obtain ⟨Ao64, co64, eo64⟩ := Kd.qb5 HO_0.out
                  (first | subst eo64 | (injection eo64 with f1_ f2_ f3_; have f4_ := f1_.symm; have f5_ := f3_.symm; clear f1_ f2_ f3_; subst f4_; subst f5_))
                  have p244 : 0 ≤ (0 : Int) := (by omega)
                  have q244 : 0 < (x0_1.length : Int) := of_decide_eq_true (by first | (with_reducible assumption) | assumption)
                  obtain ⟨ad244, e244, hx244_0, hx244_1⟩ := qbv (Kd.qbQ HO_0.out).2.2 0 p244 q244
                  cases e244
                  have qi244 : (0 < x0_1.length) = True := eq_true (by omega)
                  (try rw [show ((0 : Int)).toNat = 0 from rfl] at hx244_0)
                  (try rw [show 0 * 2 = 0 from rfl] at hx244_0)
                  (try rw [Addr.add_zero'] at hx244_0)
                  (try rw [show ((0 : Int)).toNat = 0 from rfl] at hx244_1)
                  (try rw [show 0 * 2 = 0 from rfl] at hx244_1)
                  (try rw [Addr.add_zero'] at hx244_1)
                  replace p244 := eq_true p244
                  replace q244 := eq_true q244
                  obtain ⟨Ao65, co65, eo65⟩ := Kd.qb5 HO_1.out
                  (first | subst eo65 | (injection eo65 with f1_ f2_ f3_; have f4_ := f1_.symm; have f5_ := f3_.symm; clear f1_ f2_ f3_; subst f4_; subst f5_))
                  have p245 : 0 ≤ (0 : Int) := (by omega)
                  have q245 : 0 < (x1_1.length : Int) := of_decide_eq_true (by first | (with_reducible assumption) | assumption)
                  obtain ⟨ad245, e245, hx245_0, hx245_1⟩ := qbv (Kd.qbQ HO_1.out).2.2 0 p245 q245
                  cases e245
                  have qi245 : (0 < x1_1.length) = True := eq_true (by omega)
                  (try rw [show ((0 : Int)).toNat = 0 from rfl] at hx245_0)
                  (try rw [show 0 * 2 = 0 from rfl] at hx245_0)
                  (try rw [Addr.add_zero'] at hx245_0)
                  (try rw [show ((0 : Int)).toNat = 0 from rfl] at hx245_1)
                  (try rw [show 0 * 2 = 0 from rfl] at hx245_1)
                  (try rw [Addr.add_zero'] at hx245_1)
                  replace p245 := eq_true p245
                  replace q245 := eq_true q245
                  refine qaF (by kernel_rfl) (by kernel_rfl) ?_
                  have hL0_ := Aside0.mk (show wc.drew.cell? ad244 = some (.string ((qal x0_1 0).f0)) from hx244_0)
                  have hL1_ := Aside0.mk (show wc.drew.cell? ⟨ad244.block, ad244.off + 1, none⟩ = some (.string ((qal x0_1 0).f1)) from hx244_1)
                  have hL2_ := Aside0.mk (show wc.drew.cell? ad245 = some (.string ((qal x1_1 0).f0)) from hx245_0)
                  have hL3_ := Aside0.mk (show wc.drew.cell? ⟨ad245.block, ad245.off + 1, none⟩ = some (.string ((qal x1_1 0).f1)) from hx245_1)
                  generalize wc.drew = w63b at HO_0 HO_1 HO_5 HB hx244_0 hx244_1 hx245_0 hx245_1 hL0_ hL1_ hL2_ hL3_ ⊢
                  clear hx244_0 hx244_1 hx245_0 hx245_1
                  have hL0 := fun (p_ : Later w63b) => Later.cell p_ hL0_.out
                  have hL1 := fun (p_ : Later w63b) => Later.cell p_ hL1_.out
                  have hL2 := fun (p_ : Later w63b) => Later.cell p_ hL2_.out
                  have hL3 := fun (p_ : Later w63b) => Later.cell p_ hL3_.out
                  clear hL0_ hL1_ hL2_ hL3_
                  repeat (first | go_big_quiet_step (fail) | quiet_step (fail))
                  refine wpQuiet_nil ?_
                  rintro w63 ⟨⟨wq_, hbL⟩, hq_⟩
                  have hq2_ : w63 = wq_ := hq_
                  clear hq_
                  subst hq2_
                  clear hL0 hL1 hL2 hL3
                  have nHO_0_ := by first | exact Aside0.mk (qak HO_0.out hbL) | exact Aside0.mk (Kd.qaA HO_0.out hbL) | exact Aside0.mk (Kd.qbz HO_0.out hbL) | exact Aside0.mk (Kd.qbA HO_0.out hbL) | exact Aside0.mk (Kd.qbB HO_0.out hbL) | exact Aside0.mk (Kd.qbx HO_0.out hbL) | exact Aside0.mk (Kd.qa2 HO_0.out hbL) | exact Aside0.mk ((hbL.block _ (qbj HO_0.out)).trans HO_0.out)
                  have nHO_1_ := by first | exact Aside0.mk (qak HO_1.out hbL) | exact Aside0.mk (Kd.qaA HO_1.out hbL) | exact Aside0.mk (Kd.qbz HO_1.out hbL) | exact Aside0.mk (Kd.qbA HO_1.out hbL) | exact Aside0.mk (Kd.qbB HO_1.out hbL) | exact Aside0.mk (Kd.qbx HO_1.out hbL) | exact Aside0.mk (Kd.qa2 HO_1.out hbL) | exact Aside0.mk ((hbL.block _ (qbj HO_1.out)).trans HO_1.out)
                  have nHO_5_ := by first | exact Aside0.mk (qak HO_5.out hbL) | exact Aside0.mk (Kd.qaA HO_5.out hbL) | exact Aside0.mk (Kd.qbz HO_5.out hbL) | exact Aside0.mk (Kd.qbA HO_5.out hbL) | exact Aside0.mk (Kd.qbB HO_5.out hbL) | exact Aside0.mk (Kd.qbx HO_5.out hbL) | exact Aside0.mk (Kd.qa2 HO_5.out hbL) | exact Aside0.mk ((hbL.block _ (qbj HO_5.out)).trans HO_5.out)
                  have nHB_ := Aside0.mk (qak HB.out hbL)
                  clear HO_0
                  clear HO_1
                  clear HO_5
                  clear HB
                  have HO_0 := nHO_0_
                  have HO_1 := nHO_1_
                  have HO_5 := nHO_5_
                  have HB := nHB_
                  clear nHO_0_
                  clear nHO_1_
                  clear nHO_5_
                  clear nHB_
                  clear hbL
                  try go_wp2
                  have n0_ := Aside0.mk (Kd.qbu HO_0.out)
                  have n1_ := Aside0.mk (Kd.qbu HO_1.out)
                  have n2_ := Aside0.mk (Kd.qax HO_5.out)
                  have n3_ := Aside0.mk (qab HB.out)
                  clear HO_0
                  clear HO_1
                  clear HO_5
                  clear HB
                  have HO_0 := n0_
                  have HO_1 := n1_
                  have HO_5 := n2_
                  have HB := n3_
                  clear n0_ n1_ n2_ n3_
                  have p256 : 0 ≤ (0 : Int) := (by omega)
                  have q256 : 0 < (x0_1.length : Int) := of_decide_eq_true (by first | (with_reducible assumption) | assumption)
                  obtain ⟨ad256, e256, hx256_0, hx256_1⟩ := qbv (Kd.qbQ HO_0.out).2.2 0 p256 q256
                  obtain rfl : ad244 = ad256 := (by injection e256)
                  have qi256 : (0 < x0_1.length) = True := eq_true (by omega)
                  (try rw [show ((0 : Int)).toNat = 0 from rfl] at hx256_0)
                  (try rw [show 0 * 2 = 0 from rfl] at hx256_0)
                  (try rw [Addr.add_zero'] at hx256_0)
                  (try rw [show ((0 : Int)).toNat = 0 from rfl] at hx256_1)
                  (try rw [show 0 * 2 = 0 from rfl] at hx256_1)
                  (try rw [Addr.add_zero'] at hx256_1)
                  replace p256 := eq_true p256
                  replace q256 := eq_true q256
                  have p257 : 0 ≤ (0 : Int) := (by omega)
                  have q257 : 0 < (x0_1.length : Int) := of_decide_eq_true (by first | (with_reducible assumption) | assumption)
                  obtain ⟨ad257, e257, hx257_0, hx257_1⟩ := qbv (Kd.qbQ HO_0.out).2.2 0 p257 q257
                  obtain rfl : ad244 = ad257 := (by injection e257)
                  have qi257 : (0 < x0_1.length) = True := eq_true (by omega)
                  (try rw [show ((0 : Int)).toNat = 0 from rfl] at hx257_0)
                  (try rw [show 0 * 2 = 0 from rfl] at hx257_0)
                  (try rw [Addr.add_zero'] at hx257_0)
                  (try rw [show ((0 : Int)).toNat = 0 from rfl] at hx257_1)
                  (try rw [show 0 * 2 = 0 from rfl] at hx257_1)
                  (try rw [Addr.add_zero'] at hx257_1)
                  replace p257 := eq_true p257
                  replace q257 := eq_true q257
                  have p258 : 0 ≤ (0 : Int) := (by omega)
                  have q258 : 0 < (x1_1.length : Int) := of_decide_eq_true (by first | (with_reducible assumption) | assumption)
                  obtain ⟨ad258, e258, hx258_0, hx258_1⟩ := qbv (Kd.qbQ HO_1.out).2.2 0 p258 q258
                  obtain rfl : ad245 = ad258 := (by injection e258)
                  have qi258 : (0 < x1_1.length) = True := eq_true (by omega)
                  (try rw [show ((0 : Int)).toNat = 0 from rfl] at hx258_0)
                  (try rw [show 0 * 2 = 0 from rfl] at hx258_0)
                  (try rw [Addr.add_zero'] at hx258_0)
                  (try rw [show ((0 : Int)).toNat = 0 from rfl] at hx258_1)
                  (try rw [show 0 * 2 = 0 from rfl] at hx258_1)
                  (try rw [Addr.add_zero'] at hx258_1)
                  replace p258 := eq_true p258
                  replace q258 := eq_true q258
                  refine qdz (n := 17) (S := fun w' => w'.cell? ad244 = some (.string ((qal x0_1 0).f0)) ∧ w'.cell? ⟨ad244.block, ad244.off + 1, none⟩ = some (.string ((qal x0_1 0).f1)) ∧ w'.cell? ad244 = some (.string ((qal x0_1 0).f0)) ∧ w'.cell? ⟨ad244.block, ad244.off + 1, none⟩ = some (.string ((qal x0_1 0).f1)) ∧ w'.cell? ad245 = some (.string ((qal x1_1 0).f0)) ∧ w'.cell? ⟨ad245.block, ad245.off + 1, none⟩ = some (.string ((qal x1_1 0).f1))) (ds := [14, 15]) #[false, false, false, false, false, false, false, false, false, false, false, false, false, false, false, false, false] (by kernel_rfl) rfl rfl ⟨hx256_0, hx256_1, hx257_0, hx257_1, hx258_0, hx258_1⟩ (fun hHeld => ?_); refine qcq qaw.tab4 qaw.bits4 (fun HT_ HW_ => ?_)
                  generalize w63.drew = w66 at HO_0 HO_1 HO_5 HB hx256_0 hx256_1 hx257_0 hx257_1 hx258_0 hx258_1 hHeld ⊢
                  refine qby (i := 0) (N := some 24) (v := ?_) (a' := ?_) #[true, false, false, false, false, false, false, false, false, false, false, false, false, false, false, false, false] rfl rfl (qbo HT_.out (by kernel_rfl)) (fun _ _ _ h => h) (Or.inl ⟨by rfl, ?_⟩) ?_ ?_
                  rotate_left
                  ·intro w'
                   go_simp
                   with_reducible rfl
                  rotate_left
                  ·simp only [Act.put, List.setIfInBounds_toArray, List.set_cons_zero, List.set_cons_succ, qbh, qbi]
                   rfl
                  refine qby (i := 1) (N := some 25) (v := ?_) (a' := ?_) #[true, true, false, false, false, false, false, false, false, false, false, false, false, false, false, false, false] rfl rfl (qbo HT_.out (by kernel_rfl)) (fun _ _ _ h => h) (Or.inl ⟨by rfl, ?_⟩) ?_ ?_
                  rotate_left
                  ·intro w'
                   go_simp
                   with_reducible rfl
                  rotate_left
                  ·simp only [Act.put, List.setIfInBounds_toArray, List.set_cons_zero, List.set_cons_succ, qbh, qbi]
                   rfl
                  refine qby (i := 2) (N := some 26) (v := ?_) (a' := ?_) #[true, true, true, false, false, false, false, false, false, false, false, false, false, false, false, false, false] rfl rfl (qbo HT_.out (by kernel_rfl)) (fun _ _ _ h => h) (Or.inl ⟨by rfl, ?_⟩) ?_ ?_
                  rotate_left
                  ·intro w'
                   go_simp
                   with_reducible rfl
                  rotate_left
                  ·simp only [Act.put, List.setIfInBounds_toArray, List.set_cons_zero, List.set_cons_succ, qbh, qbi]
                   rfl
                  refine qby (i := 3) (N := some 27) (v := ?_) (a' := ?_) #[true, true, true, true, false, false, false, false, false, false, false, false, false, false, false, false, false] rfl rfl (qbo HT_.out (by kernel_rfl)) (fun _ _ _ h => h) (Or.inl ⟨by rfl, ?_⟩) ?_ ?_
                  rotate_left
                  ·intro w'
                   go_simp
                   with_reducible rfl
                  rotate_left
                  ·simp only [Act.put, List.setIfInBounds_toArray, List.set_cons_zero, List.set_cons_succ, qbh, qbi]
                   rfl
                  refine qby (i := 5) (N := some 29) (v := ?_) (a' := ?_) #[true, true, true, true, false, true, false, false, false, false, false, false, false, false, false, false, false] rfl rfl (qbo HT_.out (by kernel_rfl)) (fun _ _ _ h => h) (Or.inl ⟨by rfl, ?_⟩) ?_ ?_
                  rotate_left
                  ·intro w'
                   go_simp
                   with_reducible rfl
                  rotate_left
                  ·simp only [Act.put, List.setIfInBounds_toArray, List.set_cons_zero, List.set_cons_succ, qbh, qbi]
                   rfl
                  refine qby (i := 6) (N := some 30) (v := ?_) (a' := ?_) #[true, true, true, true, false, true, true, false, false, false, false, false, false, false, false, false, false] rfl rfl (qbo HT_.out (by kernel_rfl)) (fun _ _ _ h => h) (Or.inl ⟨by rfl, ?_⟩) ?_ ?_
                  rotate_left
                  ·intro w'
                   go_simp
                   with_reducible rfl
                  rotate_left
                  ·simp only [Act.put, List.setIfInBounds_toArray, List.set_cons_zero, List.set_cons_succ, qbh, qbi]
                   rfl
                  refine qby (i := 7) (N := some 31) (v := ?_) (a' := ?_) #[true, true, true, true, false, true, true, true, false, false, false, false, false, false, false, false, false] rfl rfl (qbo HT_.out (by kernel_rfl)) (fun _ _ _ h => h) (Or.inl ⟨by rfl, ?_⟩) ?_ ?_
                  rotate_left
                  ·intro w'
                   go_simp
                   with_reducible rfl
                  rotate_left
                  ·simp only [Act.put, List.setIfInBounds_toArray, List.set_cons_zero, List.set_cons_succ, qbh, qbi]
                   rfl
                  refine qby (i := 9) (N := some 33) (v := ?_) (a' := ?_) #[true, true, true, true, false, true, true, true, false, true, false, false, false, false, false, false, false] rfl rfl (qbo HT_.out (by kernel_rfl)) (fun _ _ _ h => h) (Or.inl ⟨by rfl, ?_⟩) ?_ ?_
                  rotate_left
                  ·intro w'
                   go_simp
                   with_reducible rfl
                  rotate_left
                  ·simp only [Act.put, List.setIfInBounds_toArray, List.set_cons_zero, List.set_cons_succ, qbh, qbi]
                   rfl
                  refine qby (i := 10) (N := some 34) (v := ?_) (a' := ?_) #[true, true, true, true, false, true, true, true, false, true, true, false, false, false, false, false, false] rfl rfl (qbo HT_.out (by kernel_rfl)) (fun _ _ _ h => h) (Or.inl ⟨by rfl, ?_⟩) ?_ ?_
                  rotate_left
                  ·intro w'
                   go_simp
                   with_reducible rfl
                  rotate_left
                  ·simp only [Act.put, List.setIfInBounds_toArray, List.set_cons_zero, List.set_cons_succ, qbh, qbi]
                   rfl
                  refine qby (i := 11) (N := some 35) (v := ?_) (a' := ?_) #[true, true, true, true, false, true, true, true, false, true, true, true, false, false, false, false, false] rfl rfl (qbo HT_.out (by kernel_rfl)) (fun _ _ _ h => h) (Or.inl ⟨by rfl, ?_⟩) ?_ ?_
                  rotate_left
                  ·intro w'
                   go_simp
                   with_reducible rfl
                  rotate_left
                  ·simp only [Act.put, List.setIfInBounds_toArray, List.set_cons_zero, List.set_cons_succ, qbh, qbi]
                   rfl
                  refine qcC (i := 4) (N := some 28) (v := ?_) (a' := ?_) #[true, true, true, true, true, true, true, true, false, true, true, true, false, false, false, false, false] rfl rfl (qbY HT_.out HW_.out (by kernel_rfl)) (fun _ _ _ h => h) (Or.inl ⟨by rfl, ?_⟩) hHeld ?_ ?_
                  rotate_left
                  ·rintro w' ⟨s0, s1, s2, s3, s4, s5⟩
                   go_simp
                   with_reducible rfl
                  rotate_left
                  ·simp only [Act.put, List.setIfInBounds_toArray, List.set_cons_zero, List.set_cons_succ, qbh, qbi]
                   rfl
                  refine qcC (i := 8) (N := some 32) (v := ?_) (a' := ?_) #[true, true, true, true, true, true, true, true, true, true, true, true, false, false, false, false, false] rfl rfl (qbY HT_.out HW_.out (by kernel_rfl)) (fun _ _ _ h => h) (Or.inl ⟨by rfl, ?_⟩) hHeld ?_ ?_
                  rotate_left
                  ·rintro w' ⟨s0, s1, s2, s3, s4, s5⟩
                   go_simp
                   with_reducible rfl
                  rotate_left
                  ·simp only [Act.put, List.setIfInBounds_toArray, List.set_cons_zero, List.set_cons_succ, qbh, qbi]
                   rfl
                  refine qcC (i := 12) (N := some 36) (v := ?_) (a' := ?_) #[true, true, true, true, true, true, true, true, true, true, true, true, true, false, false, false, false] rfl rfl (qbY HT_.out HW_.out (by kernel_rfl)) (fun _ _ _ h => h) (Or.inl ⟨by rfl, ?_⟩) hHeld ?_ ?_
                  rotate_left
                  ·rintro w' ⟨s0, s1, s2, s3, s4, s5⟩
                   go_simp
                   with_reducible rfl
                  rotate_left
                  ·simp only [Act.put, List.setIfInBounds_toArray, List.set_cons_zero, List.set_cons_succ, qbh, qbi]
                   rfl
                  refine qby (i := 13) (N := some 37) (v := ?_) (a' := ?_) #[true, true, true, true, true, true, true, true, true, true, true, true, true, true, false, false, false] rfl rfl (qbo HT_.out (by kernel_rfl)) (fun _ _ _ h => h) (Or.inl ⟨by rfl, ?_⟩) ?_ ?_
                  rotate_left
                  ·intro w'
                   go_simp
                   with_reducible rfl
                  rotate_left
                  ·simp only [Act.put, List.setIfInBounds_toArray, List.set_cons_zero, List.set_cons_succ, qbh, qbi]
                   rfl
                  refine qfe (i := 14) (N := some 38) #[true, true, true, true, true, true, true, true, true, true, true, true, true, true, true, false, false] rfl rfl (qcp HT_.out (by kernel_rfl)) (by decide) (fun K hK => ?_)
                  refine qd1 (w1 := ?_) (v := ?_) (by rfl) rfl ?_ ?_
                  rotate_left 2
                  ·go_simp
                   constructor
                   ·rfl
                   ·rfl
                  refine hK.out _ _ ?_
                  clear hK K
                  refine qcT (a' := ?_) ?_ ?_
                  rotate_left
                  ·show Act.put _ (some 38) _ = _
                   simp only [Act.put, List.setIfInBounds_toArray, List.set_cons_zero, List.set_cons_succ, qbh, qbi]
                   rfl
                  refine qfe (i := 15) (N := some 39) #[true, true, true, true, true, true, true, true, true, true, true, true, true, true, true, true, false] rfl rfl (qcp HT_.out (by kernel_rfl)) (by decide) (fun K hK => ?_)
                  refine Kd.qb6 k82 (w0 := w) w.heap.size (by rfl) (.tmp 24) (.tmp 38) 30 82 (.agg #[(.string ⟨#[]⟩), (.string ⟨#[]⟩), (.string ⟨#[]⟩), (.bool false), (.bool false)]) 56 rfl Try.underlying30 info82 rfl (by decide) (by omega) u5 x5_1 (⟨(qal x0_1 0).f0, (qal x0_1 0).f1, (qal x1_1 0).f1, true, true⟩ : S82) [.string ((qal x0_1 0).f0), .string ((qal x0_1 0).f1), .string ((qal x1_1 0).f1), .bool true, .bool true] (fun k_ => (w.heap.size ≤ k_)) (fun _ => False) rfl rfl ?aP (fun _ hk => hk.elim) ?aF ?aO ?aB ?aS ?aL ?_
                  (case aP => exact qcr _ _ _ (⟨(qal x0_1 0).f0, (qal x0_1 0).f1, (qal x1_1 0).f1, true, true⟩ : S82))
                  (case aB => exact (by repeat (first | (with_reducible first | exact HB.out | apply qac | apply qaa | apply qab) | exact HB.out)))
                  (case aF => exact (fun k_ hk => (Nat.le_trans (qau (by repeat (first | (with_reducible first | exact HB.out | apply qac | apply qaa | apply qab) | exact HB.out))) hk)))
                  (case aO => exact (by (with_reducible repeat (first | apply Kd.qar | apply Kd.qas | apply Kd.qax)); exact HO_5.out))
                  (case aS => exact (qau (by repeat (first | (with_reducible first | exact HB.out | apply qac | apply qaa | apply qab) | exact HB.out))))
                  (case aL => have := LMc60.out; omega)
                  intro v260 w67 ho hb hg hat
                  rw [← Ny259.out] at ho
                  have n0_ := Aside0.mk (Kd.qcN (ok := (fun k_ => ((P0_ k_ ∨ P1_ k_) ∨ w.heap.size ≤ k_))) (by (with_reducible repeat (first | apply Kd.qbH | apply Kd.qbI | apply Kd.qbu)); exact HO_0.out) hg hat)
                  have n1_ := Aside0.mk (Kd.qcN (ok := (fun k_ => ((P0_ k_ ∨ P1_ k_) ∨ w.heap.size ≤ k_))) (by (with_reducible repeat (first | apply Kd.qbH | apply Kd.qbI | apply Kd.qbu)); exact HO_1.out) hg hat)
                  have n2_ := Aside0.mk (hb)
                  have n3_ := Aside0.mk (ho)
                  clear HO_0
                  clear HO_1
                  clear HB
                  clear HO_5
                  have HO_0 := n0_
                  have HO_1 := n1_
                  have HB := n2_
                  have HO261 := n3_
                  clear n0_ n1_ n2_ n3_
                  clear ho hb hg hat
                  refine hK.out _ _ ?_
                  clear hK K
                  refine qcT (a' := ?_) ?_ ?_
                  rotate_left
                  ·show Act.put _ (some 39) _ = _
                   simp only [Act.put, List.setIfInBounds_toArray, List.set_cons_zero, List.set_cons_succ, qbh, qbi]
                   rfl
                  refine qby (i := 16) (N := some 5) (v := ?_) (a' := ?_) #[true, true, true, true, true, true, true, true, true, true, true, true, true, true, true, true, true] rfl rfl (qbo HT_.out (by kernel_rfl)) (fun _ _ _ h => h) (Or.inl ⟨by rfl, ?_⟩) ?_ ?_
                  rotate_left
                  ·intro w'
                   go_simp
                   with_reducible rfl
                  rotate_left
                  ·simp only [Act.put, List.setIfInBounds_toArray, List.set_cons_zero, List.set_cons_succ, qbh, qbi]
                   rfl
                  refine qeL (qcU HT_.out (by kernel_rfl)) ?_
                  try go_wp2
                  have n0_ := Aside0.mk (Kd.qbu HO_0.out)
                  have n1_ := Aside0.mk (Kd.qbu HO_1.out)
                  have n2_ := Aside0.mk (Kd.qax HO261.out)
                  have n3_ := Aside0.mk (qab HB.out)
                  clear HO_0
                  clear HO_1
                  clear HO261
                  clear HB
                  have HO_0 := n0_
                  have HO_1 := n1_
                  have HO261 := n2_
                  have HB := n3_
                  clear n0_ n1_ n2_ n3_
                  have q69 : (1 : Int) ≤ ((x0_1.length : Int) : Int) := of_decide_eq_true (by first | (with_reducible assumption) | assumption)
                  obtain ⟨i069, hi069, _, hsz69, _⟩ := info_parts info76
                  have hroom69 : x0_1.length ≤ co64 := (Kd.qbQ HO_0.out).2.1
                  have hC69 : Kd.F k76 _ _ (some ad244) x0_1.length x0_1 := (Kd.V_at (base := w.heap.size) HO_0.out).2.2
                  have hcut69 := qcM (P := Try.prog) 26 76 .i64 Try.underlying26 hi069 2 hsz69 (some ad244) x0_1.length co64 1 (by omega) q69
                  have hr69 := Kd.qfg (m := (1 : Int).toNat) (c := co64) hC69 (by omega) hroom69
                  obtain ⟨A69, hA69⟩ : ∃ A1, A1 = (if co64 = (1 : Int).toNat then (some ad244) else ((some ad244) : Option Addr).map (·.add ((1 : Int).toNat * 2))) := ⟨_, rfl⟩
                  obtain ⟨c69, hc69⟩ : ∃ c1, c1 = co64 - (1 : Int).toNat := ⟨_, rfl⟩
                  have hy69 : y262.length = x0_1.length - (1 : Int).toNat := (by rw [Ny262.out, List.length_drop] <;> omega)
                  rw [show (x0_1).drop (1 : Int).toNat = y262 from Ny262.out.symm] at hr69
                  replace hr69 : Kd.F k76 _ _ A69 y262.length y262 := (by rw [hA69]; exact hr69)
                  rw [← hy69, ← hA69, ← hc69] at hcut69
                  have HO266 := Aside0.mk (show Kd.V k76 76 _ w.heap.size _ (.slice A69 y262.length c69) y262 from Kd.V_mk (by rw [hy69, hc69]; exact Nat.sub_le_sub_right hroom69 _) hr69)
                  have HC266 := Aside0.mk (show y262.length ≤ c69 from by rw [hy69, hc69]; exact Nat.sub_le_sub_right hroom69 _)
                  clear hr69 hC69 hroom69 hi069 hsz69 hc69
                  have KY69 := Aside0.mk hy69
                  have KA69 := Aside0.mk hA69
                  clear hy69 hA69
                  replace q69 := eq_true q69
                  have q70 : (1 : Int) ≤ ((x1_1.length : Int) : Int) := of_decide_eq_true (by first | (with_reducible assumption) | assumption)
                  obtain ⟨i070, hi070, _, hsz70, _⟩ := info_parts info76
                  have hroom70 : x1_1.length ≤ co65 := (Kd.qbQ HO_1.out).2.1
                  have hC70 : Kd.F k76 _ _ (some ad245) x1_1.length x1_1 := (Kd.V_at (base := w.heap.size) HO_1.out).2.2
                  have hcut70 := qcM (P := Try.prog) 26 76 .i64 Try.underlying26 hi070 2 hsz70 (some ad245) x1_1.length co65 1 (by omega) q70
                  have hr70 := Kd.qfg (m := (1 : Int).toNat) (c := co65) hC70 (by omega) hroom70
                  obtain ⟨A70, hA70⟩ : ∃ A1, A1 = (if co65 = (1 : Int).toNat then (some ad245) else ((some ad245) : Option Addr).map (·.add ((1 : Int).toNat * 2))) := ⟨_, rfl⟩
                  obtain ⟨c70, hc70⟩ : ∃ c1, c1 = co65 - (1 : Int).toNat := ⟨_, rfl⟩
                  have hy70 : y267.length = x1_1.length - (1 : Int).toNat := (by rw [Ny267.out, List.length_drop] <;> omega)
                  rw [show (x1_1).drop (1 : Int).toNat = y267 from Ny267.out.symm] at hr70
                  replace hr70 : Kd.F k76 _ _ A70 y267.length y267 := (by rw [hA70]; exact hr70)
                  rw [← hy70, ← hA70, ← hc70] at hcut70
                  have HO271 := Aside0.mk (show Kd.V k76 76 _ w.heap.size _ (.slice A70 y267.length c70) y267 from Kd.V_mk (by rw [hy70, hc70]; exact Nat.sub_le_sub_right hroom70 _) hr70)
                  have HC271 := Aside0.mk (show y267.length ≤ c70 from by rw [hy70, hc70]; exact Nat.sub_le_sub_right hroom70 _)
                  clear hr70 hC70 hroom70 hi070 hsz70 hc70
                  have KY70 := Aside0.mk hy70
                  have KA70 := Aside0.mk hA70
                  clear hy70 hA70
                  replace q70 := eq_true q70
                  refine qaF (by kernel_rfl) (by kernel_rfl) ?_
                  generalize w67.drew = w68b at HO_0 HO_1 HO261 HB HO266 HO271 ⊢
                  repeat (first | go_big_quiet_step (fail) | quiet_step (fail))
                  refine wpQuiet_nil ?_
                  rintro w68 ⟨⟨wq_, hbL⟩, hq_⟩
                  have hq2_ : w68 = wq_ := hq_
                  clear hq_
                  subst hq2_
                  have nHO_0_ := by first | exact Aside0.mk (qak HO_0.out hbL) | exact Aside0.mk (Kd.qaA HO_0.out hbL) | exact Aside0.mk (Kd.qbz HO_0.out hbL) | exact Aside0.mk (Kd.qbA HO_0.out hbL) | exact Aside0.mk (Kd.qbB HO_0.out hbL) | exact Aside0.mk (Kd.qbx HO_0.out hbL) | exact Aside0.mk (Kd.qa2 HO_0.out hbL) | exact Aside0.mk ((hbL.block _ (qbj HO_0.out)).trans HO_0.out)
                  have nHO_1_ := by first | exact Aside0.mk (qak HO_1.out hbL) | exact Aside0.mk (Kd.qaA HO_1.out hbL) | exact Aside0.mk (Kd.qbz HO_1.out hbL) | exact Aside0.mk (Kd.qbA HO_1.out hbL) | exact Aside0.mk (Kd.qbB HO_1.out hbL) | exact Aside0.mk (Kd.qbx HO_1.out hbL) | exact Aside0.mk (Kd.qa2 HO_1.out hbL) | exact Aside0.mk ((hbL.block _ (qbj HO_1.out)).trans HO_1.out)
                  have nHO261_ := by first | exact Aside0.mk (qak HO261.out hbL) | exact Aside0.mk (Kd.qaA HO261.out hbL) | exact Aside0.mk (Kd.qbz HO261.out hbL) | exact Aside0.mk (Kd.qbA HO261.out hbL) | exact Aside0.mk (Kd.qbB HO261.out hbL) | exact Aside0.mk (Kd.qbx HO261.out hbL) | exact Aside0.mk (Kd.qa2 HO261.out hbL) | exact Aside0.mk ((hbL.block _ (qbj HO261.out)).trans HO261.out)
                  have nHB_ := Aside0.mk (qak HB.out hbL)
                  have nHO266_ := by first | exact Aside0.mk (qak HO266.out hbL) | exact Aside0.mk (Kd.qaA HO266.out hbL) | exact Aside0.mk (Kd.qbz HO266.out hbL) | exact Aside0.mk (Kd.qbA HO266.out hbL) | exact Aside0.mk (Kd.qbB HO266.out hbL) | exact Aside0.mk (Kd.qbx HO266.out hbL) | exact Aside0.mk (Kd.qa2 HO266.out hbL) | exact Aside0.mk ((hbL.block _ (qbj HO266.out)).trans HO266.out)
                  have nHO271_ := by first | exact Aside0.mk (qak HO271.out hbL) | exact Aside0.mk (Kd.qaA HO271.out hbL) | exact Aside0.mk (Kd.qbz HO271.out hbL) | exact Aside0.mk (Kd.qbA HO271.out hbL) | exact Aside0.mk (Kd.qbB HO271.out hbL) | exact Aside0.mk (Kd.qbx HO271.out hbL) | exact Aside0.mk (Kd.qa2 HO271.out hbL) | exact Aside0.mk ((hbL.block _ (qbj HO271.out)).trans HO271.out)
                  clear HO_0
                  clear HO_1
                  clear HO261
                  clear HB
                  clear HO266
                  clear HO271
                  have HO_0 := nHO_0_
                  have HO_1 := nHO_1_
                  have HO261 := nHO261_
                  have HB := nHB_
                  have HO266 := nHO266_
                  have HO271 := nHO271_
                  clear nHO_0_
                  clear nHO_1_
                  clear nHO261_
                  clear nHB_
                  clear nHO266_
                  clear nHO271_
                  clear hbL
                  try go_wp2
                  go_roundg kj31
                  case measure => have := HK1.out; have := HJ4.out; have := HJ10.out; have := HJ31.out; omega
                  case rel => exact ⟨(y262), (y267), (y259), H', ⟨by have := HK1.out; have := HJ4.out; have := HJ10.out; have := HJ31.out; omega⟩, ⟨by (with_reducible repeat (first | apply Kd.qbH | apply Kd.qbI | apply Kd.qbu)); exact HO266.out⟩, ⟨by (with_reducible repeat (first | apply Kd.qbH | apply Kd.qbI | apply Kd.qbu)); exact HO271.out⟩, ⟨by (with_reducible repeat (first | apply Kd.qar | apply Kd.qas | apply Kd.qax)); exact HO261.out⟩, ⟨by repeat (first | (with_reducible first | exact HB.out | apply qac | apply qaa | apply qab) | exact HB.out)⟩⟩
                 ·rw [if_neg c62] at H
                  exact absurd H (by simp)
                ·rw [if_neg c61] at H
                 exact absurd H (by simp)
               ·rw [if_neg c60] at H
                exact absurd H (by simp)
             ·rw [if_neg c50] at H
              exact absurd H (by simp)
            ·rw [if_neg c49] at H
             exact absurd H (by simp)
     ·replace c10 := Bool.eq_false_iff.mpr c10
      subst c10
      have H1 : (some x5_1) = some r := by rw [if_neg (show ¬ (false = true) by decide)] at H; exact H
      clear H
      have H := H1
      clear H1
      obtain rfl := Option.some.inj H
      go_wp2
      go_ret
      exact ⟨_, by first | rfl | (simp [qam, qan] <;> rfl) | (simp [*, qam, qan] <;> rfl), by (with_reducible repeat (first | apply Kd.qar | apply Kd.qas | apply Kd.qax)); exact HO_5.out, by repeat (first | (with_reducible first | exact HB.out | apply qac | apply qaa | apply qab) | exact HB.out)⟩
end Go.Proofs.Ytgcncphdjabjjaa.X
