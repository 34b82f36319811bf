import Derived.Test.YtgcncphdjabjjaaKFnExactMakeBackup3
import Derived.Test.YtgcncphdjabjjaaKFnExactMakeBackup4
namespace Go.Proofs.Ytgcncphdjabjjaa.X
open Go.RowKit Go.Proofs.YtgcncphdjabjjaaW.PrintWords Go.Proofs.YtgcncphdjabjjaaW.PrintLast Go.Proofs.YtgcncphdjabjjaaW.PrintMore
attribute [local go_sem] qaT qaU qaV qaP qaQ qa3 qa4 qaJ qaK qaR qaS
set_option linter.unusedVariables false
set_option linter.unusedSimpArgs false
mutual
def qaq.l0 : Nat → List (S76) → List (S76) → List (S82) → Int → Int → Option ((List (S82)))
 | 0, _, _, _, _, _ => none
 | k + 1, x0, x1, x5, x6, x7 => if x6 < (x0.length : Int) then (qaq.j1 k x0 x1 x5 x6 x7 true) else (qaq.j1 k x0 x1 x5 x6 x7 (decide (x7 < (x1.length : Int))))
def qaq.j1 : Nat → List (S76) → List (S76) → List (S82) → Int → Int → Bool → Option ((List (S82)))
 | 0, _, _, _, _, _, _ => none
 | k + 1, x0, x1, x5, x6, x7, x18 => if x18 = true then (if x7 = (x1.length : Int) then (qaq.j2 k x0 x1 x5 x6 x7 true) else (if x6 < (x0.length : Int) then (if 0 ≤ x6 then (if 0 ≤ x7 then (if x7 < (x1.length : Int) then (qaq.j2 k x0 x1 x5 x6 x7 (Op.bytesLess (((qal x0 x6).f0).toList) (((qal x1 x7).f0).toList))) else (none)) else (none)) else (none)) else (qaq.j2 k x0 x1 x5 x6 x7 false))) else (some x5)
def qaq.j2 : Nat → List (S76) → List (S76) → List (S82) → Int → Int → Bool → Option ((List (S82)))
 | 0, _, _, _, _, _, _ => none
 | k + 1, x0, x1, x5, x6, x7, x53 => if x53 = true then (if 0 ≤ x6 then (if x6 < (x0.length : Int) then (if x5.length < 2513169434916 then (qaq.l0 k x0 x1 (x5 ++ [(⟨(qal x0 x6).f0, (qal x0 x6).f1, (⟨#[]⟩ : ByteArray), true, false⟩ : S82)]) (wrap64 (x6 + 1)) x7) else (none)) else (none)) else (none)) else (if x6 = (x0.length : Int) then (qaq.j3 k x0 x1 x5 x6 x7 true) else (if 0 ≤ x7 then (if x7 < (x1.length : Int) then (if 0 ≤ x6 then (if x6 < (x0.length : Int) then (qaq.j3 k x0 x1 x5 x6 x7 (Op.bytesLess (((qal x1 x7).f0).toList) (((qal x0 x6).f0).toList))) else (none)) else (none)) else (none)) else (none)))
def qaq.j3 : Nat → List (S76) → List (S76) → List (S82) → Int → Int → Bool → Option ((List (S82)))
 | 0, _, _, _, _, _, _ => none
 | k + 1, x0, x1, x5, x6, x7, x93 => if x93 = true then (if 0 ≤ x7 then (if x7 < (x1.length : Int) then (if x5.length < 2513169434916 then (qaq.l0 k x0 x1 (x5 ++ [(⟨(qal x1 x7).f0, (⟨#[]⟩ : ByteArray), (qal x1 x7).f1, false, true⟩ : S82)]) x6 (wrap64 (x7 + 1))) else (none)) else (none)) else (none)) else (if 0 ≤ x6 then (if x6 < (x0.length : Int) then (if 0 ≤ x7 then (if x7 < (x1.length : Int) then (if ((qal x0 x6).f1).toList = ((qal x1 x7).f1).toList then (qaq.l0 k x0 x1 x5 (wrap64 (x6 + 1)) (wrap64 (x7 + 1))) else (if x5.length < 2513169434916 then (qaq.l0 k x0 x1 (x5 ++ [(⟨(qal x0 x6).f0, (qal x0 x6).f1, (qal x1 x7).f1, true, true⟩ : S82)]) (wrap64 (x6 + 1)) (wrap64 (x7 + 1))) else (none))) else (none)) else (none)) else (none)) else (none))
end
def qaq.f (k : Nat) (l0 : List (S76)) (l1 : List (S76)) : Option ((List (S82))) := qaq.l0 k l0 l1 (([] : List (S82))) 0 0
theorem qaq.qbs : ∀ k, (∀ y0 y1 y2 y3 y4, LeO (qaq.l0 k y0 y1 y2 y3 y4) (qaq.l0 (k + 1) y0 y1 y2 y3 y4)) ∧ (∀ y0 y1 y2 y3 y4 y5, LeO (qaq.j1 k y0 y1 y2 y3 y4 y5) (qaq.j1 (k + 1) y0 y1 y2 y3 y4 y5)) ∧ (∀ y0 y1 y2 y3 y4 y5, LeO (qaq.j2 k y0 y1 y2 y3 y4 y5) (qaq.j2 (k + 1) y0 y1 y2 y3 y4 y5)) ∧ (∀ y0 y1 y2 y3 y4 y5, LeO (qaq.j3 k y0 y1 y2 y3 y4 y5) (qaq.j3 (k + 1) y0 y1 y2 y3 y4 y5))
 | 0 => ⟨fun _ _ _ _ _ r h => by simp [qaq.l0] at h, fun _ _ _ _ _ _ r h => by simp [qaq.j1] at h, fun _ _ _ _ _ _ r h => by simp [qaq.j2] at h, fun _ _ _ _ _ _ r h => by simp [qaq.j3] at h⟩
 | k + 1 => by
  obtain ⟨ih0, ih1, ih2, ih3⟩ := qaq.qbs k
  refine ⟨?_, ?_, ?_, ?_⟩
  ·intro y0 y1 y2 y3 y4
   unfold qaq.l0
   repeat' first
   | (with_reducible exact ih0 _ _ _ _ _)
   | (with_reducible exact ih1 _ _ _ _ _ _)
   | (with_reducible exact ih2 _ _ _ _ _ _)
   | (with_reducible exact ih3 _ _ _ _ _ _)
   | (with_reducible exact LeO.refl _)
   | (with_reducible exact LeO.none _)
   | (with_reducible refine LeO.ite ?_ ?_)
   | (with_reducible refine LeO.bind ?_ (fun _ => ?_))
   | exact ih0 _ _ _ _ _
   | exact ih1 _ _ _ _ _ _
   | exact ih2 _ _ _ _ _ _
   | exact ih3 _ _ _ _ _ _
   | exact LeO.none _
   | refine LeO.ite ?_ ?_
   | refine LeO.bind ?_ (fun _ => ?_)
  ·intro y0 y1 y2 y3 y4 y5
   unfold qaq.j1
   repeat' first
   | (with_reducible exact ih0 _ _ _ _ _)
   | (with_reducible exact ih1 _ _ _ _ _ _)
   | (with_reducible exact ih2 _ _ _ _ _ _)
   | (with_reducible exact ih3 _ _ _ _ _ _)
   | (with_reducible exact LeO.refl _)
   | (with_reducible exact LeO.none _)
   | (with_reducible refine LeO.ite ?_ ?_)
   | (with_reducible refine LeO.bind ?_ (fun _ => ?_))
   | exact ih0 _ _ _ _ _
   | exact ih1 _ _ _ _ _ _
   | exact ih2 _ _ _ _ _ _
   | exact ih3 _ _ _ _ _ _
   | exact LeO.none _
   | refine LeO.ite ?_ ?_
   | refine LeO.bind ?_ (fun _ => ?_)
  ·intro y0 y1 y2 y3 y4 y5
   unfold qaq.j2
   repeat' first
   | (with_reducible exact ih0 _ _ _ _ _)
   | (with_reducible exact ih1 _ _ _ _ _ _)
   | (with_reducible exact ih2 _ _ _ _ _ _)
   | (with_reducible exact ih3 _ _ _ _ _ _)
   | (with_reducible exact LeO.refl _)
   | (with_reducible exact LeO.none _)
   | (with_reducible refine LeO.ite ?_ ?_)
   | (with_reducible refine LeO.bind ?_ (fun _ => ?_))
   | exact ih0 _ _ _ _ _
   | exact ih1 _ _ _ _ _ _
   | exact ih2 _ _ _ _ _ _
   | exact ih3 _ _ _ _ _ _
   | exact LeO.none _
   | refine LeO.ite ?_ ?_
   | refine LeO.bind ?_ (fun _ => ?_)
  ·intro y0 y1 y2 y3 y4 y5
   unfold qaq.j3
   repeat' first
   | (with_reducible exact ih0 _ _ _ _ _)
   | (with_reducible exact ih1 _ _ _ _ _ _)
   | (with_reducible exact ih2 _ _ _ _ _ _)
   | (with_reducible exact ih3 _ _ _ _ _ _)
   | (with_reducible exact LeO.refl _)
   | (with_reducible exact LeO.none _)
   | (with_reducible refine LeO.ite ?_ ?_)
   | (with_reducible refine LeO.bind ?_ (fun _ => ?_))
   | exact ih0 _ _ _ _ _
   | exact ih1 _ _ _ _ _ _
   | exact ih2 _ _ _ _ _ _
   | exact ih3 _ _ _ _ _ _
   | exact LeO.none _
   | refine LeO.ite ?_ ?_
   | refine LeO.bind ?_ (fun _ => ?_)
theorem qaq.mono : ∀ a0 a1 k, LeO (qaq.f k a0 a1) (qaq.f (k + 1) a0 a1) := by
 intro a0 a1 k
 obtain ⟨ih0, ih1, ih2, ih3⟩ := qaq.qbs k
 unfold qaq.f
 repeat' first
   | (with_reducible exact ih0 _ _ _ _ _)
   | (with_reducible exact ih1 _ _ _ _ _ _)
   | (with_reducible exact ih2 _ _ _ _ _ _)
   | (with_reducible exact ih3 _ _ _ _ _ _)
   | (with_reducible exact LeO.refl _)
   | (with_reducible exact LeO.none _)
   | (with_reducible refine LeO.ite ?_ ?_)
   | (with_reducible refine LeO.bind ?_ (fun _ => ?_))
   | exact ih0 _ _ _ _ _
   | exact ih1 _ _ _ _ _ _
   | exact ih2 _ _ _ _ _ _
   | exact ih3 _ _ _ _ _ _
   | exact LeO.none _
   | refine LeO.ite ?_ ?_
   | refine LeO.bind ?_ (fun _ => ?_)
def qaq.T5 : Bool × List (List Nat × List Nat) := (true, [([], []), ([], []), ([0, 1], [0, 1]), ([2], [2]), ([3], [3]), ([], []), ([], []), ([5, 6], [5, 6]), ([7], [7]), ([8], [8]), ([4, 9], [4, 9])])
def qaq.B5 : List Nat := [0, 0, 3, 7, 15, 0, 0, 96, 224, 480, 1023]
theorem qaq.tab5 : rtab .any (opsOf Try.f56 5) = qaq.T5 := by kernel_rfl
theorem qaq.bits5 : waitsOk qaq.T5.2 qaq.B5 = true := by kernel_rfl
def qaq.T6 : Bool × List (List Nat × List Nat) := (true, [([], []), ([], []), ([], []), ([1, 2], [1, 2]), ([3], [3]), ([4], [4]), ([], []), ([], []), ([6, 7], [6, 7]), ([8], [8]), ([9], [9]), ([], []), ([], []), ([11, 12], [11, 12]), ([13], [13]), ([14], [14]), ([5, 10, 15], [5, 10, 15]), ([16], [16]), ([0, 17], [0, 17]), ([18, 18, 0, 1, 2, 3, 4, 5, 6, 7, 8, 9, 10, 11, 12, 13, 14, 15, 16, 17, 18], [0, 18])])
def qaq.B6 : List Nat := [0, 0, 0, 6, 14, 30, 0, 0, 192, 448, 960, 0, 0, 6144, 14336, 30720, 65534, 131070, 262143, 524287]
theorem qaq.tab6 : rtab .any (opsOf Try.f56 6) = qaq.T6 := by kernel_rfl
theorem qaq.bits6 : waitsOk qaq.T6.2 qaq.B6 = true := by kernel_rfl
def qaq.T10 : Bool × List (List Nat × List Nat) := (true, [([], []), ([], []), ([], []), ([1, 2], [1, 2]), ([3], [3]), ([4], [4]), ([], []), ([], []), ([6, 7], [6, 7]), ([8], [8]), ([9], [9]), ([5, 10], [5, 10]), ([11], [11]), ([0, 12], [0, 12]), ([13, 13, 0, 1, 2, 3, 4, 5, 6, 7, 8, 9, 10, 11, 12, 13], [0, 13])])
def qaq.B10 : List Nat := [0, 0, 0, 6, 14, 30, 0, 0, 192, 448, 960, 2046, 4094, 8191, 16383]
theorem qaq.tab10 : rtab .any (opsOf Try.f56 10) = qaq.T10 := by kernel_rfl
theorem qaq.bits10 : waitsOk qaq.T10.2 qaq.B10 = true := by kernel_rfl
def qaq.T13 : Bool × List (List Nat × List Nat) := (true, [([], []), ([], []), ([], []), ([1, 2], [1, 2]), ([3], [3]), ([4], [4]), ([], []), ([], []), ([6, 7], [6, 7]), ([8], [8]), ([9], [9]), ([5, 10], [5, 10]), ([11], [11]), ([0, 12], [0, 12]), ([13, 13, 0, 1, 2, 3, 4, 5, 6, 7, 8, 9, 10, 11, 12, 13], [0, 13])])
def qaq.B13 : List Nat := [0, 0, 0, 6, 14, 30, 0, 0, 192, 448, 960, 2046, 4094, 8191, 16383]
theorem qaq.tab13 : rtab .any (opsOf Try.f56 13) = qaq.T13 := by kernel_rfl
theorem qaq.bits13 : waitsOk qaq.T13.2 qaq.B13 = true := by kernel_rfl
set_option maxHeartbeats 8000000 in
set_option maxRecDepth 100000 in
theorem qaq.calls (k : Nat) (A0 : Option Addr) (c0 : Nat) (l0 : List (S76)) (A1 : Option Addr) (c1 : Nat) (l1 : List (S76)) (r : List (S82)) (w : World) (hr0 : Kd.C k76 w A0 l0.length l0) (hc0 : l0.length ≤ c0) (hr1 : Kd.C k76 w A1 l1.length l1) (hc1 : l1.length ≤ c1) (h : qaq.f k l0 l1 = some r) :
  Calls Try.prog 56 #[.slice A0 l0.length c0, .slice A1 l1.length c1] w fun e w' => ∃ v0_ : Value, e = .returned (v0_) ∧ Kd.R k82 82 w' w.heap.size (fun _ => True) v0_ r ∧ Below w.heap.size w w' := by
 have hu82 := Try.underlying82
 have HR0 := Aside0.mk hr0
 have HC0 := Aside0.mk hc0
 clear hr0 hc0
 have HR1 := Aside0.mk hr1
 have HC1 := Aside0.mk hc1
 clear hr1 hc1
 have HB := Aside0.mk (Below.refl w.heap.size w)
 have H : (qaq.l0 k l0 l1 (([] : List (S82))) 0 0) = some r := h
 clear h
 obtain ⟨y178, hy178⟩ : ∃ y_ : List (S82), y_ = (([] : List (S82))) := ⟨_, rfl⟩
 replace H : (qaq.l0 k l0 l1 y178 0 0) = some r := by first | (rw [hy178]; with_reducible exact H) | (have H2_ := (Option.bind_some _ _).symm.trans H; rw [hy178]; with_reducible exact H2_) | (have H2_ := (Option.bind_some _ _).symm.trans H; with_reducible exact H2_) | with_reducible exact H | (rw [hy178]; exact H) | exact H
 have Ny178 := Aside0.mk hy178
 clear hy178
 have H' := Aside0.mk H
 clear H
 go_enter Try.func56, Try.ntmps56
 go_wp2_with (first | ((with_reducible refine qbc (N := 8) rfl ?_); (try (refine qcg (by rfl) ?_; dsimp only)); refine Kd.qfb k82 _ 82 ?hg (N := 8) ?hd (xs := ([] : List (S82))) (inner := []) (ok := fun _ => True) (okp := fun _ => True) ?hr ?hp (fun _ hk => hk) trivial (Below.refl _ _) (Nat.le_refl _) (by simp) ?_; (case hd => rfl); (case hg => rfl); (case hr => first | (go_simp; done) | (go_simp; rfl)); (case hp => exact (Reps.none _ _)); intro v179 w3 ho4 hb hg_ hnew_; clear hg_ hnew_; (first | rw [← Ny178.out] at ho4 | (simp only [Int.reduceToNat] at ho4; rw [← Ny178.out] at ho4)); have n0_ := Aside0.mk (Kd.qbL ho4 (qau (by repeat (first | (with_reducible first | exact HB.out | apply qac | apply qaa | apply qab) | exact HB.out)))); have n1_ := Aside0.mk (qak (by repeat (first | (with_reducible first | exact HB.out | apply qac | apply qaa | apply qab) | exact HB.out)) hb); clear HB; have HO180 := n0_; have HB := n1_; clear n0_ n1_; clear hb ho4))
 go_loopg [5, 6, 7] k (fun kq v5 v6 v7 w' => ∃ (x5_1 : List (S82)) (x6_1 : Int) (x7_1 : Int), v6 = .int .i64 x6_1 ∧ v7 = .int .i64 x7_1 ∧ Aside0 (qaq.l0 kq l0 l1 x5_1 x6_1 x7_1 = some r) ∧ Aside0 (kq ≤ k) ∧ Aside0 (Kd.R k82 82 w' w.heap.size (fun _ => True) v5 x5_1) ∧ Aside0 (Below w.heap.size w w'))
 case atStart => exact ⟨(y178), (0), (0), (by first | rfl | (simp; done) | (simp [*]; done)), (by first | rfl | (simp; done) | (simp [*]; done)), H', ⟨Nat.le_refl _⟩, ⟨by (with_reducible repeat (first | apply Kd.qar | apply Kd.qas | apply Kd.qax)); exact HO180.out⟩, ⟨by repeat (first | (with_reducible first | exact HB.out | apply qac | apply qaa | apply qab) | exact HB.out)⟩⟩
 case round =>
  clear H'
  try clear c1
  try clear p2
  obtain ⟨x5_1, x6_1, x7_1, rfl, rfl, HA, HK1, HO_5, HB⟩ := hrel
  cases gk with
  | zero => exact absurd HA.out (by simp [qaq.l0])
  | succ k1 =>
   have H := HA.out
   clear HA
   simp only [qaq.l0] at H
   have HC5 := Aside0.mk H
   clear H
   go_upto_region 4 with (fail)
   go_cut [18] (fun v18 wc => ∃ (kq : Nat) (x18_4 : Bool), v18 = .bool x18_4 ∧ Aside0 (qaq.j1 kq l0 l1 x5_1 x6_1 x7_1 x18_4 = some r) ∧ Aside0 (kq ≤ k1) ∧ Aside0 (Kd.R k82 82 wc w.heap.size (fun _ => True) u5 x5_1) ∧ Aside0 (Below w.heap.size w wc))
   case first =>
    have H := HC5.out
    clear HC5
    by_cases c6 : x6_1 < (l0.length : Int)
    ·rw [if_pos c6] at H
     have c6b0 : decide (x6_1 < (l0.length : Int)) = true := decide_eq_true c6
     clear c6
     (first | rw [c6b0] | (simp only [qbh, qbi]; rw [c6b0]) | skip)
     have H' := Aside0.mk H
     clear H
     go_wp2
     go_meet
     case rel => exact ⟨_, (true), (by first | rfl | (simp; done) | (simp [*]; done)), H', ⟨by have := HK1.out; first | omega | exact Nat.le_refl _⟩, ⟨by (with_reducible repeat (first | apply Kd.qar | apply Kd.qas | apply Kd.qax)); exact HO_5.out⟩, ⟨by repeat (first | (with_reducible first | exact HB.out | apply qac | apply qaa | apply qab) | exact HB.out)⟩⟩
    ·rw [if_neg c6] at H
     have c6b0 : decide (x6_1 < (l0.length : Int)) = false := decide_eq_false c6
     clear c6
     (first | rw [c6b0] | (simp only [qbh, qbi]; rw [c6b0]) | skip)
     have H' := Aside0.mk H
     clear H
     go_wp2
     go_meet
     case rel => exact ⟨_, (decide (x7_1 < (l1.length : Int))), (by first | rfl | (simp; done) | (simp [*]; done)), H', ⟨by have := HK1.out; first | omega | exact Nat.le_refl _⟩, ⟨by (with_reducible repeat (first | apply Kd.qar | apply Kd.qas | apply Kd.qax)); exact HO_5.out⟩, ⟨by repeat (first | (with_reducible first | exact HB.out | apply qac | apply qaa | apply qab) | exact HB.out)⟩⟩
   case rest =>
    clear HC5
    try clear c1
    try clear p2
    try clear c5
    try clear c6
    try clear c6b0
    try clear p2
    obtain ⟨kq, x18_4, rfl, HA, HJ4, HO_5, HB⟩ := hcut
    cases kq with
    | zero => exact absurd HA.out (by simp [qaq.j1])
    | succ kj4 =>
     have H := HA.out
     clear HA
     simp only [qaq.j1] at H
     by_cases c7 : x18_4 = true
     ·subst c7
      have H1 : (if x7_1 = (l1.length : Int) then (qaq.j2 kj4 l0 l1 x5_1 x6_1 x7_1 true) else (if x6_1 < (l0.length : Int) then (if 0 ≤ x6_1 then (if 0 ≤ x7_1 then (if x7_1 < (l1.length : Int) then (qaq.j2 kj4 l0 l1 x5_1 x6_1 x7_1 (Op.bytesLess (((qal l0 x6_1).f0).toList) (((qal l1 x7_1).f0).toList))) else (none)) else (none)) else (none)) else (qaq.j2 kj4 l0 l1 x5_1 x6_1 x7_1 false))) = some r := by rw [if_pos rfl] at H; exact H
      clear H
      have H := H1
      clear H1
      have HC8 := Aside0.mk H
      clear H
      go_upto_region 9 with (fail)
      go_cut [53] (fun v53 wc => ∃ (kq : Nat) (x53_7 : Bool), v53 = .bool x53_7 ∧ Aside0 (qaq.j2 kq l0 l1 x5_1 x6_1 x7_1 x53_7 = some r) ∧ Aside0 (kq ≤ kj4) ∧ Aside0 (Kd.R k82 82 wc w.heap.size (fun _ => True) u5 x5_1) ∧ Aside0 (Below w.heap.size w wc))
      case first =>
       have H := HC8.out
       clear HC8
       by_cases c9 : x7_1 = (l1.length : Int)
       ·rw [if_pos c9] at H
        have c9b0 : (x7_1 == (l1.length : Int)) = true := beq_iff_eq.mpr c9
        have c9b1 : (x7_1 != (l1.length : Int)) = false := bne_eq_false_iff_eq.mpr c9
        clear c9
        (first | rw [c9b0] | (simp only [qbh, qbi]; rw [c9b0]) | skip)
        have H' := Aside0.mk H
        clear H
        try go_wp2
        have n0_ := Aside0.mk (Kd.qax HO_5.out)
        have n1_ := Aside0.mk (qab HB.out)
        clear HO_5
        clear HB
        have HO_5 := n0_
        have HB := n1_
        clear n0_ n1_
        refine qaF (by kernel_rfl) (by kernel_rfl) ?_
        generalize wc.drew = w10b at HO_5 HB ⊢
        repeat (first | go_big_quiet_step (fail) | quiet_step (fail))
        refine wpQuiet_nil ?_
        rintro w10 ⟨⟨wq_, hbL⟩, hq_⟩
        have hq2_ : w10 = wq_ := hq_
        clear hq_
        subst hq2_
        have nHO_5_ := by first | exact Aside0.mk (qak HO_5.out hbL) | exact Aside0.mk (Kd.qaA HO_5.out hbL) | exact Aside0.mk (Kd.qbz HO_5.out hbL) | exact Aside0.mk (Kd.qbA HO_5.out hbL) | exact Aside0.mk (Kd.qbB HO_5.out hbL) | exact Aside0.mk (Kd.qbx HO_5.out hbL) | exact Aside0.mk (Kd.qa2 HO_5.out hbL) | exact Aside0.mk ((hbL.block _ (qbj HO_5.out)).trans HO_5.out)
        have nHB_ := Aside0.mk (qak HB.out hbL)
        clear HO_5
        clear HB
        have HO_5 := nHO_5_
        have HB := nHB_
        clear nHO_5_
        clear nHB_
        clear hbL
        try go_wp2
        go_meet
        case rel => exact ⟨_, (true), (by first | rfl | (simp; done) | (simp [*]; done)), H', ⟨by have := HK1.out; have := HJ4.out; first | omega | exact Nat.le_refl _⟩, ⟨by (with_reducible repeat (first | apply Kd.qar | apply Kd.qas | apply Kd.qax)); exact HO_5.out⟩, ⟨by repeat (first | (with_reducible first | exact HB.out | apply qac | apply qaa | apply qab) | exact HB.out)⟩⟩
       ·rw [if_neg c9] at H
        have c9b0 : (x7_1 == (l1.length : Int)) = false := beq_eq_false_iff_ne.mpr c9
        have c9b1 : (x7_1 != (l1.length : Int)) = true := bne_iff_ne.mpr c9
        (first | rw [c9b0] | (simp only [qbh, qbi]; rw [c9b0]) | skip)
        by_cases c11 : x6_1 < (l0.length : Int)
        ·rw [if_pos c11] at H
         have c11b0 : decide (x6_1 < (l0.length : Int)) = true := decide_eq_true c11
         clear c11
         by_cases c12 : 0 ≤ x6_1
         ·rw [if_pos c12] at H
          have c12b0 : decide (0 ≤ x6_1) = true := decide_eq_true c12
          clear c12
          by_cases c13 : 0 ≤ x7_1
          ·rw [if_pos c13] at H
           have c13b0 : decide (0 ≤ x7_1) = true := decide_eq_true c13
           clear c13
           by_cases c14 : x7_1 < (l1.length : Int)
           ·rw [if_pos c14] at H
            have c14b0 : decide (x7_1 < (l1.length : Int)) = true := decide_eq_true c14
            clear c14
            have H' := Aside0.mk H
            clear H
            try go_wp2
            have n0_ := Aside0.mk (Kd.qax HO_5.out)
            have n1_ := Aside0.mk (qab HB.out)
            clear HO_5
            clear HB
            have HO_5 := n0_
            have HB := n1_
            clear n0_ n1_
            have p181 : 0 ≤ (x6_1 : Int) := of_decide_eq_true (by first | (with_reducible assumption) | assumption)
            have q181 : x6_1 < (l0.length : Int) := of_decide_eq_true (by first | (with_reducible assumption) | assumption)
            obtain ⟨ad181, e181, hx181_0, hx181_1⟩ := qbv HR0.out x6_1 p181 q181
            have hw181_1 := hx181_1
            have hw181_0 := hx181_0
            cases e181
            replace hx181_0 := (HB.out.cell (World.block_lt_of_cell? w _ hx181_0)).trans hx181_0
            replace hx181_1 := (HB.out.cell (World.block_lt_of_cell? w _ hx181_1)).trans hx181_1
            replace p181 := eq_true p181
            replace q181 := eq_true q181
            have p182 : 0 ≤ (x7_1 : Int) := of_decide_eq_true (by first | (with_reducible assumption) | assumption)
            have q182 : x7_1 < (l1.length : Int) := of_decide_eq_true (by first | (with_reducible assumption) | assumption)
            obtain ⟨ad182, e182, hx182_0, hx182_1⟩ := qbv HR1.out x7_1 p182 q182
            have hw182_1 := hx182_1
            have hw182_0 := hx182_0
            cases e182
            replace hx182_0 := (HB.out.cell (World.block_lt_of_cell? w _ hx182_0)).trans hx182_0
            replace hx182_1 := (HB.out.cell (World.block_lt_of_cell? w _ hx182_1)).trans hx182_1
            replace p182 := eq_true p182
            replace q182 := eq_true q182
            refine qaF (by kernel_rfl) (by kernel_rfl) ?_
            have hL0_ := Aside0.mk (show wc.drew.cell? (ad181.add ((x6_1).toNat * 2)) = some (.string ((qal l0 x6_1).f0)) from ((HB.out.cell (World.block_lt_of_cell? w _ hw181_0)).trans hw181_0))
            have hL1_ := Aside0.mk (show wc.drew.cell? ⟨(ad181.add ((x6_1).toNat * 2)).block, (ad181.add ((x6_1).toNat * 2)).off + 1, none⟩ = some (.string ((qal l0 x6_1).f1)) from ((HB.out.cell (World.block_lt_of_cell? w _ hw181_1)).trans hw181_1))
            have hL2_ := Aside0.mk (show wc.drew.cell? (ad182.add ((x7_1).toNat * 2)) = some (.string ((qal l1 x7_1).f0)) from ((HB.out.cell (World.block_lt_of_cell? w _ hw182_0)).trans hw182_0))
            have hL3_ := Aside0.mk (show wc.drew.cell? ⟨(ad182.add ((x7_1).toNat * 2)).block, (ad182.add ((x7_1).toNat * 2)).off + 1, none⟩ = some (.string ((qal l1 x7_1).f1)) from ((HB.out.cell (World.block_lt_of_cell? w _ hw182_1)).trans hw182_1))
            generalize wc.drew = w15b at HO_5 HB hx181_0 hx181_1 hx182_0 hx182_1 hL0_ hL1_ hL2_ hL3_ ⊢
            clear hx181_0 hx181_1 hx182_0 hx182_1
            have hL0 := fun (p_ : Later w15b) => Later.cell p_ hL0_.out
            have hL1 := fun (p_ : Later w15b) => Later.cell p_ hL1_.out
            have hL2 := fun (p_ : Later w15b) => Later.cell p_ hL2_.out
            have hL3 := fun (p_ : Later w15b) => Later.cell p_ hL3_.out
            clear hL0_ hL1_ hL2_ hL3_
            repeat (first | go_big_quiet_step (fail) | quiet_step (fail))
            refine wpQuiet_nil ?_
            rintro w15 ⟨⟨wq_, hbL⟩, hq_⟩
            have hq2_ : w15 = wq_ := hq_
            clear hq_
            subst hq2_
            clear hL0 hL1 hL2 hL3
            have nHO_5_ := by first | exact Aside0.mk (qak HO_5.out hbL) | exact Aside0.mk (Kd.qaA HO_5.out hbL) | exact Aside0.mk (Kd.qbz HO_5.out hbL) | exact Aside0.mk (Kd.qbA HO_5.out hbL) | exact Aside0.mk (Kd.qbB HO_5.out hbL) | exact Aside0.mk (Kd.qbx HO_5.out hbL) | exact Aside0.mk (Kd.qa2 HO_5.out hbL) | exact Aside0.mk ((hbL.block _ (qbj HO_5.out)).trans HO_5.out)
            have nHB_ := Aside0.mk (qak HB.out hbL)
            clear HO_5
            clear HB
            have HO_5 := nHO_5_
            have HB := nHB_
            clear nHO_5_
            clear nHB_
            clear hbL
            try go_wp2
            go_meet
            case rel => exact ⟨_, ((Op.bytesLess (((qal l0 x6_1).f0).toList) (((qal l1 x7_1).f0).toList))), (by first | rfl | (simp; done) | (simp [*]; done)), H', ⟨by have := HK1.out; have := HJ4.out; first | omega | exact Nat.le_refl _⟩, ⟨by (with_reducible repeat (first | apply Kd.qar | apply Kd.qas | apply Kd.qax)); exact HO_5.out⟩, ⟨by repeat (first | (with_reducible first | exact HB.out | apply qac | apply qaa | apply qab) | exact HB.out)⟩⟩
           ·rw [if_neg c14] at H
            exact absurd H (by simp)
          ·rw [if_neg c13] at H
           exact absurd H (by simp)
         ·rw [if_neg c12] at H
          exact absurd H (by simp)
        ·rw [if_neg c11] at H
         have c11b0 : decide (x6_1 < (l0.length : Int)) = false := decide_eq_false c11
         clear c11
         have H' := Aside0.mk H
         clear H
         try go_wp2
         have n0_ := Aside0.mk (Kd.qax HO_5.out)
         have n1_ := Aside0.mk (qab HB.out)
         clear HO_5
         clear HB
         have HO_5 := n0_
         have HB := n1_
         clear n0_ n1_
         refine qaF (by kernel_rfl) (by kernel_rfl) ?_
         generalize wc.drew = w16b at HO_5 HB ⊢
         repeat (first | go_big_quiet_step (fail) | quiet_step (fail))
         refine wpQuiet_nil ?_
         rintro w16 ⟨⟨wq_, hbL⟩, hq_⟩
         have hq2_ : w16 = wq_ := hq_
         clear hq_
         subst hq2_
         have nHO_5_ := by first | exact Aside0.mk (qak HO_5.out hbL) | exact Aside0.mk (Kd.qaA HO_5.out hbL) | exact Aside0.mk (Kd.qbz HO_5.out hbL) | exact Aside0.mk (Kd.qbA HO_5.out hbL) | exact Aside0.mk (Kd.qbB HO_5.out hbL) | exact Aside0.mk (Kd.qbx HO_5.out hbL) | exact Aside0.mk (Kd.qa2 HO_5.out hbL) | exact Aside0.mk ((hbL.block _ (qbj HO_5.out)).trans HO_5.out)
         have nHB_ := Aside0.mk (qak HB.out hbL)
         clear HO_5
         clear HB
         have HO_5 := nHO_5_
         have HB := nHB_
         clear nHO_5_
         clear nHB_
         clear hbL
         try go_wp2
         go_meet
         case rel => exact ⟨_, (false), (by first | rfl | (simp; done) | (simp [*]; done)), H', ⟨by have := HK1.out; have := HJ4.out; first | omega | exact Nat.le_refl _⟩, ⟨by (with_reducible repeat (first | apply Kd.qar | apply Kd.qas | apply Kd.qax)); exact HO_5.out⟩, ⟨by repeat (first | (with_reducible first | exact HB.out | apply qac | apply qaa | apply qab) | exact HB.out)⟩⟩
      case rest =>
       clear HC8
       try clear c1
       try clear p1
       try clear q1
       try clear hx1
       try clear p2
       try clear c5
       try clear c6
       try clear c6b0
       try clear c7
       try clear c9
       try clear c9b0
       try clear c9b1
       try clear c11
       try clear c11b0
       try clear c12
       try clear c12b0
       try clear c13
       try clear c13b0
       try clear c14
       try clear c14b0
       try clear hx181_0
       try clear hx181_1
       try clear hx182_0
       try clear hx182_1
       try clear p181
       try clear p182
       try clear p2
       try clear q181
       try clear q182
       obtain ⟨kq, x53_7, rfl, HA, HJ7, HO_5, HB⟩ := hcut
       cases kq with
       | zero => exact absurd HA.out (by simp [qaq.j2])
       | succ kj7 =>
        have H := HA.out
        clear HA
        simp only [qaq.j2] at H
        by_cases c17 : x53_7 = true
        ·subst c17
         have H1 : (if 0 ≤ x6_1 then (if x6_1 < (l0.length : Int) then (if x5_1.length < 2513169434916 then (qaq.l0 kj7 l0 l1 (x5_1 ++ [(⟨(qal l0 x6_1).f0, (qal l0 x6_1).f1, (⟨#[]⟩ : ByteArray), true, false⟩ : S82)]) (wrap64 (x6_1 + 1)) x7_1) else (none)) else (none)) else (none)) = some r := by rw [if_pos rfl] at H; exact H
         clear H
         have H := H1
         clear H1
         by_cases c18 : 0 ≤ x6_1
         ·rw [if_pos c18] at H
          have c18b0 : decide (0 ≤ x6_1) = true := decide_eq_true c18
          clear c18
          by_cases c19 : x6_1 < (l0.length : Int)
          ·rw [if_pos c19] at H
           have c19b0 : decide (x6_1 < (l0.length : Int)) = true := decide_eq_true c19
           clear c19
           by_cases c20 : x5_1.length < 2513169434916
           ·rw [if_pos c20] at H
            have LMc20 := Aside0.mk c20
            clear c20
            obtain ⟨y185, hy185⟩ : ∃ y_ : List (S82), y_ = (x5_1 ++ [(⟨(qal l0 x6_1).f0, (qal l0 x6_1).f1, (⟨#[]⟩ : ByteArray), true, false⟩ : S82)]) := ⟨_, rfl⟩
            replace H : (qaq.l0 kj7 l0 l1 y185 (wrap64 (x6_1 + 1)) x7_1) = some r := by first | (rw [hy185]; with_reducible exact H) | (have H2_ := (Option.bind_some _ _).symm.trans H; rw [hy185]; with_reducible exact H2_) | (have H2_ := (Option.bind_some _ _).symm.trans H; with_reducible exact H2_) | with_reducible exact H | (rw [hy185]; exact H) | exact H
            have Ny185 := Aside0.mk hy185
            clear hy185
            have H' := Aside0.mk H
            clear H
            try go_wp2
            have n0_ := Aside0.mk (Kd.qax HO_5.out)
            have n1_ := Aside0.mk (qab HB.out)
            clear HO_5
            clear HB
            have HO_5 := n0_
            have HB := n1_
            clear n0_ n1_
            have p183 : 0 ≤ (x6_1 : Int) := of_decide_eq_true (by first | (with_reducible assumption) | assumption)
            have q183 : x6_1 < (l0.length : Int) := of_decide_eq_true (by first | (with_reducible assumption) | assumption)
            obtain ⟨ad183, e183, hx183_0, hx183_1⟩ := qbv HR0.out x6_1 p183 q183
            have hw183_1 := hx183_1
            have hw183_0 := hx183_0
            cases e183
            replace hx183_0 := (HB.out.cell (World.block_lt_of_cell? w _ hx183_0)).trans hx183_0
            replace hx183_1 := (HB.out.cell (World.block_lt_of_cell? w _ hx183_1)).trans hx183_1
            replace p183 := eq_true p183
            replace q183 := eq_true q183
            have p184 : 0 ≤ (x6_1 : Int) := of_decide_eq_true (by first | (with_reducible assumption) | assumption)
            have q184 : x6_1 < (l0.length : Int) := of_decide_eq_true (by first | (with_reducible assumption) | assumption)
            obtain ⟨ad184, e184, hx184_0, hx184_1⟩ := qbv HR0.out x6_1 p184 q184
            have hw184_1 := hx184_1
            have hw184_0 := hx184_0
            obtain rfl : ad183 = ad184 := (by injection e184)
            replace hx184_0 := (HB.out.cell (World.block_lt_of_cell? w _ hx184_0)).trans hx184_0
            replace hx184_1 := (HB.out.cell (World.block_lt_of_cell? w _ hx184_1)).trans hx184_1
            replace p184 := eq_true p184
            replace q184 := eq_true q184
            refine qdz (n := 15) (S := fun w' => w'.cell? (ad183.add ((x6_1).toNat * 2)) = some (.string ((qal l0 x6_1).f0)) ∧ w'.cell? ⟨(ad183.add ((x6_1).toNat * 2)).block, (ad183.add ((x6_1).toNat * 2)).off + 1, none⟩ = some (.string ((qal l0 x6_1).f1)) ∧ w'.cell? (ad183.add ((x6_1).toNat * 2)) = some (.string ((qal l0 x6_1).f0)) ∧ w'.cell? ⟨(ad183.add ((x6_1).toNat * 2)).block, (ad183.add ((x6_1).toNat * 2)).off + 1, none⟩ = some (.string ((qal l0 x6_1).f1))) (ds := []) #[false, false, false, false, false, false, false, false, false, false, false, false, false, false, false] (by kernel_rfl) rfl rfl ⟨((HB.out.cell (World.block_lt_of_cell? w _ hw183_0)).trans hw183_0), ((HB.out.cell (World.block_lt_of_cell? w _ hw183_1)).trans hw183_1), ((HB.out.cell (World.block_lt_of_cell? w _ hw184_0)).trans hw184_0), ((HB.out.cell (World.block_lt_of_cell? w _ hw184_1)).trans hw184_1)⟩ (fun hHeld => ?_); refine qcq qaq.tab10 qaq.bits10 (fun HT_ HW_ => ?_)
            generalize wc.drew = w21 at HO_5 HB hx183_0 hx183_1 hx184_0 hx184_1 hHeld ⊢
            refine qby (i := 0) (N := some 77) (v := ?_) (a' := ?_) #[true, false, false, false, false, false, false, false, false, false, false, false, false, false, false] rfl rfl (qbo HT_.out (by kernel_rfl)) (fun _ _ _ h => h) (Or.inl ⟨by rfl, ?_⟩) ?_ ?_
            rotate_left
            ·intro w'
             go_simp
             with_reducible rfl
            rotate_left
            ·simp only [Act.put, List.setIfInBounds_toArray, List.set_cons_zero, List.set_cons_succ, qbh, qbi]
             rfl
            refine qby (i := 1) (N := some 78) (v := ?_) (a' := ?_) #[true, true, false, false, false, false, false, false, false, false, false, false, false, false, false] rfl rfl (qbo HT_.out (by kernel_rfl)) (fun _ _ _ h => h) (Or.inl ⟨by rfl, ?_⟩) ?_ ?_
            rotate_left
            ·intro w'
             go_simp
             with_reducible rfl
            rotate_left
            ·simp only [Act.put, List.setIfInBounds_toArray, List.set_cons_zero, List.set_cons_succ, qbh, qbi]
             rfl
            refine qby (i := 2) (N := some 79) (v := ?_) (a' := ?_) #[true, true, true, false, false, false, false, false, false, false, false, false, false, false, false] rfl rfl (qbo HT_.out (by kernel_rfl)) (fun _ _ _ h => h) (Or.inl ⟨by rfl, ?_⟩) ?_ ?_
            rotate_left
            ·intro w'
             go_simp
             with_reducible rfl
            rotate_left
            ·simp only [Act.put, List.setIfInBounds_toArray, List.set_cons_zero, List.set_cons_succ, qbh, qbi]
             rfl
            refine qby (i := 3) (N := some 80) (v := ?_) (a' := ?_) #[true, true, true, true, false, false, false, false, false, false, false, false, false, false, false] rfl rfl (qbo HT_.out (by kernel_rfl)) (fun _ _ _ h => h) (Or.inl ⟨by rfl, ?_⟩) ?_ ?_
            rotate_left
            ·intro w'
             go_simp
             with_reducible rfl
            rotate_left
            ·simp only [Act.put, List.setIfInBounds_toArray, List.set_cons_zero, List.set_cons_succ, qbh, qbi]
             rfl
            refine qby (i := 4) (N := some 81) (v := ?_) (a' := ?_) #[true, true, true, true, true, false, false, false, false, false, false, false, false, false, false] rfl rfl (qbo HT_.out (by kernel_rfl)) (fun _ _ _ h => h) (Or.inl ⟨by rfl, ?_⟩) ?_ ?_
            rotate_left
            ·intro w'
             go_simp
             with_reducible rfl
            rotate_left
            ·simp only [Act.put, List.setIfInBounds_toArray, List.set_cons_zero, List.set_cons_succ, qbh, qbi]
             rfl
            refine qby (i := 6) (N := some 83) (v := ?_) (a' := ?_) #[true, true, true, true, true, false, true, false, false, false, false, false, false, false, false] rfl rfl (qbo HT_.out (by kernel_rfl)) (fun _ _ _ h => h) (Or.inl ⟨by rfl, ?_⟩) ?_ ?_
            rotate_left
            ·intro w'
             go_simp
             with_reducible rfl
            rotate_left
            ·simp only [Act.put, List.setIfInBounds_toArray, List.set_cons_zero, List.set_cons_succ, qbh, qbi]
             rfl
            refine qby (i := 7) (N := some 84) (v := ?_) (a' := ?_) #[true, true, true, true, true, false, true, true, false, false, false, false, false, false, false] rfl rfl (qbo HT_.out (by kernel_rfl)) (fun _ _ _ h => h) (Or.inl ⟨by rfl, ?_⟩) ?_ ?_
            rotate_left
            ·intro w'
             go_simp
             with_reducible rfl
            rotate_left
            ·simp only [Act.put, List.setIfInBounds_toArray, List.set_cons_zero, List.set_cons_succ, qbh, qbi]
             rfl
            refine qby (i := 8) (N := some 85) (v := ?_) (a' := ?_) #[true, true, true, true, true, false, true, true, true, false, false, false, false, false, false] rfl rfl (qbo HT_.out (by kernel_rfl)) (fun _ _ _ h => h) (Or.inl ⟨by rfl, ?_⟩) ?_ ?_
            rotate_left
            ·intro w'
             go_simp
             with_reducible rfl
            rotate_left
            ·simp only [Act.put, List.setIfInBounds_toArray, List.set_cons_zero, List.set_cons_succ, qbh, qbi]
             rfl
            refine qby (i := 9) (N := some 86) (v := ?_) (a' := ?_) #[true, true, true, true, true, false, true, true, true, true, false, false, false, false, false] rfl rfl (qbo HT_.out (by kernel_rfl)) (fun _ _ _ h => h) (Or.inl ⟨by rfl, ?_⟩) ?_ ?_
            rotate_left
            ·intro w'
             go_simp
             with_reducible rfl
            rotate_left
            ·simp only [Act.put, List.setIfInBounds_toArray, List.set_cons_zero, List.set_cons_succ, qbh, qbi]
             rfl
            refine qcC (i := 5) (N := some 82) (v := ?_) (a' := ?_) #[true, true, true, true, true, true, true, true, true, true, false, false, false, false, false] rfl rfl (qbY HT_.out HW_.out (by kernel_rfl)) (fun _ _ _ h => h) (Or.inl ⟨by rfl, ?_⟩) hHeld ?_ ?_
            rotate_left
            ·rintro w' ⟨s0, s1, s2, s3⟩
             go_simp
             with_reducible rfl
            rotate_left
            ·simp only [Act.put, List.setIfInBounds_toArray, List.set_cons_zero, List.set_cons_succ, qbh, qbi]
             rfl
            refine qcC (i := 10) (N := some 87) (v := ?_) (a' := ?_) #[true, true, true, true, true, true, true, true, true, true, true, false, false, false, false] rfl rfl (qbY HT_.out HW_.out (by kernel_rfl)) (fun _ _ _ h => h) (Or.inl ⟨by rfl, ?_⟩) hHeld ?_ ?_
            rotate_left
            ·rintro w' ⟨s0, s1, s2, s3⟩
             go_simp
             with_reducible rfl
            rotate_left
            ·simp only [Act.put, List.setIfInBounds_toArray, List.set_cons_zero, List.set_cons_succ, qbh, qbi]
             rfl
            refine qby (i := 11) (N := some 88) (v := ?_) (a' := ?_) #[true, true, true, true, true, true, true, true, true, true, true, true, false, false, false] rfl rfl (qbo HT_.out (by kernel_rfl)) (fun _ _ _ h => h) (Or.inl ⟨by rfl, ?_⟩) ?_ ?_
            rotate_left
            ·intro w'
             go_simp
             with_reducible rfl
            rotate_left
            ·simp only [Act.put, List.setIfInBounds_toArray, List.set_cons_zero, List.set_cons_succ, qbh, qbi]
             rfl
            refine one_ (i := 12) (N := some 89) #[true, true, true, true, true, true, true, true, true, true, true, true, true, false, false] rfl rfl (qcp HT_.out (by kernel_rfl)) (by decide) (fun K hK => ?_)
            refine qd1 (w1 := ?_) (v := ?_) (by rfl) rfl ?_ ?_
            rotate_left 2
            ·go_simp
             constructor
             ·rfl
             ·rfl
            refine hK.out _ _ ⟨(World.cell?_alloc_lt _ _ _ (World.block_lt_of_cell? _ _ (((HB.out.cell (World.block_lt_of_cell? w _ hw183_0)).trans hw183_0)))).trans (((HB.out.cell (World.block_lt_of_cell? w _ hw183_0)).trans hw183_0)), (World.cell?_alloc_lt _ _ _ (World.block_lt_of_cell? _ _ (((HB.out.cell (World.block_lt_of_cell? w _ hw183_1)).trans hw183_1)))).trans (((HB.out.cell (World.block_lt_of_cell? w _ hw183_1)).trans hw183_1)), (World.cell?_alloc_lt _ _ _ (World.block_lt_of_cell? _ _ (((HB.out.cell (World.block_lt_of_cell? w _ hw184_0)).trans hw184_0)))).trans (((HB.out.cell (World.block_lt_of_cell? w _ hw184_0)).trans hw184_0)), (World.cell?_alloc_lt _ _ _ (World.block_lt_of_cell? _ _ (((HB.out.cell (World.block_lt_of_cell? w _ hw184_1)).trans hw184_1)))).trans (((HB.out.cell (World.block_lt_of_cell? w _ hw184_1)).trans hw184_1))⟩ (fun hHeld => ?_)
            clear hK K
            refine qcT (a' := ?_) ?_ ?_
            rotate_left
            ·show Act.put _ (some 89) _ = _
             simp only [Act.put, List.setIfInBounds_toArray, List.set_cons_zero, List.set_cons_succ, qbh, qbi]
             rfl
            refine one_ (i := 13) (N := some 90) #[true, true, true, true, true, true, true, true, true, true, true, true, true, true, false] rfl rfl (qcp HT_.out (by kernel_rfl)) (by decide) (fun K hK => ?_)
            refine Kd.qb6 k82 (w0 := w) w.heap.size (by rfl) (.tmp 77) (.tmp 89) 30 82 (.agg #[(.string ⟨#[]⟩), (.string ⟨#[]⟩), (.string ⟨#[]⟩), (.bool false), (.bool false)]) 56 rfl Try.underlying30 info82 rfl (by decide) (by omega) u5 x5_1 (⟨(qal l0 x6_1).f0, (qal l0 x6_1).f1, (⟨#[]⟩ : ByteArray), true, false⟩ : S82) [.string ((qal l0 x6_1).f0), .string ((qal l0 x6_1).f1), .string (⟨#[]⟩ : ByteArray), .bool true, .bool false] (fun _ => True) (fun _ => False) rfl rfl ?aP (fun _ hk => hk.elim) ?aF ?aO ?aB ?aS ?aL ?_
            (case aP => exact qcr _ _ _ (⟨(qal l0 x6_1).f0, (qal l0 x6_1).f1, (⟨#[]⟩ : ByteArray), true, false⟩ : S82))
            (case aB => exact (by repeat (first | (with_reducible first | exact HB.out | apply qac | apply qaa | apply qab) | exact HB.out)))
            (case aF => exact (fun _ _ => trivial))
            (case aO => exact (by (with_reducible repeat (first | apply Kd.qar | apply Kd.qas | apply Kd.qax)); exact HO_5.out))
            (case aS => exact (qau (by repeat (first | (with_reducible first | exact HB.out | apply qac | apply qaa | apply qab) | exact HB.out))))
            (case aL => have := LMc20.out; omega)
            intro v186 w22 ho hb hg hat
            rw [← Ny185.out] at ho
            have n0_ := Aside0.mk (hb)
            have n1_ := Aside0.mk (ho)
            clear HB
            clear HO_5
            have HB := n0_
            have HO187 := n1_
            clear n0_ n1_
            clear ho hb hg hat
            refine hK.out _ _ ⟨((HB.out.cell (World.block_lt_of_cell? w _ hw183_0)).trans hw183_0), ((HB.out.cell (World.block_lt_of_cell? w _ hw183_1)).trans hw183_1), ((HB.out.cell (World.block_lt_of_cell? w _ hw184_0)).trans hw184_0), ((HB.out.cell (World.block_lt_of_cell? w _ hw184_1)).trans hw184_1)⟩ (fun hHeld => ?_)
            clear hK K
            refine qcT (a' := ?_) ?_ ?_
            rotate_left
            ·show Act.put _ (some 90) _ = _
             simp only [Act.put, List.setIfInBounds_toArray, List.set_cons_zero, List.set_cons_succ, qbh, qbi]
             rfl
            refine qby (i := 14) (N := some 5) (v := ?_) (a' := ?_) #[true, true, true, true, true, true, true, true, true, true, true, true, true, true, true] rfl rfl (qbo HT_.out (by kernel_rfl)) (fun _ _ _ h => h) (Or.inl ⟨by rfl, ?_⟩) ?_ ?_
            rotate_left
            ·intro w'
             go_simp
             with_reducible rfl
            rotate_left
            ·simp only [Act.put, List.setIfInBounds_toArray, List.set_cons_zero, List.set_cons_succ, qbh, qbi]
             rfl
            refine qeL (qcU HT_.out (by kernel_rfl)) ?_
            try go_wp2
            go_roundg kj7
            case measure => have := HK1.out; have := HJ4.out; have := HJ7.out; omega
            case rel => exact ⟨(y185), (wrap64 (x6_1 + 1)), (x7_1), (by first | rfl | (simp; done) | (simp [*]; done)), (by first | rfl | (simp; done) | (simp [*]; done)), H', ⟨by have := HK1.out; have := HJ4.out; have := HJ7.out; omega⟩, ⟨by (with_reducible repeat (first | apply Kd.qar | apply Kd.qas | apply Kd.qax)); exact HO187.out⟩, ⟨by repeat (first | (with_reducible first | exact HB.out | apply qac | apply qaa | apply qab) | exact HB.out)⟩⟩
           ·rw [if_neg c20] at H
            exact absurd H (by simp)
          ·rw [if_neg c19] at H
           exact absurd H (by simp)
         ·rw [if_neg c18] at H
          exact absurd H (by simp)
        ·replace c17 := Bool.eq_false_iff.mpr c17
         subst c17
         have H1 : (if x6_1 = (l0.length : Int) then (qaq.j3 kj7 l0 l1 x5_1 x6_1 x7_1 true) else (if 0 ≤ x7_1 then (if x7_1 < (l1.length : Int) then (if 0 ≤ x6_1 then (if x6_1 < (l0.length : Int) then (qaq.j3 kj7 l0 l1 x5_1 x6_1 x7_1 (Op.bytesLess (((qal l1 x7_1).f0).toList) (((qal l0 x6_1).f0).toList))) else (none)) else (none)) else (none)) else (none))) = some r := by rw [if_neg (show ¬ (false = true) by decide)] at H; exact H
         clear H
         have H := H1
         clear H1
         have HC23 := Aside0.mk H
         clear H
         go_upto_region 12 with (fail)
         go_cut [93] (fun v93 wc => ∃ (kq : Nat) (x93_22 : Bool), v93 = .bool x93_22 ∧ Aside0 (qaq.j3 kq l0 l1 x5_1 x6_1 x7_1 x93_22 = some r) ∧ Aside0 (kq ≤ kj7) ∧ Aside0 (Kd.R k82 82 wc w.heap.size (fun _ => True) u5 x5_1) ∧ Aside0 (Below w.heap.size w wc))
         case first =>
          have H := HC23.out
          clear HC23
          by_cases c24 : x6_1 = (l0.length : Int)
          ·rw [if_pos c24] at H
           have c24b0 : (x6_1 == (l0.length : Int)) = true := beq_iff_eq.mpr c24
           have c24b1 : (x6_1 != (l0.length : Int)) = false := bne_eq_false_iff_eq.mpr c24
           clear c24
           (first | rw [c24b0] | (simp only [qbh, qbi]; rw [c24b0]) | skip)
           have H' := Aside0.mk H
           clear H
           try go_wp2
           have n0_ := Aside0.mk (Kd.qax HO_5.out)
           have n1_ := Aside0.mk (qab HB.out)
           clear HO_5
           clear HB
           have HO_5 := n0_
           have HB := n1_
           clear n0_ n1_
           refine qaF (by kernel_rfl) (by kernel_rfl) ?_
           generalize wc.drew = w25b at HO_5 HB ⊢
           repeat (first | go_big_quiet_step (fail) | quiet_step (fail))
           refine wpQuiet_nil ?_
           rintro w25 ⟨⟨wq_, hbL⟩, hq_⟩
           have hq2_ : w25 = wq_ := hq_
           clear hq_
           subst hq2_
           have nHO_5_ := by first | exact Aside0.mk (qak HO_5.out hbL) | exact Aside0.mk (Kd.qaA HO_5.out hbL) | exact Aside0.mk (Kd.qbz HO_5.out hbL) | exact Aside0.mk (Kd.qbA HO_5.out hbL) | exact Aside0.mk (Kd.qbB HO_5.out hbL) | exact Aside0.mk (Kd.qbx HO_5.out hbL) | exact Aside0.mk (Kd.qa2 HO_5.out hbL) | exact Aside0.mk ((hbL.block _ (qbj HO_5.out)).trans HO_5.out)
           have nHB_ := Aside0.mk (qak HB.out hbL)
           clear HO_5
           clear HB
           have HO_5 := nHO_5_
           have HB := nHB_
           clear nHO_5_
           clear nHB_
           clear hbL
           try go_wp2
           go_meet
           case rel => exact ⟨_, (true), (by first | rfl | (simp; done) | (simp [*]; done)), H', ⟨by have := HK1.out; have := HJ4.out; have := HJ7.out; first | omega | exact Nat.le_refl _⟩, ⟨by (with_reducible repeat (first | apply Kd.qar | apply Kd.qas | apply Kd.qax)); exact HO_5.out⟩, ⟨by repeat (first | (with_reducible first | exact HB.out | apply qac | apply qaa | apply qab) | exact HB.out)⟩⟩
          ·rw [if_neg c24] at H
           have c24b0 : (x6_1 == (l0.length : Int)) = false := beq_eq_false_iff_ne.mpr c24
           have c24b1 : (x6_1 != (l0.length : Int)) = true := bne_iff_ne.mpr c24
           (first | rw [c24b0] | (simp only [qbh, qbi]; rw [c24b0]) | skip)
           by_cases c26 : 0 ≤ x7_1
           ·rw [if_pos c26] at H
            have c26b0 : decide (0 ≤ x7_1) = true := decide_eq_true c26
            clear c26
            by_cases c27 : x7_1 < (l1.length : Int)
            ·rw [if_pos c27] at H
             have c27b0 : decide (x7_1 < (l1.length : Int)) = true := decide_eq_true c27
             clear c27
             by_cases c28 : 0 ≤ x6_1
             ·rw [if_pos c28] at H
              have c28b0 : decide (0 ≤ x6_1) = true := decide_eq_true c28
              clear c28
              by_cases c29 : x6_1 < (l0.length : Int)
              ·rw [if_pos c29] at H
               have c29b0 : decide (x6_1 < (l0.length : Int)) = true := decide_eq_true c29
               clear c29
               have H' := Aside0.mk H
               clear H
               try go_wp2
               have n0_ := Aside0.mk (Kd.qax HO_5.out)
               have n1_ := Aside0.mk (qab HB.out)
               clear HO_5
               clear HB
               have HO_5 := n0_
               have HB := n1_
               clear n0_ n1_
               have p188 : 0 ≤ (x7_1 : Int) := of_decide_eq_true (by first | (with_reducible assumption) | assumption)
               have q188 : x7_1 < (l1.length : Int) := of_decide_eq_true (by first | (with_reducible assumption) | assumption)
               obtain ⟨ad188, e188, hx188_0, hx188_1⟩ := qbv HR1.out x7_1 p188 q188
               have hw188_1 := hx188_1
               have hw188_0 := hx188_0
               cases e188
               replace hx188_0 := (HB.out.cell (World.block_lt_of_cell? w _ hx188_0)).trans hx188_0
               replace hx188_1 := (HB.out.cell (World.block_lt_of_cell? w _ hx188_1)).trans hx188_1
               replace p188 := eq_true p188
               replace q188 := eq_true q188
               have p189 : 0 ≤ (x6_1 : Int) := of_decide_eq_true (by first | (with_reducible assumption) | assumption)
               have q189 : x6_1 < (l0.length : Int) := of_decide_eq_true (by first | (with_reducible assumption) | assumption)
               obtain ⟨ad189, e189, hx189_0, hx189_1⟩ := qbv HR0.out x6_1 p189 q189
               have hw189_1 := hx189_1
               have hw189_0 := hx189_0
               cases e189
               replace hx189_0 := (HB.out.cell (World.block_lt_of_cell? w _ hx189_0)).trans hx189_0
               replace hx189_1 := (HB.out.cell (World.block_lt_of_cell? w _ hx189_1)).trans hx189_1
               replace p189 := eq_true p189
               replace q189 := eq_true q189
               refine qaF (by kernel_rfl) (by kernel_rfl) ?_
               have hL0_ := Aside0.mk (show wc.drew.cell? (ad188.add ((x7_1).toNat * 2)) = some (.string ((qal l1 x7_1).f0)) from ((HB.out.cell (World.block_lt_of_cell? w _ hw188_0)).trans hw188_0))
               have hL1_ := Aside0.mk (show wc.drew.cell? ⟨(ad188.add ((x7_1).toNat * 2)).block, (ad188.add ((x7_1).toNat * 2)).off + 1, none⟩ = some (.string ((qal l1 x7_1).f1)) from ((HB.out.cell (World.block_lt_of_cell? w _ hw188_1)).trans hw188_1))
               have hL2_ := Aside0.mk (show wc.drew.cell? (ad189.add ((x6_1).toNat * 2)) = some (.string ((qal l0 x6_1).f0)) from ((HB.out.cell (World.block_lt_of_cell? w _ hw189_0)).trans hw189_0))
               have hL3_ := Aside0.mk (show wc.drew.cell? ⟨(ad189.add ((x6_1).toNat * 2)).block, (ad189.add ((x6_1).toNat * 2)).off + 1, none⟩ = some (.string ((qal l0 x6_1).f1)) from ((HB.out.cell (World.block_lt_of_cell? w _ hw189_1)).trans hw189_1))
               generalize wc.drew = w30b at HO_5 HB hx188_0 hx188_1 hx189_0 hx189_1 hL0_ hL1_ hL2_ hL3_ ⊢
               clear hx188_0 hx188_1 hx189_0 hx189_1
               have hL0 := fun (p_ : Later w30b) => Later.cell p_ hL0_.out
               have hL1 := fun (p_ : Later w30b) => Later.cell p_ hL1_.out
               have hL2 := fun (p_ : Later w30b) => Later.cell p_ hL2_.out
               have hL3 := fun (p_ : Later w30b) => Later.cell p_ hL3_.out
               clear hL0_ hL1_ hL2_ hL3_
               repeat (first | go_big_quiet_step (fail) | quiet_step (fail))
               refine wpQuiet_nil ?_
               rintro w30 ⟨⟨wq_, hbL⟩, hq_⟩
               have hq2_ : w30 = wq_ := hq_
               clear hq_
               subst hq2_
               clear hL0 hL1 hL2 hL3
               have nHO_5_ := by first | exact Aside0.mk (qak HO_5.out hbL) | exact Aside0.mk (Kd.qaA HO_5.out hbL) | exact Aside0.mk (Kd.qbz HO_5.out hbL) | exact Aside0.mk (Kd.qbA HO_5.out hbL) | exact Aside0.mk (Kd.qbB HO_5.out hbL) | exact Aside0.mk (Kd.qbx HO_5.out hbL) | exact Aside0.mk (Kd.qa2 HO_5.out hbL) | exact Aside0.mk ((hbL.block _ (qbj HO_5.out)).trans HO_5.out)
               have nHB_ := Aside0.mk (qak HB.out hbL)
               clear HO_5
               clear HB
               have HO_5 := nHO_5_
               have HB := nHB_
               clear nHO_5_
               clear nHB_
               clear hbL
               try go_wp2
               go_meet
               case rel => exact ⟨_, ((Op.bytesLess (((qal l1 x7_1).f0).toList) (((qal l0 x6_1).f0).toList))), (by first | rfl | (simp; done) | (simp [*]; done)), H', ⟨by have := HK1.out; have := HJ4.out; have := HJ7.out; first | omega | exact Nat.le_refl _⟩, ⟨by (with_reducible repeat (first | apply Kd.qar | apply Kd.qas | apply Kd.qax)); exact HO_5.out⟩, ⟨by repeat (first | (with_reducible first | exact HB.out | apply qac | apply qaa | apply qab) | exact HB.out)⟩⟩
              ·rw [if_neg c29] at H
               exact absurd H (by simp)
             ·rw [if_neg c28] at H
              exact absurd H (by simp)
            ·rw [if_neg c27] at H
             exact absurd H (by simp)
           ·rw [if_neg c26] at H
            exact absurd H (by simp)
         case rest =>
          clear HC23
          try clear c1
          try clear p1
          try clear q1
          try clear hx1
          try clear c2
          try clear p2
          try clear c5
          try clear c6
          try clear c6b0
          try clear p6
          try clear c7
          try clear c9
          try clear c9b0
          try clear c9b1
          try clear c11
          try clear c11b0
          try clear c12
          try clear c12b0
          try clear c13
          try clear c13b0
          try clear c14
          try clear c14b0
          try clear c17
          try clear c18
          try clear c18b0
          try clear p18
          try clear q18
          try clear hx18
          try clear c19
          try clear c19b0
          try clear c20
          try clear c24
          try clear c24b0
          try clear c24b1
          try clear c26
          try clear c26b0
          try clear c27
          try clear c27b0
          try clear c28
          try clear c28b0
          try clear c29
          try clear c29b0
          try clear hx181_0
          try clear hx181_1
          try clear hx182_0
          try clear hx182_1
          try clear hx183_0
          try clear hx183_1
          try clear hx184_0
          try clear hx184_1
          try clear hx188_0
          try clear hx188_1
          try clear hx189_0
          try clear hx189_1
          try clear p1
          try clear p181
          try clear p182
          try clear p183
          try clear p184
          try clear p188
          try clear p189
          try clear p2
          try clear q1
          try clear q181
          try clear q182
          try clear q183
          try clear q184
          try clear q188
          try clear q189
          obtain ⟨kq, x93_22, rfl, HA, HJ22, HO_5, HB⟩ := hcut
          cases kq with
          | zero => exact absurd HA.out (by simp [qaq.j3])
          | succ kj22 =>
           have H := HA.out
           clear HA
           simp only [qaq.j3] at H
           by_cases c31 : x93_22 = true
           ·subst c31
            have H1 : (if 0 ≤ x7_1 then (if x7_1 < (l1.length : Int) then (if x5_1.length < 2513169434916 then (qaq.l0 kj22 l0 l1 (x5_1 ++ [(⟨(qal l1 x7_1).f0, (⟨#[]⟩ : ByteArray), (qal l1 x7_1).f1, false, true⟩ : S82)]) x6_1 (wrap64 (x7_1 + 1))) else (none)) else (none)) else (none)) = some r := by rw [if_pos rfl] at H; exact H
            clear H
            have H := H1
            clear H1
            by_cases c32 : 0 ≤ x7_1
            ·rw [if_pos c32] at H
             have c32b0 : decide (0 ≤ x7_1) = true := decide_eq_true c32
             clear c32
             by_cases c33 : x7_1 < (l1.length : Int)
             ·rw [if_pos c33] at H
              have c33b0 : decide (x7_1 < (l1.length : Int)) = true := decide_eq_true c33
              clear c33
              by_cases c34 : x5_1.length < 2513169434916
              ·rw [if_pos c34] at H
               have LMc34 := Aside0.mk c34
               clear c34
               obtain ⟨y192, hy192⟩ : ∃ y_ : List (S82), y_ = (x5_1 ++ [(⟨(qal l1 x7_1).f0, (⟨#[]⟩ : ByteArray), (qal l1 x7_1).f1, false, true⟩ : S82)]) := ⟨_, rfl⟩
               replace H : (qaq.l0 kj22 l0 l1 y192 x6_1 (wrap64 (x7_1 + 1))) = some r := by first | (rw [hy192]; with_reducible exact H) | (have H2_ := (Option.bind_some _ _).symm.trans H; rw [hy192]; with_reducible exact H2_) | (have H2_ := (Option.bind_some _ _).symm.trans H; with_reducible exact H2_) | with_reducible exact H | (rw [hy192]; exact H) | exact H
               have Ny192 := Aside0.mk hy192
               clear hy192
               have H' := Aside0.mk H
               clear H
               try go_wp2
               have n0_ := Aside0.mk (Kd.qax HO_5.out)
               have n1_ := Aside0.mk (qab HB.out)
               clear HO_5
               clear HB
               have HO_5 := n0_
               have HB := n1_
               clear n0_ n1_
               have p190 : 0 ≤ (x7_1 : Int) := of_decide_eq_true (by first | (with_reducible assumption) | assumption)
               have q190 : x7_1 < (l1.length : Int) := of_decide_eq_true (by first | (with_reducible assumption) | assumption)
               obtain ⟨ad190, e190, hx190_0, hx190_1⟩ := qbv HR1.out x7_1 p190 q190
               have hw190_1 := hx190_1
               have hw190_0 := hx190_0
               cases e190
               replace hx190_0 := (HB.out.cell (World.block_lt_of_cell? w _ hx190_0)).trans hx190_0
               replace hx190_1 := (HB.out.cell (World.block_lt_of_cell? w _ hx190_1)).trans hx190_1
               replace p190 := eq_true p190
               replace q190 := eq_true q190
               have p191 : 0 ≤ (x7_1 : Int) := of_decide_eq_true (by first | (with_reducible assumption) | assumption)
               have q191 : x7_1 < (l1.length : Int) := of_decide_eq_true (by first | (with_reducible assumption) | assumption)
               obtain ⟨ad191, e191, hx191_0, hx191_1⟩ := qbv HR1.out x7_1 p191 q191
               have hw191_1 := hx191_1
               have hw191_0 := hx191_0
               obtain rfl : ad190 = ad191 := (by injection e191)
               replace hx191_0 := (HB.out.cell (World.block_lt_of_cell? w _ hx191_0)).trans hx191_0
               replace hx191_1 := (HB.out.cell (World.block_lt_of_cell? w _ hx191_1)).trans hx191_1
               replace p191 := eq_true p191
               replace q191 := eq_true q191
               refine qdz (n := 15) (S := fun w' => w'.cell? (ad190.add ((x7_1).toNat * 2)) = some (.string ((qal l1 x7_1).f0)) ∧ w'.cell? ⟨(ad190.add ((x7_1).toNat * 2)).block, (ad190.add ((x7_1).toNat * 2)).off + 1, none⟩ = some (.string ((qal l1 x7_1).f1)) ∧ w'.cell? (ad190.add ((x7_1).toNat * 2)) = some (.string ((qal l1 x7_1).f0)) ∧ w'.cell? ⟨(ad190.add ((x7_1).toNat * 2)).block, (ad190.add ((x7_1).toNat * 2)).off + 1, none⟩ = some (.string ((qal l1 x7_1).f1))) (ds := []) #[false, false, false, false, false, false, false, false, false, false, false, false, false, false, false] (by kernel_rfl) rfl rfl ⟨((HB.out.cell (World.block_lt_of_cell? w _ hw190_0)).trans hw190_0), ((HB.out.cell (World.block_lt_of_cell? w _ hw190_1)).trans hw190_1), ((HB.out.cell (World.block_lt_of_cell? w _ hw191_0)).trans hw191_0), ((HB.out.cell (World.block_lt_of_cell? w _ hw191_1)).trans hw191_1)⟩ (fun hHeld => ?_); refine qcq qaq.tab13 qaq.bits13 (fun HT_ HW_ => ?_)
               generalize wc.drew = w35 at HO_5 HB hx190_0 hx190_1 hx191_0 hx191_1 hHeld ⊢
               refine qby (i := 0) (N := some 111) (v := ?_) (a' := ?_) #[true, false, false, false, false, false, false, false, false, false, false, false, false, false, false] rfl rfl (qbo HT_.out (by kernel_rfl)) (fun _ _ _ h => h) (Or.inl ⟨by rfl, ?_⟩) ?_ ?_
               rotate_left
               ·intro w'
                go_simp
                with_reducible rfl
               rotate_left
               ·simp only [Act.put, List.setIfInBounds_toArray, List.set_cons_zero, List.set_cons_succ, qbh, qbi]
                rfl
               refine qby (i := 1) (N := some 112) (v := ?_) (a' := ?_) #[true, true, false, false, false, false, false, false, false, false, false, false, false, false, false] rfl rfl (qbo HT_.out (by kernel_rfl)) (fun _ _ _ h => h) (Or.inl ⟨by rfl, ?_⟩) ?_ ?_
               rotate_left
               ·intro w'
                go_simp
                with_reducible rfl
               rotate_left
               ·simp only [Act.put, List.setIfInBounds_toArray, List.set_cons_zero, List.set_cons_succ, qbh, qbi]
                rfl
               refine qby (i := 2) (N := some 113) (v := ?_) (a' := ?_) #[true, true, true, false, false, false, false, false, false, false, false, false, false, false, false] rfl rfl (qbo HT_.out (by kernel_rfl)) (fun _ _ _ h => h) (Or.inl ⟨by rfl, ?_⟩) ?_ ?_
               rotate_left
               ·intro w'
                go_simp
                with_reducible rfl
               rotate_left
               ·simp only [Act.put, List.setIfInBounds_toArray, List.set_cons_zero, List.set_cons_succ, qbh, qbi]
                rfl
               refine qby (i := 3) (N := some 114) (v := ?_) (a' := ?_) #[true, true, true, true, false, false, false, false, false, false, false, false, false, false, false] rfl rfl (qbo HT_.out (by kernel_rfl)) (fun _ _ _ h => h) (Or.inl ⟨by rfl, ?_⟩) ?_ ?_
               rotate_left
               ·intro w'
                go_simp
                with_reducible rfl
               rotate_left
               ·simp only [Act.put, List.setIfInBounds_toArray, List.set_cons_zero, List.set_cons_succ, qbh, qbi]
                rfl
               refine qby (i := 4) (N := some 115) (v := ?_) (a' := ?_) #[true, true, true, true, true, false, false, false, false, false, false, false, false, false, false] rfl rfl (qbo HT_.out (by kernel_rfl)) (fun _ _ _ h => h) (Or.inl ⟨by rfl, ?_⟩) ?_ ?_
               rotate_left
               ·intro w'
                go_simp
                with_reducible rfl
               rotate_left
               ·simp only [Act.put, List.setIfInBounds_toArray, List.set_cons_zero, List.set_cons_succ, qbh, qbi]
                rfl
               refine qby (i := 6) (N := some 117) (v := ?_) (a' := ?_) #[true, true, true, true, true, false, true, false, false, false, false, false, false, false, false] rfl rfl (qbo HT_.out (by kernel_rfl)) (fun _ _ _ h => h) (Or.inl ⟨by rfl, ?_⟩) ?_ ?_
               rotate_left
               ·intro w'
                go_simp
                with_reducible rfl
               rotate_left
               ·simp only [Act.put, List.setIfInBounds_toArray, List.set_cons_zero, List.set_cons_succ, qbh, qbi]
                rfl
               refine qby (i := 7) (N := some 118) (v := ?_) (a' := ?_) #[true, true, true, true, true, false, true, true, false, false, false, false, false, false, false] rfl rfl (qbo HT_.out (by kernel_rfl)) (fun _ _ _ h => h) (Or.inl ⟨by rfl, ?_⟩) ?_ ?_
               rotate_left
               ·intro w'
                go_simp
                with_reducible rfl
               rotate_left
               ·simp only [Act.put, List.setIfInBounds_toArray, List.set_cons_zero, List.set_cons_succ, qbh, qbi]
                rfl
               refine qby (i := 8) (N := some 119) (v := ?_) (a' := ?_) #[true, true, true, true, true, false, true, true, true, false, false, false, false, false, false] rfl rfl (qbo HT_.out (by kernel_rfl)) (fun _ _ _ h => h) (Or.inl ⟨by rfl, ?_⟩) ?_ ?_
               rotate_left
               ·intro w'
                go_simp
                with_reducible rfl
               rotate_left
               ·simp only [Act.put, List.setIfInBounds_toArray, List.set_cons_zero, List.set_cons_succ, qbh, qbi]
                rfl
               refine qby (i := 9) (N := some 120) (v := ?_) (a' := ?_) #[true, true, true, true, true, false, true, true, true, true, false, false, false, false, false] rfl rfl (qbo HT_.out (by kernel_rfl)) (fun _ _ _ h => h) (Or.inl ⟨by rfl, ?_⟩) ?_ ?_
               rotate_left
               ·intro w'
                go_simp
                with_reducible rfl
               rotate_left
               ·simp only [Act.put, List.setIfInBounds_toArray, List.set_cons_zero, List.set_cons_succ, qbh, qbi]
                rfl
               refine qcC (i := 5) (N := some 116) (v := ?_) (a' := ?_) #[true, true, true, true, true, true, true, true, true, true, false, false, false, false, false] rfl rfl (qbY HT_.out HW_.out (by kernel_rfl)) (fun _ _ _ h => h) (Or.inl ⟨by rfl, ?_⟩) hHeld ?_ ?_
               rotate_left
               ·rintro w' ⟨s0, s1, s2, s3⟩
                go_simp
                with_reducible rfl
               rotate_left
               ·simp only [Act.put, List.setIfInBounds_toArray, List.set_cons_zero, List.set_cons_succ, qbh, qbi]
                rfl
               refine qcC (i := 10) (N := some 121) (v := ?_) (a' := ?_) #[true, true, true, true, true, true, true, true, true, true, true, false, false, false, false] rfl rfl (qbY HT_.out HW_.out (by kernel_rfl)) (fun _ _ _ h => h) (Or.inl ⟨by rfl, ?_⟩) hHeld ?_ ?_
               rotate_left
               ·rintro w' ⟨s0, s1, s2, s3⟩
                go_simp
                with_reducible rfl
               rotate_left
               ·simp only [Act.put, List.setIfInBounds_toArray, List.set_cons_zero, List.set_cons_succ, qbh, qbi]
                rfl
               refine qby (i := 11) (N := some 122) (v := ?_) (a' := ?_) #[true, true, true, true, true, true, true, true, true, true, true, true, false, false, false] rfl rfl (qbo HT_.out (by kernel_rfl)) (fun _ _ _ h => h) (Or.inl ⟨by rfl, ?_⟩) ?_ ?_
               rotate_left
               ·intro w'
                go_simp
                with_reducible rfl
               rotate_left
               ·simp only [Act.put, List.setIfInBounds_toArray, List.set_cons_zero, List.set_cons_succ, qbh, qbi]
                rfl
               refine one_ (i := 12) (N := some 123) #[true, true, true, true, true, true, true, true, true, true, true, true, true, false, false] rfl rfl (qcp HT_.out (by kernel_rfl)) (by decide) (fun K hK => ?_)
               refine qd1 (w1 := ?_) (v := ?_) (by rfl) rfl ?_ ?_
               rotate_left 2
               ·go_simp
                constructor
                ·rfl
                ·rfl
               refine hK.out _ _ ⟨(World.cell?_alloc_lt _ _ _ (World.block_lt_of_cell? _ _ (((HB.out.cell (World.block_lt_of_cell? w _ hw190_0)).trans hw190_0)))).trans (((HB.out.cell (World.block_lt_of_cell? w _ hw190_0)).trans hw190_0)), (World.cell?_alloc_lt _ _ _ (World.block_lt_of_cell? _ _ (((HB.out.cell (World.block_lt_of_cell? w _ hw190_1)).trans hw190_1)))).trans (((HB.out.cell (World.block_lt_of_cell? w _ hw190_1)).trans hw190_1)), (World.cell?_alloc_lt _ _ _ (World.block_lt_of_cell? _ _ (((HB.out.cell (World.block_lt_of_cell? w _ hw191_0)).trans hw191_0)))).trans (((HB.out.cell (World.block_lt_of_cell? w _ hw191_0)).trans hw191_0)), (World.cell?_alloc_lt _ _ _ (World.block_lt_of_cell? _ _ (((HB.out.cell (World.block_lt_of_cell? w _ hw191_1)).trans hw191_1)))).trans (((HB.out.cell (World.block_lt_of_cell? w _ hw191_1)).trans hw191_1))⟩ (fun hHeld => ?_)
               clear hK K
               refine qcT (a' := ?_) ?_ ?_
               rotate_left
               ·show Act.put _ (some 123) _ = _
                simp only [Act.put, List.setIfInBounds_toArray, List.set_cons_zero, List.set_cons_succ, qbh, qbi]
                rfl
               refine one_ (i := 13) (N := some 124) #[true, true, true, true, true, true, true, true, true, true, true, true, true, true, false] rfl rfl (qcp HT_.out (by kernel_rfl)) (by decide) (fun K hK => ?_)
               refine Kd.qb6 k82 (w0 := w) w.heap.size (by rfl) (.tmp 111) (.tmp 123) 30 82 (.agg #[(.string ⟨#[]⟩), (.string ⟨#[]⟩), (.string ⟨#[]⟩), (.bool false), (.bool false)]) 56 rfl Try.underlying30 info82 rfl (by decide) (by omega) u5 x5_1 (⟨(qal l1 x7_1).f0, (⟨#[]⟩ : ByteArray), (qal l1 x7_1).f1, false, true⟩ : S82) [.string ((qal l1 x7_1).f0), .string (⟨#[]⟩ : ByteArray), .string ((qal l1 x7_1).f1), .bool false, .bool true] (fun _ => True) (fun _ => False) rfl rfl ?aP (fun _ hk => hk.elim) ?aF ?aO ?aB ?aS ?aL ?_
               (case aP => exact qcr _ _ _ (⟨(qal l1 x7_1).f0, (⟨#[]⟩ : ByteArray), (qal l1 x7_1).f1, false, true⟩ : S82))
               (case aB => exact (by repeat (first | (with_reducible first | exact HB.out | apply qac | apply qaa | apply qab) | exact HB.out)))
               (case aF => exact (fun _ _ => trivial))
               (case aO => exact (by (with_reducible repeat (first | apply Kd.qar | apply Kd.qas | apply Kd.qax)); exact HO_5.out))
               (case aS => exact (qau (by repeat (first | (with_reducible first | exact HB.out | apply qac | apply qaa | apply qab) | exact HB.out))))
               (case aL => have := LMc34.out; omega)
               intro v193 w36 ho hb hg hat
               rw [← Ny192.out] at ho
               have n0_ := Aside0.mk (hb)
               have n1_ := Aside0.mk (ho)
               clear HB
               clear HO_5
               have HB := n0_
               have HO194 := n1_
               clear n0_ n1_
               clear ho hb hg hat
               refine hK.out _ _ ⟨((HB.out.cell (World.block_lt_of_cell? w _ hw190_0)).trans hw190_0), ((HB.out.cell (World.block_lt_of_cell? w _ hw190_1)).trans hw190_1), ((HB.out.cell (World.block_lt_of_cell? w _ hw191_0)).trans hw191_0), ((HB.out.cell (World.block_lt_of_cell? w _ hw191_1)).trans hw191_1)⟩ (fun hHeld => ?_)
               clear hK K
               refine qcT (a' := ?_) ?_ ?_
               rotate_left
               ·show Act.put _ (some 124) _ = _
                simp only [Act.put, List.setIfInBounds_toArray, List.set_cons_zero, List.set_cons_succ, qbh, qbi]
                rfl
               refine qby (i := 14) (N := some 5) (v := ?_) (a' := ?_) #[true, true, true, true, true, true, true, true, true, true, true, true, true, true, true] rfl rfl (qbo HT_.out (by kernel_rfl)) (fun _ _ _ h => h) (Or.inl ⟨by rfl, ?_⟩) ?_ ?_
               rotate_left
               ·intro w'
                go_simp
                with_reducible rfl
               rotate_left
               ·simp only [Act.put, List.setIfInBounds_toArray, List.set_cons_zero, List.set_cons_succ, qbh, qbi]
                rfl
               refine qeL (qcU HT_.out (by kernel_rfl)) ?_
               try go_wp2
               go_roundg kj22
               case measure => have := HK1.out; have := HJ4.out; have := HJ7.out; have := HJ22.out; omega
               case rel => exact ⟨(y192), (x6_1), (wrap64 (x7_1 + 1)), (by first | rfl | (simp; done) | (simp [*]; done)), (by first | rfl | (simp; done) | (simp [*]; done)), H', ⟨by have := HK1.out; have := HJ4.out; have := HJ7.out; have := HJ22.out; omega⟩, ⟨by (with_reducible repeat (first | apply Kd.qar | apply Kd.qas | apply Kd.qax)); exact HO194.out⟩, ⟨by repeat (first | (with_reducible first | exact HB.out | apply qac | apply qaa | apply qab) | exact HB.out)⟩⟩
              ·rw [if_neg c34] at H
               exact absurd H (by simp)
             ·rw [if_neg c33] at H
              exact absurd H (by simp)
            ·rw [if_neg c32] at H
             exact absurd H (by simp)
           ·replace c31 := Bool.eq_false_iff.mpr c31
            subst c31
            have H1 : (if 0 ≤ x6_1 then (if x6_1 < (l0.length : Int) then (if 0 ≤ x7_1 then (if x7_1 < (l1.length : Int) then (if ((qal l0 x6_1).f1).toList = ((qal l1 x7_1).f1).toList then (qaq.l0 kj22 l0 l1 x5_1 (wrap64 (x6_1 + 1)) (wrap64 (x7_1 + 1))) else (if x5_1.length < 2513169434916 then (qaq.l0 kj22 l0 l1 (x5_1 ++ [(⟨(qal l0 x6_1).f0, (qal l0 x6_1).f1, (qal l1 x7_1).f1, true, true⟩ : S82)]) (wrap64 (x6_1 + 1)) (wrap64 (x7_1 + 1))) else (none))) else (none)) else (none)) else (none)) else (none)) = some r := by rw [if_neg (show ¬ (false = true) by decide)] at H; exact H
            clear H
            have H := H1
            clear H1
            by_cases c37 : 0 ≤ x6_1
            ·rw [if_pos c37] at H
             have c37b0 : decide (0 ≤ x6_1) = true := decide_eq_true c37
             clear c37
             by_cases c38 : x6_1 < (l0.length : Int)
             ·rw [if_pos c38] at H
              have c38b0 : decide (x6_1 < (l0.length : Int)) = true := decide_eq_true c38
              clear c38
              by_cases c39 : 0 ≤ x7_1
              ·rw [if_pos c39] at H
               have c39b0 : decide (0 ≤ x7_1) = true := decide_eq_true c39
               clear c39
               by_cases c40 : x7_1 < (l1.length : Int)
               ·rw [if_pos c40] at H
                have c40b0 : decide (x7_1 < (l1.length : Int)) = true := decide_eq_true c40
                clear c40
                by_cases c41 : ((qal l0 x6_1).f1).toList = ((qal l1 x7_1).f1).toList
                ·rw [if_pos c41] at H
                 have c41b0 : (((qal l0 x6_1).f1).toList == ((qal l1 x7_1).f1).toList) = true := beq_iff_eq.mpr c41
                 have c41b1 : (((qal l0 x6_1).f1).toList != ((qal l1 x7_1).f1).toList) = false := bne_eq_false_iff_eq.mpr c41
                 clear c41
                 have H' := Aside0.mk H
                 clear H
                 try go_wp2
                 have n0_ := Aside0.mk (Kd.qax HO_5.out)
                 have n1_ := Aside0.mk (qab HB.out)
                 clear HO_5
                 clear HB
                 have HO_5 := n0_
                 have HB := n1_
                 clear n0_ n1_
                 have p195 : 0 ≤ (x6_1 : Int) := of_decide_eq_true (by first | (with_reducible assumption) | assumption)
                 have q195 : x6_1 < (l0.length : Int) := of_decide_eq_true (by first | (with_reducible assumption) | assumption)
                 obtain ⟨ad195, e195, hx195_0, hx195_1⟩ := qbv HR0.out x6_1 p195 q195
                 have hw195_1 := hx195_1
                 have hw195_0 := hx195_0
                 cases e195
                 replace hx195_0 := (HB.out.cell (World.block_lt_of_cell? w _ hx195_0)).trans hx195_0
                 replace hx195_1 := (HB.out.cell (World.block_lt_of_cell? w _ hx195_1)).trans hx195_1
                 replace p195 := eq_true p195
                 replace q195 := eq_true q195
                 have p196 : 0 ≤ (x7_1 : Int) := of_decide_eq_true (by first | (with_reducible assumption) | assumption)
                 have q196 : x7_1 < (l1.length : Int) := of_decide_eq_true (by first | (with_reducible assumption) | assumption)
                 obtain ⟨ad196, e196, hx196_0, hx196_1⟩ := qbv HR1.out x7_1 p196 q196
                 have hw196_1 := hx196_1
                 have hw196_0 := hx196_0
                 cases e196
                 replace hx196_0 := (HB.out.cell (World.block_lt_of_cell? w _ hx196_0)).trans hx196_0
                 replace hx196_1 := (HB.out.cell (World.block_lt_of_cell? w _ hx196_1)).trans hx196_1
                 replace p196 := eq_true p196
                 replace q196 := eq_true q196
                 refine qaF (by kernel_rfl) (by kernel_rfl) ?_
                 have hL0_ := Aside0.mk (show wc.drew.cell? (ad195.add ((x6_1).toNat * 2)) = some (.string ((qal l0 x6_1).f0)) from ((HB.out.cell (World.block_lt_of_cell? w _ hw195_0)).trans hw195_0))
                 have hL1_ := Aside0.mk (show wc.drew.cell? ⟨(ad195.add ((x6_1).toNat * 2)).block, (ad195.add ((x6_1).toNat * 2)).off + 1, none⟩ = some (.string ((qal l0 x6_1).f1)) from ((HB.out.cell (World.block_lt_of_cell? w _ hw195_1)).trans hw195_1))
                 have hL2_ := Aside0.mk (show wc.drew.cell? (ad196.add ((x7_1).toNat * 2)) = some (.string ((qal l1 x7_1).f0)) from ((HB.out.cell (World.block_lt_of_cell? w _ hw196_0)).trans hw196_0))
                 have hL3_ := Aside0.mk (show wc.drew.cell? ⟨(ad196.add ((x7_1).toNat * 2)).block, (ad196.add ((x7_1).toNat * 2)).off + 1, none⟩ = some (.string ((qal l1 x7_1).f1)) from ((HB.out.cell (World.block_lt_of_cell? w _ hw196_1)).trans hw196_1))
                 generalize wc.drew = w42b at HO_5 HB hx195_0 hx195_1 hx196_0 hx196_1 hL0_ hL1_ hL2_ hL3_ ⊢
                 clear hx195_0 hx195_1 hx196_0 hx196_1
                 have hL0 := fun (p_ : Later w42b) => Later.cell p_ hL0_.out
                 have hL1 := fun (p_ : Later w42b) => Later.cell p_ hL1_.out
                 have hL2 := fun (p_ : Later w42b) => Later.cell p_ hL2_.out
                 have hL3 := fun (p_ : Later w42b) => Later.cell p_ hL3_.out
                 clear hL0_ hL1_ hL2_ hL3_
                 repeat (first | go_big_quiet_step (fail) | quiet_step (fail))
                 refine wpQuiet_nil ?_
                 rintro w42 ⟨⟨wq_, hbL⟩, hq_⟩
                 have hq2_ : w42 = wq_ := hq_
                 clear hq_
                 subst hq2_
                 clear hL0 hL1 hL2 hL3
                 have nHO_5_ := by first | exact Aside0.mk (qak HO_5.out hbL) | exact Aside0.mk (Kd.qaA HO_5.out hbL) | exact Aside0.mk (Kd.qbz HO_5.out hbL) | exact Aside0.mk (Kd.qbA HO_5.out hbL) | exact Aside0.mk (Kd.qbB HO_5.out hbL) | exact Aside0.mk (Kd.qbx HO_5.out hbL) | exact Aside0.mk (Kd.qa2 HO_5.out hbL) | exact Aside0.mk ((hbL.block _ (qbj HO_5.out)).trans HO_5.out)
                 have nHB_ := Aside0.mk (qak HB.out hbL)
                 clear HO_5
                 clear HB
                 have HO_5 := nHO_5_
                 have HB := nHB_
                 clear nHO_5_
                 clear nHB_
                 clear hbL
                 try go_wp2
                 go_roundg kj22
                 case measure => have := HK1.out; have := HJ4.out; have := HJ7.out; have := HJ22.out; omega
                 case rel => exact ⟨(x5_1), (wrap64 (x6_1 + 1)), (wrap64 (x7_1 + 1)), (by first | rfl | (simp; done) | (simp [*]; done)), (by first | rfl | (simp; done) | (simp [*]; done)), H', ⟨by have := HK1.out; have := HJ4.out; have := HJ7.out; have := HJ22.out; omega⟩, ⟨by (with_reducible repeat (first | apply Kd.qar | apply Kd.qas | apply Kd.qax)); exact HO_5.out⟩, ⟨by repeat (first | (with_reducible first | exact HB.out | apply qac | apply qaa | apply qab) | exact HB.out)⟩⟩
                ·rw [if_neg c41] at H
                 have c41b0 : (((qal l0 x6_1).f1).toList == ((qal l1 x7_1).f1).toList) = false := beq_eq_false_iff_ne.mpr c41
                 have c41b1 : (((qal l0 x6_1).f1).toList != ((qal l1 x7_1).f1).toList) = true := bne_iff_ne.mpr c41
                 by_cases c43 : x5_1.length < 2513169434916
                 ·rw [if_pos c43] at H
                  have LMc43 := Aside0.mk c43
                  clear c43
                  obtain ⟨y200, hy200⟩ : ∃ y_ : List (S82), y_ = (x5_1 ++ [(⟨(qal l0 x6_1).f0, (qal l0 x6_1).f1, (qal l1 x7_1).f1, true, true⟩ : S82)]) := ⟨_, rfl⟩
                  replace H : (qaq.l0 kj22 l0 l1 y200 (wrap64 (x6_1 + 1)) (wrap64 (x7_1 + 1))) = some r := by first | (rw [hy200]; with_reducible exact H) | (have H2_ := (Option.bind_some _ _).symm.trans H; rw [hy200]; with_reducible exact H2_) | (have H2_ := (Option.bind_some _ _).symm.trans H; with_reducible exact H2_) | with_reducible exact H | (rw [hy200]; exact H) | exact H
                  have Ny200 := Aside0.mk hy200
                  clear hy200
                  have H' := Aside0.mk H
                  clear H
                  try go_wp2
                  have n0_ := Aside0.mk (Kd.qax HO_5.out)
                  have n1_ := Aside0.mk (qab HB.out)
                  clear HO_5
                  clear HB
                  have HO_5 := n0_
                  have HB := n1_
                  clear n0_ n1_
                  have p195 : 0 ≤ (x6_1 : Int) := of_decide_eq_true (by first | (with_reducible assumption) | assumption)
                  have q195 : x6_1 < (l0.length : Int) := of_decide_eq_true (by first | (with_reducible assumption) | assumption)
                  obtain ⟨ad195, e195, hx195_0, hx195_1⟩ := qbv HR0.out x6_1 p195 q195
                  have hw195_1 := hx195_1
                  have hw195_0 := hx195_0
                  cases e195
                  replace hx195_0 := (HB.out.cell (World.block_lt_of_cell? w _ hx195_0)).trans hx195_0
                  replace hx195_1 := (HB.out.cell (World.block_lt_of_cell? w _ hx195_1)).trans hx195_1
                  replace p195 := eq_true p195
                  replace q195 := eq_true q195
                  have p196 : 0 ≤ (x7_1 : Int) := of_decide_eq_true (by first | (with_reducible assumption) | assumption)
                  have q196 : x7_1 < (l1.length : Int) := of_decide_eq_true (by first | (with_reducible assumption) | assumption)
                  obtain ⟨ad196, e196, hx196_0, hx196_1⟩ := qbv HR1.out x7_1 p196 q196
                  have hw196_1 := hx196_1
                  have hw196_0 := hx196_0
                  cases e196
                  replace hx196_0 := (HB.out.cell (World.block_lt_of_cell? w _ hx196_0)).trans hx196_0
                  replace hx196_1 := (HB.out.cell (World.block_lt_of_cell? w _ hx196_1)).trans hx196_1
                  replace p196 := eq_true p196
                  replace q196 := eq_true q196
                  refine qaF (by kernel_rfl) (by kernel_rfl) ?_
                  have hL0_ := Aside0.mk (show wc.drew.cell? (ad195.add ((x6_1).toNat * 2)) = some (.string ((qal l0 x6_1).f0)) from ((HB.out.cell (World.block_lt_of_cell? w _ hw195_0)).trans hw195_0))
                  have hL1_ := Aside0.mk (show wc.drew.cell? ⟨(ad195.add ((x6_1).toNat * 2)).block, (ad195.add ((x6_1).toNat * 2)).off + 1, none⟩ = some (.string ((qal l0 x6_1).f1)) from ((HB.out.cell (World.block_lt_of_cell? w _ hw195_1)).trans hw195_1))
                  have hL2_ := Aside0.mk (show wc.drew.cell? (ad196.add ((x7_1).toNat * 2)) = some (.string ((qal l1 x7_1).f0)) from ((HB.out.cell (World.block_lt_of_cell? w _ hw196_0)).trans hw196_0))
                  have hL3_ := Aside0.mk (show wc.drew.cell? ⟨(ad196.add ((x7_1).toNat * 2)).block, (ad196.add ((x7_1).toNat * 2)).off + 1, none⟩ = some (.string ((qal l1 x7_1).f1)) from ((HB.out.cell (World.block_lt_of_cell? w _ hw196_1)).trans hw196_1))
                  generalize wc.drew = w44b at HO_5 HB hx195_0 hx195_1 hx196_0 hx196_1 hL0_ hL1_ hL2_ hL3_ ⊢
                  clear hx195_0 hx195_1 hx196_0 hx196_1
                  have hL0 := fun (p_ : Later w44b) => Later.cell p_ hL0_.out
                  have hL1 := fun (p_ : Later w44b) => Later.cell p_ hL1_.out
                  have hL2 := fun (p_ : Later w44b) => Later.cell p_ hL2_.out
                  have hL3 := fun (p_ : Later w44b) => Later.cell p_ hL3_.out
                  clear hL0_ hL1_ hL2_ hL3_
                  repeat (first | go_big_quiet_step (fail) | quiet_step (fail))
                  refine wpQuiet_nil ?_
                  rintro w44 ⟨⟨wq_, hbL⟩, hq_⟩
                  have hq2_ : w44 = wq_ := hq_
                  clear hq_
                  subst hq2_
                  clear hL0 hL1 hL2 hL3
                  have nHO_5_ := by first | exact Aside0.mk (qak HO_5.out hbL) | exact Aside0.mk (Kd.qaA HO_5.out hbL) | exact Aside0.mk (Kd.qbz HO_5.out hbL) | exact Aside0.mk (Kd.qbA HO_5.out hbL) | exact Aside0.mk (Kd.qbB HO_5.out hbL) | exact Aside0.mk (Kd.qbx HO_5.out hbL) | exact Aside0.mk (Kd.qa2 HO_5.out hbL) | exact Aside0.mk ((hbL.block _ (qbj HO_5.out)).trans HO_5.out)
                  have nHB_ := Aside0.mk (qak HB.out hbL)
                  clear HO_5
                  clear HB
                  have HO_5 := nHO_5_
                  have HB := nHB_
                  clear nHO_5_
                  clear nHB_
                  clear hbL
                  try go_wp2
                  have n0_ := Aside0.mk (Kd.qax HO_5.out)
                  have n1_ := Aside0.mk (qab HB.out)
                  clear HO_5
                  clear HB
                  have HO_5 := n0_
                  have HB := n1_
                  clear n0_ n1_
                  have p197 : 0 ≤ (x6_1 : Int) := of_decide_eq_true (by first | (with_reducible assumption) | assumption)
                  have q197 : x6_1 < (l0.length : Int) := of_decide_eq_true (by first | (with_reducible assumption) | assumption)
                  obtain ⟨ad197, e197, hx197_0, hx197_1⟩ := qbv HR0.out x6_1 p197 q197
                  have hw197_1 := hx197_1
                  have hw197_0 := hx197_0
                  obtain rfl : ad195 = ad197 := (by injection e197)
                  replace hx197_0 := (HB.out.cell (World.block_lt_of_cell? w _ hx197_0)).trans hx197_0
                  replace hx197_1 := (HB.out.cell (World.block_lt_of_cell? w _ hx197_1)).trans hx197_1
                  replace p197 := eq_true p197
                  replace q197 := eq_true q197
                  have p198 : 0 ≤ (x6_1 : Int) := of_decide_eq_true (by first | (with_reducible assumption) | assumption)
                  have q198 : x6_1 < (l0.length : Int) := of_decide_eq_true (by first | (with_reducible assumption) | assumption)
                  obtain ⟨ad198, e198, hx198_0, hx198_1⟩ := qbv HR0.out x6_1 p198 q198
                  have hw198_1 := hx198_1
                  have hw198_0 := hx198_0
                  obtain rfl : ad195 = ad198 := (by injection e198)
                  replace hx198_0 := (HB.out.cell (World.block_lt_of_cell? w _ hx198_0)).trans hx198_0
                  replace hx198_1 := (HB.out.cell (World.block_lt_of_cell? w _ hx198_1)).trans hx198_1
                  replace p198 := eq_true p198
                  replace q198 := eq_true q198
                  have p199 : 0 ≤ (x7_1 : Int) := of_decide_eq_true (by first | (with_reducible assumption) | assumption)
                  have q199 : x7_1 < (l1.length : Int) := of_decide_eq_true (by first | (with_reducible assumption) | assumption)
                  obtain ⟨ad199, e199, hx199_0, hx199_1⟩ := qbv HR1.out x7_1 p199 q199
                  have hw199_1 := hx199_1
                  have hw199_0 := hx199_0
                  obtain rfl : ad196 = ad199 := (by injection e199)
                  replace hx199_0 := (HB.out.cell (World.block_lt_of_cell? w _ hx199_0)).trans hx199_0
                  replace hx199_1 := (HB.out.cell (World.block_lt_of_cell? w _ hx199_1)).trans hx199_1
                  replace p199 := eq_true p199
                  replace q199 := eq_true q199
                  refine qdz (n := 20) (S := fun w' => w'.cell? (ad195.add ((x6_1).toNat * 2)) = some (.string ((qal l0 x6_1).f0)) ∧ w'.cell? ⟨(ad195.add ((x6_1).toNat * 2)).block, (ad195.add ((x6_1).toNat * 2)).off + 1, none⟩ = some (.string ((qal l0 x6_1).f1)) ∧ w'.cell? (ad195.add ((x6_1).toNat * 2)) = some (.string ((qal l0 x6_1).f0)) ∧ w'.cell? ⟨(ad195.add ((x6_1).toNat * 2)).block, (ad195.add ((x6_1).toNat * 2)).off + 1, none⟩ = some (.string ((qal l0 x6_1).f1)) ∧ w'.cell? (ad196.add ((x7_1).toNat * 2)) = some (.string ((qal l1 x7_1).f0)) ∧ w'.cell? ⟨(ad196.add ((x7_1).toNat * 2)).block, (ad196.add ((x7_1).toNat * 2)).off + 1, none⟩ = some (.string ((qal l1 x7_1).f1))) (ds := []) #[false, false, false, false, false, false, false, false, false, false, false, false, false, false, false, false, false, false, false, false] (by kernel_rfl) rfl rfl ⟨((HB.out.cell (World.block_lt_of_cell? w _ hw197_0)).trans hw197_0), ((HB.out.cell (World.block_lt_of_cell? w _ hw197_1)).trans hw197_1), ((HB.out.cell (World.block_lt_of_cell? w _ hw198_0)).trans hw198_0), ((HB.out.cell (World.block_lt_of_cell? w _ hw198_1)).trans hw198_1), ((HB.out.cell (World.block_lt_of_cell? w _ hw199_0)).trans hw199_0), ((HB.out.cell (World.block_lt_of_cell? w _ hw199_1)).trans hw199_1)⟩ (fun hHeld => ?_); refine qcq qaq.tab6 qaq.bits6 (fun HT_ HW_ => ?_)
                  generalize w44.drew = w45 at HO_5 HB hx197_0 hx197_1 hx198_0 hx198_1 hx199_0 hx199_1 hHeld ⊢
                  refine qby (i := 0) (N := some 30) (v := ?_) (a' := ?_) #[true, false, false, false, false, false, false, false, false, false, false, false, false, false, false, false, false, false, false, false] rfl rfl (qbo HT_.out (by kernel_rfl)) (fun _ _ _ h => h) (Or.inl ⟨by rfl, ?_⟩) ?_ ?_
                  rotate_left
                  ·intro w'
                   go_simp
                   with_reducible rfl
                  rotate_left
                  ·simp only [Act.put, List.setIfInBounds_toArray, List.set_cons_zero, List.set_cons_succ, qbh, qbi]
                   rfl
                  refine qby (i := 1) (N := some 31) (v := ?_) (a' := ?_) #[true, true, false, false, false, false, false, false, false, false, false, false, false, false, false, false, false, false, false, false] rfl rfl (qbo HT_.out (by kernel_rfl)) (fun _ _ _ h => h) (Or.inl ⟨by rfl, ?_⟩) ?_ ?_
                  rotate_left
                  ·intro w'
                   go_simp
                   with_reducible rfl
                  rotate_left
                  ·simp only [Act.put, List.setIfInBounds_toArray, List.set_cons_zero, List.set_cons_succ, qbh, qbi]
                   rfl
                  refine qby (i := 2) (N := some 32) (v := ?_) (a' := ?_) #[true, true, true, false, false, false, false, false, false, false, false, false, false, false, false, false, false, false, false, false] rfl rfl (qbo HT_.out (by kernel_rfl)) (fun _ _ _ h => h) (Or.inl ⟨by rfl, ?_⟩) ?_ ?_
                  rotate_left
                  ·intro w'
                   go_simp
                   with_reducible rfl
                  rotate_left
                  ·simp only [Act.put, List.setIfInBounds_toArray, List.set_cons_zero, List.set_cons_succ, qbh, qbi]
                   rfl
                  refine qby (i := 3) (N := some 33) (v := ?_) (a' := ?_) #[true, true, true, true, false, false, false, false, false, false, false, false, false, false, false, false, false, false, false, false] rfl rfl (qbo HT_.out (by kernel_rfl)) (fun _ _ _ h => h) (Or.inl ⟨by rfl, ?_⟩) ?_ ?_
                  rotate_left
                  ·intro w'
                   go_simp
                   with_reducible rfl
                  rotate_left
                  ·simp only [Act.put, List.setIfInBounds_toArray, List.set_cons_zero, List.set_cons_succ, qbh, qbi]
                   rfl
                  refine qby (i := 4) (N := some 34) (v := ?_) (a' := ?_) #[true, true, true, true, true, false, false, false, false, false, false, false, false, false, false, false, false, false, false, false] rfl rfl (qbo HT_.out (by kernel_rfl)) (fun _ _ _ h => h) (Or.inl ⟨by rfl, ?_⟩) ?_ ?_
                  rotate_left
                  ·intro w'
                   go_simp
                   with_reducible rfl
                  rotate_left
                  ·simp only [Act.put, List.setIfInBounds_toArray, List.set_cons_zero, List.set_cons_succ, qbh, qbi]
                   rfl
                  refine qby (i := 6) (N := some 36) (v := ?_) (a' := ?_) #[true, true, true, true, true, false, true, false, false, false, false, false, false, false, false, false, false, false, false, false] rfl rfl (qbo HT_.out (by kernel_rfl)) (fun _ _ _ h => h) (Or.inl ⟨by rfl, ?_⟩) ?_ ?_
                  rotate_left
                  ·intro w'
                   go_simp
                   with_reducible rfl
                  rotate_left
                  ·simp only [Act.put, List.setIfInBounds_toArray, List.set_cons_zero, List.set_cons_succ, qbh, qbi]
                   rfl
                  refine qby (i := 7) (N := some 37) (v := ?_) (a' := ?_) #[true, true, true, true, true, false, true, true, false, false, false, false, false, false, false, false, false, false, false, false] rfl rfl (qbo HT_.out (by kernel_rfl)) (fun _ _ _ h => h) (Or.inl ⟨by rfl, ?_⟩) ?_ ?_
                  rotate_left
                  ·intro w'
                   go_simp
                   with_reducible rfl
                  rotate_left
                  ·simp only [Act.put, List.setIfInBounds_toArray, List.set_cons_zero, List.set_cons_succ, qbh, qbi]
                   rfl
                  refine qby (i := 8) (N := some 38) (v := ?_) (a' := ?_) #[true, true, true, true, true, false, true, true, true, false, false, false, false, false, false, false, false, false, false, false] rfl rfl (qbo HT_.out (by kernel_rfl)) (fun _ _ _ h => h) (Or.inl ⟨by rfl, ?_⟩) ?_ ?_
                  rotate_left
                  ·intro w'
                   go_simp
                   with_reducible rfl
                  rotate_left
                  ·simp only [Act.put, List.setIfInBounds_toArray, List.set_cons_zero, List.set_cons_succ, qbh, qbi]
                   rfl
                  refine qby (i := 9) (N := some 39) (v := ?_) (a' := ?_) #[true, true, true, true, true, false, true, true, true, true, false, false, false, false, false, false, false, false, false, false] rfl rfl (qbo HT_.out (by kernel_rfl)) (fun _ _ _ h => h) (Or.inl ⟨by rfl, ?_⟩) ?_ ?_
                  rotate_left
                  ·intro w'
                   go_simp
                   with_reducible rfl
                  rotate_left
                  ·simp only [Act.put, List.setIfInBounds_toArray, List.set_cons_zero, List.set_cons_succ, qbh, qbi]
                   rfl
                  refine qby (i := 11) (N := some 41) (v := ?_) (a' := ?_) #[true, true, true, true, true, false, true, true, true, true, false, true, false, false, false, false, false, false, false, false] rfl rfl (qbo HT_.out (by kernel_rfl)) (fun _ _ _ h => h) (Or.inl ⟨by rfl, ?_⟩) ?_ ?_
                  rotate_left
                  ·intro w'
                   go_simp
                   with_reducible rfl
                  rotate_left
                  ·simp only [Act.put, List.setIfInBounds_toArray, List.set_cons_zero, List.set_cons_succ, qbh, qbi]
                   rfl
                  refine qby (i := 12) (N := some 42) (v := ?_) (a' := ?_) #[true, true, true, true, true, false, true, true, true, true, false, true, true, false, false, false, false, false, false, false] rfl rfl (qbo HT_.out (by kernel_rfl)) (fun _ _ _ h => h) (Or.inl ⟨by rfl, ?_⟩) ?_ ?_
                  rotate_left
                  ·intro w'
                   go_simp
                   with_reducible rfl
                  rotate_left
                  ·simp only [Act.put, List.setIfInBounds_toArray, List.set_cons_zero, List.set_cons_succ, qbh, qbi]
                   rfl
                  refine qby (i := 13) (N := some 43) (v := ?_) (a' := ?_) #[true, true, true, true, true, false, true, true, true, true, false, true, true, true, false, false, false, false, false, false] rfl rfl (qbo HT_.out (by kernel_rfl)) (fun _ _ _ h => h) (Or.inl ⟨by rfl, ?_⟩) ?_ ?_
                  rotate_left
                  ·intro w'
                   go_simp
                   with_reducible rfl
                  rotate_left
                  ·simp only [Act.put, List.setIfInBounds_toArray, List.set_cons_zero, List.set_cons_succ, qbh, qbi]
                   rfl
                  refine qby (i := 14) (N := some 44) (v := ?_) (a' := ?_) #[true, true, true, true, true, false, true, true, true, true, false, true, true, true, true, false, false, false, false, false] rfl rfl (qbo HT_.out (by kernel_rfl)) (fun _ _ _ h => h) (Or.inl ⟨by rfl, ?_⟩) ?_ ?_
                  rotate_left
                  ·intro w'
                   go_simp
                   with_reducible rfl
                  rotate_left
                  ·simp only [Act.put, List.setIfInBounds_toArray, List.set_cons_zero, List.set_cons_succ, qbh, qbi]
                   rfl
                  refine qcC (i := 5) (N := some 35) (v := ?_) (a' := ?_) #[true, true, true, true, true, true, true, true, true, true, false, true, true, true, true, false, false, false, false, false] rfl rfl (qbY HT_.out HW_.out (by kernel_rfl)) (fun _ _ _ h => h) (Or.inl ⟨by rfl, ?_⟩) hHeld ?_ ?_
                  rotate_left
                  ·rintro w' ⟨s0, s1, s2, s3, s4, s5⟩
                   go_simp
                   with_reducible rfl
                  rotate_left
                  ·simp only [Act.put, List.setIfInBounds_toArray, List.set_cons_zero, List.set_cons_succ, qbh, qbi]
                   rfl
                  refine qcC (i := 10) (N := some 40) (v := ?_) (a' := ?_) #[true, true, true, true, true, true, true, true, true, true, true, true, true, true, true, false, false, false, false, false] rfl rfl (qbY HT_.out HW_.out (by kernel_rfl)) (fun _ _ _ h => h) (Or.inl ⟨by rfl, ?_⟩) hHeld ?_ ?_
                  rotate_left
                  ·rintro w' ⟨s0, s1, s2, s3, s4, s5⟩
                   go_simp
                   with_reducible rfl
                  rotate_left
                  ·simp only [Act.put, List.setIfInBounds_toArray, List.set_cons_zero, List.set_cons_succ, qbh, qbi]
                   rfl
                  refine qcC (i := 15) (N := some 45) (v := ?_) (a' := ?_) #[true, true, true, true, true, true, true, true, true, true, true, true, true, true, true, true, false, false, false, false] rfl rfl (qbY HT_.out HW_.out (by kernel_rfl)) (fun _ _ _ h => h) (Or.inl ⟨by rfl, ?_⟩) hHeld ?_ ?_
                  rotate_left
                  ·rintro w' ⟨s0, s1, s2, s3, s4, s5⟩
                   go_simp
                   with_reducible rfl
                  rotate_left
                  ·simp only [Act.put, List.setIfInBounds_toArray, List.set_cons_zero, List.set_cons_succ, qbh, qbi]
                   rfl
                  refine qby (i := 16) (N := some 46) (v := ?_) (a' := ?_) #[true, true, true, true, true, true, true, true, true, true, true, true, true, true, true, true, true, false, false, false] rfl rfl (qbo HT_.out (by kernel_rfl)) (fun _ _ _ h => h) (Or.inl ⟨by rfl, ?_⟩) ?_ ?_
                  rotate_left
                  ·intro w'
                   go_simp
                   with_reducible rfl
                  rotate_left
                  ·simp only [Act.put, List.setIfInBounds_toArray, List.set_cons_zero, List.set_cons_succ, qbh, qbi]
                   rfl
                  refine one_ (i := 17) (N := some 47) #[true, true, true, true, true, true, true, true, true, true, true, true, true, true, true, true, true, true, false, false] rfl rfl (qcp HT_.out (by kernel_rfl)) (by decide) (fun K hK => ?_)
                  refine qd1 (w1 := ?_) (v := ?_) (by rfl) rfl ?_ ?_
                  rotate_left 2
                  ·go_simp
                   constructor
                   ·rfl
                   ·rfl
                  refine hK.out _ _ ⟨(World.cell?_alloc_lt _ _ _ (World.block_lt_of_cell? _ _ (((HB.out.cell (World.block_lt_of_cell? w _ hw197_0)).trans hw197_0)))).trans (((HB.out.cell (World.block_lt_of_cell? w _ hw197_0)).trans hw197_0)), (World.cell?_alloc_lt _ _ _ (World.block_lt_of_cell? _ _ (((HB.out.cell (World.block_lt_of_cell? w _ hw197_1)).trans hw197_1)))).trans (((HB.out.cell (World.block_lt_of_cell? w _ hw197_1)).trans hw197_1)), (World.cell?_alloc_lt _ _ _ (World.block_lt_of_cell? _ _ (((HB.out.cell (World.block_lt_of_cell? w _ hw198_0)).trans hw198_0)))).trans (((HB.out.cell (World.block_lt_of_cell? w _ hw198_0)).trans hw198_0)), (World.cell?_alloc_lt _ _ _ (World.block_lt_of_cell? _ _ (((HB.out.cell (World.block_lt_of_cell? w _ hw198_1)).trans hw198_1)))).trans (((HB.out.cell (World.block_lt_of_cell? w _ hw198_1)).trans hw198_1)), (World.cell?_alloc_lt _ _ _ (World.block_lt_of_cell? _ _ (((HB.out.cell (World.block_lt_of_cell? w _ hw199_0)).trans hw199_0)))).trans (((HB.out.cell (World.block_lt_of_cell? w _ hw199_0)).trans hw199_0)), (World.cell?_alloc_lt _ _ _ (World.block_lt_of_cell? _ _ (((HB.out.cell (World.block_lt_of_cell? w _ hw199_1)).trans hw199_1)))).trans (((HB.out.cell (World.block_lt_of_cell? w _ hw199_1)).trans hw199_1))⟩ (fun hHeld => ?_)
                  clear hK K
                  refine qcT (a' := ?_) ?_ ?_
                  rotate_left
                  ·show Act.put _ (some 47) _ = _
                   simp only [Act.put, List.setIfInBounds_toArray, List.set_cons_zero, List.set_cons_succ, qbh, qbi]
                   rfl
                  refine one_ (i := 18) (N := some 48) #[true, true, true, true, true, true, true, true, true, true, true, true, true, true, true, true, true, true, true, false] rfl rfl (qcp HT_.out (by kernel_rfl)) (by decide) (fun K hK => ?_)
                  refine Kd.qb6 k82 (w0 := w) w.heap.size (by rfl) (.tmp 30) (.tmp 47) 30 82 (.agg #[(.string ⟨#[]⟩), (.string ⟨#[]⟩), (.string ⟨#[]⟩), (.bool false), (.bool false)]) 56 rfl Try.underlying30 info82 rfl (by decide) (by omega) u5 x5_1 (⟨(qal l0 x6_1).f0, (qal l0 x6_1).f1, (qal l1 x7_1).f1, true, true⟩ : S82) [.string ((qal l0 x6_1).f0), .string ((qal l0 x6_1).f1), .string ((qal l1 x7_1).f1), .bool true, .bool true] (fun _ => True) (fun _ => False) rfl rfl ?aP (fun _ hk => hk.elim) ?aF ?aO ?aB ?aS ?aL ?_
                  (case aP => exact qcr _ _ _ (⟨(qal l0 x6_1).f0, (qal l0 x6_1).f1, (qal l1 x7_1).f1, true, true⟩ : S82))
                  (case aB => exact (by repeat (first | (with_reducible first | exact HB.out | apply qac | apply qaa | apply qab) | exact HB.out)))
                  (case aF => exact (fun _ _ => trivial))
                  (case aO => exact (by (with_reducible repeat (first | apply Kd.qar | apply Kd.qas | apply Kd.qax)); exact HO_5.out))
                  (case aS => exact (qau (by repeat (first | (with_reducible first | exact HB.out | apply qac | apply qaa | apply qab) | exact HB.out))))
                  (case aL => have := LMc43.out; omega)
                  intro v201 w46 ho hb hg hat
                  rw [← Ny200.out] at ho
                  have n0_ := Aside0.mk (hb)
                  have n1_ := Aside0.mk (ho)
                  clear HB
                  clear HO_5
                  have HB := n0_
                  have HO202 := n1_
                  clear n0_ n1_
                  clear ho hb hg hat
                  refine hK.out _ _ ⟨((HB.out.cell (World.block_lt_of_cell? w _ hw197_0)).trans hw197_0), ((HB.out.cell (World.block_lt_of_cell? w _ hw197_1)).trans hw197_1), ((HB.out.cell (World.block_lt_of_cell? w _ hw198_0)).trans hw198_0), ((HB.out.cell (World.block_lt_of_cell? w _ hw198_1)).trans hw198_1), ((HB.out.cell (World.block_lt_of_cell? w _ hw199_0)).trans hw199_0), ((HB.out.cell (World.block_lt_of_cell? w _ hw199_1)).trans hw199_1)⟩ (fun hHeld => ?_)
                  clear hK K
                  refine qcT (a' := ?_) ?_ ?_
                  rotate_left
                  ·show Act.put _ (some 48) _ = _
                   simp only [Act.put, List.setIfInBounds_toArray, List.set_cons_zero, List.set_cons_succ, qbh, qbi]
                   rfl
                  refine qby (i := 19) (N := some 5) (v := ?_) (a' := ?_) #[true, true, true, true, true, true, true, true, true, true, true, true, true, true, true, true, true, true, true, true] rfl rfl (qbo HT_.out (by kernel_rfl)) (fun _ _ _ h => h) (Or.inl ⟨by rfl, ?_⟩) ?_ ?_
                  rotate_left
                  ·intro w'
                   go_simp
                   with_reducible rfl
                  rotate_left
                  ·simp only [Act.put, List.setIfInBounds_toArray, List.set_cons_zero, List.set_cons_succ, qbh, qbi]
                   rfl
                  refine qeL (qcU HT_.out (by kernel_rfl)) ?_
                  try go_wp2
                  go_roundg kj22
                  case measure => have := HK1.out; have := HJ4.out; have := HJ7.out; have := HJ22.out; omega
                  case rel => exact ⟨(y200), (wrap64 (x6_1 + 1)), (wrap64 (x7_1 + 1)), (by first | rfl | (simp; done) | (simp [*]; done)), (by first | rfl | (simp; done) | (simp [*]; done)), H', ⟨by have := HK1.out; have := HJ4.out; have := HJ7.out; have := HJ22.out; omega⟩, ⟨by (with_reducible repeat (first | apply Kd.qar | apply Kd.qas | apply Kd.qax)); exact HO202.out⟩, ⟨by repeat (first | (with_reducible first | exact HB.out | apply qac | apply qaa | apply qab) | exact HB.out)⟩⟩
                 ·rw [if_neg c43] at H
                  exact absurd H (by simp)
               ·rw [if_neg c40] at H
                exact absurd H (by simp)
              ·rw [if_neg c39] at H
               exact absurd H (by simp)
             ·rw [if_neg c38] at H
              exact absurd H (by simp)
            ·rw [if_neg c37] at H
             exact absurd H (by simp)
     ·replace c7 := Bool.eq_false_iff.mpr c7
      subst c7
      have H1 : (some x5_1) = some r := by rw [if_neg (show ¬ (false = true) by decide)] at H; exact H
      clear H
      have H := H1
      clear H1
      obtain rfl := Option.some.inj H
      go_wp2
      go_ret
      exact ⟨_, by first | rfl | (simp [qam, qan] <;> rfl) | (simp [*, qam, qan] <;> rfl), by (with_reducible repeat (first | apply Kd.qar | apply Kd.qas | apply Kd.qax)); exact HO_5.out, by repeat (first | (with_reducible first | exact HB.out | apply qac | apply qaa | apply qab) | exact HB.out)⟩
end Go.Proofs.Ytgcncphdjabjjaa.X
