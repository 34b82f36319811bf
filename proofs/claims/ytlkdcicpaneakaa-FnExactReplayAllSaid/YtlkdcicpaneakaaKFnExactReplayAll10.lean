import Derived.Test.YtlkdcicpaneakaaKFnExactReplayAll2
import Derived.Test.YtlkdcicpaneakaaKFnExactReplayAll3
import Derived.Test.YtlkdcicpaneakaaKFnExactReplayAll4
import Derived.Test.YtlkdcicpaneakaaKFnExactReplayAll5
import Derived.Test.YtlkdcicpaneakaaKFnExactReplayAll6
import Derived.Test.YtlkdcicpaneakaaKFnExactReplayAll7
import Derived.Test.YtlkdcicpaneakaaKFnExactReplayAll8
import Derived.Test.YtlkdcicpaneakaaKFnExactReplayAll9
import Derived.Deep.QuietTactic
import Derived.BigQuiet
import Derived.Below
import Derived.LoopTactic
import Derived.WalkSpells
import Derived.Deep.RegionHeld3
namespace Go.Proofs.Ytlkdcicpaneakaa.X
open Go.RowKit Go.Proofs.YtlkdcicpaneakaaW.PrintWords Go.Proofs.YtlkdcicpaneakaaW.PrintLast Go.Proofs.YtlkdcicpaneakaaW.PrintMore
attribute [local go_sem] qaA qaB qaC qaw qax qaH qaI qap qaq qay qaz
set_option linter.unusedVariables false
set_option linter.unusedSimpArgs false
def qbb.l0 : Nat → List (S48) → List Int → Int → Option (Int)
 | 0, _, _, _ => none
 | k + 1, x0, x3, x4 => if x4 < (x0.length : Int) then (if 0 ≤ x4 then ((qbd.f (([(qaK x0 x4).f0, (qaK x0 x4).f1] : List ByteArray))).bind fun t199 => (if x3.length + t199.length < 140737488355328 then (qbb.l0 k x0 (x3 ++ t199) (wrap64 (x4 + 1))) else (none))) else (none)) else ((qbX.f x3).bind fun t205 => (some t205))
def qbb.f (k : Nat) (l0 : List (S48)) : Option (Int) := qbb.l0 k l0 (([] : List Int)) 0
theorem qbb.qbA : ∀ k, (∀ y0 y1 y2, LeO (qbb.l0 k y0 y1 y2) (qbb.l0 (k + 1) y0 y1 y2))
 | 0 => fun _ _ _ r h => by simp [qbb.l0] at h
 | k + 1 => by
  have ih0 := qbb.qbA k
  ·intro y0 y1 y2
   unfold qbb.l0
   repeat' first
   | (with_reducible exact ih0 _ _ _)
   | (with_reducible exact LeO.refl _)
   | (with_reducible exact LeO.none _)
   | (with_reducible refine LeO.ite ?_ ?_)
   | (with_reducible refine LeO.bind ?_ (fun _ => ?_))
   | exact ih0 _ _ _
   | exact LeO.none _
   | refine LeO.ite ?_ ?_
   | refine LeO.bind ?_ (fun _ => ?_)
def qbb.T5 : Bool × List (List Nat × List Nat) := (true, [([], []), ([], []), ([], []), ([1, 2], [1, 2]), ([3], [3]), ([4], [4]), ([], []), ([], []), ([6, 7], [6, 7]), ([8], [8]), ([9], [9]), ([5, 10], [5, 10]), ([11], [11]), ([0, 12, 12], [0, 12]), ([13, 13, 0, 1, 2, 3, 4, 5, 6, 7, 8, 9, 10, 11, 12, 13], [0, 13])])
def qbb.B5 : List Nat := [0, 0, 0, 6, 14, 30, 0, 0, 192, 448, 960, 2046, 4094, 8191, 16383]
theorem qbb.tab5 : rtab .any (opsOf Try.f30 5) = qbb.T5 := by kernel_rfl
theorem qbb.bits5 : qcs qbb.T5.2 qbb.B5 = true := by kernel_rfl
set_option maxHeartbeats 8000000 in
set_option maxRecDepth 100000 in
theorem qbb.calls (k : Nat) (A0 : Option Addr) (c0 : Nat) (l0 : List (S48)) (r : Int) (w : World) (hr0 : Kd.C k48 w A0 l0.length l0) (hc0 : l0.length ≤ c0) (h : qbb.f k l0 = some r) :
  Calls Try.prog 30 #[.slice A0 l0.length c0] w fun e w' => e = .returned (.int .i64 r) ∧ Below w.heap.size w w' := by
 have HR0 := Aside0.mk hr0
 have HC0 := Aside0.mk hc0
 clear hr0 hc0
 have HB := Aside0.mk (Below.refl w.heap.size w)
 have H : (qbb.l0 k l0 (([] : List Int)) 0) = some r := h
 clear h
 obtain ⟨y191, hy191⟩ : ∃ y_ : List Int, y_ = (([] : List Int)) := ⟨_, rfl⟩
 replace H : (qbb.l0 k l0 y191 0) = some r := by first | (rw [hy191]; with_reducible exact H) | (have H2_ := (Option.bind_some _ _).symm.trans H; rw [hy191]; with_reducible exact H2_) | (have H2_ := (Option.bind_some _ _).symm.trans H; with_reducible exact H2_) | with_reducible exact H | (rw [hy191]; exact H) | exact H
 have Ny191 := Aside0.mk hy191
 clear hy191
 have H' := Aside0.mk H
 clear H
 go_enter Try.func30, Try.ntmps30
 go_wp2_with (first | ((with_reducible refine qaM (N := 5) rfl ?_); refine Kd.qdN (Kd.int .u8) _ 5 ?hg (N := 5) ?hd (xs := ([] : List Int)) (inner := []) (ok := fun _ => True) (okp := fun _ => True) ?hr ?hp (fun _ hk => hk) trivial (Below.refl _ _) (Nat.le_refl _) (by simp) ?_; (case hd => rfl); (case hg => rfl); (case hr => first | (go_simp; done) | (go_simp; rfl)); (case hp => exact (Reps.none _ _)); intro v192 w2 ho3 hb hg_ hnew_; clear hg_ hnew_; (first | rw [← Ny191.out] at ho3 | (simp only [Int.reduceToNat] at ho3; rw [← Ny191.out] at ho3)); have n0_ := Aside0.mk (Kd.qbh ho3 (qak (by repeat (first | (with_reducible first | exact HB.out | apply qac | apply qaa | apply qab) | exact HB.out)))); have n1_ := Aside0.mk (qag (by repeat (first | (with_reducible first | exact HB.out | apply qac | apply qaa | apply qab) | exact HB.out)) hb); clear HB; have HO193 := n0_; have HB := n1_; clear n0_ n1_; clear hb ho3))
 go_loopg [3, 4] k (fun kq v3 v4 w' => ∃ (x3_1 : List Int) (x4_1 : Int), v4 = .int .i64 x4_1 ∧ Aside0 (qbb.l0 kq l0 x3_1 x4_1 = some r) ∧ Aside0 (kq ≤ k) ∧ Aside0 (Kd.R (Kd.int .u8) 5 w' w.heap.size (fun _ => True) v3 x3_1) ∧ Aside0 (Below w.heap.size w w'))
 case atStart => exact ⟨(y191), (0), (by first | rfl | (simp; done) | (simp [*]; done)), H', ⟨Nat.le_refl _⟩, ⟨by (with_reducible repeat (first | apply Kd.qar | apply Kd.qas | apply Kd.qaD)); exact HO193.out⟩, ⟨by repeat (first | (with_reducible first | exact HB.out | apply qac | apply qaa | apply qab) | exact HB.out)⟩⟩
 case round =>
  clear H'
  try clear p2
  try clear c3
  obtain ⟨x3_1, x4_1, rfl, HA, HK1, HO_3, HB⟩ := hrel
  cases gk with
  | zero => exact absurd HA.out (by simp [qbb.l0])
  | succ k1 =>
   have H := HA.out
   clear HA
   simp only [qbb.l0] at H
   by_cases c4 : x4_1 < (l0.length : Int)
   ·rw [if_pos c4] at H
    have c4b0 : decide (x4_1 < (l0.length : Int)) = true := decide_eq_true c4
    clear c4
    by_cases c5 : 0 ≤ x4_1
    ·rw [if_pos c5] at H
     have c5b0 : decide (0 ≤ x4_1) = true := decide_eq_true c5
     clear c5
     obtain ⟨y196, hy196⟩ : ∃ y_ : List ByteArray, y_ = (([(qaK l0 x4_1).f0, (qaK l0 x4_1).f1] : List ByteArray)) := ⟨_, rfl⟩
     replace H : ((qbd.f y196).bind fun t199 => (if x3_1.length + t199.length < 140737488355328 then (qbb.l0 k1 l0 (x3_1 ++ t199) (wrap64 (x4_1 + 1))) else (none))) = some r := by first | (rw [hy196]; with_reducible exact H) | (have H2_ := (Option.bind_some _ _).symm.trans H; rw [hy196]; with_reducible exact H2_) | (have H2_ := (Option.bind_some _ _).symm.trans H; with_reducible exact H2_) | with_reducible exact H | (rw [hy196]; exact H) | exact H
     have Ny196 := Aside0.mk hy196
     clear hy196
     replace H := Option.bind_eq_some_iff.mp H
     obtain ⟨t199, A60, H⟩ := H
     try dsimp only at H
     have A6 := Aside0.mk A60
     clear A60
     by_cases c7 : x3_1.length + t199.length < 140737488355328
     ·rw [if_pos c7] at H
      have LMc7 := Aside0.mk c7
      clear c7
      obtain ⟨y202, hy202⟩ : ∃ y_ : List Int, y_ = (x3_1 ++ t199) := ⟨_, rfl⟩
      replace H : (qbb.l0 k1 l0 y202 (wrap64 (x4_1 + 1))) = some r := by first | (rw [hy202]; with_reducible exact H) | (have H2_ := (Option.bind_some _ _).symm.trans H; rw [hy202]; with_reducible exact H2_) | (have H2_ := (Option.bind_some _ _).symm.trans H; with_reducible exact H2_) | with_reducible exact H | (rw [hy202]; exact H) | exact H
      have Ny202 := Aside0.mk hy202
      clear hy202
      have H' := Aside0.mk H
      clear H
      try go_wp2
      have n0_ := Aside0.mk (Kd.qaD HO_3.out)
      have n1_ := Aside0.mk (qab HB.out)
      clear HO_3 HB
      have HO_3 := n0_
      have HB := n1_
      clear n0_ n1_
      have p194 : 0 ≤ (x4_1 : Int) := of_decide_eq_true (by first | (with_reducible assumption) | assumption)
      have q194 : x4_1 < (l0.length : Int) := of_decide_eq_true (by first | (with_reducible assumption) | assumption)
      obtain ⟨ad194, e194, hx194_0, hx194_1⟩ := qcz HR0.out x4_1 p194 q194
      have hw194_1 := hx194_1
      have hw194_0 := hx194_0
      cases e194
      replace hx194_0 := (HB.out.cell (World.block_lt_of_cell? w _ hx194_0)).trans hx194_0
      replace hx194_1 := (HB.out.cell (World.block_lt_of_cell? w _ hx194_1)).trans hx194_1
      replace p194 := eq_true p194
      replace q194 := eq_true q194
      have p195 : 0 ≤ (x4_1 : Int) := of_decide_eq_true (by first | (with_reducible assumption) | assumption)
      have q195 : x4_1 < (l0.length : Int) := of_decide_eq_true (by first | (with_reducible assumption) | assumption)
      obtain ⟨ad195, e195, hx195_0, hx195_1⟩ := qcz HR0.out x4_1 p195 q195
      have hw195_1 := hx195_1
      have hw195_0 := hx195_0
      obtain rfl : ad194 = ad195 := (by injection e195)
      replace hx195_0 := (HB.out.cell (World.block_lt_of_cell? w _ hx195_0)).trans hx195_0
      replace hx195_1 := (HB.out.cell (World.block_lt_of_cell? w _ hx195_1)).trans hx195_1
      replace p195 := eq_true p195
      replace q195 := eq_true q195
      refine qen (n := 15) (S := fun w' => w'.cell? (ad194.add ((x4_1).toNat * 2)) = some (.string ((qaK l0 x4_1).f0)) ∧ w'.cell? ⟨(ad194.add ((x4_1).toNat * 2)).block, (ad194.add ((x4_1).toNat * 2)).off + 1, none⟩ = some (.string ((qaK l0 x4_1).f1)) ∧ w'.cell? (ad194.add ((x4_1).toNat * 2)) = some (.string ((qaK l0 x4_1).f0)) ∧ w'.cell? ⟨(ad194.add ((x4_1).toNat * 2)).block, (ad194.add ((x4_1).toNat * 2)).off + 1, none⟩ = some (.string ((qaK l0 x4_1).f1))) (ds := []) #[false, false, false, false, false, false, false, false, false, false, false, false, false, false, false] (by kernel_rfl) rfl rfl ⟨((HB.out.cell (World.block_lt_of_cell? w _ hw194_0)).trans hw194_0), ((HB.out.cell (World.block_lt_of_cell? w _ hw194_1)).trans hw194_1), ((HB.out.cell (World.block_lt_of_cell? w _ hw195_0)).trans hw195_0), ((HB.out.cell (World.block_lt_of_cell? w _ hw195_1)).trans hw195_1)⟩ (fun hHeld => ?_); refine qcV qbb.tab5 qbb.bits5 (fun HT_ HW_ => ?_)
      generalize wr.drew = w8 at HO_3 HB hx194_0 hx194_1 hx195_0 hx195_1 hHeld ⊢
      refine qb1 (i := 0) (N := some 12) (v := ?_) (a' := ?_) #[true, false, false, false, false, false, false, false, false, false, false, false, false, false, false] rfl rfl (qbu HT_.out (by kernel_rfl)) (fun _ _ _ h => h) (Or.inl ⟨by rfl, ?_⟩) ?_ ?_
      rotate_left
      ·intro w'
       go_simp
       with_reducible rfl
      rotate_left
      ·simp only [Act.put, List.setIfInBounds_toArray, List.set_cons_zero, List.set_cons_succ, qbe, qbo]
       rfl
      refine qb1 (i := 1) (N := some 13) (v := ?_) (a' := ?_) #[true, true, false, false, false, false, false, false, false, false, false, false, false, false, false] rfl rfl (qbu HT_.out (by kernel_rfl)) (fun _ _ _ h => h) (Or.inl ⟨by rfl, ?_⟩) ?_ ?_
      rotate_left
      ·intro w'
       go_simp
       with_reducible rfl
      rotate_left
      ·simp only [Act.put, List.setIfInBounds_toArray, List.set_cons_zero, List.set_cons_succ, qbe, qbo]
       rfl
      refine qb1 (i := 2) (N := some 14) (v := ?_) (a' := ?_) #[true, true, true, false, false, false, false, false, false, false, false, false, false, false, false] rfl rfl (qbu HT_.out (by kernel_rfl)) (fun _ _ _ h => h) (Or.inl ⟨by rfl, ?_⟩) ?_ ?_
      rotate_left
      ·intro w'
       go_simp
       with_reducible rfl
      rotate_left
      ·simp only [Act.put, List.setIfInBounds_toArray, List.set_cons_zero, List.set_cons_succ, qbe, qbo]
       rfl
      refine qb1 (i := 3) (N := some 15) (v := ?_) (a' := ?_) #[true, true, true, true, false, false, false, false, false, false, false, false, false, false, false] rfl rfl (qbu HT_.out (by kernel_rfl)) (fun _ _ _ h => h) (Or.inl ⟨by rfl, ?_⟩) ?_ ?_
      rotate_left
      ·intro w'
       go_simp
       with_reducible rfl
      rotate_left
      ·simp only [Act.put, List.setIfInBounds_toArray, List.set_cons_zero, List.set_cons_succ, qbe, qbo]
       rfl
      refine qb1 (i := 4) (N := some 16) (v := ?_) (a' := ?_) #[true, true, true, true, true, false, false, false, false, false, false, false, false, false, false] rfl rfl (qbu HT_.out (by kernel_rfl)) (fun _ _ _ h => h) (Or.inl ⟨by rfl, ?_⟩) ?_ ?_
      rotate_left
      ·intro w'
       go_simp
       with_reducible rfl
      rotate_left
      ·simp only [Act.put, List.setIfInBounds_toArray, List.set_cons_zero, List.set_cons_succ, qbe, qbo]
       rfl
      refine qb1 (i := 6) (N := some 18) (v := ?_) (a' := ?_) #[true, true, true, true, true, false, true, false, false, false, false, false, false, false, false] rfl rfl (qbu HT_.out (by kernel_rfl)) (fun _ _ _ h => h) (Or.inl ⟨by rfl, ?_⟩) ?_ ?_
      rotate_left
      ·intro w'
       go_simp
       with_reducible rfl
      rotate_left
      ·simp only [Act.put, List.setIfInBounds_toArray, List.set_cons_zero, List.set_cons_succ, qbe, qbo]
       rfl
      refine qb1 (i := 7) (N := some 19) (v := ?_) (a' := ?_) #[true, true, true, true, true, false, true, true, false, false, false, false, false, false, false] rfl rfl (qbu HT_.out (by kernel_rfl)) (fun _ _ _ h => h) (Or.inl ⟨by rfl, ?_⟩) ?_ ?_
      rotate_left
      ·intro w'
       go_simp
       with_reducible rfl
      rotate_left
      ·simp only [Act.put, List.setIfInBounds_toArray, List.set_cons_zero, List.set_cons_succ, qbe, qbo]
       rfl
      refine qb1 (i := 8) (N := some 20) (v := ?_) (a' := ?_) #[true, true, true, true, true, false, true, true, true, false, false, false, false, false, false] rfl rfl (qbu HT_.out (by kernel_rfl)) (fun _ _ _ h => h) (Or.inl ⟨by rfl, ?_⟩) ?_ ?_
      rotate_left
      ·intro w'
       go_simp
       with_reducible rfl
      rotate_left
      ·simp only [Act.put, List.setIfInBounds_toArray, List.set_cons_zero, List.set_cons_succ, qbe, qbo]
       rfl
      refine qb1 (i := 9) (N := some 21) (v := ?_) (a' := ?_) #[true, true, true, true, true, false, true, true, true, true, false, false, false, false, false] rfl rfl (qbu HT_.out (by kernel_rfl)) (fun _ _ _ h => h) (Or.inl ⟨by rfl, ?_⟩) ?_ ?_
      rotate_left
      ·intro w'
       go_simp
       with_reducible rfl
      rotate_left
      ·simp only [Act.put, List.setIfInBounds_toArray, List.set_cons_zero, List.set_cons_succ, qbe, qbo]
       rfl
      refine qdK (i := 5) (N := some 17) (v := ?_) (a' := ?_) #[true, true, true, true, true, true, true, true, true, true, false, false, false, false, false] rfl rfl (qco HT_.out HW_.out (by kernel_rfl)) (fun _ _ _ h => h) (Or.inl ⟨by rfl, ?_⟩) hHeld ?_ ?_
      rotate_left
      ·rintro w' ⟨s0, s1, s2, s3⟩
       go_simp
       with_reducible rfl
      rotate_left
      ·simp only [Act.put, List.setIfInBounds_toArray, List.set_cons_zero, List.set_cons_succ, qbe, qbo]
       rfl
      refine qdK (i := 10) (N := some 22) (v := ?_) (a' := ?_) #[true, true, true, true, true, true, true, true, true, true, true, false, false, false, false] rfl rfl (qco HT_.out HW_.out (by kernel_rfl)) (fun _ _ _ h => h) (Or.inl ⟨by rfl, ?_⟩) hHeld ?_ ?_
      rotate_left
      ·rintro w' ⟨s0, s1, s2, s3⟩
       go_simp
       with_reducible rfl
      rotate_left
      ·simp only [Act.put, List.setIfInBounds_toArray, List.set_cons_zero, List.set_cons_succ, qbe, qbo]
       rfl
      refine one_ (i := 11) (N := some 23) #[true, true, true, true, true, true, true, true, true, true, true, true, false, false, false] rfl rfl (qdc HT_.out (by kernel_rfl)) (by decide) (fun K hK => ?_)
      refine Kd.qci Kd.string _ 9 ?hg (N := 23) ?hd (xs := ([(qaK l0 x4_1).f0, (qaK l0 x4_1).f1] : List ByteArray)) (inner := [.string ((qaK l0 x4_1).f0), .string ((qaK l0 x4_1).f1)]) (ok := fun _ => True) (okp := fun _ => True) ?hr ?hp (fun _ hk => hk) trivial (Below.refl _ _) (Nat.le_refl _) (by simp) ?_; (case hd => rfl); (case hg => rfl); (case hr => first | (go_simp; done) | (go_simp; rfl)); (case hp => exact (Reps.one (show Kd.M Kd.string _ _ _ ((qaK l0 x4_1).f0) [.string ((qaK l0 x4_1).f0)] from rfl) (Reps.one (show Kd.M Kd.string _ _ _ ((qaK l0 x4_1).f1) [.string ((qaK l0 x4_1).f1)] from rfl) (Reps.none _ _))))
      intro v197 w9 ho10 hb hg_ hnew_
      clear hg_ hnew_
      (first | rw [← Ny196.out] at ho10 | (simp only [Int.reduceToNat] at ho10; rw [← Ny196.out] at ho10))
      have n0_ := Aside0.mk (Kd.qaX (by (with_reducible repeat (first | apply Kd.qar | apply Kd.qas | apply Kd.qaD)); exact HO_3.out) hb)
      have n1_ := Aside0.mk (Kd.qbh ho10 (qak (by repeat (first | (with_reducible first | exact HB.out | apply qac | apply qaa | apply qab) | exact HB.out))))
      have n2_ := Aside0.mk (qag (by repeat (first | (with_reducible first | exact HB.out | apply qac | apply qaa | apply qab) | exact HB.out)) hb)
      clear HO_3 HB
      have HO_3 := n0_
      have HO198 := n1_
      have HB := n2_
      clear n0_ n1_ n2_ hb ho10
      obtain ⟨Ao11, co11, eo11⟩ := Kd.qbN HO198.out
      (first | subst eo11 | (injection eo11 with f1_ f2_ f3_; have f4_ := f1_.symm; have f5_ := f3_.symm; clear f1_ f2_ f3_; subst f4_; subst f5_))
      refine hK.out _ _ ⟨((HB.out.cell (World.block_lt_of_cell? w _ hw194_0)).trans hw194_0), ((HB.out.cell (World.block_lt_of_cell? w _ hw194_1)).trans hw194_1), ((HB.out.cell (World.block_lt_of_cell? w _ hw195_0)).trans hw195_0), ((HB.out.cell (World.block_lt_of_cell? w _ hw195_1)).trans hw195_1)⟩ (fun hHeld => ?_)
      clear hK K
      refine qb5 (a' := ?_) ?_ ?_
      rotate_left
      ·show Act.put _ (some 23) _ = _
       simp only [Act.put, List.setIfInBounds_toArray, List.set_cons_zero, List.set_cons_succ, qbe, qbo]
       rfl
      refine one_ (i := 12) (N := some 24) #[true, true, true, true, true, true, true, true, true, true, true, true, true, false, false] rfl rfl (qdc HT_.out (by kernel_rfl)) (by decide) (fun K hK => ?_)
      refine qdg Try.func32 (by kernel_rfl) rfl #[.slice Ao11 y196.length co11] (by rfl) rfl rfl (by (try simp only [List.map_toArray, List.map_cons, List.map_nil]); first | done | rfl | (simp only [List.length_drop, List.length_take]; rfl)) ?_
      with_reducible refine (qbd.calls _ _ y196 t199 _ ?side1 ?side2 A6.out).mono ?_
      (case side1 => repeat (first | exact (Kd.qaO HO198.out).2.2 | (with_reducible refine Kd.qa9 ?_ _) | (with_reducible refine Kd.qba ?_ _) | (with_reducible refine Kd.qbl ?_)))
      (case side2 => exact (Kd.qaO HO198.out).2.1)
      rintro e w12 ⟨v200, rfl, ho0, hb⟩
      refine ⟨_, rfl, ?_⟩
      have n0_ := Aside0.mk (Kd.qch (by (with_reducible repeat (first | apply Kd.qar | apply Kd.qas | apply Kd.qaD)); exact HO_3.out) (Kd.qcT ho0) hb)
      have n1_ := Aside0.mk (Kd.qaX (by (with_reducible repeat (first | apply Kd.qar | apply Kd.qas | apply Kd.qaD)); exact HO198.out) hb)
      have n2_ := Aside0.mk (Kd.qbh (Kd.qdb ho0 (Kd.R_lt (by (with_reducible repeat (first | apply Kd.qar | apply Kd.qas | apply Kd.qaD)); exact HO_3.out))) (qak (by repeat (first | (with_reducible first | exact HB.out | apply qac | apply qaa | apply qab) | exact HB.out))))
      have n3_ := Aside0.mk (qag (by repeat (first | (with_reducible first | exact HB.out | apply qac | apply qaa | apply qab) | exact HB.out)) hb)
      clear HO_3 HO198 HB
      have HO_3 := n0_
      have HO198 := n1_
      have HO201 := n2_
      have HB := n3_
      clear n0_ n1_ n2_ n3_
      (try clear hb)
      (try clear hb2)
      (try clear hk)
      (try clear hi)
      (try clear ho0)
      obtain ⟨Ao14, co14, eo14⟩ := Kd.qbN HO201.out
      (first | subst eo14 | (injection eo14 with f1_ f2_ f3_; have f4_ := f1_.symm; have f5_ := f3_.symm; clear f1_ f2_ f3_; subst f4_; subst f5_))
      refine hK.out _ _ ⟨((HB.out.cell (World.block_lt_of_cell? w _ hw194_0)).trans hw194_0), ((HB.out.cell (World.block_lt_of_cell? w _ hw194_1)).trans hw194_1), ((HB.out.cell (World.block_lt_of_cell? w _ hw195_0)).trans hw195_0), ((HB.out.cell (World.block_lt_of_cell? w _ hw195_1)).trans hw195_1)⟩ (fun hHeld => ?_)
      clear hK K
      refine qb5 (a' := ?_) ?_ ?_
      rotate_left
      ·show Act.put _ (some 24) _ = _
       simp only [Act.put, List.setIfInBounds_toArray, List.set_cons_zero, List.set_cons_succ, qbe, qbo]
       rfl
      refine one_ (i := 13) (N := some 25) #[true, true, true, true, true, true, true, true, true, true, true, true, true, true, false] rfl rfl (qdc HT_.out (by kernel_rfl)) (by decide) (fun K hK => ?_)
      refine Kd.qcB (Kd.int .u8) (w0 := w) w.heap.size (by rfl) (.tmp 12) (.tmp 24) 59 5 (.int .u8 0) 1 rfl Try.underlying59 info5 rfl (by decide) (by omega) u3 x3_1 t199 _ _ _ (fun k_ => some k_ ≠ (.slice Ao14 t199.length co14 : Value).ownBlock) (fun _ => False) rfl rfl ?aO ?aR (fun _ _ h => h) (fun _ h => h.elim) ?aF ?aB ?aS ?aL ?_
      (case aR => repeat (first | exact (Kd.qaO HO201.out).2.2 | (with_reducible refine Kd.qa9 ?_ _) | (with_reducible refine Kd.qba ?_ _) | (with_reducible refine Kd.qbl ?_)))
      (case aB => exact (by repeat (first | (with_reducible first | exact HB.out | apply qac | apply qaa | apply qab) | exact HB.out)))
      (case aF => exact (fun k_ hk => Kd.fresh' (Kd.R_lt (by (with_reducible repeat (first | apply Kd.qar | apply Kd.qas | apply Kd.qaD)); exact HO201.out)) k_ hk))
      (case aO => exact (by (with_reducible repeat (first | apply Kd.qar | apply Kd.qas | apply Kd.qaD)); exact Kd.qbr HO_3.out (fun _ hk => hk.2)))
      (case aS => exact (qak (by repeat (first | (with_reducible first | exact HB.out | apply qac | apply qaa | apply qab) | exact HB.out))))
      (case aL => have := LMc7.out; omega)
      intro v203 w13 ho hb hg hat
      rw [← Ny202.out] at ho
      have n0_ := Aside0.mk (Kd.qgR (by (with_reducible repeat (first | apply Kd.qar | apply Kd.qas | apply Kd.qaD)); exact HO198.out) (Kd.qfT (by (with_reducible repeat (first | apply Kd.qar | apply Kd.qas | apply Kd.qaD)); exact HO_3.out)) (by decide) hg)
      have n1_ := Aside0.mk (Kd.qeU (ok := (fun _ => True)) (by (with_reducible repeat (first | apply Kd.qar | apply Kd.qas | apply Kd.qaD)); exact HO201.out) hg hat)
      have n2_ := Aside0.mk (hb)
      have n3_ := Aside0.mk (ho)
      clear HO198 HO201 HB HO_3
      have HO198 := n0_
      have HO201 := n1_
      have HB := n2_
      have HO204 := n3_
      clear n0_ n1_ n2_ n3_ ho hb hg hat
      refine hK.out _ _ ⟨((HB.out.cell (World.block_lt_of_cell? w _ hw194_0)).trans hw194_0), ((HB.out.cell (World.block_lt_of_cell? w _ hw194_1)).trans hw194_1), ((HB.out.cell (World.block_lt_of_cell? w _ hw195_0)).trans hw195_0), ((HB.out.cell (World.block_lt_of_cell? w _ hw195_1)).trans hw195_1)⟩ (fun hHeld => ?_)
      clear hK K
      refine qb5 (a' := ?_) ?_ ?_
      rotate_left
      ·show Act.put _ (some 25) _ = _
       simp only [Act.put, List.setIfInBounds_toArray, List.set_cons_zero, List.set_cons_succ, qbe, qbo]
       rfl
      refine qb1 (i := 14) (N := some 3) (v := ?_) (a' := ?_) #[true, true, true, true, true, true, true, true, true, true, true, true, true, true, true] rfl rfl (qbu HT_.out (by kernel_rfl)) (fun _ _ _ h => h) (Or.inl ⟨by rfl, ?_⟩) ?_ ?_
      rotate_left
      ·intro w'
       go_simp
       with_reducible rfl
      rotate_left
      ·simp only [Act.put, List.setIfInBounds_toArray, List.set_cons_zero, List.set_cons_succ, qbe, qbo]
       rfl
      refine qgS (qeb HT_.out (by kernel_rfl)) ?_
      try go_wp2
      go_roundg k1
      case measure => have := HK1.out; omega
      case rel => exact ⟨(y202), (wrap64 (x4_1 + 1)), (by first | rfl | (simp; done) | (simp [*]; done)), H', ⟨by have := HK1.out; omega⟩, ⟨by (with_reducible repeat (first | apply Kd.qar | apply Kd.qas | apply Kd.qaD)); exact Kd.qbr HO204.out (fun _ hk => trivial)⟩, ⟨by repeat (first | (with_reducible first | exact HB.out | apply qac | apply qaa | apply qab) | exact HB.out)⟩⟩
     ·rw [if_neg c7] at H
      exact absurd H (by simp)
    ·rw [if_neg c5] at H
     exact absurd H (by simp)
   ·rw [if_neg c4] at H
    have c4b0 : decide (x4_1 < (l0.length : Int)) = false := decide_eq_false c4
    clear c4
    replace H := Option.bind_eq_some_iff.mp H
    obtain ⟨t205, A150, H⟩ := H
    try dsimp only at H
    have A15 := Aside0.mk A150
    clear A150
    obtain rfl := Option.some.inj H
    obtain ⟨Ao16, co16, eo16⟩ := Kd.qbN HO_3.out
    subst eo16
    go_wp2_with (first | ((with_reducible refine qaE (f := 34) rfl ?_); refine qbn (some 27) rfl rfl Try.func34 (by kernel_rfl) rfl #[.slice Ao16 x3_1.length co16] rfl (by (try simp only [List.map_toArray, List.map_cons, List.map_nil]); first | done | rfl | (simp only [List.length_drop, List.length_take]; rfl)) ?_; (with_reducible refine (qbX.calls _ _ x3_1 t205 _ ?side1 ?side2 A15.out).mono ?_); (case side1 => repeat (first | exact (Kd.qaO HO_3.out).2.2 | (with_reducible refine Kd.qa9 ?_ _) | (with_reducible refine Kd.qba ?_ _) | (with_reducible refine Kd.qbl ?_))); (case side2 => exact (Kd.qaO HO_3.out).2.1); rintro e w17 ⟨rfl, hb⟩; refine ⟨_, rfl, ?_⟩; have n0_ := Aside0.mk (Kd.qaX (by (with_reducible repeat (first | apply Kd.qar | apply Kd.qas | apply Kd.qaD)); exact HO_3.out) hb); have n1_ := Aside0.mk (qag (by repeat (first | (with_reducible first | exact HB.out | apply qac | apply qaa | apply qab) | exact HB.out)) hb); clear HO_3 HB; have HO_3 := n0_; have HB := n1_; clear n0_ n1_; (try clear hb); (try clear hb2); (try clear hk); (try clear hi)))
    go_ret
    exact ⟨by first | rfl | (simp [qam, qan] <;> rfl) | (simp [*, qam, qan] <;> rfl), by repeat (first | (with_reducible first | exact HB.out | apply qac | apply qaa | apply qab) | exact HB.out)⟩
theorem qhd {l : List S48} (hl : l.length ≤ 1000) (h : ∀ p ∈ l, okP p = true) : qc7 l := by
 refine ⟨hl, fun p hp => ?_⟩
 have h1 := h p hp
 unfold okP keyB at h1
 simp only [Bool.and_eq_true, decide_eq_true_eq] at h1
 omega
def sumP (l : List S48) : Int := qcQ (bytesOf (qca ByteArray.empty l))
theorem impl_sum {l : List S48} (h : qc7 l) : qb2.f l = some (sumP l) := by
 unfold qb2.f
 rw [if_pos h]
 rfl
theorem qf9 (l : List S48) (rest : List S48) : ∀ pre : List S48, l = pre ++ rest → qc7 l →
  Ev (fun k => qbb.l0 k l (bytesOf (qca ByteArray.empty pre)) ((pre.length : Nat) : Int)) (sumP l) := by
 induction rest with
 | nil =>
  intro pre h hf
  refine Ev.succ ?_
  simp only [qbb.l0]
  rw [List.append_nil] at h
  subst h
  refine Ev.neg (by omega) (Ev.bindk ?_ (Ev.is rfl))
  unfold qbX.f
  rw [if_pos (show ∀ c, c ∈ bytesOf (qca ByteArray.empty l) → 0 ≤ c ∧ c < 256 from qdS _)]
  rfl
 | cons x r ih =>
  intro pre h hf
  have hx := rd_at l pre r x h
  have hlen : pre.length < l.length := by rw [h]; simp
  have hl := hf.1
  have hi := ih (pre ++ [x]) (by rw [h]; simp) hf
  rw [← qcp, qd7, qbG] at hi
  have hxm := hf.2 x (by rw [h]; simp)
  have hb := qdp x.f0 x.f1 hxm.1 hxm.2
  have hs := qd8 pre ByteArray.empty fun t ht => hf.2 t (by rw [h]; exact List.mem_append_left _ ht)
  have h0 : ByteArray.empty.size = 0 := rfl
  refine Ev.succ ?_
  simp only [qbb.l0, hx, qcu (n := pre.length) (by omega)]
  refine Ev.pos (by omega) (Ev.pos (by omega) (Ev.bindk (a := bytesOf (qbV [x.f0, x.f1])) ?_ (Ev.pos (by rw [bytesOf_length, bytesOf_length]; omega) hi)))
  unfold qbd.f
  rw [if_pos ⟨by show 2 ≤ _; omega, fun y hy => by
   rcases List.mem_cons.1 hy with rfl | hy
   ·omega
   ·rcases List.mem_cons.1 hy with rfl | hy
    ·omega
    ·cases hy⟩]
theorem spec_sum {l : List S48} (h : qc7 l) : Ev (fun k => qbb.f k l) (sumP l) := by
 unfold qbb.f
 exact qf9 l l [] rfl h
structure Later (w : World) where
 val : World
 below : Below w.heap.size w val
instance Later.here (w : World) : Inhabited (Later w) := ⟨⟨w, Below.refl _ _⟩⟩
theorem Later.cell {w : World} (p : Later w) {a : Addr} {v : Value} (h : w.cell? a = some v) : p.val.cell? a = some v := qcb p.below h
theorem qbq {P : Program} {id : Nat} {Q : Exit → Act → World → Prop} {a : Act} {w : World} {l : List Oper} (hm : P.follows .mixedOrders = true) (hB : Region.lexB .any l.toArray = true)
  (h : wpQuiet P l.toArray (fun w' => ∃ p : Later w.drew, w' = p.val) (fun a' => ∀ w', (∃ p : Later w.drew, w' = p.val) → Q .normal a' w') l a) : (Code.region id l.toArray true).wp P Q a w :=
 wp_region_quiet (C := fun w' => ∃ p : Later w.drew, w' = p.val) hm hB ⟨⟨w.drew, Below.refl _ _⟩, rfl⟩ (by simpa using h)
theorem Calls.qbI {P : Program} {f : FuncId} {args : Array Value} {w : World} {p : Later w} {v : Value}
  (h : Calls P f args p.val fun e w' => e = .returned v ∧ Below p.val.heap.size p.val w') : Calls P f args p.val fun e w'' => e = .returned v ∧ ∃ q : Later w, w'' = q.val :=
 h.mono fun _ _ ⟨he, hb⟩ => ⟨he, ⟨_, qag p.below hb⟩, rfl⟩
theorem Calls.qbp {P : Program} {f : FuncId} {args : Array Value} {w : World} {p : Later w} {v : Value}
  (h : Calls P f args p.val fun e w' => e = .returned v ∧ qaF p.val w') : Calls P f args p.val fun e w'' => e = .returned v ∧ ∃ q : Later w, w'' = q.val :=
 Calls.qbI (h.mono fun _ _ ⟨he, hb⟩ => ⟨he, hb.below⟩)
def qbL.f (k : Nat) (l0 : List (S48)) (a1 : ByteArray) (a2 : Int) (a3_0 : ByteArray) (a3_1 : ByteArray) (a3_2 : Int) (l3_3 : List (S56)) (a3_4 : Int) : Option ((List (S48)) × Int) := if a3_0.toList = a1.toList then (if a3_2 = a2 then ((qat.f k l0 l3_3).bind fun bt367 => (if bt367.2 = 0 then ((qb2.f bt367.1).bind fun t371 => (if t371 = a3_4 then (some (bt367.1, bt367.2)) else ((qaV.f l0).bind fun t372 => (some (t372, 8))))) else (some (bt367.1, bt367.2)))) else ((qaV.f l0).bind fun t361 => (some (t361, 14)))) else ((qaV.f l0).bind fun t364 => (some (t364, 13)))
def qbL.T6 : Bool × List (List Nat × List Nat) := (true, [([], []), ([0], [0]), ([1], [1]), ([2], [2]), ([3, 2, 2], [2, 3]), ([2], [2]), ([5, 2], [2, 5]), ([4, 6, 2], [2, 4, 6]), ([2, 7], [2, 7])])
def qbL.B6 : List Nat := [0, 1, 3, 7, 15, 7, 39, 127, 255]
theorem qbL.tab6 : rtab .any (opsOf Try.f40 6) = qbL.T6 := by kernel_rfl
theorem qbL.bits6 : qcs qbL.T6.2 qbL.B6 = true := by kernel_rfl
set_option maxHeartbeats 8000000 in
set_option maxRecDepth 100000 in
theorem qbL.calls (k : Nat) (A0 : Option Addr) (c0 : Nat) (l0 : List (S48)) (a1 : ByteArray) (a2 : Int) (a3_0 : ByteArray) (a3_1 : ByteArray) (a3_2 : Int) (A3_3 : Option Addr) (c3_3 : Nat) (l3_3 : List (S56)) (a3_4 : Int) (r1 : List (S48)) (r2 : Int) (w : World) (hr0 : Kd.C k48 w A0 l0.length l0) (hc0 : l0.length ≤ c0) (hr3_3 : Kd.C k56 w A3_3 l3_3.length l3_3) (hc3_3 : l3_3.length ≤ c3_3) (h : qbL.f k l0 a1 a2 a3_0 a3_1 a3_2 l3_3 a3_4 = some (r1, r2)) :
  Calls Try.prog 40 #[.slice A0 l0.length c0, .string a1, .int .i64 a2, .agg #[.string a3_0, .string a3_1, .int .i64 a3_2, .slice A3_3 l3_3.length c3_3, .int .i64 a3_4]] w fun e w' => ∃ v0_ : Value, e = .returned (.tuple #[v0_, .int .i64 r2]) ∧ Kd.R k48 48 w' w.heap.size (fun _ => True) v0_ r1 ∧ Below w.heap.size w w' := by
 have hu41 := Try.underlying41
 have HR0 := Aside0.mk hr0
 have HC0 := Aside0.mk hc0
 clear hr0 hc0
 have HR3_3 := Aside0.mk hr3_3
 have HC3_3 := Aside0.mk hc3_3
 clear hr3_3 hc3_3
 have HB := Aside0.mk (Below.refl w.heap.size w)
 have H : (if a3_0.toList = a1.toList then (if a3_2 = a2 then ((qat.f k l0 l3_3).bind fun bt367 => (if bt367.2 = 0 then ((qb2.f bt367.1).bind fun t371 => (if t371 = a3_4 then (some (bt367.1, bt367.2)) else ((qaV.f l0).bind fun t372 => (some (t372, 8))))) else (some (bt367.1, bt367.2)))) else ((qaV.f l0).bind fun t361 => (some (t361, 14)))) else ((qaV.f l0).bind fun t364 => (some (t364, 13)))) = some (r1, r2) := h
 clear h
 by_cases c5 : a3_0.toList = a1.toList
 ·rw [if_pos c5] at H
  have c5b0 : (a3_0.toList == a1.toList) = true := beq_iff_eq.mpr c5
  have c5b1 : (a3_0.toList != a1.toList) = false := bne_eq_false_iff_eq.mpr c5
  clear c5
  by_cases c6 : a3_2 = a2
  ·rw [if_pos c6] at H
   have c6b0 : (a3_2 == a2) = true := beq_iff_eq.mpr c6
   have c6b1 : (a3_2 != a2) = false := bne_eq_false_iff_eq.mpr c6
   clear c6
   replace H := Option.bind_eq_some_iff.mp H
   obtain ⟨⟨t367, t368⟩, A70, H⟩ := H
   try dsimp only at H
   have A7 := Aside0.mk A70
   clear A70
   by_cases c8 : t368 = 0
   ·rw [if_pos c8] at H
    have c8b0 : (t368 == 0) = true := beq_iff_eq.mpr c8
    have c8b1 : (t368 != 0) = false := bne_eq_false_iff_eq.mpr c8
    clear c8
    replace H := Option.bind_eq_some_iff.mp H
    obtain ⟨t371, A90, H⟩ := H
    try dsimp only at H
    have A9 := Aside0.mk A90
    clear A90
    by_cases c10 : t371 = a3_4
    ·rw [if_pos c10] at H
     have c10b0 : (t371 == a3_4) = true := beq_iff_eq.mpr c10
     have c10b1 : (t371 != a3_4) = false := bne_eq_false_iff_eq.mpr c10
     clear c10
     simp only [Option.some.injEq, Prod.mk.injEq] at H
     obtain ⟨rfl, rfl⟩ := H
     go_enter Try.func40, Try.ntmps40
     try go_wp2_with (first | ((with_reducible refine qaM (N := 7) rfl ?_); refine qaN ?hg (N := 7) ?hd (cs := #[.string a3_0, .string a3_1, .int .i64 a3_2, .slice A3_3 l3_3.length c3_3, .int .i64 a3_4]) (t := 41) ?hr ?_; (case hd => rfl); (case hg => rfl); (case hr => first | (go_simp; done) | (go_simp; rfl)); intro gb360 hg w11 hbox hb; have n0_ := Aside0.mk (qag (by repeat (first | (with_reducible first | exact HB.out | apply qac | apply qaa | apply qab) | exact HB.out)) hb); have n1_ := Aside0.mk (hbox); have n2_ := Aside0.mk ((by rw [hg]; exact (qak (by repeat (first | (with_reducible first | exact HB.out | apply qac | apply qaa | apply qab) | exact HB.out))) : w.heap.size ≤ gb360)); have n3_ := Aside0.mk ((by rw [hg]; exact (qak (by repeat (first | (with_reducible first | exact HB.out | apply qac | apply qaa | apply qab) | exact HB.out))) : w.heap.size ≤ gb360)); clear HB; have HB := n0_; have BK360 := n1_; have GW360 := n2_; have GE360 := n3_; clear n0_ n1_ n2_ n3_ hb hbox hg; have hcz12_0 : w11.cell? ⟨gb360, 0, none⟩ = some (.string a3_0) := (qad BK360.out 0).trans rfl; have hcz12_1 : w11.cell? ⟨gb360, 1, none⟩ = some (.string a3_1) := (qad BK360.out 1).trans rfl; have hcz12_2 : w11.cell? ⟨gb360, 2, none⟩ = some (.int .i64 a3_2) := (qad BK360.out 2).trans rfl; have hcz12_3 : w11.cell? ⟨gb360, 3, none⟩ = some (.slice A3_3 l3_3.length c3_3) := (qad BK360.out 3).trans rfl; have hcz12_4 : w11.cell? ⟨gb360, 4, none⟩ = some (.int .i64 a3_4) := (qad BK360.out 4).trans rfl; have hfz12_0 := qae BK360.out 0; have hfz12_1 := qae BK360.out 1; have hfz12_2 := qae BK360.out 2; have hfz12_3 := qae BK360.out 3; have hfz12_4 := qae BK360.out 4) | ((with_reducible refine qaE (f := 55) rfl ?_); refine qbn (some 30) rfl rfl Try.func55 (by kernel_rfl) rfl #[.slice A0 l0.length c0, .slice A3_3 l3_3.length c3_3] rfl (by (try simp only [List.map_toArray, List.map_cons, List.map_nil]); first | done | rfl | (simp only [List.length_drop, List.length_take]; rfl)) ?_; (with_reducible refine (qat.calls k _ _ l0 _ _ l3_3 t367 t368 _ ?side1 ?side2 ?side3 ?side4 A7.out).mono ?_); (case side1 => repeat (first | exact (Kd.qa8 HR0.out HB.out) | (with_reducible refine Kd.qa9 ?_ _) | (with_reducible refine Kd.qba ?_ _) | (with_reducible refine Kd.qbl ?_))); (case side2 => exact HC0.out); (case side3 => repeat (first | exact (Kd.qa8 HR3_3.out HB.out) | (with_reducible refine Kd.qa9 ?_ _) | (with_reducible refine Kd.qba ?_ _) | (with_reducible refine Kd.qbl ?_))); (case side4 => exact HC3_3.out); rintro e w13 ⟨v369, rfl, ho0, hb⟩; refine ⟨_, rfl, ?_⟩; have n0_ := Aside0.mk (Kd.qbh ho0 (qak (by repeat (first | (with_reducible first | exact HB.out | apply qac | apply qaa | apply qab | refine qah ?_ GE360.out) | exact HB.out)))); have n1_ := Aside0.mk (qao (g := gb360) (o := .cells #[.string a3_0, .string a3_1, .int .i64 a3_2, .slice A3_3 l3_3.length c3_3, .int .i64 a3_4] 41 (0, 0)) (by (with_reducible repeat (first | refine qaj ?_ _ | refine qal ?_ | refine qai ?_ _)); exact BK360.out) hb); have n2_ := Aside0.mk (qag (by repeat (first | (with_reducible first | exact HB.out | apply qac | apply qaa | apply qab | refine qah ?_ GE360.out) | exact HB.out)) hb); clear BK360 HB; have HO370 := n0_; have BK360 := n1_; have HB := n2_; clear n0_ n1_ n2_; (try clear hb); (try clear hb2); (try clear hk); (try clear hi); (try clear ho0)))
     have n0_ := Aside0.mk (Kd.qaD HO370.out)
     have n1_ := Aside0.mk (qal BK360.out)
     have n2_ := Aside0.mk (qab HB.out)
     clear HO370 BK360 HB
     have HO370 := n0_
     have BK360 := n1_
     have HB := n2_
     clear n0_ n1_ n2_
     obtain ⟨Ao15, co15, eo15⟩ := Kd.qbN HO370.out
     (first | subst eo15 | (injection eo15 with f1_ f2_ f3_; have f4_ := f1_.symm; have f5_ := f3_.symm; clear f1_ f2_ f3_; subst f4_; subst f5_))
     refine qen (n := 9) (S := fun w' => w'.cell? ⟨gb360, 0, none⟩ = some (.string a3_0) ∧ w'.cell? ⟨gb360, 1, none⟩ = some (.string a3_1) ∧ w'.cell? ⟨gb360, 2, none⟩ = some (.int .i64 a3_2) ∧ w'.cell? ⟨gb360, 3, none⟩ = some (.slice A3_3 l3_3.length c3_3) ∧ w'.cell? ⟨gb360, 4, none⟩ = some (.int .i64 a3_4)) (ds := []) #[false, false, false, false, false, false, false, false, false] (by kernel_rfl) rfl rfl ⟨(qad BK360.out 0).trans rfl, (qad BK360.out 1).trans rfl, (qad BK360.out 2).trans rfl, (qad BK360.out 3).trans rfl, (qad BK360.out 4).trans rfl⟩ (fun hHeld => ?_); refine qcV qbL.tab6 qbL.bits6 (fun HT_ HW_ => ?_)
     generalize w13.drew = w14 at HO370 BK360 HB hHeld ⊢
     refine qb1 (i := 0) (N := some 33) (v := ?_) (a' := ?_) #[true, false, false, false, false, false, false, false, false] rfl rfl (qbu HT_.out (by kernel_rfl)) (fun _ _ _ h => h) (Or.inl ⟨by rfl, ?_⟩) ?_ ?_
     rotate_left
     ·intro w'
      go_simp
      with_reducible rfl
     rotate_left
     ·simp only [Act.put, List.setIfInBounds_toArray, List.set_cons_zero, List.set_cons_succ, qbe, qbo]
      rfl
     refine qb1 (i := 1) (N := some 34) (v := ?_) (a' := ?_) #[true, true, false, false, false, false, false, false, false] rfl rfl (qbu HT_.out (by kernel_rfl)) (fun _ _ _ h => h) (Or.inl ⟨by rfl, ?_⟩) ?_ ?_
     rotate_left
     ·intro w'
      go_simp
      with_reducible rfl
     rotate_left
     ·simp only [Act.put, List.setIfInBounds_toArray, List.set_cons_zero, List.set_cons_succ, qbe, qbo]
      rfl
     refine qb1 (i := 2) (N := some 35) (v := ?_) (a' := ?_) #[true, true, true, false, false, false, false, false, false] rfl rfl (qbu HT_.out (by kernel_rfl)) (fun _ _ _ h => h) (Or.inl ⟨by rfl, ?_⟩) ?_ ?_
     rotate_left
     ·intro w'
      go_simp
      with_reducible rfl
     rotate_left
     ·simp only [Act.put, List.setIfInBounds_toArray, List.set_cons_zero, List.set_cons_succ, qbe, qbo]
      rfl
     refine qb1 (i := 3) (N := some 36) (v := ?_) (a' := ?_) #[true, true, true, true, false, false, false, false, false] rfl rfl (qbu HT_.out (by kernel_rfl)) (fun _ _ _ h => h) (Or.inl ⟨by rfl, ?_⟩) ?_ ?_
     rotate_left
     ·intro w'
      go_simp
      with_reducible rfl
     rotate_left
     ·simp only [Act.put, List.setIfInBounds_toArray, List.set_cons_zero, List.set_cons_succ, qbe, qbo]
      rfl
     refine qb1 (i := 5) (N := some 38) (v := ?_) (a' := ?_) #[true, true, true, true, false, true, false, false, false] rfl rfl (qbu HT_.out (by kernel_rfl)) (fun _ _ _ h => h) (Or.inl ⟨by rfl, ?_⟩) ?_ ?_
     rotate_left
     ·intro w'
      go_simp
      with_reducible rfl
     rotate_left
     ·simp only [Act.put, List.setIfInBounds_toArray, List.set_cons_zero, List.set_cons_succ, qbe, qbo]
      rfl
     refine qdK (i := 6) (N := some 39) (v := ?_) (a' := ?_) #[true, true, true, true, false, true, true, false, false] rfl rfl (qco HT_.out HW_.out (by kernel_rfl)) (fun _ _ _ h => h) (Or.inl ⟨by rfl, ?_⟩) hHeld ?_ ?_
     rotate_left
     ·rintro w' ⟨s0, s1, s2, s3, s4⟩
      go_simp
      with_reducible rfl
     rotate_left
     ·simp only [Act.put, List.setIfInBounds_toArray, List.set_cons_zero, List.set_cons_succ, qbe, qbo]
      rfl
     refine one_ (i := 4) (N := some 37) #[true, true, true, true, true, true, true, false, false] rfl rfl (qdc HT_.out (by kernel_rfl)) (by decide) (fun K hK => ?_)
     refine qdg Try.func56 (by kernel_rfl) rfl #[.slice Ao15 t367.length co15] (by rfl) rfl rfl (by (try simp only [List.map_toArray, List.map_cons, List.map_nil]); first | done | rfl | (simp only [List.length_drop, List.length_take]; rfl)) ?_
     with_reducible refine (qb2.calls _ _ t367 t371 _ ?side1 ?side2 A9.out).mono ?_
     (case side1 => repeat (first | exact (Kd.qaO HO370.out).2.2 | (with_reducible refine Kd.qa9 ?_ _) | (with_reducible refine Kd.qba ?_ _) | (with_reducible refine Kd.qbl ?_)))
     (case side2 => exact (Kd.qaO HO370.out).2.1)
     rintro e w16 ⟨rfl, hb⟩
     refine ⟨_, rfl, ?_⟩
     have n0_ := Aside0.mk (Kd.qaX (by (with_reducible repeat (first | apply Kd.qar | apply Kd.qas | apply Kd.qaD)); exact HO370.out) hb)
     have n1_ := Aside0.mk (qao (g := gb360) (o := .cells #[.string a3_0, .string a3_1, .int .i64 a3_2, .slice A3_3 l3_3.length c3_3, .int .i64 a3_4] 41 (0, 0)) (by (with_reducible repeat (first | refine qaj ?_ _ | refine qal ?_ | refine qai ?_ _)); exact BK360.out) hb)
     have n2_ := Aside0.mk (qag (by repeat (first | (with_reducible first | exact HB.out | apply qac | apply qaa | apply qab | refine qah ?_ GE360.out) | exact HB.out)) hb)
     clear HO370 BK360 HB
     have HO370 := n0_
     have BK360 := n1_
     have HB := n2_
     clear n0_ n1_ n2_
     (try clear hb)
     (try clear hb2)
     (try clear hk)
     (try clear hi)
     refine hK.out _ _ ⟨(qad BK360.out 0).trans rfl, (qad BK360.out 1).trans rfl, (qad BK360.out 2).trans rfl, (qad BK360.out 3).trans rfl, (qad BK360.out 4).trans rfl⟩ (fun hHeld => ?_)
     clear hK K
     refine qb5 (a' := ?_) ?_ ?_
     rotate_left
     ·show Act.put _ (some 37) _ = _
      simp only [Act.put, List.setIfInBounds_toArray, List.set_cons_zero, List.set_cons_succ, qbe, qbo]
      rfl
     refine qb1 (i := 7) (N := some 40) (v := ?_) (a' := ?_) #[true, true, true, true, true, true, true, true, false] rfl rfl (qbu HT_.out (by kernel_rfl)) (fun _ _ _ h => h) (Or.inl ⟨by rfl, ?_⟩) ?_ ?_
     rotate_left
     ·intro w'
      go_simp
      with_reducible rfl
     rotate_left
     ·simp only [Act.put, List.setIfInBounds_toArray, List.set_cons_zero, List.set_cons_succ, qbe, qbo]
      rfl
     refine qb1 (i := 8) (N := some 41) (v := ?_) (a' := ?_) #[true, true, true, true, true, true, true, true, true] rfl rfl (qbu HT_.out (by kernel_rfl)) (fun _ _ _ h => h) (Or.inl ⟨by rfl, ?_⟩) ?_ ?_
     rotate_left
     ·intro w'
      go_simp
      with_reducible rfl
     rotate_left
     ·simp only [Act.put, List.setIfInBounds_toArray, List.set_cons_zero, List.set_cons_succ, qbe, qbo]
      rfl
     refine qgS (qeb HT_.out (by kernel_rfl)) ?_
     try go_wp2
     go_ret2
     exact ⟨_, by first | rfl | (simp [qam, qan] <;> rfl) | (simp [*, qam, qan] <;> rfl), by (with_reducible repeat (first | apply Kd.qar | apply Kd.qas | apply Kd.qaD)); exact HO370.out, by repeat (first | (with_reducible first | exact HB.out | apply qac | apply qaa | apply qab | refine qah ?_ GE360.out) | exact HB.out)⟩
    ·rw [if_neg c10] at H
     have c10b0 : (t371 == a3_4) = false := beq_eq_false_iff_ne.mpr c10
     have c10b1 : (t371 != a3_4) = true := bne_iff_ne.mpr c10
     replace H := Option.bind_eq_some_iff.mp H
     obtain ⟨t372, A170, H⟩ := H
     try dsimp only at H
     have A17 := Aside0.mk A170
     clear A170
     simp only [Option.some.injEq, Prod.mk.injEq] at H
     obtain ⟨rfl, rfl⟩ := H
     go_enter Try.func40, Try.ntmps40
     try go_wp2_with (first | ((with_reducible refine qaM (N := 7) rfl ?_); refine qaN ?hg (N := 7) ?hd (cs := #[.string a3_0, .string a3_1, .int .i64 a3_2, .slice A3_3 l3_3.length c3_3, .int .i64 a3_4]) (t := 41) ?hr ?_; (case hd => rfl); (case hg => rfl); (case hr => first | (go_simp; done) | (go_simp; rfl)); intro gb360 hg w18 hbox hb; have n0_ := Aside0.mk (qag (by repeat (first | (with_reducible first | exact HB.out | apply qac | apply qaa | apply qab) | exact HB.out)) hb); have n1_ := Aside0.mk (hbox); have n2_ := Aside0.mk ((by rw [hg]; exact (qak (by repeat (first | (with_reducible first | exact HB.out | apply qac | apply qaa | apply qab) | exact HB.out))) : w.heap.size ≤ gb360)); have n3_ := Aside0.mk ((by rw [hg]; exact (qak (by repeat (first | (with_reducible first | exact HB.out | apply qac | apply qaa | apply qab) | exact HB.out))) : w.heap.size ≤ gb360)); clear HB; have HB := n0_; have BK360 := n1_; have GW360 := n2_; have GE360 := n3_; clear n0_ n1_ n2_ n3_ hb hbox hg; have hcz19_0 : w18.cell? ⟨gb360, 0, none⟩ = some (.string a3_0) := (qad BK360.out 0).trans rfl; have hcz19_1 : w18.cell? ⟨gb360, 1, none⟩ = some (.string a3_1) := (qad BK360.out 1).trans rfl; have hcz19_2 : w18.cell? ⟨gb360, 2, none⟩ = some (.int .i64 a3_2) := (qad BK360.out 2).trans rfl; have hcz19_3 : w18.cell? ⟨gb360, 3, none⟩ = some (.slice A3_3 l3_3.length c3_3) := (qad BK360.out 3).trans rfl; have hcz19_4 : w18.cell? ⟨gb360, 4, none⟩ = some (.int .i64 a3_4) := (qad BK360.out 4).trans rfl; have hfz19_0 := qae BK360.out 0; have hfz19_1 := qae BK360.out 1; have hfz19_2 := qae BK360.out 2; have hfz19_3 := qae BK360.out 3; have hfz19_4 := qae BK360.out 4) | ((with_reducible refine qaE (f := 55) rfl ?_); refine qbn (some 30) rfl rfl Try.func55 (by kernel_rfl) rfl #[.slice A0 l0.length c0, .slice A3_3 l3_3.length c3_3] rfl (by (try simp only [List.map_toArray, List.map_cons, List.map_nil]); first | done | rfl | (simp only [List.length_drop, List.length_take]; rfl)) ?_; (with_reducible refine (qat.calls k _ _ l0 _ _ l3_3 t367 t368 _ ?side1 ?side2 ?side3 ?side4 A7.out).mono ?_); (case side1 => repeat (first | exact (Kd.qa8 HR0.out HB.out) | (with_reducible refine Kd.qa9 ?_ _) | (with_reducible refine Kd.qba ?_ _) | (with_reducible refine Kd.qbl ?_))); (case side2 => exact HC0.out); (case side3 => repeat (first | exact (Kd.qa8 HR3_3.out HB.out) | (with_reducible refine Kd.qa9 ?_ _) | (with_reducible refine Kd.qba ?_ _) | (with_reducible refine Kd.qbl ?_))); (case side4 => exact HC3_3.out); rintro e w20 ⟨v369, rfl, ho0, hb⟩; refine ⟨_, rfl, ?_⟩; have n0_ := Aside0.mk (Kd.qbh ho0 (qak (by repeat (first | (with_reducible first | exact HB.out | apply qac | apply qaa | apply qab | refine qah ?_ GE360.out) | exact HB.out)))); have n1_ := Aside0.mk (qao (g := gb360) (o := .cells #[.string a3_0, .string a3_1, .int .i64 a3_2, .slice A3_3 l3_3.length c3_3, .int .i64 a3_4] 41 (0, 0)) (by (with_reducible repeat (first | refine qaj ?_ _ | refine qal ?_ | refine qai ?_ _)); exact BK360.out) hb); have n2_ := Aside0.mk (qag (by repeat (first | (with_reducible first | exact HB.out | apply qac | apply qaa | apply qab | refine qah ?_ GE360.out) | exact HB.out)) hb); clear BK360 HB; have HO370 := n0_; have BK360 := n1_; have HB := n2_; clear n0_ n1_ n2_; (try clear hb); (try clear hb2); (try clear hk); (try clear hi); (try clear ho0)))
     have n0_ := Aside0.mk (Kd.qaD HO370.out)
     have n1_ := Aside0.mk (qal BK360.out)
     have n2_ := Aside0.mk (qab HB.out)
     clear HO370 BK360 HB
     have HO370 := n0_
     have BK360 := n1_
     have HB := n2_
     clear n0_ n1_ n2_
     obtain ⟨Ao22, co22, eo22⟩ := Kd.qbN HO370.out
     (first | subst eo22 | (injection eo22 with f1_ f2_ f3_; have f4_ := f1_.symm; have f5_ := f3_.symm; clear f1_ f2_ f3_; subst f4_; subst f5_))
     refine qen (n := 9) (S := fun w' => w'.cell? ⟨gb360, 0, none⟩ = some (.string a3_0) ∧ w'.cell? ⟨gb360, 1, none⟩ = some (.string a3_1) ∧ w'.cell? ⟨gb360, 2, none⟩ = some (.int .i64 a3_2) ∧ w'.cell? ⟨gb360, 3, none⟩ = some (.slice A3_3 l3_3.length c3_3) ∧ w'.cell? ⟨gb360, 4, none⟩ = some (.int .i64 a3_4)) (ds := []) #[false, false, false, false, false, false, false, false, false] (by kernel_rfl) rfl rfl ⟨(qad BK360.out 0).trans rfl, (qad BK360.out 1).trans rfl, (qad BK360.out 2).trans rfl, (qad BK360.out 3).trans rfl, (qad BK360.out 4).trans rfl⟩ (fun hHeld => ?_); refine qcV qbL.tab6 qbL.bits6 (fun HT_ HW_ => ?_)
     generalize w20.drew = w21 at HO370 BK360 HB hHeld ⊢
     refine qb1 (i := 0) (N := some 33) (v := ?_) (a' := ?_) #[true, false, false, false, false, false, false, false, false] rfl rfl (qbu HT_.out (by kernel_rfl)) (fun _ _ _ h => h) (Or.inl ⟨by rfl, ?_⟩) ?_ ?_
     rotate_left
     ·intro w'
      go_simp
      with_reducible rfl
     rotate_left
     ·simp only [Act.put, List.setIfInBounds_toArray, List.set_cons_zero, List.set_cons_succ, qbe, qbo]
      rfl
     refine qb1 (i := 1) (N := some 34) (v := ?_) (a' := ?_) #[true, true, false, false, false, false, false, false, false] rfl rfl (qbu HT_.out (by kernel_rfl)) (fun _ _ _ h => h) (Or.inl ⟨by rfl, ?_⟩) ?_ ?_
     rotate_left
     ·intro w'
      go_simp
      with_reducible rfl
     rotate_left
     ·simp only [Act.put, List.setIfInBounds_toArray, List.set_cons_zero, List.set_cons_succ, qbe, qbo]
      rfl
     refine qb1 (i := 2) (N := some 35) (v := ?_) (a' := ?_) #[true, true, true, false, false, false, false, false, false] rfl rfl (qbu HT_.out (by kernel_rfl)) (fun _ _ _ h => h) (Or.inl ⟨by rfl, ?_⟩) ?_ ?_
     rotate_left
     ·intro w'
      go_simp
      with_reducible rfl
     rotate_left
     ·simp only [Act.put, List.setIfInBounds_toArray, List.set_cons_zero, List.set_cons_succ, qbe, qbo]
      rfl
     refine qb1 (i := 3) (N := some 36) (v := ?_) (a' := ?_) #[true, true, true, true, false, false, false, false, false] rfl rfl (qbu HT_.out (by kernel_rfl)) (fun _ _ _ h => h) (Or.inl ⟨by rfl, ?_⟩) ?_ ?_
     rotate_left
     ·intro w'
      go_simp
      with_reducible rfl
     rotate_left
     ·simp only [Act.put, List.setIfInBounds_toArray, List.set_cons_zero, List.set_cons_succ, qbe, qbo]
      rfl
     refine qb1 (i := 5) (N := some 38) (v := ?_) (a' := ?_) #[true, true, true, true, false, true, false, false, false] rfl rfl (qbu HT_.out (by kernel_rfl)) (fun _ _ _ h => h) (Or.inl ⟨by rfl, ?_⟩) ?_ ?_
     rotate_left
     ·intro w'
      go_simp
      with_reducible rfl
     rotate_left
     ·simp only [Act.put, List.setIfInBounds_toArray, List.set_cons_zero, List.set_cons_succ, qbe, qbo]
      rfl
     refine qdK (i := 6) (N := some 39) (v := ?_) (a' := ?_) #[true, true, true, true, false, true, true, false, false] rfl rfl (qco HT_.out HW_.out (by kernel_rfl)) (fun _ _ _ h => h) (Or.inl ⟨by rfl, ?_⟩) hHeld ?_ ?_
     rotate_left
     ·rintro w' ⟨s0, s1, s2, s3, s4⟩
      go_simp
      with_reducible rfl
     rotate_left
     ·simp only [Act.put, List.setIfInBounds_toArray, List.set_cons_zero, List.set_cons_succ, qbe, qbo]
      rfl
     refine one_ (i := 4) (N := some 37) #[true, true, true, true, true, true, true, false, false] rfl rfl (qdc HT_.out (by kernel_rfl)) (by decide) (fun K hK => ?_)
     refine qdg Try.func56 (by kernel_rfl) rfl #[.slice Ao22 t367.length co22] (by rfl) rfl rfl (by (try simp only [List.map_toArray, List.map_cons, List.map_nil]); first | done | rfl | (simp only [List.length_drop, List.length_take]; rfl)) ?_
     with_reducible refine (qb2.calls _ _ t367 t371 _ ?side1 ?side2 A9.out).mono ?_
     (case side1 => repeat (first | exact (Kd.qaO HO370.out).2.2 | (with_reducible refine Kd.qa9 ?_ _) | (with_reducible refine Kd.qba ?_ _) | (with_reducible refine Kd.qbl ?_)))
     (case side2 => exact (Kd.qaO HO370.out).2.1)
     rintro e w23 ⟨rfl, hb⟩
     refine ⟨_, rfl, ?_⟩
     have n0_ := Aside0.mk (Kd.qaX (by (with_reducible repeat (first | apply Kd.qar | apply Kd.qas | apply Kd.qaD)); exact HO370.out) hb)
     have n1_ := Aside0.mk (qao (g := gb360) (o := .cells #[.string a3_0, .string a3_1, .int .i64 a3_2, .slice A3_3 l3_3.length c3_3, .int .i64 a3_4] 41 (0, 0)) (by (with_reducible repeat (first | refine qaj ?_ _ | refine qal ?_ | refine qai ?_ _)); exact BK360.out) hb)
     have n2_ := Aside0.mk (qag (by repeat (first | (with_reducible first | exact HB.out | apply qac | apply qaa | apply qab | refine qah ?_ GE360.out) | exact HB.out)) hb)
     clear HO370 BK360 HB
     have HO370 := n0_
     have BK360 := n1_
     have HB := n2_
     clear n0_ n1_ n2_
     (try clear hb)
     (try clear hb2)
     (try clear hk)
     (try clear hi)
     refine hK.out _ _ ⟨(qad BK360.out 0).trans rfl, (qad BK360.out 1).trans rfl, (qad BK360.out 2).trans rfl, (qad BK360.out 3).trans rfl, (qad BK360.out 4).trans rfl⟩ (fun hHeld => ?_)
     clear hK K
     refine qb5 (a' := ?_) ?_ ?_
     rotate_left
     ·show Act.put _ (some 37) _ = _
      simp only [Act.put, List.setIfInBounds_toArray, List.set_cons_zero, List.set_cons_succ, qbe, qbo]
      rfl
     refine qb1 (i := 7) (N := some 40) (v := ?_) (a' := ?_) #[true, true, true, true, true, true, true, true, false] rfl rfl (qbu HT_.out (by kernel_rfl)) (fun _ _ _ h => h) (Or.inl ⟨by rfl, ?_⟩) ?_ ?_
     rotate_left
     ·intro w'
      go_simp
      with_reducible rfl
     rotate_left
     ·simp only [Act.put, List.setIfInBounds_toArray, List.set_cons_zero, List.set_cons_succ, qbe, qbo]
      rfl
     refine qb1 (i := 8) (N := some 41) (v := ?_) (a' := ?_) #[true, true, true, true, true, true, true, true, true] rfl rfl (qbu HT_.out (by kernel_rfl)) (fun _ _ _ h => h) (Or.inl ⟨by rfl, ?_⟩) ?_ ?_
     rotate_left
     ·intro w'
      go_simp
      with_reducible rfl
     rotate_left
     ·simp only [Act.put, List.setIfInBounds_toArray, List.set_cons_zero, List.set_cons_succ, qbe, qbo]
      rfl
     refine qgS (qeb HT_.out (by kernel_rfl)) ?_
     try go_wp2_with (first | ((with_reducible refine qaE (f := 54) rfl ?_); refine qbn (some 43) rfl rfl Try.func54 (by kernel_rfl) rfl #[.slice A0 l0.length c0] rfl (by (try simp only [List.map_toArray, List.map_cons, List.map_nil]); first | done | rfl | (simp only [List.length_drop, List.length_take]; rfl)) ?_; (with_reducible refine (qaV.calls _ _ l0 t372 _ ?side1 ?side2 A17.out).mono ?_); (case side1 => repeat (first | exact (Kd.qa8 HR0.out HB.out) | (with_reducible refine Kd.qa9 ?_ _) | (with_reducible refine Kd.qba ?_ _) | (with_reducible refine Kd.qbl ?_))); (case side2 => exact HC0.out); rintro e w24 ⟨v373, rfl, ho0, hb⟩; refine ⟨_, rfl, ?_⟩; have n0_ := Aside0.mk (Kd.qch (by (with_reducible repeat (first | apply Kd.qar | apply Kd.qas | apply Kd.qaD)); exact HO370.out) (Kd.qcT ho0) hb); have n1_ := Aside0.mk (Kd.qbh (Kd.qdb ho0 (Kd.R_lt (by (with_reducible repeat (first | apply Kd.qar | apply Kd.qas | apply Kd.qaD)); exact HO370.out))) (qak (by repeat (first | (with_reducible first | exact HB.out | apply qac | apply qaa | apply qab | refine qah ?_ GE360.out) | exact HB.out)))); have n2_ := Aside0.mk (qao (g := gb360) (o := .cells #[.string a3_0, .string a3_1, .int .i64 a3_2, .slice A3_3 l3_3.length c3_3, .int .i64 a3_4] 41 (0, 0)) (by (with_reducible repeat (first | refine qaj ?_ _ | refine qal ?_ | refine qai ?_ _)); exact BK360.out) hb); have n3_ := Aside0.mk (qag (by repeat (first | (with_reducible first | exact HB.out | apply qac | apply qaa | apply qab | refine qah ?_ GE360.out) | exact HB.out)) hb); clear HO370 BK360 HB; have HO370 := n0_; have HO374 := n1_; have BK360 := n2_; have HB := n3_; clear n0_ n1_ n2_ n3_; (try clear hb); (try clear hb2); (try clear hk); (try clear hi); (try clear ho0)))
     go_ret2
     exact ⟨_, by first | rfl | (simp [qam, qan] <;> rfl) | (simp [*, qam, qan] <;> rfl), by (with_reducible repeat (first | apply Kd.qar | apply Kd.qas | apply Kd.qaD)); exact Kd.qbr HO374.out (fun _ hk => trivial), by repeat (first | (with_reducible first | exact HB.out | apply qac | apply qaa | apply qab | refine qah ?_ GE360.out) | exact HB.out)⟩
   ·rw [if_neg c8] at H
    have c8b0 : (t368 == 0) = false := beq_eq_false_iff_ne.mpr c8
    have c8b1 : (t368 != 0) = true := bne_iff_ne.mpr c8
    simp only [Option.some.injEq, Prod.mk.injEq] at H
    obtain ⟨rfl, rfl⟩ := H
    go_enter Try.func40, Try.ntmps40
    try go_wp2_with (first | ((with_reducible refine qaM (N := 7) rfl ?_); refine qaN ?hg (N := 7) ?hd (cs := #[.string a3_0, .string a3_1, .int .i64 a3_2, .slice A3_3 l3_3.length c3_3, .int .i64 a3_4]) (t := 41) ?hr ?_; (case hd => rfl); (case hg => rfl); (case hr => first | (go_simp; done) | (go_simp; rfl)); intro gb360 hg w25 hbox hb; have n0_ := Aside0.mk (qag (by repeat (first | (with_reducible first | exact HB.out | apply qac | apply qaa | apply qab) | exact HB.out)) hb); have n1_ := Aside0.mk (hbox); have n2_ := Aside0.mk ((by rw [hg]; exact (qak (by repeat (first | (with_reducible first | exact HB.out | apply qac | apply qaa | apply qab) | exact HB.out))) : w.heap.size ≤ gb360)); have n3_ := Aside0.mk ((by rw [hg]; exact (qak (by repeat (first | (with_reducible first | exact HB.out | apply qac | apply qaa | apply qab) | exact HB.out))) : w.heap.size ≤ gb360)); clear HB; have HB := n0_; have BK360 := n1_; have GW360 := n2_; have GE360 := n3_; clear n0_ n1_ n2_ n3_ hb hbox hg; have hcz26_0 : w25.cell? ⟨gb360, 0, none⟩ = some (.string a3_0) := (qad BK360.out 0).trans rfl; have hcz26_1 : w25.cell? ⟨gb360, 1, none⟩ = some (.string a3_1) := (qad BK360.out 1).trans rfl; have hcz26_2 : w25.cell? ⟨gb360, 2, none⟩ = some (.int .i64 a3_2) := (qad BK360.out 2).trans rfl; have hcz26_3 : w25.cell? ⟨gb360, 3, none⟩ = some (.slice A3_3 l3_3.length c3_3) := (qad BK360.out 3).trans rfl; have hcz26_4 : w25.cell? ⟨gb360, 4, none⟩ = some (.int .i64 a3_4) := (qad BK360.out 4).trans rfl; have hfz26_0 := qae BK360.out 0; have hfz26_1 := qae BK360.out 1; have hfz26_2 := qae BK360.out 2; have hfz26_3 := qae BK360.out 3; have hfz26_4 := qae BK360.out 4) | ((with_reducible refine qaE (f := 55) rfl ?_); refine qbn (some 30) rfl rfl Try.func55 (by kernel_rfl) rfl #[.slice A0 l0.length c0, .slice A3_3 l3_3.length c3_3] rfl (by (try simp only [List.map_toArray, List.map_cons, List.map_nil]); first | done | rfl | (simp only [List.length_drop, List.length_take]; rfl)) ?_; (with_reducible refine (qat.calls k _ _ l0 _ _ l3_3 t367 t368 _ ?side1 ?side2 ?side3 ?side4 A7.out).mono ?_); (case side1 => repeat (first | exact (Kd.qa8 HR0.out HB.out) | (with_reducible refine Kd.qa9 ?_ _) | (with_reducible refine Kd.qba ?_ _) | (with_reducible refine Kd.qbl ?_))); (case side2 => exact HC0.out); (case side3 => repeat (first | exact (Kd.qa8 HR3_3.out HB.out) | (with_reducible refine Kd.qa9 ?_ _) | (with_reducible refine Kd.qba ?_ _) | (with_reducible refine Kd.qbl ?_))); (case side4 => exact HC3_3.out); rintro e w27 ⟨v369, rfl, ho0, hb⟩; refine ⟨_, rfl, ?_⟩; have n0_ := Aside0.mk (Kd.qbh ho0 (qak (by repeat (first | (with_reducible first | exact HB.out | apply qac | apply qaa | apply qab | refine qah ?_ GE360.out) | exact HB.out)))); have n1_ := Aside0.mk (qao (g := gb360) (o := .cells #[.string a3_0, .string a3_1, .int .i64 a3_2, .slice A3_3 l3_3.length c3_3, .int .i64 a3_4] 41 (0, 0)) (by (with_reducible repeat (first | refine qaj ?_ _ | refine qal ?_ | refine qai ?_ _)); exact BK360.out) hb); have n2_ := Aside0.mk (qag (by repeat (first | (with_reducible first | exact HB.out | apply qac | apply qaa | apply qab | refine qah ?_ GE360.out) | exact HB.out)) hb); clear BK360 HB; have HO370 := n0_; have BK360 := n1_; have HB := n2_; clear n0_ n1_ n2_; (try clear hb); (try clear hb2); (try clear hk); (try clear hi); (try clear ho0)))
    have n0_ := Aside0.mk (Kd.qaD HO370.out)
    have n1_ := Aside0.mk (qal BK360.out)
    have n2_ := Aside0.mk (qab HB.out)
    clear HO370 BK360 HB
    have HO370 := n0_
    have BK360 := n1_
    have HB := n2_
    clear n0_ n1_ n2_
    refine qbq (by kernel_rfl) (by kernel_rfl) ?_
    generalize w27.drew = w28b at HO370 BK360 HB ⊢
    repeat (first | go_big_quiet_step (fail) | quiet_step (fail))
    refine wpQuiet_nil ?_
    rintro w28 ⟨⟨wq_, hbL⟩, hq_⟩
    have hq2_ : w28 = wq_ := hq_
    clear hq_
    subst hq2_
    have nHO370_ := by first | exact Aside0.mk (qag HO370.out hbL) | exact Aside0.mk (Kd.qaX HO370.out hbL) | exact Aside0.mk (Kd.qdk HO370.out hbL) | exact Aside0.mk (Kd.N_below HO370.out hbL) | exact Aside0.mk (Kd.qdE HO370.out hbL) | exact Aside0.mk (Kd.Q_below HO370.out hbL) | exact Aside0.mk (Kd.qa8 HO370.out hbL) | exact Aside0.mk ((hbL.block _ (qbm HO370.out)).trans HO370.out)
    have nBK360_ := Aside0.mk ((hbL.block _ (qbm BK360.out)).trans BK360.out)
    have nHB_ := Aside0.mk (qag HB.out hbL)
    clear HO370 BK360 HB
    have HO370 := nHO370_
    have BK360 := nBK360_
    have HB := nHB_
    clear nHO370_ nBK360_ nHB_ hbL
    try go_wp2
    go_ret2
    exact ⟨_, by first | rfl | (simp [qam, qan] <;> rfl) | (simp [*, qam, qan] <;> rfl), by (with_reducible repeat (first | apply Kd.qar | apply Kd.qas | apply Kd.qaD)); exact HO370.out, by repeat (first | (with_reducible first | exact HB.out | apply qac | apply qaa | apply qab | refine qah ?_ GE360.out) | exact HB.out)⟩
  ·rw [if_neg c6] at H
   have c6b0 : (a3_2 == a2) = false := beq_eq_false_iff_ne.mpr c6
   have c6b1 : (a3_2 != a2) = true := bne_iff_ne.mpr c6
   replace H := Option.bind_eq_some_iff.mp H
   obtain ⟨t361, A290, H⟩ := H
   try dsimp only at H
   have A29 := Aside0.mk A290
   clear A290
   simp only [Option.some.injEq, Prod.mk.injEq] at H
   obtain ⟨rfl, rfl⟩ := H
   go_enter Try.func40, Try.ntmps40
   go_wp2_with (first | ((with_reducible refine qaM (N := 7) rfl ?_); refine qaN ?hg (N := 7) ?hd (cs := #[.string a3_0, .string a3_1, .int .i64 a3_2, .slice A3_3 l3_3.length c3_3, .int .i64 a3_4]) (t := 41) ?hr ?_; (case hd => rfl); (case hg => rfl); (case hr => first | (go_simp; done) | (go_simp; rfl)); intro gb360 hg w30 hbox hb; have n0_ := Aside0.mk (qag (by repeat (first | (with_reducible first | exact HB.out | apply qac | apply qaa | apply qab) | exact HB.out)) hb); have n1_ := Aside0.mk (hbox); have n2_ := Aside0.mk ((by rw [hg]; exact (qak (by repeat (first | (with_reducible first | exact HB.out | apply qac | apply qaa | apply qab) | exact HB.out))) : w.heap.size ≤ gb360)); have n3_ := Aside0.mk ((by rw [hg]; exact (qak (by repeat (first | (with_reducible first | exact HB.out | apply qac | apply qaa | apply qab) | exact HB.out))) : w.heap.size ≤ gb360)); clear HB; have HB := n0_; have BK360 := n1_; have GW360 := n2_; have GE360 := n3_; clear n0_ n1_ n2_ n3_ hb hbox hg; have hcz31_0 : w30.cell? ⟨gb360, 0, none⟩ = some (.string a3_0) := (qad BK360.out 0).trans rfl; have hcz31_1 : w30.cell? ⟨gb360, 1, none⟩ = some (.string a3_1) := (qad BK360.out 1).trans rfl; have hcz31_2 : w30.cell? ⟨gb360, 2, none⟩ = some (.int .i64 a3_2) := (qad BK360.out 2).trans rfl; have hcz31_3 : w30.cell? ⟨gb360, 3, none⟩ = some (.slice A3_3 l3_3.length c3_3) := (qad BK360.out 3).trans rfl; have hcz31_4 : w30.cell? ⟨gb360, 4, none⟩ = some (.int .i64 a3_4) := (qad BK360.out 4).trans rfl; have hfz31_0 := qae BK360.out 0; have hfz31_1 := qae BK360.out 1; have hfz31_2 := qae BK360.out 2; have hfz31_3 := qae BK360.out 3; have hfz31_4 := qae BK360.out 4) | ((with_reducible refine qaE (f := 54) rfl ?_); refine qbn (some 25) rfl rfl Try.func54 (by kernel_rfl) rfl #[.slice A0 l0.length c0] rfl (by (try simp only [List.map_toArray, List.map_cons, List.map_nil]); first | done | rfl | (simp only [List.length_drop, List.length_take]; rfl)) ?_; (with_reducible refine (qaV.calls _ _ l0 t361 _ ?side1 ?side2 A29.out).mono ?_); (case side1 => repeat (first | exact (Kd.qa8 HR0.out HB.out) | (with_reducible refine Kd.qa9 ?_ _) | (with_reducible refine Kd.qba ?_ _) | (with_reducible refine Kd.qbl ?_))); (case side2 => exact HC0.out); rintro e w32 ⟨v362, rfl, ho0, hb⟩; refine ⟨_, rfl, ?_⟩; have n0_ := Aside0.mk (Kd.qbh ho0 (qak (by repeat (first | (with_reducible first | exact HB.out | apply qac | apply qaa | apply qab | refine qah ?_ GE360.out) | exact HB.out)))); have n1_ := Aside0.mk (qao (g := gb360) (o := .cells #[.string a3_0, .string a3_1, .int .i64 a3_2, .slice A3_3 l3_3.length c3_3, .int .i64 a3_4] 41 (0, 0)) (by (with_reducible repeat (first | refine qaj ?_ _ | refine qal ?_ | refine qai ?_ _)); exact BK360.out) hb); have n2_ := Aside0.mk (qag (by repeat (first | (with_reducible first | exact HB.out | apply qac | apply qaa | apply qab | refine qah ?_ GE360.out) | exact HB.out)) hb); clear BK360 HB; have HO363 := n0_; have BK360 := n1_; have HB := n2_; clear n0_ n1_ n2_; (try clear hb); (try clear hb2); (try clear hk); (try clear hi); (try clear ho0)))
   go_ret2
   exact ⟨_, by first | rfl | (simp [qam, qan] <;> rfl) | (simp [*, qam, qan] <;> rfl), by (with_reducible repeat (first | apply Kd.qar | apply Kd.qas | apply Kd.qaD)); exact HO363.out, by repeat (first | (with_reducible first | exact HB.out | apply qac | apply qaa | apply qab | refine qah ?_ GE360.out) | exact HB.out)⟩
 ·rw [if_neg c5] at H
  have c5b0 : (a3_0.toList == a1.toList) = false := beq_eq_false_iff_ne.mpr c5
  have c5b1 : (a3_0.toList != a1.toList) = true := bne_iff_ne.mpr c5
  replace H := Option.bind_eq_some_iff.mp H
  obtain ⟨t364, A330, H⟩ := H
  try dsimp only at H
  have A33 := Aside0.mk A330
  clear A330
  simp only [Option.some.injEq, Prod.mk.injEq] at H
  obtain ⟨rfl, rfl⟩ := H
  go_enter Try.func40, Try.ntmps40
  go_wp2_with (first | ((with_reducible refine qaM (N := 7) rfl ?_); refine qaN ?hg (N := 7) ?hd (cs := #[.string a3_0, .string a3_1, .int .i64 a3_2, .slice A3_3 l3_3.length c3_3, .int .i64 a3_4]) (t := 41) ?hr ?_; (case hd => rfl); (case hg => rfl); (case hr => first | (go_simp; done) | (go_simp; rfl)); intro gb360 hg w34 hbox hb; have n0_ := Aside0.mk (qag (by repeat (first | (with_reducible first | exact HB.out | apply qac | apply qaa | apply qab) | exact HB.out)) hb); have n1_ := Aside0.mk (hbox); have n2_ := Aside0.mk ((by rw [hg]; exact (qak (by repeat (first | (with_reducible first | exact HB.out | apply qac | apply qaa | apply qab) | exact HB.out))) : w.heap.size ≤ gb360)); have n3_ := Aside0.mk ((by rw [hg]; exact (qak (by repeat (first | (with_reducible first | exact HB.out | apply qac | apply qaa | apply qab) | exact HB.out))) : w.heap.size ≤ gb360)); clear HB; have HB := n0_; have BK360 := n1_; have GW360 := n2_; have GE360 := n3_; clear n0_ n1_ n2_ n3_ hb hbox hg; have hcz35_0 : w34.cell? ⟨gb360, 0, none⟩ = some (.string a3_0) := (qad BK360.out 0).trans rfl; have hcz35_1 : w34.cell? ⟨gb360, 1, none⟩ = some (.string a3_1) := (qad BK360.out 1).trans rfl; have hcz35_2 : w34.cell? ⟨gb360, 2, none⟩ = some (.int .i64 a3_2) := (qad BK360.out 2).trans rfl; have hcz35_3 : w34.cell? ⟨gb360, 3, none⟩ = some (.slice A3_3 l3_3.length c3_3) := (qad BK360.out 3).trans rfl; have hcz35_4 : w34.cell? ⟨gb360, 4, none⟩ = some (.int .i64 a3_4) := (qad BK360.out 4).trans rfl; have hfz35_0 := qae BK360.out 0; have hfz35_1 := qae BK360.out 1; have hfz35_2 := qae BK360.out 2; have hfz35_3 := qae BK360.out 3; have hfz35_4 := qae BK360.out 4) | ((with_reducible refine qaE (f := 54) rfl ?_); refine qbn (some 18) rfl rfl Try.func54 (by kernel_rfl) rfl #[.slice A0 l0.length c0] rfl (by (try simp only [List.map_toArray, List.map_cons, List.map_nil]); first | done | rfl | (simp only [List.length_drop, List.length_take]; rfl)) ?_; (with_reducible refine (qaV.calls _ _ l0 t364 _ ?side1 ?side2 A33.out).mono ?_); (case side1 => repeat (first | exact (Kd.qa8 HR0.out HB.out) | (with_reducible refine Kd.qa9 ?_ _) | (with_reducible refine Kd.qba ?_ _) | (with_reducible refine Kd.qbl ?_))); (case side2 => exact HC0.out); rintro e w36 ⟨v365, rfl, ho0, hb⟩; refine ⟨_, rfl, ?_⟩; have n0_ := Aside0.mk (Kd.qbh ho0 (qak (by repeat (first | (with_reducible first | exact HB.out | apply qac | apply qaa | apply qab | refine qah ?_ GE360.out) | exact HB.out)))); have n1_ := Aside0.mk (qao (g := gb360) (o := .cells #[.string a3_0, .string a3_1, .int .i64 a3_2, .slice A3_3 l3_3.length c3_3, .int .i64 a3_4] 41 (0, 0)) (by (with_reducible repeat (first | refine qaj ?_ _ | refine qal ?_ | refine qai ?_ _)); exact BK360.out) hb); have n2_ := Aside0.mk (qag (by repeat (first | (with_reducible first | exact HB.out | apply qac | apply qaa | apply qab | refine qah ?_ GE360.out) | exact HB.out)) hb); clear BK360 HB; have HO366 := n0_; have BK360 := n1_; have HB := n2_; clear n0_ n1_ n2_; (try clear hb); (try clear hb2); (try clear hk); (try clear hi); (try clear ho0)))
  go_ret2
  exact ⟨_, by first | rfl | (simp [qam, qan] <;> rfl) | (simp [*, qam, qan] <;> rfl), by (with_reducible repeat (first | apply Kd.qar | apply Kd.qas | apply Kd.qaD)); exact HO366.out, by repeat (first | (with_reducible first | exact HB.out | apply qac | apply qaa | apply qab | refine qah ?_ GE360.out) | exact HB.out)⟩
theorem qhe (l0 : List S48) (r : List S56) : ∀ out, (qbP l0 out r).2 ≠ 0 → (qbP l0 out r).1 = l0 := by
 induction r with
 | nil => intro out h; unfold qbP at h ⊢; split <;> simp_all
 | cons d r ih =>
  intro out h
  unfold qbP at h ⊢
  split
  ·rename_i h1
   rw [if_pos h1] at h
   split
   ·rename_i h2
    rw [if_pos h2] at h
    exact ih _ h
   ·rfl
  ·rfl
theorem qfl (l0 : List S48) (r : List S56) : ∀ out, (qbP l0 out r).2 = 0 → (qbP l0 out r).1.length ≤ 60 := by
 induction r with
 | nil =>
  intro out h
  unfold qbP at h ⊢
  split
  ·rename_i h1; rw [if_pos h1] at h; simp at h
  ·simp only; omega
 | cons d r ih =>
  intro out h
  unfold qbP at h ⊢
  split
  ·rename_i h1
   rw [if_pos h1] at h
   split
   ·rename_i h2
    rw [if_pos h2] at h
    exact ih _ h
   ·rename_i h2; rw [if_neg h2] at h; simp at h
  ·rename_i h1; rw [if_neg h1] at h; simp at h
def qcH (l : List S48) (last : ByteArray) (chain : Int) (a b : ByteArray) (n : Int) (ds : List S56) (s : Int) : List S48 × Int := if a.toList = last.toList then (if n = chain then (if (qbP l l ds).2 = 0 then (if sumP (qbP l l ds).1 = s then ((qbP l l ds).1, 0) else (l, 8)) else (l, (qbP l l ds).2)) else (l, 14)) else (l, 13)
theorem qeJ {l : List S48} {ds : List S56} (hf : Fine l) (h : (qbP l l ds).2 = 0) : qc7 (qbP l l ds).1 := by
 have h1 := qfl l ds l h
 exact qhd (by omega) (qfj l hf ds l hf).1
theorem qhf (l : List S48) (last : ByteArray) (chain : Int) (a b : ByteArray) (n : Int) (ds : List S56) (s : Int) (hl : l.length ≤ 100000) (hd : ds.length ≤ 100000) (hf : Fine l) : Ev (fun k => qbL.f k l last chain a b n ds s) (qcH l last chain a b n ds s) := by
 unfold qbL.f qcH
 have hc := qdB l (by omega)
 by_cases h1 : a.toList = last.toList
 ·refine Ev.pos h1 (Ev.same ?_ (if_pos h1).symm)
  by_cases h2 : n = chain
  ·refine Ev.pos h2 (Ev.same (Ev.bind (qhL l ds hl hd hf) ?_) (if_pos h2).symm)
   by_cases h3 : (qbP l l ds).2 = 0
   ·refine Ev.pos h3 (Ev.same (Ev.bindk (impl_sum (qeJ hf h3)) ?_) (if_pos h3).symm)
    by_cases h4 : sumP (qbP l l ds).1 = s
    ·exact Ev.pos h4 (Ev.is (by rw [if_pos h4, h3]))
    ·exact Ev.neg h4 (Ev.bindk hc (Ev.is (by rw [if_neg h4])))
   ·exact Ev.neg h3 (Ev.is (by rw [if_neg h3, qhe l ds l h3]))
  ·exact Ev.neg h2 (Ev.bindk hc (Ev.is (by rw [if_neg h2])))
 ·exact Ev.neg h1 (Ev.bindk hc (Ev.is (by rw [if_neg h1])))
def linkB (b : S41) : Int := qcQ (bytesOf (linkT b.f0 b.f1 b.f2 b.f3 b.f4))
def repB (out : List S48) (last : ByteArray) (chain : Int) (b : S41) : List S48 × Int := qcH out last chain b.f0 b.f1 b.f2 b.f3 b.f4
def qcY : List S48 → ByteArray → Int → List S41 → List S48 × Int
 | out, _, _, [] => (out, 0)
 | out, last, chain, b :: bs => if (repB out last chain b).2 = 0 then qcY (repB out last chain b).1 b.f1 (linkB b) bs else ([], (repB out last chain b).2)
def bakB (b : S41) : Bool := qdY b.f0 b.f1 b.f2 b.f3 b.f4
def allR (l : List S41) : List S48 × Int := if 4096 < l.length then ([], 2) else if 20 < l.length then ([], 6) else if l.all bakB = true then qcY [] ByteArray.empty 0 l else ([], 1)
theorem qfm {out : List S48} {last : ByteArray} {chain : Int} {b : S41} (hf : Fine out) (h : (repB out last chain b).2 = 0) : Fine (repB out last chain b).1 ∧ (repB out last chain b).1.length ≤ 60 := by
 unfold repB qcH at h ⊢
 split at h
 ·rename_i h1
  rw [if_pos h1]
  split at h
  ·rename_i h2
   rw [if_pos h2]
   split at h
   ·rename_i h3
    rw [if_pos h3]
    split at h
    ·rename_i h4
     rw [if_pos h4]
     exact ⟨qfj out hf b.f3 out hf, qfl out b.f3 out h3⟩
    ·cases h
   ·rename_i h3
    exact absurd h h3
  ·cases h
 ·cases h
theorem qhM (l : List S41) : ∀ (out : List S48) (last : ByteArray) (chain : Int), Fine out → out.length ≤ 60 → (qcY out last chain l).1.length ≤ 60 := by
 induction l with
 | nil => intro out last chain _ h; exact h
 | cons b bs ih =>
  intro out last chain hf h
  unfold qcY
  split
  ·rename_i hc
   have := qfm hf hc
   exact ih _ _ _ this.1 this.2
  ·simp
theorem qga : Fine ([] : List S48) := ⟨fun p hp => (by cases hp), List.Pairwise.nil⟩
theorem allR_len (l : List S41) : (allR l).1.length ≤ 60 := by
 unfold allR
 split
 ·simp
 ·split
  ·simp
  ·split
   ·exact qhM l _ _ _ qga (by simp)
   ·simp
theorem qiY {b : S41} (h : bakB b = true) : qeA b.f0 b.f1 b.f3 ∧ (0 ≤ b.f2 ∧ b.f2 ≤ 4294967295) ∧ (0 ≤ b.f4 ∧ b.f4 ≤ 4294967295) ∧ b.f3.length ≤ 120 := qg6 h
set_option maxHeartbeats 8000000 in
set_option maxRecDepth 100000 in
theorem qhN (A : Option Addr) (c : Nat) (l : List S41) (w : World) (hr : Kd.C k41 w A l.length l) (hc : l.length ≤ c) (hb : l.all bakB = true) :
  Calls Try.prog 21 #[.slice A l.length c] w fun e w' => ∃ v0 : Value, e = .returned (.tuple #[v0, .int .i64 (qcY [] ByteArray.empty 0 l).2]) ∧ Kd.R k48 48 w' w.heap.size (fun _ => True) v0 (qcY [] ByteArray.empty 0 l).1 ∧ Below w.heap.size w w' := by
 have hu := Try.underlying41
 have hm : l.length ≤ 9223372036854775807 := hr.2.1
 have HR := Aside0.mk hr
 have HA := Aside0.mk (List.all_eq_true.1 hb)
 clear hr hb
 go_enter Try.func21, Try.ntmps21
 go_wp2_with (first | ((with_reducible refine qaM (N := 11) rfl ?_); refine Kd.qdN k48 w.heap.size 48 ?hg (N := 11) ?hd (xs := ([] : List S48)) (inner := []) (ok := fun _ => True) (okp := fun _ => True) ?hr ?hp (fun _ hk => hk) trivial (Below.refl _ _) (Nat.le_refl _) (by simp) ?_; (case hd => rfl); (case hg => rfl); (case hr => first | (go_simp; done) | (go_simp; rfl)); (case hp => exact (Reps.none _ _)); intro v1 w1 ho1 hb1 hg_ hnew_; clear hg_ hnew_; have HO1 := Aside0.mk ho1; have HB1 := Aside0.mk hb1; clear ho1 hb1))
 go_loopw [4, 5, 6, 14] (fun v4 v5 v6 v14 wr => ∃ (i : Nat) (out : List S48) (last : ByteArray) (chain : Int), i ≤ l.length ∧ v14 = .int .i64 i ∧ v5 = .string last ∧ v6 = .int .i64 chain ∧ Aside0 (Fine out ∧ out.length ≤ 60) ∧ Aside0 (Kd.R k48 48 wr w.heap.size (fun _ => True) v4 out) ∧ Aside0 (Below w.heap.size w wr) ∧ Aside0 (qcY out last chain (l.drop i) = qcY [] ByteArray.empty 0 l)) (fun _ _ _ v14 _ => l.length - (intOf v14).toNat)
 case atStart => exact ⟨0, [], ByteArray.empty, 0, Nat.zero_le _, rfl, rfl, rfl, ⟨qga, by simp⟩, HO1, HB1, ⟨by rw [List.drop_zero]⟩⟩
 case round =>
  clear HO1 HB1
  obtain ⟨i, out, last, chain, hi, rfl, rfl, rfl, HF, HO, HB, HE⟩ := hrel
  obtain ⟨A4, c4, rfl⟩ := Kd.qbN HO.out
  by_cases hlt : i < l.length
  ·have p1 : 0 ≤ (i : Int) := by omega
   have q1 : (i : Int) < (l.length : Int) := by omega
   have c1 : decide ((i : Int) < (l.length : Int)) = true := decide_eq_true (by omega)
   have w2 : IntKind.i64.wrap ((i : Int) + 1) = (i : Int) + 1 := by rw [IntKind.wrap_i64]; omega
   obtain ⟨ad1, A3, c3, e1, hx0, hx1, hx2, hx3, hx4, hl3, hc3⟩ := qeH HR.out (i : Int) p1 q1
   have hx : qbc l (i : Int) = l[i] := by unfold qbc; rw [Int.toNat_natCast]; simp [List.getD_eq_getElem?_getD, hlt]
   rw [hx] at hx0 hx1 hx2 hx3 hx4 hl3 hc3
   cases e1
   replace hx0 := (HB.out.cell (World.block_lt_of_cell? w _ hx0)).trans hx0
   replace hx1 := (HB.out.cell (World.block_lt_of_cell? w _ hx1)).trans hx1
   replace hx2 := (HB.out.cell (World.block_lt_of_cell? w _ hx2)).trans hx2
   replace hx3 := (HB.out.cell (World.block_lt_of_cell? w _ hx3)).trans hx3
   replace hx4 := (HB.out.cell (World.block_lt_of_cell? w _ hx4)).trans hx4
   rw [Int.toNat_natCast] at hx0 hx1 hx2 hx3 hx4
   have hfit := qiY (HA.out l[i] (List.getElem_mem hlt))
   have hdr : l.drop i = l[i] :: l.drop (i + 1) := List.drop_eq_getElem_cons hlt
   have hE := HE.out
   rw [hdr, qcY] at hE
   obtain ⟨b, hbb⟩ : ∃ b, b = l[i] := ⟨_, rfl⟩
   rw [← hbb] at hx0 hx1 hx2 hx3 hx4 hl3 hc3 hfit hE
   obtain ⟨ki, hki⟩ := Ev.rounds (qhf out last chain b.f0 b.f1 b.f2 b.f3 b.f4 (by have := HF.out.2; omega) (by omega) HF.out.1)
   have hrf := @qfm out last chain b HF.out.1
   obtain ⟨R, code, hR⟩ : ∃ R code, repB out last chain b = (R, code) := ⟨_, _, rfl⟩
   rw [show qcH out last chain b.f0 b.f1 b.f2 b.f3 b.f4 = (R, code) from hR] at hki
   rw [hR] at hE hrf
   have HKI := Aside0.mk hki
   have HE2 := Aside0.mk hE
   have HRF := Aside0.mk hrf
   have HL3 := Aside0.mk (And.intro hl3 (Kd.qa8 hc3 HB.out))
   have HFT := Aside0.mk hfit
   clear hx hfit hdr hE hki hR hl3 hc3 hrf hbb HE HF
   have HB2 := Aside0.mk (qac HB.out (.cells #[.string b.f0, .string b.f1, .int .i64 b.f2, .slice A3 b.f3.length c3, .int .i64 b.f4] 41 (0, 0)))
   have K2 := Aside0.mk (qdw wr (.cells #[.string b.f0, .string b.f1, .int .i64 b.f2, .slice A3 b.f3.length c3, .int .i64 b.f4] 41 (0, 0)))
   have HO2 := Aside0.mk (Kd.qar HO.out (.cells #[.string b.f0, .string b.f1, .int .i64 b.f2, .slice A3 b.f3.length c3, .int .i64 b.f4] 41 (0, 0)))
   have HC2 := Aside0.mk (And.intro HL3.out.1 (Kd.qa9 HL3.out.2 (.cells #[.string b.f0, .string b.f1, .int .i64 b.f2, .slice A3 b.f3.length c3, .int .i64 b.f4] 41 (0, 0))))
   obtain ⟨W2, hW2⟩ : ∃ W2, W2 = wr.alloc (.cells #[.string b.f0, .string b.f1, .int .i64 b.f2, .slice A3 b.f3.length c3, .int .i64 b.f4] 41 (0, 0)) := ⟨_, rfl⟩
   rw [← hW2] at HB2 K2 HO2 HC2
   clear HB HO HL3
   go_upto_region 5 with fail
   rw [← hW2]
   clear hW2 hx0 hx1 hx2 hx3 hx4
   have b0 := qad K2.out 0
   have b1 := qad K2.out 1
   have b2 := qad K2.out 2
   have b3 := qad K2.out 3
   have b4 := qad K2.out 4
   simp only [List.getElem?_toArray, List.getElem?_cons_zero, List.getElem?_cons_succ] at b0 b1 b2 b3 b4
   go_wp2_with fail
   refine (qbL.calls ki (hr0 := (Kd.qaO HO2.out).2.2) (hc0 := (Kd.qaO HO2.out).2.1) (hr3_3 := HC2.out.2) (hc3_3 := HC2.out.1) (h := HKI.out)).mono ?_
   rintro e w3 ⟨v9, rfl, ho9, hb3⟩
   have HO3 := Aside0.mk (Kd.qbh ho9 HB2.out.size)
   have HB3 := Aside0.mk (qag HB2.out hb3)
   have K3 := Aside0.mk (qao K2.out hb3)
   have HC3 := Aside0.mk (And.intro HC2.out.1 (Kd.qa8 HC2.out.2 hb3))
   clear ho9 hb3 b0 b1 b2 b3 b4 HO2 HB2 K2 HC2
   by_cases h3 : code = 0
   ·have c3a : (code == 0) = true := beq_iff_eq.mpr h3
    have c3b : (code != 0) = false := bne_eq_false_iff_eq.mpr h3
    have hE := HE2.out
    rw [if_pos h3] at hE
    have HE4 := Aside0.mk hE
    have HRF2 := Aside0.mk (HRF.out h3)
    clear h3 hE HE2 HRF
    go_upto_region 8 with fail
    have HO4 := Aside0.mk (Kd.qaD HO3.out)
    have HB4 := Aside0.mk (qcf HB3.out)
    have K4 := Aside0.mk (qal K3.out)
    have HC4 := Aside0.mk (And.intro HC3.out.1 (Kd.qbl HC3.out.2))
    have d1 := qad K4.out 1
    simp only [List.getElem?_toArray, List.getElem?_cons_zero, List.getElem?_cons_succ] at d1
    clear HO3 HB3 K3 HC3
    go_region_held3 (fun W => W.cell? ⟨wr.heap.size, 1, none⟩ = some (.string b.f1))
     (first | exact d1 | exact f1)
     (first
      | (go_at_call 41; refine (bak_link wr.heap.size b.f0 b.f1 b.f2 A3 c3 b.f3 b.f4 _ K4.out HC4.out.2 HC4.out.1 HFT.out.1).mono ?_; rintro e w5 ⟨rfl, hb5⟩; have HB5 := Aside0.mk (qag HB4.out hb5); have HO5 := Aside0.mk (Kd.qaX HO4.out hb5); have K5 := Aside0.mk (qao K4.out hb5); have f1 := qad K5.out 1; simp only [List.getElem?_toArray, List.getElem?_cons_zero, List.getElem?_cons_succ] at f1; dsimp only)
      | fail)
    go_wp2_with fail
    go_roundw
    case rel => exact ⟨i + 1, R, b.f1, linkB b, by omega, by go_num, rfl, rfl, HRF2, HO5, HB5, HE4⟩
    case measure => simp [intOf]; omega
   ·have c3a : (code == 0) = false := beq_eq_false_iff_ne.mpr h3
    have c3b : (code != 0) = true := bne_iff_ne.mpr h3
    have hE := HE2.out
    rw [if_neg h3] at hE
    have HE4 := Aside0.mk hE
    clear h3 hE HE2 HRF
    go_wp2_with fail
    go_ret2
    rw [← HE4.out]
    exact ⟨_, rfl, Kd.qgP _ _ _ _ _, HB3.out⟩
  ·have c1 : decide ((i : Int) < (l.length : Int)) = false := decide_eq_false (by omega)
   have hE := HE.out
   rw [show i = l.length by omega, List.drop_length, qcY] at hE
   have HE2 := Aside0.mk hE
   clear hE HE
   go_wp2_with fail
   go_ret2
   rw [← HE2.out]
   exact ⟨_, rfl, HO.out, HB.out⟩
end Go.Proofs.Ytlkdcicpaneakaa.X
