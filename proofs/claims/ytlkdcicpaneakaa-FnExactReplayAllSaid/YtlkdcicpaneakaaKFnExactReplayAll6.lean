import Derived.Test.YtlkdcicpaneakaaKFnExactReplayAll2
import Derived.Test.YtlkdcicpaneakaaKFnExactReplayAll3
import Derived.Test.YtlkdcicpaneakaaKFnExactReplayAll4
import Derived.Test.YtlkdcicpaneakaaKFnExactReplayAll5
import Derived.Lib.Bytealg
import Derived.Laws.Externs
import Derived.Laws.Strings
import Derived.Sort.Walk0
import Derived.LoopTactic
import Derived.BigQuiet
import Derived.WalkSpells
namespace Go.Proofs.Ytlkdcicpaneakaa.X
open Go.RowKit Go.Proofs.YtlkdcicpaneakaaW.PrintWords Go.Proofs.YtlkdcicpaneakaaW.PrintLast Go.Proofs.YtlkdcicpaneakaaW.PrintMore
attribute [local go_sem] qaA qaB qaC qaw qax qaH qaI qap qaq qay qaz
set_option linter.unusedVariables false
set_option linter.unusedSimpArgs false
def qaU.l0 : Nat → List Int → Int → ByteArray → ByteArray → Int → List (S56) → Int → Option (Int)
 | 0, _, _, _, _, _, _, _ => none
 | k + 1, x3, x4, x228000, x228001, x228002, x228003, x228004 => if x4 < (x228003.length : Int) then (if 0 ≤ x4 then ((qbF.f ((qaf x228003 x4).f0) ((qaf x228003 x4).f1) ((qaf x228003 x4).f2) ((qaf x228003 x4).f3) ((qaf x228003 x4).f4)).bind fun t241 => (if x3.length + t241.length < 140737488355328 then (qaU.l0 k (x3 ++ t241) (wrap64 (x4 + 1)) x228000 x228001 x228002 x228003 x228004) else (none))) else (none)) else ((qaG.f k x228004 4).bind fun t247 => (if x3.length + t247.length < 140737488355328 then ((qbX.f (x3 ++ t247)).bind fun t253 => (some t253)) else (none)))
def qaU.f (k : Nat) (a0_0 : ByteArray) (a0_1 : ByteArray) (a0_2 : Int) (l0_3 : List (S56)) (a0_4 : Int) : Option (Int) := (qaG.f k a0_2 4).bind fun t228 => ((qbd.f (([a0_0, a0_1] : List ByteArray))).bind fun t234 => (if t228.length + t234.length < 140737488355328 then (qaU.l0 k (t228 ++ t234) 0 a0_0 a0_1 a0_2 l0_3 a0_4) else (none)))
theorem qaU.qbA : ∀ k, (∀ y0 y1 y2 y3 y4 y5 y6, LeO (qaU.l0 k y0 y1 y2 y3 y4 y5 y6) (qaU.l0 (k + 1) y0 y1 y2 y3 y4 y5 y6))
 | 0 => fun _ _ _ _ _ _ _ r h => by simp [qaU.l0] at h
 | k + 1 => by
  have ih0 := qaU.qbA k
  ·intro y0 y1 y2 y3 y4 y5 y6
   unfold qaU.l0
   repeat' first
   | (with_reducible exact ih0 _ _ _ _ _ _ _)
   | (with_reducible exact qaG.mono _ _ _)
   | (with_reducible exact LeO.refl _)
   | (with_reducible exact LeO.none _)
   | (with_reducible refine LeO.ite ?_ ?_)
   | (with_reducible refine LeO.bind ?_ (fun _ => ?_))
   | exact ih0 _ _ _ _ _ _ _
   | exact qaG.mono _ _ _
   | exact LeO.none _
   | refine LeO.ite ?_ ?_
   | refine LeO.bind ?_ (fun _ => ?_)
def qaU.T1 : Bool × List (List Nat × List Nat) := (true, [([], []), ([0], [0]), ([1], [1]), ([], []), ([3], [3]), ([], []), ([5], [5]), ([4, 6], [4, 6]), ([7, 2], [7]), ([2, 8, 8], [2, 8]), ([9, 9, 0, 1, 2, 3, 4, 5, 6, 7, 8, 9], [9])])
def qaU.B1 : List Nat := [0, 1, 3, 0, 8, 0, 32, 120, 255, 511, 1023]
theorem qaU.tab1 : rtab .any (opsOf Try.f16 1) = qaU.T1 := by kernel_rfl
theorem qaU.bits1 : qcs qaU.T1.2 qaU.B1 = true := by kernel_rfl
set_option maxHeartbeats 8000000 in
set_option maxRecDepth 100000 in
theorem qaU.calls (k : Nat) (a0_0 : ByteArray) (a0_1 : ByteArray) (a0_2 : Int) (A0_3 : Option Addr) (c0_3 : Nat) (l0_3 : List (S56)) (a0_4 : Int) (r : Int) (w : World) (hr0_3 : Kd.C k56 w A0_3 l0_3.length l0_3) (hc0_3 : l0_3.length ≤ c0_3) (h : qaU.f k a0_0 a0_1 a0_2 l0_3 a0_4 = some r) :
  Calls Try.prog 16 #[.agg #[.string a0_0, .string a0_1, .int .i64 a0_2, .slice A0_3 l0_3.length c0_3, .int .i64 a0_4]] w fun e w' => e = .returned (.int .i64 r) ∧ Below w.heap.size w w' := by
 have hu41 := Try.underlying41
 have hu56 := Try.underlying56
 have HR0_3 := Aside0.mk hr0_3
 have HC0_3 := Aside0.mk hc0_3
 clear hr0_3 hc0_3
 have HB := Aside0.mk (Below.refl w.heap.size w)
 have H : ((qaG.f k a0_2 4).bind fun t228 => ((qbd.f (([a0_0, a0_1] : List ByteArray))).bind fun t234 => (if t228.length + t234.length < 140737488355328 then (qaU.l0 k (t228 ++ t234) 0 a0_0 a0_1 a0_2 l0_3 a0_4) else (none)))) = some r := h
 clear h
 replace H := Option.bind_eq_some_iff.mp H
 obtain ⟨t228, A20, H⟩ := H
 try dsimp only at H
 have A2 := Aside0.mk A20
 clear A20
 obtain ⟨y231, hy231⟩ : ∃ y_ : List ByteArray, y_ = (([a0_0, a0_1] : List ByteArray)) := ⟨_, rfl⟩
 replace H : ((qbd.f y231).bind fun t234 => (if t228.length + t234.length < 140737488355328 then (qaU.l0 k (t228 ++ t234) 0 a0_0 a0_1 a0_2 l0_3 a0_4) else (none))) = some r := by first | (rw [hy231]; with_reducible exact H) | (have H2_ := (Option.bind_some _ _).symm.trans H; rw [hy231]; with_reducible exact H2_) | (have H2_ := (Option.bind_some _ _).symm.trans H; with_reducible exact H2_) | with_reducible exact H | (rw [hy231]; exact H) | exact H
 have Ny231 := Aside0.mk hy231
 clear hy231
 replace H := Option.bind_eq_some_iff.mp H
 obtain ⟨t234, A30, H⟩ := H
 try dsimp only at H
 have A3 := Aside0.mk A30
 clear A30
 by_cases c4 : t228.length + t234.length < 140737488355328
 ·rw [if_pos c4] at H
  have LMc4 := Aside0.mk c4
  clear c4
  obtain ⟨y237, hy237⟩ : ∃ y_ : List Int, y_ = (t228 ++ t234) := ⟨_, rfl⟩
  replace H : (qaU.l0 k y237 0 a0_0 a0_1 a0_2 l0_3 a0_4) = some r := by first | (rw [hy237]; with_reducible exact H) | (have H2_ := (Option.bind_some _ _).symm.trans H; rw [hy237]; with_reducible exact H2_) | (have H2_ := (Option.bind_some _ _).symm.trans H; with_reducible exact H2_) | with_reducible exact H | (rw [hy237]; exact H) | exact H
  have Ny237 := Aside0.mk hy237
  clear hy237
  have H' := Aside0.mk H
  clear H
  go_enter Try.func16, Try.ntmps16
  try go_wp2_with (first | ((with_reducible refine qaM (N := 1) rfl ?_); refine qaN ?hg (N := 1) ?hd (cs := #[.string a0_0, .string a0_1, .int .i64 a0_2, .slice A0_3 l0_3.length c0_3, .int .i64 a0_4]) (t := 41) ?hr ?_; (case hd => rfl); (case hg => rfl); (case hr => first | (go_simp; done) | (go_simp; rfl)); intro gb227 hg w5 hbox hb; have n0_ := Aside0.mk (qag (by repeat (first | (with_reducible first | exact HB.out | apply qac | apply qaa | apply qab) | exact HB.out)) hb); have n1_ := Aside0.mk (hbox); have n2_ := Aside0.mk ((by rw [hg]; exact (qak (by repeat (first | (with_reducible first | exact HB.out | apply qac | apply qaa | apply qab) | exact HB.out))) : w.heap.size ≤ gb227)); have n3_ := Aside0.mk ((by rw [hg]; exact (qak (by repeat (first | (with_reducible first | exact HB.out | apply qac | apply qaa | apply qab) | exact HB.out))) : w.heap.size ≤ gb227)); clear HB; have HB := n0_; have BK227 := n1_; have GW227 := n2_; have GE227 := n3_; clear n0_ n1_ n2_ n3_; clear hb hbox hg))
  have n0_ := Aside0.mk (qal BK227.out)
  have n1_ := Aside0.mk (qab HB.out)
  clear BK227 HB
  have BK227 := n0_
  have HB := n1_
  clear n0_ n1_
  refine qen (n := 11) (S := fun w' => w'.cell? ⟨gb227, 0, none⟩ = some (.string a0_0) ∧ w'.cell? ⟨gb227, 1, none⟩ = some (.string a0_1) ∧ w'.cell? ⟨gb227, 2, none⟩ = some (.int .i64 a0_2) ∧ w'.cell? ⟨gb227, 3, none⟩ = some (.slice A0_3 l0_3.length c0_3) ∧ w'.cell? ⟨gb227, 4, none⟩ = some (.int .i64 a0_4)) (ds := []) #[false, false, false, false, false, false, false, false, false, false, false] (by kernel_rfl) rfl rfl ⟨(qad BK227.out 0).trans rfl, (qad BK227.out 1).trans rfl, (qad BK227.out 2).trans rfl, (qad BK227.out 3).trans rfl, (qad BK227.out 4).trans rfl⟩ (fun hHeld => ?_); refine qcV qaU.tab1 qaU.bits1 (fun HT_ HW_ => ?_)
  generalize w5.drew = w6 at BK227 HB hHeld ⊢
  refine qb1 (i := 0) (N := some 5) (v := ?_) (a' := ?_) #[true, false, false, false, false, false, false, false, false, false, false] rfl rfl (qbu HT_.out (by kernel_rfl)) (fun _ _ _ h => h) (Or.inl ⟨by rfl, ?_⟩) ?_ ?_
  rotate_left
  ·intro w'
   go_simp
   with_reducible rfl
  rotate_left
  ·simp only [Act.put, List.setIfInBounds_toArray, List.set_cons_zero, List.set_cons_succ, qbe, qbo]
   rfl
  refine qb1 (i := 3) (N := some 8) (v := ?_) (a' := ?_) #[true, false, false, true, false, false, false, false, false, false, false] rfl rfl (qbu HT_.out (by kernel_rfl)) (fun _ _ _ h => h) (Or.inl ⟨by rfl, ?_⟩) ?_ ?_
  rotate_left
  ·intro w'
   go_simp
   with_reducible rfl
  rotate_left
  ·simp only [Act.put, List.setIfInBounds_toArray, List.set_cons_zero, List.set_cons_succ, qbe, qbo]
   rfl
  refine qb1 (i := 5) (N := some 10) (v := ?_) (a' := ?_) #[true, false, false, true, false, true, false, false, false, false, false] rfl rfl (qbu HT_.out (by kernel_rfl)) (fun _ _ _ h => h) (Or.inl ⟨by rfl, ?_⟩) ?_ ?_
  rotate_left
  ·intro w'
   go_simp
   with_reducible rfl
  rotate_left
  ·simp only [Act.put, List.setIfInBounds_toArray, List.set_cons_zero, List.set_cons_succ, qbe, qbo]
   rfl
  refine qdK (i := 1) (N := some 6) (v := ?_) (a' := ?_) #[true, true, false, true, false, true, false, false, false, false, false] rfl rfl (qco HT_.out HW_.out (by kernel_rfl)) (fun _ _ _ h => h) (Or.inl ⟨by rfl, ?_⟩) hHeld ?_ ?_
  rotate_left
  ·rintro w' ⟨s0, s1, s2, s3, s4⟩
   go_simp
   with_reducible rfl
  rotate_left
  ·simp only [Act.put, List.setIfInBounds_toArray, List.set_cons_zero, List.set_cons_succ, qbe, qbo]
   rfl
  refine qdK (i := 4) (N := some 9) (v := ?_) (a' := ?_) #[true, true, false, true, true, true, false, false, false, false, false] rfl rfl (qco HT_.out HW_.out (by kernel_rfl)) (fun _ _ _ h => h) (Or.inl ⟨by rfl, ?_⟩) hHeld ?_ ?_
  rotate_left
  ·rintro w' ⟨s0, s1, s2, s3, s4⟩
   go_simp
   with_reducible rfl
  rotate_left
  ·simp only [Act.put, List.setIfInBounds_toArray, List.set_cons_zero, List.set_cons_succ, qbe, qbo]
   rfl
  refine qdK (i := 6) (N := some 11) (v := ?_) (a' := ?_) #[true, true, false, true, true, true, true, false, false, false, false] rfl rfl (qco HT_.out HW_.out (by kernel_rfl)) (fun _ _ _ h => h) (Or.inl ⟨by rfl, ?_⟩) hHeld ?_ ?_
  rotate_left
  ·rintro w' ⟨s0, s1, s2, s3, s4⟩
   go_simp
   with_reducible rfl
  rotate_left
  ·simp only [Act.put, List.setIfInBounds_toArray, List.set_cons_zero, List.set_cons_succ, qbe, qbo]
   rfl
  refine qfB (σ := Value × Value) 3 #[true, true, true, true, true, true, true, true, false, false, false] (fun s_ => [(7, s_.1), (12, s_.2)]) (fun s_ w' => (w'.cell? ⟨gb227, 0, none⟩ = some (.string a0_0) ∧ w'.cell? ⟨gb227, 1, none⟩ = some (.string a0_1) ∧ w'.cell? ⟨gb227, 2, none⟩ = some (.int .i64 a0_2) ∧ w'.cell? ⟨gb227, 3, none⟩ = some (.slice A0_3 l0_3.length c0_3) ∧ w'.cell? ⟨gb227, 4, none⟩ = some (.int .i64 a0_4)) ∧ (Kd.R (Kd.int .u8) 5 w' w.heap.size (fun _ => True) s_.1 t228) ∧ (Kd.R Kd.string 9 w' w.heap.size (fun _ => True) s_.2 y231) ∧ (w'.heap[gb227]? = some (.cells #[.string a0_0, .string a0_1, .int .i64 a0_2, .slice A0_3 l0_3.length c0_3, .int .i64 a0_4] 41 (0, 0))) ∧ (Below w.heap.size w w')) ?_ ?_
  rotate_left
  ·intro hCont
   refine two_ (i := 2) (j := 7) (Ni := some 7) (Nj := some 12) #[true, true, true, true, true, true, true, false, false, false, false] #[true, true, false, true, true, true, true, true, false, false, false] rfl rfl rfl rfl (qgo HT_.out (by kernel_rfl)) (by decide) (by decide) (fun K hK => ?_) (fun K hK => ?_)
   ·skip
    refine qdg Try.func31 (by kernel_rfl) rfl #[.int .i64 a0_2, .int .i64 4] (by rfl) rfl rfl (by (try simp only [List.map_toArray, List.map_cons, List.map_nil]); first | done | rfl | (simp only [List.length_drop, List.length_take]; rfl)) ?_
    with_reducible refine (qaG.calls k a0_2 4 t228 _ A2.out).mono ?_
    rintro e w7 ⟨v229, rfl, ho0, hb⟩
    refine ⟨_, rfl, ?_⟩
    have n0_ := Aside0.mk (Kd.qbh ho0 (qak (by repeat (first | (with_reducible first | exact HB.out | apply qac | apply qaa | apply qab | refine qah ?_ GE227.out) | exact HB.out))))
    have n1_ := Aside0.mk (qao (g := gb227) (o := .cells #[.string a0_0, .string a0_1, .int .i64 a0_2, .slice A0_3 l0_3.length c0_3, .int .i64 a0_4] 41 (0, 0)) (by (with_reducible repeat (first | refine qaj ?_ _ | refine qal ?_ | refine qai ?_ _)); exact BK227.out) hb)
    have n2_ := Aside0.mk (qag (by repeat (first | (with_reducible first | exact HB.out | apply qac | apply qaa | apply qab | refine qah ?_ GE227.out) | exact HB.out)) hb)
    clear BK227 HB
    have HO230 := n0_
    have BK227 := n1_
    have HB := n2_
    clear n0_ n1_ n2_
    (try clear hb)
    (try clear hb2)
    (try clear hk)
    (try clear hi)
    (try clear ho0)
    refine hK.out _ _ ⟨(qad BK227.out 0).trans rfl, (qad BK227.out 1).trans rfl, (qad BK227.out 2).trans rfl, (qad BK227.out 3).trans rfl, (qad BK227.out 4).trans rfl⟩ (fun hHeld => ?_)
    clear hK K
    refine qb5 (a' := ?_) ?_ ?_
    rotate_left
    ·show Act.put _ (some 7) _ = _
     simp only [Act.put, List.setIfInBounds_toArray, List.set_cons_zero, List.set_cons_succ, qbe, qbo]
     rfl
    refine one_ (i := 7) (N := some 12) #[true, true, true, true, true, true, true, true, false, false, false] rfl rfl (qdc HT_.out (by kernel_rfl)) (by decide) (fun K hK => ?_)
    refine Kd.qci Kd.string _ 9 ?hg (N := 12) ?hd (xs := ([a0_0, a0_1] : List ByteArray)) (inner := [.string a0_0, .string a0_1]) (ok := fun _ => True) (okp := fun _ => True) ?hr ?hp (fun _ hk => hk) trivial (Below.refl _ _) (Nat.le_refl _) (by simp) ?_; (case hd => rfl); (case hg => rfl); (case hr => first | (go_simp; done) | (go_simp; rfl)); (case hp => exact (Reps.one (show Kd.M Kd.string _ _ _ a0_0 [.string a0_0] from rfl) (Reps.one (show Kd.M Kd.string _ _ _ a0_1 [.string a0_1] from rfl) (Reps.none _ _))))
    intro v232 w8 ho9 hb hg_ hnew_
    clear hg_ hnew_
    (first | rw [← Ny231.out] at ho9 | (simp only [Int.reduceToNat] at ho9; rw [← Ny231.out] at ho9))
    have n0_ := Aside0.mk (Kd.qaX (by (with_reducible repeat (first | apply Kd.qar | apply Kd.qas | apply Kd.qaD)); exact HO230.out) hb)
    have n1_ := Aside0.mk (Kd.qbh ho9 (qak (by repeat (first | (with_reducible first | exact HB.out | apply qac | apply qaa | apply qab | refine qah ?_ GE227.out) | exact HB.out))))
    have n2_ := Aside0.mk (qao (g := gb227) (o := .cells #[.string a0_0, .string a0_1, .int .i64 a0_2, .slice A0_3 l0_3.length c0_3, .int .i64 a0_4] 41 (0, 0)) (by (with_reducible repeat (first | refine qaj ?_ _ | refine qal ?_ | refine qai ?_ _)); exact BK227.out) hb)
    have n3_ := Aside0.mk (qag (by repeat (first | (with_reducible first | exact HB.out | apply qac | apply qaa | apply qab | refine qah ?_ GE227.out) | exact HB.out)) hb)
    clear HO230 BK227 HB
    have HO230 := n0_
    have HO233 := n1_
    have BK227 := n2_
    have HB := n3_
    clear n0_ n1_ n2_ n3_ hb ho9
    refine hK.out _ _ ⟨(qad BK227.out 0).trans rfl, (qad BK227.out 1).trans rfl, (qad BK227.out 2).trans rfl, (qad BK227.out 3).trans rfl, (qad BK227.out 4).trans rfl⟩ (fun hHeld => ?_)
    clear hK K
    refine qb5 (a' := ?_) ?_ ?_
    rotate_left
    ·show Act.put _ (some 12) _ = _
     simp only [Act.put, List.setIfInBounds_toArray, List.set_cons_zero, List.set_cons_succ, qbe, qbo]
     rfl
    exact qb5 (by simp only [qbS, Act.put, List.setIfInBounds_toArray, List.set_cons_zero, List.set_cons_succ]) (hCont (v229, v232) _ ⟨hHeld, (by (with_reducible repeat (first | apply Kd.qar | apply Kd.qas | apply Kd.qaD)); exact HO230.out), (by (with_reducible repeat (first | apply Kd.qar | apply Kd.qas | apply Kd.qaD)); exact HO233.out), (by (with_reducible repeat (first | refine qaj ?_ _ | refine qal ?_ | refine qai ?_ _)); exact BK227.out), (by repeat (first | (with_reducible first | exact HB.out | apply qac | apply qaa | apply qab | refine qah ?_ GE227.out) | exact HB.out))⟩)
   ·skip
    refine Kd.qci Kd.string _ 9 ?hg (N := 12) ?hd (xs := ([a0_0, a0_1] : List ByteArray)) (inner := [.string a0_0, .string a0_1]) (ok := fun _ => True) (okp := fun _ => True) ?hr ?hp (fun _ hk => hk) trivial (Below.refl _ _) (Nat.le_refl _) (by simp) ?_; (case hd => rfl); (case hg => rfl); (case hr => first | (go_simp; done) | (go_simp; rfl)); (case hp => exact (Reps.one (show Kd.M Kd.string _ _ _ a0_0 [.string a0_0] from rfl) (Reps.one (show Kd.M Kd.string _ _ _ a0_1 [.string a0_1] from rfl) (Reps.none _ _))))
    intro v232 w7 ho8 hb hg_ hnew_
    clear hg_ hnew_
    (first | rw [← Ny231.out] at ho8 | (simp only [Int.reduceToNat] at ho8; rw [← Ny231.out] at ho8))
    have n0_ := Aside0.mk (Kd.qbh ho8 (qak (by repeat (first | (with_reducible first | exact HB.out | apply qac | apply qaa | apply qab | refine qah ?_ GE227.out) | exact HB.out))))
    have n1_ := Aside0.mk (qao (g := gb227) (o := .cells #[.string a0_0, .string a0_1, .int .i64 a0_2, .slice A0_3 l0_3.length c0_3, .int .i64 a0_4] 41 (0, 0)) (by (with_reducible repeat (first | refine qaj ?_ _ | refine qal ?_ | refine qai ?_ _)); exact BK227.out) hb)
    have n2_ := Aside0.mk (qag (by repeat (first | (with_reducible first | exact HB.out | apply qac | apply qaa | apply qab | refine qah ?_ GE227.out) | exact HB.out)) hb)
    clear BK227 HB
    have HO233 := n0_
    have BK227 := n1_
    have HB := n2_
    clear n0_ n1_ n2_ hb ho8
    refine hK.out _ _ ⟨(qad BK227.out 0).trans rfl, (qad BK227.out 1).trans rfl, (qad BK227.out 2).trans rfl, (qad BK227.out 3).trans rfl, (qad BK227.out 4).trans rfl⟩ (fun hHeld => ?_)
    clear hK K
    refine qb5 (a' := ?_) ?_ ?_
    rotate_left
    ·show Act.put _ (some 12) _ = _
     simp only [Act.put, List.setIfInBounds_toArray, List.set_cons_zero, List.set_cons_succ, qbe, qbo]
     rfl
    refine one_ (i := 2) (N := some 7) #[true, true, true, true, true, true, true, true, false, false, false] rfl rfl (qdc HT_.out (by kernel_rfl)) (by decide) (fun K hK => ?_)
    refine qdg Try.func31 (by kernel_rfl) rfl #[.int .i64 a0_2, .int .i64 4] (by rfl) rfl rfl (by (try simp only [List.map_toArray, List.map_cons, List.map_nil]); first | done | rfl | (simp only [List.length_drop, List.length_take]; rfl)) ?_
    with_reducible refine (qaG.calls k a0_2 4 t228 _ A2.out).mono ?_
    rintro e w9 ⟨v229, rfl, ho0, hb⟩
    refine ⟨_, rfl, ?_⟩
    have n0_ := Aside0.mk (Kd.qaX (by (with_reducible repeat (first | apply Kd.qar | apply Kd.qas | apply Kd.qaD)); exact HO233.out) hb)
    have n1_ := Aside0.mk (Kd.qbh ho0 (qak (by repeat (first | (with_reducible first | exact HB.out | apply qac | apply qaa | apply qab | refine qah ?_ GE227.out) | exact HB.out))))
    have n2_ := Aside0.mk (qao (g := gb227) (o := .cells #[.string a0_0, .string a0_1, .int .i64 a0_2, .slice A0_3 l0_3.length c0_3, .int .i64 a0_4] 41 (0, 0)) (by (with_reducible repeat (first | refine qaj ?_ _ | refine qal ?_ | refine qai ?_ _)); exact BK227.out) hb)
    have n3_ := Aside0.mk (qag (by repeat (first | (with_reducible first | exact HB.out | apply qac | apply qaa | apply qab | refine qah ?_ GE227.out) | exact HB.out)) hb)
    clear HO233 BK227 HB
    have HO233 := n0_
    have HO230 := n1_
    have BK227 := n2_
    have HB := n3_
    clear n0_ n1_ n2_ n3_
    (try clear hb)
    (try clear hb2)
    (try clear hk)
    (try clear hi)
    (try clear ho0)
    refine hK.out _ _ ⟨(qad BK227.out 0).trans rfl, (qad BK227.out 1).trans rfl, (qad BK227.out 2).trans rfl, (qad BK227.out 3).trans rfl, (qad BK227.out 4).trans rfl⟩ (fun hHeld => ?_)
    clear hK K
    refine qb5 (a' := ?_) ?_ ?_
    rotate_left
    ·show Act.put _ (some 7) _ = _
     simp only [Act.put, List.setIfInBounds_toArray, List.set_cons_zero, List.set_cons_succ, qbe, qbo]
     rfl
    exact qb5 (by simp only [qbS, Act.put, List.setIfInBounds_toArray, List.set_cons_zero, List.set_cons_succ]) (hCont (v229, v232) _ ⟨hHeld, (by (with_reducible repeat (first | apply Kd.qar | apply Kd.qas | apply Kd.qaD)); exact HO230.out), (by (with_reducible repeat (first | apply Kd.qar | apply Kd.qas | apply Kd.qaD)); exact HO233.out), (by (with_reducible repeat (first | refine qaj ?_ _ | refine qal ?_ | refine qai ?_ _)); exact BK227.out), (by repeat (first | (with_reducible first | exact HB.out | apply qac | apply qaa | apply qab | refine qah ?_ GE227.out) | exact HB.out))⟩)
  rintro ⟨v229, v232⟩ w10 ⟨hS_, h0_, h1_, h2_, h3_⟩
  have n0_ : Aside0 (Kd.R (Kd.int .u8) 5 w10 w.heap.size (fun _ => True) v229 t228) := ⟨h0_⟩
  have n1_ : Aside0 (Kd.R Kd.string 9 w10 w.heap.size (fun _ => True) v232 y231) := ⟨h1_⟩
  have n2_ : Aside0 (w10.heap[gb227]? = some (.cells #[.string a0_0, .string a0_1, .int .i64 a0_2, .slice A0_3 l0_3.length c0_3, .int .i64 a0_4] 41 (0, 0))) := ⟨h2_⟩
  have n3_ : Aside0 (Below w.heap.size w w10) := ⟨h3_⟩
  clear BK227 HB h0_ h1_ h2_ h3_
  have HO230 := n0_
  have HO233 := n1_
  have BK227 := n2_
  have HB := n3_
  clear n0_ n1_ n2_ n3_
  have hHeld : w10.cell? ⟨gb227, 0, none⟩ = some (.string a0_0) ∧ w10.cell? ⟨gb227, 1, none⟩ = some (.string a0_1) ∧ w10.cell? ⟨gb227, 2, none⟩ = some (.int .i64 a0_2) ∧ w10.cell? ⟨gb227, 3, none⟩ = some (.slice A0_3 l0_3.length c0_3) ∧ w10.cell? ⟨gb227, 4, none⟩ = some (.int .i64 a0_4) := hS_
  obtain ⟨Ao11, co11, eo11⟩ := Kd.qbN HO233.out
  (first | subst eo11 | (injection eo11 with f1_ f2_ f3_; have f4_ := f1_.symm; have f5_ := f3_.symm; clear f1_ f2_ f3_; subst f4_; subst f5_))
  refine qb5 (a' := ?_) ?_ ?_
  rotate_left
  ·simp only [qbS, Act.put, List.setIfInBounds_toArray, List.set_cons_zero, List.set_cons_succ]
   rfl
  refine one_ (i := 8) (N := some 13) #[true, true, true, true, true, true, true, true, true, false, false] rfl rfl (qdc HT_.out (by kernel_rfl)) (by decide) (fun K hK => ?_)
  refine qdg Try.func32 (by kernel_rfl) rfl #[.slice Ao11 y231.length co11] (by rfl) rfl rfl (by (try simp only [List.map_toArray, List.map_cons, List.map_nil]); first | done | rfl | (simp only [List.length_drop, List.length_take]; rfl)) ?_
  with_reducible refine (qbd.calls _ _ y231 t234 _ ?side1 ?side2 A3.out).mono ?_
  (case side1 => repeat (first | exact (Kd.qaO HO233.out).2.2 | (with_reducible refine Kd.qa9 ?_ _) | (with_reducible refine Kd.qba ?_ _) | (with_reducible refine Kd.qbl ?_)))
  (case side2 => exact (Kd.qaO HO233.out).2.1)
  rintro e w12 ⟨v235, rfl, ho0, hb⟩
  refine ⟨_, rfl, ?_⟩
  have n0_ := Aside0.mk (Kd.qch (by (with_reducible repeat (first | apply Kd.qar | apply Kd.qas | apply Kd.qaD)); exact HO230.out) (Kd.qcT ho0) hb)
  have n1_ := Aside0.mk (Kd.qaX (by (with_reducible repeat (first | apply Kd.qar | apply Kd.qas | apply Kd.qaD)); exact HO233.out) hb)
  have n2_ := Aside0.mk (Kd.qbh (Kd.qdb ho0 (Kd.R_lt (by (with_reducible repeat (first | apply Kd.qar | apply Kd.qas | apply Kd.qaD)); exact HO230.out))) (qak (by repeat (first | (with_reducible first | exact HB.out | apply qac | apply qaa | apply qab | refine qah ?_ GE227.out) | exact HB.out))))
  have n3_ := Aside0.mk (qao (g := gb227) (o := .cells #[.string a0_0, .string a0_1, .int .i64 a0_2, .slice A0_3 l0_3.length c0_3, .int .i64 a0_4] 41 (0, 0)) (by (with_reducible repeat (first | refine qaj ?_ _ | refine qal ?_ | refine qai ?_ _)); exact BK227.out) hb)
  have n4_ := Aside0.mk (qag (by repeat (first | (with_reducible first | exact HB.out | apply qac | apply qaa | apply qab | refine qah ?_ GE227.out) | exact HB.out)) hb)
  clear HO230 HO233 BK227 HB
  have HO230 := n0_
  have HO233 := n1_
  have HO236 := n2_
  have BK227 := n3_
  have HB := n4_
  clear n0_ n1_ n2_ n3_ n4_
  (try clear hb)
  (try clear hb2)
  (try clear hk)
  (try clear hi)
  (try clear ho0)
  obtain ⟨Ao14, co14, eo14⟩ := Kd.qbN HO236.out
  (first | subst eo14 | (injection eo14 with f1_ f2_ f3_; have f4_ := f1_.symm; have f5_ := f3_.symm; clear f1_ f2_ f3_; subst f4_; subst f5_))
  refine hK.out _ _ ⟨(qad BK227.out 0).trans rfl, (qad BK227.out 1).trans rfl, (qad BK227.out 2).trans rfl, (qad BK227.out 3).trans rfl, (qad BK227.out 4).trans rfl⟩ (fun hHeld => ?_)
  clear hK K
  refine qb5 (a' := ?_) ?_ ?_
  rotate_left
  ·show Act.put _ (some 13) _ = _
   simp only [Act.put, List.setIfInBounds_toArray, List.set_cons_zero, List.set_cons_succ, qbe, qbo]
   rfl
  refine one_ (i := 9) (N := some 14) #[true, true, true, true, true, true, true, true, true, true, false] rfl rfl (qdc HT_.out (by kernel_rfl)) (by decide) (fun K hK => ?_)
  refine Kd.qcB (Kd.int .u8) (w0 := w) w.heap.size (by rfl) (.tmp 7) (.tmp 13) 59 5 (.int .u8 0) 1 rfl Try.underlying59 info5 rfl (by decide) (by omega) v229 t228 t234 _ _ _ (fun k_ => some k_ ≠ (.slice Ao14 t234.length co14 : Value).ownBlock) (fun _ => False) rfl rfl ?aO ?aR (fun _ _ h => h) (fun _ h => h.elim) ?aF ?aB ?aS ?aL ?_
  (case aR => repeat (first | exact (Kd.qaO HO236.out).2.2 | (with_reducible refine Kd.qa9 ?_ _) | (with_reducible refine Kd.qba ?_ _) | (with_reducible refine Kd.qbl ?_)))
  (case aB => exact (by repeat (first | (with_reducible first | exact HB.out | apply qac | apply qaa | apply qab | refine qah ?_ GE227.out) | exact HB.out)))
  (case aF => exact (fun k_ hk => Kd.fresh' (Kd.R_lt (by (with_reducible repeat (first | apply Kd.qar | apply Kd.qas | apply Kd.qaD)); exact HO236.out)) k_ hk))
  (case aO => exact (by (with_reducible repeat (first | apply Kd.qar | apply Kd.qas | apply Kd.qaD)); exact Kd.qbr HO230.out (fun _ hk => hk.2)))
  (case aS => exact (qak (by repeat (first | (with_reducible first | exact HB.out | apply qac | apply qaa | apply qab | refine qah ?_ GE227.out) | exact HB.out))))
  (case aL => have := LMc4.out; omega)
  intro v238 w13 ho hb hg hat
  rw [← Ny237.out] at ho
  have n0_ := Aside0.mk (qdj (g := gb227) (o := .cells #[.string a0_0, .string a0_1, .int .i64 a0_2, .slice A0_3 l0_3.length c0_3, .int .i64 a0_4] 41 (0, 0)) (by (with_reducible repeat (first | refine qaj ?_ _ | refine qal ?_ | refine qai ?_ _)); exact BK227.out) hg (Kd.R_ne HO230.out BK227.out (by decide)))
  have n1_ := Aside0.mk (Kd.qgR (by (with_reducible repeat (first | apply Kd.qar | apply Kd.qas | apply Kd.qaD)); exact HO233.out) (Kd.qfT (by (with_reducible repeat (first | apply Kd.qar | apply Kd.qas | apply Kd.qaD)); exact HO230.out)) (by decide) hg)
  have n2_ := Aside0.mk (Kd.qeU (ok := (fun _ => True)) (by (with_reducible repeat (first | apply Kd.qar | apply Kd.qas | apply Kd.qaD)); exact HO236.out) hg hat)
  have n3_ := Aside0.mk (hb)
  have n4_ := Aside0.mk (ho)
  clear BK227 HO233 HO236 HB HO230
  have BK227 := n0_
  have HO233 := n1_
  have HO236 := n2_
  have HB := n3_
  have HO239 := n4_
  clear n0_ n1_ n2_ n3_ n4_ ho hb hg hat
  refine hK.out _ _ ⟨(qad BK227.out 0).trans rfl, (qad BK227.out 1).trans rfl, (qad BK227.out 2).trans rfl, (qad BK227.out 3).trans rfl, (qad BK227.out 4).trans rfl⟩ (fun hHeld => ?_)
  clear hK K
  refine qb5 (a' := ?_) ?_ ?_
  rotate_left
  ·show Act.put _ (some 14) _ = _
   simp only [Act.put, List.setIfInBounds_toArray, List.set_cons_zero, List.set_cons_succ, qbe, qbo]
   rfl
  refine qb1 (i := 10) (N := some 3) (v := ?_) (a' := ?_) #[true, true, true, true, true, true, true, true, true, true, true] rfl rfl (qbu HT_.out (by kernel_rfl)) (fun _ _ _ h => h) (Or.inl ⟨by rfl, ?_⟩) ?_ ?_
  rotate_left
  ·intro w'
   go_simp
   with_reducible rfl
  rotate_left
  ·simp only [Act.put, List.setIfInBounds_toArray, List.set_cons_zero, List.set_cons_succ, qbe, qbo]
   rfl
  refine qgS (qeb HT_.out (by kernel_rfl)) ?_
  try go_wp2
  go_loopg [3, 4] k (fun kq v3 v4 w' => ∃ (x3_1 : List Int) (x4_1 : Int), v4 = .int .i64 x4_1 ∧ Aside0 (qaU.l0 kq x3_1 x4_1 a0_0 a0_1 a0_2 l0_3 a0_4 = some r) ∧ Aside0 (kq ≤ k) ∧ Aside0 (Kd.R (Kd.int .u8) 5 w' w.heap.size (fun _ => True) v3 x3_1) ∧ Aside0 (w'.heap[gb227]? = some (.cells #[.string a0_0, .string a0_1, .int .i64 a0_2, (.slice A0_3 l0_3.length c0_3), .int .i64 a0_4] 41 (0, 0))) ∧ Aside0 (Below w.heap.size w w'))
  case atStart => exact ⟨(y237), (0), (by first | rfl | (simp; done) | (simp [*]; done)), H', ⟨Nat.le_refl _⟩, ⟨by (with_reducible repeat (first | apply Kd.qar | apply Kd.qas | apply Kd.qaD)); exact Kd.qbr HO239.out (fun _ hk => trivial)⟩, ⟨by (with_reducible repeat (first | refine qaj ?_ _ | refine qal ?_ | refine qai ?_ _)); exact BK227.out⟩, ⟨by repeat (first | (with_reducible first | exact HB.out | apply qac | apply qaa | apply qab | refine qah ?_ GE227.out) | exact HB.out)⟩⟩
  case round =>
   clear H'
   try clear c1
   try clear p2
   try clear c3
   try clear c4
   obtain ⟨x3_1, x4_1, rfl, HA, HK1, HO_3, BK227, HB⟩ := hrel
   cases gk with
   | zero => exact absurd HA.out (by simp [qaU.l0])
   | succ k1 =>
    have H := HA.out
    clear HA
    simp only [qaU.l0] at H
    by_cases c15 : x4_1 < (l0_3.length : Int)
    ·rw [if_pos c15] at H
     have c15b0 : decide (x4_1 < (l0_3.length : Int)) = true := decide_eq_true c15
     clear c15
     by_cases c16 : 0 ≤ x4_1
     ·rw [if_pos c16] at H
      have c16b0 : decide (0 ≤ x4_1) = true := decide_eq_true c16
      clear c16
      replace H := Option.bind_eq_some_iff.mp H
      obtain ⟨t241, A170, H⟩ := H
      try dsimp only at H
      have A17 := Aside0.mk A170
      clear A170
      by_cases c18 : x3_1.length + t241.length < 140737488355328
      ·rw [if_pos c18] at H
       have LMc18 := Aside0.mk c18
       clear c18
       obtain ⟨y244, hy244⟩ : ∃ y_ : List Int, y_ = (x3_1 ++ t241) := ⟨_, rfl⟩
       replace H : (qaU.l0 k1 y244 (wrap64 (x4_1 + 1)) a0_0 a0_1 a0_2 l0_3 a0_4) = some r := by first | (rw [hy244]; with_reducible exact H) | (have H2_ := (Option.bind_some _ _).symm.trans H; rw [hy244]; with_reducible exact H2_) | (have H2_ := (Option.bind_some _ _).symm.trans H; with_reducible exact H2_) | with_reducible exact H | (rw [hy244]; exact H) | exact H
       have Ny244 := Aside0.mk hy244
       clear hy244
       have H' := Aside0.mk H
       clear H
       have hcz19_0 : wr.cell? ⟨gb227, 0, none⟩ = some (.string a0_0) := (qad BK227.out 0).trans rfl
       have hcz19_1 : wr.cell? ⟨gb227, 1, none⟩ = some (.string a0_1) := (qad BK227.out 1).trans rfl
       have hcz19_2 : wr.cell? ⟨gb227, 2, none⟩ = some (.int .i64 a0_2) := (qad BK227.out 2).trans rfl
       have hcz19_3 : wr.cell? ⟨gb227, 3, none⟩ = some (.slice A0_3 l0_3.length c0_3) := (qad BK227.out 3).trans rfl
       have hcz19_4 : wr.cell? ⟨gb227, 4, none⟩ = some (.int .i64 a0_4) := (qad BK227.out 4).trans rfl
       have hfz19_0 := qae BK227.out 0
       have hfz19_1 := qae BK227.out 1
       have hfz19_2 := qae BK227.out 2
       have hfz19_3 := qae BK227.out 3
       have hfz19_4 := qae BK227.out 4
       have p240 : 0 ≤ (x4_1 : Int) := of_decide_eq_true (by first | (with_reducible assumption) | assumption)
       have q240 : x4_1 < (l0_3.length : Int) := of_decide_eq_true (by first | (with_reducible assumption) | assumption)
       obtain ⟨ad240, e240, hx240_0, hx240_1, hx240_2, hx240_3, hx240_4⟩ := qdd HR0_3.out x4_1 p240 q240
       cases e240
       replace hx240_0 := (HB.out.cell (World.block_lt_of_cell? w _ hx240_0)).trans hx240_0
       replace hx240_1 := (HB.out.cell (World.block_lt_of_cell? w _ hx240_1)).trans hx240_1
       replace hx240_2 := (HB.out.cell (World.block_lt_of_cell? w _ hx240_2)).trans hx240_2
       replace hx240_3 := (HB.out.cell (World.block_lt_of_cell? w _ hx240_3)).trans hx240_3
       replace hx240_4 := (HB.out.cell (World.block_lt_of_cell? w _ hx240_4)).trans hx240_4
       replace p240 := eq_true p240
       replace q240 := eq_true q240
       go_wp2_with (first | ((with_reducible refine qaE (f := 33) rfl ?_); refine qbn (some 28) rfl rfl Try.func33 (by kernel_rfl) rfl #[.agg #[.string ((qaf l0_3 x4_1).f0), .string ((qaf l0_3 x4_1).f1), .string ((qaf l0_3 x4_1).f2), .bool ((qaf l0_3 x4_1).f3), .bool ((qaf l0_3 x4_1).f4)]] rfl (by (try simp only [List.map_toArray, List.map_cons, List.map_nil]); first | done | rfl | (simp only [List.length_drop, List.length_take]; rfl)) ?_; (with_reducible refine (qbF.calls ((qaf l0_3 x4_1).f0) ((qaf l0_3 x4_1).f1) ((qaf l0_3 x4_1).f2) ((qaf l0_3 x4_1).f3) ((qaf l0_3 x4_1).f4) t241 _ A17.out).mono ?_); rintro e w20 ⟨v242, rfl, ho0, hb⟩; refine ⟨_, rfl, ?_⟩; have n0_ := Aside0.mk (Kd.qch (by (with_reducible repeat (first | apply Kd.qar | apply Kd.qas | apply Kd.qaD)); exact HO_3.out) (Kd.qcT ho0) hb); have n1_ := Aside0.mk (Kd.qbh (Kd.qdb ho0 (Kd.R_lt (by (with_reducible repeat (first | apply Kd.qar | apply Kd.qas | apply Kd.qaD)); exact HO_3.out))) (qak (by repeat (first | (with_reducible first | exact HB.out | apply qac | apply qaa | apply qab | refine qah ?_ GE227.out) | exact HB.out)))); have n2_ := Aside0.mk (qao (g := gb227) (o := .cells #[.string a0_0, .string a0_1, .int .i64 a0_2, .slice (some ad240) l0_3.length c0_3, .int .i64 a0_4] 41 (0, 0)) (by (with_reducible repeat (first | refine qaj ?_ _ | refine qal ?_ | refine qai ?_ _)); exact BK227.out) hb); have n3_ := Aside0.mk (qag (by repeat (first | (with_reducible first | exact HB.out | apply qac | apply qaa | apply qab | refine qah ?_ GE227.out) | exact HB.out)) hb); clear HO_3 BK227 HB; have HO_3 := n0_; have HO243 := n1_; have BK227 := n2_; have HB := n3_; clear n0_ n1_ n2_ n3_; (try clear hb); (try clear hb2); (try clear hk); (try clear hi); (try clear ho0); obtain ⟨Ao22, co22, eo22⟩ := Kd.qbN HO243.out; subst eo22) | ((with_reducible refine qbC (b := .append) (xs := #[.tmp 22, .tmp 28]) rfl ?_); at_builtin; refine Kd.qbQ (Kd.int .u8) (w0 := w) w.heap.size rfl (.tmp 22) (.tmp 28) 59 5 (.int .u8 0) 1 rfl Try.underlying59 info5 rfl (by decide) (by omega) u3 x3_1 t241 _ _ _ (fun k_ => some k_ ≠ (.slice Ao22 t241.length co22 : Value).ownBlock) (fun _ => False) rfl rfl ?aO ?aR (fun _ _ h => h) (fun _ h => h.elim) ?aF ?aB ?aS ?aL ?_; (case aR => repeat (first | exact (Kd.qaO HO243.out).2.2 | (with_reducible refine Kd.qa9 ?_ _) | (with_reducible refine Kd.qba ?_ _) | (with_reducible refine Kd.qbl ?_))); (case aB => exact (by repeat (first | (with_reducible first | exact HB.out | apply qac | apply qaa | apply qab | refine qah ?_ GE227.out) | exact HB.out))); (case aF => exact (fun k_ hk => Kd.fresh' (Kd.R_lt (by (with_reducible repeat (first | apply Kd.qar | apply Kd.qas | apply Kd.qaD)); exact HO243.out)) k_ hk)); (case aO => exact (by (with_reducible repeat (first | apply Kd.qar | apply Kd.qas | apply Kd.qaD)); exact Kd.qbr HO_3.out (fun _ hk => hk.2))); (case aS => exact (qak (by repeat (first | (with_reducible first | exact HB.out | apply qac | apply qaa | apply qab | refine qah ?_ GE227.out) | exact HB.out)))); (case aL => have := LMc18.out; omega); intro v245 w21 ho hb hg hat; rw [← Ny244.out] at ho; have n0_ := Aside0.mk (qdj (g := gb227) (o := .cells #[.string a0_0, .string a0_1, .int .i64 a0_2, .slice (some ad240) l0_3.length c0_3, .int .i64 a0_4] 41 (0, 0)) (by (with_reducible repeat (first | refine qaj ?_ _ | refine qal ?_ | refine qai ?_ _)); exact BK227.out) hg (Kd.R_ne HO_3.out BK227.out (by decide))); have n1_ := Aside0.mk (Kd.qeU (ok := (fun _ => True)) (by (with_reducible repeat (first | apply Kd.qar | apply Kd.qas | apply Kd.qaD)); exact HO243.out) hg hat); have n2_ := Aside0.mk (hb); have n3_ := Aside0.mk (ho); clear BK227 HO243 HB HO_3; have BK227 := n0_; have HO243 := n1_; have HB := n2_; have HO246 := n3_; clear n0_ n1_ n2_ n3_; clear ho hb hg hat))
       go_roundg k1
       case measure => have := HK1.out; omega
       case rel => exact ⟨(y244), (wrap64 (x4_1 + 1)), (by first | rfl | (simp; done) | (simp [*]; done)), H', ⟨by have := HK1.out; omega⟩, ⟨by (with_reducible repeat (first | apply Kd.qar | apply Kd.qas | apply Kd.qaD)); exact Kd.qbr HO246.out (fun _ hk => trivial)⟩, ⟨by (with_reducible repeat (first | refine qaj ?_ _ | refine qal ?_ | refine qai ?_ _)); exact BK227.out⟩, ⟨by repeat (first | (with_reducible first | exact HB.out | apply qac | apply qaa | apply qab | refine qah ?_ GE227.out) | exact HB.out)⟩⟩
      ·rw [if_neg c18] at H
       exact absurd H (by simp)
     ·rw [if_neg c16] at H
      exact absurd H (by simp)
    ·rw [if_neg c15] at H
     have c15b0 : decide (x4_1 < (l0_3.length : Int)) = false := decide_eq_false c15
     clear c15
     replace H := Option.bind_eq_some_iff.mp H
     obtain ⟨t247, A230, H⟩ := H
     try dsimp only at H
     have A23 := Aside0.mk A230
     clear A230
     by_cases c24 : x3_1.length + t247.length < 140737488355328
     ·rw [if_pos c24] at H
      have LMc24 := Aside0.mk c24
      clear c24
      obtain ⟨y250, hy250⟩ : ∃ y_ : List Int, y_ = (x3_1 ++ t247) := ⟨_, rfl⟩
      replace H : ((qbX.f y250).bind fun t253 => (some t253)) = some r := by first | (rw [hy250]; with_reducible exact H) | (have H2_ := (Option.bind_some _ _).symm.trans H; rw [hy250]; with_reducible exact H2_) | (have H2_ := (Option.bind_some _ _).symm.trans H; with_reducible exact H2_) | with_reducible exact H | (rw [hy250]; exact H) | exact H
      have Ny250 := Aside0.mk hy250
      clear hy250
      replace H := Option.bind_eq_some_iff.mp H
      obtain ⟨t253, A250, H⟩ := H
      try dsimp only at H
      have A25 := Aside0.mk A250
      clear A250
      obtain rfl := Option.some.inj H
      have hcz26_0 : wr.cell? ⟨gb227, 0, none⟩ = some (.string a0_0) := (qad BK227.out 0).trans rfl
      have hcz26_1 : wr.cell? ⟨gb227, 1, none⟩ = some (.string a0_1) := (qad BK227.out 1).trans rfl
      have hcz26_2 : wr.cell? ⟨gb227, 2, none⟩ = some (.int .i64 a0_2) := (qad BK227.out 2).trans rfl
      have hcz26_3 : wr.cell? ⟨gb227, 3, none⟩ = some (.slice A0_3 l0_3.length c0_3) := (qad BK227.out 3).trans rfl
      have hcz26_4 : wr.cell? ⟨gb227, 4, none⟩ = some (.int .i64 a0_4) := (qad BK227.out 4).trans rfl
      have hfz26_0 := qae BK227.out 0
      have hfz26_1 := qae BK227.out 1
      have hfz26_2 := qae BK227.out 2
      have hfz26_3 := qae BK227.out 3
      have hfz26_4 := qae BK227.out 4
      go_wp2_with (first | ((with_reducible refine qaE (f := 31) rfl ?_); refine qbn (some 33) rfl rfl Try.func31 (by kernel_rfl) rfl #[.int .i64 a0_4, .int .i64 4] rfl (by (try simp only [List.map_toArray, List.map_cons, List.map_nil]); first | done | rfl | (simp only [List.length_drop, List.length_take]; rfl)) ?_; (with_reducible refine (qaG.calls k1 a0_4 4 t247 _ A23.out).mono ?_); rintro e w27 ⟨v248, rfl, ho0, hb⟩; refine ⟨_, rfl, ?_⟩; have n0_ := Aside0.mk (Kd.qch (by (with_reducible repeat (first | apply Kd.qar | apply Kd.qas | apply Kd.qaD)); exact HO_3.out) (Kd.qcT ho0) hb); have n1_ := Aside0.mk (Kd.qbh (Kd.qdb ho0 (Kd.R_lt (by (with_reducible repeat (first | apply Kd.qar | apply Kd.qas | apply Kd.qaD)); exact HO_3.out))) (qak (by repeat (first | (with_reducible first | exact HB.out | apply qac | apply qaa | apply qab | refine qah ?_ GE227.out) | exact HB.out)))); have n2_ := Aside0.mk (qao (g := gb227) (o := .cells #[.string a0_0, .string a0_1, .int .i64 a0_2, .slice A0_3 l0_3.length c0_3, .int .i64 a0_4] 41 (0, 0)) (by (with_reducible repeat (first | refine qaj ?_ _ | refine qal ?_ | refine qai ?_ _)); exact BK227.out) hb); have n3_ := Aside0.mk (qag (by repeat (first | (with_reducible first | exact HB.out | apply qac | apply qaa | apply qab | refine qah ?_ GE227.out) | exact HB.out)) hb); clear HO_3 BK227 HB; have HO_3 := n0_; have HO249 := n1_; have BK227 := n2_; have HB := n3_; clear n0_ n1_ n2_ n3_; (try clear hb); (try clear hb2); (try clear hk); (try clear hi); (try clear ho0); obtain ⟨Ao29, co29, eo29⟩ := Kd.qbN HO249.out; subst eo29) | ((with_reducible refine qbC (b := .append) (xs := #[.tmp 30, .tmp 33]) rfl ?_); at_builtin; refine Kd.qbQ (Kd.int .u8) (w0 := w) w.heap.size rfl (.tmp 30) (.tmp 33) 59 5 (.int .u8 0) 1 rfl Try.underlying59 info5 rfl (by decide) (by omega) u3 x3_1 t247 _ _ _ (fun k_ => some k_ ≠ (.slice Ao29 t247.length co29 : Value).ownBlock) (fun _ => False) rfl rfl ?aO ?aR (fun _ _ h => h) (fun _ h => h.elim) ?aF ?aB ?aS ?aL ?_; (case aR => repeat (first | exact (Kd.qaO HO249.out).2.2 | (with_reducible refine Kd.qa9 ?_ _) | (with_reducible refine Kd.qba ?_ _) | (with_reducible refine Kd.qbl ?_))); (case aB => exact (by repeat (first | (with_reducible first | exact HB.out | apply qac | apply qaa | apply qab | refine qah ?_ GE227.out) | exact HB.out))); (case aF => exact (fun k_ hk => Kd.fresh' (Kd.R_lt (by (with_reducible repeat (first | apply Kd.qar | apply Kd.qas | apply Kd.qaD)); exact HO249.out)) k_ hk)); (case aO => exact (by (with_reducible repeat (first | apply Kd.qar | apply Kd.qas | apply Kd.qaD)); exact Kd.qbr HO_3.out (fun _ hk => hk.2))); (case aS => exact (qak (by repeat (first | (with_reducible first | exact HB.out | apply qac | apply qaa | apply qab | refine qah ?_ GE227.out) | exact HB.out)))); (case aL => have := LMc24.out; omega); intro v251 w28 ho hb hg hat; rw [← Ny250.out] at ho; have n0_ := Aside0.mk (qdj (g := gb227) (o := .cells #[.string a0_0, .string a0_1, .int .i64 a0_2, .slice A0_3 l0_3.length c0_3, .int .i64 a0_4] 41 (0, 0)) (by (with_reducible repeat (first | refine qaj ?_ _ | refine qal ?_ | refine qai ?_ _)); exact BK227.out) hg (Kd.R_ne HO_3.out BK227.out (by decide))); have n1_ := Aside0.mk (Kd.qeU (ok := (fun _ => True)) (by (with_reducible repeat (first | apply Kd.qar | apply Kd.qas | apply Kd.qaD)); exact HO249.out) hg hat); have n2_ := Aside0.mk (hb); have n3_ := Aside0.mk (ho); clear BK227 HO249 HB HO_3; have BK227 := n0_; have HO249 := n1_; have HB := n2_; have HO252 := n3_; clear n0_ n1_ n2_ n3_ ho hb hg hat; obtain ⟨Ao30, co30, eo30⟩ := Kd.qbN HO252.out; subst eo30) | ((with_reducible refine qaE (f := 34) rfl ?_); refine qbn (some 35) rfl rfl Try.func34 (by kernel_rfl) rfl #[.slice Ao30 y250.length co30] rfl (by (try simp only [List.map_toArray, List.map_cons, List.map_nil]); first | done | rfl | (simp only [List.length_drop, List.length_take]; rfl)) ?_; (with_reducible refine (qbX.calls _ _ y250 t253 _ ?side1 ?side2 A25.out).mono ?_); (case side1 => repeat (first | exact (Kd.qaO HO252.out).2.2 | (with_reducible refine Kd.qa9 ?_ _) | (with_reducible refine Kd.qba ?_ _) | (with_reducible refine Kd.qbl ?_))); (case side2 => exact (Kd.qaO HO252.out).2.1); rintro e w31 ⟨rfl, hb⟩; refine ⟨_, rfl, ?_⟩; have n0_ := Aside0.mk (Kd.qaX (by (with_reducible repeat (first | apply Kd.qar | apply Kd.qas | apply Kd.qaD)); exact HO249.out) hb); have n1_ := Aside0.mk (Kd.qaX (by (with_reducible repeat (first | apply Kd.qar | apply Kd.qas | apply Kd.qaD)); exact HO252.out) hb); have n2_ := Aside0.mk (qao (g := gb227) (o := .cells #[.string a0_0, .string a0_1, .int .i64 a0_2, .slice A0_3 l0_3.length c0_3, .int .i64 a0_4] 41 (0, 0)) (by (with_reducible repeat (first | refine qaj ?_ _ | refine qal ?_ | refine qai ?_ _)); exact BK227.out) hb); have n3_ := Aside0.mk (qag (by repeat (first | (with_reducible first | exact HB.out | apply qac | apply qaa | apply qab | refine qah ?_ GE227.out) | exact HB.out)) hb); clear HO249 HO252 BK227 HB; have HO249 := n0_; have HO252 := n1_; have BK227 := n2_; have HB := n3_; clear n0_ n1_ n2_ n3_; (try clear hb); (try clear hb2); (try clear hk); (try clear hi)))
      go_ret
      exact ⟨by first | rfl | (simp [qam, qan] <;> rfl) | (simp [*, qam, qan] <;> rfl), by repeat (first | (with_reducible first | exact HB.out | apply qac | apply qaa | apply qab | refine qah ?_ GE227.out) | exact HB.out)⟩
     ·rw [if_neg c24] at H
      exact absurd H (by simp)
 ·rw [if_neg c4] at H
  exact absurd H (by simp)
theorem qfd {a : ByteArray} (h : a.toList = []) : a.size = 0 := by
 have h2 : a.data.toList.length = 0 := by rw [← ByteArray.toList_eq, h]; rfl
 rw [Array.length_toList] at h2
 exact h2
theorem qei {a : ByteArray} (h : qcW a = true) : a.size ≤ 1000 := by
 unfold qcW at h
 simp only [Bool.and_eq_true, decide_eq_true_eq] at h
 omega
theorem qiK {a b : ByteArray} {n : Int} (h : headB a b n = true) : a.size ≤ 1000 ∧ b.size ≤ 1000 ∧ 0 ≤ n ∧ n ≤ 4294967295 := by
 unfold headB at h
 split at h
 ·next h0 =>
  simp only [Bool.and_eq_true, inB, decide_eq_true_eq] at h
  have ha : a.size = 0 := qfd h0
  exact ⟨by omega, qei h.1, h.2.1.1, h.2.1.2⟩
 ·simp only [Bool.and_eq_true, inB, decide_eq_true_eq] at h
  exact ⟨qei h.1, qei h.2.1, h.2.2.1, h.2.2.2⟩
theorem qg5 {d : S56} (h : qbW d = true) : d.f0.size ≤ 1000 ∧ d.f1.size ≤ 1000 ∧ d.f2.size ≤ 1000 := by
 unfold qbW keyB at h
 simp only [Bool.and_eq_true, decide_eq_true_eq] at h
 omega
theorem qg6 {a b : ByteArray} {n : Int} {l : List S56} {s : Int} (h : qdY a b n l s = true) : qeA a b l ∧ (0 ≤ n ∧ n ≤ 4294967295) ∧ (0 ≤ s ∧ s ≤ 4294967295) ∧ l.length ≤ 120 := by
 unfold qdY at h
 simp only [Bool.and_eq_true, decide_eq_true_eq] at h
 obtain ⟨h1, h2, h3, h4⟩ := h
 have h5 := qiK h1
 simp only [inB, Bool.and_eq_true, decide_eq_true_eq] at h2
 refine ⟨⟨h5.1, h5.2.1, by omega, fun x hx => ?_⟩, h5.2.2, h2, h3⟩
 obtain ⟨j, hj, rfl⟩ := List.mem_iff_getElem.1 hx
 have h6 := qf1.1 h4 j hj
 have e : qaf l (j : Int) = l[j] := by unfold qaf; rw [Int.toNat_natCast]; simp [List.getD_eq_getElem?_getD, hj]
 unfold qbU at h6
 rw [e] at h6
 simp only [Bool.and_eq_true] at h6
 exact qg5 h6.1
theorem qfe (a b : ByteArray) (ha : a.size ≤ 1000) (hb : b.size ≤ 1000) : qbd.f [a, b] = some (bytesOf (qbV [a, b])) := by
 unfold qbd.f
 rw [if_pos ⟨by show 2 ≤ _; omega, fun x hx => by
  rcases List.mem_cons.1 hx with rfl | hx
  ·omega
  ·rcases List.mem_cons.1 hx with rfl | hx
   ·omega
   ·cases hx⟩]
theorem qeD (a b c : ByteArray) (ha : a.size ≤ 1000) (hb : b.size ≤ 1000) (hc : c.size ≤ 1000) : qbd.f [a, b, c] = some (bytesOf (qbV [a, b, c])) := by
 unfold qbd.f
 rw [if_pos ⟨by show 3 ≤ _; omega, fun x hx => by
  rcases List.mem_cons.1 hx with rfl | hx
  ·omega
  ·rcases List.mem_cons.1 hx with rfl | hx
   ·omega
   ·rcases List.mem_cons.1 hx with rfl | hx
    ·omega
    ·cases hx⟩]
theorem bit1 (b : Bool) : qb0.f b = some (bitN b 1) := by
 unfold qb0.f bitN
 split <;> rfl
theorem bitN_two (b : Bool) : bitN b 2 = 2 * bitN b 1 := by cases b <;> rfl
theorem bitN01 (b : Bool) : bitN b 1 = 0 ∨ bitN b 1 = 1 := by cases b <;> simp [bitN]
theorem qiL (d : S56) (h : d.f0.size ≤ 1000 ∧ d.f1.size ≤ 1000 ∧ d.f2.size ≤ 1000) : qbF.f d.f0 d.f1 d.f2 d.f3 d.f4 = some (bytesOf (diffT d)) := by
 have hz := qdG d.f0 d.f1 d.f2 h.1 h.2.1 h.2.2
 have hw : ∀ x y : Int, (x = 0 ∨ x = 1) → (y = 0 ∨ y = 1) → wrap64 (x + wrap64 (2 * y)) = x + 2 * y := by
  intro x y hx hy
  unfold wrap64
  omega
 have hb : bytesOf (diffT d) = [(bitN d.f3 1 + bitN d.f4 2) % 256] ++ bytesOf (qbV [d.f0, d.f1, d.f2]) := by
  unfold diffT
  rw [qbG, qhE]
 have hlt : ([(bitN d.f3 1 + bitN d.f4 2) % 256] : List Int).length + (bytesOf (qbV [d.f0, d.f1, d.f2])).length < 140737488355328 := by
  rw [bytesOf_length]
  simp only [List.length_cons, List.length_nil]
  omega
 unfold qbF.f
 rw [bit1, bit1]
 simp only [Option.bind_some]
 rw [qeD _ _ _ h.1 h.2.1 h.2.2]
 simp only [Option.bind_some]
 rw [hw _ _ (bitN01 _) (bitN01 _), ← bitN_two, if_pos hlt, hb]
theorem rdD_at (l : List S56) (pre rest : List S56) (x : S56) (h : l = pre ++ x :: rest) : qaf l ((pre.length : Nat) : Int) = x := by
 rw [h]; simp [qaf, List.getD_eq_getElem?_getD]
theorem qgC (l : List S56) : ∀ a : ByteArray, bytesOf (qbT a l) = bytesOf a ++ bytesOf (bodyT l) := by
 induction l with
 | nil => intro a; show bytesOf a = bytesOf a ++ bytesOf ByteArray.empty; rw [show bytesOf ByteArray.empty = [] from rfl, List.append_nil]
 | cons d l ih =>
  intro a
  have h1 := ih (a ++ diffT d)
  have h2 := ih (ByteArray.empty ++ diffT d)
  show bytesOf (qbT (a ++ diffT d) l) = bytesOf a ++ bytesOf (qbT (ByteArray.empty ++ diffT d) l)
  rw [h1, h2, qbG, qbG, show bytesOf ByteArray.empty = [] from rfl, List.nil_append, List.append_assoc]
theorem qfD (a b : ByteArray) (n : Int) (l : List S56) (s : Int) (hf : qeA a b l) (hs : 0 ≤ s ∧ s ≤ 4294967295) (h0 : ByteArray) (hz : h0.size ≤ 100000) (rest : List S56) : ∀ pre, l = pre ++ rest →
  Ev (fun k => qaU.l0 k (bytesOf (qbT h0 pre)) ((pre.length : Nat) : Int) a b n l s) (qcQ (bytesOf (qbT h0 l ++ numF s))) := by
 induction rest with
 | nil =>
  intro pre h
  rw [List.append_nil] at h
  subst h
  have hb := qdh l h0 hf.2.2.2
  have hl := hf.2.2.1
  refine Ev.succ ?_
  simp only [qaU.l0]
  refine Ev.neg (by omega) (Ev.bind (qd9 s hs.1 (by omega)) (Ev.pos (by rw [bytesOf_length, bytesOf_length, qdU]; omega) ?_))
  rw [← qbG]
  refine Ev.bindk (a := qcQ (bytesOf (qbT h0 l ++ numF s))) ?_ (Ev.is rfl)
  unfold qbX.f
  rw [if_pos (show ∀ c, c ∈ bytesOf (qbT h0 l ++ numF s) → 0 ≤ c ∧ c < 256 from qdS _)]
 | cons x r ih =>
  intro pre h
  have hx := rdD_at l pre r x h
  have hlt : ((pre.length : Nat) : Int) < (l.length : Int) := by rw [h]; simp; omega
  have hxf := hf.2.2.2 x (by rw [h]; simp)
  have hi := ih (pre ++ [x]) (by rw [h]; simp)
  rw [← qcp, qes, qbG] at hi
  have hb := qdh pre h0 fun d hd => hf.2.2.2 d (by rw [h]; exact List.mem_append_left _ hd)
  have hl := hf.2.2.1
  have hd := qfO x hxf
  refine Ev.succ ?_
  simp only [qaU.l0, hx, qcu (n := pre.length) (by omega)]
  exact Ev.pos hlt (Ev.pos (by omega) (Ev.bindk (qiL x hxf) (Ev.pos (by rw [bytesOf_length, bytesOf_length]; omega) hi)))
theorem linkT_is (a b : ByteArray) (n : Int) (l : List S56) (s : Int) : bytesOf (qbT (numF n ++ qbV [a, b]) l ++ numF s) = bytesOf (linkT a b n l s) := by
 unfold linkT
 rw [qbG, qgC, qbG (_ ++ bodyT l), qbG (_ ++ qbV [a, b])]
theorem qiM (a b : ByteArray) (n : Int) (l : List S56) (s : Int) (hf : qeA a b l) (hn : 0 ≤ n ∧ n ≤ 4294967295) (hs : 0 ≤ s ∧ s ≤ 4294967295) : Ev (fun k => qaU.f k a b n l s) (qcQ (bytesOf (linkT a b n l s))) := by
 have h2 := qdp a b hf.1 hf.2.1
 unfold qaU.f
 refine Ev.bind (qd9 n hn.1 (by omega)) (Ev.bindk (qfe a b hf.1 hf.2.1) (Ev.pos (by rw [bytesOf_length, bytesOf_length, qdU]; omega) ?_))
 rw [← qbG, ← linkT_is]
 exact qfD a b n l s hf hs (numF n ++ qbV [a, b]) (by rw [ByteArray.size_append, qdU]; omega) l [] rfl
theorem qdH {a b c : List UInt8} (h : Op.bytesLess a b = true) (k : Op.bytesLess b c = true) : Op.bytesLess a c = true := by
 rw [bytesLess_eq] at *
 simp only [decide_eq_true_eq] at *
 exact List.lt_trans h k
theorem qdZ (a : List UInt8) : Op.bytesLess a a = false := by
 rw [bytesLess_eq]
 simp only [decide_eq_false_iff_not]
 exact List.lt_irrefl a
theorem qg7 {a b : List UInt8} (h : Op.bytesLess a b = false) (k : Op.bytesLess b a = false) : a = b := by
 have := qey a b
 rw [h, k] at this
 simpa using this
def cmpS (a b : ByteArray) : Int := if Op.bytesLess a.toList b.toList = true then -1 else if a.toList = b.toList then 0 else 1
theorem qff (a b : List UInt8) : Lib.compareBytes a b = if Op.bytesLess a b = true then -1 else if a = b then 0 else 1 := by
 induction a generalizing b with
 | nil => cases b <;> simp [Lib.compareBytes, Op.bytesLess]
 | cons x a ih =>
  cases b with
  | nil => simp [Lib.compareBytes, Op.bytesLess]
  | cons y b =>
   simp only [Lib.compareBytes, Op.bytesLess]
   by_cases h1 : x < y
   ·simp [h1]
   ·by_cases h2 : y < x
    ·have h3 : ¬ x = y := by rintro rfl; exact h1 h2
     simp [h1, h2, h3]
    ·have h3 : x = y := by simp [UInt8.lt_iff_toNat_lt, ← UInt8.toNat_inj] at *; omega
     subst h3
     simp [h1, ih b]
theorem cmpS_is (a b : ByteArray) : Lib.compareBytes a.data.toList b.data.toList = cmpS a b := by
 unfold cmpS
 rw [qff, ByteArray.toList_eq, ByteArray.toList_eq]
set_option maxHeartbeats 1000000 in
set_option maxRecDepth 100000 in
theorem bytealg_CompareString (a b : ByteArray) (w : World) :
  Calls Try.prog 83 #[.string a, .string b] w fun e w' => e = .returned (.int .i64 (cmpS a b)) ∧ w' = w := by
 rw [← cmpS_is]
 go_enter Try.func83, Try.ntmps83
 go_wp2
 rw [run_callFunc_extern Try.func87 (by kernel_rfl) (by kernel_rfl) (by kernel_rfl) (e := Extern.BytealgCompare.compare) (by kernel_rfl), Lib.run_compareString]
 simp only [Result.andThen]
 rw [Oper.upon_value]
 go_wp2
 go_ret
 exact ⟨rfl, rfl⟩
set_option maxHeartbeats 1000000 in
theorem qeM (a b : ByteArray) (w : World) :
  Calls Try.prog 79 #[.string a, .string b] w fun e w' => e = .returned (.int .i64 (cmpS a b)) ∧ w' = w := by
 go_enter Try.func79, Try.ntmps79
 go_wp2_with fail
 refine (bytealg_CompareString _ _ _).mono ?_
 rintro e w' ⟨rfl, rfl⟩
 go_wp2_with fail
 go_ret
 exact ⟨rfl, rfl⟩
def Rises (l : List S48) : Prop := l.Pairwise fun a b => Op.bytesLess a.f0.toList b.f0.toList = true
instance risesDec (l : List S48) : Decidable (Rises l) := by unfold Rises; infer_instance
theorem qet {l : List S48} (h : Rises l) {i j : Nat} (hj : j < l.length) (hij : i < j) : Op.bytesLess (l[i]'(by omega)).f0.toList l[j].f0.toList = true := (List.pairwise_iff_getElem.1 h) i j (by omega) hj hij
def okP (p : S48) : Bool := keyB p.f0 && decide (p.f1.size ≤ 90)
theorem rd_at (l : List S48) (pre rest : List S48) (x : S48) (h : l = pre ++ x :: rest) : qaK l ((pre.length : Nat) : Int) = x := by
 subst h
 simp [qaK, List.getD_eq_getElem?_getD]
def lowAt (l : List S48) (key : ByteArray) : Nat := l.findIdx fun p => !Op.bytesLess p.f0.toList key.toList
def hasAt (l : List S48) (key : ByteArray) : Bool := decide (lowAt l key < l.length) && decide ((qaK l (lowAt l key)).f0.toList = key.toList)
theorem lowAt_is {l : List S48} {key : ByteArray} {i : Nat} (hi : i ≤ l.length) (h0 : ∀ j (hj : j < l.length), j < i → Op.bytesLess l[j].f0.toList key.toList = true) (h1 : ∀ (hj : i < l.length), Op.bytesLess l[i].f0.toList key.toList = false) : lowAt l key = i := by
 unfold lowAt
 rcases Nat.lt_or_ge i l.length with h | h
 ·exact (List.findIdx_eq h).2 ⟨by simp [h1 h], fun j hj => by simp [h0 j (by omega) hj]⟩
 ·have e : i = l.length := by omega
  rw [e]
  exact List.findIdx_eq_length.2 fun x hx => by
   obtain ⟨j, hj, rfl⟩ := List.getElem_of_mem hx
   simp [h0 j hj (by omega)]
def qbw.f (l0 : List S48) (a1 : ByteArray) : Option (Int × Bool) := if Rises l0 ∧ l0.length ≤ 1000000 then some ((lowAt l0 a1 : Int), hasAt l0 a1) else none
set_option maxHeartbeats 1000000 in
set_option maxRecDepth 100000 in
theorem qc8 (x : S48) (key : ByteArray) (w : World) : Calls Try.prog 78 #[.agg #[.string x.f0, .string x.f1], .string key] w fun e w' => e = .returned (.int .i64 (cmpS x.f0 key)) ∧ Below w.heap.size w w' := by
 have hu := Try.underlying48
 go_enter Try.func78, Try.ntmps78
 go_wp2_with fail
 refine (qeM _ _ _).mono ?_
 rintro e w' ⟨rfl, rfl⟩
 go_wp2_with fail
 go_ret
 exact ⟨rfl, (Below.refl _ _).alloc (Nat.le_refl _) _⟩
theorem cmpS_neg {a b : ByteArray} (h : Op.bytesLess a.toList b.toList = true) : cmpS a b = -1 := by unfold cmpS; rw [if_pos h]
theorem qg8 {a b : ByteArray} (h : Op.bytesLess a.toList b.toList = false) : 0 ≤ cmpS a b := by unfold cmpS; rw [if_neg (by rw [h]; decide)]; split <;> omega
theorem qgD {a b : ByteArray} : cmpS a b = 0 ↔ a.toList = b.toList := by
 unfold cmpS
 by_cases h : Op.bytesLess a.toList b.toList = true
 ·rw [if_pos h]
  exact ⟨fun e => by omega, fun e => by rw [e, qdZ] at h; cases h⟩
 ·rw [if_neg h]
  by_cases k : a.toList = b.toList
  ·simp [k]
  ·simp [k]
set_option maxHeartbeats 4000000 in
set_option maxRecDepth 100000 in
theorem qeu (A0 : Option Addr) (c0 : Nat) (l0 : List S48) (a1 : ByteArray) (w : World) (hr0 : Kd.C k48 w A0 l0.length l0) (hs : Rises l0) (hl : l0.length ≤ 1000000) :
  Calls Try.prog 77 #[.slice A0 l0.length c0, .string a1, .func (.func 78) #[] #[]] w
   fun e w' => e = .returned (.tuple #[.int .i64 (lowAt l0 a1), .bool (hasAt l0 a1)]) ∧ Below w.heap.size w w' := by
 have hu := Try.underlying48
 have HR0 := Aside0.mk hr0
 have HS := Aside0.mk hs
 clear hr0 hs
 go_enter Try.func77, Try.ntmps77
 go_wp2_with fail
 go_loopw [9, 10] (fun v9 v10 wr => ∃ i j : Nat, i ≤ j ∧ j ≤ l0.length ∧ v9 = .int .i64 i ∧ v10 = .int .i64 j ∧ Aside0 (∀ m (hm : m < l0.length), m < i → Op.bytesLess l0[m].f0.toList a1.toList = true) ∧ Aside0 (∀ m (hm : m < l0.length), j ≤ m → Op.bytesLess l0[m].f0.toList a1.toList = false) ∧ Aside0 (Below w.heap.size w wr)) (fun v9 v10 _ => (intOf v10).toNat - (intOf v9).toNat)
 case atStart => exact ⟨0, l0.length, Nat.zero_le _, Nat.le_refl _, rfl, rfl, ⟨fun m hm h => absurd h (by omega)⟩, ⟨fun m hm h => absurd h (by omega)⟩, ⟨Below.refl _ _⟩⟩
 case round =>
  obtain ⟨i, j, hij, hj, rfl, rfl, HL, HG, HB⟩ := hrel
  by_cases hlt : i < j
  ·obtain ⟨h, hh⟩ : ∃ h : Nat, h = (i + j) / 2 := ⟨_, rfl⟩
   have hh1 : i ≤ h := by omega
   have hh2 : h < j := by omega
   have hh3 : h < l0.length := by omega
   have p1 : 0 ≤ (h : Int) := by omega
   have q1 : (h : Int) < (l0.length : Int) := by omega
   obtain ⟨ad1, e1, hx0, hx1⟩ := qcz HR0.out (h : Int) p1 q1
   have hx : qaK l0 (h : Int) = l0[h] := by unfold qaK; rw [Int.toNat_natCast]; simp [List.getD_eq_getElem?_getD, hh3]
   rw [hx] at hx0 hx1
   cases e1
   replace hx0 := (HB.out.cell (World.block_lt_of_cell? w _ hx0)).trans hx0
   replace hx1 := (HB.out.cell (World.block_lt_of_cell? w _ hx1)).trans hx1
   rw [Int.toNat_natCast] at hx0 hx1
   clear hx
   obtain ⟨x, hx⟩ : ∃ x, x = l0[h] := ⟨_, rfl⟩
   rw [← hx] at hx0 hx1
   have HX := Aside0.mk hx
   clear hx
   subst hh
   cases hb : Op.bytesLess x.f0.toList a1.toList with
   | true =>
    have HC := Aside0.mk (cmpS_neg hb)
    have HX2 := Aside0.mk hb
    clear hb
    go_wp2_with fail
    refine (qc8 x a1 _).mono ?_
    rintro e w1 ⟨rfl, hb1⟩
    rw [HC.out]
    go_wp2_with fail
    go_roundw
    case rel => exact ⟨(i + j) / 2 + 1, j, by omega, by omega, by go_num, rfl, ⟨fun m hm h => by
     by_cases e : m = (i + j) / 2
     ·subst e; rw [← HX.out]; exact HX2.out
     ·have hm2 : m < (i + j) / 2 := by omega
      have := qet HS.out hh3 hm2
      rw [← HX.out] at this
      exact qdH this HX2.out⟩, HG, ⟨qag HB.out hb1⟩⟩
    case measure => simp [intOf]; omega
   | false =>
    have hc := qg8 hb
    obtain ⟨c, hcc⟩ : ∃ c, c = cmpS x.f0 a1 := ⟨_, rfl⟩
    rw [← hcc] at hc
    have HC := Aside0.mk hcc
    have hc2 : decide (c < 0) = false := decide_eq_false (by omega)
    have HX2 := Aside0.mk hb
    clear hb hcc hc
    go_wp2_with fail
    refine (qc8 x a1 _).mono ?_
    rintro e w1 ⟨rfl, hb1⟩
    rw [← HC.out]
    go_wp2_with fail
    go_roundw
    case rel => exact ⟨i, (i + j) / 2, by omega, by omega, rfl, by go_num, HL, ⟨fun m hm h => by
     by_cases e : m = (i + j) / 2
     ·subst e; rw [← HX.out]; exact HX2.out
     ·have hm2 : (i + j) / 2 < m := by omega
      have h2 := qet HS.out hm hm2
      rw [← HX.out] at h2
      cases h3 : Op.bytesLess l0[m].f0.toList a1.toList with
      | false => rfl
      | true => have := qdH h2 h3; rw [HX2.out] at this; cases this⟩, ⟨qag HB.out hb1⟩⟩
    case measure => simp [intOf]; omega
  ·have hie : i = j := by omega
   subst hie
   have HI := Aside0.mk (lowAt_is hj HL.out (fun h => HG.out i h (Nat.le_refl _)))
   by_cases hn : i < l0.length
   ·have p1 : 0 ≤ (i : Int) := by omega
    have q1 : (i : Int) < (l0.length : Int) := by omega
    obtain ⟨ad1, e1, hx0, hx1⟩ := qcz HR0.out (i : Int) p1 q1
    cases e1
    replace hx0 := (HB.out.cell (World.block_lt_of_cell? w _ hx0)).trans hx0
    replace hx1 := (HB.out.cell (World.block_lt_of_cell? w _ hx1)).trans hx1
    rw [Int.toNat_natCast] at hx0 hx1
    obtain ⟨x, hx⟩ : ∃ x, x = qaK l0 (i : Int) := ⟨_, rfl⟩
    rw [← hx] at hx0 hx1
    have HX := Aside0.mk hx
    clear hx
    obtain ⟨c, hcc⟩ : ∃ c, c = cmpS x.f0 a1 := ⟨_, rfl⟩
    have HC := Aside0.mk hcc
    clear hcc
    by_cases hz : c = 0
    ·have HZ : hasAt l0 a1 = true := by
      unfold hasAt
      rw [HI.out, ← HX.out, decide_eq_true hn, decide_eq_true (qgD.1 (HC.out ▸ hz))]
      rfl
     have HZ2 := Aside0.mk HZ
     clear HZ
     have hz2 : (c == 0) = true := beq_iff_eq.2 hz
     have HZ3 := Aside0.mk hz
     clear hz
     go_wp2_with fail
     refine (qc8 x a1 _).mono ?_
     rintro e w1 ⟨rfl, hb1⟩
     rw [← HC.out]
     go_wp2_with fail
     go_ret2
     exact ⟨by rw [HI.out, HZ2.out]; rfl, qag HB.out hb1⟩
    ·have HZ : hasAt l0 a1 = false := by
      unfold hasAt
      rw [HI.out, ← HX.out, decide_eq_false (fun e => hz (HC.out.trans (qgD.2 e)))]
      simp
     have HZ2 := Aside0.mk HZ
     clear HZ
     have hz2 : (c == 0) = false := beq_eq_false_iff_ne.2 hz
     have HZ3 := Aside0.mk hz
     clear hz
     go_wp2_with fail
     refine (qc8 x a1 _).mono ?_
     rintro e w1 ⟨rfl, hb1⟩
     rw [← HC.out]
     go_wp2_with fail
     go_ret2
     exact ⟨by rw [HI.out, HZ2.out]; rfl, qag HB.out hb1⟩
   ·have HZ : hasAt l0 a1 = false := by
     unfold hasAt
     rw [HI.out, decide_eq_false hn]
     rfl
    have HZ2 := Aside0.mk HZ
    clear HZ
    go_wp2_with fail
    go_ret2
    exact ⟨by rw [HI.out, HZ2.out]; rfl, HB.out⟩
set_option maxHeartbeats 1000000 in
set_option maxRecDepth 100000 in
theorem qbw.calls (A0 : Option Addr) (c0 : Nat) (l0 : List (S48)) (a1 : ByteArray) (r1 : Int) (r2 : Bool) (w : World) (hr0 : Kd.C k48 w A0 l0.length l0) (hc0 : l0.length ≤ c0) (h : qbw.f l0 a1 = some (r1, r2)) :
  Calls Try.prog 65 #[.slice A0 l0.length c0, .string a1] w fun e w' => e = .returned (.tuple #[.int .i64 r1, .bool r2]) ∧ Below w.heap.size w w' := by
 unfold qbw.f at h
 by_cases hs : Rises l0 ∧ l0.length ≤ 1000000
 ·rw [if_pos hs] at h
  have h' := Option.some.inj h
  clear h
  obtain ⟨rfl, rfl⟩ := Prod.mk.inj h'
  clear h'
  have HC := Aside0.mk (qeu A0 c0 l0 a1 w hr0 hs.1 hs.2)
  clear hr0 hs
  generalize hasAt l0 a1 = b at HC ⊢
  generalize lowAt l0 a1 = i at HC ⊢
  go_enter Try.func65, Try.ntmps65
  go_wp2_with fail
  refine HC.out.mono ?_
  rintro e w1 ⟨rfl, hb1⟩
  go_wp2_with fail
  go_ret2
  exact ⟨rfl, hb1⟩
 ·rw [if_neg hs] at h
  cases h
def qb4.f (a0_0 : ByteArray) (a0_1 : ByteArray) : Option (Bool) := (qaT.f (a0_0.size : Int) 1 30).bind fun t118 => (if t118 = true then (some (decide ((a0_1.size : Int) ≤ 90))) else (some false))
set_option maxHeartbeats 8000000 in
set_option maxRecDepth 100000 in
theorem qb4.calls (a0_0 : ByteArray) (a0_1 : ByteArray) (r : Bool) (w : World) (h : qb4.f a0_0 a0_1 = some r) :
  Calls Try.prog 46 #[.agg #[.string a0_0, .string a0_1]] w fun e w' => e = .returned (.bool r) ∧ Below w.heap.size w w' := by
 have hu48 := Try.underlying48
 have HB := Aside0.mk (Below.refl w.heap.size w)
 have H : ((qaT.f (a0_0.size : Int) 1 30).bind fun t118 => (if t118 = true then (some (decide ((a0_1.size : Int) ≤ 90))) else (some false))) = some r := h
 clear h
 replace H := Option.bind_eq_some_iff.mp H
 obtain ⟨t118, A20, H⟩ := H
 try dsimp only at H
 have A2 := Aside0.mk A20
 clear A20
 by_cases c3 : t118 = true
 ·subst c3
  have H1 : (some (decide ((a0_1.size : Int) ≤ 90))) = some r := by rw [if_pos rfl] at H; exact H
  clear H
  have H := H1
  clear H1
  obtain rfl := Option.some.inj H
  go_enter Try.func46, Try.ntmps46
  go_wp2_with (first | ((with_reducible refine qaM (N := 1) rfl ?_); (try (refine qbZ (by rfl) ?_; dsimp only)); refine qaN ?hg (N := 1) ?hd (cs := #[.string a0_0, .string a0_1]) (t := 48) ?hr ?_; (case hd => rfl); (case hg => rfl); (case hr => first | (go_simp; done) | (go_simp; rfl)); intro gb117 hg w4 hbox hb; have n0_ := Aside0.mk (qag (by repeat (first | (with_reducible first | exact HB.out | apply qac | apply qaa | apply qab) | exact HB.out)) hb); have n1_ := Aside0.mk (hbox); have n2_ := Aside0.mk ((by rw [hg]; exact (qak (by repeat (first | (with_reducible first | exact HB.out | apply qac | apply qaa | apply qab) | exact HB.out))) : w.heap.size ≤ gb117)); have n3_ := Aside0.mk ((by rw [hg]; exact (qak (by repeat (first | (with_reducible first | exact HB.out | apply qac | apply qaa | apply qab) | exact HB.out))) : w.heap.size ≤ gb117)); clear HB; have HB := n0_; have BK117 := n1_; have GW117 := n2_; have GE117 := n3_; clear n0_ n1_ n2_ n3_ hb hbox hg; have hcz5_0 : w4.cell? ⟨gb117, 0, none⟩ = some (.string a0_0) := (qad BK117.out 0).trans rfl; have hcz5_1 : w4.cell? ⟨gb117, 1, none⟩ = some (.string a0_1) := (qad BK117.out 1).trans rfl; have hfz5_0 := qae BK117.out 0; have hfz5_1 := qae BK117.out 1) | ((with_reducible refine qaE (f := 28) rfl ?_); refine qbn (some 6) rfl rfl Try.func28 (by kernel_rfl) rfl #[.int .i64 (a0_0.size : Int), .int .i64 1, .int .i64 30] rfl (by (try simp only [List.map_toArray, List.map_cons, List.map_nil]); first | done | rfl | (simp only [List.length_drop, List.length_take]; rfl)) ?_; (with_reducible refine (qaT.calls (a0_0.size : Int) 1 30 true _ A2.out).mono ?_); rintro e w' ⟨rfl, ⟨nd, rfl⟩⟩; refine ⟨_, rfl, ?_⟩))
  go_ret
  exact ⟨by first | rfl | (simp [qam, qan] <;> rfl) | (simp [*, qam, qan] <;> rfl), by repeat (first | (with_reducible first | exact HB.out | apply qac | apply qaa | apply qab | refine qah ?_ GE117.out) | exact HB.out)⟩
 ·replace c3 := Bool.eq_false_iff.mpr c3
  subst c3
  have H1 : (some false) = some r := by rw [if_neg (show ¬ (false = true) by decide)] at H; exact H
  clear H
  have H := H1
  clear H1
  obtain rfl := Option.some.inj H
  go_enter Try.func46, Try.ntmps46
  go_wp2_with (first | ((with_reducible refine qaM (N := 1) rfl ?_); (try (refine qbZ (by rfl) ?_; dsimp only)); refine qaN ?hg (N := 1) ?hd (cs := #[.string a0_0, .string a0_1]) (t := 48) ?hr ?_; (case hd => rfl); (case hg => rfl); (case hr => first | (go_simp; done) | (go_simp; rfl)); intro gb117 hg w6 hbox hb; have n0_ := Aside0.mk (qag (by repeat (first | (with_reducible first | exact HB.out | apply qac | apply qaa | apply qab) | exact HB.out)) hb); have n1_ := Aside0.mk (hbox); have n2_ := Aside0.mk ((by rw [hg]; exact (qak (by repeat (first | (with_reducible first | exact HB.out | apply qac | apply qaa | apply qab) | exact HB.out))) : w.heap.size ≤ gb117)); have n3_ := Aside0.mk ((by rw [hg]; exact (qak (by repeat (first | (with_reducible first | exact HB.out | apply qac | apply qaa | apply qab) | exact HB.out))) : w.heap.size ≤ gb117)); clear HB; have HB := n0_; have BK117 := n1_; have GW117 := n2_; have GE117 := n3_; clear n0_ n1_ n2_ n3_ hb hbox hg; have hcz7_0 : w6.cell? ⟨gb117, 0, none⟩ = some (.string a0_0) := (qad BK117.out 0).trans rfl; have hcz7_1 : w6.cell? ⟨gb117, 1, none⟩ = some (.string a0_1) := (qad BK117.out 1).trans rfl; have hfz7_0 := qae BK117.out 0; have hfz7_1 := qae BK117.out 1) | ((with_reducible refine qaE (f := 28) rfl ?_); refine qbn (some 6) rfl rfl Try.func28 (by kernel_rfl) rfl #[.int .i64 (a0_0.size : Int), .int .i64 1, .int .i64 30] rfl (by (try simp only [List.map_toArray, List.map_cons, List.map_nil]); first | done | rfl | (simp only [List.length_drop, List.length_take]; rfl)) ?_; (with_reducible refine (qaT.calls (a0_0.size : Int) 1 30 false _ A2.out).mono ?_); rintro e w' ⟨rfl, ⟨nd, rfl⟩⟩; refine ⟨_, rfl, ?_⟩))
  go_ret
  exact ⟨by first | rfl | (simp [qam, qan] <;> rfl) | (simp [*, qam, qan] <;> rfl), by repeat (first | (with_reducible first | exact HB.out | apply qac | apply qaa | apply qab | refine qah ?_ GE117.out) | exact HB.out)⟩
theorem qiN (p : S48) : qb4.f p.f0 p.f1 = some (okP p) := by
 unfold qb4.f okP
 have e : ((p.f1.size : Int) ≤ 90) = (p.f1.size ≤ 90) := propext (by omega)
 rw [qf3, Option.bind_some]
 cases keyB p.f0 <;> simp [e]
def qbk.l0 : Nat → List (S48) → ByteArray → Int → Option (Int)
 | 0, _, _, _ => none
 | k + 1, x0, x1, x5 => if x5 < (x0.length : Int) then (if 0 ≤ x5 then (if (Op.bytesLess (((qaK x0 x5).f0).toList) x1.toList) = true then (qbk.l0 k x0 x1 (wrap64 (x5 + 1))) else (some x5)) else (none)) else (some x5)
def qbk.f (k : Nat) (l0 : List (S48)) (a1 : ByteArray) : Option (Int) := qbk.l0 k l0 a1 0
theorem qbk.qbA : ∀ k, (∀ y0 y1 y2, LeO (qbk.l0 k y0 y1 y2) (qbk.l0 (k + 1) y0 y1 y2))
 | 0 => fun _ _ _ r h => by simp [qbk.l0] at h
 | k + 1 => by
  have ih0 := qbk.qbA k
  ·intro y0 y1 y2
   unfold qbk.l0
   repeat' first
   | (with_reducible exact ih0 _ _ _)
   | (with_reducible exact LeO.refl _)
   | (with_reducible exact LeO.none _)
   | (with_reducible refine LeO.ite ?_ ?_)
   | (with_reducible refine LeO.bind ?_ (fun _ => ?_))
   | exact ih0 _ _ _
   | exact LeO.none _
   | refine LeO.ite ?_ ?_
   | refine LeO.bind ?_ (fun _ => ?_)
set_option maxHeartbeats 8000000 in
set_option maxRecDepth 100000 in
theorem qbk.calls (k : Nat) (A0 : Option Addr) (c0 : Nat) (l0 : List (S48)) (a1 : ByteArray) (r : Int) (w : World) (hr0 : Kd.C k48 w A0 l0.length l0) (hc0 : l0.length ≤ c0) (h : qbk.f k l0 a1 = some r) :
  Calls Try.prog 63 #[.slice A0 l0.length c0, .string a1] w fun e w' => e = .returned (.int .i64 r) ∧ qaF w w' := by
 have HR0 := Aside0.mk hr0
 have HC0 := Aside0.mk hc0
 clear hr0 hc0
 have H : (qbk.l0 k l0 a1 0) = some r := h
 clear h
 have H' := Aside0.mk H
 clear H
 go_enter Try.func63, Try.ntmps63
 go_wp2
 go_loopg [5] k (fun kq v5 w' => ∃ (x5_1 : Int), v5 = .int .i64 x5_1 ∧ Aside0 (qbk.l0 kq l0 a1 x5_1 = some r) ∧ Aside0 (kq ≤ k) ∧ qaF w w')
 case atStart => exact ⟨(0), (by first | rfl | (simp; done) | (simp [*]; done)), H', ⟨Nat.le_refl _⟩, by repeat (first | exact qaF.refl _ | apply qaF.step)⟩
 case round =>
  clear H'
  try clear p2
  obtain ⟨x5_1, rfl, HA, HK1, ⟨m1, rfl⟩⟩ := hrel
  cases gk with
  | zero => exact absurd HA.out (by simp [qbk.l0])
  | succ k1 =>
   have H := HA.out
   clear HA
   simp only [qbk.l0] at H
   by_cases c3 : x5_1 < (l0.length : Int)
   ·rw [if_pos c3] at H
    have c3b0 : decide (x5_1 < (l0.length : Int)) = true := decide_eq_true c3
    clear c3
    by_cases c4 : 0 ≤ x5_1
    ·rw [if_pos c4] at H
     have c4b0 : decide (0 ≤ x5_1) = true := decide_eq_true c4
     clear c4
     by_cases c5 : (Op.bytesLess (((qaK l0 x5_1).f0).toList) a1.toList) = true
     ·rw [if_pos c5] at H
      have c5b0 : (Op.bytesLess (((qaK l0 x5_1).f0).toList) a1.toList) = true := c5
      clear c5
      have H' := Aside0.mk H
      clear H
      have p113 : 0 ≤ (x5_1 : Int) := of_decide_eq_true (by first | (with_reducible assumption) | assumption)
      have q113 : x5_1 < (l0.length : Int) := of_decide_eq_true (by first | (with_reducible assumption) | assumption)
      obtain ⟨ad113, e113, hx113_0, hx113_1⟩ := qcz HR0.out x5_1 p113 q113
      cases e113
      replace p113 := eq_true p113
      replace q113 := eq_true q113
      go_wp2
      go_roundg k1
      case measure => have := HK1.out; omega
      case rel => exact ⟨(wrap64 (x5_1 + 1)), (by first | rfl | (simp; done) | (simp [*]; done)), H', ⟨by have := HK1.out; omega⟩, by repeat (first | exact qaF.refl _ | apply qaF.step)⟩
     ·rw [if_neg c5] at H
      have c5b0 : (Op.bytesLess (((qaK l0 x5_1).f0).toList) a1.toList) = false := by simpa using c5
      clear c5
      obtain rfl := Option.some.inj H
      have p113 : 0 ≤ (x5_1 : Int) := of_decide_eq_true (by first | (with_reducible assumption) | assumption)
      have q113 : x5_1 < (l0.length : Int) := of_decide_eq_true (by first | (with_reducible assumption) | assumption)
      obtain ⟨ad113, e113, hx113_0, hx113_1⟩ := qcz HR0.out x5_1 p113 q113
      cases e113
      replace p113 := eq_true p113
      replace q113 := eq_true q113
      go_wp2
      go_ret
      exact ⟨by first | rfl | (simp; done) | (simp [*]; done), by repeat (first | exact qaF.refl _ | apply qaF.step)⟩
    ·rw [if_neg c4] at H
     exact absurd H (by simp)
   ·rw [if_neg c3] at H
    have c3b0 : decide (x5_1 < (l0.length : Int)) = false := decide_eq_false c3
    clear c3
    obtain rfl := Option.some.inj H
    go_wp2
    go_ret
    exact ⟨by first | rfl | (simp; done) | (simp [*]; done), by repeat (first | exact qaF.refl _ | apply qaF.step)⟩
def qdr.f (k : Nat) (l0 : List (S48)) (a1 : ByteArray) : Option (ByteArray × Bool) := (qbk.f k l0 a1).bind fun t114 => (if t114 < (l0.length : Int) then (if 0 ≤ t114 then (if ((qaK l0 t114).f0).toList = a1.toList then (some ((qaK l0 t114).f1, true)) else (some ((⟨#[]⟩ : ByteArray), false))) else (none)) else (some ((⟨#[]⟩ : ByteArray), false)))
set_option maxHeartbeats 8000000 in
set_option maxRecDepth 100000 in
theorem qdr.calls (k : Nat) (A0 : Option Addr) (c0 : Nat) (l0 : List (S48)) (a1 : ByteArray) (r1 : ByteArray) (r2 : Bool) (w : World) (hr0 : Kd.C k48 w A0 l0.length l0) (hc0 : l0.length ≤ c0) (h : qdr.f k l0 a1 = some (r1, r2)) :
  Calls Try.prog 45 #[.slice A0 l0.length c0, .string a1] w fun e w' => e = .returned (.tuple #[.string r1, .bool r2]) ∧ qaF w w' := by
 have HR0 := Aside0.mk hr0
 have HC0 := Aside0.mk hc0
 clear hr0 hc0
 have H : ((qbk.f k l0 a1).bind fun t114 => (if t114 < (l0.length : Int) then (if 0 ≤ t114 then (if ((qaK l0 t114).f0).toList = a1.toList then (some ((qaK l0 t114).f1, true)) else (some ((⟨#[]⟩ : ByteArray), false))) else (none)) else (some ((⟨#[]⟩ : ByteArray), false)))) = some (r1, r2) := h
 clear h
 replace H := Option.bind_eq_some_iff.mp H
 obtain ⟨t114, A30, H⟩ := H
 try dsimp only at H
 have A3 := Aside0.mk A30
 clear A30
 by_cases c4 : t114 < (l0.length : Int)
 ·rw [if_pos c4] at H
  have c4b0 : decide (t114 < (l0.length : Int)) = true := decide_eq_true c4
  clear c4
  by_cases c5 : 0 ≤ t114
  ·rw [if_pos c5] at H
   have c5b0 : decide (0 ≤ t114) = true := decide_eq_true c5
   clear c5
   by_cases c6 : ((qaK l0 t114).f0).toList = a1.toList
   ·rw [if_pos c6] at H
    have c6b0 : (((qaK l0 t114).f0).toList == a1.toList) = true := beq_iff_eq.mpr c6
    have c6b1 : (((qaK l0 t114).f0).toList != a1.toList) = false := bne_eq_false_iff_eq.mpr c6
    clear c6
    simp only [Option.some.injEq, Prod.mk.injEq] at H
    obtain ⟨rfl, rfl⟩ := H
    go_enter Try.func45, Try.ntmps45
    go_wp2_with (first | ((with_reducible refine qaE (f := 63) rfl ?_); refine qbn (some 9) rfl rfl Try.func63 (by kernel_rfl) rfl #[.slice A0 l0.length c0, .string a1] rfl (by (try simp only [List.map_toArray, List.map_cons, List.map_nil]); first | done | rfl | (simp only [List.length_drop, List.length_take]; rfl)) ?_; (with_reducible refine (qbk.calls k _ _ l0 a1 t114 _ ?side1 ?side2 A3.out).mono ?_); (case side1 => repeat (first | exact HR0.out | (with_reducible refine Kd.qa9 ?_ _) | (with_reducible refine Kd.qba ?_ _) | (with_reducible refine Kd.qbl ?_))); (case side2 => exact HC0.out); rintro e w' ⟨rfl, ⟨nd, rfl⟩⟩; refine ⟨_, rfl, ?_⟩; have p115 : 0 ≤ (t114 : Int) := of_decide_eq_true (by first | (with_reducible assumption) | assumption); have q115 : t114 < (l0.length : Int) := of_decide_eq_true (by first | (with_reducible assumption) | assumption); obtain ⟨ad115, e115, hx115_0, hx115_1⟩ := qcz HR0.out t114 p115 q115; cases e115; replace p115 := eq_true p115; replace q115 := eq_true q115; have p116 : 0 ≤ (t114 : Int) := of_decide_eq_true (by first | (with_reducible assumption) | assumption); have q116 : t114 < (l0.length : Int) := of_decide_eq_true (by first | (with_reducible assumption) | assumption); obtain ⟨ad116, e116, hx116_0, hx116_1⟩ := qcz HR0.out t114 p116 q116; obtain rfl : ad115 = ad116 := (by injection e116); replace p116 := eq_true p116; replace q116 := eq_true q116))
    go_ret2
    exact ⟨by first | rfl | (simp; done) | (simp [*]; done), by repeat (first | exact qaF.refl _ | apply qaF.step)⟩
   ·rw [if_neg c6] at H
    have c6b0 : (((qaK l0 t114).f0).toList == a1.toList) = false := beq_eq_false_iff_ne.mpr c6
    have c6b1 : (((qaK l0 t114).f0).toList != a1.toList) = true := bne_iff_ne.mpr c6
    simp only [Option.some.injEq, Prod.mk.injEq] at H
    obtain ⟨rfl, rfl⟩ := H
    go_enter Try.func45, Try.ntmps45
    go_wp2_with (first | ((with_reducible refine qaE (f := 63) rfl ?_); refine qbn (some 9) rfl rfl Try.func63 (by kernel_rfl) rfl #[.slice A0 l0.length c0, .string a1] rfl (by (try simp only [List.map_toArray, List.map_cons, List.map_nil]); first | done | rfl | (simp only [List.length_drop, List.length_take]; rfl)) ?_; (with_reducible refine (qbk.calls k _ _ l0 a1 t114 _ ?side1 ?side2 A3.out).mono ?_); (case side1 => repeat (first | exact HR0.out | (with_reducible refine Kd.qa9 ?_ _) | (with_reducible refine Kd.qba ?_ _) | (with_reducible refine Kd.qbl ?_))); (case side2 => exact HC0.out); rintro e w' ⟨rfl, ⟨nd, rfl⟩⟩; refine ⟨_, rfl, ?_⟩; have p115 : 0 ≤ (t114 : Int) := of_decide_eq_true (by first | (with_reducible assumption) | assumption); have q115 : t114 < (l0.length : Int) := of_decide_eq_true (by first | (with_reducible assumption) | assumption); obtain ⟨ad115, e115, hx115_0, hx115_1⟩ := qcz HR0.out t114 p115 q115; cases e115; replace p115 := eq_true p115; replace q115 := eq_true q115))
    go_ret2
    exact ⟨by first | rfl | (simp; done) | (simp [*]; done), by repeat (first | exact qaF.refl _ | apply qaF.step)⟩
  ·rw [if_neg c5] at H
   exact absurd H (by simp)
 ·rw [if_neg c4] at H
  have c4b0 : decide (t114 < (l0.length : Int)) = false := decide_eq_false c4
  clear c4
  simp only [Option.some.injEq, Prod.mk.injEq] at H
  obtain ⟨rfl, rfl⟩ := H
  go_enter Try.func45, Try.ntmps45
  go_wp2_with (first | ((with_reducible refine qaE (f := 63) rfl ?_); refine qbn (some 9) rfl rfl Try.func63 (by kernel_rfl) rfl #[.slice A0 l0.length c0, .string a1] rfl (by (try simp only [List.map_toArray, List.map_cons, List.map_nil]); first | done | rfl | (simp only [List.length_drop, List.length_take]; rfl)) ?_; (with_reducible refine (qbk.calls k _ _ l0 a1 t114 _ ?side1 ?side2 A3.out).mono ?_); (case side1 => repeat (first | exact HR0.out | (with_reducible refine Kd.qa9 ?_ _) | (with_reducible refine Kd.qba ?_ _) | (with_reducible refine Kd.qbl ?_))); (case side2 => exact HC0.out); rintro e w' ⟨rfl, ⟨nd, rfl⟩⟩; refine ⟨_, rfl, ?_⟩))
  go_ret2
  exact ⟨by first | rfl | (simp; done) | (simp [*]; done), by repeat (first | exact qaF.refl _ | apply qaF.step)⟩
theorem qgE (l : List S48) (key : ByteArray) (hl : l.length < 9223372036854775807) (rest : List S48) : ∀ pre : List S48, l = pre ++ rest →
  Ev (fun k => qbk.l0 k l key ((pre.length : Nat) : Int)) ((pre.length : Int) + (rest.findIdx fun p => !Op.bytesLess p.f0.toList key.toList : Nat)) := by
 induction rest with
 | nil =>
  intro pre h
  refine Ev.succ ?_
  simp only [qbk.l0]
  exact Ev.neg (by rw [h]; simp) (Ev.is (by simp))
 | cons x r ih =>
  intro pre h
  have hx := rd_at l pre r x h
  have hlen : pre.length < l.length := by rw [h]; simp
  have hi := ih (pre ++ [x]) (by rw [h]; simp)
  rw [← qcp] at hi
  refine Ev.succ ?_
  simp only [qbk.l0, hx, qcu (n := pre.length) (by omega)]
  refine Ev.pos (by omega) (Ev.pos (by omega) ?_)
  cases hb : Op.bytesLess x.f0.toList key.toList with
  | true =>
   refine Ev.pos rfl (Ev.same hi ?_)
   rw [List.findIdx_cons, hb]
   simp
   omega
  | false =>
   refine Ev.neg (by simp) (Ev.is ?_)
   rw [List.findIdx_cons, hb]
   simp
theorem qiO (l : List S48) (key : ByteArray) (hl : l.length < 9223372036854775807) : Ev (fun k => qbk.f k l key) (lowAt l key : Int) := by
 unfold qbk.f
 have h := qgE l key hl l [] rfl
 simpa [lowAt] using h
def getV (l : List S48) (key : ByteArray) : ByteArray := if hasAt l key = true then (qaK l (lowAt l key)).f1 else ⟨#[]⟩
theorem spec_get (l : List S48) (key : ByteArray) (hl : l.length < 9223372036854775807) : Ev (fun k => qdr.f k l key) (getV l key, hasAt l key) := by
 unfold qdr.f
 refine Ev.bind (qiO l key hl) ?_
 unfold getV hasAt
 by_cases h : lowAt l key < l.length
 ·refine Ev.pos (by omega) (Ev.pos (by omega) ?_)
  by_cases h2 : (qaK l (lowAt l key)).f0.toList = key.toList
  ·exact Ev.pos h2 (Ev.is (by simp [h, h2]))
  ·exact Ev.neg h2 (Ev.is (by simp [h, h2]))
 ·exact Ev.neg (by omega) (Ev.is (by simp [h]))
theorem qg9 {l : List S48} (key : ByteArray) (h : Rises l) (hl : l.length ≤ 1000000) : qbw.f l key = some ((lowAt l key : Int), hasAt l key) := by
 unfold qbw.f
 rw [if_pos ⟨h, hl⟩]
theorem qd6 {l : List S48} {key : ByteArray} (h : hasAt l key = true) : lowAt l key < l.length := by
 unfold hasAt at h
 simp only [Bool.and_eq_true, decide_eq_true_eq] at h
 exact h.1
def qaV.f (l0 : List S48) : Option (List S48) := if l0.length * 32 ≤ 140737488355328 then some l0 else none
set_option maxHeartbeats 1000000 in
set_option maxRecDepth 100000 in
theorem qaV.calls (A0 : Option Addr) (c0 : Nat) (l0 : List S48) (r : List S48) (w : World) (hr0 : Kd.C k48 w A0 l0.length l0) (hc0 : l0.length ≤ c0) (h : qaV.f l0 = some r) :
  Calls Try.prog 54 #[.slice A0 l0.length c0] w fun e w' => ∃ v0_ : Value, e = .returned (v0_) ∧ Kd.R k48 48 w' w.heap.size (fun _ => True) v0_ r ∧ Below w.heap.size w w' := by
 unfold qaV.f at h
 by_cases hl : l0.length * 32 ≤ 140737488355328
 ·rw [if_pos hl] at h
  obtain rfl := Option.some.inj h
  clear h
  have HL := Aside0.mk hl
  clear hl
  cases A0 with
  | none =>
   have h0 : l0.length = 0 := by
    rcases Nat.eq_zero_or_pos l0.length with h | h
    ·exact h
    ·obtain ⟨ad, he, _⟩ := hr0.2.2 h
     cases he
   obtain rfl := List.eq_nil_of_length_eq_zero h0
   clear h0 hr0
   have hq : ∀ w_, (binOp .eql 24 (.slice none 0 c0) (.slice none 0 0)).run Try.prog w_ = .ok (.bool true) w_ := fun w_ => by
    have := Lib.run_eql_slice_nil (P := Try.prog) w_ 24 48 none 0 c0 0 0 Try.underlying24
    simpa using this
   go_enter Try.func54, Try.ntmps54
   go_wp2_with fail
   go_ret
   exact ⟨_, rfl, Kd.qgP _ _ _ _ _, Below.refl _ _⟩
  | some ad0 =>
   have HR0 := Aside0.mk hr0
   clear hr0
   have hq : ∀ w_, (binOp .eql 24 (.slice (some ad0) l0.length c0) (.slice none 0 0)).run Try.prog w_ = .ok (.bool false) w_ := fun w_ => by
    have := Lib.run_eql_slice_nil (P := Try.prog) w_ 24 48 (some ad0) l0.length c0 0 0 Try.underlying24
    simpa using this
   have HB := Aside0.mk (Below.refl w.heap.size w)
   go_enter Try.func54, Try.ntmps54
   go_wp2_with (first | ((with_reducible refine qaM (N := 5) rfl ?_); refine Kd.qdN k48 _ 48 ?hg (N := 5) ?hd (xs := ([] : List S48)) (inner := []) (ok := fun _ => True) (okp := fun _ => True) ?hr ?hp (fun _ hk => hk) trivial (Below.refl _ _) (Nat.le_refl _) (by simp) ?_; (case hd => rfl); (case hg => rfl); (case hr => first | (go_simp; done) | (go_simp; rfl)); (case hp => exact (Reps.none _ _)); intro v1 w1 ho1 hb hg_ hnew_; clear hg_ hnew_; have n0_ := Aside0.mk (Kd.qbh ho1 (qak HB.out)); have n1_ := Aside0.mk (qag HB.out hb); clear HB; have HO1 := n0_; have HB := n1_; clear n0_ n1_; clear hb ho1) | ((with_reducible refine qbC (b := .append) (xs := #[.tmp 5, .tmp 6]) rfl ?_); at_builtin; refine Kd.qbQ k48 (w0 := w) w.heap.size rfl (.tmp 5) (.tmp 6) 24 48 (.agg #[(.string ⟨#[]⟩), (.string ⟨#[]⟩)]) 32 rfl Try.underlying24 qcL rfl (by decide) (by omega) v1 [] l0 _ _ _ (fun _ => True) (fun _ => False) rfl rfl ?aO ?aR (fun _ _ h => h) (fun _ h => h.elim) ?aF ?aB ?aS ?aL ?_; (case aR => exact (Kd.qa8 HR0.out HB.out)); (case aB => exact HB.out); (case aF => exact (fun _ _ => trivial)); (case aO => exact HO1.out); (case aS => exact (qak HB.out)); (case aL => have := HL.out; simpa using this); intro v2 w2 ho hb hg hat; have n0_ := Aside0.mk hb; have n1_ := Aside0.mk ho; clear HB HO1; have HB := n0_; have HO2 := n1_; clear n0_ n1_; clear ho hb hg hat))
   go_ret
   exact ⟨_, rfl, by simpa using HO2.out, HB.out⟩
 ·rw [if_neg hl] at h
  cases h
end Go.Proofs.Ytlkdcicpaneakaa.X
