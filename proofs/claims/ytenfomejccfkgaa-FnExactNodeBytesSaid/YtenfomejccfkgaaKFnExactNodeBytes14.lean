import Derived.Test.YtenfomejccfkgaaKFnExactNodeBytes3
import Derived.Test.YtenfomejccfkgaaKFnExactNodeBytes4
import Derived.Test.YtenfomejccfkgaaKFnExactNodeBytes11
import Derived.Test.YtenfomejccfkgaaKFnExactNodeBytes13
import Derived.LoopTactic
import Derived.WalkSpells
import Derived.Deep.Cut
namespace Go.Proofs.Ytenfomejccfkgaa.X
open Go.RowKit Go.Proofs.YtenfomejccfkgaaW.PrintWords Go.Proofs.YtenfomejccfkgaaW.PrintLast Go.Proofs.YtenfomejccfkgaaW.PrintMore
attribute [local go_sem] qaE qaF qaG qaz qaA qaS qaT qau qav qaB qaC
set_option linter.unusedVariables false
set_option linter.unusedSimpArgs false
def sNode.T8 : Bool × List (List Nat × List Nat) := (true, [([], []), ([], []), ([1], [1]), ([], []), ([2, 3], [2, 3]), ([4], [4]), ([5], [5]), ([], []), ([7], [7]), ([], []), ([8, 9], [8, 9]), ([10], [10]), ([11], [11]), ([6, 12], [6, 12]), ([0, 13], [0, 13]), ([14, 14, 0, 1, 2, 3, 4, 5, 6, 7, 8, 9, 10, 11, 12, 13, 14], [0, 14])])
def sNode.B8 : List Nat := [0, 0, 2, 0, 14, 30, 62, 0, 128, 0, 896, 1920, 3968, 8190, 16383, 32767]
theorem sNode.tab8 : rtab .any (opsOf Try.f79 8) = sNode.T8 := by kernel_rfl
theorem sNode.bits8 : qcd sNode.T8.2 sNode.B8 = true := by kernel_rfl
def sNode.T12 : Bool × List (List Nat × List Nat) := (true, [([], []), ([], []), ([1], [1]), ([], []), ([2, 3], [2, 3]), ([4], [4]), ([5], [5]), ([6], [6]), ([7], [7]), ([], []), ([9], [9]), ([], []), ([10, 11], [10, 11]), ([12], [12]), ([8, 13], [8, 13]), ([14], [14]), ([0, 15], [0, 15]), ([16, 16, 0, 1, 2, 3, 4, 5, 6, 7, 8, 9, 10, 11, 12, 13, 14, 15, 16], [0, 16])])
def sNode.B12 : List Nat := [0, 0, 2, 0, 14, 30, 62, 126, 254, 0, 512, 0, 3584, 7680, 16382, 32766, 65535, 131071]
theorem sNode.tab12 : rtab .any (opsOf Try.f79 12) = sNode.T12 := by kernel_rfl
theorem sNode.qgH : qcd sNode.T12.2 sNode.B12 = true := by kernel_rfl
def qby.f (a0_0 : Bool) (l0_1 : List S99) (l0_2 : List ByteArray) (l0_3 : List Int) : Option (List Int) := if nodeB a0_0 l0_1 l0_2 l0_3 = true ∧ freeB a0_0 l0_1 l0_2 l0_3 = false then some (bytesOf (nodeT a0_0 l0_1 l0_2 l0_3)) else none
set_option maxHeartbeats 16000000 in
set_option maxRecDepth 100000 in
theorem qby.calls (a0_0 : Bool) (A0_1 : Option Addr) (c0_1 : Nat) (l0_1 : List S99) (A0_2 : Option Addr) (c0_2 : Nat) (l0_2 : List ByteArray) (A0_3 : Option Addr) (c0_3 : Nat) (l0_3 : List Int) (r : List Int) (w : World) (hr0_1 : Kd.C k99 w A0_1 l0_1.length l0_1) (hc0_1 : l0_1.length ≤ c0_1) (hr0_2 : Kd.C Kd.string w A0_2 l0_2.length l0_2) (hc0_2 : l0_2.length ≤ c0_2) (hr0_3 : Kd.C (Kd.int .i64) w A0_3 l0_3.length l0_3) (hc0_3 : l0_3.length ≤ c0_3) (h : qby.f a0_0 l0_1 l0_2 l0_3 = some r) :
  Calls Try.prog 79 #[.agg #[.bool a0_0, .slice A0_1 l0_1.length c0_1, .slice A0_2 l0_2.length c0_2, .slice A0_3 l0_3.length c0_3]] w fun e w' => ∃ v0_ : Value, e = .returned (v0_) ∧ Kd.R (Kd.int .u8) 5 w' w.heap.size (fun _ => True) v0_ r ∧ Below w.heap.size w w' := by
 unfold qby.f at h
 by_cases hg : nodeB a0_0 l0_1 l0_2 l0_3 = true ∧ freeB a0_0 l0_1 l0_2 l0_3 = false
 ·rw [if_pos hg] at h
  have HH := Aside0.mk (Option.some.inj h)
  have hfit := qeD hg.1 hg.2
  have HF := Aside0.mk hfit
  have hkl : l0_3.length ≤ 4 := hfit.kl
  have hpl : l0_1.length ≤ 3 := hfit.pl
  have hu := Try.underlying56
  have hu2 := Try.underlying52
  have hu3 := Try.underlying48
  have HR1 := Aside0.mk hr0_1
  have HR2 := Aside0.mk hr0_2
  have HR3 := Aside0.mk hr0_3
  obtain ⟨w1, hw1⟩ : ∃ w1, w1 = w.alloc (.cells #[.bool a0_0, .slice A0_1 l0_1.length c0_1, .slice A0_2 l0_2.length c0_2, .slice A0_3 l0_3.length c0_3] 56 (0, 0)) := ⟨_, rfl⟩
  have HB1 := Aside0.mk (show Below w.heap.size w w1 from hw1 ▸ qac (Below.refl _ w) _)
  have BX1 := Aside0.mk (show w1.heap[w.heap.size]? = some (.cells #[.bool a0_0, .slice A0_1 l0_1.length c0_1, .slice A0_2 l0_2.length c0_2, .slice A0_3 l0_3.length c0_3] 56 (0, 0)) from hw1 ▸ qcz w _)
  clear h hr0_1 hr0_2 hr0_3 hg hfit
  go_enter Try.func79, Try.ntmps79
  go_upto_region 1 with fail
  rw [← hw1]
  clear hw1
  go_upto_region 2 with (first | ((with_reducible refine qaK (N := 7) rfl ?_); refine Kd.qd1 Kd.string w.heap.size 9 ?hg (N := 7) ?hd (xs := ([] : List ByteArray)) (inner := []) (ok := fun _ => True) (okp := fun _ => True) ?hr ?hp (fun _ hk => hk) trivial HB1.out HB1.out.size (by simp) ?_; (case hd => rfl); (case hg => rfl); (case hr => first | (go_simp; done) | (go_simp; rfl)); (case hp => exact (Reps.none _ _)); intro v1 w2 ho1 hb1 hg1 hn1))
  have HV1 := Aside0.mk ho1
  have HB2 := Aside0.mk hb1
  have BX2 := Aside0.mk (qb9 BX1.out hg1 (by simp))
  have b0 := qae BX2.out 0
  simp only [List.getElem?_toArray, List.getElem?_cons_zero] at b0
  clear ho1 hb1 hg1 hn1 HB1 BX1
  go_upto_if 9 with fail
  clear b0
  go_cut [3, 4] (fun v3 v4 wc => v4 = .int .u8 (markN a0_0) ∧ Aside0 (Kd.R Kd.string 9 wc w.heap.size (fun _ => True) v3 (leadL a0_0 l0_1)) ∧ Aside0 (Below w.heap.size w wc) ∧ Aside0 (wc.heap[w.heap.size]? = some (.cells #[.bool a0_0, .slice A0_1 l0_1.length c0_1, .slice A0_2 l0_2.length c0_2, .slice A0_3 l0_3.length c0_3] 56 (0, 0))))
  case first =>
   cases a0_0 with
   | false =>
    go_wp2_with fail
    go_meet
    case rel => exact ⟨rfl, HV1, HB2, BX2⟩
   | true =>
    go_upto_region 6 with fail
    go_loopw [3, 5] (fun v3 v5 wr => ∃ i : Nat, i ≤ l0_1.length ∧ v5 = .int .i64 (i : Int) ∧ Aside0 (Kd.R Kd.string 9 wr w.heap.size (fun _ => True) v3 (qco l0_1 i)) ∧ Aside0 (Below w.heap.size w wr) ∧ Aside0 (wr.heap[w.heap.size]? = some (.cells #[.bool true, .slice A0_1 l0_1.length c0_1, .slice A0_2 l0_2.length c0_2, .slice A0_3 l0_3.length c0_3] 56 (0, 0)))) (fun _ v5 _ => l0_1.length - (intOf v5).toNat)
    case atStart => exact ⟨0, by omega, rfl, HV1, HB2, BX2⟩
    case round =>
     clear HV1 HB2 BX2
     obtain ⟨i, hi, rfl, HV0, HB0, BX0⟩ := hrel
     have b1 := qae BX0.out 1
     simp only [List.getElem?_toArray, List.getElem?_cons_zero, List.getElem?_cons_succ] at b1
     by_cases hlt : i < l0_1.length
     ·have c5 : decide ((i : Int) < (l0_1.length : Int)) = true := decide_eq_true (by omega)
      have i0 : 0 ≤ (i : Int) := by omega
      have i1 : (i : Int) < (l0_1.length : Int) := by omega
      obtain ⟨ad1, e1, k0, k1⟩ := qb7 HR1.out (i : Int) i0 i1
      cases e1
      rw [Int.toNat_natCast] at k0 k1
      have hrd : qap l0_1 (i : Int) = l0_1[i] := by
       unfold qap
       rw [Int.toNat_natCast]
       simp [List.getD_eq_getElem?_getD, hlt]
      rw [hrd] at k0 k1
      have hst := qdQ l0_1 i hlt
      obtain ⟨ky, hky⟩ : ∃ ky, ky = l0_1[i].f0 := ⟨_, rfl⟩
      obtain ⟨vl, hvl⟩ : ∃ vl, vl = l0_1[i].f1 := ⟨_, rfl⟩
      rw [← hky, ← hvl] at hst
      rw [← hky] at k0
      rw [← hvl] at k1
      have KC := Aside0.mk (And.intro k0 k1)
      have HST := Aside0.mk hst
      have HIX := Aside0.mk (And.intro i0 i1)
      have HLN := Aside0.mk (show (qco l0_1 i).length ≤ 6 from (qdl HF.out.pl (HF.out.ok rfl) i).1)
      clear hrd hst hky hvl k0 k1
      go_upto_region 8 with fail
      clear b1
      have BX := Aside0.mk (qam BX0.out)
      have HB := Aside0.mk (qcc HB0.out)
      have HV := Aside0.mk (Kd.qa9 HV0.out)
      clear BX0 HB0 HV0
      refine qgc (n := 16) (S := fun w' => True) (ds := []) #[false, false, false, false, false, false, false, false, false, false, false, false, false, false, false, false] (by kernel_rfl) rfl rfl trivial (fun hHeld => ?_)
      refine qdH sNode.tab8 sNode.bits8 (fun HT_ HW_ => ?_)
      generalize wr.drew = wd at BX HB HV ⊢
      refine inv_at [0, 1, 2, 3, 4, 5, 6, 7, 8, 9, 10, 11, 12, 13, 14, 15] (fun a0_ b a w' => ∃ (z : Value) (y : Value) (m15_ : Value), a = qbR a0_ b [(0, 17, u3), (1, 18, .pointer (some ⟨w.heap.size, 1, none⟩)), (2, 19, .slice (some ad1) l0_1.length c0_1), (3, 20, .int .i64 (i : Int)), (4, 21, .pointer (some (ad1.add (i * 2)))), (5, 22, .pointer (some (ad1.add (i * 2)))), (6, 23, .string ky), (7, 24, .pointer (some ⟨w.heap.size, 1, none⟩)), (8, 25, .slice (some ad1) l0_1.length c0_1), (9, 26, .int .i64 (i : Int)), (10, 27, .pointer (some (ad1.add (i * 2)))), (11, 28, .pointer (some ⟨(ad1.add (i * 2)).block, (ad1.add (i * 2)).off + 1, none⟩)), (12, 29, .string vl), (13, 30, z), (14, 31, y), (15, 3, m15_)] ∧ (w'.heap[w.heap.size]? = some (.cells #[.bool true, .slice (some ad1) l0_1.length c0_1, .slice A0_2 l0_2.length c0_2, .slice A0_3 l0_3.length c0_3] 56 (0, 0))) ∧ (Below w.heap.size w w') ∧ (b 14 = false → Kd.R Kd.string 9 w' w.heap.size (fun _ => True) u3 (qco l0_1 i)) ∧ (b 13 = true → b 14 = false → Kd.R Kd.string 9 w' w.heap.size (fun _ => True) z [ky, vl]) ∧ (b 14 = true → Kd.R Kd.string 9 w' w.heap.size (fun _ => True) y (qco l0_1 i ++ [ky, vl])) ∧ (b 15 = true → (m15_ : Value) = y)) HT_.out HW_.out (by kernel_rfl) (by kernel_rfl) ?_ ?_ ?_
      ·exact ⟨.bool false, .bool false, .bool false, by simp only [qbR, Bool.false_eq_true, if_false], BX.out, HB.out, fun _ => HV.out, fun h_ => absurd h_ (by decide), fun h_ => absurd h_ (by decide), fun h_ => absurd h_ (by decide)⟩
      ·skip
       clear BX HB HV
       refine qba ?_ ?_
       ·rintro b a w' ⟨z, y, m15_, ha, Q_BX, Q_HB, Q_HV, Q_HZ, Q_HY, Q_X15_⟩ hb_ hon hoff
        refine ⟨_, rfl, fun K hK => ?_⟩
        have e3 : a.tmps[3]? = some (u3) := by rw [ha]; exact (qcU (hoff 15 (by kernel_rfl)) rfl).trans rfl
        replace ha := Aside0.mk ha
        refine qbI (w1 := w') (v := u3) (by rfl) rfl ?_ ?_
        ·go_simp
         (try simp only [qbF])
         try rfl
        refine hK.out _ _ ⟨z, y, m15_, (by rw [ha.out]; exact qbb 0 hb_ rfl rfl rfl), Q_BX, Q_HB, Q_HV, Q_HZ, fun h0_ => absurd ((hoff 14 (by kernel_rfl)).symm.trans h0_) (by decide), fun h0_ => absurd ((hoff 15 (by kernel_rfl)).symm.trans h0_) (by decide)⟩
       refine qba ?_ ?_
       ·rintro b a w' ⟨z, y, m15_, ha, Q_BX, Q_HB, Q_HV, Q_HZ, Q_HY, Q_X15_⟩ hb_ hon hoff
        refine ⟨_, rfl, fun K hK => ?_⟩
        have e1 : a.tmps[1]? = some (.pointer (some ⟨w.heap.size, 0, none⟩)) := by rw [ha]; exact (qbS rfl).trans rfl
        replace ha := Aside0.mk ha
        refine qbI (w1 := w') (v := .pointer (some ⟨w.heap.size, 1, none⟩)) (by rfl) rfl ?_ ?_
        ·go_simp
         (try simp only [qbF])
         try rfl
        refine hK.out _ _ ⟨z, y, m15_, (by rw [ha.out]; exact qbb 1 hb_ rfl rfl rfl), Q_BX, Q_HB, Q_HV, fun h0_ _ => absurd ((hoff 13 (by kernel_rfl)).symm.trans h0_) (by decide), fun h0_ => absurd ((hoff 14 (by kernel_rfl)).symm.trans h0_) (by decide), fun h0_ => absurd ((hoff 15 (by kernel_rfl)).symm.trans h0_) (by decide)⟩
       refine qba ?_ ?_
       ·rintro b a w' ⟨z, y, m15_, ha, Q_BX, Q_HB, Q_HV, Q_HZ, Q_HY, Q_X15_⟩ hb_ hon hoff
        refine ⟨_, rfl, fun K hK => ?_⟩
        have e18 : a.tmps[18]? = some (.pointer (some ⟨w.heap.size, 1, none⟩)) := on_ ha 1 rfl rfl (hon 1 (by kernel_rfl)) rfl
        replace ha := Aside0.mk ha
        have BX := Aside0.mk Q_BX
        have hc_ := qae BX.out 1
        simp only [List.getElem?_toArray, List.getElem?_cons_zero, List.getElem?_cons_succ] at hc_
        refine qbI (w1 := w') (v := .slice (some ad1) l0_1.length c0_1) (by rfl) rfl ?_ ?_
        ·go_simp
         (try simp only [qbF])
         try rfl
        refine hK.out _ _ ⟨z, y, m15_, (by rw [ha.out]; exact qbb 2 hb_ rfl rfl rfl), Q_BX, Q_HB, Q_HV, fun h0_ _ => absurd ((hoff 13 (by kernel_rfl)).symm.trans h0_) (by decide), fun h0_ => absurd ((hoff 14 (by kernel_rfl)).symm.trans h0_) (by decide), fun h0_ => absurd ((hoff 15 (by kernel_rfl)).symm.trans h0_) (by decide)⟩
       refine qba ?_ ?_
       ·rintro b a w' ⟨z, y, m15_, ha, Q_BX, Q_HB, Q_HV, Q_HZ, Q_HY, Q_X15_⟩ hb_ hon hoff
        refine ⟨_, rfl, fun K hK => ?_⟩
        have e5 : a.tmps[5]? = some (.int .i64 (i : Int)) := by rw [ha]; exact (qbS rfl).trans rfl
        replace ha := Aside0.mk ha
        refine qbI (w1 := w') (v := .int .i64 (i : Int)) (by rfl) rfl ?_ ?_
        ·go_simp
         (try simp only [qbF])
         try rfl
        refine hK.out _ _ ⟨z, y, m15_, (by rw [ha.out]; exact qbb 3 hb_ rfl rfl rfl), Q_BX, Q_HB, Q_HV, fun h0_ _ => absurd ((hoff 13 (by kernel_rfl)).symm.trans h0_) (by decide), fun h0_ => absurd ((hoff 14 (by kernel_rfl)).symm.trans h0_) (by decide), fun h0_ => absurd ((hoff 15 (by kernel_rfl)).symm.trans h0_) (by decide)⟩
       refine qba ?_ ?_
       ·rintro b a w' ⟨z, y, m15_, ha, Q_BX, Q_HB, Q_HV, Q_HZ, Q_HY, Q_X15_⟩ hb_ hon hoff
        refine ⟨_, rfl, fun K hK => ?_⟩
        have e19 : a.tmps[19]? = some (.slice (some ad1) l0_1.length c0_1) := on_ ha 2 rfl rfl (hon 2 (by kernel_rfl)) rfl
        have e20 : a.tmps[20]? = some (.int .i64 (i : Int)) := on_ ha 3 rfl rfl (hon 3 (by kernel_rfl)) rfl
        replace ha := Aside0.mk ha
        have y_ := HIX.out
        refine qbI (w1 := w') (v := .pointer (some (ad1.add (i * 2)))) (by rfl) rfl ?_ ?_
        ·go_simp
         (try simp only [qbF])
         try rfl
        refine hK.out _ _ ⟨z, y, m15_, (by rw [ha.out]; exact qbb 4 hb_ rfl rfl rfl), Q_BX, Q_HB, Q_HV, fun h0_ _ => absurd ((hoff 13 (by kernel_rfl)).symm.trans h0_) (by decide), fun h0_ => absurd ((hoff 14 (by kernel_rfl)).symm.trans h0_) (by decide), fun h0_ => absurd ((hoff 15 (by kernel_rfl)).symm.trans h0_) (by decide)⟩
       refine qba ?_ ?_
       ·rintro b a w' ⟨z, y, m15_, ha, Q_BX, Q_HB, Q_HV, Q_HZ, Q_HY, Q_X15_⟩ hb_ hon hoff
        refine ⟨_, rfl, fun K hK => ?_⟩
        have e21 : a.tmps[21]? = some (.pointer (some (ad1.add (i * 2)))) := on_ ha 4 rfl rfl (hon 4 (by kernel_rfl)) rfl
        replace ha := Aside0.mk ha
        refine qbI (w1 := w') (v := .pointer (some (ad1.add (i * 2)))) (by rfl) rfl ?_ ?_
        ·go_simp
         (try simp only [qbF])
         try rfl
        refine hK.out _ _ ⟨z, y, m15_, (by rw [ha.out]; exact qbb 5 hb_ rfl rfl rfl), Q_BX, Q_HB, Q_HV, fun h0_ _ => absurd ((hoff 13 (by kernel_rfl)).symm.trans h0_) (by decide), fun h0_ => absurd ((hoff 14 (by kernel_rfl)).symm.trans h0_) (by decide), fun h0_ => absurd ((hoff 15 (by kernel_rfl)).symm.trans h0_) (by decide)⟩
       refine qba ?_ ?_
       ·rintro b a w' ⟨z, y, m15_, ha, Q_BX, Q_HB, Q_HV, Q_HZ, Q_HY, Q_X15_⟩ hb_ hon hoff
        refine ⟨_, rfl, fun K hK => ?_⟩
        have e22 : a.tmps[22]? = some (.pointer (some (ad1.add (i * 2)))) := on_ ha 5 rfl rfl (hon 5 (by kernel_rfl)) rfl
        replace ha := Aside0.mk ha
        have HB := Aside0.mk Q_HB
        have hc_ := (HB.out.cell (World.block_lt_of_cell? w _ KC.out.1)).trans KC.out.1
        refine qbI (w1 := w') (v := .string ky) (by rfl) rfl ?_ ?_
        ·go_simp
         (try simp only [qbF])
         try rfl
        refine hK.out _ _ ⟨z, y, m15_, (by rw [ha.out]; exact qbb 6 hb_ rfl rfl rfl), Q_BX, Q_HB, Q_HV, fun h0_ _ => absurd ((hoff 13 (by kernel_rfl)).symm.trans h0_) (by decide), fun h0_ => absurd ((hoff 14 (by kernel_rfl)).symm.trans h0_) (by decide), fun h0_ => absurd ((hoff 15 (by kernel_rfl)).symm.trans h0_) (by decide)⟩
       refine qba ?_ ?_
       ·rintro b a w' ⟨z, y, m15_, ha, Q_BX, Q_HB, Q_HV, Q_HZ, Q_HY, Q_X15_⟩ hb_ hon hoff
        refine ⟨_, rfl, fun K hK => ?_⟩
        have e1 : a.tmps[1]? = some (.pointer (some ⟨w.heap.size, 0, none⟩)) := by rw [ha]; exact (qbS rfl).trans rfl
        replace ha := Aside0.mk ha
        refine qbI (w1 := w') (v := .pointer (some ⟨w.heap.size, 1, none⟩)) (by rfl) rfl ?_ ?_
        ·go_simp
         (try simp only [qbF])
         try rfl
        refine hK.out _ _ ⟨z, y, m15_, (by rw [ha.out]; exact qbb 7 hb_ rfl rfl rfl), Q_BX, Q_HB, Q_HV, fun h0_ _ => absurd ((hoff 13 (by kernel_rfl)).symm.trans h0_) (by decide), fun h0_ => absurd ((hoff 14 (by kernel_rfl)).symm.trans h0_) (by decide), fun h0_ => absurd ((hoff 15 (by kernel_rfl)).symm.trans h0_) (by decide)⟩
       refine qba ?_ ?_
       ·rintro b a w' ⟨z, y, m15_, ha, Q_BX, Q_HB, Q_HV, Q_HZ, Q_HY, Q_X15_⟩ hb_ hon hoff
        refine ⟨_, rfl, fun K hK => ?_⟩
        have e24 : a.tmps[24]? = some (.pointer (some ⟨w.heap.size, 1, none⟩)) := on_ ha 7 rfl rfl (hon 7 (by kernel_rfl)) rfl
        replace ha := Aside0.mk ha
        have BX := Aside0.mk Q_BX
        have hc_ := qae BX.out 1
        simp only [List.getElem?_toArray, List.getElem?_cons_zero, List.getElem?_cons_succ] at hc_
        refine qbI (w1 := w') (v := .slice (some ad1) l0_1.length c0_1) (by rfl) rfl ?_ ?_
        ·go_simp
         (try simp only [qbF])
         try rfl
        refine hK.out _ _ ⟨z, y, m15_, (by rw [ha.out]; exact qbb 8 hb_ rfl rfl rfl), Q_BX, Q_HB, Q_HV, fun h0_ _ => absurd ((hoff 13 (by kernel_rfl)).symm.trans h0_) (by decide), fun h0_ => absurd ((hoff 14 (by kernel_rfl)).symm.trans h0_) (by decide), fun h0_ => absurd ((hoff 15 (by kernel_rfl)).symm.trans h0_) (by decide)⟩
       refine qba ?_ ?_
       ·rintro b a w' ⟨z, y, m15_, ha, Q_BX, Q_HB, Q_HV, Q_HZ, Q_HY, Q_X15_⟩ hb_ hon hoff
        refine ⟨_, rfl, fun K hK => ?_⟩
        have e5 : a.tmps[5]? = some (.int .i64 (i : Int)) := by rw [ha]; exact (qbS rfl).trans rfl
        replace ha := Aside0.mk ha
        refine qbI (w1 := w') (v := .int .i64 (i : Int)) (by rfl) rfl ?_ ?_
        ·go_simp
         (try simp only [qbF])
         try rfl
        refine hK.out _ _ ⟨z, y, m15_, (by rw [ha.out]; exact qbb 9 hb_ rfl rfl rfl), Q_BX, Q_HB, Q_HV, fun h0_ _ => absurd ((hoff 13 (by kernel_rfl)).symm.trans h0_) (by decide), fun h0_ => absurd ((hoff 14 (by kernel_rfl)).symm.trans h0_) (by decide), fun h0_ => absurd ((hoff 15 (by kernel_rfl)).symm.trans h0_) (by decide)⟩
       refine qba ?_ ?_
       ·rintro b a w' ⟨z, y, m15_, ha, Q_BX, Q_HB, Q_HV, Q_HZ, Q_HY, Q_X15_⟩ hb_ hon hoff
        refine ⟨_, rfl, fun K hK => ?_⟩
        have e25 : a.tmps[25]? = some (.slice (some ad1) l0_1.length c0_1) := on_ ha 8 rfl rfl (hon 8 (by kernel_rfl)) rfl
        have e26 : a.tmps[26]? = some (.int .i64 (i : Int)) := on_ ha 9 rfl rfl (hon 9 (by kernel_rfl)) rfl
        replace ha := Aside0.mk ha
        have y_ := HIX.out
        refine qbI (w1 := w') (v := .pointer (some (ad1.add (i * 2)))) (by rfl) rfl ?_ ?_
        ·go_simp
         (try simp only [qbF])
         try rfl
        refine hK.out _ _ ⟨z, y, m15_, (by rw [ha.out]; exact qbb 10 hb_ rfl rfl rfl), Q_BX, Q_HB, Q_HV, fun h0_ _ => absurd ((hoff 13 (by kernel_rfl)).symm.trans h0_) (by decide), fun h0_ => absurd ((hoff 14 (by kernel_rfl)).symm.trans h0_) (by decide), fun h0_ => absurd ((hoff 15 (by kernel_rfl)).symm.trans h0_) (by decide)⟩
       refine qba ?_ ?_
       ·rintro b a w' ⟨z, y, m15_, ha, Q_BX, Q_HB, Q_HV, Q_HZ, Q_HY, Q_X15_⟩ hb_ hon hoff
        refine ⟨_, rfl, fun K hK => ?_⟩
        have e27 : a.tmps[27]? = some (.pointer (some (ad1.add (i * 2)))) := on_ ha 10 rfl rfl (hon 10 (by kernel_rfl)) rfl
        replace ha := Aside0.mk ha
        refine qbI (w1 := w') (v := .pointer (some ⟨(ad1.add (i * 2)).block, (ad1.add (i * 2)).off + 1, none⟩)) (by rfl) rfl ?_ ?_
        ·go_simp
         (try simp only [qbF])
         try rfl
        refine hK.out _ _ ⟨z, y, m15_, (by rw [ha.out]; exact qbb 11 hb_ rfl rfl rfl), Q_BX, Q_HB, Q_HV, fun h0_ _ => absurd ((hoff 13 (by kernel_rfl)).symm.trans h0_) (by decide), fun h0_ => absurd ((hoff 14 (by kernel_rfl)).symm.trans h0_) (by decide), fun h0_ => absurd ((hoff 15 (by kernel_rfl)).symm.trans h0_) (by decide)⟩
       refine qba ?_ ?_
       ·rintro b a w' ⟨z, y, m15_, ha, Q_BX, Q_HB, Q_HV, Q_HZ, Q_HY, Q_X15_⟩ hb_ hon hoff
        refine ⟨_, rfl, fun K hK => ?_⟩
        have e28 : a.tmps[28]? = some (.pointer (some ⟨(ad1.add (i * 2)).block, (ad1.add (i * 2)).off + 1, none⟩)) := on_ ha 11 rfl rfl (hon 11 (by kernel_rfl)) rfl
        replace ha := Aside0.mk ha
        have HB := Aside0.mk Q_HB
        have hc_ := (HB.out.cell (World.block_lt_of_cell? w _ KC.out.2)).trans KC.out.2
        refine qbI (w1 := w') (v := .string vl) (by rfl) rfl ?_ ?_
        ·go_simp
         (try simp only [qbF])
         try rfl
        refine hK.out _ _ ⟨z, y, m15_, (by rw [ha.out]; exact qbb 12 hb_ rfl rfl rfl), Q_BX, Q_HB, Q_HV, fun h0_ _ => absurd ((hoff 13 (by kernel_rfl)).symm.trans h0_) (by decide), fun h0_ => absurd ((hoff 14 (by kernel_rfl)).symm.trans h0_) (by decide), fun h0_ => absurd ((hoff 15 (by kernel_rfl)).symm.trans h0_) (by decide)⟩
       refine qba ?_ ?_
       ·rintro b a w' ⟨z, y, m15_, ha, Q_BX, Q_HB, Q_HV, Q_HZ, Q_HY, Q_X15_⟩ hb_ hon hoff
        refine ⟨_, rfl, fun K hK => ?_⟩
        have e23 : a.tmps[23]? = some (.string ky) := on_ ha 6 rfl rfl (hon 6 (by kernel_rfl)) rfl
        have e29 : a.tmps[29]? = some (.string vl) := on_ ha 12 rfl rfl (hon 12 (by kernel_rfl)) rfl
        replace ha := Aside0.mk ha
        have BX := Aside0.mk Q_BX
        have HB := Aside0.mk Q_HB
        have HV := Aside0.mk (Q_HV (hoff 14 (by kernel_rfl)))
        refine Kd.qcS Kd.string w.heap.size 9 (by rfl) (N := 30) (by rfl) (xs := ([ky, vl] : List ByteArray)) (inner := [.string ky, .string vl]) (ok := fun _ => True) (okp := fun _ => True) ?hr ?hp (fun _ hk => hk) trivial HB.out HB.out.size (by simp) ?_
        case hr => first | (go_simp; done) | (go_simp; rfl)
        case hp => exact (Reps.one (show Kd.M Kd.string _ _ _ ky [.string ky] from rfl) (Reps.one (show Kd.M Kd.string _ _ _ vl [.string vl] from rfl) (Reps.none _ _)))
        intro z1 w1 hz hbz hgz hoz
        refine hK.out _ _ ⟨z1, y, m15_, (by rw [ha.out]; exact qbb 13 hb_ rfl rfl rfl), qb9 BX.out hgz (by simp), hbz, fun _ => Kd.qdy HV.out hgz (fun _ _ h => by cases h), fun _ _ => hz, fun h0_ => absurd ((hoff 14 (by kernel_rfl)).symm.trans h0_) (by decide), fun h0_ => absurd ((hoff 15 (by kernel_rfl)).symm.trans h0_) (by decide)⟩
       refine qba ?_ ?_
       ·rintro b a w' ⟨z, y, m15_, ha, Q_BX, Q_HB, Q_HV, Q_HZ, Q_HY, Q_X15_⟩ hb_ hon hoff
        refine ⟨_, rfl, fun K hK => ?_⟩
        have e17 : a.tmps[17]? = some (u3) := on_ ha 0 rfl rfl (hon 0 (by kernel_rfl)) rfl
        have e30 : a.tmps[30]? = some (z) := on_ ha 13 rfl rfl (hon 13 (by kernel_rfl)) rfl
        replace ha := Aside0.mk ha
        have BX := Aside0.mk Q_BX
        have HB := Aside0.mk Q_HB
        have HV := Aside0.mk (Q_HV hb_)
        have HZ := Aside0.mk (Q_HZ (hon 13 (by kernel_rfl)) hb_)
        obtain ⟨A_, c_, ez_, hcz_, hCz_⟩ := Kd.qbM HZ.out
        subst ez_
        refine Kd.qcb Kd.string (w0 := w) w.heap.size (by rfl) (.tmp 17) (.tmp 30) 48 9 (.string ⟨#[]⟩) 16 rfl Try.underlying48 info9 rfl (by decide) (by omega) u3 (qco l0_1 i) [ky, vl] _ _ _ (fun _ => True) (fun _ => False) (qez e17) (qez e30) HV.out hCz_ (fun _ _ h => h) (fun _ h => h.elim) (fun _ _ => trivial) HB.out HB.out.size (by have := HLN.out; simp only [List.length_cons, List.length_nil]; omega) ?_
        intro v1 w1 ho1 hb1 hg1 hat1
        refine hK.out _ _ ⟨.slice A_ [ky, vl].length c_, v1, m15_, (by rw [ha.out]; exact qbb 14 hb_ rfl rfl rfl), qb9 BX.out hg1 (Kd.R_ne HV.out BX.out (by decide)), hb1, fun h0_ => absurd ((qcD b 14).symm.trans h0_) (by decide), fun _ h1_ => absurd ((qcD b 14).symm.trans h1_) (by decide), fun _ => ho1, fun h0_ => absurd ((hoff 15 (by kernel_rfl)).symm.trans h0_) (by decide)⟩
       refine qba ?_ ?_
       ·rintro b a w' ⟨z, y, m15_, ha, Q_BX, Q_HB, Q_HV, Q_HZ, Q_HY, Q_X15_⟩ hb_ hon hoff
        refine ⟨_, rfl, fun K hK => ?_⟩
        have e31 : a.tmps[31]? = some (y) := on_ ha 14 rfl rfl (hon 14 (by kernel_rfl)) rfl
        replace ha := Aside0.mk ha
        refine qbI (w1 := w') (v := y) (by rfl) rfl ?_ ?_
        ·go_simp
         (try simp only [qbF])
         try rfl
        refine hK.out _ _ ⟨z, y, (y), (by rw [ha.out]; exact qbb 15 hb_ rfl rfl rfl), Q_BX, Q_HB, fun h0_ => absurd ((hon 14 (by kernel_rfl)).symm.trans h0_) (by decide), fun _ h1_ => absurd ((hon 14 (by kernel_rfl)).symm.trans h1_) (by decide), Q_HY, fun _ => rfl⟩
       exact qeR
      rintro b a wA hall ⟨z, y, m15_, ha, Q_BX, Q_HB, Q_HV, Q_HZ, Q_HY, Q_X15_⟩
      clear BX HB HV
      have hb0_ := hall 0 (by kernel_rfl)
      have hb1_ := hall 1 (by kernel_rfl)
      have hb2_ := hall 2 (by kernel_rfl)
      have hb3_ := hall 3 (by kernel_rfl)
      have hb4_ := hall 4 (by kernel_rfl)
      have hb5_ := hall 5 (by kernel_rfl)
      have hb6_ := hall 6 (by kernel_rfl)
      have hb7_ := hall 7 (by kernel_rfl)
      have hb8_ := hall 8 (by kernel_rfl)
      have hb9_ := hall 9 (by kernel_rfl)
      have hb10_ := hall 10 (by kernel_rfl)
      have hb11_ := hall 11 (by kernel_rfl)
      have hb12_ := hall 12 (by kernel_rfl)
      have hb13_ := hall 13 (by kernel_rfl)
      have hb14_ := hall 14 (by kernel_rfl)
      have hb15_ := hall 15 (by kernel_rfl)
      subst ha
      obtain rfl := Q_X15_ hb15_
      simp only [qbR, hb0_, hb1_, hb2_, hb3_, hb4_, hb5_, hb6_, hb7_, hb8_, hb9_, hb10_, hb11_, hb12_, hb13_, hb14_, hb15_, if_true, Act.put, List.setIfInBounds_toArray, List.set_cons_zero, List.set_cons_succ]
      have BX := Aside0.mk Q_BX
      clear Q_BX
      have HB := Aside0.mk Q_HB
      clear Q_HB
      clear Q_HV
      clear Q_HZ
      have HY := Aside0.mk (Q_HY hb14_)
      clear Q_HY
      clear hall hb0_ hb1_ hb2_ hb3_ hb4_ hb5_ hb6_ hb7_ hb8_ hb9_ hb10_ hb11_ hb12_ hb13_ hb14_ hb15_
      rw [← HST.out] at HY
      go_wp2_with fail
      go_roundw
      case rel => exact ⟨i + 1, by omega, by go_num, HY, HB, BX⟩
      case measure => simp [intOf]; omega
     ·have he : i = l0_1.length := by omega
      have c5 : decide ((i : Int) < (l0_1.length : Int)) = false := decide_eq_false (by omega)
      have HV2 := Aside0.mk (show Kd.R Kd.string 9 wr w.heap.size (fun _ => True) u3 (leadL true l0_1) from by have h := HV0.out; rw [he] at h; exact h)
      clear HV0 he
      go_wp2_with fail
      go_meet
      case rel => exact ⟨rfl, HV2, HB0, BX0⟩
  case rest =>
   obtain ⟨rfl, HV1, HB2, BX2⟩ := hcut
   go_upto_region 10 with fail
   go_loopw [3, 6] (fun v3 v6 wr => ∃ i : Nat, i ≤ l0_3.length ∧ v6 = .int .i64 (i : Int) ∧ Aside0 (Kd.R Kd.string 9 wr w.heap.size (fun _ => True) v3 (leadL a0_0 l0_1 ++ kidTo l0_3 l0_2 i)) ∧ Aside0 (Below w.heap.size w wr) ∧ Aside0 (wr.heap[w.heap.size]? = some (.cells #[.bool a0_0, .slice A0_1 l0_1.length c0_1, .slice A0_2 l0_2.length c0_2, .slice A0_3 l0_3.length c0_3] 56 (0, 0)))) (fun _ v6 _ => l0_3.length - (intOf v6).toNat)
   case atStart => exact ⟨0, by omega, rfl, ⟨by rw [show kidTo l0_3 l0_2 0 = [] from rfl, List.append_nil]; exact HV1.out⟩, HB2, BX2⟩
   case round =>
    clear HV1 HB2 BX2
    obtain ⟨i, hi, rfl, HV0, HB0, BX0⟩ := hrel
    have b3 := qae BX0.out 3
    simp only [List.getElem?_toArray, List.getElem?_cons_zero, List.getElem?_cons_succ] at b3
    by_cases hlt : i < l0_3.length
    ·have c5 : decide ((i : Int) < (l0_3.length : Int)) = true := decide_eq_true (by omega)
     have i0 : 0 ≤ (i : Int) := by omega
     have i1 : (i : Int) < (l0_3.length : Int) := by omega
     have i2 : (i : Int) < (l0_2.length : Int) := by have := HF.out.ml; omega
     obtain ⟨ad3, e3, k0⟩ := Kd.qb1 HR3.out (i : Int) i0 i1
     cases e3
     obtain ⟨ad2, e2, k1⟩ := Kd.qbn HR2.out (i : Int) i0 i2
     cases e2
     rw [Int.toNat_natCast] at k0 k1
     have hst := qep l0_3 l0_2 i
     have hms := HF.out.me i hlt
     obtain ⟨kk, hkk⟩ : ∃ kk, kk = rd l0_3 (i : Int) := ⟨_, rfl⟩
     obtain ⟨m, hm⟩ : ∃ m, m = rdOf ByteArray.empty l0_2 (i : Int) := ⟨_, rfl⟩
     rw [← hkk, ← hm] at hst
     rw [← hkk] at k0
     rw [← hm] at k1 hms
     obtain ⟨s1, hs1⟩ : ∃ s1, s1 = strOfNums [kk % 256] ++ m := ⟨_, rfl⟩
     rw [← hs1] at hst
     have KC := Aside0.mk (And.intro k0 k1)
     have HST := Aside0.mk hst
     have HE1 := Aside0.mk hs1
     have HOV := Aside0.mk (show (9223372036854775807 < (strOfNums [kk % 256]).size + m.size) = False from eq_false (by rw [show (strOfNums [kk % 256]).size = 1 from rfl]; omega))
     have HIX := Aside0.mk (And.intro i0 (And.intro i1 i2))
     have HWK := Aside0.mk (rfl : kk = kk)
     have HLN := Aside0.mk (show (leadL a0_0 l0_1 ++ kidTo l0_3 l0_2 i).length ≤ 10 from by rw [List.length_append]; have h1 := (qfJ HF.out).1; have h2 := (qdR HF.out.me i (by omega) HF.out.kl).1; omega)
     clear hst hkk hm hs1 k0 k1 hms
     go_upto_region 12 with fail
     clear b3
     have BX := Aside0.mk (qam BX0.out)
     have HB := Aside0.mk (qcc HB0.out)
     have HV := Aside0.mk (Kd.qa9 HV0.out)
     clear BX0 HB0 HV0
     refine qgc (n := 18) (S := fun w' => True) (ds := []) #[false, false, false, false, false, false, false, false, false, false, false, false, false, false, false, false, false, false] (by kernel_rfl) rfl rfl trivial (fun hHeld => ?_)
     refine qdH sNode.tab12 sNode.qgH (fun HT_ HW_ => ?_)
     generalize wr.drew = wd at BX HB HV ⊢
     refine inv_at [0, 1, 2, 3, 4, 5, 6, 7, 8, 9, 10, 11, 12, 13, 14, 15, 16, 17] (fun a0_ b a w' => ∃ (zu : Value) (z : Value) (y : Value) (m17_ : Value), a = qbR a0_ b [(0, 39, u3), (1, 40, .pointer (some ⟨w.heap.size, 3, none⟩)), (2, 41, .slice (some ad3) l0_3.length c0_3), (3, 42, .int .i64 (i : Int)), (4, 43, .pointer (some (ad3.add i))), (5, 44, .int .i64 kk), (6, 45, .int .u8 (kk % 256)), (7, 46, zu), (8, 47, .string (strOfNums [kk % 256])), (9, 48, .pointer (some ⟨w.heap.size, 2, none⟩)), (10, 49, .slice (some ad2) l0_2.length c0_2), (11, 50, .int .i64 (i : Int)), (12, 51, .pointer (some (ad2.add i))), (13, 52, .string m), (14, 53, .string s1), (15, 54, z), (16, 55, y), (17, 3, m17_)] ∧ (w'.heap[w.heap.size]? = some (.cells #[.bool a0_0, .slice A0_1 l0_1.length c0_1, .slice (some ad2) l0_2.length c0_2, .slice (some ad3) l0_3.length c0_3] 56 (0, 0))) ∧ (Below w.heap.size w w') ∧ (b 16 = false → Kd.R Kd.string 9 w' w.heap.size (fun _ => True) u3 (leadL a0_0 l0_1 ++ kidTo l0_3 l0_2 i)) ∧ (b 7 = true → b 16 = false → Kd.R (Kd.int .u8) 5 w' w.heap.size (fun _ => True) zu [kk % 256]) ∧ (b 15 = true → b 16 = false → Kd.R Kd.string 9 w' w.heap.size (fun _ => True) z [s1]) ∧ (b 16 = true → Kd.R Kd.string 9 w' w.heap.size (fun _ => True) y ((leadL a0_0 l0_1 ++ kidTo l0_3 l0_2 i) ++ [s1])) ∧ (b 17 = true → (m17_ : Value) = y)) HT_.out HW_.out (by kernel_rfl) (by kernel_rfl) ?_ ?_ ?_
     ·exact ⟨.bool false, .bool false, .bool false, .bool false, by simp only [qbR, Bool.false_eq_true, if_false], BX.out, HB.out, fun _ => HV.out, fun h_ => absurd h_ (by decide), fun h_ => absurd h_ (by decide), fun h_ => absurd h_ (by decide), fun h_ => absurd h_ (by decide)⟩
     ·skip
      clear BX HB HV
      refine qba ?_ ?_
      ·rintro b a w' ⟨zu, z, y, m17_, ha, Q_BX, Q_HB, Q_HV, Q_HU, Q_HZ, Q_HY, Q_X17_⟩ hb_ hon hoff
       refine ⟨_, rfl, fun K hK => ?_⟩
       have e3 : a.tmps[3]? = some (u3) := by rw [ha]; exact (qcU (hoff 17 (by kernel_rfl)) rfl).trans rfl
       replace ha := Aside0.mk ha
       refine qbI (w1 := w') (v := u3) (by rfl) rfl ?_ ?_
       ·go_simp
        (try simp only [qbF])
        try rfl
       refine hK.out _ _ ⟨zu, z, y, m17_, (by rw [ha.out]; exact qbb 0 hb_ rfl rfl rfl), Q_BX, Q_HB, Q_HV, Q_HU, Q_HZ, fun h0_ => absurd ((hoff 16 (by kernel_rfl)).symm.trans h0_) (by decide), fun h0_ => absurd ((hoff 17 (by kernel_rfl)).symm.trans h0_) (by decide)⟩
      refine qba ?_ ?_
      ·rintro b a w' ⟨zu, z, y, m17_, ha, Q_BX, Q_HB, Q_HV, Q_HU, Q_HZ, Q_HY, Q_X17_⟩ hb_ hon hoff
       refine ⟨_, rfl, fun K hK => ?_⟩
       have e1 : a.tmps[1]? = some (.pointer (some ⟨w.heap.size, 0, none⟩)) := by rw [ha]; exact (qbS rfl).trans rfl
       replace ha := Aside0.mk ha
       refine qbI (w1 := w') (v := .pointer (some ⟨w.heap.size, 3, none⟩)) (by rfl) rfl ?_ ?_
       ·go_simp
        (try simp only [qbF])
        try rfl
       refine hK.out _ _ ⟨zu, z, y, m17_, (by rw [ha.out]; exact qbb 1 hb_ rfl rfl rfl), Q_BX, Q_HB, Q_HV, fun h0_ _ => absurd ((hoff 7 (by kernel_rfl)).symm.trans h0_) (by decide), fun h0_ _ => absurd ((hoff 15 (by kernel_rfl)).symm.trans h0_) (by decide), fun h0_ => absurd ((hoff 16 (by kernel_rfl)).symm.trans h0_) (by decide), fun h0_ => absurd ((hoff 17 (by kernel_rfl)).symm.trans h0_) (by decide)⟩
      refine qba ?_ ?_
      ·rintro b a w' ⟨zu, z, y, m17_, ha, Q_BX, Q_HB, Q_HV, Q_HU, Q_HZ, Q_HY, Q_X17_⟩ hb_ hon hoff
       refine ⟨_, rfl, fun K hK => ?_⟩
       have e40 : a.tmps[40]? = some (.pointer (some ⟨w.heap.size, 3, none⟩)) := on_ ha 1 rfl rfl (hon 1 (by kernel_rfl)) rfl
       replace ha := Aside0.mk ha
       have BX := Aside0.mk Q_BX
       have hc_ := qae BX.out 3
       simp only [List.getElem?_toArray, List.getElem?_cons_zero, List.getElem?_cons_succ] at hc_
       refine qbI (w1 := w') (v := .slice (some ad3) l0_3.length c0_3) (by rfl) rfl ?_ ?_
       ·go_simp
        (try simp only [qbF])
        try rfl
       refine hK.out _ _ ⟨zu, z, y, m17_, (by rw [ha.out]; exact qbb 2 hb_ rfl rfl rfl), Q_BX, Q_HB, Q_HV, fun h0_ _ => absurd ((hoff 7 (by kernel_rfl)).symm.trans h0_) (by decide), fun h0_ _ => absurd ((hoff 15 (by kernel_rfl)).symm.trans h0_) (by decide), fun h0_ => absurd ((hoff 16 (by kernel_rfl)).symm.trans h0_) (by decide), fun h0_ => absurd ((hoff 17 (by kernel_rfl)).symm.trans h0_) (by decide)⟩
      refine qba ?_ ?_
      ·rintro b a w' ⟨zu, z, y, m17_, ha, Q_BX, Q_HB, Q_HV, Q_HU, Q_HZ, Q_HY, Q_X17_⟩ hb_ hon hoff
       refine ⟨_, rfl, fun K hK => ?_⟩
       have e6 : a.tmps[6]? = some (.int .i64 (i : Int)) := by rw [ha]; exact (qbS rfl).trans rfl
       replace ha := Aside0.mk ha
       refine qbI (w1 := w') (v := .int .i64 (i : Int)) (by rfl) rfl ?_ ?_
       ·go_simp
        (try simp only [qbF])
        try rfl
       refine hK.out _ _ ⟨zu, z, y, m17_, (by rw [ha.out]; exact qbb 3 hb_ rfl rfl rfl), Q_BX, Q_HB, Q_HV, fun h0_ _ => absurd ((hoff 7 (by kernel_rfl)).symm.trans h0_) (by decide), fun h0_ _ => absurd ((hoff 15 (by kernel_rfl)).symm.trans h0_) (by decide), fun h0_ => absurd ((hoff 16 (by kernel_rfl)).symm.trans h0_) (by decide), fun h0_ => absurd ((hoff 17 (by kernel_rfl)).symm.trans h0_) (by decide)⟩
      refine qba ?_ ?_
      ·rintro b a w' ⟨zu, z, y, m17_, ha, Q_BX, Q_HB, Q_HV, Q_HU, Q_HZ, Q_HY, Q_X17_⟩ hb_ hon hoff
       refine ⟨_, rfl, fun K hK => ?_⟩
       have e41 : a.tmps[41]? = some (.slice (some ad3) l0_3.length c0_3) := on_ ha 2 rfl rfl (hon 2 (by kernel_rfl)) rfl
       have e42 : a.tmps[42]? = some (.int .i64 (i : Int)) := on_ ha 3 rfl rfl (hon 3 (by kernel_rfl)) rfl
       replace ha := Aside0.mk ha
       have y_ := HIX.out
       refine qbI (w1 := w') (v := .pointer (some (ad3.add i))) (by rfl) rfl ?_ ?_
       ·go_simp
        (try simp only [qbF])
        try rfl
       refine hK.out _ _ ⟨zu, z, y, m17_, (by rw [ha.out]; exact qbb 4 hb_ rfl rfl rfl), Q_BX, Q_HB, Q_HV, fun h0_ _ => absurd ((hoff 7 (by kernel_rfl)).symm.trans h0_) (by decide), fun h0_ _ => absurd ((hoff 15 (by kernel_rfl)).symm.trans h0_) (by decide), fun h0_ => absurd ((hoff 16 (by kernel_rfl)).symm.trans h0_) (by decide), fun h0_ => absurd ((hoff 17 (by kernel_rfl)).symm.trans h0_) (by decide)⟩
      refine qba ?_ ?_
      ·rintro b a w' ⟨zu, z, y, m17_, ha, Q_BX, Q_HB, Q_HV, Q_HU, Q_HZ, Q_HY, Q_X17_⟩ hb_ hon hoff
       refine ⟨_, rfl, fun K hK => ?_⟩
       have e43 : a.tmps[43]? = some (.pointer (some (ad3.add i))) := on_ ha 4 rfl rfl (hon 4 (by kernel_rfl)) rfl
       replace ha := Aside0.mk ha
       have HB := Aside0.mk Q_HB
       have hc_ := (HB.out.cell (World.block_lt_of_cell? w _ KC.out.1)).trans KC.out.1
       refine qbI (w1 := w') (v := .int .i64 kk) (by rfl) rfl ?_ ?_
       ·go_simp
        (try simp only [qbF])
        try rfl
       refine hK.out _ _ ⟨zu, z, y, m17_, (by rw [ha.out]; exact qbb 5 hb_ rfl rfl rfl), Q_BX, Q_HB, Q_HV, fun h0_ _ => absurd ((hoff 7 (by kernel_rfl)).symm.trans h0_) (by decide), fun h0_ _ => absurd ((hoff 15 (by kernel_rfl)).symm.trans h0_) (by decide), fun h0_ => absurd ((hoff 16 (by kernel_rfl)).symm.trans h0_) (by decide), fun h0_ => absurd ((hoff 17 (by kernel_rfl)).symm.trans h0_) (by decide)⟩
      refine qba ?_ ?_
      ·rintro b a w' ⟨zu, z, y, m17_, ha, Q_BX, Q_HB, Q_HV, Q_HU, Q_HZ, Q_HY, Q_X17_⟩ hb_ hon hoff
       refine ⟨_, rfl, fun K hK => ?_⟩
       have e44 : a.tmps[44]? = some (.int .i64 kk) := on_ ha 5 rfl rfl (hon 5 (by kernel_rfl)) rfl
       replace ha := Aside0.mk ha
       have y_ := HWK.out
       refine qbI (w1 := w') (v := .int .u8 (kk % 256)) (by rfl) rfl ?_ ?_
       ·go_simp
        (try simp only [qbF])
        try rfl
       refine hK.out _ _ ⟨zu, z, y, m17_, (by rw [ha.out]; exact qbb 6 hb_ rfl rfl rfl), Q_BX, Q_HB, Q_HV, fun h0_ _ => absurd ((hoff 7 (by kernel_rfl)).symm.trans h0_) (by decide), fun h0_ _ => absurd ((hoff 15 (by kernel_rfl)).symm.trans h0_) (by decide), fun h0_ => absurd ((hoff 16 (by kernel_rfl)).symm.trans h0_) (by decide), fun h0_ => absurd ((hoff 17 (by kernel_rfl)).symm.trans h0_) (by decide)⟩
      refine qba ?_ ?_
      ·rintro b a w' ⟨zu, z, y, m17_, ha, Q_BX, Q_HB, Q_HV, Q_HU, Q_HZ, Q_HY, Q_X17_⟩ hb_ hon hoff
       refine ⟨_, rfl, fun K hK => ?_⟩
       have e45 : a.tmps[45]? = some (.int .u8 (kk % 256)) := on_ ha 6 rfl rfl (hon 6 (by kernel_rfl)) rfl
       replace ha := Aside0.mk ha
       have BX := Aside0.mk Q_BX
       have HB := Aside0.mk Q_HB
       have HV := Aside0.mk (Q_HV (hoff 16 (by kernel_rfl)))
       refine Kd.qcS (Kd.int .u8) w.heap.size 5 (by rfl) (N := 46) (by rfl) (xs := ([kk % 256] : List Int)) (inner := [.int .u8 (kk % 256)]) (ok := fun _ => True) (okp := fun _ => True) ?hr ?hp (fun _ hk => hk) trivial HB.out HB.out.size (by simp) ?_
       case hr => first | (go_simp; done) | (go_simp; rfl)
       case hp => exact (Reps.one (show Kd.M (Kd.int .u8) _ _ _ (kk % 256) [.int .u8 (kk % 256)] from rfl) (Reps.none _ _))
       intro z1 w1 hz hbz hgz hoz
       refine hK.out _ _ ⟨z1, z, y, m17_, (by rw [ha.out]; exact qbb 7 hb_ rfl rfl rfl), qb9 BX.out hgz (by simp), hbz, fun _ => Kd.qdy HV.out hgz (fun _ _ h => by cases h), fun _ _ => hz, fun h0_ _ => absurd ((hoff 15 (by kernel_rfl)).symm.trans h0_) (by decide), fun h0_ => absurd ((hoff 16 (by kernel_rfl)).symm.trans h0_) (by decide), fun h0_ => absurd ((hoff 17 (by kernel_rfl)).symm.trans h0_) (by decide)⟩
      refine qba ?_ ?_
      ·rintro b a w' ⟨zu, z, y, m17_, ha, Q_BX, Q_HB, Q_HV, Q_HU, Q_HZ, Q_HY, Q_X17_⟩ hb_ hon hoff
       refine ⟨_, rfl, fun K hK => ?_⟩
       have e46 : a.tmps[46]? = some (zu) := on_ ha 7 rfl rfl (hon 7 (by kernel_rfl)) rfl
       replace ha := Aside0.mk ha
       have HU := Aside0.mk (Q_HU (hon 7 (by kernel_rfl)) (hoff 16 (by kernel_rfl)))
       have hcv_ := qcQ (P := Try.prog) Try.underlying52 Try.underlying5 Try.underlying9 (Kd.qcA HU.out)
       refine qbI (w1 := w') (v := .string (strOfNums [kk % 256])) (by rfl) rfl ?_ ?_
       ·go_simp
        (try simp only [qbF])
        try rfl
       refine hK.out _ _ ⟨zu, z, y, m17_, (by rw [ha.out]; exact qbb 8 hb_ rfl rfl rfl), Q_BX, Q_HB, Q_HV, Q_HU, fun h0_ _ => absurd ((hoff 15 (by kernel_rfl)).symm.trans h0_) (by decide), fun h0_ => absurd ((hoff 16 (by kernel_rfl)).symm.trans h0_) (by decide), fun h0_ => absurd ((hoff 17 (by kernel_rfl)).symm.trans h0_) (by decide)⟩
      refine qba ?_ ?_
      ·rintro b a w' ⟨zu, z, y, m17_, ha, Q_BX, Q_HB, Q_HV, Q_HU, Q_HZ, Q_HY, Q_X17_⟩ hb_ hon hoff
       refine ⟨_, rfl, fun K hK => ?_⟩
       have e1 : a.tmps[1]? = some (.pointer (some ⟨w.heap.size, 0, none⟩)) := by rw [ha]; exact (qbS rfl).trans rfl
       replace ha := Aside0.mk ha
       refine qbI (w1 := w') (v := .pointer (some ⟨w.heap.size, 2, none⟩)) (by rfl) rfl ?_ ?_
       ·go_simp
        (try simp only [qbF])
        try rfl
       refine hK.out _ _ ⟨zu, z, y, m17_, (by rw [ha.out]; exact qbb 9 hb_ rfl rfl rfl), Q_BX, Q_HB, Q_HV, Q_HU, fun h0_ _ => absurd ((hoff 15 (by kernel_rfl)).symm.trans h0_) (by decide), fun h0_ => absurd ((hoff 16 (by kernel_rfl)).symm.trans h0_) (by decide), fun h0_ => absurd ((hoff 17 (by kernel_rfl)).symm.trans h0_) (by decide)⟩
      refine qba ?_ ?_
      ·rintro b a w' ⟨zu, z, y, m17_, ha, Q_BX, Q_HB, Q_HV, Q_HU, Q_HZ, Q_HY, Q_X17_⟩ hb_ hon hoff
       refine ⟨_, rfl, fun K hK => ?_⟩
       have e48 : a.tmps[48]? = some (.pointer (some ⟨w.heap.size, 2, none⟩)) := on_ ha 9 rfl rfl (hon 9 (by kernel_rfl)) rfl
       replace ha := Aside0.mk ha
       have BX := Aside0.mk Q_BX
       have hc_ := qae BX.out 2
       simp only [List.getElem?_toArray, List.getElem?_cons_zero, List.getElem?_cons_succ] at hc_
       refine qbI (w1 := w') (v := .slice (some ad2) l0_2.length c0_2) (by rfl) rfl ?_ ?_
       ·go_simp
        (try simp only [qbF])
        try rfl
       refine hK.out _ _ ⟨zu, z, y, m17_, (by rw [ha.out]; exact qbb 10 hb_ rfl rfl rfl), Q_BX, Q_HB, Q_HV, Q_HU, fun h0_ _ => absurd ((hoff 15 (by kernel_rfl)).symm.trans h0_) (by decide), fun h0_ => absurd ((hoff 16 (by kernel_rfl)).symm.trans h0_) (by decide), fun h0_ => absurd ((hoff 17 (by kernel_rfl)).symm.trans h0_) (by decide)⟩
      refine qba ?_ ?_
      ·rintro b a w' ⟨zu, z, y, m17_, ha, Q_BX, Q_HB, Q_HV, Q_HU, Q_HZ, Q_HY, Q_X17_⟩ hb_ hon hoff
       refine ⟨_, rfl, fun K hK => ?_⟩
       have e6 : a.tmps[6]? = some (.int .i64 (i : Int)) := by rw [ha]; exact (qbS rfl).trans rfl
       replace ha := Aside0.mk ha
       refine qbI (w1 := w') (v := .int .i64 (i : Int)) (by rfl) rfl ?_ ?_
       ·go_simp
        (try simp only [qbF])
        try rfl
       refine hK.out _ _ ⟨zu, z, y, m17_, (by rw [ha.out]; exact qbb 11 hb_ rfl rfl rfl), Q_BX, Q_HB, Q_HV, Q_HU, fun h0_ _ => absurd ((hoff 15 (by kernel_rfl)).symm.trans h0_) (by decide), fun h0_ => absurd ((hoff 16 (by kernel_rfl)).symm.trans h0_) (by decide), fun h0_ => absurd ((hoff 17 (by kernel_rfl)).symm.trans h0_) (by decide)⟩
      refine qba ?_ ?_
      ·rintro b a w' ⟨zu, z, y, m17_, ha, Q_BX, Q_HB, Q_HV, Q_HU, Q_HZ, Q_HY, Q_X17_⟩ hb_ hon hoff
       refine ⟨_, rfl, fun K hK => ?_⟩
       have e49 : a.tmps[49]? = some (.slice (some ad2) l0_2.length c0_2) := on_ ha 10 rfl rfl (hon 10 (by kernel_rfl)) rfl
       have e50 : a.tmps[50]? = some (.int .i64 (i : Int)) := on_ ha 11 rfl rfl (hon 11 (by kernel_rfl)) rfl
       replace ha := Aside0.mk ha
       have y_ := HIX.out
       refine qbI (w1 := w') (v := .pointer (some (ad2.add i))) (by rfl) rfl ?_ ?_
       ·go_simp
        (try simp only [qbF])
        try rfl
       refine hK.out _ _ ⟨zu, z, y, m17_, (by rw [ha.out]; exact qbb 12 hb_ rfl rfl rfl), Q_BX, Q_HB, Q_HV, Q_HU, fun h0_ _ => absurd ((hoff 15 (by kernel_rfl)).symm.trans h0_) (by decide), fun h0_ => absurd ((hoff 16 (by kernel_rfl)).symm.trans h0_) (by decide), fun h0_ => absurd ((hoff 17 (by kernel_rfl)).symm.trans h0_) (by decide)⟩
      refine qba ?_ ?_
      ·rintro b a w' ⟨zu, z, y, m17_, ha, Q_BX, Q_HB, Q_HV, Q_HU, Q_HZ, Q_HY, Q_X17_⟩ hb_ hon hoff
       refine ⟨_, rfl, fun K hK => ?_⟩
       have e51 : a.tmps[51]? = some (.pointer (some (ad2.add i))) := on_ ha 12 rfl rfl (hon 12 (by kernel_rfl)) rfl
       replace ha := Aside0.mk ha
       have HB := Aside0.mk Q_HB
       have hc_ := (HB.out.cell (World.block_lt_of_cell? w _ KC.out.2)).trans KC.out.2
       refine qbI (w1 := w') (v := .string m) (by rfl) rfl ?_ ?_
       ·go_simp
        (try simp only [qbF])
        try rfl
       refine hK.out _ _ ⟨zu, z, y, m17_, (by rw [ha.out]; exact qbb 13 hb_ rfl rfl rfl), Q_BX, Q_HB, Q_HV, Q_HU, fun h0_ _ => absurd ((hoff 15 (by kernel_rfl)).symm.trans h0_) (by decide), fun h0_ => absurd ((hoff 16 (by kernel_rfl)).symm.trans h0_) (by decide), fun h0_ => absurd ((hoff 17 (by kernel_rfl)).symm.trans h0_) (by decide)⟩
      refine qba ?_ ?_
      ·rintro b a w' ⟨zu, z, y, m17_, ha, Q_BX, Q_HB, Q_HV, Q_HU, Q_HZ, Q_HY, Q_X17_⟩ hb_ hon hoff
       refine ⟨_, rfl, fun K hK => ?_⟩
       have e47 : a.tmps[47]? = some (.string (strOfNums [kk % 256])) := on_ ha 8 rfl rfl (hon 8 (by kernel_rfl)) rfl
       have e52 : a.tmps[52]? = some (.string m) := on_ ha 13 rfl rfl (hon 13 (by kernel_rfl)) rfl
       replace ha := Aside0.mk ha
       have hov_ := HOV.out
       have hes_ := HE1.out.symm
       refine qbI (w1 := w') (v := .string s1) (by rfl) rfl ?_ ?_
       ·go_simp
        (try simp only [qbF])
        try rfl
       refine hK.out _ _ ⟨zu, z, y, m17_, (by rw [ha.out]; exact qbb 14 hb_ rfl rfl rfl), Q_BX, Q_HB, Q_HV, Q_HU, fun h0_ _ => absurd ((hoff 15 (by kernel_rfl)).symm.trans h0_) (by decide), fun h0_ => absurd ((hoff 16 (by kernel_rfl)).symm.trans h0_) (by decide), fun h0_ => absurd ((hoff 17 (by kernel_rfl)).symm.trans h0_) (by decide)⟩
      refine qba ?_ ?_
      ·rintro b a w' ⟨zu, z, y, m17_, ha, Q_BX, Q_HB, Q_HV, Q_HU, Q_HZ, Q_HY, Q_X17_⟩ hb_ hon hoff
       refine ⟨_, rfl, fun K hK => ?_⟩
       have e53 : a.tmps[53]? = some (.string s1) := on_ ha 14 rfl rfl (hon 14 (by kernel_rfl)) rfl
       replace ha := Aside0.mk ha
       have BX := Aside0.mk Q_BX
       have HB := Aside0.mk Q_HB
       have HV := Aside0.mk (Q_HV (hoff 16 (by kernel_rfl)))
       have HU := Aside0.mk (Q_HU (hon 7 (by kernel_rfl)) (hoff 16 (by kernel_rfl)))
       refine Kd.qcS Kd.string w.heap.size 9 (by rfl) (N := 54) (by rfl) (xs := ([s1] : List ByteArray)) (inner := [.string s1]) (ok := fun _ => True) (okp := fun _ => True) ?hr ?hp (fun _ hk => hk) trivial HB.out HB.out.size (by simp) ?_
       case hr => first | (go_simp; done) | (go_simp; rfl)
       case hp => exact (Reps.one (show Kd.M Kd.string _ _ _ s1 [.string s1] from rfl) (Reps.none _ _))
       intro z1 w1 hz hbz hgz hoz
       refine hK.out _ _ ⟨zu, z1, y, m17_, (by rw [ha.out]; exact qbb 15 hb_ rfl rfl rfl), qb9 BX.out hgz (by simp), hbz, fun _ => Kd.qdy HV.out hgz (fun _ _ h => by cases h), fun _ _ => Kd.qdy HU.out hgz (fun _ _ h => by cases h), fun _ _ => hz, fun h0_ => absurd ((hoff 16 (by kernel_rfl)).symm.trans h0_) (by decide), fun h0_ => absurd ((hoff 17 (by kernel_rfl)).symm.trans h0_) (by decide)⟩
      refine qba ?_ ?_
      ·rintro b a w' ⟨zu, z, y, m17_, ha, Q_BX, Q_HB, Q_HV, Q_HU, Q_HZ, Q_HY, Q_X17_⟩ hb_ hon hoff
       refine ⟨_, rfl, fun K hK => ?_⟩
       have e39 : a.tmps[39]? = some (u3) := on_ ha 0 rfl rfl (hon 0 (by kernel_rfl)) rfl
       have e54 : a.tmps[54]? = some (z) := on_ ha 15 rfl rfl (hon 15 (by kernel_rfl)) rfl
       replace ha := Aside0.mk ha
       have BX := Aside0.mk Q_BX
       have HB := Aside0.mk Q_HB
       have HV := Aside0.mk (Q_HV hb_)
       have HZ := Aside0.mk (Q_HZ (hon 15 (by kernel_rfl)) hb_)
       obtain ⟨A_, c_, ez_, hcz_, hCz_⟩ := Kd.qbM HZ.out
       subst ez_
       refine Kd.qcb Kd.string (w0 := w) w.heap.size (by rfl) (.tmp 39) (.tmp 54) 48 9 (.string ⟨#[]⟩) 16 rfl Try.underlying48 info9 rfl (by decide) (by omega) u3 (leadL a0_0 l0_1 ++ kidTo l0_3 l0_2 i) [s1] _ _ _ (fun _ => True) (fun _ => False) (qez e39) (qez e54) HV.out hCz_ (fun _ _ h => h) (fun _ h => h.elim) (fun _ _ => trivial) HB.out HB.out.size (by have := HLN.out; simp only [List.length_cons, List.length_nil]; omega) ?_
       intro v1 w1 ho1 hb1 hg1 hat1
       refine hK.out _ _ ⟨zu, .slice A_ [s1].length c_, v1, m17_, (by rw [ha.out]; exact qbb 16 hb_ rfl rfl rfl), qb9 BX.out hg1 (Kd.R_ne HV.out BX.out (by decide)), hb1, fun h0_ => absurd ((qcD b 16).symm.trans h0_) (by decide), fun _ h1_ => absurd ((qcD b 16).symm.trans h1_) (by decide), fun _ h1_ => absurd ((qcD b 16).symm.trans h1_) (by decide), fun _ => ho1, fun h0_ => absurd ((hoff 17 (by kernel_rfl)).symm.trans h0_) (by decide)⟩
      refine qba ?_ ?_
      ·rintro b a w' ⟨zu, z, y, m17_, ha, Q_BX, Q_HB, Q_HV, Q_HU, Q_HZ, Q_HY, Q_X17_⟩ hb_ hon hoff
       refine ⟨_, rfl, fun K hK => ?_⟩
       have e55 : a.tmps[55]? = some (y) := on_ ha 16 rfl rfl (hon 16 (by kernel_rfl)) rfl
       replace ha := Aside0.mk ha
       refine qbI (w1 := w') (v := y) (by rfl) rfl ?_ ?_
       ·go_simp
        (try simp only [qbF])
        try rfl
       refine hK.out _ _ ⟨zu, z, y, (y), (by rw [ha.out]; exact qbb 17 hb_ rfl rfl rfl), Q_BX, Q_HB, fun h0_ => absurd ((hon 16 (by kernel_rfl)).symm.trans h0_) (by decide), fun _ h1_ => absurd ((hon 16 (by kernel_rfl)).symm.trans h1_) (by decide), fun _ h1_ => absurd ((hon 16 (by kernel_rfl)).symm.trans h1_) (by decide), Q_HY, fun _ => rfl⟩
      exact qeR
     rintro b a wA hall ⟨zu, z, y, m17_, ha, Q_BX, Q_HB, Q_HV, Q_HU, Q_HZ, Q_HY, Q_X17_⟩
     clear BX HB HV
     have hb0_ := hall 0 (by kernel_rfl)
     have hb1_ := hall 1 (by kernel_rfl)
     have hb2_ := hall 2 (by kernel_rfl)
     have hb3_ := hall 3 (by kernel_rfl)
     have hb4_ := hall 4 (by kernel_rfl)
     have hb5_ := hall 5 (by kernel_rfl)
     have hb6_ := hall 6 (by kernel_rfl)
     have hb7_ := hall 7 (by kernel_rfl)
     have hb8_ := hall 8 (by kernel_rfl)
     have hb9_ := hall 9 (by kernel_rfl)
     have hb10_ := hall 10 (by kernel_rfl)
     have hb11_ := hall 11 (by kernel_rfl)
     have hb12_ := hall 12 (by kernel_rfl)
     have hb13_ := hall 13 (by kernel_rfl)
     have hb14_ := hall 14 (by kernel_rfl)
     have hb15_ := hall 15 (by kernel_rfl)
     have hb16_ := hall 16 (by kernel_rfl)
     have hb17_ := hall 17 (by kernel_rfl)
     subst ha
     obtain rfl := Q_X17_ hb17_
     simp only [qbR, hb0_, hb1_, hb2_, hb3_, hb4_, hb5_, hb6_, hb7_, hb8_, hb9_, hb10_, hb11_, hb12_, hb13_, hb14_, hb15_, hb16_, hb17_, if_true, Act.put, List.setIfInBounds_toArray, List.set_cons_zero, List.set_cons_succ]
     have BX := Aside0.mk Q_BX
     clear Q_BX
     have HB := Aside0.mk Q_HB
     clear Q_HB
     clear Q_HV
     clear Q_HU
     clear Q_HZ
     have HY := Aside0.mk (Q_HY hb16_)
     clear Q_HY
     clear hall hb0_ hb1_ hb2_ hb3_ hb4_ hb5_ hb6_ hb7_ hb8_ hb9_ hb10_ hb11_ hb12_ hb13_ hb14_ hb15_ hb16_ hb17_
     rw [List.append_assoc, ← HST.out] at HY
     go_wp2_with fail
     go_roundw
     case rel => exact ⟨i + 1, by omega, by go_num, HY, HB, BX⟩
     case measure => simp [intOf]; omega
    ·have he : i = l0_3.length := by omega
     have c5 : decide ((i : Int) < (l0_3.length : Int)) = false := decide_eq_false (by omega)
     have HV2 := Aside0.mk (show Kd.R Kd.string 9 wr w.heap.size (fun _ => True) u3 (nodeL a0_0 l0_1 l0_2 l0_3) from by have h := HV0.out; rw [he] at h; exact h)
     have hfl := qdS HF.out
     have hfs := qcj HF.out
     have hff : qbZ.f (nodeL a0_0 l0_1 l0_2 l0_3) = some (bytesOf (qcl (nodeL a0_0 l0_1 l0_2 l0_3))) := by
      unfold qbZ.f
      rw [if_pos ⟨by omega, fun t ht => by have := hfl.2 t ht; omega⟩]
     obtain ⟨ks, hks⟩ := Ev.rounds (qgG (markT a0_0 ++ qcl (nodeL a0_0 l0_1 l0_2 l0_3)) (by rw [ByteArray.size_append, show (markT a0_0).size = 1 from rfl]; omega))
     have hmk : bytesOf (markT a0_0) = [markN a0_0] := by cases a0_0 <;> rfl
     rw [qcf, hmk] at hks
     have HKS := Aside0.mk hks
     have HFF := Aside0.mk hff
     have HFL := Aside0.mk (show (bytesOf (qcl (nodeL a0_0 l0_1 l0_2 l0_3))).length ≤ 100000000 from by rw [bytesOf_length]; exact hfs)
     obtain ⟨A3, c3, ev, hvc, hvC⟩ := Kd.qbM HV2.out
     subst ev
     clear HV0 he hfl hfs hff hks hmk hvc hvC
     go_upto_region 13 with fail
     clear b3
     go_wp2_with (first | ((with_reducible refine qaK (N := 57) rfl ?_); refine Kd.qd1 (Kd.int .u8) w.heap.size 5 ?hg (N := 57) ?hd (xs := ([markN a0_0] : List Int)) (inner := [.int .u8 (markN a0_0)]) (ok := fun _ => True) (okp := fun _ => True) ?hr ?hp (fun _ hk => hk) trivial HB0.out HB0.out.size (by simp) ?_; (case hd => rfl); (case hg => rfl); (case hr => first | (go_simp; done) | (go_simp; rfl)); (case hp => exact (Reps.one (show Kd.M (Kd.int .u8) _ _ _ (markN a0_0) [.int .u8 (markN a0_0)] from rfl) (Reps.none _ _))); intro v4 w4 ho4 hb4 hg4 hn4))
     have HV4 := Aside0.mk (Kd.qdy HV2.out hg4 (fun _ _ h => by cases h))
     refine (qbZ.calls A3 c3 (nodeL a0_0 l0_1 l0_2 l0_3) _ w4 (Kd.qa3 HV4.out).2.2 (Kd.qa3 HV4.out).2.1 HFF.out).mono ?_
     rintro e w5 ⟨v5, rfl, ho5, hb5⟩
     obtain ⟨A5, c5', ev, hc5, hC5⟩ := Kd.qbM ho5
     subst ev
     have HM5 := Aside0.mk (Kd.qbe ho4 hb5)
     have HB5 := Aside0.mk (qag hb4 hb5)
     have HC5 := Aside0.mk hC5
     clear ho4 hb4 hg4 hn4 hb5 hC5 ho5 hc5 HV4
     go_wp2_with (at_builtin; refine Kd.qcB (Kd.int .u8) (w0 := w) w.heap.size rfl (.tmp 57) (.tmp 59) 52 5 (.int .u8 0) 1 rfl Try.underlying52 info5 rfl (by decide) (by omega) v4 [markN a0_0] (bytesOf (qcl (nodeL a0_0 l0_1 l0_2 l0_3))) _ _ _ (fun _ => True) (fun _ => False) rfl rfl HM5.out HC5.out (fun _ _ h => h) (fun _ h => h.elim) (fun _ _ => trivial) HB5.out HB5.out.size (by have := HFL.out; simp only [List.length_cons, List.length_nil]; omega) ?_; intro v6 w6 ho6 hb6 hg6 hat6)
     refine (qbC.calls ks (fun _ => True) v6 _ _ w w6 hb6 ho6 HKS.out).mono ?_
     rintro e w7 ⟨v7, rfl, ho7, hb7, _⟩
     have HO7 := Aside0.mk (Kd.qbp (ok' := fun _ => True) ho7 (fun _ _ => trivial))
     have HB7 := Aside0.mk hb7
     clear ho6 hb6 hg6 hat6 ho7 hb7
     go_wp2_with fail
     go_ret
     rw [← HH.out]
     exact ⟨v7, rfl, HO7.out, HB7.out⟩
 ·rw [if_neg hg] at h
  cases h
end Go.Proofs.Ytenfomejccfkgaa.X
