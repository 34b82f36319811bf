import Derived.Test.YtenfomejccfkgaaKFnExactCountRefs4
import Derived.Test.YtenfomejccfkgaaKFnExactCountRefs22
namespace Go.Proofs.Ytenfomejccfkgaa.X
open Go.RowKit Go.Proofs.YtenfomejccfkgaaW.PrintWords Go.Proofs.YtenfomejccfkgaaW.PrintLast Go.Proofs.YtenfomejccfkgaaW.PrintMore
attribute [local go_sem] qaC qaD qaE qay qaz qaO qaP qas qat qaA qaB
set_option linter.unusedVariables false
set_option linter.unusedSimpArgs false
mutual
def qaU.l0 : Nat → List Int → List Int → List Int → Int → Int → List (S56) → Option (List Int)
 | 0, _, _, _, _, _, _ => none
 | k + 1, x1, x5, x13, x14, x15, x485000 => if x15 < x14 then (if 0 ≤ x15 then (if x15 < (x13.length : Int) then (if (rd x13 x15) ≥ 0 then (if 0 ≤ (rd x13 x15) then (if (rd x13 x15) < (x5.length : Int) then (qaU.l0 k x1 (x5.set ((rd x13 x15) : Int).toNat (wrap64 ((rd x5 (rd x13 x15)) + 1))) x13 x14 (wrap64 (x15 + 1)) x485000) else (none)) else (none)) else (qaU.l0 k x1 x5 x13 x14 (wrap64 (x15 + 1)) x485000)) else (none)) else (none)) else ((qcv.f x485000 x1).bind fun t491 => (qaU.l1 k x5 t491 (t491.length : Int) 0 x485000))
def qaU.l1 : Nat → List Int → List Bool → Int → Int → List (S56) → Option (List Int)
 | 0, _, _, _, _, _ => none
 | k + 1, x5, x30, x31, x32, x485000 => if x32 < x31 then (if 0 ≤ x32 then (if x32 < (x30.length : Int) then (if rdOf false x30 x32 = true then (if x32 < (x485000.length : Int) then (qaU.l2 k x5 x30 x31 x32 ((qaG x485000 x32).f3) (((qaG x485000 x32).f3).length : Int) 0 x485000) else (none)) else (qaU.l1 k x5 x30 x31 (wrap64 (x32 + 1)) x485000)) else (none)) else (none)) else (some x5)
def qaU.l2 : Nat → List Int → List Bool → Int → Int → List Int → Int → Int → List (S56) → Option (List Int)
 | 0, _, _, _, _, _, _, _, _ => none
 | k + 1, x5, x30, x31, x32, x43, x44, x45, x485000 => if x45 < x44 then (if 0 ≤ x45 then (if x45 < (x43.length : Int) then (if 0 ≤ (rd x43 x45) then (if (rd x43 x45) < (x5.length : Int) then (qaU.l2 k (x5.set ((rd x43 x45) : Int).toNat (wrap64 ((rd x5 (rd x43 x45)) + 1))) x30 x31 x32 x43 x44 (wrap64 (x45 + 1)) x485000) else (none)) else (none)) else (none)) else (none)) else (qaU.l1 k x5 x30 x31 (wrap64 (x32 + 1)) x485000)
end
def qaU.f (k : Nat) (l0_0 : List (S56)) (l1 : List Int) : Option (List Int) := if 50 ≤ 35184372088832 then (qaU.l0 k l1 (List.replicate 50 0) l1 (l1.length : Int) 0 l0_0) else (none)
theorem qaU.qbm : ∀ k, (∀ y0 y1 y2 y3 y4 y5, LeO (qaU.l0 k y0 y1 y2 y3 y4 y5) (qaU.l0 (k + 1) y0 y1 y2 y3 y4 y5)) ∧ (∀ y0 y1 y2 y3 y4, LeO (qaU.l1 k y0 y1 y2 y3 y4) (qaU.l1 (k + 1) y0 y1 y2 y3 y4)) ∧ (∀ y0 y1 y2 y3 y4 y5 y6 y7, LeO (qaU.l2 k y0 y1 y2 y3 y4 y5 y6 y7) (qaU.l2 (k + 1) y0 y1 y2 y3 y4 y5 y6 y7))
 | 0 => ⟨fun _ _ _ _ _ _ r h => by simp [qaU.l0] at h, fun _ _ _ _ _ r h => by simp [qaU.l1] at h, fun _ _ _ _ _ _ _ _ r h => by simp [qaU.l2] at h⟩
 | k + 1 => by
  obtain ⟨ih0, ih1, ih2⟩ := qaU.qbm k
  refine ⟨?_, ?_, ?_⟩
  ·intro y0 y1 y2 y3 y4 y5
   unfold qaU.l0
   repeat' first
   | (with_reducible exact ih0 _ _ _ _ _ _)
   | (with_reducible exact ih1 _ _ _ _ _)
   | (with_reducible exact ih2 _ _ _ _ _ _ _ _)
   | (with_reducible exact LeO.refl _)
   | (with_reducible exact LeO.none _)
   | (with_reducible refine LeO.ite ?_ ?_)
   | (with_reducible refine LeO.bind ?_ (fun _ => ?_))
   | exact ih0 _ _ _ _ _ _
   | exact ih1 _ _ _ _ _
   | exact ih2 _ _ _ _ _ _ _ _
   | exact LeO.none _
   | refine LeO.ite ?_ ?_
   | refine LeO.bind ?_ (fun _ => ?_)
  ·intro y0 y1 y2 y3 y4
   unfold qaU.l1
   repeat' first
   | (with_reducible exact ih0 _ _ _ _ _ _)
   | (with_reducible exact ih1 _ _ _ _ _)
   | (with_reducible exact ih2 _ _ _ _ _ _ _ _)
   | (with_reducible exact LeO.refl _)
   | (with_reducible exact LeO.none _)
   | (with_reducible refine LeO.ite ?_ ?_)
   | (with_reducible refine LeO.bind ?_ (fun _ => ?_))
   | exact ih0 _ _ _ _ _ _
   | exact ih1 _ _ _ _ _
   | exact ih2 _ _ _ _ _ _ _ _
   | exact LeO.none _
   | refine LeO.ite ?_ ?_
   | refine LeO.bind ?_ (fun _ => ?_)
  ·intro y0 y1 y2 y3 y4 y5 y6 y7
   unfold qaU.l2
   repeat' first
   | (with_reducible exact ih0 _ _ _ _ _ _)
   | (with_reducible exact ih1 _ _ _ _ _)
   | (with_reducible exact ih2 _ _ _ _ _ _ _ _)
   | (with_reducible exact LeO.refl _)
   | (with_reducible exact LeO.none _)
   | (with_reducible refine LeO.ite ?_ ?_)
   | (with_reducible refine LeO.bind ?_ (fun _ => ?_))
   | exact ih0 _ _ _ _ _ _
   | exact ih1 _ _ _ _ _
   | exact ih2 _ _ _ _ _ _ _ _
   | exact LeO.none _
   | refine LeO.ite ?_ ?_
   | refine LeO.bind ?_ (fun _ => ?_)
theorem qaU.mono : ∀ a0 a1 k, LeO (qaU.f k a0 a1) (qaU.f (k + 1) a0 a1) := by
 intro a0 a1 k
 obtain ⟨ih0, ih1, ih2⟩ := qaU.qbm k
 unfold qaU.f
 repeat' first
   | (with_reducible exact ih0 _ _ _ _ _ _)
   | (with_reducible exact ih1 _ _ _ _ _)
   | (with_reducible exact ih2 _ _ _ _ _ _ _ _)
   | (with_reducible exact LeO.refl _)
   | (with_reducible exact LeO.none _)
   | (with_reducible refine LeO.ite ?_ ?_)
   | (with_reducible refine LeO.bind ?_ (fun _ => ?_))
   | exact ih0 _ _ _ _ _ _
   | exact ih1 _ _ _ _ _
   | exact ih2 _ _ _ _ _ _ _ _
   | exact LeO.none _
   | refine LeO.ite ?_ ?_
   | refine LeO.bind ?_ (fun _ => ?_)
set_option maxHeartbeats 8000000 in
set_option maxRecDepth 100000 in
theorem qaU.calls (k : Nat) (A0_0 : Option Addr) (c0_0 : Nat) (l0_0 : List (S56)) (A1 : Option Addr) (c1 : Nat) (l1 : List Int) (r : List Int) (w : World) (hr0_0 : Kd.C k56 w A0_0 l0_0.length l0_0) (hc0_0 : l0_0.length ≤ c0_0) (hr1 : Kd.C (Kd.int .i64) w A1 l1.length l1) (hc1 : l1.length ≤ c1) (h : qaU.f k l0_0 l1 = some r) :
  Calls Try.prog 90 #[.agg #[.slice A0_0 l0_0.length c0_0], .slice A1 l1.length c1] w fun e w' => ∃ v0_ : Value, e = .returned (v0_) ∧ Kd.R (Kd.int .i64) 3 w' w.heap.size (fun _ => True) v0_ r ∧ Below w.heap.size w w' := by
 have hu29 := Try.underlying29
 have HR0_0 := Aside0.mk hr0_0
 have HC0_0 := Aside0.mk hc0_0
 clear hr0_0 hc0_0
 have HR1 := Aside0.mk hr1
 have HC1 := Aside0.mk hc1
 clear hr1 hc1
 have HB := Aside0.mk (Below.refl w.heap.size w)
 have H : (if 50 ≤ 35184372088832 then (qaU.l0 k l1 (List.replicate 50 0) l1 (l1.length : Int) 0 l0_0) else (none)) = some r := h
 clear h
 by_cases c3 : 50 ≤ 35184372088832
 ·rw [if_pos c3] at H
  have c3b0 := eq_true c3
  have c3b1 : decide (50 ≤ 35184372088832) = true := decide_eq_true c3
  clear c3
  obtain ⟨y485, hy485⟩ : ∃ y_ : List Int, y_ = (List.replicate 50 0) := ⟨_, rfl⟩
  replace H : (qaU.l0 k l1 y485 l1 (l1.length : Int) 0 l0_0) = some r := by first | (rw [hy485]; with_reducible exact H) | (have H2_ := (Option.bind_some _ _).symm.trans H; rw [hy485]; with_reducible exact H2_) | (have H2_ := (Option.bind_some _ _).symm.trans H; with_reducible exact H2_) | with_reducible exact H | (rw [hy485]; exact H) | exact H
  have Ny485 := Aside0.mk hy485
  clear hy485
  have H' := Aside0.mk H
  clear H
  go_enter Try.func90, Try.ntmps90
  go_wp2_with (first | ((with_reducible refine qaQ (N := 2) rfl ?_); refine qaL ?hg (N := 2) ?hd (cs := #[.slice A0_0 l0_0.length c0_0]) (t := 29) ?hr ?_; (case hd => rfl); (case hg => rfl); (case hr => first | (go_simp; done) | (go_simp; rfl)); intro gb484 hg w4 hbox hb; have n0_ := Aside0.mk (qai (by repeat (first | (with_reducible first | exact HB.out | apply qab | apply qaa | apply qac) | exact HB.out)) hb); have n1_ := Aside0.mk (hbox); have n2_ := Aside0.mk ((by rw [hg]; exact (qaj (by repeat (first | (with_reducible first | exact HB.out | apply qab | apply qaa | apply qac) | exact HB.out))) : w.heap.size ≤ gb484)); have n3_ := Aside0.mk ((by rw [hg]; exact (qaj (by repeat (first | (with_reducible first | exact HB.out | apply qab | apply qaa | apply qac) | exact HB.out))) : w.heap.size ≤ gb484)); clear HB; have HB := n0_; have BK484 := n1_; have GW484 := n2_; have GE484 := n3_; clear n0_ n1_ n2_ n3_; clear hb hbox hg) | ((with_reducible refine qaQ (N := 12) rfl ?_); refine Kd.qdL (Kd.int .i64) _ 3 rfl (N := 12) rfl 42 _ _ rfl 50 rfl rfl Try.underlying42 (.int .i64 0) 8 info3 rfl (by decide) (by omega) 0 (ok := fun _ => True) (okp := fun _ => True) rfl (fun _ hk => hk) trivial (by omega) (by omega) (Below.refl _ _) (Nat.le_refl _) ?_; intro v486 w5 ho6 hb hg_ hnew_; clear hg_ hnew_; (first | rw [← Ny485.out] at ho6 | (simp only [Int.reduceToNat] at ho6; rw [← Ny485.out] at ho6)); have n0_ := Aside0.mk (Kd.qby ho6 (qaj (by repeat (first | (with_reducible first | exact HB.out | apply qab | apply qaa | apply qac | refine qaf ?_ GE484.out) | exact HB.out)))); have n1_ := Aside0.mk (qar (g := gb484) (o := .cells #[.slice A0_0 l0_0.length c0_0] 29 (0, 0)) (by (with_reducible repeat (first | refine qan ?_ _ | refine qao ?_ | refine qak ?_ _)); exact BK484.out) hb); have n2_ := Aside0.mk (qai (by repeat (first | (with_reducible first | exact HB.out | apply qab | apply qaa | apply qac | refine qaf ?_ GE484.out) | exact HB.out)) hb); clear BK484; clear HB; have HO487 := n0_; have BK484 := n1_; have HB := n2_; clear n0_ n1_ n2_; clear hb ho6))
  go_loopg [15] k (fun kq v15 w' => ∃ (x5_1 : List Int) (x15_1 : Int), v15 = .int .i64 x15_1 ∧ Aside0 (qaU.l0 kq l1 x5_1 l1 (l1.length : Int) x15_1 l0_0 = some r) ∧ Aside0 (kq ≤ k) ∧ Aside0 (Kd.R (Kd.int .i64) 3 w' w.heap.size (fun _ => True) v486 x5_1) ∧ Aside0 (w'.heap[gb484]? = some (.cells #[(.slice A0_0 l0_0.length c0_0)] 29 (0, 0))) ∧ Aside0 (Below w.heap.size w w'))
  case atStart => exact ⟨(y485), (0), (by first | rfl | (simp; done) | (simp [*]; done)), H', ⟨Nat.le_refl _⟩, ⟨by (with_reducible repeat (first | apply Kd.qa3 | apply Kd.qa8 | apply Kd.qbi)); exact HO487.out⟩, ⟨by (with_reducible repeat (first | refine qan ?_ _ | refine qao ?_ | refine qak ?_ _)); exact BK484.out⟩, ⟨by repeat (first | (with_reducible first | exact HB.out | apply qab | apply qaa | apply qac | refine qaf ?_ GE484.out) | exact HB.out)⟩⟩
  case round =>
   clear H'
   try clear c1
   try clear p2
   try clear c3
   try clear c3b0
   try clear c3b1
   obtain ⟨x5_1, x15_1, rfl, HA, HK1, HO_5, BK484, HB⟩ := hrel
   cases gk with
   | zero => exact absurd HA.out (by simp [qaU.l0])
   | succ k1 =>
    have H := HA.out
    clear HA
    simp only [qaU.l0] at H
    by_cases c7 : x15_1 < (l1.length : Int)
    ·rw [if_pos c7] at H
     have c7b0 : decide (x15_1 < (l1.length : Int)) = true := decide_eq_true c7
     clear c7
     by_cases c8 : 0 ≤ x15_1
     ·rw [if_pos c8] at H
      have c8b0 : decide (0 ≤ x15_1) = true := decide_eq_true c8
      clear c8
      by_cases c9 : x15_1 < (l1.length : Int)
      ·rw [if_pos c9] at H
       have c9b0 : decide (x15_1 < (l1.length : Int)) = true := decide_eq_true c9
       clear c9
       by_cases c10 : (rd l1 x15_1) ≥ 0
       ·rw [if_pos c10] at H
        have c10b0 : decide (0 ≤ (rd l1 x15_1)) = true := decide_eq_true c10
        clear c10
        by_cases c11 : 0 ≤ (rd l1 x15_1)
        ·rw [if_pos c11] at H
         have c11b0 : decide (0 ≤ (rd l1 x15_1)) = true := decide_eq_true c11
         clear c11
         by_cases c12 : (rd l1 x15_1) < (x5_1.length : Int)
         ·rw [if_pos c12] at H
          have c12b0 : decide ((rd l1 x15_1) < (x5_1.length : Int)) = true := decide_eq_true c12
          clear c12
          obtain ⟨y490, hy490⟩ : ∃ y_ : List Int, y_ = (x5_1.set ((rd l1 x15_1) : Int).toNat (wrap64 ((rd x5_1 (rd l1 x15_1)) + 1))) := ⟨_, rfl⟩
          replace H : (qaU.l0 k1 l1 y490 l1 (l1.length : Int) (wrap64 (x15_1 + 1)) l0_0) = some r := by first | (rw [hy490]; with_reducible exact H) | (have H2_ := (Option.bind_some _ _).symm.trans H; rw [hy490]; with_reducible exact H2_) | (have H2_ := (Option.bind_some _ _).symm.trans H; with_reducible exact H2_) | with_reducible exact H | (rw [hy490]; exact H) | exact H
          have Ny490 := Aside0.mk hy490
          clear hy490
          have H' := Aside0.mk H
          clear H
          have p488 : 0 ≤ (x15_1 : Int) := of_decide_eq_true (by first | (with_reducible assumption) | assumption)
          have q488 : x15_1 < (l1.length : Int) := of_decide_eq_true (by first | (with_reducible assumption) | assumption)
          obtain ⟨ad488, e488, hx488_0⟩ := Kd.qbS HR1.out x15_1 p488 q488
          cases e488
          replace hx488_0 := (HB.out.cell (World.block_lt_of_cell? w _ hx488_0)).trans hx488_0
          replace p488 := eq_true p488
          replace q488 := eq_true q488
          obtain ⟨Ao14, co14, eo14⟩ := Kd.qbW HO_5.out
          subst eo14
          have p489 : 0 ≤ ((rd l1 x15_1) : Int) := of_decide_eq_true (by first | (with_reducible assumption) | assumption)
          have q489 : (rd l1 x15_1) < (x5_1.length : Int) := of_decide_eq_true (by first | (with_reducible assumption) | assumption)
          obtain ⟨ad489, e489, hx489_0⟩ := Kd.qbS (Kd.qbe HO_5.out).2.2 (rd l1 x15_1) p489 q489
          cases e489
          replace p489 := eq_true p489
          replace q489 := eq_true q489
          have p13 : 0 ≤ ((rd l1 x15_1) : Int) := of_decide_eq_true (by first | (with_reducible assumption) | assumption)
          have q13 : ((rd l1 x15_1) : Int) < ((x5_1.length : Int) : Int) := of_decide_eq_true (by first | (with_reducible assumption) | assumption)
          obtain ⟨go13, co13, eo13, gb13, gl13, cl13, HG13⟩ := Kd.qce HO_5.out (by omega)
          (first | cases eo13 | (injection eo13 with ea_ en_ ec_; (first | subst ea_ | (injection ea_ with ea_; subst ea_)); subst ec_; clear en_))
          have GB13 := Aside0.mk gb13
          have GG13 := Aside0.mk HG13
          clear gb13 gl13 HG13
          (first | simp only [add_plain] at hx489_0 | skip)
          obtain ⟨hx13_0, hf13_0⟩ := Kd.qca 0 HO_5.out ((rd l1 x15_1) : Int) p13 q13
          replace p13 := eq_true p13
          replace q13 := eq_true q13
          have HP15 := Kd.qdi HO_5.out ((rd l1 x15_1) : Int) (wrap64 ((rd x5_1 (rd l1 x15_1)) + 1))
          go_wp2_with (first | ((with_reducible refine qbM (t := 3) (p := 26) rfl ?_); refine qbF (t := 3) (p := 26) (v := ?vo_w16) (w1 := (wr.setCell ⟨go13, ((rd l1 x15_1) : Int).toNat, none⟩ (.int .i64 (wrap64 ((rd x5_1 (rd l1 x15_1)) + 1))))) ?hg ?ho ?hn ?hr ?_; (case ho => rfl); (case hg => rfl); (case hn => rfl); (case hr => first | (go_simp; done) | (go_simp; rfl)); intro w16 hw; have hg : wr.grownBy w16 (some go13) := (by rw [hw]; exact HP15.2); have hp_ : Kd.R (Kd.int .i64) 3 w16 w.heap.size (fun _ => True) (.slice (some ⟨go13, 0, none⟩) x5_1.length co14) y490 := (by rw [hw, Ny490.out]; exact HP15.1); clear HP15; have n0_ := Aside0.mk (hp_); have n1_ := Aside0.mk (qbR (g := gb484) (o := .cells #[.slice A0_0 l0_0.length c0_0] 29 (0, 0)) (by (with_reducible repeat (first | refine qan ?_ _ | refine qao ?_ | refine qak ?_ _)); exact BK484.out) hg (Kd.R_ne HO_5.out BK484.out (by decide))); have n2_ := Aside0.mk ((by rw [hw]; exact qaf (HB.out) GB13.out : Below w.heap.size w w16)); clear HO_5; clear BK484; clear HB; have HO_5 := n0_; have BK484 := n1_; have HB := n2_; clear n0_ n1_ n2_; clear hg hw hp_))
          go_roundg k1
          case measure => have := HK1.out; omega
          case rel => exact ⟨(y490), (wrap64 (x15_1 + 1)), (by first | rfl | (simp; done) | (simp [*]; done)), H', ⟨by have := HK1.out; omega⟩, ⟨by (with_reducible repeat (first | apply Kd.qa3 | apply Kd.qa8 | apply Kd.qbi)); exact HO_5.out⟩, ⟨by (with_reducible repeat (first | refine qan ?_ _ | refine qao ?_ | refine qak ?_ _)); exact BK484.out⟩, ⟨by repeat (first | (with_reducible first | exact HB.out | apply qab | apply qaa | apply qac | refine qaf ?_ GE484.out) | exact HB.out)⟩⟩
         ·rw [if_neg c12] at H
          exact absurd H (by simp)
        ·rw [if_neg c11] at H
         exact absurd H (by simp)
       ·rw [if_neg c10] at H
        have c10b0 : decide (0 ≤ (rd l1 x15_1)) = false := decide_eq_false c10
        clear c10
        have H' := Aside0.mk H
        clear H
        have p488 : 0 ≤ (x15_1 : Int) := of_decide_eq_true (by first | (with_reducible assumption) | assumption)
        have q488 : x15_1 < (l1.length : Int) := of_decide_eq_true (by first | (with_reducible assumption) | assumption)
        obtain ⟨ad488, e488, hx488_0⟩ := Kd.qbS HR1.out x15_1 p488 q488
        cases e488
        replace hx488_0 := (HB.out.cell (World.block_lt_of_cell? w _ hx488_0)).trans hx488_0
        replace p488 := eq_true p488
        replace q488 := eq_true q488
        go_wp2
        go_roundg k1
        case measure => have := HK1.out; omega
        case rel => exact ⟨(x5_1), (wrap64 (x15_1 + 1)), (by first | rfl | (simp; done) | (simp [*]; done)), H', ⟨by have := HK1.out; omega⟩, ⟨by (with_reducible repeat (first | apply Kd.qa3 | apply Kd.qa8 | apply Kd.qbi)); exact HO_5.out⟩, ⟨by (with_reducible repeat (first | refine qan ?_ _ | refine qao ?_ | refine qak ?_ _)); exact BK484.out⟩, ⟨by repeat (first | (with_reducible first | exact HB.out | apply qab | apply qaa | apply qac | refine qaf ?_ GE484.out) | exact HB.out)⟩⟩
      ·rw [if_neg c9] at H
       exact absurd H (by simp)
     ·rw [if_neg c8] at H
      exact absurd H (by simp)
    ·rw [if_neg c7] at H
     have c7b0 : decide (x15_1 < (l1.length : Int)) = false := decide_eq_false c7
     clear c7
     replace H := Option.bind_eq_some_iff.mp H
     obtain ⟨t491, A170, H⟩ := H
     replace H : (qaU.l1 k1 x5_1 t491 (t491.length : Int) 0 l0_0) = some r := H
     have A17 := Aside0.mk A170
     clear A170
     have H' := Aside0.mk H
     clear H
     have hcz18_0 : wr.cell? ⟨gb484, 0, none⟩ = some (.slice A0_0 l0_0.length c0_0) := (qae BK484.out 0).trans rfl
     have hfz18_0 := qad BK484.out 0
     go_wp2_with (first | ((with_reducible refine qax (f := 73) rfl ?_); refine qbl (some 30) rfl rfl Try.func73 (by kernel_rfl) rfl #[.agg #[.slice A0_0 l0_0.length c0_0], .slice A1 l1.length c1] rfl (by (try simp only [List.map_toArray, List.map_cons, List.map_nil]); first | done | rfl | (simp only [List.length_drop, List.length_take]; rfl)) ?_; (with_reducible refine (qcv.calls _ _ l0_0 _ _ l1 t491 _ ?side1 ?side2 ?side3 ?side4 A17.out).mono ?_); (case side1 => repeat (first | exact (Kd.qav HR0_0.out HB.out) | (with_reducible refine Kd.qaM ?_ _) | (with_reducible refine Kd.qaN ?_ _) | (with_reducible refine Kd.qa2 ?_))); (case side2 => exact HC0_0.out); (case side3 => repeat (first | exact (Kd.qav HR1.out HB.out) | (with_reducible refine Kd.qaM ?_ _) | (with_reducible refine Kd.qaN ?_ _) | (with_reducible refine Kd.qa2 ?_))); (case side4 => exact HC1.out); rintro e w19 ⟨v492, rfl, ho0, hb⟩; refine ⟨_, rfl, ?_⟩; have n0_ := Aside0.mk (Kd.qbj (by (with_reducible repeat (first | apply Kd.qa3 | apply Kd.qa8 | apply Kd.qbi)); exact HO_5.out) hb); have n1_ := Aside0.mk (Kd.qby ho0 (qaj (by repeat (first | (with_reducible first | exact HB.out | apply qab | apply qaa | apply qac | refine qaf ?_ GE484.out) | exact HB.out)))); have n2_ := Aside0.mk (qar (g := gb484) (o := .cells #[.slice A0_0 l0_0.length c0_0] 29 (0, 0)) (by (with_reducible repeat (first | refine qan ?_ _ | refine qao ?_ | refine qak ?_ _)); exact BK484.out) hb); have n3_ := Aside0.mk (qai (by repeat (first | (with_reducible first | exact HB.out | apply qab | apply qaa | apply qac | refine qaf ?_ GE484.out) | exact HB.out)) hb); clear HO_5; clear BK484; clear HB; have HO_5 := n0_; have HO493 := n1_; have BK484 := n2_; have HB := n3_; clear n0_ n1_ n2_ n3_; (try clear hb); (try clear hb2); (try clear hk); (try clear hi); (try clear ho0); obtain ⟨Ao20, co20, eo20⟩ := Kd.qbW HO493.out; subst eo20))
     go_loopg [32] k1 (fun kq v32 w' => ∃ (x5_2 : List Int) (x32_2 : Int), v32 = .int .i64 x32_2 ∧ Aside0 (qaU.l1 kq x5_2 t491 (t491.length : Int) x32_2 l0_0 = some r) ∧ Aside0 (kq ≤ k1) ∧ Aside0 (Kd.R (Kd.int .i64) 3 w' w.heap.size (fun _ => True) v486 x5_2) ∧ Aside0 (Kd.R Kd.bool 4 w' w.heap.size (fun _ => True) (.slice Ao20 t491.length co20) t491) ∧ Aside0 (w'.heap[gb484]? = some (.cells #[(.slice A0_0 l0_0.length c0_0)] 29 (0, 0))) ∧ Aside0 (Below w.heap.size w w'))
     case atStart => exact ⟨(x5_1), (0), (by first | rfl | (simp; done) | (simp [*]; done)), H', ⟨Nat.le_refl _⟩, ⟨by (with_reducible repeat (first | apply Kd.qa3 | apply Kd.qa8 | apply Kd.qbi)); exact HO_5.out⟩, ⟨by (with_reducible repeat (first | apply Kd.qa3 | apply Kd.qa8 | apply Kd.qbi)); exact HO493.out⟩, ⟨by (with_reducible repeat (first | refine qan ?_ _ | refine qao ?_ | refine qak ?_ _)); exact BK484.out⟩, ⟨by repeat (first | (with_reducible first | exact HB.out | apply qab | apply qaa | apply qac | refine qaf ?_ GE484.out) | exact HB.out)⟩⟩
     case round =>
      clear H'
      try clear c1
      try clear p1
      try clear q1
      try clear hx1
      try clear p2
      try clear c3
      try clear c3b0
      try clear c3b1
      try clear p4
      try clear q4
      try clear hx4
      try clear p6
      try clear c7
      try clear c7b0
      try clear c8
      try clear c8b0
      try clear c9
      try clear c9b0
      try clear c10
      try clear c10b0
      try clear c11
      try clear c11b0
      try clear c12
      try clear c12b0
      try clear p13
      try clear q13
      try clear hx13
      try clear hf13
      try clear hcz18_0
      try clear hfz18_0
      try clear hx13_0
      try clear hx488_0
      try clear hx489_0
      try clear p13
      try clear p2
      try clear p488
      try clear p489
      try clear q13
      try clear q488
      try clear q489
      obtain ⟨x5_2, x32_2, rfl, HA, HK2, HO_5, HO_30, BK484, HB⟩ := hrel
      cases gk with
      | zero => exact absurd HA.out (by simp [qaU.l1])
      | succ k2 =>
       have H := HA.out
       clear HA
       simp only [qaU.l1] at H
       by_cases c21 : x32_2 < (t491.length : Int)
       ·rw [if_pos c21] at H
        have c21b0 : decide (x32_2 < (t491.length : Int)) = true := decide_eq_true c21
        clear c21
        by_cases c22 : 0 ≤ x32_2
        ·rw [if_pos c22] at H
         have c22b0 : decide (0 ≤ x32_2) = true := decide_eq_true c22
         clear c22
         by_cases c23 : x32_2 < (t491.length : Int)
         ·rw [if_pos c23] at H
          have c23b0 : decide (x32_2 < (t491.length : Int)) = true := decide_eq_true c23
          clear c23
          obtain ⟨bq24, hbq24⟩ : ∃ b_ : Bool, b_ = (rdOf false t491 x32_2) := ⟨_, rfl⟩
          replace H : (if bq24 = true then (if x32_2 < (l0_0.length : Int) then (qaU.l2 k2 x5_2 t491 (t491.length : Int) x32_2 ((qaG l0_0 x32_2).f3) (((qaG l0_0 x32_2).f3).length : Int) 0 l0_0) else (none)) else (qaU.l1 k2 x5_2 t491 (t491.length : Int) (wrap64 (x32_2 + 1)) l0_0)) = some r := by rw [← hbq24] at H; exact H
          have Nbq24 := Aside0.mk hbq24
          clear hbq24
          by_cases c25 : bq24 = true
          ·subst c25
           have H1 : (if x32_2 < (l0_0.length : Int) then (qaU.l2 k2 x5_2 t491 (t491.length : Int) x32_2 ((qaG l0_0 x32_2).f3) (((qaG l0_0 x32_2).f3).length : Int) 0 l0_0) else (none)) = some r := by rw [if_pos rfl] at H; exact H
           clear H
           have H := H1
           clear H1
           by_cases c26 : x32_2 < (l0_0.length : Int)
           ·rw [if_pos c26] at H
            have c26b0 : decide (x32_2 < (l0_0.length : Int)) = true := decide_eq_true c26
            clear c26
            have H' := Aside0.mk H
            clear H
            have p494 : 0 ≤ (x32_2 : Int) := of_decide_eq_true (by first | (with_reducible assumption) | assumption)
            have q494 : x32_2 < (t491.length : Int) := of_decide_eq_true (by first | (with_reducible assumption) | assumption)
            obtain ⟨ad494, e494, hx494_0⟩ := Kd.qc0 (Kd.qbe HO_30.out).2.2 x32_2 p494 q494
            (try rw [← Nbq24.out] at hx494_0)
            cases e494
            replace p494 := eq_true p494
            replace q494 := eq_true q494
            have hcz27_0 : wr.cell? ⟨gb484, 0, none⟩ = some (.slice A0_0 l0_0.length c0_0) := (qae BK484.out 0).trans rfl
            have hfz27_0 := qad BK484.out 0
            have p495 : 0 ≤ (x32_2 : Int) := of_decide_eq_true (by first | (with_reducible assumption) | assumption)
            have q495 : x32_2 < (l0_0.length : Int) := of_decide_eq_true (by first | (with_reducible assumption) | assumption)
            obtain ⟨ad495, A495_1, c495_1, A495_2, c495_2, A495_3, c495_3, e495, hx495_0, hx495_1, hx495_2, hx495_3, hl495_1, hi495_1, hl495_2, hi495_2, hl495_3, hi495_3⟩ := qdj HR0_0.out x32_2 p495 q495
            (try rw [← Nbq24.out] at hx495_0)
            cases e495
            replace hx495_0 := (HB.out.cell (World.block_lt_of_cell? w _ hx495_0)).trans hx495_0
            replace hx495_1 := (HB.out.cell (World.block_lt_of_cell? w _ hx495_1)).trans hx495_1
            replace hx495_2 := (HB.out.cell (World.block_lt_of_cell? w _ hx495_2)).trans hx495_2
            replace hx495_3 := (HB.out.cell (World.block_lt_of_cell? w _ hx495_3)).trans hx495_3
            have HR495_1 := Aside0.mk hi495_1
            have HC495_1 := Aside0.mk hl495_1
            clear hi495_1 hl495_1
            have HR495_2 := Aside0.mk hi495_2
            have HC495_2 := Aside0.mk hl495_2
            clear hi495_2 hl495_2
            have HR495_3 := Aside0.mk hi495_3
            have HC495_3 := Aside0.mk hl495_3
            clear hi495_3 hl495_3
            replace p495 := eq_true p495
            replace q495 := eq_true q495
            go_wp2
            go_loopg [45] k2 (fun kq v45 w' => ∃ (x5_3 : List Int) (x45_3 : Int), v45 = .int .i64 x45_3 ∧ Aside0 (qaU.l2 kq x5_3 t491 (t491.length : Int) x32_2 ((qaG l0_0 x32_2).f3) (((qaG l0_0 x32_2).f3).length : Int) x45_3 l0_0 = some r) ∧ Aside0 (kq ≤ k2) ∧ Aside0 (Kd.R (Kd.int .i64) 3 w' w.heap.size (fun _ => True) v486 x5_3) ∧ Aside0 (Kd.R Kd.bool 4 w' w.heap.size (fun _ => True) (.slice (some ad494) t491.length co20) t491) ∧ Aside0 (w'.heap[gb484]? = some (.cells #[(.slice (some ad495) l0_0.length c0_0)] 29 (0, 0))) ∧ Aside0 (Below w.heap.size w w'))
            case atStart => exact ⟨(x5_2), (0), (by first | rfl | (simp; done) | (simp [*]; done)), H', ⟨Nat.le_refl _⟩, ⟨by (with_reducible repeat (first | apply Kd.qa3 | apply Kd.qa8 | apply Kd.qbi)); exact HO_5.out⟩, ⟨by (with_reducible repeat (first | apply Kd.qa3 | apply Kd.qa8 | apply Kd.qbi)); exact HO_30.out⟩, ⟨by (with_reducible repeat (first | refine qan ?_ _ | refine qao ?_ | refine qak ?_ _)); exact BK484.out⟩, ⟨by repeat (first | (with_reducible first | exact HB.out | apply qab | apply qaa | apply qac | refine qaf ?_ GE484.out) | exact HB.out)⟩⟩
            case round =>
             clear H'
             try clear c1
             try clear p1
             try clear q1
             try clear hx1
             try clear c2
             try clear p2
             try clear q2
             try clear c3
             try clear c3b0
             try clear c3b1
             try clear c4
             try clear p4
             try clear q4
             try clear hx4
             try clear p6
             try clear c7
             try clear c7b0
             try clear c8
             try clear c8b0
             try clear c9
             try clear c9b0
             try clear c10
             try clear c10b0
             try clear c11
             try clear c11b0
             try clear c12
             try clear c12b0
             try clear p13
             try clear q13
             try clear hx13
             try clear hf13
             try clear c21
             try clear c21b0
             try clear c22
             try clear c22b0
             try clear c23
             try clear c23b0
             try clear q24
             try clear c25
             try clear c26
             try clear c26b0
             try clear hcz18_0
             try clear hcz27_0
             try clear hfz18_0
             try clear hfz27_0
             try clear hx13_0
             try clear hx488_0
             try clear hx489_0
             try clear hx494_0
             try clear hx495_0
             try clear hx495_1
             try clear hx495_2
             try clear hx495_3
             try clear p1
             try clear p13
             try clear p2
             try clear p4
             try clear p488
             try clear p489
             try clear p494
             try clear p495
             try clear p6
             try clear q1
             try clear q13
             try clear q4
             try clear q488
             try clear q489
             try clear q494
             try clear q495
             obtain ⟨x5_3, x45_3, rfl, HA, HK3, HO_5, HO_30, BK484, HB⟩ := hrel
             cases gk with
             | zero => exact absurd HA.out (by simp [qaU.l2])
             | succ k3 =>
              have H := HA.out
              clear HA
              simp only [qaU.l2] at H
              by_cases c28 : x45_3 < (((qaG l0_0 x32_2).f3).length : Int)
              ·rw [if_pos c28] at H
               have c28b0 : decide (x45_3 < (((qaG l0_0 x32_2).f3).length : Int)) = true := decide_eq_true c28
               clear c28
               by_cases c29 : 0 ≤ x45_3
               ·rw [if_pos c29] at H
                have c29b0 : decide (0 ≤ x45_3) = true := decide_eq_true c29
                clear c29
                by_cases c30 : x45_3 < (((qaG l0_0 x32_2).f3).length : Int)
                ·rw [if_pos c30] at H
                 have c30b0 : decide (x45_3 < (((qaG l0_0 x32_2).f3).length : Int)) = true := decide_eq_true c30
                 clear c30
                 by_cases c31 : 0 ≤ (rd ((qaG l0_0 x32_2).f3) x45_3)
                 ·rw [if_pos c31] at H
                  have c31b0 : decide (0 ≤ (rd ((qaG l0_0 x32_2).f3) x45_3)) = true := decide_eq_true c31
                  clear c31
                  by_cases c32 : (rd ((qaG l0_0 x32_2).f3) x45_3) < (x5_3.length : Int)
                  ·rw [if_pos c32] at H
                   have c32b0 : decide ((rd ((qaG l0_0 x32_2).f3) x45_3) < (x5_3.length : Int)) = true := decide_eq_true c32
                   clear c32
                   obtain ⟨y498, hy498⟩ : ∃ y_ : List Int, y_ = (x5_3.set ((rd ((qaG l0_0 x32_2).f3) x45_3) : Int).toNat (wrap64 ((rd x5_3 (rd ((qaG l0_0 x32_2).f3) x45_3)) + 1))) := ⟨_, rfl⟩
                   replace H : (qaU.l2 k3 y498 t491 (t491.length : Int) x32_2 ((qaG l0_0 x32_2).f3) (((qaG l0_0 x32_2).f3).length : Int) (wrap64 (x45_3 + 1)) l0_0) = some r := by first | (rw [hy498]; with_reducible exact H) | (have H2_ := (Option.bind_some _ _).symm.trans H; rw [hy498]; with_reducible exact H2_) | (have H2_ := (Option.bind_some _ _).symm.trans H; with_reducible exact H2_) | with_reducible exact H | (rw [hy498]; exact H) | exact H
                   have Ny498 := Aside0.mk hy498
                   clear hy498
                   have H' := Aside0.mk H
                   clear H
                   have p496 : 0 ≤ (x45_3 : Int) := of_decide_eq_true (by first | (with_reducible assumption) | assumption)
                   have q496 : x45_3 < (((qaG l0_0 x32_2).f3).length : Int) := of_decide_eq_true (by first | (with_reducible assumption) | assumption)
                   obtain ⟨ad496, e496, hx496_0⟩ := Kd.qbS HR495_3.out x45_3 p496 q496
                   cases e496
                   replace hx496_0 := (HB.out.cell (World.block_lt_of_cell? w _ hx496_0)).trans hx496_0
                   replace p496 := eq_true p496
                   replace q496 := eq_true q496
                   obtain ⟨Ao34, co34, eo34⟩ := Kd.qbW HO_5.out
                   subst eo34
                   have p497 : 0 ≤ ((rd ((qaG l0_0 x32_2).f3) x45_3) : Int) := of_decide_eq_true (by first | (with_reducible assumption) | assumption)
                   have q497 : (rd ((qaG l0_0 x32_2).f3) x45_3) < (x5_3.length : Int) := of_decide_eq_true (by first | (with_reducible assumption) | assumption)
                   obtain ⟨ad497, e497, hx497_0⟩ := Kd.qbS (Kd.qbe HO_5.out).2.2 (rd ((qaG l0_0 x32_2).f3) x45_3) p497 q497
                   cases e497
                   replace p497 := eq_true p497
                   replace q497 := eq_true q497
                   have p33 : 0 ≤ ((rd ((qaG l0_0 x32_2).f3) x45_3) : Int) := of_decide_eq_true (by first | (with_reducible assumption) | assumption)
                   have q33 : ((rd ((qaG l0_0 x32_2).f3) x45_3) : Int) < ((x5_3.length : Int) : Int) := of_decide_eq_true (by first | (with_reducible assumption) | assumption)
                   obtain ⟨go33, co33, eo33, gb33, gl33, cl33, HG33⟩ := Kd.qce HO_5.out (by omega)
                   (first | cases eo33 | (injection eo33 with ea_ en_ ec_; (first | subst ea_ | (injection ea_ with ea_; subst ea_)); subst ec_; clear en_))
                   have GB33 := Aside0.mk gb33
                   have GG33 := Aside0.mk HG33
                   clear gb33 gl33 HG33
                   (first | simp only [add_plain] at hx497_0 | skip)
                   obtain ⟨hx33_0, hf33_0⟩ := Kd.qca 0 HO_5.out ((rd ((qaG l0_0 x32_2).f3) x45_3) : Int) p33 q33
                   replace p33 := eq_true p33
                   replace q33 := eq_true q33
                   have HP35 := Kd.qdi HO_5.out ((rd ((qaG l0_0 x32_2).f3) x45_3) : Int) (wrap64 ((rd x5_3 (rd ((qaG l0_0 x32_2).f3) x45_3)) + 1))
                   go_wp2_with (first | ((with_reducible refine qbM (t := 3) (p := 54) rfl ?_); refine qbF (t := 3) (p := 54) (v := ?vo_w36) (w1 := (wr.setCell ⟨go33, ((rd ((qaG l0_0 x32_2).f3) x45_3) : Int).toNat, none⟩ (.int .i64 (wrap64 ((rd x5_3 (rd ((qaG l0_0 x32_2).f3) x45_3)) + 1))))) ?hg ?ho ?hn ?hr ?_; (case ho => rfl); (case hg => rfl); (case hn => rfl); (case hr => first | (go_simp; done) | (go_simp; rfl)); intro w36 hw; have hg : wr.grownBy w36 (some go33) := (by rw [hw]; exact HP35.2); have hp_ : Kd.R (Kd.int .i64) 3 w36 w.heap.size (fun _ => True) (.slice (some ⟨go33, 0, none⟩) x5_3.length co34) y498 := (by rw [hw, Ny498.out]; exact HP35.1); clear HP35; have n0_ := Aside0.mk (hp_); have n1_ := Aside0.mk (Kd.R_over' (v := (.slice (some ⟨go33, 0, none⟩) x5_3.length co34)) (by (with_reducible repeat (first | apply Kd.qa3 | apply Kd.qa8 | apply Kd.qbi)); exact HO_30.out) (Kd.qe0 HO_5.out) (by decide) hg); have n2_ := Aside0.mk (qbR (g := gb484) (o := .cells #[.slice (some ad495) l0_0.length c0_0] 29 (0, 0)) (by (with_reducible repeat (first | refine qan ?_ _ | refine qao ?_ | refine qak ?_ _)); exact BK484.out) hg (Kd.R_ne HO_5.out BK484.out (by decide))); have n3_ := Aside0.mk ((by rw [hw]; exact qaf (HB.out) GB33.out : Below w.heap.size w w36)); clear HO_5; clear HO_30; clear BK484; clear HB; have HO_5 := n0_; have HO_30 := n1_; have BK484 := n2_; have HB := n3_; clear n0_ n1_ n2_ n3_; clear hg hw hp_))
                   go_roundg k3
                   case measure => have := HK1.out; have := HK2.out; have := HK3.out; omega
                   case rel => exact ⟨(y498), (wrap64 (x45_3 + 1)), (by first | rfl | (simp; done) | (simp [*]; done)), H', ⟨by have := HK1.out; have := HK2.out; have := HK3.out; omega⟩, ⟨by (with_reducible repeat (first | apply Kd.qa3 | apply Kd.qa8 | apply Kd.qbi)); exact HO_5.out⟩, ⟨by (with_reducible repeat (first | apply Kd.qa3 | apply Kd.qa8 | apply Kd.qbi)); exact HO_30.out⟩, ⟨by (with_reducible repeat (first | refine qan ?_ _ | refine qao ?_ | refine qak ?_ _)); exact BK484.out⟩, ⟨by repeat (first | (with_reducible first | exact HB.out | apply qab | apply qaa | apply qac | refine qaf ?_ GE484.out) | exact HB.out)⟩⟩
                  ·rw [if_neg c32] at H
                   exact absurd H (by simp)
                 ·rw [if_neg c31] at H
                  exact absurd H (by simp)
                ·rw [if_neg c30] at H
                 exact absurd H (by simp)
               ·rw [if_neg c29] at H
                exact absurd H (by simp)
              ·rw [if_neg c28] at H
               have c28b0 : decide (x45_3 < (((qaG l0_0 x32_2).f3).length : Int)) = false := decide_eq_false c28
               clear c28
               have H' := Aside0.mk H
               clear H
               go_wp2
               go_roundg k3
               case measure => have := HK1.out; have := HK2.out; have := HK3.out; omega
               case rel => exact ⟨(x5_3), (wrap64 (x32_2 + 1)), (by first | rfl | (simp; done) | (simp [*]; done)), H', ⟨by have := HK1.out; have := HK2.out; have := HK3.out; omega⟩, ⟨by (with_reducible repeat (first | apply Kd.qa3 | apply Kd.qa8 | apply Kd.qbi)); exact HO_5.out⟩, ⟨by (with_reducible repeat (first | apply Kd.qa3 | apply Kd.qa8 | apply Kd.qbi)); exact HO_30.out⟩, ⟨by (with_reducible repeat (first | refine qan ?_ _ | refine qao ?_ | refine qak ?_ _)); exact BK484.out⟩, ⟨by repeat (first | (with_reducible first | exact HB.out | apply qab | apply qaa | apply qac | refine qaf ?_ GE484.out) | exact HB.out)⟩⟩
           ·rw [if_neg c26] at H
            exact absurd H (by simp)
          ·replace c25 := Bool.eq_false_iff.mpr c25
           subst c25
           have H1 : (qaU.l1 k2 x5_2 t491 (t491.length : Int) (wrap64 (x32_2 + 1)) l0_0) = some r := by rw [if_neg (show ¬ (false = true) by decide)] at H; exact H
           clear H
           have H := H1
           clear H1
           have H' := Aside0.mk H
           clear H
           have p494 : 0 ≤ (x32_2 : Int) := of_decide_eq_true (by first | (with_reducible assumption) | assumption)
           have q494 : x32_2 < (t491.length : Int) := of_decide_eq_true (by first | (with_reducible assumption) | assumption)
           obtain ⟨ad494, e494, hx494_0⟩ := Kd.qc0 (Kd.qbe HO_30.out).2.2 x32_2 p494 q494
           (try rw [← Nbq24.out] at hx494_0)
           cases e494
           replace p494 := eq_true p494
           replace q494 := eq_true q494
           go_wp2
           go_roundg k2
           case measure => have := HK1.out; have := HK2.out; omega
           case rel => exact ⟨(x5_2), (wrap64 (x32_2 + 1)), (by first | rfl | (simp; done) | (simp [*]; done)), H', ⟨by have := HK1.out; have := HK2.out; omega⟩, ⟨by (with_reducible repeat (first | apply Kd.qa3 | apply Kd.qa8 | apply Kd.qbi)); exact HO_5.out⟩, ⟨by (with_reducible repeat (first | apply Kd.qa3 | apply Kd.qa8 | apply Kd.qbi)); exact HO_30.out⟩, ⟨by (with_reducible repeat (first | refine qan ?_ _ | refine qao ?_ | refine qak ?_ _)); exact BK484.out⟩, ⟨by repeat (first | (with_reducible first | exact HB.out | apply qab | apply qaa | apply qac | refine qaf ?_ GE484.out) | exact HB.out)⟩⟩
         ·rw [if_neg c23] at H
          exact absurd H (by simp)
        ·rw [if_neg c22] at H
         exact absurd H (by simp)
       ·rw [if_neg c21] at H
        have c21b0 : decide (x32_2 < (t491.length : Int)) = false := decide_eq_false c21
        clear c21
        obtain rfl := Option.some.inj H
        go_wp2
        go_ret
        exact ⟨_, by first | rfl | (simp [qal, qam] <;> rfl) | (simp [*, qal, qam] <;> rfl), by (with_reducible repeat (first | apply Kd.qa3 | apply Kd.qa8 | apply Kd.qbi)); exact HO_5.out, by repeat (first | (with_reducible first | exact HB.out | apply qab | apply qaa | apply qac | refine qaf ?_ GE484.out) | exact HB.out)⟩
 ·rw [if_neg c3] at H
  exact absurd H (by simp)
end Go.Proofs.Ytenfomejccfkgaa.X
