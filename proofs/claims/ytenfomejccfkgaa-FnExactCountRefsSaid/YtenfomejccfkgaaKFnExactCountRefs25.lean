import Derived.Test.YtenfomejccfkgaaKFnExactCountRefs4
import Derived.Test.YtenfomejccfkgaaKFnExactCountRefs12
import Derived.Test.YtenfomejccfkgaaKFnExactCountRefs15
import Derived.Test.YtenfomejccfkgaaKFnExactCountRefs22
import Derived.Test.YtenfomejccfkgaaKFnExactCountRefs23
import Derived.Test.YtenfomejccfkgaaKFnExactCountRefs24
namespace Go.Proofs.Ytenfomejccfkgaa.X
open Go.RowKit Go.Proofs.YtenfomejccfkgaaW.PrintWords Go.Proofs.YtenfomejccfkgaaW.PrintLast Go.Proofs.YtenfomejccfkgaaW.PrintMore
attribute [local go_sem] qaC qaD qaE qay qaz qaO qaP qas qat qaA qaB
set_option linter.unusedVariables false
set_option linter.unusedSimpArgs false
mutual
def qau.l0 : Nat → List Int → List Bool → List Int → Int → List (S56) → Option (List Int)
 | 0, _, _, _, _, _ => none
 | k + 1, x1, x2, x7, x8, x454000 => if x8 < 50 then (qau.l1 k x1 x2 x7 x8 0 x454000) else (qau.l2 k x1 x7 0)
def qau.l1 : Nat → List Int → List Bool → List Int → Int → Int → List (S56) → Option (List Int)
 | 0, _, _, _, _, _, _ => none
 | k + 1, x1, x2, x7, x8, x9, x454000 => if 0 ≤ x8 then (if x8 < (x2.length : Int) then (if rdOf false x2 x8 = true then (if x8 < (x454000.length : Int) then (if x9 < (((qaG x454000 x8).f3).length : Int) then (if 0 ≤ x9 then (if 0 ≤ (rd ((qaG x454000 x8).f3) x9) then (if (rd ((qaG x454000 x8).f3) x9) < (x7.length : Int) then (qau.l1 k x1 x2 (x7.set ((rd ((qaG x454000 x8).f3) x9) : Int).toNat (wrap64 ((rd x7 (rd ((qaG x454000 x8).f3) x9)) + 1))) x8 (wrap64 (x9 + 1)) x454000) else (none)) else (none)) else (none)) else (qau.l0 k x1 x2 x7 (wrap64 (x8 + 1)) x454000)) else (none)) else (qau.l0 k x1 x2 x7 (wrap64 (x8 + 1)) x454000)) else (none)) else (none)
def qau.l2 : Nat → List Int → List Int → Int → Option (List Int)
 | 0, _, _, _ => none
 | k + 1, x1, x7, x10 => if x10 < (x1.length : Int) then (if 0 ≤ x10 then (if (rd x1 x10) ≥ 0 then (if 0 ≤ (rd x1 x10) then (if (rd x1 x10) < (x7.length : Int) then (qau.l2 k x1 (x7.set ((rd x1 x10) : Int).toNat (wrap64 ((rd x7 (rd x1 x10)) + 1))) (wrap64 (x10 + 1))) else (none)) else (none)) else (qau.l2 k x1 x7 (wrap64 (x10 + 1)))) else (none)) else (some x7)
end
def qau.f (k : Nat) (l0_0 : List (S56)) (l1 : List Int) (l2 : List Bool) : Option (List Int) := if 50 ≤ 35184372088832 then (qau.l0 k l1 l2 (List.replicate 50 0) 0 l0_0) else (none)
theorem qau.qbm : ∀ k, (∀ y0 y1 y2 y3 y4, LeO (qau.l0 k y0 y1 y2 y3 y4) (qau.l0 (k + 1) y0 y1 y2 y3 y4)) ∧ (∀ y0 y1 y2 y3 y4 y5, LeO (qau.l1 k y0 y1 y2 y3 y4 y5) (qau.l1 (k + 1) y0 y1 y2 y3 y4 y5)) ∧ (∀ y0 y1 y2, LeO (qau.l2 k y0 y1 y2) (qau.l2 (k + 1) y0 y1 y2))
 | 0 => ⟨fun _ _ _ _ _ r h => by simp [qau.l0] at h, fun _ _ _ _ _ _ r h => by simp [qau.l1] at h, fun _ _ _ r h => by simp [qau.l2] at h⟩
 | k + 1 => by
  obtain ⟨ih0, ih1, ih2⟩ := qau.qbm k
  refine ⟨?_, ?_, ?_⟩
  ·intro y0 y1 y2 y3 y4
   unfold qau.l0
   repeat' first
   | (with_reducible exact ih0 _ _ _ _ _)
   | (with_reducible exact ih1 _ _ _ _ _ _)
   | (with_reducible exact ih2 _ _ _)
   | (with_reducible exact LeO.refl _)
   | (with_reducible exact LeO.none _)
   | (with_reducible refine LeO.ite ?_ ?_)
   | (with_reducible refine LeO.bind ?_ (fun _ => ?_))
   | exact ih0 _ _ _ _ _
   | exact ih1 _ _ _ _ _ _
   | exact ih2 _ _ _
   | exact LeO.none _
   | refine LeO.ite ?_ ?_
   | refine LeO.bind ?_ (fun _ => ?_)
  ·intro y0 y1 y2 y3 y4 y5
   unfold qau.l1
   repeat' first
   | (with_reducible exact ih0 _ _ _ _ _)
   | (with_reducible exact ih1 _ _ _ _ _ _)
   | (with_reducible exact ih2 _ _ _)
   | (with_reducible exact LeO.refl _)
   | (with_reducible exact LeO.none _)
   | (with_reducible refine LeO.ite ?_ ?_)
   | (with_reducible refine LeO.bind ?_ (fun _ => ?_))
   | exact ih0 _ _ _ _ _
   | exact ih1 _ _ _ _ _ _
   | exact ih2 _ _ _
   | exact LeO.none _
   | refine LeO.ite ?_ ?_
   | refine LeO.bind ?_ (fun _ => ?_)
  ·intro y0 y1 y2
   unfold qau.l2
   repeat' first
   | (with_reducible exact ih0 _ _ _ _ _)
   | (with_reducible exact ih1 _ _ _ _ _ _)
   | (with_reducible exact ih2 _ _ _)
   | (with_reducible exact LeO.refl _)
   | (with_reducible exact LeO.none _)
   | (with_reducible refine LeO.ite ?_ ?_)
   | (with_reducible refine LeO.bind ?_ (fun _ => ?_))
   | exact ih0 _ _ _ _ _
   | exact ih1 _ _ _ _ _ _
   | exact ih2 _ _ _
   | exact LeO.none _
   | refine LeO.ite ?_ ?_
   | refine LeO.bind ?_ (fun _ => ?_)
theorem qau.mono : ∀ a0 a1 a2 k, LeO (qau.f k a0 a1 a2) (qau.f (k + 1) a0 a1 a2) := by
 intro a0 a1 a2 k
 obtain ⟨ih0, ih1, ih2⟩ := qau.qbm k
 unfold qau.f
 repeat' first
   | (with_reducible exact ih0 _ _ _ _ _)
   | (with_reducible exact ih1 _ _ _ _ _ _)
   | (with_reducible exact ih2 _ _ _)
   | (with_reducible exact LeO.refl _)
   | (with_reducible exact LeO.none _)
   | (with_reducible refine LeO.ite ?_ ?_)
   | (with_reducible refine LeO.bind ?_ (fun _ => ?_))
   | exact ih0 _ _ _ _ _
   | exact ih1 _ _ _ _ _ _
   | exact ih2 _ _ _
   | exact LeO.none _
   | refine LeO.ite ?_ ?_
   | refine LeO.bind ?_ (fun _ => ?_)
set_option maxHeartbeats 8000000 in
set_option maxRecDepth 100000 in
theorem qau.calls (k : Nat) (A0_0 : Option Addr) (c0_0 : Nat) (l0_0 : List (S56)) (A1 : Option Addr) (c1 : Nat) (l1 : List Int) (A2 : Option Addr) (c2 : Nat) (l2 : List Bool) (r : List Int) (w : World) (hr0_0 : Kd.C k56 w A0_0 l0_0.length l0_0) (hc0_0 : l0_0.length ≤ c0_0) (hr1 : Kd.C (Kd.int .i64) w A1 l1.length l1) (hc1 : l1.length ≤ c1) (hr2 : Kd.C Kd.bool w A2 l2.length l2) (hc2 : l2.length ≤ c2) (h : qau.f k l0_0 l1 l2 = some r) :
  Calls Try.prog 88 #[.agg #[.slice A0_0 l0_0.length c0_0], .slice A1 l1.length c1, .slice A2 l2.length c2] w fun e w' => ∃ v0_ : Value, e = .returned (v0_) ∧ Kd.R (Kd.int .i64) 3 w' w.heap.size (fun _ => True) v0_ r ∧ Below w.heap.size w w' := by
 have hu29 := Try.underlying29
 have HR0_0 := Aside0.mk hr0_0
 have HC0_0 := Aside0.mk hc0_0
 clear hr0_0 hc0_0
 have HR1 := Aside0.mk hr1
 have HC1 := Aside0.mk hc1
 clear hr1 hc1
 have HR2 := Aside0.mk hr2
 have HC2 := Aside0.mk hc2
 clear hr2 hc2
 have HB := Aside0.mk (Below.refl w.heap.size w)
 have H : (if 50 ≤ 35184372088832 then (qau.l0 k l1 l2 (List.replicate 50 0) 0 l0_0) else (none)) = some r := h
 clear h
 by_cases c4 : 50 ≤ 35184372088832
 ·rw [if_pos c4] at H
  have c4b0 := eq_true c4
  have c4b1 : decide (50 ≤ 35184372088832) = true := decide_eq_true c4
  clear c4
  obtain ⟨y454, hy454⟩ : ∃ y_ : List Int, y_ = (List.replicate 50 0) := ⟨_, rfl⟩
  replace H : (qau.l0 k l1 l2 y454 0 l0_0) = some r := by first | (rw [hy454]; with_reducible exact H) | (have H2_ := (Option.bind_some _ _).symm.trans H; rw [hy454]; with_reducible exact H2_) | (have H2_ := (Option.bind_some _ _).symm.trans H; with_reducible exact H2_) | with_reducible exact H | (rw [hy454]; exact H) | exact H
  have Ny454 := Aside0.mk hy454
  clear hy454
  have H' := Aside0.mk H
  clear H
  go_enter Try.func88, Try.ntmps88
  go_wp2_with (first | ((with_reducible refine qaQ (N := 3) rfl ?_); (try (refine qbo (by rfl) ?_; dsimp only)); refine qaL ?hg (N := 3) ?hd (cs := #[.slice A0_0 l0_0.length c0_0]) (t := 29) ?hr ?_; (case hd => rfl); (case hg => rfl); (case hr => first | (go_simp; done) | (go_simp; rfl)); intro gb453 hg w5 hbox hb; have n0_ := Aside0.mk (qai (by repeat (first | (with_reducible first | exact HB.out | apply qab | apply qaa | apply qac) | exact HB.out)) hb); have n1_ := Aside0.mk (hbox); have n2_ := Aside0.mk ((by rw [hg]; exact (qaj (by repeat (first | (with_reducible first | exact HB.out | apply qab | apply qaa | apply qac) | exact HB.out))) : w.heap.size ≤ gb453)); have n3_ := Aside0.mk ((by rw [hg]; exact (qaj (by repeat (first | (with_reducible first | exact HB.out | apply qab | apply qaa | apply qac) | exact HB.out))) : w.heap.size ≤ gb453)); clear HB; have HB := n0_; have BK453 := n1_; have GW453 := n2_; have GE453 := n3_; clear n0_ n1_ n2_ n3_; clear hb hbox hg) | ((with_reducible refine qaQ (N := 11) rfl ?_); (try (refine qbo (by rfl) ?_; dsimp only)); refine Kd.qdL (Kd.int .i64) _ 3 rfl (N := 11) rfl 42 _ _ rfl 50 rfl rfl Try.underlying42 (.int .i64 0) 8 info3 rfl (by decide) (by omega) 0 (ok := fun _ => True) (okp := fun _ => True) rfl (fun _ hk => hk) trivial (by omega) (by omega) (Below.refl _ _) (Nat.le_refl _) ?_; intro v455 w6 ho7 hb hg_ hnew_; clear hg_ hnew_; (first | rw [← Ny454.out] at ho7 | (simp only [Int.reduceToNat] at ho7; rw [← Ny454.out] at ho7)); have n0_ := Aside0.mk (Kd.qby ho7 (qaj (by repeat (first | (with_reducible first | exact HB.out | apply qab | apply qaa | apply qac | refine qaf ?_ GE453.out) | exact HB.out)))); have n1_ := Aside0.mk (qar (g := gb453) (o := .cells #[.slice A0_0 l0_0.length c0_0] 29 (0, 0)) (by (with_reducible repeat (first | refine qan ?_ _ | refine qao ?_ | refine qak ?_ _)); exact BK453.out) hb); have n2_ := Aside0.mk (qai (by repeat (first | (with_reducible first | exact HB.out | apply qab | apply qaa | apply qac | refine qaf ?_ GE453.out) | exact HB.out)) hb); clear BK453; clear HB; have HO456 := n0_; have BK453 := n1_; have HB := n2_; clear n0_ n1_ n2_; clear hb ho7))
  go_loopg [8] k (fun kq v8 w' => ∃ (x7_1 : List Int) (x8_1 : Int), v8 = .int .i64 x8_1 ∧ Aside0 (qau.l0 kq l1 l2 x7_1 x8_1 l0_0 = some r) ∧ Aside0 (kq ≤ k) ∧ Aside0 (Kd.R (Kd.int .i64) 3 w' w.heap.size (fun _ => True) v455 x7_1) ∧ Aside0 (w'.heap[gb453]? = some (.cells #[(.slice A0_0 l0_0.length c0_0)] 29 (0, 0))) ∧ Aside0 (Below w.heap.size w w'))
  case atStart => exact ⟨(y454), (0), (by first | rfl | (simp; done) | (simp [*]; done)), H', ⟨Nat.le_refl _⟩, ⟨by (with_reducible repeat (first | apply Kd.qa3 | apply Kd.qa8 | apply Kd.qbi)); exact HO456.out⟩, ⟨by (with_reducible repeat (first | refine qan ?_ _ | refine qao ?_ | refine qak ?_ _)); exact BK453.out⟩, ⟨by repeat (first | (with_reducible first | exact HB.out | apply qab | apply qaa | apply qac | refine qaf ?_ GE453.out) | exact HB.out)⟩⟩
  case round =>
   clear H'
   try clear c1
   try clear c2
   try clear p2
   try clear c4
   try clear c4b0
   try clear c4b1
   obtain ⟨x7_1, x8_1, rfl, HA, HK1, HO_7, BK453, HB⟩ := hrel
   cases gk with
   | zero => exact absurd HA.out (by simp [qau.l0])
   | succ k1 =>
    have H := HA.out
    clear HA
    simp only [qau.l0] at H
    by_cases c8 : x8_1 < 50
    ·rw [if_pos c8] at H
     have c8b0 : decide (x8_1 < 50) = true := decide_eq_true c8
     clear c8
     have H' := Aside0.mk H
     clear H
     go_wp2
     go_loopg [9] k1 (fun kq v9 w' => ∃ (x7_2 : List Int) (x9_2 : Int), v9 = .int .i64 x9_2 ∧ Aside0 (qau.l1 kq l1 l2 x7_2 x8_1 x9_2 l0_0 = some r) ∧ Aside0 (kq ≤ k1) ∧ Aside0 (Kd.R (Kd.int .i64) 3 w' w.heap.size (fun _ => True) v455 x7_2) ∧ Aside0 (w'.heap[gb453]? = some (.cells #[(.slice A0_0 l0_0.length c0_0)] 29 (0, 0))) ∧ Aside0 (Below w.heap.size w w'))
     case atStart => exact ⟨(x7_1), (0), (by first | rfl | (simp; done) | (simp [*]; done)), H', ⟨Nat.le_refl _⟩, ⟨by (with_reducible repeat (first | apply Kd.qa3 | apply Kd.qa8 | apply Kd.qbi)); exact HO_7.out⟩, ⟨by (with_reducible repeat (first | refine qan ?_ _ | refine qao ?_ | refine qak ?_ _)); exact BK453.out⟩, ⟨by repeat (first | (with_reducible first | exact HB.out | apply qab | apply qaa | apply qac | refine qaf ?_ GE453.out) | exact HB.out)⟩⟩
     case round =>
      clear H'
      try clear c1
      try clear c2
      try clear p2
      try clear c4
      try clear c4b0
      try clear c4b1
      try clear c8
      try clear c8b0
      try clear p2
      obtain ⟨x7_2, x9_2, rfl, HA, HK2, HO_7, BK453, HB⟩ := hrel
      cases gk with
      | zero => exact absurd HA.out (by simp [qau.l1])
      | succ k2 =>
       have H := HA.out
       clear HA
       simp only [qau.l1] at H
       by_cases c9 : 0 ≤ x8_1
       ·rw [if_pos c9] at H
        have c9b0 : decide (0 ≤ x8_1) = true := decide_eq_true c9
        clear c9
        by_cases c10 : x8_1 < (l2.length : Int)
        ·rw [if_pos c10] at H
         have c10b0 : decide (x8_1 < (l2.length : Int)) = true := decide_eq_true c10
         clear c10
         obtain ⟨bq11, hbq11⟩ : ∃ b_ : Bool, b_ = (rdOf false l2 x8_1) := ⟨_, rfl⟩
         replace H : (if bq11 = true then (if x8_1 < (l0_0.length : Int) then (if x9_2 < (((qaG l0_0 x8_1).f3).length : Int) then (if 0 ≤ x9_2 then (if 0 ≤ (rd ((qaG l0_0 x8_1).f3) x9_2) then (if (rd ((qaG l0_0 x8_1).f3) x9_2) < (x7_2.length : Int) then (qau.l1 k2 l1 l2 (x7_2.set ((rd ((qaG l0_0 x8_1).f3) x9_2) : Int).toNat (wrap64 ((rd x7_2 (rd ((qaG l0_0 x8_1).f3) x9_2)) + 1))) x8_1 (wrap64 (x9_2 + 1)) l0_0) else (none)) else (none)) else (none)) else (qau.l0 k2 l1 l2 x7_2 (wrap64 (x8_1 + 1)) l0_0)) else (none)) else (qau.l0 k2 l1 l2 x7_2 (wrap64 (x8_1 + 1)) l0_0)) = some r := by rw [← hbq11] at H; exact H
         have Nbq11 := Aside0.mk hbq11
         clear hbq11
         by_cases c12 : bq11 = true
         ·subst c12
          have H1 : (if x8_1 < (l0_0.length : Int) then (if x9_2 < (((qaG l0_0 x8_1).f3).length : Int) then (if 0 ≤ x9_2 then (if 0 ≤ (rd ((qaG l0_0 x8_1).f3) x9_2) then (if (rd ((qaG l0_0 x8_1).f3) x9_2) < (x7_2.length : Int) then (qau.l1 k2 l1 l2 (x7_2.set ((rd ((qaG l0_0 x8_1).f3) x9_2) : Int).toNat (wrap64 ((rd x7_2 (rd ((qaG l0_0 x8_1).f3) x9_2)) + 1))) x8_1 (wrap64 (x9_2 + 1)) l0_0) else (none)) else (none)) else (none)) else (qau.l0 k2 l1 l2 x7_2 (wrap64 (x8_1 + 1)) l0_0)) else (none)) = some r := by rw [if_pos rfl] at H; exact H
          clear H
          have H := H1
          clear H1
          by_cases c13 : x8_1 < (l0_0.length : Int)
          ·rw [if_pos c13] at H
           have c13b0 : decide (x8_1 < (l0_0.length : Int)) = true := decide_eq_true c13
           clear c13
           by_cases c14 : x9_2 < (((qaG l0_0 x8_1).f3).length : Int)
           ·rw [if_pos c14] at H
            have c14b0 : decide (x9_2 < (((qaG l0_0 x8_1).f3).length : Int)) = true := decide_eq_true c14
            clear c14
            by_cases c15 : 0 ≤ x9_2
            ·rw [if_pos c15] at H
             have c15b0 : decide (0 ≤ x9_2) = true := decide_eq_true c15
             clear c15
             by_cases c16 : 0 ≤ (rd ((qaG l0_0 x8_1).f3) x9_2)
             ·rw [if_pos c16] at H
              have c16b0 : decide (0 ≤ (rd ((qaG l0_0 x8_1).f3) x9_2)) = true := decide_eq_true c16
              clear c16
              by_cases c17 : (rd ((qaG l0_0 x8_1).f3) x9_2) < (x7_2.length : Int)
              ·rw [if_pos c17] at H
               have c17b0 : decide ((rd ((qaG l0_0 x8_1).f3) x9_2) < (x7_2.length : Int)) = true := decide_eq_true c17
               clear c17
               obtain ⟨y462, hy462⟩ : ∃ y_ : List Int, y_ = (x7_2.set ((rd ((qaG l0_0 x8_1).f3) x9_2) : Int).toNat (wrap64 ((rd x7_2 (rd ((qaG l0_0 x8_1).f3) x9_2)) + 1))) := ⟨_, rfl⟩
               replace H : (qau.l1 k2 l1 l2 y462 x8_1 (wrap64 (x9_2 + 1)) l0_0) = some r := by first | (rw [hy462]; with_reducible exact H) | (have H2_ := (Option.bind_some _ _).symm.trans H; rw [hy462]; with_reducible exact H2_) | (have H2_ := (Option.bind_some _ _).symm.trans H; with_reducible exact H2_) | with_reducible exact H | (rw [hy462]; exact H) | exact H
               have Ny462 := Aside0.mk hy462
               clear hy462
               have H' := Aside0.mk H
               clear H
               have p457 : 0 ≤ (x8_1 : Int) := of_decide_eq_true (by first | (with_reducible assumption) | assumption)
               have q457 : x8_1 < (l2.length : Int) := of_decide_eq_true (by first | (with_reducible assumption) | assumption)
               obtain ⟨ad457, e457, hx457_0⟩ := Kd.qc0 HR2.out x8_1 p457 q457
               (try rw [← Nbq11.out] at hx457_0)
               cases e457
               replace hx457_0 := (HB.out.cell (World.block_lt_of_cell? w _ hx457_0)).trans hx457_0
               replace p457 := eq_true p457
               replace q457 := eq_true q457
               have hcz19_0 : wr.cell? ⟨gb453, 0, none⟩ = some (.slice A0_0 l0_0.length c0_0) := (qae BK453.out 0).trans rfl
               have hfz19_0 := qad BK453.out 0
               have p458 : 0 ≤ (x8_1 : Int) := of_decide_eq_true (by first | (with_reducible assumption) | assumption)
               have q458 : x8_1 < (l0_0.length : Int) := of_decide_eq_true (by first | (with_reducible assumption) | assumption)
               obtain ⟨ad458, A458_1, c458_1, A458_2, c458_2, A458_3, c458_3, e458, hx458_0, hx458_1, hx458_2, hx458_3, hl458_1, hi458_1, hl458_2, hi458_2, hl458_3, hi458_3⟩ := qdj HR0_0.out x8_1 p458 q458
               (try rw [← Nbq11.out] at hx458_0)
               cases e458
               replace hx458_0 := (HB.out.cell (World.block_lt_of_cell? w _ hx458_0)).trans hx458_0
               replace hx458_1 := (HB.out.cell (World.block_lt_of_cell? w _ hx458_1)).trans hx458_1
               replace hx458_2 := (HB.out.cell (World.block_lt_of_cell? w _ hx458_2)).trans hx458_2
               replace hx458_3 := (HB.out.cell (World.block_lt_of_cell? w _ hx458_3)).trans hx458_3
               have HR458_1 := Aside0.mk hi458_1
               have HC458_1 := Aside0.mk hl458_1
               clear hi458_1 hl458_1
               have HR458_2 := Aside0.mk hi458_2
               have HC458_2 := Aside0.mk hl458_2
               clear hi458_2 hl458_2
               have HR458_3 := Aside0.mk hi458_3
               have HC458_3 := Aside0.mk hl458_3
               clear hi458_3 hl458_3
               replace p458 := eq_true p458
               replace q458 := eq_true q458
               have p459 : 0 ≤ (x8_1 : Int) := of_decide_eq_true (by first | (with_reducible assumption) | assumption)
               have q459 : x8_1 < (l0_0.length : Int) := of_decide_eq_true (by first | (with_reducible assumption) | assumption)
               obtain ⟨ad459, A459_1, c459_1, A459_2, c459_2, A459_3, c459_3, e459, hx459_0, hx459_1, hx459_2, hx459_3, hl459_1, hi459_1, hl459_2, hi459_2, hl459_3, hi459_3⟩ := qdj HR0_0.out x8_1 p459 q459
               (try rw [← Nbq11.out] at hx459_0)
               obtain rfl : ad458 = ad459 := (by injection e459)
               replace hx459_0 := (HB.out.cell (World.block_lt_of_cell? w _ hx459_0)).trans hx459_0
               replace hx459_1 := (HB.out.cell (World.block_lt_of_cell? w _ hx459_1)).trans hx459_1
               replace hx459_2 := (HB.out.cell (World.block_lt_of_cell? w _ hx459_2)).trans hx459_2
               replace hx459_3 := (HB.out.cell (World.block_lt_of_cell? w _ hx459_3)).trans hx459_3
               have HR459_1 := Aside0.mk hi459_1
               have HC459_1 := Aside0.mk hl459_1
               clear hi459_1 hl459_1
               have HR459_2 := Aside0.mk hi459_2
               have HC459_2 := Aside0.mk hl459_2
               clear hi459_2 hl459_2
               have HR459_3 := Aside0.mk hi459_3
               have HC459_3 := Aside0.mk hl459_3
               clear hi459_3 hl459_3
               replace p459 := eq_true p459
               replace q459 := eq_true q459
               have ea_ := Option.some.inj (hx458_1.symm.trans hx459_1)
               injection ea_ with ea_ en_ ec_
               subst ea_
               subst ec_
               clear en_
               have ea_ := Option.some.inj (hx458_2.symm.trans hx459_2)
               injection ea_ with ea_ en_ ec_
               subst ea_
               subst ec_
               clear en_
               have ea_ := Option.some.inj (hx458_3.symm.trans hx459_3)
               injection ea_ with ea_ en_ ec_
               subst ea_
               subst ec_
               clear en_
               have p460 : 0 ≤ (x9_2 : Int) := of_decide_eq_true (by first | (with_reducible assumption) | assumption)
               have q460 : x9_2 < (((qaG l0_0 x8_1).f3).length : Int) := of_decide_eq_true (by first | (with_reducible assumption) | assumption)
               obtain ⟨ad460, e460, hx460_0⟩ := Kd.qbS HR459_3.out x9_2 p460 q460
               cases e460
               replace hx460_0 := (HB.out.cell (World.block_lt_of_cell? w _ hx460_0)).trans hx460_0
               replace p460 := eq_true p460
               replace q460 := eq_true q460
               obtain ⟨Ao20, co20, eo20⟩ := Kd.qbW HO_7.out
               subst eo20
               have p461 : 0 ≤ ((rd ((qaG l0_0 x8_1).f3) x9_2) : Int) := of_decide_eq_true (by first | (with_reducible assumption) | assumption)
               have q461 : (rd ((qaG l0_0 x8_1).f3) x9_2) < (x7_2.length : Int) := of_decide_eq_true (by first | (with_reducible assumption) | assumption)
               obtain ⟨ad461, e461, hx461_0⟩ := Kd.qbS (Kd.qbe HO_7.out).2.2 (rd ((qaG l0_0 x8_1).f3) x9_2) p461 q461
               cases e461
               replace p461 := eq_true p461
               replace q461 := eq_true q461
               have p18 : 0 ≤ ((rd ((qaG l0_0 x8_1).f3) x9_2) : Int) := of_decide_eq_true (by first | (with_reducible assumption) | assumption)
               have q18 : ((rd ((qaG l0_0 x8_1).f3) x9_2) : Int) < ((x7_2.length : Int) : Int) := of_decide_eq_true (by first | (with_reducible assumption) | assumption)
               obtain ⟨go18, co18, eo18, gb18, gl18, cl18, HG18⟩ := Kd.qce HO_7.out (by omega)
               (first | cases eo18 | (injection eo18 with ea_ en_ ec_; (first | subst ea_ | (injection ea_ with ea_; subst ea_)); subst ec_; clear en_))
               have GB18 := Aside0.mk gb18
               have GG18 := Aside0.mk HG18
               clear gb18 gl18 HG18
               (first | simp only [add_plain] at hx461_0 | skip)
               obtain ⟨hx18_0, hf18_0⟩ := Kd.qca 0 HO_7.out ((rd ((qaG l0_0 x8_1).f3) x9_2) : Int) p18 q18
               replace p18 := eq_true p18
               replace q18 := eq_true q18
               have HP21 := Kd.qdi HO_7.out ((rd ((qaG l0_0 x8_1).f3) x9_2) : Int) (wrap64 ((rd x7_2 (rd ((qaG l0_0 x8_1).f3) x9_2)) + 1))
               go_wp2_with (first | ((with_reducible refine qbM (t := 3) (p := 46) rfl ?_); refine qbF (t := 3) (p := 46) (v := ?vo_w22) (w1 := (wr.setCell ⟨go18, ((rd ((qaG l0_0 x8_1).f3) x9_2) : Int).toNat, none⟩ (.int .i64 (wrap64 ((rd x7_2 (rd ((qaG l0_0 x8_1).f3) x9_2)) + 1))))) ?hg ?ho ?hn ?hr ?_; (case ho => rfl); (case hg => rfl); (case hn => rfl); (case hr => first | (go_simp; done) | (go_simp; rfl)); intro w22 hw; have hg : wr.grownBy w22 (some go18) := (by rw [hw]; exact HP21.2); have hp_ : Kd.R (Kd.int .i64) 3 w22 w.heap.size (fun _ => True) (.slice (some ⟨go18, 0, none⟩) x7_2.length co20) y462 := (by rw [hw, Ny462.out]; exact HP21.1); clear HP21; have n0_ := Aside0.mk (hp_); have n1_ := Aside0.mk (qbR (g := gb453) (o := .cells #[.slice (some ad458) l0_0.length c0_0] 29 (0, 0)) (by (with_reducible repeat (first | refine qan ?_ _ | refine qao ?_ | refine qak ?_ _)); exact BK453.out) hg (Kd.R_ne HO_7.out BK453.out (by decide))); have n2_ := Aside0.mk ((by rw [hw]; exact qaf (HB.out) GB18.out : Below w.heap.size w w22)); clear HO_7; clear BK453; clear HB; have HO_7 := n0_; have BK453 := n1_; have HB := n2_; clear n0_ n1_ n2_; clear hg hw hp_))
               go_roundg k2
               case measure => have := HK1.out; have := HK2.out; omega
               case rel => exact ⟨(y462), (wrap64 (x9_2 + 1)), (by first | rfl | (simp; done) | (simp [*]; done)), H', ⟨by have := HK1.out; have := HK2.out; omega⟩, ⟨by (with_reducible repeat (first | apply Kd.qa3 | apply Kd.qa8 | apply Kd.qbi)); exact HO_7.out⟩, ⟨by (with_reducible repeat (first | refine qan ?_ _ | refine qao ?_ | refine qak ?_ _)); exact BK453.out⟩, ⟨by repeat (first | (with_reducible first | exact HB.out | apply qab | apply qaa | apply qac | refine qaf ?_ GE453.out) | exact HB.out)⟩⟩
              ·rw [if_neg c17] at H
               exact absurd H (by simp)
             ·rw [if_neg c16] at H
              exact absurd H (by simp)
            ·rw [if_neg c15] at H
             exact absurd H (by simp)
           ·rw [if_neg c14] at H
            have c14b0 : decide (x9_2 < (((qaG l0_0 x8_1).f3).length : Int)) = false := decide_eq_false c14
            clear c14
            have H' := Aside0.mk H
            clear H
            have p457 : 0 ≤ (x8_1 : Int) := of_decide_eq_true (by first | (with_reducible assumption) | assumption)
            have q457 : x8_1 < (l2.length : Int) := of_decide_eq_true (by first | (with_reducible assumption) | assumption)
            obtain ⟨ad457, e457, hx457_0⟩ := Kd.qc0 HR2.out x8_1 p457 q457
            (try rw [← Nbq11.out] at hx457_0)
            cases e457
            replace hx457_0 := (HB.out.cell (World.block_lt_of_cell? w _ hx457_0)).trans hx457_0
            replace p457 := eq_true p457
            replace q457 := eq_true q457
            have hcz23_0 : wr.cell? ⟨gb453, 0, none⟩ = some (.slice A0_0 l0_0.length c0_0) := (qae BK453.out 0).trans rfl
            have hfz23_0 := qad BK453.out 0
            have p458 : 0 ≤ (x8_1 : Int) := of_decide_eq_true (by first | (with_reducible assumption) | assumption)
            have q458 : x8_1 < (l0_0.length : Int) := of_decide_eq_true (by first | (with_reducible assumption) | assumption)
            obtain ⟨ad458, A458_1, c458_1, A458_2, c458_2, A458_3, c458_3, e458, hx458_0, hx458_1, hx458_2, hx458_3, hl458_1, hi458_1, hl458_2, hi458_2, hl458_3, hi458_3⟩ := qdj HR0_0.out x8_1 p458 q458
            (try rw [← Nbq11.out] at hx458_0)
            cases e458
            replace hx458_0 := (HB.out.cell (World.block_lt_of_cell? w _ hx458_0)).trans hx458_0
            replace hx458_1 := (HB.out.cell (World.block_lt_of_cell? w _ hx458_1)).trans hx458_1
            replace hx458_2 := (HB.out.cell (World.block_lt_of_cell? w _ hx458_2)).trans hx458_2
            replace hx458_3 := (HB.out.cell (World.block_lt_of_cell? w _ hx458_3)).trans hx458_3
            have HR458_1 := Aside0.mk hi458_1
            have HC458_1 := Aside0.mk hl458_1
            clear hi458_1 hl458_1
            have HR458_2 := Aside0.mk hi458_2
            have HC458_2 := Aside0.mk hl458_2
            clear hi458_2 hl458_2
            have HR458_3 := Aside0.mk hi458_3
            have HC458_3 := Aside0.mk hl458_3
            clear hi458_3 hl458_3
            replace p458 := eq_true p458
            replace q458 := eq_true q458
            go_wp2
            go_roundg k2
            case measure => have := HK1.out; have := HK2.out; omega
            case rel => exact ⟨(x7_2), (wrap64 (x8_1 + 1)), (by first | rfl | (simp; done) | (simp [*]; done)), H', ⟨by have := HK1.out; have := HK2.out; omega⟩, ⟨by (with_reducible repeat (first | apply Kd.qa3 | apply Kd.qa8 | apply Kd.qbi)); exact HO_7.out⟩, ⟨by (with_reducible repeat (first | refine qan ?_ _ | refine qao ?_ | refine qak ?_ _)); exact BK453.out⟩, ⟨by repeat (first | (with_reducible first | exact HB.out | apply qab | apply qaa | apply qac | refine qaf ?_ GE453.out) | exact HB.out)⟩⟩
          ·rw [if_neg c13] at H
           exact absurd H (by simp)
         ·replace c12 := Bool.eq_false_iff.mpr c12
          subst c12
          have H1 : (qau.l0 k2 l1 l2 x7_2 (wrap64 (x8_1 + 1)) l0_0) = some r := by rw [if_neg (show ¬ (false = true) by decide)] at H; exact H
          clear H
          have H := H1
          clear H1
          have H' := Aside0.mk H
          clear H
          have p457 : 0 ≤ (x8_1 : Int) := of_decide_eq_true (by first | (with_reducible assumption) | assumption)
          have q457 : x8_1 < (l2.length : Int) := of_decide_eq_true (by first | (with_reducible assumption) | assumption)
          obtain ⟨ad457, e457, hx457_0⟩ := Kd.qc0 HR2.out x8_1 p457 q457
          (try rw [← Nbq11.out] at hx457_0)
          cases e457
          replace hx457_0 := (HB.out.cell (World.block_lt_of_cell? w _ hx457_0)).trans hx457_0
          replace p457 := eq_true p457
          replace q457 := eq_true q457
          go_wp2
          go_roundg k2
          case measure => have := HK1.out; have := HK2.out; omega
          case rel => exact ⟨(x7_2), (wrap64 (x8_1 + 1)), (by first | rfl | (simp; done) | (simp [*]; done)), H', ⟨by have := HK1.out; have := HK2.out; omega⟩, ⟨by (with_reducible repeat (first | apply Kd.qa3 | apply Kd.qa8 | apply Kd.qbi)); exact HO_7.out⟩, ⟨by (with_reducible repeat (first | refine qan ?_ _ | refine qao ?_ | refine qak ?_ _)); exact BK453.out⟩, ⟨by repeat (first | (with_reducible first | exact HB.out | apply qab | apply qaa | apply qac | refine qaf ?_ GE453.out) | exact HB.out)⟩⟩
        ·rw [if_neg c10] at H
         exact absurd H (by simp)
       ·rw [if_neg c9] at H
        exact absurd H (by simp)
    ·rw [if_neg c8] at H
     have c8b0 : decide (x8_1 < 50) = false := decide_eq_false c8
     clear c8
     have H' := Aside0.mk H
     clear H
     go_wp2
     go_loopg [10] k1 (fun kq v10 w' => ∃ (x7_2 : List Int) (x10_2 : Int), v10 = .int .i64 x10_2 ∧ Aside0 (qau.l2 kq l1 x7_2 x10_2 = some r) ∧ Aside0 (kq ≤ k1) ∧ Aside0 (Kd.R (Kd.int .i64) 3 w' w.heap.size (fun _ => True) v455 x7_2) ∧ Aside0 (w'.heap[gb453]? = some (.cells #[(.slice A0_0 l0_0.length c0_0)] 29 (0, 0))) ∧ Aside0 (Below w.heap.size w w'))
     case atStart => exact ⟨(x7_1), (0), (by first | rfl | (simp; done) | (simp [*]; done)), H', ⟨Nat.le_refl _⟩, ⟨by (with_reducible repeat (first | apply Kd.qa3 | apply Kd.qa8 | apply Kd.qbi)); exact HO_7.out⟩, ⟨by (with_reducible repeat (first | refine qan ?_ _ | refine qao ?_ | refine qak ?_ _)); exact BK453.out⟩, ⟨by repeat (first | (with_reducible first | exact HB.out | apply qab | apply qaa | apply qac | refine qaf ?_ GE453.out) | exact HB.out)⟩⟩
     case round =>
      clear H'
      try clear c1
      try clear p1
      try clear q1
      try clear hx1
      try clear c2
      try clear p2
      try clear c4
      try clear c4b0
      try clear c4b1
      try clear p4
      try clear q4
      try clear hx4
      try clear p6
      try clear c8
      try clear c8b0
      try clear c9
      try clear c9b0
      try clear c10
      try clear c10b0
      try clear q11
      try clear c12
      try clear c13
      try clear c13b0
      try clear c14
      try clear c14b0
      try clear c15
      try clear c15b0
      try clear c16
      try clear c16b0
      try clear c17
      try clear c17b0
      try clear p18
      try clear q18
      try clear hx18
      try clear hf18
      try clear hcz19_0
      try clear hcz23_0
      try clear hfz19_0
      try clear hfz23_0
      try clear hx18_0
      try clear hx457_0
      try clear hx458_0
      try clear hx458_1
      try clear hx458_2
      try clear hx458_3
      try clear hx459_0
      try clear hx459_1
      try clear hx459_2
      try clear hx459_3
      try clear hx460_0
      try clear hx461_0
      try clear p18
      try clear p2
      try clear p457
      try clear p458
      try clear p459
      try clear p460
      try clear p461
      try clear q18
      try clear q457
      try clear q458
      try clear q459
      try clear q460
      try clear q461
      obtain ⟨x7_2, x10_2, rfl, HA, HK2, HO_7, BK453, HB⟩ := hrel
      cases gk with
      | zero => exact absurd HA.out (by simp [qau.l2])
      | succ k2 =>
       have H := HA.out
       clear HA
       simp only [qau.l2] at H
       by_cases c24 : x10_2 < (l1.length : Int)
       ·rw [if_pos c24] at H
        have c24b0 : decide (x10_2 < (l1.length : Int)) = true := decide_eq_true c24
        clear c24
        by_cases c25 : 0 ≤ x10_2
        ·rw [if_pos c25] at H
         have c25b0 : decide (0 ≤ x10_2) = true := decide_eq_true c25
         clear c25
         by_cases c26 : (rd l1 x10_2) ≥ 0
         ·rw [if_pos c26] at H
          have c26b0 : decide (0 ≤ (rd l1 x10_2)) = true := decide_eq_true c26
          clear c26
          by_cases c27 : 0 ≤ (rd l1 x10_2)
          ·rw [if_pos c27] at H
           have c27b0 : decide (0 ≤ (rd l1 x10_2)) = true := decide_eq_true c27
           clear c27
           by_cases c28 : (rd l1 x10_2) < (x7_2.length : Int)
           ·rw [if_pos c28] at H
            have c28b0 : decide ((rd l1 x10_2) < (x7_2.length : Int)) = true := decide_eq_true c28
            clear c28
            obtain ⟨y466, hy466⟩ : ∃ y_ : List Int, y_ = (x7_2.set ((rd l1 x10_2) : Int).toNat (wrap64 ((rd x7_2 (rd l1 x10_2)) + 1))) := ⟨_, rfl⟩
            replace H : (qau.l2 k2 l1 y466 (wrap64 (x10_2 + 1))) = some r := by first | (rw [hy466]; with_reducible exact H) | (have H2_ := (Option.bind_some _ _).symm.trans H; rw [hy466]; with_reducible exact H2_) | (have H2_ := (Option.bind_some _ _).symm.trans H; with_reducible exact H2_) | with_reducible exact H | (rw [hy466]; exact H) | exact H
            have Ny466 := Aside0.mk hy466
            clear hy466
            have H' := Aside0.mk H
            clear H
            have p463 : 0 ≤ (x10_2 : Int) := of_decide_eq_true (by first | (with_reducible assumption) | assumption)
            have q463 : x10_2 < (l1.length : Int) := of_decide_eq_true (by first | (with_reducible assumption) | assumption)
            obtain ⟨ad463, e463, hx463_0⟩ := Kd.qbS HR1.out x10_2 p463 q463
            cases e463
            replace hx463_0 := (HB.out.cell (World.block_lt_of_cell? w _ hx463_0)).trans hx463_0
            replace p463 := eq_true p463
            replace q463 := eq_true q463
            have p464 : 0 ≤ (x10_2 : Int) := of_decide_eq_true (by first | (with_reducible assumption) | assumption)
            have q464 : x10_2 < (l1.length : Int) := of_decide_eq_true (by first | (with_reducible assumption) | assumption)
            obtain ⟨ad464, e464, hx464_0⟩ := Kd.qbS HR1.out x10_2 p464 q464
            obtain rfl : ad463 = ad464 := (by injection e464)
            replace hx464_0 := (HB.out.cell (World.block_lt_of_cell? w _ hx464_0)).trans hx464_0
            replace p464 := eq_true p464
            replace q464 := eq_true q464
            obtain ⟨Ao30, co30, eo30⟩ := Kd.qbW HO_7.out
            subst eo30
            have p465 : 0 ≤ ((rd l1 x10_2) : Int) := of_decide_eq_true (by first | (with_reducible assumption) | assumption)
            have q465 : (rd l1 x10_2) < (x7_2.length : Int) := of_decide_eq_true (by first | (with_reducible assumption) | assumption)
            obtain ⟨ad465, e465, hx465_0⟩ := Kd.qbS (Kd.qbe HO_7.out).2.2 (rd l1 x10_2) p465 q465
            cases e465
            replace p465 := eq_true p465
            replace q465 := eq_true q465
            have p29 : 0 ≤ ((rd l1 x10_2) : Int) := of_decide_eq_true (by first | (with_reducible assumption) | assumption)
            have q29 : ((rd l1 x10_2) : Int) < ((x7_2.length : Int) : Int) := of_decide_eq_true (by first | (with_reducible assumption) | assumption)
            obtain ⟨go29, co29, eo29, gb29, gl29, cl29, HG29⟩ := Kd.qce HO_7.out (by omega)
            (first | cases eo29 | (injection eo29 with ea_ en_ ec_; (first | subst ea_ | (injection ea_ with ea_; subst ea_)); subst ec_; clear en_))
            have GB29 := Aside0.mk gb29
            have GG29 := Aside0.mk HG29
            clear gb29 gl29 HG29
            (first | simp only [add_plain] at hx465_0 | skip)
            obtain ⟨hx29_0, hf29_0⟩ := Kd.qca 0 HO_7.out ((rd l1 x10_2) : Int) p29 q29
            replace p29 := eq_true p29
            replace q29 := eq_true q29
            have HP31 := Kd.qdi HO_7.out ((rd l1 x10_2) : Int) (wrap64 ((rd x7_2 (rd l1 x10_2)) + 1))
            go_wp2_with (first | ((with_reducible refine qbM (t := 3) (p := 66) rfl ?_); refine qbF (t := 3) (p := 66) (v := ?vo_w32) (w1 := (wr.setCell ⟨go29, ((rd l1 x10_2) : Int).toNat, none⟩ (.int .i64 (wrap64 ((rd x7_2 (rd l1 x10_2)) + 1))))) ?hg ?ho ?hn ?hr ?_; (case ho => rfl); (case hg => rfl); (case hn => rfl); (case hr => first | (go_simp; done) | (go_simp; rfl)); intro w32 hw; have hg : wr.grownBy w32 (some go29) := (by rw [hw]; exact HP31.2); have hp_ : Kd.R (Kd.int .i64) 3 w32 w.heap.size (fun _ => True) (.slice (some ⟨go29, 0, none⟩) x7_2.length co30) y466 := (by rw [hw, Ny466.out]; exact HP31.1); clear HP31; have n0_ := Aside0.mk (hp_); have n1_ := Aside0.mk (qbR (g := gb453) (o := .cells #[.slice A0_0 l0_0.length c0_0] 29 (0, 0)) (by (with_reducible repeat (first | refine qan ?_ _ | refine qao ?_ | refine qak ?_ _)); exact BK453.out) hg (Kd.R_ne HO_7.out BK453.out (by decide))); have n2_ := Aside0.mk ((by rw [hw]; exact qaf (HB.out) GB29.out : Below w.heap.size w w32)); clear HO_7; clear BK453; clear HB; have HO_7 := n0_; have BK453 := n1_; have HB := n2_; clear n0_ n1_ n2_; clear hg hw hp_))
            go_roundg k2
            case measure => have := HK1.out; have := HK2.out; omega
            case rel => exact ⟨(y466), (wrap64 (x10_2 + 1)), (by first | rfl | (simp; done) | (simp [*]; done)), H', ⟨by have := HK1.out; have := HK2.out; omega⟩, ⟨by (with_reducible repeat (first | apply Kd.qa3 | apply Kd.qa8 | apply Kd.qbi)); exact HO_7.out⟩, ⟨by (with_reducible repeat (first | refine qan ?_ _ | refine qao ?_ | refine qak ?_ _)); exact BK453.out⟩, ⟨by repeat (first | (with_reducible first | exact HB.out | apply qab | apply qaa | apply qac | refine qaf ?_ GE453.out) | exact HB.out)⟩⟩
           ·rw [if_neg c28] at H
            exact absurd H (by simp)
          ·rw [if_neg c27] at H
           exact absurd H (by simp)
         ·rw [if_neg c26] at H
          have c26b0 : decide (0 ≤ (rd l1 x10_2)) = false := decide_eq_false c26
          clear c26
          have H' := Aside0.mk H
          clear H
          have p463 : 0 ≤ (x10_2 : Int) := of_decide_eq_true (by first | (with_reducible assumption) | assumption)
          have q463 : x10_2 < (l1.length : Int) := of_decide_eq_true (by first | (with_reducible assumption) | assumption)
          obtain ⟨ad463, e463, hx463_0⟩ := Kd.qbS HR1.out x10_2 p463 q463
          cases e463
          replace hx463_0 := (HB.out.cell (World.block_lt_of_cell? w _ hx463_0)).trans hx463_0
          replace p463 := eq_true p463
          replace q463 := eq_true q463
          go_wp2
          go_roundg k2
          case measure => have := HK1.out; have := HK2.out; omega
          case rel => exact ⟨(x7_2), (wrap64 (x10_2 + 1)), (by first | rfl | (simp; done) | (simp [*]; done)), H', ⟨by have := HK1.out; have := HK2.out; omega⟩, ⟨by (with_reducible repeat (first | apply Kd.qa3 | apply Kd.qa8 | apply Kd.qbi)); exact HO_7.out⟩, ⟨by (with_reducible repeat (first | refine qan ?_ _ | refine qao ?_ | refine qak ?_ _)); exact BK453.out⟩, ⟨by repeat (first | (with_reducible first | exact HB.out | apply qab | apply qaa | apply qac | refine qaf ?_ GE453.out) | exact HB.out)⟩⟩
        ·rw [if_neg c25] at H
         exact absurd H (by simp)
       ·rw [if_neg c24] at H
        have c24b0 : decide (x10_2 < (l1.length : Int)) = false := decide_eq_false c24
        clear c24
        obtain rfl := Option.some.inj H
        go_wp2
        go_ret
        exact ⟨_, by first | rfl | (simp [qal, qam] <;> rfl) | (simp [*, qal, qam] <;> rfl), by (with_reducible repeat (first | apply Kd.qa3 | apply Kd.qa8 | apply Kd.qbi)); exact HO_7.out, by repeat (first | (with_reducible first | exact HB.out | apply qab | apply qaa | apply qac | refine qaf ?_ GE453.out) | exact HB.out)⟩
 ·rw [if_neg c4] at H
  exact absurd H (by simp)
end Go.Proofs.Ytenfomejccfkgaa.X
namespace Go.Proofs.Ytenfomejccfkgaa.X
open Go.RowKit Go.Proofs.YtenfomejccfkgaaW.PrintWords Go.Proofs.YtenfomejccfkgaaW.PrintLast Go.Proofs.YtenfomejccfkgaaW.PrintMore
attribute [local go_sem] qaC qaD qaE qay qaz qaO qaP qas qat qaA qaB
set_option linter.unusedVariables false
set_option linter.unusedSimpArgs false
theorem wup (i : Nat) (h : i < 1000000) : wrap64 ((i : Int) + 1) = ((i + 1 : Nat) : Int) := by unfold wrap64; omega
theorem winc {x : Int} (h0 : 0 ≤ x) (h1 : x ≤ 1000000) : wrap64 (x + 1) = x + 1 := by unfold wrap64; omega
theorem qfW {l : List Int} {i : Nat} (h : i < l.length) : rd l (i : Int) = l[i] := by
 unfold rd
 rw [Int.toNat_natCast]
 simp [List.getD_eq_getElem?_getD, h]
def qdS (ns : List S56) : List Int → List Bool → List Bool × Bool
 | [], o => (o, true)
 | r :: t, o => if (walkR ns r).2.2 = true then qdS ns t (orW o (walkR ns r).2.1) else (o, false)
theorem qhq {ns : List S56} {rs : List Int} : ∀ o, (∀ r, r ∈ rs → (walkR ns r).2.2 = true) → qdS ns rs o = (rs.foldl (fun o r => orW o (walkR ns r).2.1) o, true) := by
 induction rs with
 | nil => intro o _; rfl
 | cons r rs ih =>
  intro o h
  unfold qdS
  rw [if_pos (h r List.mem_cons_self), ih _ (fun y hy => h y (List.mem_cons_of_mem _ hy))]
  rfl
theorem qhr {ns : List S56} {rs : List Int} : ∀ o, ¬ (∀ r, r ∈ rs → (walkR ns r).2.2 = true) → (qdS ns rs o).2 = false := by
 induction rs with
 | nil => intro o h; exact absurd (fun r hr => by cases hr) h
 | cons r rs ih =>
  intro o h
  unfold qdS
  by_cases hr : (walkR ns r).2.2 = true
  ·rw [if_pos hr]
   exact ih _ fun hh => h fun y hy => (List.mem_cons.1 hy).elim (fun e => e ▸ hr) (hh y)
  ·rw [if_neg hr]
theorem qfh (ns : List S56) (rs : List Int) (o S : List Bool) (hS : S.length = 50) (i : Nat) (R : List Bool × Bool) (hR : Ev (fun k => qaq.l0 k rs (orTo o S 50) (wrap64 ((i : Int) + 1)) ns) R) : ∀ d j, j + d = 50 → Ev (fun k => qaq.l1 k rs (orTo o S j) (i : Int) S (j : Int) ns) R := by
 intro d
 induction d with
 | zero =>
  intro j hj
  have hj2 : j = 50 := by omega
  refine Ev.succ ?_
  simp only [qaq.l1]
  rw [hj2]
  exact Ev.neg (by omega) hR
 | succ d ih =>
  intro j hj
  have hlt : j < 50 := by omega
  have hn := ih (j + 1) (by omega)
  have hg := qdg o S j j hlt
  rw [decide_eq_false (Nat.lt_irrefl j), Bool.false_and, Bool.or_false] at hg
  have hst := qfU o S j hlt
  refine Ev.succ ?_
  simp only [qaq.l1, wup j (by omega), Int.toNat_natCast]
  refine Ev.pos (by omega) (Ev.pos (by omega) (Ev.pos (by rw [qck]; omega) ?_))
  rw [← hg] at hst
  cases hb : rdOf false (orTo o S j) (j : Int) with
  | true =>
   rw [hb, Bool.true_or] at hst
   rw [hst]
   exact Ev.pos rfl hn
  | false =>
   rw [hb, Bool.false_or] at hst
   rw [hst]
   exact Ev.neg (by simp) (Ev.pos (by omega) hn)
theorem qgK {ns : List S56} (hs : qcq ns = true) (rs : List Int) (hl : rs.length ≤ 1000) : ∀ (d i : Nat) (o : List Bool), i + d = rs.length → o.length = 50 → Ev (fun k => qaq.l0 k rs o (i : Int) ns) (qdS ns (rs.drop i) o) := by
 intro d
 induction d with
 | zero =>
  intro i o hi ho
  rw [show i = rs.length by omega, List.drop_length]
  refine Ev.succ ?_
  simp only [qaq.l0]
  exact Ev.neg (by omega) (Ev.is rfl)
 | succ d ih =>
  intro i o hi ho
  have hlt : i < rs.length := by omega
  rw [List.drop_eq_getElem_cons hlt]
  refine Ev.succ ?_
  simp only [qaq.l0, qfW hlt]
  refine Ev.pos (by omega) (Ev.pos (by omega) (Ev.bindk (qhp _ hs) ?_))
  unfold qdS
  cases hk : (walkR ns rs[i]).2.2 with
  | false => exact Ev.neg (by simp) (Ev.is (by simp))
  | true =>
   have hn := ih (i + 1) (orW o (walkR ns rs[i]).2.1) (by omega) (qck _ _ _)
   rw [← wup i (by omega)] at hn
   have h := qfh ns rs o _ (qeo ns rs[i]) i _ hn 50 0 (by omega)
   rw [qfT o _ ho] at h
   exact Ev.same (Ev.pos rfl h) (by simp)
theorem qgL {rs : List Int} (hl : rs.length ≤ 1000) (hr : ∀ r, r ∈ rs → r < 50) : ∀ (d i : Nat) (x : List Int), i + d = rs.length → Bnd x (1000 - (d : Int)) → Ev (fun k => qau.l2 k rs x (i : Int)) (incL x (qcR (rs.drop i))) := by
 intro d
 induction d with
 | zero =>
  intro i x hi hx
  rw [show i = rs.length by omega, List.drop_length]
  refine Ev.succ ?_
  simp only [qau.l2]
  exact Ev.neg (by omega) (Ev.is rfl)
 | succ d ih =>
  intro i x hi hx
  have hlt : i < rs.length := by omega
  have h5 := hr rs[i] (List.getElem_mem _)
  have hxl := hx.len
  rw [List.drop_eq_getElem_cons hlt]
  refine Ev.succ ?_
  simp only [qau.l2, qfW hlt, wup i (by omega)]
  refine Ev.pos (by omega) (Ev.pos (by omega) ?_)
  by_cases h0 : 0 ≤ rs[i]
  ·have hb := hx.rng rs[i].toNat (by omega)
   rw [show ((rs[i].toNat : Nat) : Int) = rs[i] by omega] at hb
   have hn := ih (i + 1) (x.set rs[i].toNat (rd x rs[i] + 1)) (by omega) (by have := hx.inc h0 h5; rw [show (1000 - ((d + 1 : Nat) : Int)) + 1 = 1000 - (d : Int) by omega] at this; exact this)
   refine Ev.pos h0 (Ev.pos h0 (Ev.pos (by omega) ?_))
   rw [winc hb.1 (by omega)]
   refine Ev.same hn ?_
   unfold qcR
   rw [List.filter_cons, if_pos (decide_eq_true h0)]
   rfl
  ·have hn := ih (i + 1) x (by omega) ⟨hxl, fun q hq => by have := hx.rng q hq; omega⟩
   refine Ev.neg (by omega) (Ev.same hn ?_)
   unfold qcR
   rw [List.filter_cons, if_neg (by simp; omega)]
theorem qhs {ns : List S56} {s : List Bool} (hg : GoodS ns s) (hsl : s.length = 50) (rs : List Int) (i : Nat) (hi : i < 50) (hon : rdOf false s (i : Int) = true) (b : Int) (hb : b ≤ 1000) (R : List Int) : ∀ (d q : Nat) (x : List Int), q + d = (qaG ns (i : Int)).f3.length → Bnd x (b - (d : Int)) → Ev (fun k => qau.l0 k rs s (incL x ((qaG ns (i : Int)).f3.drop q)) (wrap64 ((i : Int) + 1)) ns) R → Ev (fun k => qau.l1 k rs s x (i : Int) (q : Int) ns) R := by
 obtain ⟨h4, hin⟩ := qdc hg hon
 have hil := (hg i hon).1
 intro d
 induction d with
 | zero =>
  intro q x hq hx hR
  rw [show q = (qaG ns (i : Int)).f3.length by omega, List.drop_length] at hR
  refine Ev.succ ?_
  simp only [qau.l1]
  exact Ev.pos (by omega) (Ev.pos (by omega) (Ev.pos hon (Ev.pos (by omega) (Ev.neg (by omega) hR))))
 | succ d ih =>
  intro q x hq hx hR
  have hlt : q < (qaG ns (i : Int)).f3.length := by omega
  rw [List.drop_eq_getElem_cons hlt, qfV] at hR
  have hj := hin _ (List.getElem_mem hlt)
  have hxl := hx.len
  have hbb := hx.rng (qaG ns (i : Int)).f3[q].toNat (by omega)
  rw [show (((qaG ns (i : Int)).f3[q].toNat : Nat) : Int) = (qaG ns (i : Int)).f3[q] by omega] at hbb
  have hn := ih (q + 1) _ (by omega) (by have := hx.inc hj.1 hj.2; rw [show (b - ((d + 1 : Nat) : Int)) + 1 = b - (d : Int) by omega] at this; exact this) hR
  refine Ev.succ ?_
  simp only [qau.l1, qfW hlt, wup q (by omega), winc hbb.1 (by omega)]
  exact Ev.pos (by omega) (Ev.pos (by omega) (Ev.pos hon (Ev.pos (by omega) (Ev.pos (by omega) (Ev.pos (by omega) (Ev.pos hj.1 (Ev.pos (by omega) hn)))))))
theorem qeL {ns : List S56} {s : List Bool} (hg : GoodS ns s) (hsl : s.length = 50) {rs : List Int} (hl : rs.length ≤ 20) (hr : ∀ r, r ∈ rs → r < 50) : ∀ (d i : Nat) (x : List Int), i + d = 50 → Bnd x (4 * (i : Int)) → Ev (fun k => qau.l0 k rs s x (i : Int) ns) (incL x (qb2 ns s i d ++ qcR rs)) := by
 intro d
 induction d with
 | zero =>
  intro i x hi hx
  refine Ev.succ ?_
  simp only [qau.l0]
  refine Ev.neg (by omega) ?_
  have h := qgL (rs := rs) (by omega) hr rs.length 0 x (by omega) ⟨hx.len, fun q hq => by have := hx.rng q hq; omega⟩
  simpa [qb2] using h
 | succ d ih =>
  intro i x hi hx
  have hlt : i < 50 := by omega
  refine Ev.succ ?_
  simp only [qau.l0]
  refine Ev.pos (by omega) ?_
  cases hon : rdOf false s (i : Int) with
  | true =>
   obtain ⟨h4, hin⟩ := qdc hg hon
   have hb := hx.incs hin
   have hn := ih (i + 1) (incL x (qaG ns (i : Int)).f3) (by omega) ⟨hb.len, fun q hq => by have := hb.rng q hq; omega⟩
   rw [← wup i (by omega)] at hn
   have h := qhs hg hsl rs i hlt hon 1000 (by omega) _ (qaG ns (i : Int)).f3.length 0 x (by omega) ⟨hx.len, fun q hq => by have := hx.rng q hq; omega⟩ (by rw [List.drop_zero]; exact hn)
   refine Ev.same h ?_
   rw [qb2, if_pos hon, List.append_assoc, qgq x]
  | false =>
   have hn := ih (i + 1) x (by omega) ⟨hx.len, fun q hq => by have := hx.rng q hq; omega⟩
   rw [← wup i (by omega)] at hn
   refine Ev.same (Ev.succ ?_) (show incL x (qb2 ns s (i + 1) d ++ qcR rs) = _ by rw [qb2, if_neg (by rw [hon]; simp), List.nil_append])
   simp only [qau.l1]
   exact Ev.pos (by omega) (Ev.pos (by omega) (Ev.neg (by rw [hon]; simp) hn))
end Go.Proofs.Ytenfomejccfkgaa.X
