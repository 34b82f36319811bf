import Derived.Test.YtcdokcpiahbejaaKFnRefs14
import Derived.Test.YtcdokcpiahbejaaRows
import Derived.ShutString
import Derived.ChangeOld
import Derived.SizedLaws
namespace Go.Proofs.Ytcdokcpiahbejaa.X
open Go.RowKit Go.Proofs.YtcdokcpiahbejaaW.PrintWords Go.Proofs.YtcdokcpiahbejaaW.PrintLast Go.Proofs.YtcdokcpiahbejaaW.PrintMore
attribute [local go_sem] qax qay qaz qat qau qaJ qaK qam qan qav qaw
set_option linter.unusedVariables false
set_option linter.unusedSimpArgs false
mutual
noncomputable def qaf.j0 : Nat → List Int → List Int → List Int → Bool → Option (Bool)
 | 0, _, _, _, _ => none
 | k + 1, x4, x8, lB, x79 => if x79 = true then (some false) else (qaf.l0 k x4 x8 lB 0)
noncomputable def qaf.l0 : Nat → List Int → List Int → List Int → Int → Option (Bool)
 | 0, _, _, _, _ => none
 | k + 1, x4, x8, lB, PF => if PF < 50 then (qaf.l1 k x4 x8 lB PF false 0) else (some true)
noncomputable def qaf.l1 : Nat → List Int → List Int → List Int → Int → Bool → Int → Option (Bool)
 | 0, _, _, _, _, _, _ => none
 | k + 1, x4, x8, lB, PF, x13, x14 => if x14 < (x8.length : Int) then (if x13 = true then (qaf.l1 k x4 x8 lB PF true (wrap64 (x14 + 1))) else (if 0 ≤ x14 then (qaf.l1 k x4 x8 lB PF ((rd x8 x14) == PF) (wrap64 (x14 + 1))) else (none))) else (qaf.l2 k x4 x8 lB PF x13 0)
noncomputable def qaf.l2 : Nat → List Int → List Int → List Int → Int → Bool → Int → Option (Bool)
 | 0, _, _, _, _, _, _ => none
 | k + 1, x4, x8, lB, PF, x13, x15 => if x15 < (lB.length : Int) then (if x13 = true then (qaf.l2 k x4 x8 lB PF true (wrap64 (x15 + 1))) else (if 0 ≤ x15 then (qaf.l2 k x4 x8 lB PF ((rd lB x15) == PF) (wrap64 (x15 + 1))) else (none))) else (if 0 ≤ PF then (if PF < (x4.length : Int) then (if (x13 != (decide ((rd x4 PF) > 0))) = true then (some false) else (qaf.l0 k x4 x8 lB (wrap64 (PF + 1)))) else (none)) else (none))
end
noncomputable def qaf.f (k : Nat) (l0 : List Int) : Option (Bool) := if (l0.length : Int) > 1048576 then (some true) else ((qcq.f l0).bind fun l7 => ((qa8.f k l7.1 (([l7.2.1, l7.2.2] : List Int))).bind fun t6 => ((qa3.f k l7.1 (([l7.2.1, l7.2.2] : List Int))).bind fun EG => ((qal.f k l7.1 l7.2.1).bind fun b6 => ((qal.f k l7.1 l7.2.2).bind fun S5 => (if t6.2 = 0 then ((qaF.f k t6.1 EG.1).bind fun yI => (if yI = true then (if (t6.1.length : Int) = 50 then (if b6.2 = 0 then (qaf.j0 k t6.1 b6.1 S5.1 (S5.2 != 0)) else (qaf.j0 k t6.1 b6.1 S5.1 true)) else (qaf.j0 k t6.1 b6.1 S5.1 true)) else (qaf.j0 k t6.1 b6.1 S5.1 true))) else (qaf.j0 k t6.1 b6.1 S5.1 true)))))))
theorem qaf.qbW : ∀ k, (∀ y0 y1 y2 y3, LeO (qaf.j0 k y0 y1 y2 y3) (qaf.j0 (k + 1) y0 y1 y2 y3)) ∧ (∀ y0 y1 y2 y3, LeO (qaf.l0 k y0 y1 y2 y3) (qaf.l0 (k + 1) y0 y1 y2 y3)) ∧ (∀ y0 y1 y2 y3 y4 y5, LeO (qaf.l1 k y0 y1 y2 y3 y4 y5) (qaf.l1 (k + 1) y0 y1 y2 y3 y4 y5)) ∧ (∀ y0 y1 y2 y3 y4 y5, LeO (qaf.l2 k y0 y1 y2 y3 y4 y5) (qaf.l2 (k + 1) y0 y1 y2 y3 y4 y5))
 | 0 => ⟨fun _ _ _ _ r h => by simp [qaf.j0] at h, fun _ _ _ _ r h => by simp [qaf.l0] at h, fun _ _ _ _ _ _ r h => by simp [qaf.l1] at h, fun _ _ _ _ _ _ r h => by simp [qaf.l2] at h⟩
 | k + 1 => by
  obtain ⟨d6, ih1, ih2, ih3⟩ := qaf.qbW k;refine ⟨?_, ?_, ?_, ?_⟩
  ·intro y0 y1 y2 y3;unfold qaf.j0
   repeat' first
   | (with_reducible exact d6 _ _ _ _)
   | (with_reducible exact ih1 _ _ _ _)
   | (with_reducible exact ih2 _ _ _ _ _ _)
   | (with_reducible exact ih3 _ _ _ _ _ _)
   | (with_reducible exact qa8.mono _ _ _)
   | (with_reducible exact qal.mono _ _ _)
   | (with_reducible exact qaF.mono _ _ _)
   | (with_reducible exact qa3.mono _ _ _)
   | (with_reducible exact LeO.refl _)
   | (with_reducible exact LeO.none _)
   | (with_reducible refine LeO.ite ?_ ?_)
   | (with_reducible refine LeO.bind ?_ (fun _ => ?_))
   | exact d6 _ _ _ _
   | exact ih1 _ _ _ _
   | exact ih2 _ _ _ _ _ _
   | exact ih3 _ _ _ _ _ _
   | exact qa8.mono _ _ _
   | exact qal.mono _ _ _
   | exact qaF.mono _ _ _
   | exact qa3.mono _ _ _
   | exact LeO.none _
   | refine LeO.ite ?_ ?_
   | refine LeO.bind ?_ (fun _ => ?_)
  ·intro y0 y1 y2 y3;unfold qaf.l0
   repeat' first
   | (with_reducible exact d6 _ _ _ _)
   | (with_reducible exact ih1 _ _ _ _)
   | (with_reducible exact ih2 _ _ _ _ _ _)
   | (with_reducible exact ih3 _ _ _ _ _ _)
   | (with_reducible exact qa8.mono _ _ _)
   | (with_reducible exact qal.mono _ _ _)
   | (with_reducible exact qaF.mono _ _ _)
   | (with_reducible exact qa3.mono _ _ _)
   | (with_reducible exact LeO.refl _)
   | (with_reducible exact LeO.none _)
   | (with_reducible refine LeO.ite ?_ ?_)
   | (with_reducible refine LeO.bind ?_ (fun _ => ?_))
   | exact d6 _ _ _ _
   | exact ih1 _ _ _ _
   | exact ih2 _ _ _ _ _ _
   | exact ih3 _ _ _ _ _ _
   | exact qa8.mono _ _ _
   | exact qal.mono _ _ _
   | exact qaF.mono _ _ _
   | exact qa3.mono _ _ _
   | exact LeO.none _
   | refine LeO.ite ?_ ?_
   | refine LeO.bind ?_ (fun _ => ?_)
  ·intro y0 y1 y2 y3 y4 y5;unfold qaf.l1
   repeat' first
   | (with_reducible exact d6 _ _ _ _)
   | (with_reducible exact ih1 _ _ _ _)
   | (with_reducible exact ih2 _ _ _ _ _ _)
   | (with_reducible exact ih3 _ _ _ _ _ _)
   | (with_reducible exact qa8.mono _ _ _)
   | (with_reducible exact qal.mono _ _ _)
   | (with_reducible exact qaF.mono _ _ _)
   | (with_reducible exact qa3.mono _ _ _)
   | (with_reducible exact LeO.refl _)
   | (with_reducible exact LeO.none _)
   | (with_reducible refine LeO.ite ?_ ?_)
   | (with_reducible refine LeO.bind ?_ (fun _ => ?_))
   | exact d6 _ _ _ _
   | exact ih1 _ _ _ _
   | exact ih2 _ _ _ _ _ _
   | exact ih3 _ _ _ _ _ _
   | exact qa8.mono _ _ _
   | exact qal.mono _ _ _
   | exact qaF.mono _ _ _
   | exact qa3.mono _ _ _
   | exact LeO.none _
   | refine LeO.ite ?_ ?_
   | refine LeO.bind ?_ (fun _ => ?_)
  ·intro y0 y1 y2 y3 y4 y5;unfold qaf.l2
   repeat' first
   | (with_reducible exact d6 _ _ _ _)
   | (with_reducible exact ih1 _ _ _ _)
   | (with_reducible exact ih2 _ _ _ _ _ _)
   | (with_reducible exact ih3 _ _ _ _ _ _)
   | (with_reducible exact qa8.mono _ _ _)
   | (with_reducible exact qal.mono _ _ _)
   | (with_reducible exact qaF.mono _ _ _)
   | (with_reducible exact qa3.mono _ _ _)
   | (with_reducible exact LeO.refl _)
   | (with_reducible exact LeO.none _)
   | (with_reducible refine LeO.ite ?_ ?_)
   | (with_reducible refine LeO.bind ?_ (fun _ => ?_))
   | exact d6 _ _ _ _
   | exact ih1 _ _ _ _
   | exact ih2 _ _ _ _ _ _
   | exact ih3 _ _ _ _ _ _
   | exact qa8.mono _ _ _
   | exact qal.mono _ _ _
   | exact qaF.mono _ _ _
   | exact qa3.mono _ _ _
   | exact LeO.none _
   | refine LeO.ite ?_ ?_
   | refine LeO.bind ?_ (fun _ => ?_)
set_option maxHeartbeats 8000000 in
set_option maxRecDepth 100000 in
theorem qaf.calls (k : Nat) (A0 : Option Addr) (c0 : Nat) (l0 : List Int) (r : Bool) (w : World) (hr0 : Kd.C (Kd.int .u8) w A0 l0.length l0) (hc0 : l0.length ≤ c0) (h : qaf.f k l0 = some r) :
  Calls Try.prog 3 #[.slice A0 l0.length c0] w fun e w' => e = .returned (.bool r) ∧ Below w.heap.size w w' := by
 have gg := Try.underlying27;have bI := Try.underlying25;have I7 := z_ hr0;have OF := z_ hc0;clear hr0 hc0;have HB := z_ (Below.refl w.heap.size w);have H : (if (l0.length : Int) > 1048576 then (some true) else ((qcq.f l0).bind fun l7 => ((qa8.f k l7.1 (([l7.2.1, l7.2.2] : List Int))).bind fun t6 => ((qa3.f k l7.1 (([l7.2.1, l7.2.2] : List Int))).bind fun EG => ((qal.f k l7.1 l7.2.1).bind fun b6 => ((qal.f k l7.1 l7.2.2).bind fun S5 => (if t6.2 = 0 then ((qaF.f k t6.1 EG.1).bind fun yI => (if yI = true then (if (t6.1.length : Int) = 50 then (if b6.2 = 0 then (qaf.j0 k t6.1 b6.1 S5.1 (S5.2 != 0)) else (qaf.j0 k t6.1 b6.1 S5.1 true)) else (qaf.j0 k t6.1 b6.1 S5.1 true)) else (qaf.j0 k t6.1 b6.1 S5.1 true))) else (qaf.j0 k t6.1 b6.1 S5.1 true)))))))) = some r := h;clear h
 by_cases c2 : (l0.length : Int) > 1048576
 ·rw [if_pos c2] at H;have iG : decide (1048576 < (l0.length : Int)) = true := decide_eq_true c2;have pH : decide (1048576 < l0.length) = true := decide_eq_true zbV;clear c2;obtain rfl := Option.some.inj H
  go_enter Try.func3, Try.ntmps3
  go_wp2
  go_ret
  exact ⟨zaF, zaq⟩
 ·rw [if_neg c2] at H;have iG : decide (1048576 < (l0.length : Int)) = false := decide_eq_false c2;have pH : decide (1048576 < l0.length) = false := decide_eq_false zbV;clear c2;replace H := Option.bind_eq_some_iff.mp H;obtain ⟨⟨f6, r7, H7⟩, jI, H⟩ := H;try dsimp only at H
  have A3 := z_ jI;clear jI;obtain ⟨BV, eK⟩ : ∃ y_ : List Int, y_ = (([r7, H7] : List Int)) := ⟨_, rfl⟩
  replace H : ((qa8.f k f6 BV).bind fun t6 => ((qa3.f k f6 (([r7, H7] : List Int))).bind fun EG => ((qal.f k f6 r7).bind fun b6 => ((qal.f k f6 H7).bind fun S5 => (if t6.2 = 0 then ((qaF.f k t6.1 EG.1).bind fun yI => (if yI = true then (if (t6.1.length : Int) = 50 then (if b6.2 = 0 then (qaf.j0 k t6.1 b6.1 S5.1 (S5.2 != 0)) else (qaf.j0 k t6.1 b6.1 S5.1 true)) else (qaf.j0 k t6.1 b6.1 S5.1 true)) else (qaf.j0 k t6.1 b6.1 S5.1 true))) else (qaf.j0 k t6.1 b6.1 S5.1 true)))))) = some r := by first | (rw [eK]; with_reducible exact H) | (have Y1 := (Option.bind_some _ _).symm.trans H; rw [eK]; with_reducible exact Y1) | (have Y1 := (Option.bind_some _ _).symm.trans H; with_reducible exact Y1) | with_reducible exact H | (rw [eK]; exact H) | exact H
  have OS := z_ eK;clear eK;replace H := Option.bind_eq_some_iff.mp H;obtain ⟨⟨n5, qL⟩, KO, H⟩ := H;try dsimp only at H
  have A4 := z_ KO;clear KO;obtain ⟨NW, eJ⟩ : ∃ y_ : List Int, y_ = (([r7, H7] : List Int)) := ⟨_, rfl⟩
  replace H : ((qa3.f k f6 NW).bind fun EG => ((qal.f k f6 r7).bind fun b6 => ((qal.f k f6 H7).bind fun S5 => (if qL = 0 then ((qaF.f k n5 EG.1).bind fun yI => (if yI = true then (if (n5.length : Int) = 50 then (if b6.2 = 0 then (qaf.j0 k n5 b6.1 S5.1 (S5.2 != 0)) else (qaf.j0 k n5 b6.1 S5.1 true)) else (qaf.j0 k n5 b6.1 S5.1 true)) else (qaf.j0 k n5 b6.1 S5.1 true))) else (qaf.j0 k n5 b6.1 S5.1 true))))) = some r := by first | (rw [eJ]; with_reducible exact H) | (have Y1 := (Option.bind_some _ _).symm.trans H; rw [eJ]; with_reducible exact Y1) | (have Y1 := (Option.bind_some _ _).symm.trans H; with_reducible exact Y1) | with_reducible exact H | (rw [eJ]; exact H) | exact H
  have BT := z_ eJ;clear eJ;replace H := Option.bind_eq_some_iff.mp H;obtain ⟨⟨XO, df⟩, JI, H⟩ := H;try dsimp only at H
  have A5 := z_ JI;clear JI;replace H := Option.bind_eq_some_iff.mp H;obtain ⟨⟨n8, TK⟩, Ja, H⟩ := H;try dsimp only at H
  have A6 := z_ Ja;clear Ja;replace H := Option.bind_eq_some_iff.mp H;obtain ⟨⟨o9, wV⟩, ZZ, H⟩ := H;try dsimp only at H
  have A7 := z_ ZZ;clear ZZ;have nO := z_ H;clear H
  go_enter Try.func3, Try.ntmps3
  go_upto_region 8 with (first | ((with_reducible refine qaD (f := 6) rfl ?_); refine qbk (some 20) rfl rfl Try.func6 zbS rfl #[.slice A0 l0.length c0] rfl zao ?_; (with_reducible refine (qcq.calls _ _ l0 f6 r7 H7 _ ?side1 ?side2 A3.o).mono ?_); (case side1 => exact zad I7.o); (case side2 => exact OF.o); rintro e w9 ⟨v495, rfl, ho0, hb⟩; refine ⟨_, rfl, ?_⟩; have H0 := z_ (Kd.qdZ ho0 (qaC zaq)); have I0 := z_ (qad zaq hb); clear HB; have M4 := H0; have HB := I0; clear H0 I0; (try clear hb); (try clear hb2); (try clear hk); (try clear hi); (try clear ho0)) | ((with_reducible refine qaG (N := 3) rfl ?_); (try (refine qbe zbX ?_; dsimp only)); refine qaS zbX (N := 3) zbX (cs := #[.slice none 0 0, .int .i64 0, .int .i64 0]) (t := 27) zbv ?_; intro X5 hg DX hbox hb; have H0 := z_ (Kd.qck (zag M4.o) hb); have I0 := z_ (qad zaq hb); have K0 := z_ (hbox); have U0 := z_ ((zal : w.heap.size ≤ X5)); have N5 := z_ ((zal : w.heap.size ≤ X5)); clear M4 HB; have M4 := H0; have HB := I0; have J2 := K0; have GW499 := U0; have O5 := N5; clear H0 I0 K0 U0 N5 hb hbox hg; obtain ⟨o5, k5, wW⟩ := Kd.qeT M4.o; subst wW; have zC : DX.cell? ⟨X5, 0, none⟩ = some (.slice none 0 0) := (qac J2.o 0).trans rfl; have AC : DX.cell? ⟨X5, 1, none⟩ = some (.int .i64 0) := (qac J2.o 1).trans rfl; have WB : DX.cell? ⟨X5, 2, none⟩ = some (.int .i64 0) := (qac J2.o 2).trans rfl; have kC := qab J2.o 0; have dC := qab J2.o 1; have YB := qab J2.o 2) | ((with_reducible refine qaG (N := 28) rfl ?_); (try (refine qbe zbX ?_; dsimp only)); refine Kd.qcD (Kd.int .i64) _ 3 zbX (N := 28) zbX (xs := ([r7, H7] : List Int)) (inner := [.int .i64 r7, .int .i64 H7]) (ok := fun _ => True) (okp := fun _ => True) zbv ?hp (fun _ hk => hk) trivial (Below.refl _ _) (Nat.le_refl _) zbW ?_; (case hp => exact (Reps.one (show Kd.M (Kd.int .i64) _ _ _ r7 [.int .i64 r7] from rfl) (Reps.one (show Kd.M (Kd.int .i64) _ _ _ H7 [.int .i64 H7] from rfl) (Reps.none _ _)))); intro v501 DI ON hb F5 Z1; clear F5 Z1; (first | rw [← OS.o] at ON | (simp only [Int.reduceToNat] at ON; rw [← OS.o] at ON)); have H0 := z_ (Kd.qed (by (with_reducible repeat (first | apply Kd.qcO | apply Kd.qcP | apply Kd.qc9)); exact (Kd.qcx (Kd.qeF (p := ⟨X5, 2, none⟩) (Kd.qeF (p := ⟨X5, 1, none⟩) (Kd.qeF (p := ⟨X5, 0, none⟩) (Kd.qdx M4.o J2.o zbT) (fun _ hk => hk.2) (.slice o5 f6.length k5)) (fun _ hk => hk.2) (.int .i64 r7)) (fun _ hk => hk.2) (.int .i64 H7)) (fun _ h_ => h_.1))) (Kd.qb0 ON) hb); have I0 := z_ (Kd.qa9 ON (qaC (zab O5.o))); have K0 := z_ (qap (g := X5) (o := .cells #[.slice o5 f6.length k5, .int .i64 r7, .int .i64 H7] 27 (0, 0)) (by (with_reducible repeat (first | refine qaj ?_ _ | refine qai ?_ | refine qah ?_ _)); refine qbm (cs := #[.slice o5 f6.length k5, .int .i64 r7, .int .i64 0]) ?_ 2 _ rfl; (with_reducible repeat (first | refine qaj ?_ _ | refine qai ?_ | refine qah ?_ _)); refine qbm (cs := #[.slice o5 f6.length k5, .int .i64 0, .int .i64 0]) ?_ 1 _ rfl; (with_reducible repeat (first | refine qaj ?_ _ | refine qai ?_ | refine qah ?_ _)); refine qbm (cs := #[.slice none 0 0, .int .i64 0, .int .i64 0]) ?_ 0 _ rfl; (with_reducible repeat (first | refine qaj ?_ _ | refine qai ?_ | refine qah ?_ _)); exact J2.o) hb); have U0 := z_ (qad (zab O5.o) hb); clear M4 J2 HB; have M4 := H0; have V6 := I0; have J2 := K0; have HB := U0; clear H0 I0 K0 U0 hb ON; obtain ⟨pe, Df, Ze⟩ := Kd.qbi V6.o; subst Ze) | ((with_reducible refine qaD (f := 7) rfl ?_); refine qbk (some 29) rfl rfl Try.func7 zbS rfl #[.agg #[.slice o5 f6.length k5], .slice pe BV.length Df] rfl zao ?_; (with_reducible refine (qa8.calls k _ _ f6 _ _ BV n5 qL _ ?side1 ?side2 ?side3 ?side4 A4.o).mono ?_); (case side1 => exact zad ((Kd.qbU M4.o).2.2)); (case side2 => exact (Kd.qbU M4.o).2.1); (case side3 => exact zad ((Kd.qaU V6.o).2.2)); (case side4 => exact (Kd.qaU V6.o).2.1); rintro e w16 ⟨LC, rfl, ho0, hb⟩; refine ⟨_, rfl, ?_⟩; have H0 := z_ (Kd.qed (zag M4.o) (Kd.qb0 ho0) hb); have I0 := z_ (Kd.qbZ (zae V6.o) (Kd.qb0 ho0) hb); have K0 := z_ (Kd.qa9 (Kd.qcV ho0 (Kd.R_lt (zae V6.o))) (qaC (zab O5.o))); have U0 := z_ (qap (g := X5) (o := .cells #[.slice o5 f6.length k5, .int .i64 r7, .int .i64 H7] 27 (0, 0)) (zac J2.o) hb); have N5 := z_ (qad (zab O5.o) hb); clear M4 V6 J2 HB; have M4 := H0; have V6 := I0; have Y4 := K0; have J2 := U0; have HB := N5; clear H0 I0 K0 U0 N5; (try clear hb); (try clear hb2); (try clear hk); (try clear hi); (try clear ho0); have cC : w16.cell? ⟨X5, 0, none⟩ = some (.slice o5 f6.length k5) := (qac J2.o 0).trans rfl; have xG : w16.cell? ⟨X5, 1, none⟩ = some (.int .i64 r7) := (qac J2.o 1).trans rfl; have oG : w16.cell? ⟨X5, 2, none⟩ = some (.int .i64 H7) := (qac J2.o 2).trans rfl; have iC := qab J2.o 0; have wG := qab J2.o 1; have pG := qab J2.o 2) | ((with_reducible refine qaG (N := 39) rfl ?_); (try (refine qbe zbX ?_; dsimp only)); refine Kd.qcD (Kd.int .i64) _ 3 zbX (N := 39) zbX (xs := ([r7, H7] : List Int)) (inner := [.int .i64 r7, .int .i64 H7]) (ok := fun _ => True) (okp := fun _ => True) zbv ?hp (fun _ hk => hk) trivial (Below.refl _ _) (Nat.le_refl _) zbW ?_; (case hp => exact (Reps.one (show Kd.M (Kd.int .i64) _ _ _ r7 [.int .i64 r7] from rfl) (Reps.one (show Kd.M (Kd.int .i64) _ _ _ H7 [.int .i64 H7] from rfl) (Reps.none _ _)))); intro v508 ae vJ hb F5 Z1; clear F5 Z1; (first | rw [← BT.o] at vJ | (simp only [Int.reduceToNat] at vJ; rw [← BT.o] at vJ)); have H0 := z_ (Kd.qed (zag M4.o) (Kd.qb0 vJ) hb); have I0 := z_ (Kd.qbZ (zae V6.o) (Kd.qb0 vJ) hb); have K0 := z_ (Kd.qbZ (zae Y4.o) (Kd.qb0 vJ) hb); have U0 := z_ (Kd.qa9 (Kd.qcV (Kd.qcV vJ (Kd.R_lt (zae V6.o))) (Kd.R_lt (zae Y4.o))) (qaC (zab O5.o))); have N5 := z_ (qap (g := X5) (o := .cells #[.slice o5 f6.length k5, .int .i64 r7, .int .i64 H7] 27 (0, 0)) (zac J2.o) hb); have b9 := z_ (qad (zab O5.o) hb); clear M4 V6 Y4 J2 HB; have M4 := H0; have V6 := I0; have Y4 := K0; have P9 := U0; have J2 := N5; have HB := b9; clear H0 I0 K0 U0 N5 b9 hb vJ; obtain ⟨SQ, NN, MP⟩ := Kd.qbi P9.o; subst MP) | ((with_reducible refine qaD (f := 8) rfl ?_); refine qbk (some 40) rfl rfl Try.func8 zbS rfl #[.agg #[.slice o5 f6.length k5], .slice SQ NW.length NN] rfl zao ?_; (with_reducible refine (qa3.calls k _ _ f6 _ _ NW XO df _ ?side1 ?side2 ?side3 ?side4 A5.o).mono ?_); (case side1 => exact zad ((Kd.qbU M4.o).2.2)); (case side2 => exact (Kd.qbU M4.o).2.1); (case side3 => exact zad ((Kd.qaU P9.o).2.2)); (case side4 => exact (Kd.qaU P9.o).2.1); rintro e QH ⟨v511, rfl, ho0, hb⟩; refine ⟨_, rfl, ?_⟩; have H0 := z_ (Kd.qed (zag M4.o) (Kd.qb0 ho0) hb); have I0 := z_ (Kd.qbZ (zae V6.o) (Kd.qb0 ho0) hb); have K0 := z_ (Kd.qbZ (zae Y4.o) (Kd.qb0 ho0) hb); have U0 := z_ (Kd.qbZ (zae P9.o) (Kd.qb0 ho0) hb); have N5 := z_ (Kd.qa9 (Kd.qcV (Kd.qcV (Kd.qcV ho0 (Kd.R_lt (zae V6.o))) (Kd.R_lt (zae Y4.o))) (Kd.R_lt (zae P9.o))) (qaC (zab O5.o))); have b9 := z_ (qap (g := X5) (o := .cells #[.slice o5 f6.length k5, .int .i64 r7, .int .i64 H7] 27 (0, 0)) (zac J2.o) hb); have WF := z_ (qad (zab O5.o) hb); clear M4 V6 Y4 P9 J2 HB; have M4 := H0; have V6 := I0; have Y4 := K0; have P9 := U0; have D7 := N5; have J2 := b9; have HB := WF; clear H0 I0 K0 U0 N5 b9 WF; (try clear hb); (try clear hb2); (try clear hk); (try clear hi); (try clear ho0); have a8 : QH.cell? ⟨X5, 0, none⟩ = some (.slice o5 f6.length k5) := (qac J2.o 0).trans rfl; have i8 : QH.cell? ⟨X5, 1, none⟩ = some (.int .i64 r7) := (qac J2.o 1).trans rfl; have X7 : QH.cell? ⟨X5, 2, none⟩ = some (.int .i64 H7) := (qac J2.o 2).trans rfl; have Q7 := qab J2.o 0; have V7 := qab J2.o 1; have f8 := qab J2.o 2) | ((with_reducible refine qaD (f := 9) rfl ?_); refine qbk (some 48) rfl rfl Try.func9 zbS rfl #[.agg #[.slice o5 f6.length k5], .int .i64 r7] rfl zao ?_; (with_reducible refine (qal.calls k _ _ f6 r7 n8 TK _ ?side1 ?side2 A6.o).mono ?_); (case side1 => exact zad ((Kd.qbU M4.o).2.2)); (case side2 => exact (Kd.qbU M4.o).2.1); rintro e KF ⟨gG, rfl, ho0, hb⟩; refine ⟨_, rfl, ?_⟩; have H0 := z_ (Kd.qed (zag M4.o) (Kd.qb0 ho0) hb); have I0 := z_ (Kd.qbZ (zae V6.o) (Kd.qb0 ho0) hb); have K0 := z_ (Kd.qbZ (zae Y4.o) (Kd.qb0 ho0) hb); have U0 := z_ (Kd.qbZ (zae P9.o) (Kd.qb0 ho0) hb); have N5 := z_ (Kd.qbZ (zae D7.o) (Kd.qb0 ho0) hb); have b9 := z_ (Kd.qa9 (Kd.qcV (Kd.qcV (Kd.qcV (Kd.qcV ho0 (Kd.R_lt (zae V6.o))) (Kd.R_lt (zae Y4.o))) (Kd.R_lt (zae P9.o))) (Kd.R_lt (zae D7.o))) (qaC (zab O5.o))); have WF := z_ (qap (g := X5) (o := .cells #[.slice o5 f6.length k5, .int .i64 r7, .int .i64 H7] 27 (0, 0)) (zac J2.o) hb); have qK := z_ (qad (zab O5.o) hb); clear M4 V6 Y4 P9 D7 J2 HB; have M4 := H0; have V6 := I0; have Y4 := K0; have P9 := U0; have D7 := N5; have LD := b9; have J2 := WF; have HB := qK; clear H0 I0 K0 U0 N5 b9 WF qK; (try clear hb); (try clear hb2); (try clear hk); (try clear hi); (try clear ho0); have N8 : KF.cell? ⟨X5, 0, none⟩ = some (.slice o5 f6.length k5) := (qac J2.o 0).trans rfl; have Q8 : KF.cell? ⟨X5, 1, none⟩ = some (.int .i64 r7) := (qac J2.o 1).trans rfl; have L8 : KF.cell? ⟨X5, 2, none⟩ = some (.int .i64 H7) := (qac J2.o 2).trans rfl; have G8 := qab J2.o 0; have I8 := qab J2.o 1; have K8 := qab J2.o 2) | ((with_reducible refine qaD (f := 9) rfl ?_); refine qbk (some 56) rfl rfl Try.func9 zbS rfl #[.agg #[.slice o5 f6.length k5], .int .i64 H7] rfl zao ?_; (with_reducible refine (qal.calls k _ _ f6 H7 o9 wV _ ?side1 ?side2 A7.o).mono ?_); (case side1 => exact zad ((Kd.qbU M4.o).2.2)); (case side2 => exact (Kd.qbU M4.o).2.1); rintro e RL ⟨FC, rfl, ho0, hb⟩; refine ⟨_, rfl, ?_⟩; have H0 := z_ (Kd.qed (zag M4.o) (Kd.qb0 ho0) hb); have I0 := z_ (Kd.qbZ (zae V6.o) (Kd.qb0 ho0) hb); have K0 := z_ (Kd.qbZ (zae Y4.o) (Kd.qb0 ho0) hb); have U0 := z_ (Kd.qbZ (zae P9.o) (Kd.qb0 ho0) hb); have N5 := z_ (Kd.qbZ (zae D7.o) (Kd.qb0 ho0) hb); have b9 := z_ (Kd.qbZ (zae LD.o) (Kd.qb0 ho0) hb); have WF := z_ (Kd.qa9 (Kd.qcV (Kd.qcV (Kd.qcV (Kd.qcV (Kd.qcV ho0 (Kd.R_lt (zae V6.o))) (Kd.R_lt (zae Y4.o))) (Kd.R_lt (zae P9.o))) (Kd.R_lt (zae D7.o))) (Kd.R_lt (zae LD.o))) (qaC (zab O5.o))); have qK := z_ (qap (g := X5) (o := .cells #[.slice o5 f6.length k5, .int .i64 r7, .int .i64 H7] 27 (0, 0)) (zac J2.o) hb); have oP := z_ (qad (zab O5.o) hb); clear M4 V6 Y4 P9 D7 LD J2 HB; have M4 := H0; have V6 := I0; have Y4 := K0; have P9 := U0; have D7 := N5; have LD := b9; have aK := WF; have J2 := qK; have HB := oP; clear H0 I0 K0 U0 N5 b9 WF qK oP; (try clear hb); (try clear hb2); (try clear hk); (try clear hi); (try clear ho0)))
  (try simp only [Act.put, List.setIfInBounds_toArray, List.set_cons_zero, List.set_cons_succ])
  go_cut [79] (fun v79 wc => ∃ (kq : Nat) (qN : Bool), v79 = .bool qN ∧ Aside0 (qaf.j0 kq n5 n8 o9 qN = some r) ∧ Aside0 (kq ≤ k) ∧ Aside0 (Kd.R (Kd.int .i64) 3 wc w.heap.size (fun k_ => some k_ ≠ (gG : Value).ownBlock ∧ some k_ ≠ (FC : Value).ownBlock) LC n5) ∧ Aside0 (Kd.R (Kd.int .i64) 3 wc w.heap.size (fun k_ => some k_ ≠ (LC : Value).ownBlock ∧ some k_ ≠ (FC : Value).ownBlock) gG n8) ∧ Aside0 (Kd.R (Kd.int .i64) 3 wc w.heap.size (fun k_ => some k_ ≠ (LC : Value).ownBlock ∧ some k_ ≠ (gG : Value).ownBlock) FC o9) ∧ Aside0 (Kd.S k75 75 wc w.heap.size (fun k_ => some k_ ≠ (LC : Value).ownBlock ∧ some k_ ≠ (gG : Value).ownBlock ∧ some k_ ≠ (FC : Value).ownBlock) (.slice o5 f6.length k5) f6) ∧ Aside0 (wc.heap[X5]? = some (.cells #[(.slice o5 f6.length k5), .int .i64 r7, .int .i64 H7] 27 (0, 0))) ∧ Aside0 (Below w.heap.size w wc))
  case first =>
   have H := nO.o;clear nO
   by_cases vG : qL = 0
   ·rw [if_pos vG] at H;have X9 : (qL == 0) = true := beq_iff_eq.mpr vG;have nK : (qL != 0) = false := bne_eq_false_iff_eq.mpr vG;clear vG
    (first | rw [X9] | (simp only [qbw, qbB]; rw [X9]) | skip)
    replace H := Option.bind_eq_some_iff.mp H;obtain ⟨yI, pZ, H⟩ := H;try dsimp only at H
    have Ib := z_ pZ;clear pZ
    by_cases c28 : yI = true
    ·subst c28;have H1 : (if (n5.length : Int) = 50 then (if TK = 0 then (qaf.j0 k n5 n8 o9 (wV != 0)) else (qaf.j0 k n5 n8 o9 true)) else (qaf.j0 k n5 n8 o9 true)) = some r := zbE;clear H;have H := H1;clear H1
     by_cases nH : (n5.length : Int) = 50
     ·rw [if_pos nH] at H;have vH : ((n5.length : Int) == 50) = true := beq_iff_eq.mpr nH;have XI : ((n5.length : Int) != 50) = false := bne_eq_false_iff_eq.mpr nH;clear nH
      by_cases FI : TK = 0
      ·rw [if_pos FI] at H;have tH : (TK == 0) = true := beq_iff_eq.mpr FI;have FJ : (TK != 0) = false := bne_eq_false_iff_eq.mpr FI;clear FI;have H' := z_ H;clear H;obtain ⟨YH, sI, eQ⟩ := Kd.qbi Y4.o;subst eQ;obtain ⟨NO, qP, WV⟩ := Kd.qbi D7.o;subst WV
       go_wp2_with (first | (go_at_call 10; (with_reducible refine (qaF.calls k _ _ n5 _ _ XO true _ ?side1 ?side2 ?side3 ?side4 Ib.o).mono ?_); (case side1 => exact zad ((Kd.qaU Y4.o).2.2)); (case side2 => exact (Kd.qaU Y4.o).2.1); (case side3 => exact zad ((Kd.qaU D7.o).2.2)); (case side4 => exact (Kd.qaU D7.o).2.1); rintro e w' ⟨rfl, ⟨nd, rfl⟩⟩))
       go_meet
       case rel => exact ⟨_, ((wV != 0)), zbs, H', ⟨zbz⟩, ⟨by (with_reducible repeat (first | apply Kd.qaV | apply Kd.qa0 | apply Kd.qa6)); exact Kd.qbb Y4.o (fun _ hk => ⟨hk.1.2, hk.2⟩)⟩, ⟨by (with_reducible repeat (first | apply Kd.qaV | apply Kd.qa0 | apply Kd.qa6)); exact Kd.qbb LD.o (fun _ hk => ⟨hk.1.1.1.2, hk.2⟩)⟩, ⟨by (with_reducible repeat (first | apply Kd.qaV | apply Kd.qa0 | apply Kd.qa6)); exact Kd.qbb aK.o (fun _ hk => ⟨hk.1.1.1.2, hk.2⟩)⟩, ⟨by (with_reducible repeat (first | apply Kd.qcO | apply Kd.qcP | apply Kd.qc9)); exact Kd.qcx M4.o (fun _ hk => ⟨hk.1.1.1.1.2, ⟨hk.1.2, hk.2⟩⟩)⟩, ⟨by (with_reducible repeat (first | refine qaj ?_ _ | refine qai ?_ | refine qah ?_ _)); exact J2.o⟩, ⟨zab O5.o⟩⟩
      ·rw [if_neg FI] at H;have tH : (TK == 0) = false := beq_eq_false_iff_ne.mpr FI;have FJ : (TK != 0) = true := bne_iff_ne.mpr FI;have H' := z_ H;clear H;obtain ⟨Ao33, Ae, BS⟩ := Kd.qbi Y4.o;subst BS;obtain ⟨Lh, JW, DU⟩ := Kd.qbi D7.o;subst DU
       go_wp2_with (first | (go_at_call 10; (with_reducible refine (qaF.calls k _ _ n5 _ _ XO true _ ?side1 ?side2 ?side3 ?side4 Ib.o).mono ?_); (case side1 => exact zad ((Kd.qaU Y4.o).2.2)); (case side2 => exact (Kd.qaU Y4.o).2.1); (case side3 => exact zad ((Kd.qaU D7.o).2.2)); (case side4 => exact (Kd.qaU D7.o).2.1); rintro e w' ⟨rfl, ⟨nd, rfl⟩⟩))
       go_meet
       case rel => exact ⟨_, (true), zbs, H', ⟨zbz⟩, ⟨by (with_reducible repeat (first | apply Kd.qaV | apply Kd.qa0 | apply Kd.qa6)); exact Kd.qbb Y4.o (fun _ hk => ⟨hk.1.2, hk.2⟩)⟩, ⟨by (with_reducible repeat (first | apply Kd.qaV | apply Kd.qa0 | apply Kd.qa6)); exact Kd.qbb LD.o (fun _ hk => ⟨hk.1.1.1.2, hk.2⟩)⟩, ⟨by (with_reducible repeat (first | apply Kd.qaV | apply Kd.qa0 | apply Kd.qa6)); exact Kd.qbb aK.o (fun _ hk => ⟨hk.1.1.1.2, hk.2⟩)⟩, ⟨by (with_reducible repeat (first | apply Kd.qcO | apply Kd.qcP | apply Kd.qc9)); exact Kd.qcx M4.o (fun _ hk => ⟨hk.1.1.1.1.2, ⟨hk.1.2, hk.2⟩⟩)⟩, ⟨by (with_reducible repeat (first | refine qaj ?_ _ | refine qai ?_ | refine qah ?_ _)); exact J2.o⟩, ⟨zab O5.o⟩⟩
     ·rw [if_neg nH] at H;have vH : ((n5.length : Int) == 50) = false := beq_eq_false_iff_ne.mpr nH;have XI : ((n5.length : Int) != 50) = true := bne_iff_ne.mpr nH;have H' := z_ H;clear H;obtain ⟨Ao35, co35, Ce⟩ := Kd.qbi Y4.o;subst Ce;obtain ⟨Ao36, co36, qf⟩ := Kd.qbi D7.o;subst qf
      go_wp2_with (first | (go_at_call 10; (with_reducible refine (qaF.calls k _ _ n5 _ _ XO true _ ?side1 ?side2 ?side3 ?side4 Ib.o).mono ?_); (case side1 => exact zad ((Kd.qaU Y4.o).2.2)); (case side2 => exact (Kd.qaU Y4.o).2.1); (case side3 => exact zad ((Kd.qaU D7.o).2.2)); (case side4 => exact (Kd.qaU D7.o).2.1); rintro e w' ⟨rfl, ⟨nd, rfl⟩⟩))
      go_meet
      case rel => exact ⟨_, (true), zbs, H', ⟨zbz⟩, ⟨by (with_reducible repeat (first | apply Kd.qaV | apply Kd.qa0 | apply Kd.qa6)); exact Kd.qbb Y4.o (fun _ hk => ⟨hk.1.2, hk.2⟩)⟩, ⟨by (with_reducible repeat (first | apply Kd.qaV | apply Kd.qa0 | apply Kd.qa6)); exact Kd.qbb LD.o (fun _ hk => ⟨hk.1.1.1.2, hk.2⟩)⟩, ⟨by (with_reducible repeat (first | apply Kd.qaV | apply Kd.qa0 | apply Kd.qa6)); exact Kd.qbb aK.o (fun _ hk => ⟨hk.1.1.1.2, hk.2⟩)⟩, ⟨by (with_reducible repeat (first | apply Kd.qcO | apply Kd.qcP | apply Kd.qc9)); exact Kd.qcx M4.o (fun _ hk => ⟨hk.1.1.1.1.2, ⟨hk.1.2, hk.2⟩⟩)⟩, ⟨by (with_reducible repeat (first | refine qaj ?_ _ | refine qai ?_ | refine qah ?_ _)); exact J2.o⟩, ⟨zab O5.o⟩⟩
    ·replace c28 := Bool.eq_false_iff.mpr c28;subst c28;have H1 : (qaf.j0 k n5 n8 o9 true) = some r := zaK;clear H;have H := H1;clear H1;have H' := z_ H;clear H;obtain ⟨Ao37, co37, Sf⟩ := Kd.qbi Y4.o;subst Sf;obtain ⟨Ao38, co38, eh⟩ := Kd.qbi D7.o;subst eh
     go_wp2_with (first | (go_at_call 10; (with_reducible refine (qaF.calls k _ _ n5 _ _ XO false _ ?side1 ?side2 ?side3 ?side4 Ib.o).mono ?_); (case side1 => exact zad ((Kd.qaU Y4.o).2.2)); (case side2 => exact (Kd.qaU Y4.o).2.1); (case side3 => exact zad ((Kd.qaU D7.o).2.2)); (case side4 => exact (Kd.qaU D7.o).2.1); rintro e w' ⟨rfl, ⟨nd, rfl⟩⟩))
     go_meet
     case rel => exact ⟨_, (true), zbs, H', ⟨zbz⟩, ⟨by (with_reducible repeat (first | apply Kd.qaV | apply Kd.qa0 | apply Kd.qa6)); exact Kd.qbb Y4.o (fun _ hk => ⟨hk.1.2, hk.2⟩)⟩, ⟨by (with_reducible repeat (first | apply Kd.qaV | apply Kd.qa0 | apply Kd.qa6)); exact Kd.qbb LD.o (fun _ hk => ⟨hk.1.1.1.2, hk.2⟩)⟩, ⟨by (with_reducible repeat (first | apply Kd.qaV | apply Kd.qa0 | apply Kd.qa6)); exact Kd.qbb aK.o (fun _ hk => ⟨hk.1.1.1.2, hk.2⟩)⟩, ⟨by (with_reducible repeat (first | apply Kd.qcO | apply Kd.qcP | apply Kd.qc9)); exact Kd.qcx M4.o (fun _ hk => ⟨hk.1.1.1.1.2, ⟨hk.1.2, hk.2⟩⟩)⟩, ⟨by (with_reducible repeat (first | refine qaj ?_ _ | refine qai ?_ | refine qah ?_ _)); exact J2.o⟩, ⟨zab O5.o⟩⟩
   ·rw [if_neg vG] at H;have X9 : (qL == 0) = false := beq_eq_false_iff_ne.mpr vG;have nK : (qL != 0) = true := bne_iff_ne.mpr vG
    (first | rw [X9] | (simp only [qbw, qbB]; rw [X9]) | skip)
    have H' := z_ H;clear H
    go_wp2
    go_meet
    case rel => exact ⟨_, (true), zbs, H', ⟨zbz⟩, ⟨by (with_reducible repeat (first | apply Kd.qaV | apply Kd.qa0 | apply Kd.qa6)); exact Kd.qbb Y4.o (fun _ hk => ⟨hk.1.2, hk.2⟩)⟩, ⟨by (with_reducible repeat (first | apply Kd.qaV | apply Kd.qa0 | apply Kd.qa6)); exact Kd.qbb LD.o (fun _ hk => ⟨hk.1.1.1.2, hk.2⟩)⟩, ⟨by (with_reducible repeat (first | apply Kd.qaV | apply Kd.qa0 | apply Kd.qa6)); exact Kd.qbb aK.o (fun _ hk => ⟨hk.1.1.1.2, hk.2⟩)⟩, ⟨by (with_reducible repeat (first | apply Kd.qcO | apply Kd.qcP | apply Kd.qc9)); exact Kd.qcx M4.o (fun _ hk => ⟨hk.1.1.1.1.2, ⟨hk.1.2, hk.2⟩⟩)⟩, ⟨by (with_reducible repeat (first | refine qaj ?_ _ | refine qai ?_ | refine qah ?_ _)); exact J2.o⟩, ⟨zab O5.o⟩⟩
  case rest =>
   clear nO;try clear c2
   try clear iG
   try clear pH
   try clear p2
   try clear c3
   try clear c6
   try clear c7
   try clear c8
   try clear c9
   try clear vG
   try clear X9
   try clear nK
   try clear c28
   try clear nH
   try clear vH
   try clear XI
   try clear FI
   try clear tH
   try clear FJ
   try clear zC
   try clear AC
   try clear WB
   try clear cC
   try clear xG
   try clear oG
   try clear a8
   try clear i8
   try clear X7
   try clear N8
   try clear Q8
   try clear L8
   try clear kC
   try clear dC
   try clear YB
   try clear iC
   try clear wG
   try clear pG
   try clear Q7
   try clear V7
   try clear f8
   try clear G8
   try clear I8
   try clear K8
   obtain ⟨kq, qN, rfl, HA, JS, MJ, GJ, BE, SB, J2, HB⟩ := hcut
   cases kq with
   | zero => exact absurd HA.o (by simp [qaf.j0])
   | succ kj7 =>
    have H := HA.o;clear HA;simp only [qaf.j0] at H
    by_cases UC : qN = true
    ·subst UC;have H1 : (some false) = some r := zbE;clear H;have H := H1;clear H1;obtain rfl := Option.some.inj H
     go_wp2
     go_ret
     exact ⟨zaF, zab O5.o⟩
    ·replace UC := Bool.eq_false_iff.mpr UC;subst UC;have H1 : (qaf.l0 kj7 n5 n8 o9 0) = some r := zaK;clear H;have H := H1;clear H1;have H' := z_ H;clear H
     go_wp2
     go_loopg [12] kj7 (fun kq v12 w' => ∃ (I4 : Int), v12 = .int .i64 I4 ∧ Aside0 (qaf.l0 kq n5 n8 o9 I4 = some r) ∧ Aside0 (kq ≤ kj7) ∧ Aside0 (Kd.R (Kd.int .i64) 3 w' w.heap.size (fun k_ => some k_ ≠ (gG : Value).ownBlock ∧ some k_ ≠ (FC : Value).ownBlock) LC n5) ∧ Aside0 (Kd.R (Kd.int .i64) 3 w' w.heap.size (fun k_ => some k_ ≠ (LC : Value).ownBlock ∧ some k_ ≠ (FC : Value).ownBlock) gG n8) ∧ Aside0 (Kd.R (Kd.int .i64) 3 w' w.heap.size (fun k_ => some k_ ≠ (LC : Value).ownBlock ∧ some k_ ≠ (gG : Value).ownBlock) FC o9) ∧ Aside0 (Kd.S k75 75 w' w.heap.size (fun k_ => some k_ ≠ (LC : Value).ownBlock ∧ some k_ ≠ (gG : Value).ownBlock ∧ some k_ ≠ (FC : Value).ownBlock) (.slice o5 f6.length k5) f6) ∧ Aside0 (w'.heap[X5]? = some (.cells #[(.slice o5 f6.length k5), .int .i64 r7, .int .i64 H7] 27 (0, 0))) ∧ Aside0 (Below w.heap.size w w'))
     case atStart => exact ⟨(0), zbs, H', ⟨Nat.le_refl _⟩, ⟨zaC⟩, ⟨zaD⟩, ⟨zax⟩, ⟨zau⟩, ⟨by (with_reducible repeat (first | refine qaj ?_ _ | refine qai ?_ | refine qah ?_ _)); exact J2.o⟩, ⟨zab O5.o⟩⟩
     case round =>
      clear H';try clear c2
      try clear iG
      try clear pH
      try clear p2
      try clear c3
      try clear c6
      try clear c7
      try clear c8
      try clear c9
      try clear vG
      try clear X9
      try clear nK
      try clear c28
      try clear nH
      try clear vH
      try clear XI
      try clear FI
      try clear tH
      try clear FJ
      try clear UC
      try clear zC
      try clear AC
      try clear WB
      try clear cC
      try clear xG
      try clear oG
      try clear a8
      try clear i8
      try clear X7
      try clear N8
      try clear Q8
      try clear L8
      try clear kC
      try clear dC
      try clear YB
      try clear iC
      try clear wG
      try clear pG
      try clear Q7
      try clear V7
      try clear f8
      try clear G8
      try clear I8
      try clear K8
      try clear p2
      obtain ⟨I4, rfl, HA, p7, MJ, GJ, BE, SB, J2, HB⟩ := hrel
      cases gk with
      | zero => exact absurd HA.o (by simp [qaf.l0])
      | succ k2 =>
       have H := HA.o;clear HA;simp only [qaf.l0] at H
       by_cases c40 : I4 < 50
       ·rw [if_pos c40] at H;have RO : decide (I4 < 50) = true := decide_eq_true c40;clear c40;have H' := z_ H;clear H
        go_wp2
        go_loopg [13, 14] k2 (fun kq v13 v14 w' => ∃ (TJ : Bool) (y8 : Int), v13 = .bool TJ ∧ v14 = .int .i64 y8 ∧ Aside0 (qaf.l1 kq n5 n8 o9 I4 TJ y8 = some r) ∧ Aside0 (kq ≤ k2) ∧ Aside0 (Kd.R (Kd.int .i64) 3 w' w.heap.size (fun k_ => some k_ ≠ (gG : Value).ownBlock ∧ some k_ ≠ (FC : Value).ownBlock) LC n5) ∧ Aside0 (Kd.R (Kd.int .i64) 3 w' w.heap.size (fun k_ => some k_ ≠ (LC : Value).ownBlock ∧ some k_ ≠ (FC : Value).ownBlock) gG n8) ∧ Aside0 (Kd.R (Kd.int .i64) 3 w' w.heap.size (fun k_ => some k_ ≠ (LC : Value).ownBlock ∧ some k_ ≠ (gG : Value).ownBlock) FC o9) ∧ Aside0 (Kd.S k75 75 w' w.heap.size (fun k_ => some k_ ≠ (LC : Value).ownBlock ∧ some k_ ≠ (gG : Value).ownBlock ∧ some k_ ≠ (FC : Value).ownBlock) (.slice o5 f6.length k5) f6) ∧ Aside0 (w'.heap[X5]? = some (.cells #[(.slice o5 f6.length k5), .int .i64 r7, .int .i64 H7] 27 (0, 0))) ∧ Aside0 (Below w.heap.size w w'))
        case atStart => exact ⟨(false), (0), zbs, zbs, H', ⟨Nat.le_refl _⟩, ⟨zaC⟩, ⟨zaD⟩, ⟨zax⟩, ⟨zau⟩, ⟨by (with_reducible repeat (first | refine qaj ?_ _ | refine qai ?_ | refine qah ?_ _)); exact J2.o⟩, ⟨zab O5.o⟩⟩
        case round =>
         clear H';try clear c2
         try clear iG
         try clear pH
         try clear p2
         try clear c3
         try clear c4
         try clear c6
         try clear c7
         try clear c8
         try clear c9
         try clear vG
         try clear X9
         try clear nK
         try clear c28
         try clear nH
         try clear vH
         try clear XI
         try clear FI
         try clear tH
         try clear FJ
         try clear UC
         try clear c40
         try clear RO
         try clear zC
         try clear AC
         try clear WB
         try clear cC
         try clear xG
         try clear oG
         try clear a8
         try clear i8
         try clear X7
         try clear N8
         try clear Q8
         try clear L8
         try clear kC
         try clear dC
         try clear YB
         try clear iC
         try clear wG
         try clear pG
         try clear Q7
         try clear V7
         try clear f8
         try clear G8
         try clear I8
         try clear K8
         try clear p2
         obtain ⟨TJ, y8, rfl, rfl, HA, oB, MJ, GJ, BE, SB, J2, HB⟩ := hrel
         cases gk with
         | zero => exact absurd HA.o (by simp [qaf.l1])
         | succ k3 =>
          have H := HA.o;clear HA;simp only [qaf.l1] at H
          by_cases xI : y8 < (n8.length : Int)
          ·rw [if_pos xI] at H;have gU : decide (y8 < (n8.length : Int)) = true := decide_eq_true xI;clear xI
           by_cases SM : TJ = true
           ·subst SM;have H1 : (qaf.l1 k3 n5 n8 o9 I4 true (wrap64 (y8 + 1))) = some r := zbE;clear H;have H := H1;clear H1;have H' := z_ H;clear H;obtain ⟨Ao43, co43, se⟩ := Kd.qbi GJ.o;subst se
            go_wp2
            go_roundg k3
            case measure => have := JS.o; have := p7.o; have := oB.o; omega
            case rel => exact ⟨(true), (wrap64 (y8 + 1)), zbs, zbs, H', ⟨by have := JS.o; have := p7.o; have := oB.o; omega⟩, ⟨zaC⟩, ⟨zaD⟩, ⟨zax⟩, ⟨zau⟩, ⟨by (with_reducible repeat (first | refine qaj ?_ _ | refine qai ?_ | refine qah ?_ _)); exact J2.o⟩, ⟨zab O5.o⟩⟩
           ·replace SM := Bool.eq_false_iff.mpr SM;subst SM;have H1 : (if 0 ≤ y8 then (qaf.l1 k3 n5 n8 o9 I4 ((rd n8 y8) == I4) (wrap64 (y8 + 1))) else (none)) = some r := zaK;clear H;have H := H1;clear H1
            by_cases TX : 0 ≤ y8
            ·rw [if_pos TX] at H;have Oa : decide (0 ≤ y8) = true := decide_eq_true TX;clear TX;have H' := z_ H;clear H;obtain ⟨Ao45, co45, Uf⟩ := Kd.qbi GJ.o;subst Uf;have uS : 0 ≤ (y8 : Int) := of_decide_eq_true zaN;have ZR : y8 < (n8.length : Int) := of_decide_eq_true zaN;obtain ⟨ad523, Jf, DQ⟩ := Kd.qbN (Kd.qaU GJ.o).2.2 y8 uS ZR
             cases Jf
             replace uS := eq_true uS;replace ZR := eq_true ZR
             go_wp2
             go_roundg k3
             case measure => have := JS.o; have := p7.o; have := oB.o; omega
             case rel => exact ⟨(((rd n8 y8) == I4)), (wrap64 (y8 + 1)), zbs, zbs, H', ⟨by have := JS.o; have := p7.o; have := oB.o; omega⟩, ⟨zaC⟩, ⟨zaD⟩, ⟨zax⟩, ⟨zau⟩, ⟨by (with_reducible repeat (first | refine qaj ?_ _ | refine qai ?_ | refine qah ?_ _)); exact J2.o⟩, ⟨zab O5.o⟩⟩
            ·rw [if_neg TX] at H;exact absurd H zbW
          ·rw [if_neg xI] at H;have gU : decide (y8 < (n8.length : Int)) = false := decide_eq_false xI;clear xI;have H' := z_ H;clear H;obtain ⟨RR, oS, Kf⟩ := Kd.qbi GJ.o;subst Kf
           go_wp2
           go_loopg [13, 15] k3 (fun kq v13 v15 w' => ∃ (fB : Bool) (p8 : Int), v13 = .bool fB ∧ v15 = .int .i64 p8 ∧ Aside0 (qaf.l2 kq n5 n8 o9 I4 fB p8 = some r) ∧ Aside0 (kq ≤ k3) ∧ Aside0 (Kd.R (Kd.int .i64) 3 w' w.heap.size (fun k_ => some k_ ≠ ((.slice RR n8.length oS) : Value).ownBlock ∧ some k_ ≠ (FC : Value).ownBlock) LC n5) ∧ Aside0 (Kd.R (Kd.int .i64) 3 w' w.heap.size (fun k_ => some k_ ≠ (LC : Value).ownBlock ∧ some k_ ≠ (FC : Value).ownBlock) (.slice RR n8.length oS) n8) ∧ Aside0 (Kd.R (Kd.int .i64) 3 w' w.heap.size (fun k_ => some k_ ≠ (LC : Value).ownBlock ∧ some k_ ≠ ((.slice RR n8.length oS) : Value).ownBlock) FC o9) ∧ Aside0 (Kd.S k75 75 w' w.heap.size (fun k_ => some k_ ≠ (LC : Value).ownBlock ∧ some k_ ≠ ((.slice RR n8.length oS) : Value).ownBlock ∧ some k_ ≠ (FC : Value).ownBlock) (.slice o5 f6.length k5) f6) ∧ Aside0 (w'.heap[X5]? = some (.cells #[(.slice o5 f6.length k5), .int .i64 r7, .int .i64 H7] 27 (0, 0))) ∧ Aside0 (Below w.heap.size w w'))
           case atStart => exact ⟨(TJ), (0), zbs, zbs, H', ⟨Nat.le_refl _⟩, ⟨zaC⟩, ⟨zaD⟩, ⟨zax⟩, ⟨zau⟩, ⟨by (with_reducible repeat (first | refine qaj ?_ _ | refine qai ?_ | refine qah ?_ _)); exact J2.o⟩, ⟨zab O5.o⟩⟩
           case round =>
            clear H';try clear c2
            try clear iG
            try clear pH
            try clear p2
            try clear c3
            try clear c4
            try clear p5
            try clear q5
            try clear hx5
            try clear c6
            try clear p6
            try clear c7
            try clear c8
            try clear c9
            try clear vG
            try clear X9
            try clear nK
            try clear c28
            try clear nH
            try clear vH
            try clear XI
            try clear FI
            try clear tH
            try clear FJ
            try clear UC
            try clear c40
            try clear RO
            try clear xI
            try clear gU
            try clear SM
            try clear TX
            try clear Oa
            try clear zC
            try clear AC
            try clear WB
            try clear cC
            try clear xG
            try clear oG
            try clear a8
            try clear i8
            try clear X7
            try clear N8
            try clear Q8
            try clear L8
            try clear kC
            try clear dC
            try clear YB
            try clear iC
            try clear wG
            try clear pG
            try clear Q7
            try clear V7
            try clear f8
            try clear G8
            try clear I8
            try clear K8
            try clear DQ
            try clear p2
            try clear uS
            try clear ZR
            obtain ⟨fB, p8, rfl, rfl, HA, lH, MJ, GJ, BE, SB, J2, HB⟩ := hrel
            cases gk with
            | zero => exact absurd HA.o (by simp [qaf.l2])
            | succ k4 =>
             have H := HA.o;clear HA;simp only [qaf.l2] at H
             by_cases EI : p8 < (o9.length : Int)
             ·rw [if_pos EI] at H;have mN : decide (p8 < (o9.length : Int)) = true := decide_eq_true EI;clear EI
              by_cases OR : fB = true
              ·subst OR;have H1 : (qaf.l2 k4 n5 n8 o9 I4 true (wrap64 (p8 + 1))) = some r := zbE;clear H;have H := H1;clear H1;have H' := z_ H;clear H;obtain ⟨Ao49, co49, Ag⟩ := Kd.qbi BE.o;subst Ag
               go_wp2
               go_roundg k4
               case measure => have := JS.o; have := p7.o; have := oB.o; have := lH.o; omega
               case rel => exact ⟨(true), (wrap64 (p8 + 1)), zbs, zbs, H', ⟨zaG⟩, ⟨zaC⟩, ⟨zaD⟩, ⟨zax⟩, ⟨zau⟩, ⟨by (with_reducible repeat (first | refine qaj ?_ _ | refine qai ?_ | refine qah ?_ _)); exact J2.o⟩, ⟨zab O5.o⟩⟩
              ·replace OR := Bool.eq_false_iff.mpr OR;subst OR;have H1 : (if 0 ≤ p8 then (qaf.l2 k4 n5 n8 o9 I4 ((rd o9 p8) == I4) (wrap64 (p8 + 1))) else (none)) = some r := zaK;clear H;have H := H1;clear H1
               by_cases dR : 0 ≤ p8
               ·rw [if_pos dR] at H;have ia : decide (0 ≤ p8) = true := decide_eq_true dR;clear dR;have H' := z_ H;clear H;obtain ⟨Ao51, co51, Xe⟩ := Kd.qbi BE.o;subst Xe;have OW : 0 ≤ (p8 : Int) := of_decide_eq_true zaN;have NU : p8 < (o9.length : Int) := of_decide_eq_true zaN;obtain ⟨ad524, Re, Ob⟩ := Kd.qbN (Kd.qaU BE.o).2.2 p8 OW NU
                cases Re
                replace OW := eq_true OW;replace NU := eq_true NU
                go_wp2
                go_roundg k4
                case measure => have := JS.o; have := p7.o; have := oB.o; have := lH.o; omega
                case rel => exact ⟨(((rd o9 p8) == I4)), (wrap64 (p8 + 1)), zbs, zbs, H', ⟨zaG⟩, ⟨zaC⟩, ⟨zaD⟩, ⟨zax⟩, ⟨zau⟩, ⟨by (with_reducible repeat (first | refine qaj ?_ _ | refine qai ?_ | refine qah ?_ _)); exact J2.o⟩, ⟨zab O5.o⟩⟩
               ·rw [if_neg dR] at H;exact absurd H zbW
             ·rw [if_neg EI] at H;have mN : decide (p8 < (o9.length : Int)) = false := decide_eq_false EI;clear EI
              by_cases AM : 0 ≤ I4
              ·rw [if_pos AM] at H;have uX : decide (0 ≤ I4) = true := decide_eq_true AM;clear AM
               by_cases c53 : I4 < (n5.length : Int)
               ·rw [if_pos c53] at H;have lU : decide (I4 < (n5.length : Int)) = true := decide_eq_true c53;clear c53
                by_cases xK : (fB != (decide ((rd n5 I4) > 0))) = true
                ·rw [if_pos xK] at H;have SY : (fB != (decide ((rd n5 I4) > 0))) = true := xK
                 (try (have za : decide (fB = (decide ((rd n5 I4) > 0))) = false := by simpa using xK))
                 (try (have Na : (fB == (decide ((rd n5 I4) > 0))) = false := by simpa using xK))
                 (try (have c54b3 : ¬ (fB = (decide ((rd n5 I4) > 0))) := by simpa using xK))
                 clear xK;obtain rfl := Option.some.inj H;obtain ⟨Ao55, co55, Ee⟩ := Kd.qbi BE.o;subst Ee;obtain ⟨Ao56, co56, Eh⟩ := Kd.qbi MJ.o;subst Eh;have eL : 0 ≤ (I4 : Int) := of_decide_eq_true zaN;have RK : I4 < (n5.length : Int) := of_decide_eq_true zaN;obtain ⟨Wa, eV, KQ⟩ := Kd.qbN (Kd.qaU MJ.o).2.2 I4 eL RK
                 cases eV
                 replace eL := eq_true eL;replace RK := eq_true RK
                 go_wp2
                 go_ret
                 exact ⟨zaF, zab O5.o⟩
                ·rw [if_neg xK] at H;have SY : (fB != (decide ((rd n5 I4) > 0))) = false := by simpa using xK
                 (try (have za : decide (fB = (decide ((rd n5 I4) > 0))) = true := by simpa using xK))
                 (try (have Na : (fB == (decide ((rd n5 I4) > 0))) = true := by simpa using xK))
                 clear xK;have H' := z_ H;clear H;obtain ⟨Ao57, co57, Fg⟩ := Kd.qbi BE.o;subst Fg;obtain ⟨Ao58, co58, rh⟩ := Kd.qbi MJ.o;subst rh;have eL : 0 ≤ (I4 : Int) := of_decide_eq_true zaN;have RK : I4 < (n5.length : Int) := of_decide_eq_true zaN;obtain ⟨Wa, eV, KQ⟩ := Kd.qbN (Kd.qaU MJ.o).2.2 I4 eL RK
                 cases eV
                 replace eL := eq_true eL;replace RK := eq_true RK
                 go_wp2
                 go_roundg k4
                 case measure => have := JS.o; have := p7.o; have := oB.o; have := lH.o; omega
                 case rel => exact ⟨(wrap64 (I4 + 1)), zbs, H', ⟨zaG⟩, ⟨zaC⟩, ⟨zaD⟩, ⟨zax⟩, ⟨zau⟩, ⟨by (with_reducible repeat (first | refine qaj ?_ _ | refine qai ?_ | refine qah ?_ _)); exact J2.o⟩, ⟨zab O5.o⟩⟩
               ·rw [if_neg c53] at H;exact absurd H zbW
              ·rw [if_neg AM] at H;exact absurd H zbW
       ·rw [if_neg c40] at H;have RO : decide (I4 < 50) = false := decide_eq_false c40;clear c40;obtain rfl := Option.some.inj H
        go_wp2
        go_ret
        exact ⟨zaF, zab O5.o⟩
end Go.Proofs.Ytcdokcpiahbejaa.X
namespace Go.Proofs.Ytcdokcpiahbejaa.X
open Go.RowKit Go.Proofs.YtcdokcpiahbejaaW.PrintWords Go.Proofs.YtcdokcpiahbejaaW.PrintLast Go.Proofs.YtcdokcpiahbejaaW.PrintMore
attribute [local go_sem] qax qay qaz qat qau qaJ qaK qam qan qav qaw
set_option linter.unusedVariables false
set_option linter.unusedSimpArgs false
theorem opens5 : Opens Try.prog 5 (Kd.int .u8) (fun x => (Lit.int .u8 x).wf = true) := Opens.int_ Try.underlying5 (by kernel_rfl)
def wfL5 (xs : List Int) : Prop := xs.length ≤ maxLen ∧ ∀ x ∈ xs, (Lit.int .u8 x).wf = true
theorem opens22 : Opens Try.prog 22 (Kd.slice 5 (Kd.int .u8)) wfL5 := Opens.slice_ Try.underlying22 (by kernel_rfl) opens5
def qaf.Pure : Prop := ∀ (l0 : List Int), (wfL5 l0) → ∃ k, qaf.f k l0 = some true
theorem byte_is {code : List Int} {n seed : Int} (h : qcn code n seed) (hn : n < 1000000000000) : ∃ b sd, qaZ.f code n seed = some (b, n + 1, sd) ∧ 0 ≤ b ∧ b < 256 ∧ qcn code (n + 1) sd := by
 obtain ⟨hc, h0, h1, s0, s1⟩ := h;unfold qaZ.f;rw [if_pos ⟨hc, h0, h1, s0, s1⟩];unfold byteF
 by_cases a : n + 1 ≤ (code.length : Int)
 ·rw [if_pos a];have hb : 0 ≤ rd code n ∧ rd code n < 256 := by
   have e : rd code n = code[n.toNat]'zbV := by unfold rd; simp [List.getD_eq_getElem?_getD, show n.toNat < code.length from zbV]
   rw [e];exact hc _ (List.getElem_mem _)
  have e1 : Int.tmod (seed * 31 + rd code n + 7) 2147483648 = (seed * 31 + rd code n + 7) % 2147483648 := Int.tmod_eq_emod_of_nonneg zbV;exact ⟨_, _, rfl, hb.1, hb.2, hc, zbV, zbV, by rw [e1]; omega, by rw [e1]; omega⟩
 ·rw [if_neg a]
  by_cases b : 3000 < n + 1
  ·rw [if_pos b];exact ⟨_, _, rfl, zbV, zbV, hc, zbV, zbV, s0, s1⟩
  ·rw [if_neg b];have e1 : Int.tmod (seed * 1103515245 + 12345) 2147483648 = (seed * 1103515245 + 12345) % 2147483648 := Int.tmod_eq_emod_of_nonneg zbV;have e2 : Int.tdiv (Int.tmod (seed * 1103515245 + 12345) 2147483648) 65536 = (Int.tmod (seed * 1103515245 + 12345) 2147483648) / 65536 := Int.tdiv_eq_ediv_of_nonneg (by rw [e1]; omega);have e3 : Int.tmod (Int.tdiv (Int.tmod (seed * 1103515245 + 12345) 2147483648) 65536) 256 = (seed * 1103515245 + 12345) % 2147483648 / 65536 % 256 := by rw [e2, e1]; exact Int.tmod_eq_emod_of_nonneg zbV
   exact ⟨_, _, rfl, by rw [e3]; omega, by rw [e3]; omega, hc, zbV, zbV, by rw [e1]; omega, by rw [e1]; omega⟩
theorem qh8 {code : List Int} {n seed : Int} (h : qcn code n seed) (hn : n < 1000000000000) (m : Int) (hm : m ≤ 256) : ∃ r n' sd, qbp.f code n seed m = some (r, n', sd) ∧ 0 ≤ r ∧ (r = 0 ∨ r < m) ∧ n ≤ n' ∧ n' ≤ n + 1 ∧ qcn code n' sd := by
 unfold qbp.f
 by_cases a : m ≤ 1
 ·rw [if_pos a];exact ⟨_, _, _, rfl, zbV, .inl rfl, zbV, zbV, h⟩
 ·rw [if_neg a, if_pos zbV];obtain ⟨b, sd, e, b0, b1, hf⟩ := byte_is h hn;rw [e, Option.bind_some, if_neg zbV];have e1 : Int.tmod b m = b % m := Int.tmod_eq_emod_of_nonneg zbV;exact ⟨Int.tmod b m, n + 1, sd, rfl, by rw [e1]; exact Int.emod_nonneg _ zbV, .inr (by rw [e1]; exact Int.emod_lt_of_pos _ zbV), zbV, zbV, hf⟩
theorem qjZ {code : List Int} (h : ∀ c, c ∈ code → 0 ≤ c ∧ c < 256) : qct.f code = some (code, 0, (code.length : Int) % 1000) ∧ qcn code 0 ((code.length : Int) % 1000) := ⟨rfl, h, zbV, zbV, zbV, zbV⟩
theorem qhG {code : List Int} {n seed : Int} (h : qcn code n seed) (hn : n < 1000000000000) (m : Int) (hm : m ≤ 256) : ∃ b n' sd, qbn.f code n seed m = some (b, n', sd) ∧ n ≤ n' ∧ n' ≤ n + 1 ∧ qcn code n' sd := by
 unfold qbn.f;obtain ⟨r, n', sd, e, _, _, h1, h2, hf⟩ := qh8 h hn m hm;rw [e, Option.bind_some];exact ⟨_, _, _, rfl, h1, h2, hf⟩
theorem qj0 {code : List Int} {n seed : Int} (h : qcn code n seed) (hn : n < 1000000000000) (l : List ByteArray) (hl : 0 < l.length ∧ l.length ≤ 256) : ∃ t n' sd, qbl.f code n seed l = some (t, n', sd) ∧ t ∈ l ∧ n ≤ n' ∧ n' ≤ n + 1 ∧ qcn code n' sd := by
 unfold qbl.f;obtain ⟨r, n', sd, e, r0, r1, h1, h2, hf⟩ := qh8 h hn (l.length : Int) zbV;rw [if_neg zbV, e, Option.bind_some, if_pos r0, if_pos (show r < (l.length : Int) from zbV)];refine ⟨_, _, _, rfl, ?_, h1, h2, hf⟩;have e2 : rdOf ByteArray.empty l r = l[r.toNat]'zbV := by unfold rdOf; simp [List.getD_eq_getElem?_getD, show r.toNat < l.length from zbV]
 show rdOf ByteArray.empty l r ∈ l
 rw [e2];exact List.getElem_mem _
theorem qj1 {ns : List S75} {s : List Bool} (hg : GoodS ns s) (i : Nat) (hon : rdOf false s (i : Int) = true) (b : Int) (hb : b ≤ 1000) (sl : Int) (R : List Int) : ∀ (d q : Nat) (x : List Int), q + d = (qaH ns (i : Int)).f3.length → Bnd x (b - (d : Int)) → Ev (fun k => qaM.l1 k (incL x ((qaH ns (i : Int)).f3.drop q)) s sl (wrap64 ((i : Int) + 1)) ns) R → Ev (fun k => qaM.l2 k x s sl (i : Int) (qaH ns (i : Int)).f3 ((qaH ns (i : Int)).f3.length : Int) (q : Int) ns) R := by
 obtain ⟨h4, hin⟩ := qd9 hg hon;intro d
 induction d with
 | zero =>
  intro q x hq hx hR;rw [show q = (qaH ns (i : Int)).f3.length from zbV, List.drop_length] at hR;refine Ev.succ ?_;simp only [qaM.l2];exact Ev.neg zbV hR
 | succ d ih =>
  intro q x hq hx hR;have hlt : q < (qaH ns (i : Int)).f3.length := zbV;rw [List.drop_eq_getElem_cons hlt, qhz] at hR;have hj := hin _ (List.getElem_mem hlt);have hxl := hx.len;have hbb := hx.rng (qaH ns (i : Int)).f3[q].toNat zbV;rw [show (((qaH ns (i : Int)).f3[q].toNat : Nat) : Int) = (qaH ns (i : Int)).f3[q] from zbV] at hbb;have hn := ih (q + 1) _ zbV zat hR;refine Ev.succ ?_;simp only [qaM.l2, qfQ hlt, wup q zbV, winc hbb.1 zbV];exact Ev.pos zbV (Ev.pos zbV (Ev.pos zbV (Ev.pos hj.1 (Ev.pos zbV hn))))
theorem qfS {ns : List S75} {s : List Bool} (hg : GoodS ns s) (hsl : s.length = 50) : ∀ (d i : Nat) (x : List Int), i + d = 50 → Bnd x (100 + 4 * (i : Int)) → Ev (fun k => qaM.l1 k x s (s.length : Int) (i : Int) ns) (incL x (qbL ns s i d)) := by
 intro d
 induction d with
 | zero =>
  intro i x hi hx;refine Ev.succ ?_;simp only [qaM.l1];exact Ev.neg zbV (Ev.is rfl)
 | succ d ih =>
  intro i x hi hx;have hlt : i < 50 := zbV;refine Ev.succ ?_;simp only [qaM.l1];refine Ev.pos zbV (Ev.pos zbV (Ev.pos zbV ?_))
  cases hon : rdOf false s (i : Int) with
  | true =>
   obtain ⟨h4, hin⟩ := qd9 hg hon;have hil := (hg i hon).1;have hb := hx.incs hin;have hn := ih (i + 1) (incL x (qaH ns (i : Int)).f3) zbV ⟨hb.len, fun q hq => by have := hb.rng q hq; omega⟩;rw [← wup i zbV] at hn;have h := qj1 hg i hon 1000 zbV (s.length : Int) _ (qaH ns (i : Int)).f3.length 0 x zbV ⟨hx.len, fun q hq => zbJ⟩ (by rw [List.drop_zero]; exact hn);refine Ev.same (Ev.pos rfl (Ev.pos zbV h)) ?_;rw [qbL, if_pos hon, qiA]
  | false =>
   have hn := ih (i + 1) x zbV ⟨hx.len, fun q hq => zbJ⟩;rw [← wup i zbV] at hn;refine Ev.same (Ev.neg zbW hn) ?_;rw [qbL, if_neg (by rw [hon]; simp), List.nil_append]
theorem qfT {ns : List S75} (hs : qcv ns = true) {rs : List Int} (hl : rs.length ≤ 20) (hok : ∀ r, r ∈ rs → (walkR ns r).2.2 = true) (hr : ∀ r, r ∈ rs → r < 50) : ∀ (d i : Nat) (x : List Int), i + d = rs.length → Bnd x (i : Int) → Ev (fun k => qaM.l0 k rs x rs (rs.length : Int) (i : Int) ns) (incL x (qcU (rs.drop i) ++ qbL ns (qcf ns rs) 0 50)) := by
 intro d
 induction d with
 | zero =>
  intro i x hi hx;have hp : qbM.f ns rs = some (qcf ns rs) := by
   unfold qbM.f;rw [if_pos ⟨hs, zbV, hok⟩]
  refine Ev.succ ?_;simp only [qaM.l0];have h := qfS (qdT ns rs) (qdI ns rs) 50 0 x zbV ⟨hx.len, fun q hq => zbJ⟩;refine Ev.same (Ev.neg zbV (Ev.bindk hp h)) ?_;rw [show i = rs.length from zbV, List.drop_length];rfl
 | succ d ih =>
  intro i x hi hx;have hlt : i < rs.length := zbV;have h5 := hr rs[i] (List.getElem_mem _);have hxl := hx.len;refine Ev.succ ?_;simp only [qaM.l0, qfQ hlt, wup i zbV];refine Ev.pos zbV (Ev.pos zbV (Ev.pos zbV ?_))
  by_cases h0 : 0 ≤ rs[i]
  ·have hb := hx.rng rs[i].toNat zbV;rw [show ((rs[i].toNat : Nat) : Int) = rs[i] from zbV] at hb;have hn := ih (i + 1) (x.set rs[i].toNat (rd x rs[i] + 1)) zbV (by have := hx.inc h0 h5; rw [show ((i : Int) + 1) = ((i + 1 : Nat) : Int) from zbV] at this; exact this);refine Ev.pos h0 (Ev.pos h0 (Ev.pos zbV ?_));rw [winc hb.1 zbV];refine Ev.same hn ?_;rw [List.drop_eq_getElem_cons hlt];unfold qcU;rw [List.filter_cons, if_pos (decide_eq_true h0)];rfl
  ·have hn := ih (i + 1) x zbV ⟨hxl, fun q hq => zbJ⟩;refine Ev.neg zbV (Ev.same hn ?_);rw [List.drop_eq_getElem_cons hlt];unfold qcU;rw [List.filter_cons, if_neg zbR]
open Classical in
noncomputable def countR (ns : List S75) (rs : List Int) : List Int × Int := if 4096 < rs.length then ([], 2) else if 20 < rs.length then ([], 6) else if ∀ r, r ∈ rs → (walkR ns r).2.2 = true then (incL zeroL (qbL ns (qcf ns rs) 0 50 ++ qcU rs), 0) else ([], 1)
theorem root_lt {ns : List S75} {r : Int} (h : (walkR ns r).2.2 = true) : r < 50 := by
 cases hb : inB r (-1) 49 with
 | false => rw [qhi hb] at h; cases h
 | true => unfold inB at hb; simp at hb; omega
theorem qiD : Bnd zeroL 0 := by
 refine ⟨List.length_replicate .., fun i hi => ?_⟩;have : rd zeroL (i : Int) = 0 := by
  unfold rd zeroL;rw [Int.toNat_natCast, List.getD_eq_getElem?_getD, List.getElem?_replicate]
  split <;> rfl
 rw [this];omega
theorem qe0 {ns : List S75} (rs : List Int) (h : qcv ns = true) : Ev (fun k => qa3.f k ns rs) (countR ns rs) := by
 unfold qa3.f countR
 by_cases h1 : (rs.length : Int) > 4096
 ·exact Ev.pos h1 (Ev.is (by rw [if_pos zbV]))
 refine Ev.neg h1 ?_;rw [if_neg zbV]
 by_cases h2 : (rs.length : Int) > 20
 ·exact Ev.pos h2 (Ev.is (by rw [if_pos zbV]))
 refine Ev.neg h2 ?_;rw [if_neg zbV];have hr : Ev (fun k => qag.f k ns rs) (qeM ns rs noneW) := by
  unfold qag.f;have := qgl h rs zbV rs.length 0 noneW zbV (List.length_replicate ..);exact Ev.pos zbV this
 refine Ev.bind hr ?_
 by_cases hok : ∀ r, r ∈ rs → (walkR ns r).2.2 = true
 ·rw [if_pos hok, qhA noneW hok];refine Ev.pos rfl (Ev.bind (a := incL zeroL (qbL ns (qcf ns rs) 0 50 ++ qcU rs)) ?_ (Ev.is rfl));unfold qao.f;exact Ev.pos zbV (qf8 (qdT ns rs) (qdI ns rs) zbV (fun r hr => root_lt (hok r hr)) 50 0 zeroL zbV qiD)
 ·rw [if_neg hok];exact Ev.neg (by rw [qjT noneW hok]; simp) (Ev.is rfl)
theorem qfU {ns : List S75} (rs : List Int) (h : qcv ns = true) : qco.f ns rs = some (!(rs.any fun r => !(walkR ns r).2.2)) := if_pos h
theorem qhH {ns : List S75} {rs : List Int} (h : qcv ns = true) (hl : rs.length ≤ 20) (hok : ∀ r, r ∈ rs → (walkR ns r).2.2 = true) : Ev (fun k => qaM.f k ns rs) (incL zeroL (qbL ns (qcf ns rs) 0 50 ++ qcU rs)) := by
 unfold qaM.f;have h2 := qfT h hl hok (fun r hr => root_lt (hok r hr)) rs.length 0 zeroL zbV qiD;refine Ev.same (Ev.pos zbV h2) ?_;rw [List.drop_zero];exact qjR (qiB (fun r hr => root_lt (hok r hr))).1 (qfP (qdT ns rs) 50 0).1
theorem qe1 {ns : List S75} (rs : List Int) (h : qcv ns = true) : Ev (fun k => qa8.f k ns rs) (countR ns rs) := by
 unfold qa8.f countR
 by_cases h1 : (rs.length : Int) > 4096
 ·exact Ev.pos h1 (Ev.is (by rw [if_pos zbV]))
 refine Ev.neg h1 ?_;rw [if_neg zbV]
 by_cases h2 : (rs.length : Int) > 20
 ·exact Ev.pos h2 (Ev.is (by rw [if_pos zbV]))
 refine Ev.neg h2 ?_;rw [if_neg zbV];refine Ev.bindk (qfU rs h) ?_
 by_cases hok : ∀ r, r ∈ rs → (walkR ns r).2.2 = true
 ·rw [if_pos hok];have e : (!(rs.any fun r => !(walkR ns r).2.2)) = true := by
   rw [Bool.not_eq_true', List.any_eq_false];intro r hr;rw [hok r hr]
   decide
  exact Ev.pos e (Ev.bind (qhH h zbV hok) (Ev.is rfl))
 ·rw [if_neg hok];have e : ¬ (!(rs.any fun r => !(walkR ns r).2.2)) = true := by
   intro hh;rw [Bool.not_eq_true', List.any_eq_false] at hh;refine hok fun r hr => ?_
   have := hh r hr
   cases hb : (walkR ns r).2.2 with
   | true => rfl
   | false => rw [hb] at this; exact absurd rfl this
  exact Ev.neg e (Ev.is rfl)
theorem qgP (l : List Int) (hl : l.length ≤ 1000000) : ∀ d i : Nat, i + d = l.length → Ev (fun k => qaF.l0 k l l (i : Int)) true := by
 intro d
 induction d with
 | zero =>
  intro i hi;refine Ev.succ ?_;simp only [qaF.l0];exact Ev.neg zbV (Ev.is rfl)
 | succ d ih =>
  intro i hi;refine Ev.succ ?_;simp only [qaF.l0];refine Ev.pos zbV (Ev.pos zbV (Ev.pos zbV (Ev.pos trivial ?_)));rw [show wrap64 ((i : Int) + 1) = ((i + 1 : Nat) : Int) from zbO];exact ih (i + 1) zbV
theorem qh9 {ns : List S75} (root : Int) (h : qcv ns = true) : qcc.f ns root = some (walkR ns root).2.2 := if_pos h
def qcC (s : List Bool) : Nat → Nat → List Int
 | _, 0 => []
 | i, d + 1 => if rdOf false s (i : Int) = true then (i : Int) :: qcC s (i + 1) d else qcC s (i + 1) d
theorem qgm (s : List Bool) : ∀ d i, (qcC s i d).length ≤ d := by
 intro d
 induction d with
 | zero => intro i; exact Nat.le_refl _
 | succ d ih =>
  intro i;have := ih (i + 1);unfold qcC
  split
  ·rw [List.length_cons]; omega
  ·omega
theorem qj2 (s : List Bool) : ∀ d i, i + d = 50 → qcC (orW noneW s) i d = qcC s i d := by
 intro d
 induction d with
 | zero => intro i _; rfl
 | succ d ih =>
  intro i h;have e0 : rdOf false noneW (i : Int) = false := by
   rw [qeg (l := noneW) (by show i < (List.replicate 50 false).length; rw [List.length_replicate]; omega)];exact List.getElem_replicate ..
  have e : rdOf false (orW noneW s) (i : Int) = rdOf false s (i : Int) := by
   unfold orW;rw [qdv noneW s 50 i zbV, e0, decide_eq_true (show i < 50 from zbV), Bool.true_and, Bool.false_or]
  rw [qcC, qcC, e, ih (i + 1) zbV]
def qfV (ns : List S75) (root : Int) : List Int × Int := if (walkR ns root).2.2 = true then (qcC (walkR ns root).2.1 0 50, 0) else ([], 1)
theorem wrap_up (i : Nat) (h : i < 1000000) : wrap64 ((i : Int) + 1) = ((i + 1 : Nat) : Int) := zbO
theorem qfW (s : List Bool) (hs : s.length = 50) : ∀ d i (x : List Int), i + d = 50 → x.length ≤ i → Ev (fun k => qal.l0 k x s (s.length : Int) (i : Int)) (x ++ qcC s i d, 0) := by
 intro d
 induction d with
 | zero =>
  intro i x h hx;refine Ev.succ ?_;simp only [qal.l0];exact Ev.neg zbV (Ev.is (by simp [qcC]))
 | succ d ih =>
  intro i x h hx;refine Ev.succ ?_;simp only [qal.l0, wrap_up i zbV];refine Ev.pos zbV (Ev.pos zbV (Ev.pos zbV ?_))
  cases hb : rdOf false s (i : Int) with
  | true =>
   refine Ev.pos rfl (Ev.pos zbV (Ev.same (ih (i + 1) (x ++ [(i : Int)]) zbV (by rw [List.length_append]; simp; omega)) ?_));rw [qcC, if_pos hb];simp
  | false =>
   refine Ev.neg zbW (Ev.same (ih (i + 1) x zbV zbV) ?_);rw [qcC, if_neg (by rw [hb]; simp)]
theorem qdJ {ns : List S75} (root : Int) (h : qcv ns = true) : Ev (fun k => qal.f k ns root) (qfV ns root) := by
 unfold qal.f;refine Ev.bindk (qh9 root h) ?_
 cases hk : (walkR ns root).2.2 with
 | false => exact Ev.neg zbW (Ev.is (by simp [qfV, hk]))
 | true =>
  have hp : qbM.f ns [root] = some (orW noneW (walkR ns root).2.1) := by
   unfold qbM.f;rw [if_pos ⟨h, zbW, fun r hr => by rw [List.mem_singleton.1 hr]; exact hk⟩];rfl
  refine Ev.pos rfl (Ev.bindk hp ?_);refine Ev.same (qfW _ (qch _ _ _) 50 0 [] zbV zbW) ?_
  show ([] ++ qcC (orW noneW (walkR ns root).2.1) 0 50, (0 : Int)) = _
  rw [qj2 _ 50 0 zbV];simp [qfV, hk]
theorem tr_top {ns : List S75} {d k : Nat} {ps : List S77} {pg : List Nat} (h : TrD ns d k ps pg) : k ∈ pg := by
 cases d with
 | zero => exact h.elim
 | succ d =>
  obtain ⟨x, _, _, _, h⟩ := h
  rcases h with ⟨_, _, rfl⟩ | ⟨_, pg', rfl, _⟩
  ·exact List.mem_singleton.2 rfl
  ·exact List.mem_cons_self
theorem qj3 {T : Nat → List S77 → List Nat → Prop} : ∀ (ms : List (ByteArray × Nat)) (ps : List S77) (pg : List Nat), PD T ms ps pg → ∀ i, i ∈ pg → ∃ m, m ∈ ms ∧ ∃ p g, T m.2 p g ∧ i ∈ g ∧ ∀ j, j ∈ g → j ∈ pg := by
 intro ms
 induction ms with
 | nil => intro ps pg h i hi; obtain ⟨_, rfl⟩ := h; cases hi
 | cons m r ih =>
  intro ps pg h i hi;obtain ⟨p1, p2, g1, g2, e1, e2, h1, h2, h3⟩ := h;subst e2
  rcases List.mem_append.1 hi with hi | hi
  ·exact ⟨m, List.mem_cons_self, p1, g1, h1, hi, fun j hj => List.mem_append_left _ hj⟩
  ·obtain ⟨m', hm, p, g, h4, h5, h6⟩ := ih p2 g2 h3 i hi;exact ⟨m', List.mem_cons_of_mem _ hm, p, g, h4, h5, fun j hj => List.mem_append_right _ (h6 j hj)⟩
theorem PD_tops {T : Nat → List S77 → List Nat → Prop} (hT : ∀ k p g, T k p g → k ∈ g) : ∀ (ms : List (ByteArray × Nat)) (ps : List S77) (pg : List Nat), PD T ms ps pg → ∀ m, m ∈ ms → m.2 ∈ pg := by
 intro ms
 induction ms with
 | nil => intro ps pg _ m hm; cases hm
 | cons a r ih =>
  intro ps pg h m hm;obtain ⟨p1, p2, g1, g2, e1, e2, h1, h2, h3⟩ := h;subst e2
  rcases List.mem_cons.1 hm with rfl | hm
  ·exact List.mem_append_left _ (hT _ _ _ h1)
  ·exact List.mem_append_right _ (ih p2 g2 h3 m hm)
theorem tr_kids {ns : List S75} : ∀ (d k : Nat) (ps : List S77) (pg : List Nat), TrD ns d k ps pg → ∀ i, i ∈ pg → ∀ x, ns[i]? = some x → ∀ j, j ∈ x.f3 → 0 ≤ j ∧ j.toNat ∈ pg := by
 intro d
 induction d with
 | zero => intro k ps pg h; exact h.elim
 | succ d ih =>
  intro k ps pg h i hi x hx j hj;obtain ⟨x0, hx0, hb, hf, h⟩ := h
  rcases h with ⟨hl, _, rfl⟩ | ⟨hl, pg', rfl, hp⟩
  ·obtain rfl := List.mem_singleton.1 hi;rw [hx0] at hx;obtain rfl := Option.some.inj hx;rw [(qc0 hb hf hl).1] at hj
   cases hj
  ·rcases List.mem_cons.1 hi with rfl | hi
   ·rw [hx0] at hx;obtain rfl := Option.some.inj hx;rw [(qcB hb hf hl).1] at hj;obtain ⟨p, hp1, rfl⟩ := List.mem_map.1 hj;exact ⟨zbV, by rw [Int.toNat_natCast]; exact List.mem_cons_of_mem _ (PD_tops (fun k p g h => tr_top h) _ _ _ hp p hp1)⟩
   ·obtain ⟨m, _, p, g, h1, h2, h3⟩ := qj3 _ _ _ hp i hi;obtain ⟨a, b⟩ := ih _ _ _ h1 i h2 x hx j hj;exact ⟨a, List.mem_cons_of_mem _ (h3 _ b)⟩
theorem tr_up {ns : List S75} : ∀ (d k : Nat) (ps : List S77) (pg : List Nat), TrD ns d k ps pg → ∀ i, i ∈ pg → i = k ∨ ∃ q, q ∈ pg ∧ ∃ x, ns[q]? = some x ∧ (i : Int) ∈ x.f3 := by
 intro d
 induction d with
 | zero => intro k ps pg h; exact h.elim
 | succ d ih =>
  intro k ps pg h i hi;obtain ⟨x0, hx0, hb, hf, h⟩ := h
  rcases h with ⟨hl, _, rfl⟩ | ⟨hl, pg', rfl, hp⟩
  ·exact .inl (List.mem_singleton.1 hi)
  ·rcases List.mem_cons.1 hi with rfl | hi
   ·exact .inl rfl
   ·obtain ⟨m, hm, p, g, h1, h2, h3⟩ := qj3 _ _ _ hp i hi
    rcases ih _ _ _ h1 i h2 with rfl | ⟨q, hq, x, hx, hj⟩
    ·exact .inr ⟨k, List.mem_cons_self, x0, hx0, by rw [(qcB hb hf hl).1]; exact List.mem_map.2 ⟨m, hm, rfl⟩⟩
    ·exact .inr ⟨q, List.mem_cons_of_mem _ (h3 _ hq), x, hx, hj⟩
theorem qhI {ns : List S75} {s : List Bool} {j : Int} : ∀ d i, j ∈ qbL ns s i d ↔ ∃ q : Nat, i ≤ q ∧ q < i + d ∧ rdOf false s (q : Int) = true ∧ j ∈ (qaH ns (q : Int)).f3 := by
 intro d
 induction d with
 | zero => intro i; unfold qbL; exact ⟨fun h => (by cases h), fun ⟨q, h1, h2, _⟩ => zbV⟩
 | succ d ih =>
  intro i;unfold qbL;rw [List.mem_append, ih (i + 1)]
  constructor
  ·rintro (h | ⟨q, h1, h2, h3, h4⟩)
   ·by_cases hi : rdOf false s (i : Int) = true
    ·rw [if_pos hi] at h; exact ⟨i, Nat.le_refl _, zbV, hi, h⟩
    ·rw [if_neg hi] at h; cases h
   ·exact ⟨q, zbV, zbV, h3, h4⟩
  ·rintro ⟨q, h1, h2, h3, h4⟩
   by_cases hq : q = i
   ·subst hq; left; rw [if_pos h3]; exact h4
   ·exact .inr ⟨q, zbV, zbV, h3, h4⟩
theorem qiZ {s : List Bool} {j : Int} : ∀ d i, j ∈ qcC s i d ↔ ∃ q : Nat, i ≤ q ∧ q < i + d ∧ rdOf false s (q : Int) = true ∧ j = (q : Int) := by
 intro d
 induction d with
 | zero => intro i; unfold qcC; exact ⟨fun h => (by cases h), fun ⟨q, h1, h2, _⟩ => zbV⟩
 | succ d ih =>
  intro i;unfold qcC
  constructor
  ·intro h
   by_cases hi : rdOf false s (i : Int) = true
   ·rw [if_pos hi] at h
    rcases List.mem_cons.1 h with h | h
    ·exact ⟨i, Nat.le_refl _, zbV, hi, h⟩
    ·obtain ⟨q, h1, h2, h3, h4⟩ := (ih (i + 1)).1 h;exact ⟨q, zbV, zbV, h3, h4⟩
   ·rw [if_neg hi] at h;obtain ⟨q, h1, h2, h3, h4⟩ := (ih (i + 1)).1 h;exact ⟨q, zbV, zbV, h3, h4⟩
  ·rintro ⟨q, h1, h2, h3, h4⟩
   by_cases hq : q = i
   ·subst hq; rw [if_pos h3]; exact h4 ▸ List.mem_cons_self
   ·have := (ih (i + 1)).2 ⟨q, zbV, zbV, h3, h4⟩
    split
    ·exact List.mem_cons_of_mem _ this
    ·exact this
theorem qeN {s : List Bool} {i : Nat} : rdOf false s (i : Int) = true ↔ qbj s i := by
 rw [qc8];exact Iff.rfl
theorem qj4 {pg : List Nat} {i : Nat} (h : i < 50) : qbj (markL noneW pg) i ↔ i ∈ pg := by
 unfold qbj;rw [List.getD_eq_getElem?_getD, qdE pg noneW i (by unfold noneW; rw [List.length_replicate]; exact h), qd6];simp
theorem qgn {h : List S75} {r : Int} (hw : (walkR h r).2.2 = true) : h.length = 50 ∧ ∃ pg : List Nat, (∀ i : Nat, i < 50 → (qbj (walkR h r).2.1 i ↔ i ∈ pg)) ∧ (∀ i, i ∈ pg → i < 50 ∧ ((i : Int) = r ∨ ∃ q, q ∈ pg ∧ ∃ x : S75, h[q]? = some x ∧ (i : Int) ∈ x.f3)) ∧ (0 ≤ r → r.toNat ∈ pg) ∧ (∀ i, i ∈ pg → ∀ x : S75, h[i]? = some x → ∀ j, j ∈ x.f3 → 0 ≤ j ∧ j.toNat ∈ pg) := by
 obtain ⟨hl, hf, hp, pg, ht, hm⟩ := qix hw;refine ⟨hl, pg, fun i hi => by rw [hm]; exact qj4 hi, ?_⟩;have hlt := qdp ht
 rcases ht with ⟨hr, _, rfl⟩ | ⟨k, hr, ht, _⟩
 ·exact ⟨fun i hi => (by cases hi), fun h0 => zbV, fun i hi => (by cases hi)⟩
 ·refine ⟨fun i hi => ⟨by have := hlt i hi; omega, ?_⟩, fun h0 => ?_, tr_kids _ _ _ _ ht⟩
  ·rcases tr_up _ _ _ _ ht i hi with rfl | h
   ·exact .inl hr.symm
   ·exact .inr h
  ·rw [hr, Int.toNat_natCast]; exact tr_top ht
theorem rdN_at {ns : List S75} {i : Nat} {x : S75} (h : ns[i]? = some x) : qaH ns (i : Int) = x := by
 have hi : i < ns.length := by
  rcases Nat.lt_or_ge i ns.length with h1 | h1
  ·exact h1
  ·rw [List.getElem?_eq_none h1] at h; cases h
 unfold qaH;rw [Int.toNat_natCast, List.getD_eq_getElem?_getD, h];rfl
theorem qi0 {h : List S75} {a b : Int} (ha : (walkR h a).2.2 = true) (hb : (walkR h b).2.2 = true) {q : Nat} (hq : q < 50) : ((q : Int) ∈ qcC (walkR h a).2.1 0 50 ∨ (q : Int) ∈ qcC (walkR h b).2.1 0 50) ↔ (q : Int) ∈ qbL h (qcf h [a, b]) 0 50 ++ qcU [a, b] := by
 obtain ⟨hl, pa, ua, upa, ta, ka⟩ := qgn ha;obtain ⟨_, pb, ub, upb, tb, kb⟩ := qgn hb;have e : ∀ i : Nat, i < 50 → (qbj (qcf h [a, b]) i ↔ i ∈ pa ∨ i ∈ pb) := fun i hi => by
  rw [qhB, qdS hi, qdS hi, ua i hi, ub i hi]
  constructor
  ·rintro ((h | h) | h)
   ·unfold qbj at h; rw [qd6] at h; cases h
   ·exact .inl h
   ·exact .inr h
  ·rintro (h | h)
   ·exact .inl (.inr h)
   ·exact .inr h
 have o : ∀ (s : List Bool) (p : List Nat), (∀ i, i < 50 → (qbj s i ↔ i ∈ p)) → ((q : Int) ∈ qcC s 0 50 ↔ q ∈ p) := fun s p hu => by
  rw [qiZ]
  constructor
  ·rintro ⟨i, _, h2, h3, h4⟩;have : q = i := zbV;subst this;exact (hu q hq).1 (qeN.1 h3)
  ·intro hp;exact ⟨q, Nat.zero_le _, zbV, qeN.2 ((hu q hq).2 hp), rfl⟩
 rw [o _ pa ua, o _ pb ub, List.mem_append, qhI];have up : ∀ (p : List Nat) (r : Int), r ∈ [a, b] → (∀ i, i ∈ p → i ∈ pa ∨ i ∈ pb) → (∀ i, i ∈ p → i < 50 ∧ ((i : Int) = r ∨ ∃ q, q ∈ p ∧ ∃ x : S75, h[q]? = some x ∧ (i : Int) ∈ x.f3)) → q ∈ p → (∃ i : Nat, 0 ≤ i ∧ i < 0 + 50 ∧ rdOf false (qcf h [a, b]) (i : Int) = true ∧ (q : Int) ∈ (qaH h (i : Int)).f3) ∨ (q : Int) ∈ qcU [a, b] := fun p r hr hin hup hqp => by
  rcases (hup q hqp).2 with h1 | ⟨i, hi, x, hx, hj⟩
  ·right
   unfold qcU;exact List.mem_filter.2 ⟨h1 ▸ hr, zbW⟩
  ·left
   have hi5 := (hup i hi).1;exact ⟨i, Nat.zero_le _, zbV, qeN.2 ((e i hi5).2 (hin i hi)), by rw [rdN_at hx]; exact hj⟩
 constructor
 ·rintro (h1 | h1)
  ·exact up pa a zbW (fun i hi => .inl hi) upa h1
  ·exact up pb b zbW (fun i hi => .inr hi) upb h1
 ·rintro (⟨i, _, hi, hu, hj⟩ | h1)
  ·have hi5 : i < 50 := zbV;have hx : h[i]? = some (h[i]'zbV) := List.getElem?_eq_getElem zbV;rw [rdN_at hx] at hj
   rcases (e i hi5).1 (qeN.1 hu) with h2 | h2
   ·have := (ka i h2 _ hx _ hj).2;rw [Int.toNat_natCast] at this;exact .inl this
   ·have := (kb i h2 _ hx _ hj).2;rw [Int.toNat_natCast] at this;exact .inr this
  ·obtain ⟨h2, _⟩ := List.mem_filter.1 h1;simp only [List.mem_cons, List.not_mem_nil, or_false] at h2
   rcases h2 with h2 | h2
   ·have := ta zbV;rw [← h2, Int.toNat_natCast] at this;exact .inl this
   ·have := tb zbV;rw [← h2, Int.toNat_natCast] at this;exact .inr this
theorem qiE {l : List Int} {i : Nat} (h : i < l.length) (x : Int) (b : Bool) : (b || (l.drop i).any (· == x)) = ((b || (l[i] == x)) || (l.drop (i + 1)).any (· == x)) := by
 rw [List.drop_eq_getElem_cons h, List.any_cons, Bool.or_assoc]
theorem refs_l2 {x4 x8 lB : List Int} {PF : Int} (hm : lB.length ≤ 60) (h0 : 0 ≤ PF) (h1 : PF < (x4.length : Int)) (hl : Ev (fun k => qaf.l0 k x4 x8 lB (wrap64 (PF + 1))) true) : ∀ (d i : Nat) (b : Bool), i + d = lB.length → (b || (lB.drop i).any (· == PF)) = decide (rd x4 PF > 0) → Ev (fun k => qaf.l2 k x4 x8 lB PF b (i : Int)) true := by
 intro d
 induction d with
 | zero =>
  intro i b hi hb;rw [List.drop_eq_nil_of_le zbV, List.any_nil, Bool.or_false] at hb;refine Ev.step (fun k => by rw [qaf.l2]) ?_;refine Ev.neg zbV (Ev.pos h0 (Ev.pos h1 (Ev.neg ?_ hl)));rw [hb];simp
 | succ d ih =>
  intro i b hi hb;rw [qiE zbV] at hb;refine Ev.step (fun k => by rw [qaf.l2]) ?_;refine Ev.pos zbV ?_
  cases b with
  | true =>
   refine Ev.pos rfl ?_;rw [wup i zbV];exact ih (i + 1) true zbV (by simpa using hb)
  | false =>
   refine Ev.neg zbT (Ev.pos zbV ?_);rw [wup i zbV, qfQ zbV];exact ih (i + 1) _ zbV (by simpa using hb)
theorem refs_l1 {x4 x8 lB : List Int} {PF : Int} (hm : x8.length ≤ 60) : ∀ (d i : Nat) (b : Bool), i + d = x8.length → Ev (fun k => qaf.l2 k x4 x8 lB PF (b || (x8.drop i).any (· == PF)) 0) true → Ev (fun k => qaf.l1 k x4 x8 lB PF b (i : Int)) true := by
 intro d
 induction d with
 | zero =>
  intro i b hi hb;rw [List.drop_eq_nil_of_le zbV, List.any_nil, Bool.or_false] at hb;refine Ev.step (fun k => by rw [qaf.l1]) ?_;exact Ev.neg zbV hb
 | succ d ih =>
  intro i b hi hb;rw [qiE zbV] at hb;refine Ev.step (fun k => by rw [qaf.l1]) ?_;refine Ev.pos zbV ?_
  cases b with
  | true =>
   refine Ev.pos rfl ?_;rw [wup i zbV];exact ih (i + 1) true zbV (by simpa using hb)
  | false =>
   refine Ev.neg zbT (Ev.pos zbV ?_);rw [wup i zbV, qfQ zbV];exact ih (i + 1) _ zbV (by simpa using hb)
theorem refs_l0 {x4 x8 lB : List Int} (h8 : x8.length ≤ 60) (h10 : lB.length ≤ 60) (h4 : x4.length = 50) (hr : ∀ q : Nat, q < 50 → (((q : Int) ∈ x8 ∨ (q : Int) ∈ lB) ↔ rd x4 (q : Int) > 0)) : ∀ d i : Nat, i + d = 50 → Ev (fun k => qaf.l0 k x4 x8 lB (i : Int)) true := by
 intro d
 induction d with
 | zero =>
  intro i hi;refine Ev.step (fun k => by rw [qaf.l0]) ?_;exact Ev.neg zbV (Ev.is rfl)
 | succ d ih =>
  intro i hi;refine Ev.step (fun k => by rw [qaf.l0]) ?_;refine Ev.pos zbV ?_;refine refs_l1 h8 x8.length 0 false zbV ?_;refine refs_l2 h10 zbV zbV ?_ lB.length 0 _ zbV ?_
  ·rw [wup i zbV];exact ih (i + 1) zbV
  ·rw [Bool.false_or, List.drop_zero, List.drop_zero, Bool.eq_iff_iff, Bool.or_eq_true, List.any_eq_true, List.any_eq_true, decide_eq_true_eq, ← hr i zbV];simp
theorem qia : ∀ (i : Nat) (code : List Int) (h : List S75) (root kept n sd : Int), qcn code n sd → n ≤ 100000 - 100 * (i : Int) → i ≤ 19 → GoodF h root kept i → ∃ h' root' kept' n' sd', forestF i code h root kept n sd = some (h', root', kept', n', sd') ∧ GoodF h' root' kept' 0 ∧ qcn code n' sd' ∧ n' ≤ 100000 := by
 intro i
 induction i with
 | zero =>
  intro code h root kept n sd hs hn hi hg;exact ⟨h, root, kept, n, sd, by unfold forestF; rw [if_pos hg], hg, hs, zbV⟩
 | succ i ih =>
  intro code h root kept n sd hs hn hi hg;obtain ⟨key, n1, LK, e1, m1, a1, b1, s1⟩ : ∃ key n1 LK, qb4.f code n sd = some (key, n1, LK) ∧ keyB key = true ∧ n ≤ n1 ∧ n1 ≤ n + 1 ∧ qcn code n1 LK := by
   obtain ⟨l, el, l1, l2, l3⟩ : ∃ l : List ByteArray, qb4.f code n sd = (qbl.f code n sd l).bind (fun bt => some (bt.1, bt.2.1, bt.2.2)) ∧ 0 < l.length ∧ l.length ≤ 256 ∧ ∀ t ∈ l, keyB t = true := ⟨_, rfl, zbT, zbT, zbT⟩
   obtain ⟨t, n', s', e, hm, a, b, hf⟩ := qj0 hs zbV l ⟨l1, l2⟩;rw [el, e, Option.bind_some];exact ⟨t, n', s', rfl, l3 t hm, a, b, hf⟩
  obtain ⟨dr, n2, II, e2, m2, a2, b2, s2⟩ : ∃ dr n2 II, (if hasAt (walkR h root).1 key = true then qbn.f code n1 LK 3 else some (false, n1, LK)) = some (dr, n2, II) ∧ (dr = true → hasAt (walkR h root).1 key = true) ∧ n1 ≤ n2 ∧ n2 ≤ n1 + 1 ∧ qcn code n2 II := by
   by_cases hh : hasAt (walkR h root).1 key = true
   ·rw [if_pos hh];obtain ⟨b, n', s', e, a, c, hf⟩ := qhG s1 zbV 3 zbV;exact ⟨b, n', s', e, fun _ => hh, a, c, hf⟩
   ·rw [if_neg hh];exact ⟨false, n1, LK, rfl, fun h => (by cases h), zbV, zbV, s1⟩
  obtain ⟨v, n3, KK, e3, m3, a3, b3, s3⟩ : ∃ v n3 KK, (if dr = true then some ((⟨#[]⟩ : ByteArray), n2, II) else qbl.f code n2 II qfd) = some (v, n3, KK) ∧ v.size ≤ 90 ∧ n2 ≤ n3 ∧ n3 ≤ n2 + 1 ∧ qcn code n3 KK := by
   by_cases hh : dr = true
   ·rw [if_pos hh];exact ⟨⟨#[]⟩, n2, II, rfl, zbT, zbV, zbV, s2⟩
   ·rw [if_neg hh];obtain ⟨t, n', s', e, hm, a, b, hf⟩ := qj0 s2 zbV qfd zbT;refine ⟨t, n', s', e, ?_, a, b, hf⟩;unfold qfd at hm;simp only [List.mem_cons, List.not_mem_nil, or_false] at hm
    rcases hm with rfl | rfl | rfl <;> decide
  obtain ⟨kp, n4, uQ, e4, a4, b4, s4⟩ := qhG s3 zbV 7 zbV;have hst := good_step hg m1 m3 m2;have hg' : GoodF (qbh h root kept dr key v).1 (qbh h root kept dr key v).2.1 (if kp = true then (qbh h root kept dr key v).2.1 else kept) i := by
   split
   ·exact hst.2
   ·exact hst.1
  obtain ⟨h', root', kept', n', sd', e5, g5, s5, b5⟩ := ih code _ _ _ n4 uQ s4 zbV zbV hg';refine ⟨h', root', kept', n', sd', ?_, g5, s5, b5⟩;rw [forestF, if_pos hg, e1, Option.bind_some];simp only;rw [e2, Option.bind_some];simp only;rw [e3, Option.bind_some];simp only;rw [if_pos ⟨m1, m3⟩, e4, Option.bind_some];exact e5
theorem qj5 : TinyN (List.replicate 50 z75) := fun x hx => by
 rw [List.eq_of_mem_replicate hx]
 decide
theorem qj6 {code : List Int} {n sd : Int} (hs : qcn code n sd) (hn : n ≤ 90000) : ∃ h root kept n' sd', qbt.f code n sd = some (h, root, kept, n', sd') ∧ GoodF h root kept 0 ∧ qcn code n' sd' ∧ n' ≤ 100000 := by
 unfold qbt.f;obtain ⟨r, n', s', e, r0, r1, a, b, hf⟩ := qh8 hs zbV 20 zbV;rw [e, Option.bind_some];simp only;rw [if_pos zbV];exact qia r.toNat code _ (-1) (-1) n' s' hf zbV zbV (good_start (List.length_replicate ..) qj5 _ zbV)
theorem qib {code : List Int} (hc : ∀ c, c ∈ code → 0 ≤ c ∧ c < 256) : ∃ h root kept, qcq.f code = some (h, root, kept) ∧ GoodF h root kept 0 := by
 unfold qcq.f;obtain ⟨e, hs⟩ := qjZ hc;rw [e, Option.bind_some];obtain ⟨h, root, kept, n', sd', e2, hg, _, _⟩ := qj6 hs zbV;simp only;rw [e2, Option.bind_some];exact ⟨h, root, kept, rfl, hg⟩
theorem qj7 (l : List Int) (hc : ∀ c, c ∈ l → 0 ≤ c ∧ c < 256) : ∃ k, qaf.f k l = some true := by
 suffices h : Ev (fun k => qaf.f k l) true by obtain ⟨k, hk⟩ := h; exact ⟨k, hk k (Nat.le_refl _)⟩
 unfold qaf.f
 by_cases h0 : (l.length : Int) > 1048576
 ·exact Ev.pos h0 (Ev.is rfl)
 refine Ev.neg h0 ?_;obtain ⟨h, root, kept, e, hg⟩ := qib hc;refine Ev.bindk e ?_;have hs := qdH hg.tiny;have hw := hg.walks;refine Ev.bind (qe1 [root, kept] hs) ?_;refine Ev.bind (qe0 [root, kept] hs) ?_;refine Ev.bind (qdJ root hs) ?_;refine Ev.bind (qdJ kept hs) ?_;have hall : ∀ r, r ∈ [root, kept] → (walkR h r).2.2 = true := fun r hr => by
  simp only [List.mem_cons, List.not_mem_nil, or_false] at hr
  rcases hr with rfl | rfl
  ·exact hw.1
  ·exact hw.2
 have e1 : countR h [root, kept] = (incL zeroL (qbL h (qcf h [root, kept]) 0 50 ++ qcU [root, kept]), 0) := by
  unfold countR;rw [if_neg zbW, if_neg zbW, if_pos hall]
 have e2 : qfV h root = (qcC (walkR h root).2.1 0 50, 0) := by unfold qfV; rw [if_pos hw.1]
 have e3 : qfV h kept = (qcC (walkR h kept).2.1 0 50, 0) := by unfold qfV; rw [if_pos hw.2]
 rw [e1, e2, e3];have hin : In50 (qbL h (qcf h [root, kept]) 0 50 ++ qcU [root, kept]) := fun j hj => (List.mem_append.1 hj).elim ((qfP (qdT h _) 50 0).1 j) ((qiB (fun r hr => root_lt (hall r hr))).1 j)
 have hlen : (incL zeroL (qbL h (qcf h [root, kept]) 0 50 ++ qcU [root, kept])).length = 50 := by rw [qek]; exact List.length_replicate ..
 refine Ev.pos rfl (Ev.bind (a := true) ?_ (Ev.pos rfl (Ev.pos (by simp only; omega) (Ev.pos rfl ?_))))
 ·unfold qaF.f;exact Ev.pos rfl (qgP _ (by rw [hlen]; decide) _ 0 (Nat.zero_add _))
 ·refine Ev.step (fun k => by rw [qaf.j0]) ?_;refine Ev.neg zbW ?_;refine refs_l0 (Nat.le_trans (qgm _ 50 0) zbT) (Nat.le_trans (qgm _ 50 0) zbT) hlen (fun q hq => ?_) 50 0 rfl;rw [qi0 hw.1 hw.2 hq, qgK (x := zeroL) (List.length_replicate ..) hin q hq, (show rd zeroL (q : Int) = 0 from by unfold rd zeroL; rw [Int.toNat_natCast, List.getD_eq_getElem?_getD, List.getElem?_replicate]; split <;> rfl), Int.zero_add]
  constructor
  ·intro hm;have := List.count_pos_iff.2 hm;omega
  ·intro hm;exact List.count_pos_iff.1 zbV
end Go.Proofs.Ytcdokcpiahbejaa.X
set_option linter.unusedSimpArgs false
set_option linter.unusedVariables false
namespace Go.Proofs.Ytcdokcpiahbejaa.X.Pure
open Go.RowKit Go.Proofs.Ytcdokcpiahbejaa.X Go.Proofs.YtcdokcpiahbejaaW.PrintWords Go.Proofs.YtcdokcpiahbejaaW.PrintLast
theorem FnRefs : qaf.Pure := by
 intro l hl
 have hb : ∀ x : Int, (Lit.int .u8 x).wf = true → 0 ≤ x ∧ x < 256 := fun x h => by
  simp only [Lit.wf, Bool.and_eq_true, decide_eq_true_eq] at h
  have e1 : IntKind.u8.min = 0 := rfl
  have e2 : IntKind.u8.max = 255 := rfl
  rw [e1, e2] at h
  omega
 exact qj7 l (fun c hc => hb c (hl.2 c hc))
end Go.Proofs.Ytcdokcpiahbejaa.X.Pure
namespace Go.Proofs.Ytcdokcpiahbejaa.fnRefs
open Go.ChangeShapes Go.WideShapes Go.ChangeAt Go.RowKit Go.Proofs.Ytcdokcpiahbejaa.X Go.Proofs.YtcdokcpiahbejaaW.PrintWords
open Go.ChangeMaps (open_string shut_string)
set_option linter.unusedVariables false
theorem own : ownKnob Try.prog.godebug = none := by kernel_rfl
theorem laidOut : laidOutB Try.prog = true := by kernel_rfl
set_option maxRecDepth 100000 in
theorem lifted (os : Os) (started : os.Started) (H : Type) (enc : TypeId × Value → H) :
  ReturnsInHanded {} Try.checked os 3 .any (Rows.fnRefsSpec.pre6 enc Try.prog Try.f3 Rows.fnRefsRow.domain false) (Rows.fnRefsSpec.post enc Try.prog Try.f3 false true false false) := by
 refine returnsInHanded_of_change_sized (C := Try.checked) own started (by kernel_rfl) Try.func3
  (ChangeSpec.witness6 (enc := enc) (C := Try.checked) false ⟨#[], #[.slice none 0 0], []⟩ 8 (by kernel_rfl) (by kernel_rfl) (by kernel_rfl) (by kernel_rfl)) ?_
 intro W base args ds gs before hval0 hW hcnd hsz0 _
 have hsz : (DataW.weightsEach Try.prog (Try.f3.params.toList ++ Rows.fnRefsSpec.plain.varTypes Try.prog) (ds ++ gs)).all (· ≤ reachBytes) = true := hsz0
 have hval : ∀ (j : Nat) t v, Try.f3.params[j]? = some t → args[j]? = some v → Value.okWide Try.prog W .any base t v := hval0
 have hW' := hW
 obtain ⟨p, q, hA0, hV, rfl, hfz, hnd⟩ := hW
 have hA : DataW.TrodAll enc Try.prog W 0 (fun _ => true) true Try.f3.params.toList args.toList ds p := hA0
 rw [Try.params3] at hA hval hsz
 obtain ⟨v0, vs0, d0, ds0, p0, q0, hargs, rfl, rfl, h0, r0⟩ := trodAll_cons hA
 obtain ⟨rfl, rfl, rfl⟩ := trodAll_nil r0
 obtain rfl : args = #[v0] := by cases args; simp_all
 obtain ⟨rfl, rfl⟩ := trodVars_none hV
 have k0 := h0
 have lt0 : ∀ x ∈ p0, x.block < W.heap.size := by obtain ⟨m, hm⟩ := k0; exact DataW.trod_lt m _ _ _ hm
 obtain ⟨A0, len0, c0, rfl⟩ := okWide_slice Try.underlying22 (hval 0 22 v0 rfl rfl)
 obtain ⟨l0, rfl, hc0, hr0, hw0⟩ := Opens.qjs opens22 h0
 clear hA0 hval0 hsz0 hsz
 obtain ⟨k, hP⟩ := X.Pure.FnRefs l0 hw0
 refine (qaf.calls k A0 c0 l0 true W hr0 hc0 hP).mono fun e W' hQ => ?_
 obtain ⟨he, bel0⟩ := hQ
 subst he
 have bel : Below W.heap.size W W' := bel0
 exact ⟨_, rfl, _, _, _, [], _, [], hW', trodAll_mk1 (shut_bool Try.underlying4 _), (trodAll_cons_mk (Below.trod laidOut (by kernel_rfl) (of_decide_eq_true (by kernel_rfl)) k0 bel lt0) trodAll_mk0), rfl, bel.frame _, fun h => by cases h⟩
theorem over : Rows.fnRefsRow.holds Try.pinned (OpenSpec.ofChange Rows.fnRefsSpec) :=
 OpenClaim.holds_of_wide 3 Try.f3 rfl rfl rfl rfl rfl rfl rfl ⟨rfl, rfl, rfl, rfl, rfl⟩ rfl rfl rfl rfl rfl (by kernel_rfl) Try.func3 (by kernel_rfl)
  (of_decide_eq_true (by kernel_rfl)) (by unfold Func.isWrapper; first | (rw [if_pos (by decide +kernel)]; kernel_rfl) | (rw [if_neg (by decide +kernel)]; exact ⟨rfl, rfl⟩))
  (fun os started H enc _ => lifted os started H enc)
theorem proved : Rows.FnRefsSaid := over
end Go.Proofs.Ytcdokcpiahbejaa.fnRefs
namespace Go.Proofs.Ytcdokcpiahbejaa
theorem fnRefs_holds : Rows.FnRefsSaid := fnRefs.proved
end Go.Proofs.Ytcdokcpiahbejaa
