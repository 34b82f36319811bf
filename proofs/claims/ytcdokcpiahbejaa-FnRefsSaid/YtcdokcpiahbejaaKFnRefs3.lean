import Derived.Test.YtcdokcpiahbejaaKFnRefs2
namespace Go.Proofs.Ytcdokcpiahbejaa.X
open Go.RowKit Go.Proofs.YtcdokcpiahbejaaW.PrintWords Go.Proofs.YtcdokcpiahbejaaW.PrintLast Go.Proofs.YtcdokcpiahbejaaW.PrintMore
attribute [local go_sem] qax qay qaz qat qau qaJ qaK qam qan qav qaw
set_option linter.unusedVariables false
set_option linter.unusedSimpArgs false
mutual
def qaB.j0 : Nat → Bool → Bool → List (S77) → List ByteArray → List Int → Option (Bool)
 | 0, _, _, _, _, _ => none
 | k + 1, x49, x413000, x413001, x413002, x413003 => if x49 = true then (some false) else (qaB.l0 k x413002 (x413002.length : Int) 0 x413000 x413001 x413002 x413003)
def qaB.l0 : Nat → List ByteArray → Int → Int → Bool → List (S77) → List ByteArray → List Int → Option (Bool)
 | 0, _, _, _, _, _, _, _ => none
 | k + 1, x51, x52, x53, x413000, x413001, x413002, x413003 => if x53 < x52 then (if 0 ≤ x53 then (if x53 < (x51.length : Int) then ((qbV.f (rdOf ByteArray.empty x51 x53)).bind fun MW => (if MW = true then (if x53 < (x413003.length : Int) then ((qaX.f (rd x413003 x53) 0 49).bind fun uO => (if uO = true then (if x53 > 0 then (if 0 ≤ (wrap64 (x53 - 1)) then (if (wrap64 (x53 - 1)) < (x413002.length : Int) then (if ((Op.bytesLess ((rdOf ByteArray.empty x413002 (wrap64 (x53 - 1))).toList) ((rdOf ByteArray.empty x51 x53).toList)) = true) then (qaB.l0 k x51 x52 (wrap64 (x53 + 1)) x413000 x413001 x413002 x413003) else (some false)) else (none)) else (none)) else (qaB.l0 k x51 x52 (wrap64 (x53 + 1)) x413000 x413001 x413002 x413003)) else (some false))) else (none)) else (some false))) else (none)) else (none)) else (some true)
end
def qaB.f (k : Nat) (G1 : Bool) (E0 : List (S77)) (u0 : List ByteArray) (B0 : List Int) : Option (Bool) := (qbr.f G1 E0 u0 B0).bind fun pQ => (if pQ = true then (some true) else (if G1 = true then ((qaX.f (E0.length : Int) 1 3).bind fun ZH => (if ZH = true then ((qak.f k E0).bind fun gH => (if gH = true then (if (u0.length : Int) = 0 then (some ((B0.length : Int) == 0)) else (some false)) else (some false))) else (some false))) else (if (E0.length : Int) > 0 then (qaB.j0 k true G1 E0 u0 B0) else ((qaX.f (B0.length : Int) 1 4).bind fun NH => (if NH = true then (qaB.j0 k ((u0.length : Int) != (B0.length : Int)) G1 E0 u0 B0) else (qaB.j0 k true G1 E0 u0 B0))))))
theorem qaB.qbW : ∀ k, (∀ y0 y1 y2 y3 y4, LeO (qaB.j0 k y0 y1 y2 y3 y4) (qaB.j0 (k + 1) y0 y1 y2 y3 y4)) ∧ (∀ y0 y1 y2 y3 y4 y5 y6, LeO (qaB.l0 k y0 y1 y2 y3 y4 y5 y6) (qaB.l0 (k + 1) y0 y1 y2 y3 y4 y5 y6))
 | 0 => ⟨fun _ _ _ _ _ r h => by simp [qaB.j0] at h, fun _ _ _ _ _ _ _ r h => by simp [qaB.l0] at h⟩
 | k + 1 => by
  obtain ⟨d6, ih1⟩ := qaB.qbW k;refine ⟨?_, ?_⟩
  ·intro y0 y1 y2 y3 y4;unfold qaB.j0
   repeat' first
   | (with_reducible exact d6 _ _ _ _ _)
   | (with_reducible exact ih1 _ _ _ _ _ _ _)
   | (with_reducible exact qak.mono _ _)
   | (with_reducible exact LeO.refl _)
   | (with_reducible exact LeO.none _)
   | (with_reducible refine LeO.ite ?_ ?_)
   | (with_reducible refine LeO.bind ?_ (fun _ => ?_))
   | exact d6 _ _ _ _ _
   | exact ih1 _ _ _ _ _ _ _
   | exact qak.mono _ _
   | exact LeO.none _
   | refine LeO.ite ?_ ?_
   | refine LeO.bind ?_ (fun _ => ?_)
  ·intro y0 y1 y2 y3 y4 y5 y6;unfold qaB.l0
   repeat' first
   | (with_reducible exact d6 _ _ _ _ _)
   | (with_reducible exact ih1 _ _ _ _ _ _ _)
   | (with_reducible exact qak.mono _ _)
   | (with_reducible exact LeO.refl _)
   | (with_reducible exact LeO.none _)
   | (with_reducible refine LeO.ite ?_ ?_)
   | (with_reducible refine LeO.bind ?_ (fun _ => ?_))
   | exact d6 _ _ _ _ _
   | exact ih1 _ _ _ _ _ _ _
   | exact qak.mono _ _
   | exact LeO.none _
   | refine LeO.ite ?_ ?_
   | refine LeO.bind ?_ (fun _ => ?_)
set_option maxHeartbeats 8000000 in
set_option maxRecDepth 100000 in
theorem qaB.calls (k : Nat) (G1 : Bool) (Y0 : Option Addr) (Z0 : Nat) (E0 : List (S77)) (D1 : Option Addr) (W0 : Nat) (u0 : List ByteArray) (X0 : Option Addr) (R0 : Nat) (B0 : List Int) (r : Bool) (w : World) (M7 : Kd.C k77 w Y0 E0.length E0) (J7 : E0.length ≤ Z0) (P7 : Kd.C Kd.string w D1 u0.length u0) (d8 : u0.length ≤ W0) (b8 : Kd.C (Kd.int .i64) w X0 B0.length B0) (S7 : B0.length ≤ R0) (h : qaB.f k G1 E0 u0 B0 = some r) :
  Calls Try.prog 96 #[.agg #[.bool G1, .slice Y0 E0.length Z0, .slice D1 u0.length W0, .slice X0 B0.length R0]] w fun e w' => e = .returned (.bool r) ∧ Below w.heap.size w w' := by
 have JN := Try.underlying75;have U6 := z_ M7;have j7 := z_ J7;clear M7 J7;have d5 := z_ P7;have j9 := z_ d8;clear P7 d8;have g6 := z_ b8;have n9 := z_ S7;clear b8 S7;have HB := z_ (Below.refl w.heap.size w);have H : ((qbr.f G1 E0 u0 B0).bind fun pQ => (if pQ = true then (some true) else (if G1 = true then ((qaX.f (E0.length : Int) 1 3).bind fun ZH => (if ZH = true then ((qak.f k E0).bind fun gH => (if gH = true then (if (u0.length : Int) = 0 then (some ((B0.length : Int) == 0)) else (some false)) else (some false))) else (some false))) else (if (E0.length : Int) > 0 then (qaB.j0 k true G1 E0 u0 B0) else ((qaX.f (B0.length : Int) 1 4).bind fun NH => (if NH = true then (qaB.j0 k ((u0.length : Int) != (B0.length : Int)) G1 E0 u0 B0) else (qaB.j0 k true G1 E0 u0 B0))))))) = some r := h;clear h;replace H := Option.bind_eq_some_iff.mp H;obtain ⟨pQ, LH, H⟩ := H;try dsimp only at H
 have A2 := z_ LH;clear LH
 by_cases c3 : pQ = true
 ·subst c3;have H1 : (some true) = some r := zbE;clear H;have H := H1;clear H1;obtain rfl := Option.some.inj H
  go_enter Try.func96, Try.ntmps96
  go_wp2_with (first | ((with_reducible refine qaG (N := 1) rfl ?_); (try (refine qbe zbX ?_; dsimp only)); refine qaS zbX (N := 1) zbX (cs := #[.bool G1, .slice Y0 E0.length Z0, .slice D1 u0.length W0, .slice X0 B0.length R0]) (t := 75) zbv ?_; intro L0 hg w4 hbox hb; have H0 := z_ (qad zaq hb); have I0 := z_ (hbox); have K0 := z_ ((zal : w.heap.size ≤ L0)); have U0 := z_ ((zal : w.heap.size ≤ L0)); clear HB; have HB := H0; have C0 := I0; have BJ := K0; have U4 := U0; clear H0 I0 K0 U0 hb hbox hg; have fD : w4.cell? ⟨L0, 0, none⟩ = some (.bool G1) := (qac C0.o 0).trans rfl; have aD : w4.cell? ⟨L0, 1, none⟩ = some (.slice Y0 E0.length Z0) := (qac C0.o 1).trans rfl; have XG : w4.cell? ⟨L0, 2, none⟩ = some (.slice D1 u0.length W0) := (qac C0.o 2).trans rfl; have VG : w4.cell? ⟨L0, 3, none⟩ = some (.slice X0 B0.length R0) := (qac C0.o 3).trans rfl; have gD := qab C0.o 0; have kD := qab C0.o 1; have zG := qab C0.o 2; have LG := qab C0.o 3) | ((with_reducible refine qaD (f := 97) rfl ?_); refine qbk (some 6) rfl rfl Try.func97 zbS rfl #[.agg #[.bool G1, .slice Y0 E0.length Z0, .slice D1 u0.length W0, .slice X0 B0.length R0]] rfl zao ?_; (with_reducible refine (qbr.calls G1 _ _ E0 _ _ u0 _ _ B0 true _ ?side1 ?side2 ?side3 ?side4 ?side5 ?side6 A2.o).mono ?_); (case side1 => exact zad (Kd.qaO U6.o HB.o)); (case side2 => exact j7.o); (case side3 => exact zad (Kd.qaO d5.o HB.o)); (case side4 => exact j9.o); (case side5 => exact zad (Kd.qaO g6.o HB.o)); (case side6 => exact n9.o); rintro e w6 ⟨rfl, hb⟩; refine ⟨_, rfl, ?_⟩; have H0 := z_ (qap (g := L0) (o := .cells #[.bool G1, .slice Y0 E0.length Z0, .slice D1 u0.length W0, .slice X0 B0.length R0] 75 (0, 0)) (zac C0.o) hb); have I0 := z_ (qad (zab U4.o) hb); clear C0 HB; have C0 := H0; have HB := I0; clear H0 I0; (try clear hb); (try clear hb2); (try clear hk); (try clear hi)))
  go_ret
  exact ⟨zaF, zab U4.o⟩
 ·replace c3 := Bool.eq_false_iff.mpr c3;subst c3;have H1 : (if G1 = true then ((qaX.f (E0.length : Int) 1 3).bind fun ZH => (if ZH = true then ((qak.f k E0).bind fun gH => (if gH = true then (if (u0.length : Int) = 0 then (some ((B0.length : Int) == 0)) else (some false)) else (some false))) else (some false))) else (if (E0.length : Int) > 0 then (qaB.j0 k true G1 E0 u0 B0) else ((qaX.f (B0.length : Int) 1 4).bind fun NH => (if NH = true then (qaB.j0 k ((u0.length : Int) != (B0.length : Int)) G1 E0 u0 B0) else (qaB.j0 k true G1 E0 u0 B0))))) = some r := zaK;clear H;have H := H1;clear H1
  by_cases c7 : G1 = true
  ·subst c7;have H1 : ((qaX.f (E0.length : Int) 1 3).bind fun ZH => (if ZH = true then ((qak.f k E0).bind fun gH => (if gH = true then (if (u0.length : Int) = 0 then (some ((B0.length : Int) == 0)) else (some false)) else (some false))) else (some false))) = some r := zbE;clear H;have H := H1;clear H1;replace H := Option.bind_eq_some_iff.mp H;obtain ⟨ZH, jT, H⟩ := H;try dsimp only at H
   have A8 := z_ jT;clear jT
   by_cases c9 : ZH = true
   ·subst c9;have H1 : ((qak.f k E0).bind fun gH => (if gH = true then (if (u0.length : Int) = 0 then (some ((B0.length : Int) == 0)) else (some false)) else (some false))) = some r := zbE;clear H;have H := H1;clear H1;replace H := Option.bind_eq_some_iff.mp H;obtain ⟨gH, iJ, H⟩ := H;try dsimp only at H
    have kR := z_ iJ;clear iJ
    by_cases c11 : gH = true
    ·subst c11;have H1 : (if (u0.length : Int) = 0 then (some ((B0.length : Int) == 0)) else (some false)) = some r := zbE;clear H;have H := H1;clear H1
     by_cases c12 : (u0.length : Int) = 0
     ·rw [if_pos c12] at H;have W9 : ((u0.length : Int) == 0) = true := beq_iff_eq.mpr c12;have NG : ((u0.length : Int) != 0) = false := bne_eq_false_iff_eq.mpr c12;clear c12;obtain rfl := Option.some.inj H
      go_enter Try.func96, Try.ntmps96
      go_wp2_with (first | ((with_reducible refine qaG (N := 1) rfl ?_); (try (refine qbe zbX ?_; dsimp only)); refine qaS zbX (N := 1) zbX (cs := #[.bool true, .slice Y0 E0.length Z0, .slice D1 u0.length W0, .slice X0 B0.length R0]) (t := 75) zbv ?_; intro L0 hg DI hbox hb; have H0 := z_ (qad zaq hb); have I0 := z_ (hbox); have K0 := z_ ((zal : w.heap.size ≤ L0)); have U0 := z_ ((zal : w.heap.size ≤ L0)); clear HB; have HB := H0; have C0 := I0; have BJ := K0; have U4 := U0; clear H0 I0 K0 U0 hb hbox hg; have WA : DI.cell? ⟨L0, 0, none⟩ = some (.bool true) := (qac C0.o 0).trans rfl; have YA : DI.cell? ⟨L0, 1, none⟩ = some (.slice Y0 E0.length Z0) := (qac C0.o 1).trans rfl; have dB : DI.cell? ⟨L0, 2, none⟩ = some (.slice D1 u0.length W0) := (qac C0.o 2).trans rfl; have OA : DI.cell? ⟨L0, 3, none⟩ = some (.slice X0 B0.length R0) := (qac C0.o 3).trans rfl; have TA := qab C0.o 0; have PA := qab C0.o 1; have RA := qab C0.o 2; have JA := qab C0.o 3) | ((with_reducible refine qaD (f := 97) rfl ?_); refine qbk (some 6) rfl rfl Try.func97 zbS rfl #[.agg #[.bool true, .slice Y0 E0.length Z0, .slice D1 u0.length W0, .slice X0 B0.length R0]] rfl zao ?_; (with_reducible refine (qbr.calls true _ _ E0 _ _ u0 _ _ B0 false _ ?side1 ?side2 ?side3 ?side4 ?side5 ?side6 A2.o).mono ?_); (case side1 => exact zad (Kd.qaO U6.o HB.o)); (case side2 => exact j7.o); (case side3 => exact zad (Kd.qaO d5.o HB.o)); (case side4 => exact j9.o); (case side5 => exact zad (Kd.qaO g6.o HB.o)); (case side6 => exact n9.o); rintro e jG ⟨rfl, hb⟩; refine ⟨_, rfl, ?_⟩; have H0 := z_ (qap (g := L0) (o := .cells #[.bool true, .slice Y0 E0.length Z0, .slice D1 u0.length W0, .slice X0 B0.length R0] 75 (0, 0)) (zac C0.o) hb); have I0 := z_ (qad (zab U4.o) hb); clear C0 HB; have C0 := H0; have HB := I0; clear H0 I0; (try clear hb); (try clear hb2); (try clear hk); (try clear hi); have SA : jG.cell? ⟨L0, 0, none⟩ = some (.bool true) := (qac C0.o 0).trans rfl; have OB : jG.cell? ⟨L0, 1, none⟩ = some (.slice Y0 E0.length Z0) := (qac C0.o 1).trans rfl; have PB : jG.cell? ⟨L0, 2, none⟩ = some (.slice D1 u0.length W0) := (qac C0.o 2).trans rfl; have jC : jG.cell? ⟨L0, 3, none⟩ = some (.slice X0 B0.length R0) := (qac C0.o 3).trans rfl; have NA := qab C0.o 0; have xC := qab C0.o 1; have fC := qab C0.o 2; have vC := qab C0.o 3) | ((with_reducible refine qaD (f := 72) rfl ?_); refine qbk (some 12) rfl rfl Try.func72 zbS rfl #[.int .i64 (E0.length : Int), .int .i64 1, .int .i64 3] rfl zao ?_; (with_reducible refine (qaX.calls (E0.length : Int) 1 3 true _ A8.o).mono ?_); rintro e w' ⟨rfl, ⟨nd, rfl⟩⟩; refine ⟨_, rfl, ?_⟩) | (go_at_call 98; (with_reducible refine (qak.calls k _ _ E0 true _ ?side1 ?side2 kR.o).mono ?_); (case side1 => repeat (first | exact (Kd.qaO U6.o (zab U4.o)) | (with_reducible refine Kd.qep ?_ _) | (with_reducible refine Kd.qeq ?_ _) | (with_reducible refine Kd.qe2 ?_))); (case side2 => exact j7.o); rintro e nG ⟨rfl, hb⟩; have H0 := z_ (qap (g := L0) (o := .cells #[.bool true, .slice Y0 E0.length Z0, .slice D1 u0.length W0, .slice X0 B0.length R0] 75 (0, 0)) (zac C0.o) hb); have I0 := z_ (qad (zab U4.o) hb); clear C0 HB; have C0 := H0; have HB := I0; clear H0 I0; (try clear hb); (try clear hb2); (try clear hk); (try clear hi); have p9 : nG.cell? ⟨L0, 0, none⟩ = some (.bool true) := (qac C0.o 0).trans rfl; have BC : nG.cell? ⟨L0, 1, none⟩ = some (.slice Y0 E0.length Z0) := (qac C0.o 1).trans rfl; have VD : nG.cell? ⟨L0, 2, none⟩ = some (.slice D1 u0.length W0) := (qac C0.o 2).trans rfl; have ND : nG.cell? ⟨L0, 3, none⟩ = some (.slice X0 B0.length R0) := (qac C0.o 3).trans rfl; have q9 := qab C0.o 0; have UB := qab C0.o 1; have XD := qab C0.o 2; have RD := qab C0.o 3))
      go_ret
      exact ⟨zaF, zab U4.o⟩
     ·rw [if_neg c12] at H;have W9 : ((u0.length : Int) == 0) = false := beq_eq_false_iff_ne.mpr c12;have NG : ((u0.length : Int) != 0) = true := bne_iff_ne.mpr c12;have bK : ¬ (u0 = []) := fun h_ => c12 (by rw [h_]; rfl)
      obtain rfl := Option.some.inj H
      go_enter Try.func96, Try.ntmps96
      go_wp2_with (first | ((with_reducible refine qaG (N := 1) rfl ?_); (try (refine qbe zbX ?_; dsimp only)); refine qaS zbX (N := 1) zbX (cs := #[.bool true, .slice Y0 E0.length Z0, .slice D1 u0.length W0, .slice X0 B0.length R0]) (t := 75) zbv ?_; intro L0 hg CG hbox hb; have H0 := z_ (qad zaq hb); have I0 := z_ (hbox); have K0 := z_ ((zal : w.heap.size ≤ L0)); have U0 := z_ ((zal : w.heap.size ≤ L0)); clear HB; have HB := H0; have C0 := I0; have BJ := K0; have U4 := U0; clear H0 I0 K0 U0 hb hbox hg; have rE : CG.cell? ⟨L0, 0, none⟩ = some (.bool true) := (qac C0.o 0).trans rfl; have XE : CG.cell? ⟨L0, 1, none⟩ = some (.slice Y0 E0.length Z0) := (qac C0.o 1).trans rfl; have tE : CG.cell? ⟨L0, 2, none⟩ = some (.slice D1 u0.length W0) := (qac C0.o 2).trans rfl; have GE : CG.cell? ⟨L0, 3, none⟩ = some (.slice X0 B0.length R0) := (qac C0.o 3).trans rfl; have WE := qab C0.o 0; have pE := qab C0.o 1; have cE := qab C0.o 2; have gE := qab C0.o 3) | ((with_reducible refine qaD (f := 97) rfl ?_); refine qbk (some 6) rfl rfl Try.func97 zbS rfl #[.agg #[.bool true, .slice Y0 E0.length Z0, .slice D1 u0.length W0, .slice X0 B0.length R0]] rfl zao ?_; (with_reducible refine (qbr.calls true _ _ E0 _ _ u0 _ _ B0 false _ ?side1 ?side2 ?side3 ?side4 ?side5 ?side6 A2.o).mono ?_); (case side1 => exact zad (Kd.qaO U6.o HB.o)); (case side2 => exact j7.o); (case side3 => exact zad (Kd.qaO d5.o HB.o)); (case side4 => exact j9.o); (case side5 => exact zad (Kd.qaO g6.o HB.o)); (case side6 => exact n9.o); rintro e QH ⟨rfl, hb⟩; refine ⟨_, rfl, ?_⟩; have H0 := z_ (qap (g := L0) (o := .cells #[.bool true, .slice Y0 E0.length Z0, .slice D1 u0.length W0, .slice X0 B0.length R0] 75 (0, 0)) (zac C0.o) hb); have I0 := z_ (qad (zab U4.o) hb); clear C0 HB; have C0 := H0; have HB := I0; clear H0 I0; (try clear hb); (try clear hb2); (try clear hk); (try clear hi); have a8 : QH.cell? ⟨L0, 0, none⟩ = some (.bool true) := (qac C0.o 0).trans rfl; have i8 : QH.cell? ⟨L0, 1, none⟩ = some (.slice Y0 E0.length Z0) := (qac C0.o 1).trans rfl; have X7 : QH.cell? ⟨L0, 2, none⟩ = some (.slice D1 u0.length W0) := (qac C0.o 2).trans rfl; have TB : QH.cell? ⟨L0, 3, none⟩ = some (.slice X0 B0.length R0) := (qac C0.o 3).trans rfl; have Q7 := qab C0.o 0; have V7 := qab C0.o 1; have f8 := qab C0.o 2; have XB := qab C0.o 3) | ((with_reducible refine qaD (f := 72) rfl ?_); refine qbk (some 12) rfl rfl Try.func72 zbS rfl #[.int .i64 (E0.length : Int), .int .i64 1, .int .i64 3] rfl zao ?_; (with_reducible refine (qaX.calls (E0.length : Int) 1 3 true _ A8.o).mono ?_); rintro e w' ⟨rfl, ⟨nd, rfl⟩⟩; refine ⟨_, rfl, ?_⟩) | (go_at_call 98; (with_reducible refine (qak.calls k _ _ E0 true _ ?side1 ?side2 kR.o).mono ?_); (case side1 => repeat (first | exact (Kd.qaO U6.o (zab U4.o)) | (with_reducible refine Kd.qep ?_ _) | (with_reducible refine Kd.qeq ?_ _) | (with_reducible refine Kd.qe2 ?_))); (case side2 => exact j7.o); rintro e KF ⟨rfl, hb⟩; have H0 := z_ (qap (g := L0) (o := .cells #[.bool true, .slice Y0 E0.length Z0, .slice D1 u0.length W0, .slice X0 B0.length R0] 75 (0, 0)) (zac C0.o) hb); have I0 := z_ (qad (zab U4.o) hb); clear C0 HB; have C0 := H0; have HB := I0; clear H0 I0; (try clear hb); (try clear hb2); (try clear hk); (try clear hi); have N8 : KF.cell? ⟨L0, 0, none⟩ = some (.bool true) := (qac C0.o 0).trans rfl; have Q8 : KF.cell? ⟨L0, 1, none⟩ = some (.slice Y0 E0.length Z0) := (qac C0.o 1).trans rfl; have L8 : KF.cell? ⟨L0, 2, none⟩ = some (.slice D1 u0.length W0) := (qac C0.o 2).trans rfl; have gF : KF.cell? ⟨L0, 3, none⟩ = some (.slice X0 B0.length R0) := (qac C0.o 3).trans rfl; have G8 := qab C0.o 0; have I8 := qab C0.o 1; have K8 := qab C0.o 2; have uD := qab C0.o 3))
      go_ret
      exact ⟨zaF, zab U4.o⟩
    ·replace c11 := Bool.eq_false_iff.mpr c11;subst c11;have H1 : (some false) = some r := zaK;clear H;have H := H1;clear H1;obtain rfl := Option.some.inj H
     go_enter Try.func96, Try.ntmps96
     go_wp2_with (first | ((with_reducible refine qaG (N := 1) rfl ?_); (try (refine qbe zbX ?_; dsimp only)); refine qaS zbX (N := 1) zbX (cs := #[.bool true, .slice Y0 E0.length Z0, .slice D1 u0.length W0, .slice X0 B0.length R0]) (t := 75) zbv ?_; intro L0 hg RL hbox hb; have H0 := z_ (qad zaq hb); have I0 := z_ (hbox); have K0 := z_ ((zal : w.heap.size ≤ L0)); have U0 := z_ ((zal : w.heap.size ≤ L0)); clear HB; have HB := H0; have C0 := I0; have BJ := K0; have U4 := U0; clear H0 I0 K0 U0 hb hbox hg; have bC : RL.cell? ⟨L0, 0, none⟩ = some (.bool true) := (qac C0.o 0).trans rfl; have QB : RL.cell? ⟨L0, 1, none⟩ = some (.slice Y0 E0.length Z0) := (qac C0.o 1).trans rfl; have sC : RL.cell? ⟨L0, 2, none⟩ = some (.slice D1 u0.length W0) := (qac C0.o 2).trans rfl; have mC : RL.cell? ⟨L0, 3, none⟩ = some (.slice X0 B0.length R0) := (qac C0.o 3).trans rfl; have lC := qab C0.o 0; have DC := qab C0.o 1; have ZB := qab C0.o 2; have oC := qab C0.o 3) | ((with_reducible refine qaD (f := 97) rfl ?_); refine qbk (some 6) rfl rfl Try.func97 zbS rfl #[.agg #[.bool true, .slice Y0 E0.length Z0, .slice D1 u0.length W0, .slice X0 B0.length R0]] rfl zao ?_; (with_reducible refine (qbr.calls true _ _ E0 _ _ u0 _ _ B0 false _ ?side1 ?side2 ?side3 ?side4 ?side5 ?side6 A2.o).mono ?_); (case side1 => exact zad (Kd.qaO U6.o HB.o)); (case side2 => exact j7.o); (case side3 => exact zad (Kd.qaO d5.o HB.o)); (case side4 => exact j9.o); (case side5 => exact zad (Kd.qaO g6.o HB.o)); (case side6 => exact n9.o); rintro e zI ⟨rfl, hb⟩; refine ⟨_, rfl, ?_⟩; have H0 := z_ (qap (g := L0) (o := .cells #[.bool true, .slice Y0 E0.length Z0, .slice D1 u0.length W0, .slice X0 B0.length R0] 75 (0, 0)) (zac C0.o) hb); have I0 := z_ (qad (zab U4.o) hb); clear C0 HB; have C0 := H0; have HB := I0; clear H0 I0; (try clear hb); (try clear hb2); (try clear hk); (try clear hi); have VA : zI.cell? ⟨L0, 0, none⟩ = some (.bool true) := (qac C0.o 0).trans rfl; have qC : zI.cell? ⟨L0, 1, none⟩ = some (.slice Y0 E0.length Z0) := (qac C0.o 1).trans rfl; have VE : zI.cell? ⟨L0, 2, none⟩ = some (.slice D1 u0.length W0) := (qac C0.o 2).trans rfl; have CD : zI.cell? ⟨L0, 3, none⟩ = some (.slice X0 B0.length R0) := (qac C0.o 3).trans rfl; have KA := qab C0.o 0; have rC := qab C0.o 1; have ZE := qab C0.o 2; have ID := qab C0.o 3) | ((with_reducible refine qaD (f := 72) rfl ?_); refine qbk (some 12) rfl rfl Try.func72 zbS rfl #[.int .i64 (E0.length : Int), .int .i64 1, .int .i64 3] rfl zao ?_; (with_reducible refine (qaX.calls (E0.length : Int) 1 3 true _ A8.o).mono ?_); rintro e w' ⟨rfl, ⟨nd, rfl⟩⟩; refine ⟨_, rfl, ?_⟩) | (go_at_call 98; (with_reducible refine (qak.calls k _ _ E0 false _ ?side1 ?side2 kR.o).mono ?_); (case side1 => repeat (first | exact (Kd.qaO U6.o (zab U4.o)) | (with_reducible refine Kd.qep ?_ _) | (with_reducible refine Kd.qeq ?_ _) | (with_reducible refine Kd.qe2 ?_))); (case side2 => exact j7.o); rintro e qX ⟨rfl, hb⟩; have H0 := z_ (qap (g := L0) (o := .cells #[.bool true, .slice Y0 E0.length Z0, .slice D1 u0.length W0, .slice X0 B0.length R0] 75 (0, 0)) (zac C0.o) hb); have I0 := z_ (qad (zab U4.o) hb); clear C0 HB; have C0 := H0; have HB := I0; clear H0 I0; (try clear hb); (try clear hb2); (try clear hk); (try clear hi)))
     go_ret
     exact ⟨zaF, zab U4.o⟩
   ·replace c9 := Bool.eq_false_iff.mpr c9;subst c9;have H1 : (some false) = some r := zaK;clear H;have H := H1;clear H1;obtain rfl := Option.some.inj H
    go_enter Try.func96, Try.ntmps96
    go_wp2_with (first | ((with_reducible refine qaG (N := 1) rfl ?_); (try (refine qbe zbX ?_; dsimp only)); refine qaS zbX (N := 1) zbX (cs := #[.bool true, .slice Y0 E0.length Z0, .slice D1 u0.length W0, .slice X0 B0.length R0]) (t := 75) zbv ?_; intro L0 hg mO hbox hb; have H0 := z_ (qad zaq hb); have I0 := z_ (hbox); have K0 := z_ ((zal : w.heap.size ≤ L0)); have U0 := z_ ((zal : w.heap.size ≤ L0)); clear HB; have HB := H0; have C0 := I0; have BJ := K0; have U4 := U0; clear H0 I0 K0 U0 hb hbox hg; have GD : mO.cell? ⟨L0, 0, none⟩ = some (.bool true) := (qac C0.o 0).trans rfl; have KD : mO.cell? ⟨L0, 1, none⟩ = some (.slice Y0 E0.length Z0) := (qac C0.o 1).trans rfl; have fF : mO.cell? ⟨L0, 2, none⟩ = some (.slice D1 u0.length W0) := (qac C0.o 2).trans rfl; have FD : mO.cell? ⟨L0, 3, none⟩ = some (.slice X0 B0.length R0) := (qac C0.o 3).trans rfl; have wF := qab C0.o 0; have vF := qab C0.o 1; have xE := qab C0.o 2; have yE := qab C0.o 3) | ((with_reducible refine qaD (f := 97) rfl ?_); refine qbk (some 6) rfl rfl Try.func97 zbS rfl #[.agg #[.bool true, .slice Y0 E0.length Z0, .slice D1 u0.length W0, .slice X0 B0.length R0]] rfl zao ?_; (with_reducible refine (qbr.calls true _ _ E0 _ _ u0 _ _ B0 false _ ?side1 ?side2 ?side3 ?side4 ?side5 ?side6 A2.o).mono ?_); (case side1 => exact zad (Kd.qaO U6.o HB.o)); (case side2 => exact j7.o); (case side3 => exact zad (Kd.qaO d5.o HB.o)); (case side4 => exact j9.o); (case side5 => exact zad (Kd.qaO g6.o HB.o)); (case side6 => exact n9.o); rintro e w32 ⟨rfl, hb⟩; refine ⟨_, rfl, ?_⟩; have H0 := z_ (qap (g := L0) (o := .cells #[.bool true, .slice Y0 E0.length Z0, .slice D1 u0.length W0, .slice X0 B0.length R0] 75 (0, 0)) (zac C0.o) hb); have I0 := z_ (qad (zab U4.o) hb); clear C0 HB; have C0 := H0; have HB := I0; clear H0 I0; (try clear hb); (try clear hb2); (try clear hk); (try clear hi); have QD : w32.cell? ⟨L0, 0, none⟩ = some (.bool true) := (qac C0.o 0).trans rfl; have JD : w32.cell? ⟨L0, 1, none⟩ = some (.slice Y0 E0.length Z0) := (qac C0.o 1).trans rfl; have TD : w32.cell? ⟨L0, 2, none⟩ = some (.slice D1 u0.length W0) := (qac C0.o 2).trans rfl; have FE : w32.cell? ⟨L0, 3, none⟩ = some (.slice X0 B0.length R0) := (qac C0.o 3).trans rfl; have SE := qab C0.o 0; have eE := qab C0.o 1; have mE := qab C0.o 2; have zF := qab C0.o 3) | ((with_reducible refine qaD (f := 72) rfl ?_); refine qbk (some 12) rfl rfl Try.func72 zbS rfl #[.int .i64 (E0.length : Int), .int .i64 1, .int .i64 3] rfl zao ?_; (with_reducible refine (qaX.calls (E0.length : Int) 1 3 false _ A8.o).mono ?_); rintro e w' ⟨rfl, ⟨nd, rfl⟩⟩; refine ⟨_, rfl, ?_⟩))
    go_ret
    exact ⟨zaF, zab U4.o⟩
  ·replace c7 := Bool.eq_false_iff.mpr c7;subst c7;have H1 : (if (E0.length : Int) > 0 then (qaB.j0 k true false E0 u0 B0) else ((qaX.f (B0.length : Int) 1 4).bind fun NH => (if NH = true then (qaB.j0 k ((u0.length : Int) != (B0.length : Int)) false E0 u0 B0) else (qaB.j0 k true false E0 u0 B0)))) = some r := zaK;clear H;have H := H1;clear H1;have BL := z_ H;clear H
   go_enter Try.func96, Try.ntmps96
   go_upto_region 5 with (first | ((with_reducible refine qaG (N := 1) rfl ?_); (try (refine qbe zbX ?_; dsimp only)); refine qaS zbX (N := 1) zbX (cs := #[.bool false, .slice Y0 E0.length Z0, .slice D1 u0.length W0, .slice X0 B0.length R0]) (t := 75) zbv ?_; intro L0 hg xQ hbox hb; have H0 := z_ (qad zaq hb); have I0 := z_ (hbox); have K0 := z_ ((zal : w.heap.size ≤ L0)); have U0 := z_ ((zal : w.heap.size ≤ L0)); clear HB; have HB := H0; have C0 := I0; have BJ := K0; have U4 := U0; clear H0 I0 K0 U0 hb hbox hg; have ZD : xQ.cell? ⟨L0, 0, none⟩ = some (.bool false) := (qac C0.o 0).trans rfl; have ED : xQ.cell? ⟨L0, 1, none⟩ = some (.slice Y0 E0.length Z0) := (qac C0.o 1).trans rfl; have DD : xQ.cell? ⟨L0, 2, none⟩ = some (.slice D1 u0.length W0) := (qac C0.o 2).trans rfl; have WD : xQ.cell? ⟨L0, 3, none⟩ = some (.slice X0 B0.length R0) := (qac C0.o 3).trans rfl; have oF := qab C0.o 0; have vE := qab C0.o 1; have AE := qab C0.o 2; have EE := qab C0.o 3) | ((with_reducible refine qaD (f := 97) rfl ?_); refine qbk (some 6) rfl rfl Try.func97 zbS rfl #[.agg #[.bool false, .slice Y0 E0.length Z0, .slice D1 u0.length W0, .slice X0 B0.length R0]] rfl zao ?_; (with_reducible refine (qbr.calls false _ _ E0 _ _ u0 _ _ B0 false _ ?side1 ?side2 ?side3 ?side4 ?side5 ?side6 A2.o).mono ?_); (case side1 => exact zad (Kd.qaO U6.o HB.o)); (case side2 => exact j7.o); (case side3 => exact zad (Kd.qaO d5.o HB.o)); (case side4 => exact j9.o); (case side5 => exact zad (Kd.qaO g6.o HB.o)); (case side6 => exact n9.o); rintro e IC ⟨rfl, hb⟩; refine ⟨_, rfl, ?_⟩; have H0 := z_ (qap (g := L0) (o := .cells #[.bool false, .slice Y0 E0.length Z0, .slice D1 u0.length W0, .slice X0 B0.length R0] 75 (0, 0)) (zac C0.o) hb); have I0 := z_ (qad (zab U4.o) hb); clear C0 HB; have C0 := H0; have HB := I0; clear H0 I0; (try clear hb); (try clear hb2); (try clear hk); (try clear hi); have RE : IC.cell? ⟨L0, 0, none⟩ = some (.bool false) := (qac C0.o 0).trans rfl; have nE : IC.cell? ⟨L0, 1, none⟩ = some (.slice Y0 E0.length Z0) := (qac C0.o 1).trans rfl; have KE : IC.cell? ⟨L0, 2, none⟩ = some (.slice D1 u0.length W0) := (qac C0.o 2).trans rfl; have yF : IC.cell? ⟨L0, 3, none⟩ = some (.slice X0 B0.length R0) := (qac C0.o 3).trans rfl; have dE := qab C0.o 0; have OD := qab C0.o 1; have iE := qab C0.o 2; have TE := qab C0.o 3))
   (try simp only [Act.put, List.setIfInBounds_toArray, List.set_cons_zero, List.set_cons_succ])
   go_cut [49] (fun v49 wc => ∃ (kq : Nat) (nI : Bool), v49 = .bool nI ∧ Aside0 (qaB.j0 kq nI false E0 u0 B0 = some r) ∧ Aside0 (kq ≤ k) ∧ Aside0 (wc.heap[L0]? = some (.cells #[.bool false, (.slice Y0 E0.length Z0), (.slice D1 u0.length W0), (.slice X0 B0.length R0)] 75 (0, 0))) ∧ Aside0 (Below w.heap.size w wc))
   case first =>
    have H := BL.o;clear BL
    by_cases UC : (E0.length : Int) > 0
    ·rw [if_pos UC] at H;have Q9 : decide (0 < (E0.length : Int)) = true := decide_eq_true UC;have fH : decide (0 < E0.length) = true := decide_eq_true zbV;clear UC
     (first | rw [Q9] | (simp only [qbw, qbB]; rw [Q9]) | skip)
     have H' := z_ H;clear H;have oN : IC.cell? ⟨L0, 0, none⟩ = some (.bool false) := (qac C0.o 0).trans rfl;have gN : IC.cell? ⟨L0, 1, none⟩ = some (.slice Y0 E0.length Z0) := (qac C0.o 1).trans rfl;have TM : IC.cell? ⟨L0, 2, none⟩ = some (.slice D1 u0.length W0) := (qac C0.o 2).trans rfl;have dN : IC.cell? ⟨L0, 3, none⟩ = some (.slice X0 B0.length R0) := (qac C0.o 3).trans rfl;have fN := qab C0.o 0;have EM := qab C0.o 1;have WM := qab C0.o 2;have rN := qab C0.o 3
     go_wp2
     go_meet
     case rel => exact ⟨_, (true), zbs, H', ⟨zbz⟩, ⟨by (with_reducible repeat (first | refine qaj ?_ _ | refine qai ?_ | refine qah ?_ _)); exact C0.o⟩, ⟨zab U4.o⟩⟩
    ·rw [if_neg UC] at H;have Q9 : decide (0 < (E0.length : Int)) = false := decide_eq_false UC;have fH : decide (0 < E0.length) = false := decide_eq_false zbV;clear UC
     (first | rw [Q9] | (simp only [qbw, qbB]; rw [Q9]) | skip)
     replace H := Option.bind_eq_some_iff.mp H;obtain ⟨NH, Ea, H⟩ := H;try dsimp only at H
     have A41 := z_ Ea;clear Ea
     by_cases SM : NH = true
     ·subst SM;have H1 : (qaB.j0 k ((u0.length : Int) != (B0.length : Int)) false E0 u0 B0) = some r := zbE;clear H;have H := H1;clear H1;have H' := z_ H;clear H;have DF : IC.cell? ⟨L0, 0, none⟩ = some (.bool false) := (qac C0.o 0).trans rfl;have CF : IC.cell? ⟨L0, 1, none⟩ = some (.slice Y0 E0.length Z0) := (qac C0.o 1).trans rfl;have AF : IC.cell? ⟨L0, 2, none⟩ = some (.slice D1 u0.length W0) := (qac C0.o 2).trans rfl;have BD : IC.cell? ⟨L0, 3, none⟩ = some (.slice X0 B0.length R0) := (qac C0.o 3).trans rfl;have sF := qab C0.o 0;have lF := qab C0.o 1;have PE := qab C0.o 2;have qE := qab C0.o 3
      go_wp2_with (first | (go_at_call 72; (with_reducible refine (qaX.calls (B0.length : Int) 1 4 true _ A41.o).mono ?_); rintro e w' ⟨rfl, ⟨nd, rfl⟩⟩))
      go_meet
      case rel => exact ⟨_, (((u0.length : Int) != (B0.length : Int))), zbs, H', ⟨zbz⟩, ⟨by (with_reducible repeat (first | refine qaj ?_ _ | refine qai ?_ | refine qah ?_ _)); exact C0.o⟩, ⟨zab U4.o⟩⟩
     ·replace SM := Bool.eq_false_iff.mpr SM;subst SM;have H1 : (qaB.j0 k true false E0 u0 B0) = some r := zaK;clear H;have H := H1;clear H1;have H' := z_ H;clear H;have pD : IC.cell? ⟨L0, 0, none⟩ = some (.bool false) := (qac C0.o 0).trans rfl;have IE : IC.cell? ⟨L0, 1, none⟩ = some (.slice Y0 E0.length Z0) := (qac C0.o 1).trans rfl;have nF : IC.cell? ⟨L0, 2, none⟩ = some (.slice D1 u0.length W0) := (qac C0.o 2).trans rfl;have rF : IC.cell? ⟨L0, 3, none⟩ = some (.slice X0 B0.length R0) := (qac C0.o 3).trans rfl;have DE := qab C0.o 0;have NE := qab C0.o 1;have qF := qab C0.o 2;have BF := qab C0.o 3
      go_wp2_with (first | (go_at_call 72; (with_reducible refine (qaX.calls (B0.length : Int) 1 4 false _ A41.o).mono ?_); rintro e w' ⟨rfl, ⟨nd, rfl⟩⟩))
      go_meet
      case rel => exact ⟨_, (true), zbs, H', ⟨zbz⟩, ⟨by (with_reducible repeat (first | refine qaj ?_ _ | refine qai ?_ | refine qah ?_ _)); exact C0.o⟩, ⟨zab U4.o⟩⟩
   case rest =>
    clear BL;try clear c1
    try clear p2
    try clear c3
    try clear c4
    try clear c7
    try clear c9
    try clear c11
    try clear c12
    try clear W9
    try clear NG
    try clear bK
    try clear UC
    try clear Q9
    try clear fH
    try clear SM
    try clear WA
    try clear YA
    try clear dB
    try clear OA
    try clear SA
    try clear OB
    try clear PB
    try clear jC
    try clear p9
    try clear BC
    try clear VD
    try clear ND
    try clear rE
    try clear XE
    try clear tE
    try clear GE
    try clear a8
    try clear i8
    try clear X7
    try clear TB
    try clear N8
    try clear Q8
    try clear L8
    try clear gF
    try clear bC
    try clear QB
    try clear sC
    try clear mC
    try clear VA
    try clear qC
    try clear VE
    try clear CD
    try clear GD
    try clear KD
    try clear fF
    try clear FD
    try clear QD
    try clear JD
    try clear TD
    try clear FE
    try clear ZD
    try clear ED
    try clear DD
    try clear WD
    try clear RE
    try clear nE
    try clear KE
    try clear yF
    try clear oN
    try clear gN
    try clear TM
    try clear dN
    try clear DF
    try clear CF
    try clear AF
    try clear BD
    try clear pD
    try clear IE
    try clear nF
    try clear rF
    try clear fD
    try clear aD
    try clear XG
    try clear VG
    try clear TA
    try clear PA
    try clear RA
    try clear JA
    try clear NA
    try clear xC
    try clear fC
    try clear vC
    try clear q9
    try clear UB
    try clear XD
    try clear RD
    try clear WE
    try clear pE
    try clear cE
    try clear gE
    try clear Q7
    try clear V7
    try clear f8
    try clear XB
    try clear G8
    try clear I8
    try clear K8
    try clear uD
    try clear lC
    try clear DC
    try clear ZB
    try clear oC
    try clear KA
    try clear rC
    try clear ZE
    try clear ID
    try clear wF
    try clear vF
    try clear xE
    try clear yE
    try clear SE
    try clear eE
    try clear mE
    try clear zF
    try clear oF
    try clear vE
    try clear AE
    try clear EE
    try clear dE
    try clear OD
    try clear iE
    try clear TE
    try clear fN
    try clear EM
    try clear WM
    try clear rN
    try clear sF
    try clear lF
    try clear PE
    try clear qE
    try clear DE
    try clear NE
    try clear qF
    try clear BF
    try clear gD
    try clear kD
    try clear zG
    try clear LG
    obtain ⟨kq, nI, rfl, HA, eO, C0, HB⟩ := hcut
    cases kq with
    | zero => exact absurd HA.o (by simp [qaB.j0])
    | succ kj33 =>
     have H := HA.o;clear HA;simp only [qaB.j0] at H
     by_cases vO : nI = true
     ·subst vO;have H1 : (some false) = some r := zbE;clear H;have H := H1;clear H1;obtain rfl := Option.some.inj H
      go_wp2
      go_ret
      exact ⟨zaF, zab U4.o⟩
     ·replace vO := Bool.eq_false_iff.mpr vO;subst vO;have H1 : (qaB.l0 kj33 u0 (u0.length : Int) 0 false E0 u0 B0) = some r := zaK;clear H;have H := H1;clear H1;have H' := z_ H;clear H;have ZQ : wc.cell? ⟨L0, 0, none⟩ = some (.bool false) := (qac C0.o 0).trans rfl;have fS : wc.cell? ⟨L0, 1, none⟩ = some (.slice Y0 E0.length Z0) := (qac C0.o 1).trans rfl;have bS : wc.cell? ⟨L0, 2, none⟩ = some (.slice D1 u0.length W0) := (qac C0.o 2).trans rfl;have BR : wc.cell? ⟨L0, 3, none⟩ = some (.slice X0 B0.length R0) := (qac C0.o 3).trans rfl;have wS := qab C0.o 0;have DR := qab C0.o 1;have NQ := qab C0.o 2;have IR := qab C0.o 3
      go_wp2
      go_loopg [53] kj33 (fun kq v53 w' => ∃ (I1 : Int), v53 = .int .i64 I1 ∧ Aside0 (qaB.l0 kq u0 (u0.length : Int) I1 false E0 u0 B0 = some r) ∧ Aside0 (kq ≤ kj33) ∧ Aside0 (w'.heap[L0]? = some (.cells #[.bool false, (.slice Y0 E0.length Z0), (.slice D1 u0.length W0), (.slice X0 B0.length R0)] 75 (0, 0))) ∧ Aside0 (Below w.heap.size w w'))
      case atStart => exact ⟨(0), zbs, H', ⟨Nat.le_refl _⟩, ⟨by (with_reducible repeat (first | refine qaj ?_ _ | refine qai ?_ | refine qah ?_ _)); exact C0.o⟩, ⟨zab U4.o⟩⟩
      case round =>
       clear H';try clear c1
       try clear p2
       try clear c3
       try clear c4
       try clear c7
       try clear c9
       try clear c11
       try clear c12
       try clear W9
       try clear NG
       try clear bK
       try clear UC
       try clear Q9
       try clear fH
       try clear SM
       try clear vO
       try clear WA
       try clear YA
       try clear dB
       try clear OA
       try clear SA
       try clear OB
       try clear PB
       try clear jC
       try clear p9
       try clear BC
       try clear VD
       try clear ND
       try clear rE
       try clear XE
       try clear tE
       try clear GE
       try clear a8
       try clear i8
       try clear X7
       try clear TB
       try clear N8
       try clear Q8
       try clear L8
       try clear gF
       try clear bC
       try clear QB
       try clear sC
       try clear mC
       try clear VA
       try clear qC
       try clear VE
       try clear CD
       try clear GD
       try clear KD
       try clear fF
       try clear FD
       try clear QD
       try clear JD
       try clear TD
       try clear FE
       try clear ZD
       try clear ED
       try clear DD
       try clear WD
       try clear RE
       try clear nE
       try clear KE
       try clear yF
       try clear oN
       try clear gN
       try clear TM
       try clear dN
       try clear DF
       try clear CF
       try clear AF
       try clear BD
       try clear pD
       try clear IE
       try clear nF
       try clear rF
       try clear ZQ
       try clear fS
       try clear bS
       try clear BR
       try clear fD
       try clear aD
       try clear XG
       try clear VG
       try clear TA
       try clear PA
       try clear RA
       try clear JA
       try clear NA
       try clear xC
       try clear fC
       try clear vC
       try clear q9
       try clear UB
       try clear XD
       try clear RD
       try clear WE
       try clear pE
       try clear cE
       try clear gE
       try clear Q7
       try clear V7
       try clear f8
       try clear XB
       try clear G8
       try clear I8
       try clear K8
       try clear uD
       try clear lC
       try clear DC
       try clear ZB
       try clear oC
       try clear KA
       try clear rC
       try clear ZE
       try clear ID
       try clear wF
       try clear vF
       try clear xE
       try clear yE
       try clear SE
       try clear eE
       try clear mE
       try clear zF
       try clear oF
       try clear vE
       try clear AE
       try clear EE
       try clear dE
       try clear OD
       try clear iE
       try clear TE
       try clear fN
       try clear EM
       try clear WM
       try clear rN
       try clear sF
       try clear lF
       try clear PE
       try clear qE
       try clear DE
       try clear NE
       try clear qF
       try clear BF
       try clear wS
       try clear DR
       try clear NQ
       try clear IR
       try clear gD
       try clear kD
       try clear zG
       try clear LG
       try clear p2
       obtain ⟨I1, rfl, HA, p7, C0, HB⟩ := hrel
       cases gk with
       | zero => exact absurd HA.o (by simp [qaB.l0])
       | succ k2 =>
        have H := HA.o;clear HA;simp only [qaB.l0] at H
        by_cases EI : I1 < (u0.length : Int)
        ·rw [if_pos EI] at H;have mN : decide (I1 < (u0.length : Int)) = true := decide_eq_true EI;clear EI
         by_cases OR : 0 ≤ I1
         ·rw [if_pos OR] at H;have c48b0 : decide (0 ≤ I1) = true := decide_eq_true OR;clear OR
          by_cases c49 : I1 < (u0.length : Int)
          ·rw [if_pos c49] at H;have c49b0 : decide (I1 < (u0.length : Int)) = true := decide_eq_true c49;clear c49;replace H := Option.bind_eq_some_iff.mp H;obtain ⟨MW, UX, H⟩ := H;try dsimp only at H
           have JI := z_ UX;clear UX
           by_cases c51 : MW = true
           ·subst c51;have H1 : (if I1 < (B0.length : Int) then ((qaX.f (rd B0 I1) 0 49).bind fun uO => (if uO = true then (if I1 > 0 then (if 0 ≤ (wrap64 (I1 - 1)) then (if (wrap64 (I1 - 1)) < (u0.length : Int) then (if ((Op.bytesLess ((rdOf ByteArray.empty u0 (wrap64 (I1 - 1))).toList) ((rdOf ByteArray.empty u0 I1).toList)) = true) then (qaB.l0 k2 u0 (u0.length : Int) (wrap64 (I1 + 1)) false E0 u0 B0) else (some false)) else (none)) else (none)) else (qaB.l0 k2 u0 (u0.length : Int) (wrap64 (I1 + 1)) false E0 u0 B0)) else (some false))) else (none)) = some r := zbE;clear H;have H := H1;clear H1
            by_cases AM : I1 < (B0.length : Int)
            ·rw [if_pos AM] at H;have uX : decide (I1 < (B0.length : Int)) = true := decide_eq_true AM;clear AM;replace H := Option.bind_eq_some_iff.mp H;obtain ⟨uO, UY, H⟩ := H;try dsimp only at H
             have GY := z_ UY;clear UY
             by_cases xK : uO = true
             ·subst xK;have H1 : (if I1 > 0 then (if 0 ≤ (wrap64 (I1 - 1)) then (if (wrap64 (I1 - 1)) < (u0.length : Int) then (if ((Op.bytesLess ((rdOf ByteArray.empty u0 (wrap64 (I1 - 1))).toList) ((rdOf ByteArray.empty u0 I1).toList)) = true) then (qaB.l0 k2 u0 (u0.length : Int) (wrap64 (I1 + 1)) false E0 u0 B0) else (some false)) else (none)) else (none)) else (qaB.l0 k2 u0 (u0.length : Int) (wrap64 (I1 + 1)) false E0 u0 B0)) = some r := zbE;clear H;have H := H1;clear H1
              by_cases bP : I1 > 0
              ·rw [if_pos bP] at H;have wU : decide (0 < I1) = true := decide_eq_true bP;clear bP;obtain ⟨MB, AH⟩ : ∃ j_ : Int, (wrap64 (I1 - 1)) = j_ := ⟨_, rfl⟩
               replace H : (if 0 ≤ (MB) then (if (MB) < (u0.length : Int) then (if ((Op.bytesLess ((rdOf ByteArray.empty u0 (MB)).toList) ((rdOf ByteArray.empty u0 I1).toList)) = true) then (qaB.l0 k2 u0 (u0.length : Int) (wrap64 (I1 + 1)) false E0 u0 B0) else (some false)) else (none)) else (none)) = some r := by first | (rw [AH] at H; exact H) | (simp only [AH] at H ⊢; exact H)
               (try rw [AH] at JI)
               (try rw [AH] at GY)
               have Nf : (IntKind.i64.wrap (I1 - 1)) = MB := (qbw _).trans AH
               by_cases oQ : 0 ≤ (MB)
               ·rw [if_pos oQ] at H;have gT : decide (0 ≤ (MB)) = true := decide_eq_true oQ;clear oQ
                by_cases xd : (MB) < (u0.length : Int)
                ·rw [if_pos xd] at H;have c58b0 : decide ((MB) < (u0.length : Int)) = true := decide_eq_true xd;clear xd
                 by_cases c59 : ((Op.bytesLess ((rdOf ByteArray.empty u0 (MB)).toList) ((rdOf ByteArray.empty u0 I1).toList)) = true)
                 ·rw [if_pos c59] at H;have VY : (Op.bytesLess ((rdOf ByteArray.empty u0 (MB)).toList) ((rdOf ByteArray.empty u0 I1).toList)) = true := c59;clear c59;have H' := z_ H;clear H;have XA : 0 ≤ (I1 : Int) := of_decide_eq_true zaN;have FA : I1 < (u0.length : Int) := of_decide_eq_true zaN;obtain ⟨SC, oI, Z4⟩ := Kd.qbA d5.o I1 XA FA
                  cases oI
                  replace Z4 := (HB.o.cell (World.block_lt_of_cell? w _ Z4)).trans Z4;replace XA := eq_true XA;replace FA := eq_true FA
                  go_wp2_with (first | ((with_reducible refine qaD (f := 46) rfl ?_); refine qbk (some 59) rfl rfl Try.func46 zbS rfl #[.string (rdOf ByteArray.empty u0 I1)] rfl zao ?_; (with_reducible refine (qbV.calls (rdOf ByteArray.empty u0 I1) true _ JI.o).mono ?_); rintro e w' ⟨rfl, ⟨nd, rfl⟩⟩; refine ⟨_, rfl, ?_⟩; have kS : wr.cell? ⟨L0, 0, none⟩ = some (.bool false) := (qac C0.o 0).trans rfl; have WQ : wr.cell? ⟨L0, 1, none⟩ = some (.slice Y0 E0.length Z0) := (qac C0.o 1).trans rfl; have YR : wr.cell? ⟨L0, 2, none⟩ = some (.slice (some SC) u0.length W0) := (qac C0.o 2).trans rfl; have NR : wr.cell? ⟨L0, 3, none⟩ = some (.slice X0 B0.length R0) := (qac C0.o 3).trans rfl; have jS := qab C0.o 0; have OQ := qab C0.o 1; have AR := qab C0.o 2; have CQ := qab C0.o 3; have jD : 0 ≤ (I1 : Int) := of_decide_eq_true zaN; have bD : I1 < (B0.length : Int) := of_decide_eq_true zaN; obtain ⟨zO, ML, E6⟩ := Kd.qbN g6.o I1 jD bD; cases ML; replace E6 := (HB.o.cell (World.block_lt_of_cell? w _ E6)).trans E6; replace jD := eq_true jD; replace bD := eq_true bD) | (go_at_call 72; (with_reducible refine (qaX.calls (rd B0 I1) 0 49 true _ GY.o).mono ?_); rintro e w' ⟨rfl, ⟨nd, rfl⟩⟩; have DL : 0 ≤ ((MB) : Int) := of_decide_eq_true zaN; have GL : (MB) < (u0.length : Int) := of_decide_eq_true zaN; obtain ⟨mQ, RU, bB⟩ := Kd.qbA d5.o (MB) DL GL; obtain rfl : SC = mQ := (by injection RU); replace bB := (HB.o.cell (World.block_lt_of_cell? w _ bB)).trans bB; replace DL := eq_true DL; replace GL := eq_true GL))
                  go_roundg k2
                  case measure => have := eO.o; have := p7.o; omega
                  case rel => exact ⟨(wrap64 (I1 + 1)), zbs, H', ⟨zbw⟩, ⟨by (with_reducible repeat (first | refine qaj ?_ _ | refine qai ?_ | refine qah ?_ _)); exact C0.o⟩, ⟨zab U4.o⟩⟩
                 ·rw [if_neg c59] at H;have VY : (Op.bytesLess ((rdOf ByteArray.empty u0 (MB)).toList) ((rdOf ByteArray.empty u0 I1).toList)) = false := by simpa using c59
                  clear c59;obtain rfl := Option.some.inj H;have XA : 0 ≤ (I1 : Int) := of_decide_eq_true zaN;have FA : I1 < (u0.length : Int) := of_decide_eq_true zaN;obtain ⟨SC, oI, Z4⟩ := Kd.qbA d5.o I1 XA FA
                  cases oI
                  replace Z4 := (HB.o.cell (World.block_lt_of_cell? w _ Z4)).trans Z4;replace XA := eq_true XA;replace FA := eq_true FA
                  go_wp2_with (first | ((with_reducible refine qaD (f := 46) rfl ?_); refine qbk (some 59) rfl rfl Try.func46 zbS rfl #[.string (rdOf ByteArray.empty u0 I1)] rfl zao ?_; (with_reducible refine (qbV.calls (rdOf ByteArray.empty u0 I1) true _ JI.o).mono ?_); rintro e w' ⟨rfl, ⟨nd, rfl⟩⟩; refine ⟨_, rfl, ?_⟩; have sb : wr.cell? ⟨L0, 0, none⟩ = some (.bool false) := (qac C0.o 0).trans rfl; have fb : wr.cell? ⟨L0, 1, none⟩ = some (.slice Y0 E0.length Z0) := (qac C0.o 1).trans rfl; have xb : wr.cell? ⟨L0, 2, none⟩ = some (.slice (some SC) u0.length W0) := (qac C0.o 2).trans rfl; have Nd : wr.cell? ⟨L0, 3, none⟩ = some (.slice X0 B0.length R0) := (qac C0.o 3).trans rfl; have Ad := qab C0.o 0; have tc := qab C0.o 1; have oc := qab C0.o 2; have pc := qab C0.o 3; have jD : 0 ≤ (I1 : Int) := of_decide_eq_true zaN; have bD : I1 < (B0.length : Int) := of_decide_eq_true zaN; obtain ⟨zO, ML, E6⟩ := Kd.qbN g6.o I1 jD bD; cases ML; replace E6 := (HB.o.cell (World.block_lt_of_cell? w _ E6)).trans E6; replace jD := eq_true jD; replace bD := eq_true bD) | (go_at_call 72; (with_reducible refine (qaX.calls (rd B0 I1) 0 49 true _ GY.o).mono ?_); rintro e w' ⟨rfl, ⟨nd, rfl⟩⟩; have DL : 0 ≤ ((MB) : Int) := of_decide_eq_true zaN; have GL : (MB) < (u0.length : Int) := of_decide_eq_true zaN; obtain ⟨mQ, RU, bB⟩ := Kd.qbA d5.o (MB) DL GL; obtain rfl : SC = mQ := (by injection RU); replace bB := (HB.o.cell (World.block_lt_of_cell? w _ bB)).trans bB; replace DL := eq_true DL; replace GL := eq_true GL))
                  go_ret
                  exact ⟨by first | rfl | (simp [qb8, qb9] <;> rfl) | (simp only [← AH]; first | rfl | (simp [qb8, qb9] <;> rfl)) | (simp [*, qb8, qb9] <;> rfl), zab U4.o⟩
                ·rw [if_neg xd] at H;exact absurd H zbW
               ·rw [if_neg oQ] at H;exact absurd H zbW
              ·rw [if_neg bP] at H;have wU : decide (0 < I1) = false := decide_eq_false bP;clear bP;have H' := z_ H;clear H;have XA : 0 ≤ (I1 : Int) := of_decide_eq_true zaN;have FA : I1 < (u0.length : Int) := of_decide_eq_true zaN;obtain ⟨SC, oI, Z4⟩ := Kd.qbA d5.o I1 XA FA
               cases oI
               replace Z4 := (HB.o.cell (World.block_lt_of_cell? w _ Z4)).trans Z4;replace XA := eq_true XA;replace FA := eq_true FA
               go_wp2_with (first | ((with_reducible refine qaD (f := 46) rfl ?_); refine qbk (some 59) rfl rfl Try.func46 zbS rfl #[.string (rdOf ByteArray.empty u0 I1)] rfl zao ?_; (with_reducible refine (qbV.calls (rdOf ByteArray.empty u0 I1) true _ JI.o).mono ?_); rintro e w' ⟨rfl, ⟨nd, rfl⟩⟩; refine ⟨_, rfl, ?_⟩; have CS : wr.cell? ⟨L0, 0, none⟩ = some (.bool false) := (qac C0.o 0).trans rfl; have bR : wr.cell? ⟨L0, 1, none⟩ = some (.slice Y0 E0.length Z0) := (qac C0.o 1).trans rfl; have zS : wr.cell? ⟨L0, 2, none⟩ = some (.slice (some SC) u0.length W0) := (qac C0.o 2).trans rfl; have pS : wr.cell? ⟨L0, 3, none⟩ = some (.slice X0 B0.length R0) := (qac C0.o 3).trans rfl; have MQ := qab C0.o 0; have qS := qab C0.o 1; have nR := qab C0.o 2; have EQ := qab C0.o 3; have jD : 0 ≤ (I1 : Int) := of_decide_eq_true zaN; have bD : I1 < (B0.length : Int) := of_decide_eq_true zaN; obtain ⟨zO, ML, E6⟩ := Kd.qbN g6.o I1 jD bD; cases ML; replace E6 := (HB.o.cell (World.block_lt_of_cell? w _ E6)).trans E6; replace jD := eq_true jD; replace bD := eq_true bD) | (go_at_call 72; (with_reducible refine (qaX.calls (rd B0 I1) 0 49 true _ GY.o).mono ?_); rintro e w' ⟨rfl, ⟨nd, rfl⟩⟩))
               go_roundg k2
               case measure => have := eO.o; have := p7.o; omega
               case rel => exact ⟨(wrap64 (I1 + 1)), zbs, H', ⟨zbw⟩, ⟨by (with_reducible repeat (first | refine qaj ?_ _ | refine qai ?_ | refine qah ?_ _)); exact C0.o⟩, ⟨zab U4.o⟩⟩
             ·replace xK := Bool.eq_false_iff.mpr xK;subst xK;have H1 : (some false) = some r := zaK;clear H;have H := H1;clear H1;obtain rfl := Option.some.inj H;have XA : 0 ≤ (I1 : Int) := of_decide_eq_true zaN;have FA : I1 < (u0.length : Int) := of_decide_eq_true zaN;obtain ⟨SC, oI, Z4⟩ := Kd.qbA d5.o I1 XA FA
              cases oI
              replace Z4 := (HB.o.cell (World.block_lt_of_cell? w _ Z4)).trans Z4;replace XA := eq_true XA;replace FA := eq_true FA
              go_wp2_with (first | ((with_reducible refine qaD (f := 46) rfl ?_); refine qbk (some 59) rfl rfl Try.func46 zbS rfl #[.string (rdOf ByteArray.empty u0 I1)] rfl zao ?_; (with_reducible refine (qbV.calls (rdOf ByteArray.empty u0 I1) true _ JI.o).mono ?_); rintro e w' ⟨rfl, ⟨nd, rfl⟩⟩; refine ⟨_, rfl, ?_⟩; have Jc : wr.cell? ⟨L0, 0, none⟩ = some (.bool false) := (qac C0.o 0).trans rfl; have Za : wr.cell? ⟨L0, 1, none⟩ = some (.slice Y0 E0.length Z0) := (qac C0.o 1).trans rfl; have ib : wr.cell? ⟨L0, 2, none⟩ = some (.slice (some SC) u0.length W0) := (qac C0.o 2).trans rfl; have od : wr.cell? ⟨L0, 3, none⟩ = some (.slice X0 B0.length R0) := (qac C0.o 3).trans rfl; have pd := qab C0.o 0; have Rc := qab C0.o 1; have ld := qab C0.o 2; have yb := qab C0.o 3; have jD : 0 ≤ (I1 : Int) := of_decide_eq_true zaN; have bD : I1 < (B0.length : Int) := of_decide_eq_true zaN; obtain ⟨zO, ML, E6⟩ := Kd.qbN g6.o I1 jD bD; cases ML; replace E6 := (HB.o.cell (World.block_lt_of_cell? w _ E6)).trans E6; replace jD := eq_true jD; replace bD := eq_true bD) | (go_at_call 72; (with_reducible refine (qaX.calls (rd B0 I1) 0 49 false _ GY.o).mono ?_); rintro e w' ⟨rfl, ⟨nd, rfl⟩⟩))
              go_ret
              exact ⟨zaF, zab U4.o⟩
            ·rw [if_neg AM] at H;exact absurd H zbW
           ·replace c51 := Bool.eq_false_iff.mpr c51;subst c51;have H1 : (some false) = some r := zaK;clear H;have H := H1;clear H1;obtain rfl := Option.some.inj H;have XA : 0 ≤ (I1 : Int) := of_decide_eq_true zaN;have FA : I1 < (u0.length : Int) := of_decide_eq_true zaN;obtain ⟨SC, oI, Z4⟩ := Kd.qbA d5.o I1 XA FA
            cases oI
            replace Z4 := (HB.o.cell (World.block_lt_of_cell? w _ Z4)).trans Z4;replace XA := eq_true XA;replace FA := eq_true FA
            go_wp2_with (first | ((with_reducible refine qaD (f := 46) rfl ?_); refine qbk (some 59) rfl rfl Try.func46 zbS rfl #[.string (rdOf ByteArray.empty u0 I1)] rfl zao ?_; (with_reducible refine (qbV.calls (rdOf ByteArray.empty u0 I1) false _ JI.o).mono ?_); rintro e w' ⟨rfl, ⟨nd, rfl⟩⟩; refine ⟨_, rfl, ?_⟩))
            go_ret
            exact ⟨zaF, zab U4.o⟩
          ·rw [if_neg c49] at H;exact absurd H zbW
         ·rw [if_neg OR] at H;exact absurd H zbW
        ·rw [if_neg EI] at H;have mN : decide (I1 < (u0.length : Int)) = false := decide_eq_false EI;clear EI;obtain rfl := Option.some.inj H
         go_wp2
         go_ret
         exact ⟨zaF, zab U4.o⟩
end Go.Proofs.Ytcdokcpiahbejaa.X
namespace Go.Proofs.Ytcdokcpiahbejaa.X
open Go.RowKit Go.Proofs.YtcdokcpiahbejaaW.PrintWords Go.Proofs.YtcdokcpiahbejaaW.PrintLast Go.Proofs.YtcdokcpiahbejaaW.PrintMore
attribute [local go_sem] qax qay qaz qat qau qaJ qaK qam qan qav qaw
set_option linter.unusedVariables false
set_option linter.unusedSimpArgs false
def qby.f (G1 : Bool) (E0 : List (S77)) (u0 : List ByteArray) (B0 : List Int) : Option (Bool) := if G1 = true then (some false) else (if (E0.length : Int) = 0 then (if (u0.length : Int) = 0 then (some ((B0.length : Int) == 0)) else (some false)) else (some false))
set_option maxHeartbeats 8000000 in
set_option maxRecDepth 100000 in
theorem qby.calls (G1 : Bool) (Y0 : Option Addr) (Z0 : Nat) (E0 : List (S77)) (D1 : Option Addr) (W0 : Nat) (u0 : List ByteArray) (X0 : Option Addr) (R0 : Nat) (B0 : List Int) (r : Bool) (w : World) (M7 : Kd.C k77 w Y0 E0.length E0) (J7 : E0.length ≤ Z0) (P7 : Kd.C Kd.string w D1 u0.length u0) (d8 : u0.length ≤ W0) (b8 : Kd.C (Kd.int .i64) w X0 B0.length B0) (S7 : B0.length ≤ R0) (h : qby.f G1 E0 u0 B0 = some r) :
  Calls Try.prog 91 #[.agg #[.bool G1, .slice Y0 E0.length Z0, .slice D1 u0.length W0, .slice X0 B0.length R0]] w fun e w' => e = .returned (.bool r) ∧ Below w.heap.size w w' := by
 have JN := Try.underlying75;have U6 := z_ M7;have j7 := z_ J7;clear M7 J7;have d5 := z_ P7;have j9 := z_ d8;clear P7 d8;have g6 := z_ b8;have n9 := z_ S7;clear b8 S7;have HB := z_ (Below.refl w.heap.size w);have H : (if G1 = true then (some false) else (if (E0.length : Int) = 0 then (if (u0.length : Int) = 0 then (some ((B0.length : Int) == 0)) else (some false)) else (some false))) = some r := h;clear h
 by_cases c2 : G1 = true
 ·subst c2;have H1 : (some false) = some r := zbE;clear H;have H := H1;clear H1;obtain rfl := Option.some.inj H
  go_enter Try.func91, Try.ntmps91
  go_wp2_with (first | ((with_reducible refine qaG (N := 1) rfl ?_); (try (refine qbe zbX ?_; dsimp only)); refine qaS zbX (N := 1) zbX (cs := #[.bool true, .slice Y0 E0.length Z0, .slice D1 u0.length W0, .slice X0 B0.length R0]) (t := 75) zbv ?_; intro R5 hg w3 hbox hb; have H0 := z_ (qad zaq hb); have I0 := z_ (hbox); have K0 := z_ ((zal : w.heap.size ≤ R5)); have U0 := z_ ((zal : w.heap.size ≤ R5)); clear HB; have HB := H0; have J4 := I0; have wP := K0; have WG := U0; clear H0 I0 K0 U0 hb hbox hg; have gV : w3.cell? ⟨R5, 0, none⟩ = some (.bool true) := (qac J4.o 0).trans rfl; have KW : w3.cell? ⟨R5, 1, none⟩ = some (.slice Y0 E0.length Z0) := (qac J4.o 1).trans rfl; have EU : w3.cell? ⟨R5, 2, none⟩ = some (.slice D1 u0.length W0) := (qac J4.o 2).trans rfl; have XU : w3.cell? ⟨R5, 3, none⟩ = some (.slice X0 B0.length R0) := (qac J4.o 3).trans rfl; have HV := qab J4.o 0; have nX := qab J4.o 1; have AW := qab J4.o 2; have kX := qab J4.o 3))
  go_ret
  exact ⟨zaF, zab WG.o⟩
 ·replace c2 := Bool.eq_false_iff.mpr c2;subst c2;have H1 : (if (E0.length : Int) = 0 then (if (u0.length : Int) = 0 then (some ((B0.length : Int) == 0)) else (some false)) else (some false)) = some r := zaK;clear H;have H := H1;clear H1
  by_cases c5 : (E0.length : Int) = 0
  ·rw [if_pos c5] at H;have fE : ((E0.length : Int) == 0) = true := beq_iff_eq.mpr c5;have KN : ((E0.length : Int) != 0) = false := bne_eq_false_iff_eq.mpr c5;clear c5
   by_cases c6 : (u0.length : Int) = 0
   ·rw [if_pos c6] at H;have mH : ((u0.length : Int) == 0) = true := beq_iff_eq.mpr c6;have uL : ((u0.length : Int) != 0) = false := bne_eq_false_iff_eq.mpr c6;clear c6;obtain rfl := Option.some.inj H
    go_enter Try.func91, Try.ntmps91
    go_wp2_with (first | ((with_reducible refine qaG (N := 1) rfl ?_); (try (refine qbe zbX ?_; dsimp only)); refine qaS zbX (N := 1) zbX (cs := #[.bool false, .slice Y0 E0.length Z0, .slice D1 u0.length W0, .slice X0 B0.length R0]) (t := 75) zbv ?_; intro R5 hg w7 hbox hb; have H0 := z_ (qad zaq hb); have I0 := z_ (hbox); have K0 := z_ ((zal : w.heap.size ≤ R5)); have U0 := z_ ((zal : w.heap.size ≤ R5)); clear HB; have HB := H0; have J4 := I0; have wP := K0; have WG := U0; clear H0 I0 K0 U0 hb hbox hg; have MV : w7.cell? ⟨R5, 0, none⟩ = some (.bool false) := (qac J4.o 0).trans rfl; have JV : w7.cell? ⟨R5, 1, none⟩ = some (.slice Y0 E0.length Z0) := (qac J4.o 1).trans rfl; have CV : w7.cell? ⟨R5, 2, none⟩ = some (.slice D1 u0.length W0) := (qac J4.o 2).trans rfl; have zW : w7.cell? ⟨R5, 3, none⟩ = some (.slice X0 B0.length R0) := (qac J4.o 3).trans rfl; have mW := qab J4.o 0; have PU := qab J4.o 1; have TW := qab J4.o 2; have WU := qab J4.o 3))
    go_ret
    exact ⟨zaF, zab WG.o⟩
   ·rw [if_neg c6] at H;have mH : ((u0.length : Int) == 0) = false := beq_eq_false_iff_ne.mpr c6;have uL : ((u0.length : Int) != 0) = true := bne_iff_ne.mpr c6;have Yd : ¬ (u0 = []) := fun h_ => c6 (by rw [h_]; rfl)
    obtain rfl := Option.some.inj H
    go_enter Try.func91, Try.ntmps91
    go_wp2_with (first | ((with_reducible refine qaG (N := 1) rfl ?_); (try (refine qbe zbX ?_; dsimp only)); refine qaS zbX (N := 1) zbX (cs := #[.bool false, .slice Y0 E0.length Z0, .slice D1 u0.length W0, .slice X0 B0.length R0]) (t := 75) zbv ?_; intro R5 hg w9 hbox hb; have H0 := z_ (qad zaq hb); have I0 := z_ (hbox); have K0 := z_ ((zal : w.heap.size ≤ R5)); have U0 := z_ ((zal : w.heap.size ≤ R5)); clear HB; have HB := H0; have J4 := I0; have wP := K0; have WG := U0; clear H0 I0 K0 U0 hb hbox hg; have kG : w9.cell? ⟨R5, 0, none⟩ = some (.bool false) := (qac J4.o 0).trans rfl; have wM : w9.cell? ⟨R5, 1, none⟩ = some (.slice Y0 E0.length Z0) := (qac J4.o 1).trans rfl; have PM : w9.cell? ⟨R5, 2, none⟩ = some (.slice D1 u0.length W0) := (qac J4.o 2).trans rfl; have aM : w9.cell? ⟨R5, 3, none⟩ = some (.slice X0 B0.length R0) := (qac J4.o 3).trans rfl; have rG := qab J4.o 0; have NM := qab J4.o 1; have qM := qab J4.o 2; have pM := qab J4.o 3))
    go_ret
    exact ⟨zaF, zab WG.o⟩
  ·rw [if_neg c5] at H;have fE : ((E0.length : Int) == 0) = false := beq_eq_false_iff_ne.mpr c5;have KN : ((E0.length : Int) != 0) = true := bne_iff_ne.mpr c5;have Dg : ¬ (E0 = []) := fun h_ => c5 (by rw [h_]; rfl)
   obtain rfl := Option.some.inj H
   go_enter Try.func91, Try.ntmps91
   go_wp2_with (first | ((with_reducible refine qaG (N := 1) rfl ?_); (try (refine qbe zbX ?_; dsimp only)); refine qaS zbX (N := 1) zbX (cs := #[.bool false, .slice Y0 E0.length Z0, .slice D1 u0.length W0, .slice X0 B0.length R0]) (t := 75) zbv ?_; intro R5 hg lL hbox hb; have H0 := z_ (qad zaq hb); have I0 := z_ (hbox); have K0 := z_ ((zal : w.heap.size ≤ R5)); have U0 := z_ ((zal : w.heap.size ≤ R5)); clear HB; have HB := H0; have J4 := I0; have wP := K0; have WG := U0; clear H0 I0 K0 U0 hb hbox hg; have zC : lL.cell? ⟨R5, 0, none⟩ = some (.bool false) := (qac J4.o 0).trans rfl; have AC : lL.cell? ⟨R5, 1, none⟩ = some (.slice Y0 E0.length Z0) := (qac J4.o 1).trans rfl; have WB : lL.cell? ⟨R5, 2, none⟩ = some (.slice D1 u0.length W0) := (qac J4.o 2).trans rfl; have sR : lL.cell? ⟨R5, 3, none⟩ = some (.slice X0 B0.length R0) := (qac J4.o 3).trans rfl; have kC := qab J4.o 0; have dC := qab J4.o 1; have YB := qab J4.o 2; have rR := qab J4.o 3))
   go_ret
   exact ⟨zaF, zab WG.o⟩
end Go.Proofs.Ytcdokcpiahbejaa.X
