import Derived.Test.YtcdokcpiahbejaaKFnRefs3
namespace Go.Proofs.Ytcdokcpiahbejaa.X
open Go.RowKit Go.Proofs.YtcdokcpiahbejaaW.PrintWords Go.Proofs.YtcdokcpiahbejaaW.PrintLast Go.Proofs.YtcdokcpiahbejaaW.PrintMore
attribute [local go_sem] qax qay qaz qat qau qaJ qaK qam qan qav qaw
set_option linter.unusedVariables false
set_option linter.unusedSimpArgs false
mutual
def qar.j0 : Nat → Bool → Bool → List (S77) → List ByteArray → List Int → Option (Bool)
 | 0, _, _, _, _, _ => none
 | k + 1, x48, x110000, x110001, x110002, x110003 => if x48 = true then (some false) else (qar.l0 k 0 x110000 x110001 x110002 x110003)
def qar.l0 : Nat → Int → Bool → List (S77) → List ByteArray → List Int → Option (Bool)
 | 0, _, _, _, _, _ => none
 | k + 1, x3, x110000, x110001, x110002, x110003 => if x3 < (x110003.length : Int) then (if 0 ≤ x3 then ((qaE.f (rd x110003 x3) 0 49).bind fun QV => (if QV = true then (if x3 < (x110002.length : Int) then ((qaE.f ((rdOf ByteArray.empty x110002 x3).size : Int) 1 30).bind fun t117 => (if t117 = true then (if x3 > 0 then (if 0 ≤ (wrap64 (x3 - 1)) then (if (wrap64 (x3 - 1)) < (x110002.length : Int) then (if ((Op.bytesLess ((rdOf ByteArray.empty x110002 (wrap64 (x3 - 1))).toList) ((rdOf ByteArray.empty x110002 x3).toList)) = true) then (qar.l0 k (wrap64 (x3 + 1)) x110000 x110001 x110002 x110003) else (some false)) else (none)) else (none)) else (qar.l0 k (wrap64 (x3 + 1)) x110000 x110001 x110002 x110003)) else (some false))) else (none)) else (some false))) else (none)) else (some true)
end
def qar.f (k : Nat) (G1 : Bool) (E0 : List (S77)) (u0 : List ByteArray) (B0 : List Int) : Option (Bool) := (qby.f G1 E0 u0 B0).bind fun ZP => (if ZP = true then (some true) else (if G1 = true then ((qaE.f (E0.length : Int) 1 3).bind fun RH => (if RH = true then ((qaA.f k E0).bind fun aH => (if aH = true then (if (u0.length : Int) = 0 then (some ((B0.length : Int) == 0)) else (some false)) else (some false))) else (some false))) else (if (E0.length : Int) = 0 then ((qaE.f (B0.length : Int) 1 4).bind fun AI => (if AI = true then (qar.j0 k ((u0.length : Int) != (B0.length : Int)) G1 E0 u0 B0) else (qar.j0 k true G1 E0 u0 B0))) else (qar.j0 k true G1 E0 u0 B0))))
theorem qar.qbW : ∀ k, (∀ y0 y1 y2 y3 y4, LeO (qar.j0 k y0 y1 y2 y3 y4) (qar.j0 (k + 1) y0 y1 y2 y3 y4)) ∧ (∀ y0 y1 y2 y3 y4, LeO (qar.l0 k y0 y1 y2 y3 y4) (qar.l0 (k + 1) y0 y1 y2 y3 y4))
 | 0 => ⟨fun _ _ _ _ _ r h => by simp [qar.j0] at h, fun _ _ _ _ _ r h => by simp [qar.l0] at h⟩
 | k + 1 => by
  obtain ⟨d6, ih1⟩ := qar.qbW k;refine ⟨?_, ?_⟩
  ·intro y0 y1 y2 y3 y4;unfold qar.j0
   repeat' first
   | (with_reducible exact d6 _ _ _ _ _)
   | (with_reducible exact ih1 _ _ _ _ _)
   | (with_reducible exact qaA.mono _ _)
   | (with_reducible exact LeO.refl _)
   | (with_reducible exact LeO.none _)
   | (with_reducible refine LeO.ite ?_ ?_)
   | (with_reducible refine LeO.bind ?_ (fun _ => ?_))
   | exact d6 _ _ _ _ _
   | exact ih1 _ _ _ _ _
   | exact qaA.mono _ _
   | exact LeO.none _
   | refine LeO.ite ?_ ?_
   | refine LeO.bind ?_ (fun _ => ?_)
  ·intro y0 y1 y2 y3 y4;unfold qar.l0
   repeat' first
   | (with_reducible exact d6 _ _ _ _ _)
   | (with_reducible exact ih1 _ _ _ _ _)
   | (with_reducible exact qaA.mono _ _)
   | (with_reducible exact LeO.refl _)
   | (with_reducible exact LeO.none _)
   | (with_reducible refine LeO.ite ?_ ?_)
   | (with_reducible refine LeO.bind ?_ (fun _ => ?_))
   | exact d6 _ _ _ _ _
   | exact ih1 _ _ _ _ _
   | exact qaA.mono _ _
   | exact LeO.none _
   | refine LeO.ite ?_ ?_
   | refine LeO.bind ?_ (fun _ => ?_)
def qar.T10 : Bool × List (List Nat × List Nat) := (true, [([], []), ([0], [0]), ([], []), ([1, 2], [1, 2]), ([3], [3]), ([4], [4]), ([5], [5]), ([6, 5], [6]), ([7], [7]), ([8, 7], [7, 8]), ([7], [7]), ([9, 10, 7], [7, 9, 10]), ([11, 7], [7, 11]), ([12, 7], [7, 12]), ([13, 7, 7], [7, 13]), ([14, 7], [7, 14]), ([7, 15], [7, 15]), ([16, 14], [16]), ([17], [17]), ([18, 17], [17, 18]), ([19, 17, 17], [17, 19]), ([20], [20]), ([21, 20], [20, 21]), ([20], [20]), ([23, 20], [20, 23]), ([22, 24, 20], [20, 22, 24]), ([25, 20], [20, 25]), ([20], [20]), ([27, 20], [20, 27]), ([20], [20]), ([28, 29, 20], [20, 28, 29]), ([30, 20], [20, 30]), ([26, 31, 20], [20, 26, 31]), ([20, 32, 17], [17, 20, 32]), ([17, 33], [17, 33])])
def qar.B10 : List Nat := [0, 1, 0, 7, 15, 31, 63, 127, 255, 511, 255, 2047, 4095, 8191, 16383, 32767, 65535, 131071, 262143, 524287, 1048575, 2097151, 4194303, 2097151, 10485759, 33554431, 67108863, 2097151, 136314879, 2097151, 941621247, 2015363071, 4294967295, 8589934591, 17179869183]
theorem qar.tab10 : rtab .any (opsOf Try.f90 10) = qar.T10 := zbS
theorem qar.qjv : qbv qar.T10.2 qar.B10 = true := zbS
set_option maxHeartbeats 8000000 in
set_option maxRecDepth 100000 in
theorem qar.calls (k : Nat) (G1 : Bool) (Y0 : Option Addr) (Z0 : Nat) (E0 : List (S77)) (D1 : Option Addr) (W0 : Nat) (u0 : List ByteArray) (X0 : Option Addr) (R0 : Nat) (B0 : List Int) (r : Bool) (w : World) (M7 : Kd.C k77 w Y0 E0.length E0) (J7 : E0.length ≤ Z0) (P7 : Kd.C Kd.string w D1 u0.length u0) (d8 : u0.length ≤ W0) (b8 : Kd.C (Kd.int .i64) w X0 B0.length B0) (S7 : B0.length ≤ R0) (h : qar.f k G1 E0 u0 B0 = some r) :
  Calls Try.prog 90 #[.agg #[.bool G1, .slice Y0 E0.length Z0, .slice D1 u0.length W0, .slice X0 B0.length R0]] w fun e w' => e = .returned (.bool r) ∧ Below w.heap.size w w' := by
 have JN := Try.underlying75;have U6 := z_ M7;have j7 := z_ J7;clear M7 J7;have d5 := z_ P7;have j9 := z_ d8;clear P7 d8;have g6 := z_ b8;have n9 := z_ S7;clear b8 S7;have HB := z_ (Below.refl w.heap.size w);have H : ((qby.f G1 E0 u0 B0).bind fun ZP => (if ZP = true then (some true) else (if G1 = true then ((qaE.f (E0.length : Int) 1 3).bind fun RH => (if RH = true then ((qaA.f k E0).bind fun aH => (if aH = true then (if (u0.length : Int) = 0 then (some ((B0.length : Int) == 0)) else (some false)) else (some false))) else (some false))) else (if (E0.length : Int) = 0 then ((qaE.f (B0.length : Int) 1 4).bind fun AI => (if AI = true then (qar.j0 k ((u0.length : Int) != (B0.length : Int)) G1 E0 u0 B0) else (qar.j0 k true G1 E0 u0 B0))) else (qar.j0 k true G1 E0 u0 B0))))) = some r := h;clear h;replace H := Option.bind_eq_some_iff.mp H;obtain ⟨ZP, LH, H⟩ := H;try dsimp only at H
 have A2 := z_ LH;clear LH
 by_cases c3 : ZP = true
 ·subst c3;have H1 : (some true) = some r := zbE;clear H;have H := H1;clear H1;obtain rfl := Option.some.inj H
  go_enter Try.func90, Try.ntmps90
  go_wp2_with (first | ((with_reducible refine qaG (N := 1) rfl ?_); (try (refine qbe zbX ?_; dsimp only)); refine qaS zbX (N := 1) zbX (cs := #[.bool G1, .slice Y0 E0.length Z0, .slice D1 u0.length W0, .slice X0 B0.length R0]) (t := 75) zbv ?_; intro J0 hg w4 hbox hb; have H0 := z_ (qad zaq hb); have I0 := z_ (hbox); have K0 := z_ ((zal : w.heap.size ≤ J0)); have U0 := z_ ((zal : w.heap.size ≤ J0)); clear HB; have HB := H0; have o0 := I0; have KI := K0; have V4 := U0; clear H0 I0 K0 U0 hb hbox hg; have fD : w4.cell? ⟨J0, 0, none⟩ = some (.bool G1) := (qac o0.o 0).trans rfl; have aD : w4.cell? ⟨J0, 1, none⟩ = some (.slice Y0 E0.length Z0) := (qac o0.o 1).trans rfl; have XG : w4.cell? ⟨J0, 2, none⟩ = some (.slice D1 u0.length W0) := (qac o0.o 2).trans rfl; have VG : w4.cell? ⟨J0, 3, none⟩ = some (.slice X0 B0.length R0) := (qac o0.o 3).trans rfl; have gD := qab o0.o 0; have kD := qab o0.o 1; have zG := qab o0.o 2; have LG := qab o0.o 3) | ((with_reducible refine qaD (f := 91) rfl ?_); refine qbk (some 5) rfl rfl Try.func91 zbS rfl #[.agg #[.bool G1, .slice Y0 E0.length Z0, .slice D1 u0.length W0, .slice X0 B0.length R0]] rfl zao ?_; (with_reducible refine (qby.calls G1 _ _ E0 _ _ u0 _ _ B0 true _ ?side1 ?side2 ?side3 ?side4 ?side5 ?side6 A2.o).mono ?_); (case side1 => exact zad (Kd.qaO U6.o HB.o)); (case side2 => exact j7.o); (case side3 => exact zad (Kd.qaO d5.o HB.o)); (case side4 => exact j9.o); (case side5 => exact zad (Kd.qaO g6.o HB.o)); (case side6 => exact n9.o); rintro e w6 ⟨rfl, hb⟩; refine ⟨_, rfl, ?_⟩; have H0 := z_ (qap (g := J0) (o := .cells #[.bool G1, .slice Y0 E0.length Z0, .slice D1 u0.length W0, .slice X0 B0.length R0] 75 (0, 0)) (zac o0.o) hb); have I0 := z_ (qad (zab V4.o) hb); clear o0 HB; have o0 := H0; have HB := I0; clear H0 I0; (try clear hb); (try clear hb2); (try clear hk); (try clear hi)))
  go_ret
  exact ⟨zaF, zab V4.o⟩
 ·replace c3 := Bool.eq_false_iff.mpr c3;subst c3;have H1 : (if G1 = true then ((qaE.f (E0.length : Int) 1 3).bind fun RH => (if RH = true then ((qaA.f k E0).bind fun aH => (if aH = true then (if (u0.length : Int) = 0 then (some ((B0.length : Int) == 0)) else (some false)) else (some false))) else (some false))) else (if (E0.length : Int) = 0 then ((qaE.f (B0.length : Int) 1 4).bind fun AI => (if AI = true then (qar.j0 k ((u0.length : Int) != (B0.length : Int)) G1 E0 u0 B0) else (qar.j0 k true G1 E0 u0 B0))) else (qar.j0 k true G1 E0 u0 B0))) = some r := zaK;clear H;have H := H1;clear H1
  by_cases c7 : G1 = true
  ·subst c7;have H1 : ((qaE.f (E0.length : Int) 1 3).bind fun RH => (if RH = true then ((qaA.f k E0).bind fun aH => (if aH = true then (if (u0.length : Int) = 0 then (some ((B0.length : Int) == 0)) else (some false)) else (some false))) else (some false))) = some r := zbE;clear H;have H := H1;clear H1;replace H := Option.bind_eq_some_iff.mp H;obtain ⟨RH, jT, H⟩ := H;try dsimp only at H
   have A8 := z_ jT;clear jT
   by_cases c9 : RH = true
   ·subst c9;have H1 : ((qaA.f k E0).bind fun aH => (if aH = true then (if (u0.length : Int) = 0 then (some ((B0.length : Int) == 0)) else (some false)) else (some false))) = some r := zbE;clear H;have H := H1;clear H1;replace H := Option.bind_eq_some_iff.mp H;obtain ⟨aH, iJ, H⟩ := H;try dsimp only at H
    have kR := z_ iJ;clear iJ
    by_cases c11 : aH = true
    ·subst c11;have H1 : (if (u0.length : Int) = 0 then (some ((B0.length : Int) == 0)) else (some false)) = some r := zbE;clear H;have H := H1;clear H1
     by_cases c12 : (u0.length : Int) = 0
     ·rw [if_pos c12] at H;have W9 : ((u0.length : Int) == 0) = true := beq_iff_eq.mpr c12;have NG : ((u0.length : Int) != 0) = false := bne_eq_false_iff_eq.mpr c12;clear c12;obtain rfl := Option.some.inj H
      go_enter Try.func90, Try.ntmps90
      go_wp2_with (first | ((with_reducible refine qaG (N := 1) rfl ?_); (try (refine qbe zbX ?_; dsimp only)); refine qaS zbX (N := 1) zbX (cs := #[.bool true, .slice Y0 E0.length Z0, .slice D1 u0.length W0, .slice X0 B0.length R0]) (t := 75) zbv ?_; intro J0 hg DI hbox hb; have H0 := z_ (qad zaq hb); have I0 := z_ (hbox); have K0 := z_ ((zal : w.heap.size ≤ J0)); have U0 := z_ ((zal : w.heap.size ≤ J0)); clear HB; have HB := H0; have o0 := I0; have KI := K0; have V4 := U0; clear H0 I0 K0 U0 hb hbox hg; have WA : DI.cell? ⟨J0, 0, none⟩ = some (.bool true) := (qac o0.o 0).trans rfl; have YA : DI.cell? ⟨J0, 1, none⟩ = some (.slice Y0 E0.length Z0) := (qac o0.o 1).trans rfl; have dB : DI.cell? ⟨J0, 2, none⟩ = some (.slice D1 u0.length W0) := (qac o0.o 2).trans rfl; have OA : DI.cell? ⟨J0, 3, none⟩ = some (.slice X0 B0.length R0) := (qac o0.o 3).trans rfl; have TA := qab o0.o 0; have PA := qab o0.o 1; have RA := qab o0.o 2; have JA := qab o0.o 3) | ((with_reducible refine qaD (f := 91) rfl ?_); refine qbk (some 5) rfl rfl Try.func91 zbS rfl #[.agg #[.bool true, .slice Y0 E0.length Z0, .slice D1 u0.length W0, .slice X0 B0.length R0]] rfl zao ?_; (with_reducible refine (qby.calls true _ _ E0 _ _ u0 _ _ B0 false _ ?side1 ?side2 ?side3 ?side4 ?side5 ?side6 A2.o).mono ?_); (case side1 => exact zad (Kd.qaO U6.o HB.o)); (case side2 => exact j7.o); (case side3 => exact zad (Kd.qaO d5.o HB.o)); (case side4 => exact j9.o); (case side5 => exact zad (Kd.qaO g6.o HB.o)); (case side6 => exact n9.o); rintro e jG ⟨rfl, hb⟩; refine ⟨_, rfl, ?_⟩; have H0 := z_ (qap (g := J0) (o := .cells #[.bool true, .slice Y0 E0.length Z0, .slice D1 u0.length W0, .slice X0 B0.length R0] 75 (0, 0)) (zac o0.o) hb); have I0 := z_ (qad (zab V4.o) hb); clear o0 HB; have o0 := H0; have HB := I0; clear H0 I0; (try clear hb); (try clear hb2); (try clear hk); (try clear hi); have SA : jG.cell? ⟨J0, 0, none⟩ = some (.bool true) := (qac o0.o 0).trans rfl; have OB : jG.cell? ⟨J0, 1, none⟩ = some (.slice Y0 E0.length Z0) := (qac o0.o 1).trans rfl; have PB : jG.cell? ⟨J0, 2, none⟩ = some (.slice D1 u0.length W0) := (qac o0.o 2).trans rfl; have jC : jG.cell? ⟨J0, 3, none⟩ = some (.slice X0 B0.length R0) := (qac o0.o 3).trans rfl; have NA := qab o0.o 0; have xC := qab o0.o 1; have fC := qab o0.o 2; have vC := qab o0.o 3) | ((with_reducible refine qaD (f := 63) rfl ?_); refine qbk (some 11) rfl rfl Try.func63 zbS rfl #[.int .i64 (E0.length : Int), .int .i64 1, .int .i64 3] rfl zao ?_; (with_reducible refine (qaE.calls (E0.length : Int) 1 3 true _ A8.o).mono ?_); rintro e w' ⟨rfl, ⟨nd, rfl⟩⟩; refine ⟨_, rfl, ?_⟩) | (go_at_call 106; (with_reducible refine (qaA.calls k _ _ E0 true _ ?side1 ?side2 kR.o).mono ?_); (case side1 => repeat (first | exact (Kd.qaO U6.o (zab V4.o)) | (with_reducible refine Kd.qep ?_ _) | (with_reducible refine Kd.qeq ?_ _) | (with_reducible refine Kd.qe2 ?_))); (case side2 => exact j7.o); rintro e nG ⟨rfl, hb⟩; have H0 := z_ (qap (g := J0) (o := .cells #[.bool true, .slice Y0 E0.length Z0, .slice D1 u0.length W0, .slice X0 B0.length R0] 75 (0, 0)) (zac o0.o) hb); have I0 := z_ (qad (zab V4.o) hb); clear o0 HB; have o0 := H0; have HB := I0; clear H0 I0; (try clear hb); (try clear hb2); (try clear hk); (try clear hi); have p9 : nG.cell? ⟨J0, 0, none⟩ = some (.bool true) := (qac o0.o 0).trans rfl; have BC : nG.cell? ⟨J0, 1, none⟩ = some (.slice Y0 E0.length Z0) := (qac o0.o 1).trans rfl; have VD : nG.cell? ⟨J0, 2, none⟩ = some (.slice D1 u0.length W0) := (qac o0.o 2).trans rfl; have ND : nG.cell? ⟨J0, 3, none⟩ = some (.slice X0 B0.length R0) := (qac o0.o 3).trans rfl; have q9 := qab o0.o 0; have UB := qab o0.o 1; have XD := qab o0.o 2; have RD := qab o0.o 3))
      go_ret
      exact ⟨zaF, zab V4.o⟩
     ·rw [if_neg c12] at H;have W9 : ((u0.length : Int) == 0) = false := beq_eq_false_iff_ne.mpr c12;have NG : ((u0.length : Int) != 0) = true := bne_iff_ne.mpr c12;have bK : ¬ (u0 = []) := fun h_ => c12 (by rw [h_]; rfl)
      obtain rfl := Option.some.inj H
      go_enter Try.func90, Try.ntmps90
      go_wp2_with (first | ((with_reducible refine qaG (N := 1) rfl ?_); (try (refine qbe zbX ?_; dsimp only)); refine qaS zbX (N := 1) zbX (cs := #[.bool true, .slice Y0 E0.length Z0, .slice D1 u0.length W0, .slice X0 B0.length R0]) (t := 75) zbv ?_; intro J0 hg CG hbox hb; have H0 := z_ (qad zaq hb); have I0 := z_ (hbox); have K0 := z_ ((zal : w.heap.size ≤ J0)); have U0 := z_ ((zal : w.heap.size ≤ J0)); clear HB; have HB := H0; have o0 := I0; have KI := K0; have V4 := U0; clear H0 I0 K0 U0 hb hbox hg; have rE : CG.cell? ⟨J0, 0, none⟩ = some (.bool true) := (qac o0.o 0).trans rfl; have XE : CG.cell? ⟨J0, 1, none⟩ = some (.slice Y0 E0.length Z0) := (qac o0.o 1).trans rfl; have tE : CG.cell? ⟨J0, 2, none⟩ = some (.slice D1 u0.length W0) := (qac o0.o 2).trans rfl; have GE : CG.cell? ⟨J0, 3, none⟩ = some (.slice X0 B0.length R0) := (qac o0.o 3).trans rfl; have WE := qab o0.o 0; have pE := qab o0.o 1; have cE := qab o0.o 2; have gE := qab o0.o 3) | ((with_reducible refine qaD (f := 91) rfl ?_); refine qbk (some 5) rfl rfl Try.func91 zbS rfl #[.agg #[.bool true, .slice Y0 E0.length Z0, .slice D1 u0.length W0, .slice X0 B0.length R0]] rfl zao ?_; (with_reducible refine (qby.calls true _ _ E0 _ _ u0 _ _ B0 false _ ?side1 ?side2 ?side3 ?side4 ?side5 ?side6 A2.o).mono ?_); (case side1 => exact zad (Kd.qaO U6.o HB.o)); (case side2 => exact j7.o); (case side3 => exact zad (Kd.qaO d5.o HB.o)); (case side4 => exact j9.o); (case side5 => exact zad (Kd.qaO g6.o HB.o)); (case side6 => exact n9.o); rintro e QH ⟨rfl, hb⟩; refine ⟨_, rfl, ?_⟩; have H0 := z_ (qap (g := J0) (o := .cells #[.bool true, .slice Y0 E0.length Z0, .slice D1 u0.length W0, .slice X0 B0.length R0] 75 (0, 0)) (zac o0.o) hb); have I0 := z_ (qad (zab V4.o) hb); clear o0 HB; have o0 := H0; have HB := I0; clear H0 I0; (try clear hb); (try clear hb2); (try clear hk); (try clear hi); have a8 : QH.cell? ⟨J0, 0, none⟩ = some (.bool true) := (qac o0.o 0).trans rfl; have i8 : QH.cell? ⟨J0, 1, none⟩ = some (.slice Y0 E0.length Z0) := (qac o0.o 1).trans rfl; have X7 : QH.cell? ⟨J0, 2, none⟩ = some (.slice D1 u0.length W0) := (qac o0.o 2).trans rfl; have TB : QH.cell? ⟨J0, 3, none⟩ = some (.slice X0 B0.length R0) := (qac o0.o 3).trans rfl; have Q7 := qab o0.o 0; have V7 := qab o0.o 1; have f8 := qab o0.o 2; have XB := qab o0.o 3) | ((with_reducible refine qaD (f := 63) rfl ?_); refine qbk (some 11) rfl rfl Try.func63 zbS rfl #[.int .i64 (E0.length : Int), .int .i64 1, .int .i64 3] rfl zao ?_; (with_reducible refine (qaE.calls (E0.length : Int) 1 3 true _ A8.o).mono ?_); rintro e w' ⟨rfl, ⟨nd, rfl⟩⟩; refine ⟨_, rfl, ?_⟩) | (go_at_call 106; (with_reducible refine (qaA.calls k _ _ E0 true _ ?side1 ?side2 kR.o).mono ?_); (case side1 => repeat (first | exact (Kd.qaO U6.o (zab V4.o)) | (with_reducible refine Kd.qep ?_ _) | (with_reducible refine Kd.qeq ?_ _) | (with_reducible refine Kd.qe2 ?_))); (case side2 => exact j7.o); rintro e KF ⟨rfl, hb⟩; have H0 := z_ (qap (g := J0) (o := .cells #[.bool true, .slice Y0 E0.length Z0, .slice D1 u0.length W0, .slice X0 B0.length R0] 75 (0, 0)) (zac o0.o) hb); have I0 := z_ (qad (zab V4.o) hb); clear o0 HB; have o0 := H0; have HB := I0; clear H0 I0; (try clear hb); (try clear hb2); (try clear hk); (try clear hi); have N8 : KF.cell? ⟨J0, 0, none⟩ = some (.bool true) := (qac o0.o 0).trans rfl; have Q8 : KF.cell? ⟨J0, 1, none⟩ = some (.slice Y0 E0.length Z0) := (qac o0.o 1).trans rfl; have L8 : KF.cell? ⟨J0, 2, none⟩ = some (.slice D1 u0.length W0) := (qac o0.o 2).trans rfl; have gF : KF.cell? ⟨J0, 3, none⟩ = some (.slice X0 B0.length R0) := (qac o0.o 3).trans rfl; have G8 := qab o0.o 0; have I8 := qab o0.o 1; have K8 := qab o0.o 2; have uD := qab o0.o 3))
      go_ret
      exact ⟨zaF, zab V4.o⟩
    ·replace c11 := Bool.eq_false_iff.mpr c11;subst c11;have H1 : (some false) = some r := zaK;clear H;have H := H1;clear H1;obtain rfl := Option.some.inj H
     go_enter Try.func90, Try.ntmps90
     go_wp2_with (first | ((with_reducible refine qaG (N := 1) rfl ?_); (try (refine qbe zbX ?_; dsimp only)); refine qaS zbX (N := 1) zbX (cs := #[.bool true, .slice Y0 E0.length Z0, .slice D1 u0.length W0, .slice X0 B0.length R0]) (t := 75) zbv ?_; intro J0 hg RL hbox hb; have H0 := z_ (qad zaq hb); have I0 := z_ (hbox); have K0 := z_ ((zal : w.heap.size ≤ J0)); have U0 := z_ ((zal : w.heap.size ≤ J0)); clear HB; have HB := H0; have o0 := I0; have KI := K0; have V4 := U0; clear H0 I0 K0 U0 hb hbox hg; have bC : RL.cell? ⟨J0, 0, none⟩ = some (.bool true) := (qac o0.o 0).trans rfl; have QB : RL.cell? ⟨J0, 1, none⟩ = some (.slice Y0 E0.length Z0) := (qac o0.o 1).trans rfl; have sC : RL.cell? ⟨J0, 2, none⟩ = some (.slice D1 u0.length W0) := (qac o0.o 2).trans rfl; have mC : RL.cell? ⟨J0, 3, none⟩ = some (.slice X0 B0.length R0) := (qac o0.o 3).trans rfl; have lC := qab o0.o 0; have DC := qab o0.o 1; have ZB := qab o0.o 2; have oC := qab o0.o 3) | ((with_reducible refine qaD (f := 91) rfl ?_); refine qbk (some 5) rfl rfl Try.func91 zbS rfl #[.agg #[.bool true, .slice Y0 E0.length Z0, .slice D1 u0.length W0, .slice X0 B0.length R0]] rfl zao ?_; (with_reducible refine (qby.calls true _ _ E0 _ _ u0 _ _ B0 false _ ?side1 ?side2 ?side3 ?side4 ?side5 ?side6 A2.o).mono ?_); (case side1 => exact zad (Kd.qaO U6.o HB.o)); (case side2 => exact j7.o); (case side3 => exact zad (Kd.qaO d5.o HB.o)); (case side4 => exact j9.o); (case side5 => exact zad (Kd.qaO g6.o HB.o)); (case side6 => exact n9.o); rintro e zI ⟨rfl, hb⟩; refine ⟨_, rfl, ?_⟩; have H0 := z_ (qap (g := J0) (o := .cells #[.bool true, .slice Y0 E0.length Z0, .slice D1 u0.length W0, .slice X0 B0.length R0] 75 (0, 0)) (zac o0.o) hb); have I0 := z_ (qad (zab V4.o) hb); clear o0 HB; have o0 := H0; have HB := I0; clear H0 I0; (try clear hb); (try clear hb2); (try clear hk); (try clear hi); have VA : zI.cell? ⟨J0, 0, none⟩ = some (.bool true) := (qac o0.o 0).trans rfl; have qC : zI.cell? ⟨J0, 1, none⟩ = some (.slice Y0 E0.length Z0) := (qac o0.o 1).trans rfl; have VE : zI.cell? ⟨J0, 2, none⟩ = some (.slice D1 u0.length W0) := (qac o0.o 2).trans rfl; have CD : zI.cell? ⟨J0, 3, none⟩ = some (.slice X0 B0.length R0) := (qac o0.o 3).trans rfl; have KA := qab o0.o 0; have rC := qab o0.o 1; have ZE := qab o0.o 2; have ID := qab o0.o 3) | ((with_reducible refine qaD (f := 63) rfl ?_); refine qbk (some 11) rfl rfl Try.func63 zbS rfl #[.int .i64 (E0.length : Int), .int .i64 1, .int .i64 3] rfl zao ?_; (with_reducible refine (qaE.calls (E0.length : Int) 1 3 true _ A8.o).mono ?_); rintro e w' ⟨rfl, ⟨nd, rfl⟩⟩; refine ⟨_, rfl, ?_⟩) | (go_at_call 106; (with_reducible refine (qaA.calls k _ _ E0 false _ ?side1 ?side2 kR.o).mono ?_); (case side1 => repeat (first | exact (Kd.qaO U6.o (zab V4.o)) | (with_reducible refine Kd.qep ?_ _) | (with_reducible refine Kd.qeq ?_ _) | (with_reducible refine Kd.qe2 ?_))); (case side2 => exact j7.o); rintro e qX ⟨rfl, hb⟩; have H0 := z_ (qap (g := J0) (o := .cells #[.bool true, .slice Y0 E0.length Z0, .slice D1 u0.length W0, .slice X0 B0.length R0] 75 (0, 0)) (zac o0.o) hb); have I0 := z_ (qad (zab V4.o) hb); clear o0 HB; have o0 := H0; have HB := I0; clear H0 I0; (try clear hb); (try clear hb2); (try clear hk); (try clear hi)))
     go_ret
     exact ⟨zaF, zab V4.o⟩
   ·replace c9 := Bool.eq_false_iff.mpr c9;subst c9;have H1 : (some false) = some r := zaK;clear H;have H := H1;clear H1;obtain rfl := Option.some.inj H
    go_enter Try.func90, Try.ntmps90
    go_wp2_with (first | ((with_reducible refine qaG (N := 1) rfl ?_); (try (refine qbe zbX ?_; dsimp only)); refine qaS zbX (N := 1) zbX (cs := #[.bool true, .slice Y0 E0.length Z0, .slice D1 u0.length W0, .slice X0 B0.length R0]) (t := 75) zbv ?_; intro J0 hg mO hbox hb; have H0 := z_ (qad zaq hb); have I0 := z_ (hbox); have K0 := z_ ((zal : w.heap.size ≤ J0)); have U0 := z_ ((zal : w.heap.size ≤ J0)); clear HB; have HB := H0; have o0 := I0; have KI := K0; have V4 := U0; clear H0 I0 K0 U0 hb hbox hg; have GD : mO.cell? ⟨J0, 0, none⟩ = some (.bool true) := (qac o0.o 0).trans rfl; have KD : mO.cell? ⟨J0, 1, none⟩ = some (.slice Y0 E0.length Z0) := (qac o0.o 1).trans rfl; have fF : mO.cell? ⟨J0, 2, none⟩ = some (.slice D1 u0.length W0) := (qac o0.o 2).trans rfl; have FD : mO.cell? ⟨J0, 3, none⟩ = some (.slice X0 B0.length R0) := (qac o0.o 3).trans rfl; have wF := qab o0.o 0; have vF := qab o0.o 1; have xE := qab o0.o 2; have yE := qab o0.o 3) | ((with_reducible refine qaD (f := 91) rfl ?_); refine qbk (some 5) rfl rfl Try.func91 zbS rfl #[.agg #[.bool true, .slice Y0 E0.length Z0, .slice D1 u0.length W0, .slice X0 B0.length R0]] rfl zao ?_; (with_reducible refine (qby.calls true _ _ E0 _ _ u0 _ _ B0 false _ ?side1 ?side2 ?side3 ?side4 ?side5 ?side6 A2.o).mono ?_); (case side1 => exact zad (Kd.qaO U6.o HB.o)); (case side2 => exact j7.o); (case side3 => exact zad (Kd.qaO d5.o HB.o)); (case side4 => exact j9.o); (case side5 => exact zad (Kd.qaO g6.o HB.o)); (case side6 => exact n9.o); rintro e w32 ⟨rfl, hb⟩; refine ⟨_, rfl, ?_⟩; have H0 := z_ (qap (g := J0) (o := .cells #[.bool true, .slice Y0 E0.length Z0, .slice D1 u0.length W0, .slice X0 B0.length R0] 75 (0, 0)) (zac o0.o) hb); have I0 := z_ (qad (zab V4.o) hb); clear o0 HB; have o0 := H0; have HB := I0; clear H0 I0; (try clear hb); (try clear hb2); (try clear hk); (try clear hi); have QD : w32.cell? ⟨J0, 0, none⟩ = some (.bool true) := (qac o0.o 0).trans rfl; have JD : w32.cell? ⟨J0, 1, none⟩ = some (.slice Y0 E0.length Z0) := (qac o0.o 1).trans rfl; have TD : w32.cell? ⟨J0, 2, none⟩ = some (.slice D1 u0.length W0) := (qac o0.o 2).trans rfl; have FE : w32.cell? ⟨J0, 3, none⟩ = some (.slice X0 B0.length R0) := (qac o0.o 3).trans rfl; have SE := qab o0.o 0; have eE := qab o0.o 1; have mE := qab o0.o 2; have zF := qab o0.o 3) | ((with_reducible refine qaD (f := 63) rfl ?_); refine qbk (some 11) rfl rfl Try.func63 zbS rfl #[.int .i64 (E0.length : Int), .int .i64 1, .int .i64 3] rfl zao ?_; (with_reducible refine (qaE.calls (E0.length : Int) 1 3 false _ A8.o).mono ?_); rintro e w' ⟨rfl, ⟨nd, rfl⟩⟩; refine ⟨_, rfl, ?_⟩))
    go_ret
    exact ⟨zaF, zab V4.o⟩
  ·replace c7 := Bool.eq_false_iff.mpr c7;subst c7;have H1 : (if (E0.length : Int) = 0 then ((qaE.f (B0.length : Int) 1 4).bind fun AI => (if AI = true then (qar.j0 k ((u0.length : Int) != (B0.length : Int)) false E0 u0 B0) else (qar.j0 k true false E0 u0 B0))) else (qar.j0 k true false E0 u0 B0)) = some r := zaK;clear H;have H := H1;clear H1;have BL := z_ H;clear H
   go_enter Try.func90, Try.ntmps90
   go_upto_region 5 with (first | ((with_reducible refine qaG (N := 1) rfl ?_); (try (refine qbe zbX ?_; dsimp only)); refine qaS zbX (N := 1) zbX (cs := #[.bool false, .slice Y0 E0.length Z0, .slice D1 u0.length W0, .slice X0 B0.length R0]) (t := 75) zbv ?_; intro J0 hg xQ hbox hb; have H0 := z_ (qad zaq hb); have I0 := z_ (hbox); have K0 := z_ ((zal : w.heap.size ≤ J0)); have U0 := z_ ((zal : w.heap.size ≤ J0)); clear HB; have HB := H0; have o0 := I0; have KI := K0; have V4 := U0; clear H0 I0 K0 U0 hb hbox hg; have ZD : xQ.cell? ⟨J0, 0, none⟩ = some (.bool false) := (qac o0.o 0).trans rfl; have ED : xQ.cell? ⟨J0, 1, none⟩ = some (.slice Y0 E0.length Z0) := (qac o0.o 1).trans rfl; have DD : xQ.cell? ⟨J0, 2, none⟩ = some (.slice D1 u0.length W0) := (qac o0.o 2).trans rfl; have WD : xQ.cell? ⟨J0, 3, none⟩ = some (.slice X0 B0.length R0) := (qac o0.o 3).trans rfl; have oF := qab o0.o 0; have vE := qab o0.o 1; have AE := qab o0.o 2; have EE := qab o0.o 3) | ((with_reducible refine qaD (f := 91) rfl ?_); refine qbk (some 5) rfl rfl Try.func91 zbS rfl #[.agg #[.bool false, .slice Y0 E0.length Z0, .slice D1 u0.length W0, .slice X0 B0.length R0]] rfl zao ?_; (with_reducible refine (qby.calls false _ _ E0 _ _ u0 _ _ B0 false _ ?side1 ?side2 ?side3 ?side4 ?side5 ?side6 A2.o).mono ?_); (case side1 => exact zad (Kd.qaO U6.o HB.o)); (case side2 => exact j7.o); (case side3 => exact zad (Kd.qaO d5.o HB.o)); (case side4 => exact j9.o); (case side5 => exact zad (Kd.qaO g6.o HB.o)); (case side6 => exact n9.o); rintro e IC ⟨rfl, hb⟩; refine ⟨_, rfl, ?_⟩; have H0 := z_ (qap (g := J0) (o := .cells #[.bool false, .slice Y0 E0.length Z0, .slice D1 u0.length W0, .slice X0 B0.length R0] 75 (0, 0)) (zac o0.o) hb); have I0 := z_ (qad (zab V4.o) hb); clear o0 HB; have o0 := H0; have HB := I0; clear H0 I0; (try clear hb); (try clear hb2); (try clear hk); (try clear hi); have RE : IC.cell? ⟨J0, 0, none⟩ = some (.bool false) := (qac o0.o 0).trans rfl; have nE : IC.cell? ⟨J0, 1, none⟩ = some (.slice Y0 E0.length Z0) := (qac o0.o 1).trans rfl; have KE : IC.cell? ⟨J0, 2, none⟩ = some (.slice D1 u0.length W0) := (qac o0.o 2).trans rfl; have yF : IC.cell? ⟨J0, 3, none⟩ = some (.slice X0 B0.length R0) := (qac o0.o 3).trans rfl; have dE := qab o0.o 0; have OD := qab o0.o 1; have iE := qab o0.o 2; have TE := qab o0.o 3))
   (try simp only [Act.put, List.setIfInBounds_toArray, List.set_cons_zero, List.set_cons_succ])
   go_cut [48] (fun v48 wc => ∃ (kq : Nat) (SH : Bool), v48 = .bool SH ∧ Aside0 (qar.j0 kq SH false E0 u0 B0 = some r) ∧ Aside0 (kq ≤ k) ∧ Aside0 (wc.heap[J0]? = some (.cells #[.bool false, (.slice Y0 E0.length Z0), (.slice D1 u0.length W0), (.slice X0 B0.length R0)] 75 (0, 0))) ∧ Aside0 (Below w.heap.size w wc))
   case first =>
    have H := BL.o;clear BL
    by_cases UC : (E0.length : Int) = 0
    ·rw [if_pos UC] at H;have Q9 : ((E0.length : Int) == 0) = true := beq_iff_eq.mpr UC;have fH : ((E0.length : Int) != 0) = false := bne_eq_false_iff_eq.mpr UC;clear UC
     (first | rw [Q9] | (simp only [qbw, qbB]; rw [Q9]) | skip)
     replace H := Option.bind_eq_some_iff.mp H;obtain ⟨AI, GX, H⟩ := H;try dsimp only at H
     have KO := z_ GX;clear GX
     by_cases xI : AI = true
     ·subst xI;have H1 : (qar.j0 k ((u0.length : Int) != (B0.length : Int)) false E0 u0 B0) = some r := zbE;clear H;have H := H1;clear H1;have H' := z_ H;clear H;have aN : IC.cell? ⟨J0, 0, none⟩ = some (.bool false) := (qac o0.o 0).trans rfl;have XM : IC.cell? ⟨J0, 1, none⟩ = some (.slice Y0 E0.length Z0) := (qac o0.o 1).trans rfl;have vN : IC.cell? ⟨J0, 2, none⟩ = some (.slice D1 u0.length W0) := (qac o0.o 2).trans rfl;have uN : IC.cell? ⟨J0, 3, none⟩ = some (.slice X0 B0.length R0) := (qac o0.o 3).trans rfl;have wN := qab o0.o 0;have zM := qab o0.o 1;have bM := qab o0.o 2;have tN := qab o0.o 3
      go_wp2_with (first | (go_at_call 63; (with_reducible refine (qaE.calls (B0.length : Int) 1 4 true _ KO.o).mono ?_); rintro e w' ⟨rfl, ⟨nd, rfl⟩⟩))
      go_meet
      case rel => exact ⟨_, (((u0.length : Int) != (B0.length : Int))), zbs, H', ⟨zbz⟩, ⟨by (with_reducible repeat (first | refine qaj ?_ _ | refine qai ?_ | refine qah ?_ _)); exact o0.o⟩, ⟨zab V4.o⟩⟩
     ·replace xI := Bool.eq_false_iff.mpr xI;subst xI;have H1 : (qar.j0 k true false E0 u0 B0) = some r := zaK;clear H;have H := H1;clear H1;have H' := z_ H;clear H;have DF : IC.cell? ⟨J0, 0, none⟩ = some (.bool false) := (qac o0.o 0).trans rfl;have CF : IC.cell? ⟨J0, 1, none⟩ = some (.slice Y0 E0.length Z0) := (qac o0.o 1).trans rfl;have AF : IC.cell? ⟨J0, 2, none⟩ = some (.slice D1 u0.length W0) := (qac o0.o 2).trans rfl;have BD : IC.cell? ⟨J0, 3, none⟩ = some (.slice X0 B0.length R0) := (qac o0.o 3).trans rfl;have sF := qab o0.o 0;have lF := qab o0.o 1;have PE := qab o0.o 2;have qE := qab o0.o 3
      go_wp2_with (first | (go_at_call 63; (with_reducible refine (qaE.calls (B0.length : Int) 1 4 false _ KO.o).mono ?_); rintro e w' ⟨rfl, ⟨nd, rfl⟩⟩))
      go_meet
      case rel => exact ⟨_, (true), zbs, H', ⟨zbz⟩, ⟨by (with_reducible repeat (first | refine qaj ?_ _ | refine qai ?_ | refine qah ?_ _)); exact o0.o⟩, ⟨zab V4.o⟩⟩
    ·rw [if_neg UC] at H;have Q9 : ((E0.length : Int) == 0) = false := beq_eq_false_iff_ne.mpr UC;have fH : ((E0.length : Int) != 0) = true := bne_iff_ne.mpr UC;have jU : ¬ (E0 = []) := fun h_ => UC (by rw [h_]; rfl)
     (first | rw [Q9] | (simp only [qbw, qbB]; rw [Q9]) | skip)
     have H' := z_ H;clear H;have pD : IC.cell? ⟨J0, 0, none⟩ = some (.bool false) := (qac o0.o 0).trans rfl;have IE : IC.cell? ⟨J0, 1, none⟩ = some (.slice Y0 E0.length Z0) := (qac o0.o 1).trans rfl;have nF : IC.cell? ⟨J0, 2, none⟩ = some (.slice D1 u0.length W0) := (qac o0.o 2).trans rfl;have rF : IC.cell? ⟨J0, 3, none⟩ = some (.slice X0 B0.length R0) := (qac o0.o 3).trans rfl;have DE := qab o0.o 0;have NE := qab o0.o 1;have qF := qab o0.o 2;have BF := qab o0.o 3
     go_wp2
     go_meet
     case rel => exact ⟨_, (true), zbs, H', ⟨zbz⟩, ⟨by (with_reducible repeat (first | refine qaj ?_ _ | refine qai ?_ | refine qah ?_ _)); exact o0.o⟩, ⟨zab V4.o⟩⟩
   case rest =>
    clear BL;try clear c1
    try clear p2
    try clear c3
    try clear c4
    try clear c6
    try clear c7
    try clear c9
    try clear c11
    try clear c12
    try clear W9
    try clear NG
    try clear bK
    try clear UC
    try clear Q9
    try clear fH
    try clear jU
    try clear xI
    try clear WA
    try clear YA
    try clear dB
    try clear OA
    try clear SA
    try clear OB
    try clear PB
    try clear jC
    try clear p9
    try clear BC
    try clear VD
    try clear ND
    try clear rE
    try clear XE
    try clear tE
    try clear GE
    try clear a8
    try clear i8
    try clear X7
    try clear TB
    try clear N8
    try clear Q8
    try clear L8
    try clear gF
    try clear bC
    try clear QB
    try clear sC
    try clear mC
    try clear VA
    try clear qC
    try clear VE
    try clear CD
    try clear GD
    try clear KD
    try clear fF
    try clear FD
    try clear QD
    try clear JD
    try clear TD
    try clear FE
    try clear ZD
    try clear ED
    try clear DD
    try clear WD
    try clear RE
    try clear nE
    try clear KE
    try clear yF
    try clear aN
    try clear XM
    try clear vN
    try clear uN
    try clear DF
    try clear CF
    try clear AF
    try clear BD
    try clear pD
    try clear IE
    try clear nF
    try clear rF
    try clear fD
    try clear aD
    try clear XG
    try clear VG
    try clear TA
    try clear PA
    try clear RA
    try clear JA
    try clear NA
    try clear xC
    try clear fC
    try clear vC
    try clear q9
    try clear UB
    try clear XD
    try clear RD
    try clear WE
    try clear pE
    try clear cE
    try clear gE
    try clear Q7
    try clear V7
    try clear f8
    try clear XB
    try clear G8
    try clear I8
    try clear K8
    try clear uD
    try clear lC
    try clear DC
    try clear ZB
    try clear oC
    try clear KA
    try clear rC
    try clear ZE
    try clear ID
    try clear wF
    try clear vF
    try clear xE
    try clear yE
    try clear SE
    try clear eE
    try clear mE
    try clear zF
    try clear oF
    try clear vE
    try clear AE
    try clear EE
    try clear dE
    try clear OD
    try clear iE
    try clear TE
    try clear wN
    try clear zM
    try clear bM
    try clear tN
    try clear sF
    try clear lF
    try clear PE
    try clear qE
    try clear DE
    try clear NE
    try clear qF
    try clear BF
    try clear gD
    try clear kD
    try clear zG
    try clear LG
    obtain ⟨kq, SH, rfl, HA, eO, o0, HB⟩ := hcut
    cases kq with
    | zero => exact absurd HA.o (by simp [qar.j0])
    | succ kj33 =>
     have H := HA.o;clear HA;simp only [qar.j0] at H
     by_cases vO : SH = true
     ·subst vO;have H1 : (some false) = some r := zbE;clear H;have H := H1;clear H1;obtain rfl := Option.some.inj H
      go_wp2
      go_ret
      exact ⟨zaF, zab V4.o⟩
     ·replace vO := Bool.eq_false_iff.mpr vO;subst vO;have H1 : (qar.l0 kj33 0 false E0 u0 B0) = some r := zaK;clear H;have H := H1;clear H1;have H' := z_ H;clear H
      go_wp2
      go_loopg [3] kj33 (fun kq v3 w' => ∃ (E1 : Int), v3 = .int .i64 E1 ∧ Aside0 (qar.l0 kq E1 false E0 u0 B0 = some r) ∧ Aside0 (kq ≤ kj33) ∧ Aside0 (w'.heap[J0]? = some (.cells #[.bool false, (.slice Y0 E0.length Z0), (.slice D1 u0.length W0), (.slice X0 B0.length R0)] 75 (0, 0))) ∧ Aside0 (Below w.heap.size w w'))
      case atStart => exact ⟨(0), zbs, H', ⟨Nat.le_refl _⟩, ⟨by (with_reducible repeat (first | refine qaj ?_ _ | refine qai ?_ | refine qah ?_ _)); exact o0.o⟩, ⟨zab V4.o⟩⟩
      case round =>
       clear H';try clear c1
       try clear p2
       try clear c3
       try clear c4
       try clear c6
       try clear c7
       try clear c9
       try clear c11
       try clear c12
       try clear W9
       try clear NG
       try clear bK
       try clear UC
       try clear Q9
       try clear fH
       try clear jU
       try clear xI
       try clear vO
       try clear WA
       try clear YA
       try clear dB
       try clear OA
       try clear SA
       try clear OB
       try clear PB
       try clear jC
       try clear p9
       try clear BC
       try clear VD
       try clear ND
       try clear rE
       try clear XE
       try clear tE
       try clear GE
       try clear a8
       try clear i8
       try clear X7
       try clear TB
       try clear N8
       try clear Q8
       try clear L8
       try clear gF
       try clear bC
       try clear QB
       try clear sC
       try clear mC
       try clear VA
       try clear qC
       try clear VE
       try clear CD
       try clear GD
       try clear KD
       try clear fF
       try clear FD
       try clear QD
       try clear JD
       try clear TD
       try clear FE
       try clear ZD
       try clear ED
       try clear DD
       try clear WD
       try clear RE
       try clear nE
       try clear KE
       try clear yF
       try clear aN
       try clear XM
       try clear vN
       try clear uN
       try clear DF
       try clear CF
       try clear AF
       try clear BD
       try clear pD
       try clear IE
       try clear nF
       try clear rF
       try clear fD
       try clear aD
       try clear XG
       try clear VG
       try clear TA
       try clear PA
       try clear RA
       try clear JA
       try clear NA
       try clear xC
       try clear fC
       try clear vC
       try clear q9
       try clear UB
       try clear XD
       try clear RD
       try clear WE
       try clear pE
       try clear cE
       try clear gE
       try clear Q7
       try clear V7
       try clear f8
       try clear XB
       try clear G8
       try clear I8
       try clear K8
       try clear uD
       try clear lC
       try clear DC
       try clear ZB
       try clear oC
       try clear KA
       try clear rC
       try clear ZE
       try clear ID
       try clear wF
       try clear vF
       try clear xE
       try clear yE
       try clear SE
       try clear eE
       try clear mE
       try clear zF
       try clear oF
       try clear vE
       try clear AE
       try clear EE
       try clear dE
       try clear OD
       try clear iE
       try clear TE
       try clear wN
       try clear zM
       try clear bM
       try clear tN
       try clear sF
       try clear lF
       try clear PE
       try clear qE
       try clear DE
       try clear NE
       try clear qF
       try clear BF
       try clear gD
       try clear kD
       try clear zG
       try clear LG
       try clear p2
       obtain ⟨E1, rfl, HA, p7, o0, HB⟩ := hrel
       cases gk with
       | zero => exact absurd HA.o (by simp [qar.l0])
       | succ k2 =>
        have H := HA.o;clear HA;simp only [qar.l0] at H
        by_cases c46 : E1 < (B0.length : Int)
        ·rw [if_pos c46] at H;have QZ : decide (E1 < (B0.length : Int)) = true := decide_eq_true c46;clear c46
         by_cases EI : 0 ≤ E1
         ·rw [if_pos EI] at H;have mN : decide (0 ≤ E1) = true := decide_eq_true EI;clear EI;replace H := Option.bind_eq_some_iff.mp H;obtain ⟨QV, OY, H⟩ := H;try dsimp only at H
          have aI := z_ OY;clear OY
          by_cases c49 : QV = true
          ·subst c49;have H1 : (if E1 < (u0.length : Int) then ((qaE.f ((rdOf ByteArray.empty u0 E1).size : Int) 1 30).bind fun t117 => (if t117 = true then (if E1 > 0 then (if 0 ≤ (wrap64 (E1 - 1)) then (if (wrap64 (E1 - 1)) < (u0.length : Int) then (if ((Op.bytesLess ((rdOf ByteArray.empty u0 (wrap64 (E1 - 1))).toList) ((rdOf ByteArray.empty u0 E1).toList)) = true) then (qar.l0 k2 (wrap64 (E1 + 1)) false E0 u0 B0) else (some false)) else (none)) else (none)) else (qar.l0 k2 (wrap64 (E1 + 1)) false E0 u0 B0)) else (some false))) else (none)) = some r := zbE;clear H;have H := H1;clear H1
           by_cases dR : E1 < (u0.length : Int)
           ·rw [if_pos dR] at H;have ia : decide (E1 < (u0.length : Int)) = true := decide_eq_true dR;clear dR;replace H := Option.bind_eq_some_iff.mp H;obtain ⟨t117, wa, H⟩ := H;try dsimp only at H
            have yJ := z_ wa;clear wa
            by_cases AM : t117 = true
            ·subst AM;have H1 : (if E1 > 0 then (if 0 ≤ (wrap64 (E1 - 1)) then (if (wrap64 (E1 - 1)) < (u0.length : Int) then (if ((Op.bytesLess ((rdOf ByteArray.empty u0 (wrap64 (E1 - 1))).toList) ((rdOf ByteArray.empty u0 E1).toList)) = true) then (qar.l0 k2 (wrap64 (E1 + 1)) false E0 u0 B0) else (some false)) else (none)) else (none)) else (qar.l0 k2 (wrap64 (E1 + 1)) false E0 u0 B0)) = some r := zbE;clear H;have H := H1;clear H1
             by_cases c53 : E1 > 0
             ·rw [if_pos c53] at H;have lU : decide (0 < E1) = true := decide_eq_true c53;clear c53;obtain ⟨fA, zH⟩ : ∃ j_ : Int, (wrap64 (E1 - 1)) = j_ := ⟨_, rfl⟩
              replace H : (if 0 ≤ (fA) then (if (fA) < (u0.length : Int) then (if ((Op.bytesLess ((rdOf ByteArray.empty u0 (fA)).toList) ((rdOf ByteArray.empty u0 E1).toList)) = true) then (qar.l0 k2 (wrap64 (E1 + 1)) false E0 u0 B0) else (some false)) else (none)) else (none)) = some r := by first | (rw [zH] at H; exact H) | (simp only [zH] at H ⊢; exact H)
              (try rw [zH] at aI)
              (try rw [zH] at yJ)
              have uh : (IntKind.i64.wrap (E1 - 1)) = fA := (qbw _).trans zH
              by_cases bP : 0 ≤ (fA)
              ·rw [if_pos bP] at H;have wU : decide (0 ≤ (fA)) = true := decide_eq_true bP;clear bP
               by_cases fd : (fA) < (u0.length : Int)
               ·rw [if_pos fd] at H;have c56b0 : decide ((fA) < (u0.length : Int)) = true := decide_eq_true fd;clear fd
                by_cases oQ : ((Op.bytesLess ((rdOf ByteArray.empty u0 (fA)).toList) ((rdOf ByteArray.empty u0 E1).toList)) = true)
                ·rw [if_pos oQ] at H;have gT : (Op.bytesLess ((rdOf ByteArray.empty u0 (fA)).toList) ((rdOf ByteArray.empty u0 E1).toList)) = true := oQ;clear oQ;have H' := z_ H;clear H;have Wd : wr.cell? ⟨J0, 0, none⟩ = some (.bool false) := (qac o0.o 0).trans rfl;have Sd : wr.cell? ⟨J0, 1, none⟩ = some (.slice Y0 E0.length Z0) := (qac o0.o 1).trans rfl;have zb : wr.cell? ⟨J0, 2, none⟩ = some (.slice D1 u0.length W0) := (qac o0.o 2).trans rfl;have Xd : wr.cell? ⟨J0, 3, none⟩ = some (.slice X0 B0.length R0) := (qac o0.o 3).trans rfl;have Kb := qab o0.o 0;have bd := qab o0.o 1;have Xb := qab o0.o 2;have ic := qab o0.o 3;try go_wp2
                 have H0 := z_ (qai o0.o);have I0 := z_ (qaP HB.o);clear o0 HB;have o0 := H0;have HB := I0;clear H0 I0;have DA : 0 ≤ (E1 : Int) := of_decide_eq_true zaN;have MA : E1 < (B0.length : Int) := of_decide_eq_true zaN;obtain ⟨bA, tI, O2⟩ := Kd.qbN g6.o E1 DA MA;have M6 := O2
                 cases tI
                 replace O2 := (HB.o.cell (World.block_lt_of_cell? w _ O2)).trans O2;replace DA := eq_true DA;replace MA := eq_true MA;have YC : 0 ≤ (E1 : Int) := of_decide_eq_true zaN;have ZC : E1 < (u0.length : Int) := of_decide_eq_true zaN;obtain ⟨g8, e116, P3⟩ := Kd.qbA d5.o E1 YC ZC;have U7 := P3
                 cases e116
                 replace P3 := (HB.o.cell (World.block_lt_of_cell? w _ P3)).trans P3;replace YC := eq_true YC;replace ZC := eq_true ZC;have dL : 0 ≤ ((fA) : Int) := of_decide_eq_true zaN;have SL : (fA) < (u0.length : Int) := of_decide_eq_true zaN;obtain ⟨qQ, e118, Z6⟩ := Kd.qbA d5.o (fA) dL SL;have QE := Z6;obtain rfl : g8 = qQ := (by injection e118);replace Z6 := (HB.o.cell (World.block_lt_of_cell? w _ Z6)).trans Z6;replace dL := eq_true dL;replace SL := eq_true SL;have vL : 0 ≤ (E1 : Int) := of_decide_eq_true zaN;have mL : E1 < (u0.length : Int) := of_decide_eq_true zaN;obtain ⟨gP, e119, d7⟩ := Kd.qbA d5.o E1 vL mL;have vD := d7;obtain rfl : g8 = gP := (by injection e119);replace d7 := (HB.o.cell (World.block_lt_of_cell? w _ d7)).trans d7;replace vL := eq_true vL;replace mL := eq_true mL;refine qbq zbS zbS ?_;have Q4 := z_ (show wr.drew.cell? ⟨J0, 0, none⟩ = some (.bool false) from (qac o0.o 0).trans rfl);have P4 := z_ (show wr.drew.cell? ⟨J0, 1, none⟩ = some (.slice Y0 E0.length Z0) from (qac o0.o 1).trans rfl);have W6 := z_ (show wr.drew.cell? ⟨J0, 2, none⟩ = some (.slice (some g8) u0.length W0) from (qac o0.o 2).trans rfl);have X6 := z_ (show wr.drew.cell? ⟨J0, 3, none⟩ = some (.slice (some bA) B0.length R0) from (qac o0.o 3).trans rfl);have D8 := z_ (show wr.drew.cell? (bA.add (E1).toNat) = some (.int .i64 (rd B0 E1)) from ((HB.o.cell (World.block_lt_of_cell? w _ M6)).trans M6));have K9 := z_ (show wr.drew.cell? (g8.add (E1).toNat) = some (.string (rdOf ByteArray.empty u0 E1)) from ((HB.o.cell (World.block_lt_of_cell? w _ U7)).trans U7));have XK := z_ (show wr.drew.cell? (g8.add ((fA)).toNat) = some (.string (rdOf ByteArray.empty u0 (fA))) from ((HB.o.cell (World.block_lt_of_cell? w _ QE)).trans QE));have ZK := z_ (show wr.drew.cell? (g8.add (E1).toNat) = some (.string (rdOf ByteArray.empty u0 E1)) from ((HB.o.cell (World.block_lt_of_cell? w _ vD)).trans vD));generalize wr.drew = w59b at o0 HB O2 P3 Z6 d7 Q4 P4 W6 X6 D8 K9 XK ZK ⊢;clear O2 P3 Z6 d7;have hL0 := fun (p_ : Later w59b) => Later.cell p_ Q4.o
                 have hL1 := fun (p_ : Later w59b) => Later.cell p_ P4.o
                 have hL2 := fun (p_ : Later w59b) => Later.cell p_ W6.o
                 have hL3 := fun (p_ : Later w59b) => Later.cell p_ X6.o
                 have hL4 := fun (p_ : Later w59b) => Later.cell p_ D8.o
                 have hL5 := fun (p_ : Later w59b) => Later.cell p_ K9.o
                 have hL6 := fun (p_ : Later w59b) => Later.cell p_ XK.o
                 have hL7 := fun (p_ : Later w59b) => Later.cell p_ ZK.o
                 clear Q4 P4 W6 X6 D8 K9 XK ZK
                 repeat (first | go_big_quiet_step ((first | (go_at_call 63; with_reducible exact Calls.qaY (qaE.calls (rd B0 E1) 0 49 true _ aI.o)) | (go_at_call 63; with_reducible exact Calls.qaY (qaE.calls ((rdOf ByteArray.empty u0 E1).size : Int) 1 30 true _ yJ.o)) | (go_at_call 63; exact Calls.qaY (qaE.calls (rd B0 E1) 0 49 true _ aI.o)) | (go_at_call 63; exact Calls.qaY (qaE.calls ((rdOf ByteArray.empty u0 E1).size : Int) 1 30 true _ yJ.o)))) | quiet_step ((first | (go_at_call 63; with_reducible exact Calls.qaY (qaE.calls (rd B0 E1) 0 49 true _ aI.o)) | (go_at_call 63; with_reducible exact Calls.qaY (qaE.calls ((rdOf ByteArray.empty u0 E1).size : Int) 1 30 true _ yJ.o)) | (go_at_call 63; exact Calls.qaY (qaE.calls (rd B0 E1) 0 49 true _ aI.o)) | (go_at_call 63; exact Calls.qaY (qaE.calls ((rdOf ByteArray.empty u0 E1).size : Int) 1 30 true _ yJ.o)))))
                 refine wpQuiet_nil ?_;rintro w59 ⟨⟨bG, hbL⟩, jB⟩;have d9 : w59 = bG := jB;clear jB;subst d9;clear hL0 hL1 hL2 hL3 hL4 hL5 hL6 hL7;have L6 := z_ ((hbL.block _ (qbH o0.o)).trans o0.o);have G6 := z_ (qad HB.o hbL);clear o0 HB;have o0 := L6;have HB := G6;clear L6 G6 hbL;try go_wp2
                 go_roundg k2
                 case measure => have := eO.o; have := p7.o; omega
                 case rel => exact ⟨(wrap64 (E1 + 1)), zbs, H', ⟨zbw⟩, ⟨by (with_reducible repeat (first | refine qaj ?_ _ | refine qai ?_ | refine qah ?_ _)); exact o0.o⟩, ⟨zab V4.o⟩⟩
                ·rw [if_neg oQ] at H;have gT : (Op.bytesLess ((rdOf ByteArray.empty u0 (fA)).toList) ((rdOf ByteArray.empty u0 E1).toList)) = false := by simpa using oQ
                 clear oQ;obtain rfl := Option.some.inj H;have kS : wr.cell? ⟨J0, 0, none⟩ = some (.bool false) := (qac o0.o 0).trans rfl;have WQ : wr.cell? ⟨J0, 1, none⟩ = some (.slice Y0 E0.length Z0) := (qac o0.o 1).trans rfl;have YR : wr.cell? ⟨J0, 2, none⟩ = some (.slice D1 u0.length W0) := (qac o0.o 2).trans rfl;have NR : wr.cell? ⟨J0, 3, none⟩ = some (.slice X0 B0.length R0) := (qac o0.o 3).trans rfl;have jS := qab o0.o 0;have OQ := qab o0.o 1;have AR := qab o0.o 2;have CQ := qab o0.o 3;try go_wp2
                 have H0 := z_ (qai o0.o);have I0 := z_ (qaP HB.o);clear o0 HB;have o0 := H0;have HB := I0;clear H0 I0;have DA : 0 ≤ (E1 : Int) := of_decide_eq_true zaN;have MA : E1 < (B0.length : Int) := of_decide_eq_true zaN;obtain ⟨bA, tI, O2⟩ := Kd.qbN g6.o E1 DA MA;have M6 := O2
                 cases tI
                 replace O2 := (HB.o.cell (World.block_lt_of_cell? w _ O2)).trans O2;replace DA := eq_true DA;replace MA := eq_true MA;have YC : 0 ≤ (E1 : Int) := of_decide_eq_true zaN;have ZC : E1 < (u0.length : Int) := of_decide_eq_true zaN;obtain ⟨g8, e116, P3⟩ := Kd.qbA d5.o E1 YC ZC;have U7 := P3
                 cases e116
                 replace P3 := (HB.o.cell (World.block_lt_of_cell? w _ P3)).trans P3;replace YC := eq_true YC;replace ZC := eq_true ZC;have dL : 0 ≤ ((fA) : Int) := of_decide_eq_true zaN;have SL : (fA) < (u0.length : Int) := of_decide_eq_true zaN;obtain ⟨qQ, e118, Z6⟩ := Kd.qbA d5.o (fA) dL SL;have QE := Z6;obtain rfl : g8 = qQ := (by injection e118);replace Z6 := (HB.o.cell (World.block_lt_of_cell? w _ Z6)).trans Z6;replace dL := eq_true dL;replace SL := eq_true SL;have vL : 0 ≤ (E1 : Int) := of_decide_eq_true zaN;have mL : E1 < (u0.length : Int) := of_decide_eq_true zaN;obtain ⟨gP, e119, d7⟩ := Kd.qbA d5.o E1 vL mL;have vD := d7;obtain rfl : g8 = gP := (by injection e119);replace d7 := (HB.o.cell (World.block_lt_of_cell? w _ d7)).trans d7;replace vL := eq_true vL;replace mL := eq_true mL;refine qbq zbS zbS ?_;have Q4 := z_ (show wr.drew.cell? ⟨J0, 0, none⟩ = some (.bool false) from (qac o0.o 0).trans rfl);have P4 := z_ (show wr.drew.cell? ⟨J0, 1, none⟩ = some (.slice Y0 E0.length Z0) from (qac o0.o 1).trans rfl);have W6 := z_ (show wr.drew.cell? ⟨J0, 2, none⟩ = some (.slice (some g8) u0.length W0) from (qac o0.o 2).trans rfl);have X6 := z_ (show wr.drew.cell? ⟨J0, 3, none⟩ = some (.slice (some bA) B0.length R0) from (qac o0.o 3).trans rfl);have D8 := z_ (show wr.drew.cell? (bA.add (E1).toNat) = some (.int .i64 (rd B0 E1)) from ((HB.o.cell (World.block_lt_of_cell? w _ M6)).trans M6));have K9 := z_ (show wr.drew.cell? (g8.add (E1).toNat) = some (.string (rdOf ByteArray.empty u0 E1)) from ((HB.o.cell (World.block_lt_of_cell? w _ U7)).trans U7));have XK := z_ (show wr.drew.cell? (g8.add ((fA)).toNat) = some (.string (rdOf ByteArray.empty u0 (fA))) from ((HB.o.cell (World.block_lt_of_cell? w _ QE)).trans QE));have ZK := z_ (show wr.drew.cell? (g8.add (E1).toNat) = some (.string (rdOf ByteArray.empty u0 E1)) from ((HB.o.cell (World.block_lt_of_cell? w _ vD)).trans vD));generalize wr.drew = w61b at o0 HB O2 P3 Z6 d7 Q4 P4 W6 X6 D8 K9 XK ZK ⊢;clear O2 P3 Z6 d7;have hL0 := fun (p_ : Later w61b) => Later.cell p_ Q4.o
                 have hL1 := fun (p_ : Later w61b) => Later.cell p_ P4.o
                 have hL2 := fun (p_ : Later w61b) => Later.cell p_ W6.o
                 have hL3 := fun (p_ : Later w61b) => Later.cell p_ X6.o
                 have hL4 := fun (p_ : Later w61b) => Later.cell p_ D8.o
                 have hL5 := fun (p_ : Later w61b) => Later.cell p_ K9.o
                 have hL6 := fun (p_ : Later w61b) => Later.cell p_ XK.o
                 have hL7 := fun (p_ : Later w61b) => Later.cell p_ ZK.o
                 clear Q4 P4 W6 X6 D8 K9 XK ZK
                 repeat (first | go_big_quiet_step ((first | (go_at_call 63; with_reducible exact Calls.qaY (qaE.calls (rd B0 E1) 0 49 true _ aI.o)) | (go_at_call 63; with_reducible exact Calls.qaY (qaE.calls ((rdOf ByteArray.empty u0 E1).size : Int) 1 30 true _ yJ.o)) | (go_at_call 63; exact Calls.qaY (qaE.calls (rd B0 E1) 0 49 true _ aI.o)) | (go_at_call 63; exact Calls.qaY (qaE.calls ((rdOf ByteArray.empty u0 E1).size : Int) 1 30 true _ yJ.o)))) | quiet_step ((first | (go_at_call 63; with_reducible exact Calls.qaY (qaE.calls (rd B0 E1) 0 49 true _ aI.o)) | (go_at_call 63; with_reducible exact Calls.qaY (qaE.calls ((rdOf ByteArray.empty u0 E1).size : Int) 1 30 true _ yJ.o)) | (go_at_call 63; exact Calls.qaY (qaE.calls (rd B0 E1) 0 49 true _ aI.o)) | (go_at_call 63; exact Calls.qaY (qaE.calls ((rdOf ByteArray.empty u0 E1).size : Int) 1 30 true _ yJ.o)))))
                 refine wpQuiet_nil ?_;rintro w61 ⟨⟨bG, hbL⟩, jB⟩;have d9 : w61 = bG := jB;clear jB;subst d9;clear hL0 hL1 hL2 hL3 hL4 hL5 hL6 hL7;have L6 := z_ ((hbL.block _ (qbH o0.o)).trans o0.o);have G6 := z_ (qad HB.o hbL);clear o0 HB;have o0 := L6;have HB := G6;clear L6 G6 hbL;try go_wp2
                 go_ret
                 exact ⟨by first | rfl | (simp [qb8, qb9] <;> rfl) | (simp only [← zH]; first | rfl | (simp [qb8, qb9] <;> rfl)) | (simp [*, qb8, qb9] <;> rfl), zab V4.o⟩
               ·rw [if_neg fd] at H;exact absurd H zbW
              ·rw [if_neg bP] at H;exact absurd H zbW
             ·rw [if_neg c53] at H;have lU : decide (0 < E1) = false := decide_eq_false c53;clear c53;have H' := z_ H;clear H;have CS : wr.cell? ⟨J0, 0, none⟩ = some (.bool false) := (qac o0.o 0).trans rfl;have bR : wr.cell? ⟨J0, 1, none⟩ = some (.slice Y0 E0.length Z0) := (qac o0.o 1).trans rfl;have zS : wr.cell? ⟨J0, 2, none⟩ = some (.slice D1 u0.length W0) := (qac o0.o 2).trans rfl;have pS : wr.cell? ⟨J0, 3, none⟩ = some (.slice X0 B0.length R0) := (qac o0.o 3).trans rfl;have MQ := qab o0.o 0;have qS := qab o0.o 1;have nR := qab o0.o 2;have EQ := qab o0.o 3;try go_wp2
              have H0 := z_ (qai o0.o);have I0 := z_ (qaP HB.o);clear o0 HB;have o0 := H0;have HB := I0;clear H0 I0;have DA : 0 ≤ (E1 : Int) := of_decide_eq_true zaN;have MA : E1 < (B0.length : Int) := of_decide_eq_true zaN;obtain ⟨bA, tI, O2⟩ := Kd.qbN g6.o E1 DA MA;have M6 := O2
              cases tI
              replace O2 := (HB.o.cell (World.block_lt_of_cell? w _ O2)).trans O2;replace DA := eq_true DA;replace MA := eq_true MA;have YC : 0 ≤ (E1 : Int) := of_decide_eq_true zaN;have ZC : E1 < (u0.length : Int) := of_decide_eq_true zaN;obtain ⟨g8, e116, P3⟩ := Kd.qbA d5.o E1 YC ZC;have U7 := P3
              cases e116
              replace P3 := (HB.o.cell (World.block_lt_of_cell? w _ P3)).trans P3;replace YC := eq_true YC;replace ZC := eq_true ZC;refine qbq zbS zbS ?_;have Q4 := z_ (show wr.drew.cell? ⟨J0, 0, none⟩ = some (.bool false) from (qac o0.o 0).trans rfl);have P4 := z_ (show wr.drew.cell? ⟨J0, 1, none⟩ = some (.slice Y0 E0.length Z0) from (qac o0.o 1).trans rfl);have W6 := z_ (show wr.drew.cell? ⟨J0, 2, none⟩ = some (.slice (some g8) u0.length W0) from (qac o0.o 2).trans rfl);have X6 := z_ (show wr.drew.cell? ⟨J0, 3, none⟩ = some (.slice (some bA) B0.length R0) from (qac o0.o 3).trans rfl);have D8 := z_ (show wr.drew.cell? (bA.add (E1).toNat) = some (.int .i64 (rd B0 E1)) from ((HB.o.cell (World.block_lt_of_cell? w _ M6)).trans M6));have K9 := z_ (show wr.drew.cell? (g8.add (E1).toNat) = some (.string (rdOf ByteArray.empty u0 E1)) from ((HB.o.cell (World.block_lt_of_cell? w _ U7)).trans U7));generalize wr.drew = w63b at o0 HB O2 P3 Q4 P4 W6 X6 D8 K9 ⊢;clear O2 P3;have hL0 := fun (p_ : Later w63b) => Later.cell p_ Q4.o
              have hL1 := fun (p_ : Later w63b) => Later.cell p_ P4.o
              have hL2 := fun (p_ : Later w63b) => Later.cell p_ W6.o
              have hL3 := fun (p_ : Later w63b) => Later.cell p_ X6.o
              have hL4 := fun (p_ : Later w63b) => Later.cell p_ D8.o
              have hL5 := fun (p_ : Later w63b) => Later.cell p_ K9.o
              clear Q4 P4 W6 X6 D8 K9
              repeat (first | go_big_quiet_step ((first | (go_at_call 63; with_reducible exact Calls.qaY (qaE.calls (rd B0 E1) 0 49 true _ aI.o)) | (go_at_call 63; with_reducible exact Calls.qaY (qaE.calls ((rdOf ByteArray.empty u0 E1).size : Int) 1 30 true _ yJ.o)) | (go_at_call 63; exact Calls.qaY (qaE.calls (rd B0 E1) 0 49 true _ aI.o)) | (go_at_call 63; exact Calls.qaY (qaE.calls ((rdOf ByteArray.empty u0 E1).size : Int) 1 30 true _ yJ.o)))) | quiet_step ((first | (go_at_call 63; with_reducible exact Calls.qaY (qaE.calls (rd B0 E1) 0 49 true _ aI.o)) | (go_at_call 63; with_reducible exact Calls.qaY (qaE.calls ((rdOf ByteArray.empty u0 E1).size : Int) 1 30 true _ yJ.o)) | (go_at_call 63; exact Calls.qaY (qaE.calls (rd B0 E1) 0 49 true _ aI.o)) | (go_at_call 63; exact Calls.qaY (qaE.calls ((rdOf ByteArray.empty u0 E1).size : Int) 1 30 true _ yJ.o)))))
              refine wpQuiet_nil ?_;rintro w63 ⟨⟨bG, hbL⟩, jB⟩;have d9 : w63 = bG := jB;clear jB;subst d9;clear hL0 hL1 hL2 hL3 hL4 hL5;have L6 := z_ ((hbL.block _ (qbH o0.o)).trans o0.o);have G6 := z_ (qad HB.o hbL);clear o0 HB;have o0 := L6;have HB := G6;clear L6 G6 hbL;try go_wp2
              go_roundg k2
              case measure => have := eO.o; have := p7.o; omega
              case rel => exact ⟨(wrap64 (E1 + 1)), zbs, H', ⟨zbw⟩, ⟨by (with_reducible repeat (first | refine qaj ?_ _ | refine qai ?_ | refine qah ?_ _)); exact o0.o⟩, ⟨zab V4.o⟩⟩
            ·replace AM := Bool.eq_false_iff.mpr AM;subst AM;have H1 : (some false) = some r := zaK;clear H;have H := H1;clear H1;obtain rfl := Option.some.inj H;have Eb : wr.cell? ⟨J0, 0, none⟩ = some (.bool false) := (qac o0.o 0).trans rfl;have bc : wr.cell? ⟨J0, 1, none⟩ = some (.slice Y0 E0.length Z0) := (qac o0.o 1).trans rfl;have dc : wr.cell? ⟨J0, 2, none⟩ = some (.slice D1 u0.length W0) := (qac o0.o 2).trans rfl;have Tc : wr.cell? ⟨J0, 3, none⟩ = some (.slice X0 B0.length R0) := (qac o0.o 3).trans rfl;have wb := qab o0.o 0;have bb := qab o0.o 1;have Ed := qab o0.o 2;have dd := qab o0.o 3;try go_wp2
             have H0 := z_ (qai o0.o);have I0 := z_ (qaP HB.o);clear o0 HB;have o0 := H0;have HB := I0;clear H0 I0;have DA : 0 ≤ (E1 : Int) := of_decide_eq_true zaN;have MA : E1 < (B0.length : Int) := of_decide_eq_true zaN;obtain ⟨bA, tI, O2⟩ := Kd.qbN g6.o E1 DA MA;have M6 := O2
             cases tI
             replace O2 := (HB.o.cell (World.block_lt_of_cell? w _ O2)).trans O2;replace DA := eq_true DA;replace MA := eq_true MA;have YC : 0 ≤ (E1 : Int) := of_decide_eq_true zaN;have ZC : E1 < (u0.length : Int) := of_decide_eq_true zaN;obtain ⟨g8, e116, P3⟩ := Kd.qbA d5.o E1 YC ZC;have U7 := P3
             cases e116
             replace P3 := (HB.o.cell (World.block_lt_of_cell? w _ P3)).trans P3;replace YC := eq_true YC;replace ZC := eq_true ZC;refine qbq zbS zbS ?_;have Q4 := z_ (show wr.drew.cell? ⟨J0, 0, none⟩ = some (.bool false) from (qac o0.o 0).trans rfl);have P4 := z_ (show wr.drew.cell? ⟨J0, 1, none⟩ = some (.slice Y0 E0.length Z0) from (qac o0.o 1).trans rfl);have W6 := z_ (show wr.drew.cell? ⟨J0, 2, none⟩ = some (.slice (some g8) u0.length W0) from (qac o0.o 2).trans rfl);have X6 := z_ (show wr.drew.cell? ⟨J0, 3, none⟩ = some (.slice (some bA) B0.length R0) from (qac o0.o 3).trans rfl);have D8 := z_ (show wr.drew.cell? (bA.add (E1).toNat) = some (.int .i64 (rd B0 E1)) from ((HB.o.cell (World.block_lt_of_cell? w _ M6)).trans M6));have K9 := z_ (show wr.drew.cell? (g8.add (E1).toNat) = some (.string (rdOf ByteArray.empty u0 E1)) from ((HB.o.cell (World.block_lt_of_cell? w _ U7)).trans U7));generalize wr.drew = w65b at o0 HB O2 P3 Q4 P4 W6 X6 D8 K9 ⊢;clear O2 P3;have hL0 := fun (p_ : Later w65b) => Later.cell p_ Q4.o
             have hL1 := fun (p_ : Later w65b) => Later.cell p_ P4.o
             have hL2 := fun (p_ : Later w65b) => Later.cell p_ W6.o
             have hL3 := fun (p_ : Later w65b) => Later.cell p_ X6.o
             have hL4 := fun (p_ : Later w65b) => Later.cell p_ D8.o
             have hL5 := fun (p_ : Later w65b) => Later.cell p_ K9.o
             clear Q4 P4 W6 X6 D8 K9
             repeat (first | go_big_quiet_step ((first | (go_at_call 63; with_reducible exact Calls.qaY (qaE.calls (rd B0 E1) 0 49 true _ aI.o)) | (go_at_call 63; with_reducible exact Calls.qaY (qaE.calls ((rdOf ByteArray.empty u0 E1).size : Int) 1 30 false _ yJ.o)) | (go_at_call 63; exact Calls.qaY (qaE.calls (rd B0 E1) 0 49 true _ aI.o)) | (go_at_call 63; exact Calls.qaY (qaE.calls ((rdOf ByteArray.empty u0 E1).size : Int) 1 30 false _ yJ.o)))) | quiet_step ((first | (go_at_call 63; with_reducible exact Calls.qaY (qaE.calls (rd B0 E1) 0 49 true _ aI.o)) | (go_at_call 63; with_reducible exact Calls.qaY (qaE.calls ((rdOf ByteArray.empty u0 E1).size : Int) 1 30 false _ yJ.o)) | (go_at_call 63; exact Calls.qaY (qaE.calls (rd B0 E1) 0 49 true _ aI.o)) | (go_at_call 63; exact Calls.qaY (qaE.calls ((rdOf ByteArray.empty u0 E1).size : Int) 1 30 false _ yJ.o)))))
             refine wpQuiet_nil ?_;rintro w65 ⟨⟨bG, hbL⟩, jB⟩;have d9 : w65 = bG := jB;clear jB;subst d9;clear hL0 hL1 hL2 hL3 hL4 hL5;have L6 := z_ ((hbL.block _ (qbH o0.o)).trans o0.o);have G6 := z_ (qad HB.o hbL);clear o0 HB;have o0 := L6;have HB := G6;clear L6 G6 hbL;try go_wp2
             go_ret
             exact ⟨zaF, zab V4.o⟩
           ·rw [if_neg dR] at H;exact absurd H zbW
          ·replace c49 := Bool.eq_false_iff.mpr c49;subst c49;have H1 : (some false) = some r := zaK;clear H;have H := H1;clear H1;obtain rfl := Option.some.inj H;have Qb : wr.cell? ⟨J0, 0, none⟩ = some (.bool false) := (qac o0.o 0).trans rfl;have Hb : wr.cell? ⟨J0, 1, none⟩ = some (.slice Y0 E0.length Z0) := (qac o0.o 1).trans rfl;have kd : wr.cell? ⟨J0, 2, none⟩ = some (.slice D1 u0.length W0) := (qac o0.o 2).trans rfl;have zc : wr.cell? ⟨J0, 3, none⟩ = some (.slice X0 B0.length R0) := (qac o0.o 3).trans rfl;have Jd := qab o0.o 0;have Qd := qab o0.o 1;have Ab := qab o0.o 2;have Nc := qab o0.o 3;try go_wp2
           have H0 := z_ (qai o0.o);have I0 := z_ (qaP HB.o);clear o0 HB;have o0 := H0;have HB := I0;clear H0 I0;have DA : 0 ≤ (E1 : Int) := of_decide_eq_true zaN;have MA : E1 < (B0.length : Int) := of_decide_eq_true zaN;obtain ⟨bA, tI, O2⟩ := Kd.qbN g6.o E1 DA MA;have M6 := O2
           cases tI
           replace O2 := (HB.o.cell (World.block_lt_of_cell? w _ O2)).trans O2;replace DA := eq_true DA;replace MA := eq_true MA;refine qbq zbS zbS ?_;have Q4 := z_ (show wr.drew.cell? ⟨J0, 0, none⟩ = some (.bool false) from (qac o0.o 0).trans rfl);have P4 := z_ (show wr.drew.cell? ⟨J0, 1, none⟩ = some (.slice Y0 E0.length Z0) from (qac o0.o 1).trans rfl);have W6 := z_ (show wr.drew.cell? ⟨J0, 2, none⟩ = some (.slice D1 u0.length W0) from (qac o0.o 2).trans rfl);have X6 := z_ (show wr.drew.cell? ⟨J0, 3, none⟩ = some (.slice (some bA) B0.length R0) from (qac o0.o 3).trans rfl);have D8 := z_ (show wr.drew.cell? (bA.add (E1).toNat) = some (.int .i64 (rd B0 E1)) from ((HB.o.cell (World.block_lt_of_cell? w _ M6)).trans M6));generalize wr.drew = w67b at o0 HB O2 Q4 P4 W6 X6 D8 ⊢;clear O2;have hL0 := fun (p_ : Later w67b) => Later.cell p_ Q4.o
           have hL1 := fun (p_ : Later w67b) => Later.cell p_ P4.o
           have hL2 := fun (p_ : Later w67b) => Later.cell p_ W6.o
           have hL3 := fun (p_ : Later w67b) => Later.cell p_ X6.o
           have hL4 := fun (p_ : Later w67b) => Later.cell p_ D8.o
           clear Q4 P4 W6 X6 D8
           repeat (first | go_big_quiet_step ((first | (go_at_call 63; exact Calls.qaY (qaE.calls (rd B0 E1) 0 49 false _ aI.o)))) | quiet_step ((first | (go_at_call 63; exact Calls.qaY (qaE.calls (rd B0 E1) 0 49 false _ aI.o)))))
           refine wpQuiet_nil ?_;rintro w67 ⟨⟨bG, hbL⟩, jB⟩;have d9 : w67 = bG := jB;clear jB;subst d9;clear hL0 hL1 hL2 hL3 hL4;have L6 := z_ ((hbL.block _ (qbH o0.o)).trans o0.o);have G6 := z_ (qad HB.o hbL);clear o0 HB;have o0 := L6;have HB := G6;clear L6 G6 hbL;try go_wp2
           go_ret
           exact ⟨zaF, zab V4.o⟩
         ·rw [if_neg EI] at H;exact absurd H zbW
        ·rw [if_neg c46] at H;have QZ : decide (E1 < (B0.length : Int)) = false := decide_eq_false c46;clear c46;obtain rfl := Option.some.inj H;have Xa : wr.cell? ⟨J0, 0, none⟩ = some (.bool false) := (qac o0.o 0).trans rfl;have Ud : wr.cell? ⟨J0, 1, none⟩ = some (.slice Y0 E0.length Z0) := (qac o0.o 1).trans rfl;have Yb : wr.cell? ⟨J0, 2, none⟩ = some (.slice D1 u0.length W0) := (qac o0.o 2).trans rfl;have Ya : wr.cell? ⟨J0, 3, none⟩ = some (.slice X0 B0.length R0) := (qac o0.o 3).trans rfl;have Cb := qab o0.o 0;have Tb := qab o0.o 1;have mb := qab o0.o 2;have jd := qab o0.o 3
         go_wp2
         go_ret
         exact ⟨zaF, zab V4.o⟩
end Go.Proofs.Ytcdokcpiahbejaa.X
namespace Go.Proofs.Ytcdokcpiahbejaa.X
open Go.RowKit Go.Proofs.YtcdokcpiahbejaaW.PrintWords Go.Proofs.YtcdokcpiahbejaaW.PrintLast Go.Proofs.YtcdokcpiahbejaaW.PrintMore
attribute [local go_sem] qax qay qaz qat qau qaJ qaK qam qan qav qaw
set_option linter.unusedVariables false
set_option linter.unusedSimpArgs false
def freeB (leaf : Bool) (ps : List S77) (ks : List ByteArray) (cs : List Int) : Bool := !leaf && (decide (ps.length = 0) && (decide (ks.length = 0) && decide (cs.length = 0)))
def kidAt (ks : List ByteArray) (cs : List Int) (i : Nat) : Bool := inB (rd cs i) 0 49 && (keyB (rdOf ByteArray.empty ks i) && (decide (i = 0) || Op.bytesLess (rdOf ByteArray.empty ks ((i - 1 : Nat) : Int)).toList (rdOf ByteArray.empty ks i).toList))
def nodeB (leaf : Bool) (ps : List S77) (ks : List ByteArray) (cs : List Int) : Bool :=
 freeB leaf ps ks cs || (if leaf = true then (inB ps.length 1 3 && (qda ps && (decide (ks.length = 0) && decide (cs.length = 0)))) else (decide (ps.length = 0) && (inB cs.length 1 4 && (decide (ks.length = cs.length) && allB (kidAt ks cs) cs.length))))
theorem key_in (s : ByteArray) : inB (s.size : Int) 1 30 = keyB s := by
 unfold inB keyB;rw [Bool.eq_iff_iff];simp only [Bool.and_eq_true, decide_eq_true_eq];omega
theorem qdO (n : Nat) : ((n : Int) == 0) = decide (n = 0) := by
 by_cases h : n = 0
 ·simp [h]
 ·simp [h]
theorem qhf (leaf : Bool) (ps : List S77) (ks : List ByteArray) (cs : List Int) : qby.f leaf ps ks cs = some (freeB leaf ps ks cs) := by
 unfold qby.f freeB;rw [qdO]
 cases leaf with
 | true => simp
 | false =>
  by_cases h1 : ps.length = 0
  ·by_cases h2 : ks.length = 0
   ·simp [h1, h2]
   ·simp [h1, h2]
  ·simp [h1]
theorem qhg (leaf : Bool) (ps : List S77) (ks : List ByteArray) (cs : List Int) : qbr.f leaf ps ks cs = some (freeB leaf ps ks cs) := by
 unfold qbr.f freeB;rw [qdO]
 cases leaf with
 | true => simp
 | false =>
  by_cases h1 : ps.length = 0
  ·by_cases h2 : ks.length = 0
   ·simp [h1, h2]
   ·simp [h1, h2]
  ·simp [h1]
theorem qf3 (leaf : Bool) (ps : List S77) (ks : List ByteArray) (cs : List Int) (he : ks.length = cs.length) (hl : cs.length < 9223372036854775807) : Ev (fun k => qar.l0 k 0 leaf ps ks cs) (allB (kidAt ks cs) cs.length) := by
 refine Ev.same (Ev.all (g := fun k x => qar.l0 k x leaf ps ks cs) (kidAt ks cs) true cs.length ?_ ?_) zbW
 ·refine Ev.succ ?_;simp only [qar.l0];exact Ev.neg zbV (Ev.is rfl)
 ·intro i hi r h;refine Ev.succ ?_;simp only [qar.l0, qhS, key_in, Option.bind_some, qev (n := i) zbV];refine Ev.pos zbV (Ev.pos zbV ?_)
  cases h1 : inB (rd cs i) 0 49 with
  | false => exact Ev.neg zbW (Ev.is (by simp [kidAt, h1]))
  | true =>
   refine Ev.pos rfl (Ev.pos zbV ?_)
   cases h2 : keyB (rdOf ByteArray.empty ks i) with
   | false => exact Ev.neg zbW (Ev.is (by simp [kidAt, h2]))
   | true =>
    refine Ev.pos rfl ?_
    by_cases h0 : i = 0
    ·subst h0;exact Ev.neg zbV (Ev.same h (by simp [kidAt] at *; simp [h1, h2]))
    ·simp only [qg8 (n := i) zbV zbV];refine Ev.pos zbV (Ev.pos zbV (Ev.pos zbV ?_))
     cases h4 : Op.bytesLess (rdOf ByteArray.empty ks ((i - 1 : Nat) : Int)).toList (rdOf ByteArray.empty ks i).toList with
     | false => exact Ev.neg zbW (Ev.is (by simp [kidAt, h4, h0]))
     | true => exact Ev.pos rfl (Ev.same h (by simp [kidAt, h1, h2, h4, h0]))
theorem qf4 (leaf : Bool) (ps : List S77) (ks : List ByteArray) (cs : List Int) (he : ks.length = cs.length) (hl : cs.length < 9223372036854775807) : Ev (fun k => qaB.l0 k ks (ks.length : Int) 0 leaf ps ks cs) (allB (kidAt ks cs) cs.length) := by
 refine Ev.same (Ev.all (g := fun k x => qaB.l0 k ks (ks.length : Int) x leaf ps ks cs) (kidAt ks cs) true cs.length ?_ ?_) zbW
 ·refine Ev.succ ?_;simp only [qaB.l0];exact Ev.neg zbV (Ev.is rfl)
 ·intro i hi r h;refine Ev.succ ?_;simp only [qaB.l0, qgB, qin, Option.bind_some, qev (n := i) zbV];refine Ev.pos zbV (Ev.pos zbV (Ev.pos zbV ?_))
  cases h1 : keyB (rdOf ByteArray.empty ks i) with
  | false => exact Ev.neg zbW (Ev.is (by simp [kidAt, h1]))
  | true =>
   refine Ev.pos rfl (Ev.pos zbV ?_)
   cases h2 : inB (rd cs i) 0 49 with
   | false => exact Ev.neg zbW (Ev.is (by simp [kidAt, h2]))
   | true =>
    refine Ev.pos rfl ?_
    by_cases h0 : i = 0
    ·subst h0;exact Ev.neg zbV (Ev.same h (by simp [kidAt] at *; simp [h1, h2]))
    ·simp only [qg8 (n := i) zbV zbV];refine Ev.pos zbV (Ev.pos zbV (Ev.pos zbV ?_))
     cases h4 : Op.bytesLess (rdOf ByteArray.empty ks ((i - 1 : Nat) : Int)).toList (rdOf ByteArray.empty ks i).toList with
     | false => exact Ev.neg zbW (Ev.is (by simp [kidAt, h4, h0]))
     | true => exact Ev.pos rfl (Ev.same h (by simp [kidAt, h1, h2, h4, h0]))
theorem qjw (a b : Nat) : ((a : Int) != (b : Int)) = !decide (a = b) := by
 by_cases h : a = b
 ·simp [h]
 ·rw [decide_eq_false h];simp;omega
theorem qhV (leaf : Bool) (ps : List S77) (ks : List ByteArray) (cs : List Int) (hl : cs.length < 9223372036854775807) : Ev (fun k => qar.f k leaf ps ks cs) (nodeB leaf ps ks cs) := by
 have hj : ∀ c : Bool, (c = false → ks.length = cs.length) → Ev (fun k => qar.j0 k c leaf ps ks cs) (!c && allB (kidAt ks cs) cs.length) := by
  intro c hc;refine Ev.succ ?_;simp only [qar.j0]
  cases c with
  | true => exact Ev.pos rfl (Ev.is rfl)
  | false => exact Ev.neg zbW (Ev.same (qf3 leaf ps ks cs (hc rfl) hl) zbW)
 unfold qar.f nodeB;simp only [qhf, qhS, Option.bind_some, qdO, qjw]
 cases h0 : freeB leaf ps ks cs with
 | true => exact Ev.pos rfl (Ev.is zbW)
 | false =>
  refine Ev.neg zbW ?_
  cases h1 : leaf with
  | true =>
   refine Ev.pos rfl ?_
   cases h2 : inB ps.length 1 3 with
   | false => exact Ev.neg zbW (Ev.is zbW)
   | true =>
    refine Ev.pos rfl (Ev.bind (qhe ps) ?_)
    cases h3 : qda ps with
    | false => exact Ev.neg zbW (Ev.is zbW)
    | true =>
     refine Ev.pos rfl ?_
     by_cases h4 : ks.length = 0
     ·exact Ev.pos zbV (Ev.is (by simp [h4]))
     ·exact Ev.neg zbV (Ev.is (by simp [h4]))
  | false =>
   rw [h1] at hj;refine Ev.neg zbW ?_
   by_cases h2 : ps.length = 0
   ·refine Ev.pos zbV ?_
    cases h3 : inB cs.length 1 4 with
    | false => exact Ev.neg zbW (Ev.same (hj true zbW) zbW)
    | true => exact Ev.pos rfl (Ev.same (hj _ zbW) (by simp [h2]))
   ·exact Ev.neg zbV (Ev.same (hj true zbW) (by simp [h2]))
theorem qhW (leaf : Bool) (ps : List S77) (ks : List ByteArray) (cs : List Int) (hl : cs.length < 9223372036854775807) : Ev (fun k => qaB.f k leaf ps ks cs) (nodeB leaf ps ks cs) := by
 have hj : ∀ c : Bool, (c = false → ks.length = cs.length) → Ev (fun k => qaB.j0 k c leaf ps ks cs) (!c && allB (kidAt ks cs) cs.length) := by
  intro c hc;refine Ev.succ ?_;simp only [qaB.j0]
  cases c with
  | true => exact Ev.pos rfl (Ev.is rfl)
  | false => exact Ev.neg zbW (Ev.same (qf4 leaf ps ks cs (hc rfl) hl) zbW)
 unfold qaB.f nodeB;simp only [qhg, qgB, Option.bind_some, qdO, qjw]
 cases h0 : freeB leaf ps ks cs with
 | true => exact Ev.pos rfl (Ev.is zbW)
 | false =>
  refine Ev.neg zbW ?_
  cases h1 : leaf with
  | true =>
   refine Ev.pos rfl ?_
   cases h2 : inB ps.length 1 3 with
   | false => exact Ev.neg zbW (Ev.is zbW)
   | true =>
    have hp : ps.length ≤ 3 := by simp only [inB, Bool.and_eq_true, decide_eq_true_eq] at h2; omega
    have e3 : qda ps = chainB none ps := by unfold qda; rw [decide_eq_true zbV, Bool.true_and]
    refine Ev.pos rfl (Ev.bind (qfC ps zbV) ?_);rw [e3]
    cases h3 : chainB none ps with
    | false => exact Ev.neg zbW (Ev.is zbW)
    | true =>
     refine Ev.pos rfl ?_
     by_cases h4 : ks.length = 0
     ·exact Ev.pos zbV (Ev.is (by simp [h4]))
     ·exact Ev.neg zbV (Ev.is (by simp [h4]))
  | false =>
   rw [h1] at hj;refine Ev.neg zbW ?_
   by_cases h2 : ps.length = 0
   ·refine Ev.neg zbV ?_
    cases h3 : inB cs.length 1 4 with
    | false => exact Ev.neg zbW (Ev.same (hj true zbW) zbW)
    | true => exact Ev.pos rfl (Ev.same (hj _ zbW) (by simp [h2]))
   ·exact Ev.pos zbV (Ev.same (hj true zbW) (by simp [h2]))
def qcR (p : List S77) (i : Nat) : ByteArray := (qaq p (i : Int)).f0
def nbN (x : S75) : Bool := nodeB x.f0 x.f1 x.f2 x.f3
def fbN (x : S75) : Bool := freeB x.f0 x.f1 x.f2 x.f3
def kidsW (f : Int → List Bool → List S77 → Bool × List Bool × List S77) : List Int → List ByteArray → List Bool → List S77 → Bool × List Bool × List S77
 | k :: ks, m :: ms, s, p => if (f k s p).1 = true ∧ p.length < (f k s p).2.2.length ∧ (qcR (f k s p).2.2 p.length).toList = m.toList then kidsW f ks ms (f k s p).2.1 (f k s p).2.2 else (false, (f k s p).2)
 | _, _, s, p => (true, s, p)
theorem qdA (f : Int → List Bool → List S77 → Bool × List Bool × List S77) (k : Int) (ks : List Int) (m : ByteArray) (ms : List ByteArray) (s : List Bool) (p : List S77) : kidsW f (k :: ks) (m :: ms) s p = if (f k s p).1 = true ∧ p.length < (f k s p).2.2.length ∧ (qcR (f k s p).2.2 p.length).toList = m.toList then kidsW f ks ms (f k s p).2.1 (f k s p).2.2 else (false, (f k s p).2) := by
 rw [kidsW]
theorem qdk (f : Int → List Bool → List S77 → Bool × List Bool × List S77) (ms : List ByteArray) (s : List Bool) (p : List S77) : kidsW f [] ms s p = (true, s, p) := by
 simp [kidsW]
def goodW (ns : List S75) (k : Int) (s : List Bool) : Prop := 0 ≤ k ∧ k < (ns.length : Int) ∧ rdOf false s k = false ∧ nbN (qaH ns k) = true ∧ fbN (qaH ns k) = false
instance (ns : List S75) (k : Int) (s : List Bool) : Decidable (goodW ns k s) := by unfold goodW; infer_instance
def walkW (ns : List S75) : Nat → Int → List Bool → List S77 → Bool × List Bool × List S77
 | 0, _, s, p => (false, s, p)
 | n + 1, k, s, p => if goodW ns k s then kidsW (walkW ns n) (qaH ns k).f3 (qaH ns k).f2 (s.set k.toNat true) (p ++ (qaH ns k).f1) else (false, s, p)
def qem (ns : List S75) : Prop := ∀ x, x ∈ ns → x.f3.length ≤ 1048576
theorem qhh {ns : List S75} {k : Int} (h : qem ns) (hk : k < (ns.length : Int)) (h0 : 0 ≤ k) : (qaH ns k).f3.length ≤ 1048576 := by
 have e : qaH ns k = ns[k.toNat]'zbV := by
  unfold qaH;simp [List.getD_eq_getElem?_getD, show k.toNat < ns.length from zbV]
 rw [e];exact h _ (List.getElem_mem _)
structure WI (N M : Nat) (s : List Bool) (p : List S77) : Prop where
 len : s.length = N
 room : p.length + 3 * s.count false ≤ M
 good : ∀ q, q ∈ p → okP q = true
theorem qfD {s : List Bool} {i : Nat} (h : i < s.length) (hv : s.getD i false = false) : (s.set i true).count false + 1 = s.count false := by
 induction s generalizing i with
 | nil => simp at h
 | cons b s ih =>
  cases i with
  | zero =>
   have : b = false := by simpa using hv
   subst this;simp
  | succ i =>
   have := ih (by simpa using h) (by simpa using hv)
   cases b with
   | true => simpa using this
   | false => simp; omega
theorem qcz {x : S75} (h : nbN x = true) (hf : fbN x = false) (hl : x.f0 = false) : x.f1 = [] ∧ 1 ≤ x.f3.length ∧ x.f3.length ≤ 4 ∧ x.f2.length = x.f3.length ∧ ∀ i : Nat, i < x.f3.length → 0 ≤ rd x.f3 i ∧ rd x.f3 i ≤ 49 := by
 unfold nbN nodeB at h;unfold fbN at hf;rw [hf, hl] at h;simp only [Bool.false_or, Bool.false_eq_true, if_false, Bool.and_eq_true, decide_eq_true_eq, inB] at h;obtain ⟨h1, ⟨h2, h3⟩, h4, h5⟩ := h;refine ⟨List.eq_nil_of_length_eq_zero h1, zbV, zbV, h4, fun i hi => ?_⟩;have := qio.1 h5 i hi;unfold kidAt inB at this;simp only [Bool.and_eq_true, decide_eq_true_eq] at this;exact this.1
theorem qc0 {x : S75} (h : nbN x = true) (hf : fbN x = false) (hl : x.f0 = true) : x.f3 = [] ∧ x.f2 = [] ∧ 1 ≤ x.f1.length ∧ x.f1.length ≤ 3 ∧ (∀ q, q ∈ x.f1 → okP q = true) := by
 unfold nbN nodeB at h;unfold fbN at hf;rw [hf, hl] at h;simp only [Bool.false_or, if_true, Bool.and_eq_true, decide_eq_true_eq, inB] at h;obtain ⟨⟨h1, h2⟩, h3, h4, h5⟩ := h;exact ⟨List.eq_nil_of_length_eq_zero h5, List.eq_nil_of_length_eq_zero h4, zbV, zbV, (qd2.1 h3).2.1⟩
theorem qjx {N M : Nat} {f : Int → List Bool → List S77 → Bool × List Bool × List S77} (hf : ∀ k s p, WI N M s p → WI N M (f k s p).2.1 (f k s p).2.2 ∧ p.length ≤ (f k s p).2.2.length) : ∀ (ks : List Int) (ms : List ByteArray) (s : List Bool) (p : List S77), WI N M s p → WI N M (kidsW f ks ms s p).2.1 (kidsW f ks ms s p).2.2 ∧ p.length ≤ (kidsW f ks ms s p).2.2.length := by
 intro ks
 induction ks with
 | nil => intro ms s p h; exact ⟨h, Nat.le_refl _⟩
 | cons k ks ih =>
  intro ms s p h
  cases ms with
  | nil => exact ⟨h, Nat.le_refl _⟩
  | cons m ms =>
   obtain ⟨h1, h2⟩ := hf k s p h;unfold kidsW
   split
   ·obtain ⟨h3, h4⟩ := ih ms _ _ h1;exact ⟨h3, Nat.le_trans h2 h4⟩
   ·exact ⟨h1, h2⟩
theorem qfE {N M : Nat} (ns : List S75) (hN : ns.length = N) : ∀ (n : Nat) (k : Int) (s : List Bool) (p : List S77), WI N M s p → WI N M (walkW ns n k s p).2.1 (walkW ns n k s p).2.2 ∧ p.length ≤ (walkW ns n k s p).2.2.length := by
 intro n
 induction n with
 | zero => intro k s p h; exact ⟨h, Nat.le_refl _⟩
 | succ n ih =>
  intro k s p h;unfold walkW
  split
  ·rename_i hg;obtain ⟨g0, g1, g2, g3, g4⟩ := hg;have hc := qfD (s := s) (i := k.toNat) (by rw [h.len]; omega) (by have := g2; unfold rdOf at this; exact this);have hr := h.room;have hx : (qaH ns k).f1.length ≤ 3 ∧ ∀ q, q ∈ (qaH ns k).f1 → okP q = true := by
    cases hl : (qaH ns k).f0 with
    | true => obtain ⟨_, _, _, a, b⟩ := qc0 g3 g4 hl; exact ⟨a, b⟩
    | false => rw [(qcz g3 g4 hl).1]; exact ⟨zbW, fun q hq => by cases hq⟩
   obtain ⟨h3, h4⟩ := qjx (ih) (qaH ns k).f3 (qaH ns k).f2 (s.set k.toNat true) (p ++ (qaH ns k).f1) ⟨by rw [List.length_set]; exact h.len, zbD, fun q hq => (List.mem_append.1 hq).elim (h.good q) (hx.2 q)⟩;exact ⟨h3, Nat.le_trans zbD h4⟩
  ·exact ⟨h, Nat.le_refl _⟩
theorem qiN {f : Int → List Bool → List S77 → Bool × List Bool × List S77} : ∀ (ks : List Int) (ms : List ByteArray) (s : List Bool) (p : List S77), (kidsW f ks ms s p).1 = true → p.length ≤ (kidsW f ks ms s p).2.2.length ∧ (1 ≤ ks.length → 1 ≤ ms.length → p.length < (kidsW f ks ms s p).2.2.length) := by
 intro ks
 induction ks with
 | nil => intro ms s p h; exact ⟨Nat.le_refl _, fun h => absurd h zbW⟩
 | cons k ks ih =>
  intro ms s p h
  cases ms with
  | nil => exact ⟨Nat.le_refl _, fun _ h => absurd h zbW⟩
  | cons m ms =>
   unfold kidsW at h ⊢
   split at h
   ·rename_i hg;rw [if_pos hg];have := (ih ms _ _ h).1;have := hg.2.1;exact ⟨zbV, fun _ _ => zbV⟩
   ·cases h
theorem qgf (ns : List S75) (n : Nat) (k : Int) (s : List Bool) (p : List S77) (h : (walkW ns n k s p).1 = true) : p.length < (walkW ns n k s p).2.2.length := by
 cases n with
 | zero => cases h
 | succ n =>
  unfold walkW at h ⊢
  split at h
  ·rename_i hg;rw [if_pos hg];obtain ⟨g0, g1, g2, g3, g4⟩ := hg;have hk := qiN _ _ _ _ h
   cases hl : (qaH ns k).f0 with
   | true =>
    have := qc0 g3 g4 hl;have h1 := hk.1;rw [List.length_append] at h1;omega
   | false =>
    obtain ⟨a, b, c, d, _⟩ := qcz g3 g4 hl;have h1 := hk.2 b zbV;rw [a, List.append_nil] at h1;rw [a, List.append_nil];exact h1
  ·cases h
def qdl (p : List S77) (i : Nat) : Bool := Op.bytesLess (qcR p (i - 1)).toList (qcR p i).toList
def riseB (p : List S77) : Bool := qcy (qdl p) 1 (p.length - 1)
def noneW : List Bool := List.replicate 50 false
def lookW (ns : List S75) (root : Int) : Bool × List Bool × List S77 := if ns.length = 50 then (if root = -1 then (true, noneW, []) else walkW ns 21 root noneW []) else (false, noneW, [])
def walkR (ns : List S75) (root : Int) : List S77 × List Bool × Bool := ((lookW ns root).2.2, (lookW ns root).2.1, ((lookW ns root).1 && riseB (lookW ns root).2.2) && decide ((lookW ns root).2.2.length ≤ 60))
theorem qeX : WI 50 150 noneW [] := ⟨by unfold noneW; simp, by unfold noneW; rw [List.count_replicate]; simp, fun q hq => by cases hq⟩
theorem qeG (ns : List S75) (root : Int) : WI 50 150 (lookW ns root).2.1 (lookW ns root).2.2 := by
 unfold lookW
 split
 ·rename_i h
  split
  ·exact qeX
  ·exact (qfE ns h 21 root noneW [] qeX).1
 ·exact qeX
theorem qdB {p : List S77} {i : Nat} (h : i < p.length) : qcR p i = p[i].f0 := by
 unfold qcR qaq;rw [Int.toNat_natCast];simp [List.getD_eq_getElem?_getD, h]
theorem riseB_is {p : List S77} : riseB p = true ↔ Rises p := by
 unfold riseB;rw [qfA];refine ⟨fun h => ?_, fun h j h1 h2 => ?_⟩
 ·have hc : ∀ m (hm : m + 1 < p.length), Op.bytesLess (p[m]'zbV).f0.toList p[m + 1].f0.toList = true := fun m hm => by
   have := h (m + 1) zbV zbV;unfold qdl at this;rw [qdB zbV, qdB hm] at this
   simpa using this
  have hd : ∀ d i (hi : i + 1 + d < p.length), Op.bytesLess (p[i]'zbV).f0.toList p[i + 1 + d].f0.toList = true := by
   intro d
   induction d with
   | zero => intro i hi; exact hc i hi
   | succ d ih => intro i hi; exact qcH (ih i zbV) (hc (i + 1 + d) hi)
  refine List.pairwise_iff_getElem.2 fun i j hi hj hij => ?_
  obtain ⟨d, rfl⟩ : ∃ d, j = i + 1 + d := ⟨j - (i + 1), zbV⟩
  exact hd d i hj
 ·unfold qdl;rw [qdB zbV, qdB zbV];exact qip h zbV zbV
theorem qhX (ns : List S75) (root : Int) : qda (lookW ns root).2.2 = (riseB (lookW ns root).2.2 && decide ((lookW ns root).2.2.length ≤ 60)) := by
 rw [Bool.eq_iff_iff, qd2, Bool.and_eq_true, riseB_is, decide_eq_true_eq];exact ⟨fun h => ⟨h.2.2, h.1⟩, fun h => ⟨h.2, (qeG ns root).good, h.1⟩⟩
theorem qdd (ns : List S75) (root : Int) : (walkR ns root).2.2 = ((lookW ns root).1 && qda (lookW ns root).2.2) := by
 unfold walkR;simp only;rw [qhX, Bool.and_assoc]
theorem qhY {ns : List S75} {root : Int} (h : (walkR ns root).2.2 = true) : qda (walkR ns root).1 = true := by
 rw [qdd, Bool.and_eq_true] at h;exact h.2
theorem qfF (ns : List S75) (root : Int) : (walkR ns root).2.1.length = 50 := (qeG ns root).len
theorem qew {ns : List S75} {root : Int} (h : ns.length ≠ 50) : (walkR ns root).2.2 = false := by
 rw [qdd];unfold lookW;rw [if_neg h];rfl
theorem qhi {ns : List S75} {root : Int} (h : inB root (-1) 49 = false) : (walkR ns root).2.2 = false := by
 by_cases hl : ns.length = 50
 ·rw [qdd];unfold lookW;have h1 : root ≠ -1 := fun e => by subst e; exact absurd h zbT
  rw [if_pos hl, if_neg h1];have : (walkW ns 21 root noneW []).1 = false := by
   unfold walkW;rw [if_neg (fun g => by have h1 := g.1; have h2 := g.2.1; unfold inB at h; rw [decide_eq_true zbV, decide_eq_true zbV] at h; cases h)]
  rw [this];rfl
 ·exact qew hl
end Go.Proofs.Ytcdokcpiahbejaa.X
