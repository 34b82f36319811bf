import Derived.Test.YtcdokcpiahbejaaKFnRefs6
import Derived.Lib.SliceRun
import Derived.Lib.Overlaps
import Derived.Lib.AppendZerosOnto
import Derived.Laws.NewBlocks
namespace Go.Proofs.Ytcdokcpiahbejaa.X
open Go.RowKit Go.Proofs.YtcdokcpiahbejaaW.PrintWords Go.Proofs.YtcdokcpiahbejaaW.PrintLast Go.Proofs.YtcdokcpiahbejaaW.PrintMore
attribute [local go_sem] qax qay qaz qat qau qaJ qaK qam qan qav qaw
set_option linter.unusedVariables false
set_option linter.unusedSimpArgs false
def qbK.f (G1 : Bool) (E0 : List (S77)) (u0 : List ByteArray) (B0 : List Int) : Option (Bool × (List (S77)) × List ByteArray × List Int) := (some (([] : List (S77)) : List (S77))).bind fun GG => (if GG.length + E0.length < 4398046511104 then ((some (([] : List ByteArray) : List ByteArray)).bind fun DB => (if DB.length + u0.length < 8796093022208 then ((some (([] : List Int) : List Int)).bind fun L9 => (if L9.length + B0.length < 17592186044416 then (some (G1, (GG ++ E0), (DB ++ u0), (L9 ++ B0))) else (none))) else (none))) else (none))
set_option maxHeartbeats 8000000 in
set_option maxRecDepth 100000 in
theorem qbK.calls (G1 : Bool) (Y0 : Option Addr) (Z0 : Nat) (E0 : List (S77)) (D1 : Option Addr) (W0 : Nat) (u0 : List ByteArray) (X0 : Option Addr) (R0 : Nat) (B0 : List Int) (r1 : Bool) (r2 : List (S77)) (r3 : List ByteArray) (r4 : List Int) (w : World) (M7 : Kd.C k77 w Y0 E0.length E0) (J7 : E0.length ≤ Z0) (P7 : Kd.C Kd.string w D1 u0.length u0) (d8 : u0.length ≤ W0) (b8 : Kd.C (Kd.int .i64) w X0 B0.length B0) (S7 : B0.length ≤ R0) (h : qbK.f G1 E0 u0 B0 = some (r1, r2, r3, r4)) :
  Calls Try.prog 66 #[.agg #[.bool G1, .slice Y0 E0.length Z0, .slice D1 u0.length W0, .slice X0 B0.length R0]] w fun e w' => ∃ OJ ZL zN : Value, e = .returned (.agg #[.bool r1, OJ, ZL, zN]) ∧ Kd.R k77 77 w' w.heap.size (fun _ => True) OJ r2 ∧ Kd.R Kd.string 9 w' w.heap.size (fun _ => True) ZL r3 ∧ Kd.R (Kd.int .i64) 3 w' w.heap.size (fun _ => True) zN r4 ∧ Below w.heap.size w w' := by
 have JN := Try.underlying75;have U6 := z_ M7;have j7 := z_ J7;clear M7 J7;have d5 := z_ P7;have j9 := z_ d8;clear P7 d8;have g6 := z_ b8;have n9 := z_ S7;clear b8 S7;have HB := z_ (Below.refl w.heap.size w);have H : ((some (([] : List (S77)) : List (S77))).bind fun GG => (if GG.length + E0.length < 4398046511104 then ((some (([] : List ByteArray) : List ByteArray)).bind fun DB => (if DB.length + u0.length < 8796093022208 then ((some (([] : List Int) : List Int)).bind fun L9 => (if L9.length + B0.length < 17592186044416 then (some (G1, (GG ++ E0), (DB ++ u0), (L9 ++ B0))) else (none))) else (none))) else (none))) = some (r1, r2, r3, r4) := h;clear h;obtain ⟨GG, lK⟩ : ∃ y_ : List (S77), y_ = (([] : List (S77))) := ⟨_, rfl⟩
 replace H : (if GG.length + E0.length < 4398046511104 then ((some (([] : List ByteArray) : List ByteArray)).bind fun DB => (if DB.length + u0.length < 8796093022208 then ((some (([] : List Int) : List Int)).bind fun L9 => (if L9.length + B0.length < 17592186044416 then (some (G1, (GG ++ E0), (DB ++ u0), (L9 ++ B0))) else (none))) else (none))) else (none)) = some (r1, r2, r3, r4) := by first | (rw [lK]; with_reducible exact H) | (have Y1 := (Option.bind_some _ _).symm.trans H; rw [lK]; with_reducible exact Y1) | (have Y1 := (Option.bind_some _ _).symm.trans H; with_reducible exact Y1) | with_reducible exact H | (rw [lK]; exact H) | exact H
 have eU := z_ lK;clear lK
 by_cases c2 : GG.length + E0.length < 4398046511104
 ·rw [if_pos c2] at H;have af := z_ c2;clear c2;obtain ⟨kA, jJ⟩ : ∃ y_ : List (S77), y_ = (GG ++ E0) := ⟨_, rfl⟩
  replace H : ((some (([] : List ByteArray) : List ByteArray)).bind fun DB => (if DB.length + u0.length < 8796093022208 then ((some (([] : List Int) : List Int)).bind fun L9 => (if L9.length + B0.length < 17592186044416 then (some (G1, kA, (DB ++ u0), (L9 ++ B0))) else (none))) else (none))) = some (r1, r2, r3, r4) := by first | (rw [jJ]; with_reducible exact H) | (have Y1 := (Option.bind_some _ _).symm.trans H; rw [jJ]; with_reducible exact Y1) | (have Y1 := (Option.bind_some _ _).symm.trans H; with_reducible exact Y1) | with_reducible exact H | (rw [jJ]; exact H) | exact H
  have ba := z_ jJ;clear jJ;obtain ⟨DB, JJ⟩ : ∃ y_ : List ByteArray, y_ = (([] : List ByteArray)) := ⟨_, rfl⟩
  replace H : (if DB.length + u0.length < 8796093022208 then ((some (([] : List Int) : List Int)).bind fun L9 => (if L9.length + B0.length < 17592186044416 then (some (G1, kA, (DB ++ u0), (L9 ++ B0))) else (none))) else (none)) = some (r1, r2, r3, r4) := by first | (rw [JJ]; with_reducible exact H) | (have Y1 := (Option.bind_some _ _).symm.trans H; rw [JJ]; with_reducible exact Y1) | (have Y1 := (Option.bind_some _ _).symm.trans H; with_reducible exact Y1) | with_reducible exact H | (rw [JJ]; exact H) | exact H
  have NS := z_ JJ;clear JJ
  by_cases c3 : DB.length + u0.length < 8796093022208
  ·rw [if_pos c3] at H;have De := z_ c3;clear c3;obtain ⟨EF, rK⟩ : ∃ y_ : List ByteArray, y_ = (DB ++ u0) := ⟨_, rfl⟩
   replace H : ((some (([] : List Int) : List Int)).bind fun L9 => (if L9.length + B0.length < 17592186044416 then (some (G1, kA, EF, (L9 ++ B0))) else (none))) = some (r1, r2, r3, r4) := by first | (rw [rK]; with_reducible exact H) | (have Y1 := (Option.bind_some _ _).symm.trans H; rw [rK]; with_reducible exact Y1) | (have Y1 := (Option.bind_some _ _).symm.trans H; with_reducible exact Y1) | with_reducible exact H | (rw [rK]; exact H) | exact H
   have ea := z_ rK;clear rK;obtain ⟨L9, sK⟩ : ∃ y_ : List Int, y_ = (([] : List Int)) := ⟨_, rfl⟩
   replace H : (if L9.length + B0.length < 17592186044416 then (some (G1, kA, EF, (L9 ++ B0))) else (none)) = some (r1, r2, r3, r4) := by first | (rw [sK]; with_reducible exact H) | (have Y1 := (Option.bind_some _ _).symm.trans H; rw [sK]; with_reducible exact Y1) | (have Y1 := (Option.bind_some _ _).symm.trans H; with_reducible exact Y1) | with_reducible exact H | (rw [sK]; exact H) | exact H
   have DS := z_ sK;clear sK
   by_cases c4 : L9.length + B0.length < 17592186044416
   ·rw [if_pos c4] at H;have Pg := z_ c4;clear c4;obtain ⟨iK, zJ⟩ : ∃ y_ : List Int, y_ = (L9 ++ B0) := ⟨_, rfl⟩
    replace H : (some (G1, kA, EF, iK)) = some (r1, r2, r3, r4) := by first | (rw [zJ]; with_reducible exact H) | (have Y1 := (Option.bind_some _ _).symm.trans H; rw [zJ]; with_reducible exact Y1) | (have Y1 := (Option.bind_some _ _).symm.trans H; with_reducible exact Y1) | with_reducible exact H | (rw [zJ]; exact H) | exact H
    have EX := z_ zJ;clear zJ;simp only [Option.some.injEq, Prod.mk.injEq] at H;obtain ⟨rfl, rfl, rfl, rfl⟩ := H
    go_enter Try.func66, Try.ntmps66
    go_wp2_with (first | ((with_reducible refine qaG (N := 1) rfl ?_); refine qaS zbX (N := 1) zbX (cs := #[.bool G1, .slice Y0 E0.length Z0, .slice D1 u0.length W0, .slice X0 B0.length R0]) (t := 75) zbv ?_; intro f4 hg w5 hbox hb; have H0 := z_ (qad zaq hb); have I0 := z_ (hbox); have K0 := z_ ((zal : w.heap.size ≤ f4)); have U0 := z_ ((zal : w.heap.size ≤ f4)); clear HB; have HB := H0; have J1 := I0; have GW164 := K0; have m9 := U0; clear H0 I0 K0 U0; clear hb hbox hg) | ((with_reducible refine qaG (N := 2) rfl ?_); refine qaS zbX (N := 2) zbX (cs := #[.bool false, .slice none 0 0, .slice none 0 0, .slice none 0 0]) (t := 75) zbv ?_; intro U5 hg w6 hbox hb; have H0 := z_ (qap (g := f4) (o := .cells #[.bool G1, .slice Y0 E0.length Z0, .slice D1 u0.length W0, .slice X0 B0.length R0] 75 (0, 0)) (zac J1.o) hb); have I0 := z_ (qad (zab m9.o) hb); have K0 := z_ (hbox); have U0 := z_ ((by rw [hg]; exact (qaC (zab m9.o)) : w.heap.size ≤ U5)); have N5 := z_ ((by rw [hg]; exact (qaC (zab m9.o)) : w.heap.size ≤ U5)); have b9 := z_ ((by rw [hg]; exact Nat.ne_of_lt (qbH (g := f4) (o := .cells #[.bool G1, .slice Y0 E0.length Z0, .slice D1 u0.length W0, .slice X0 B0.length R0] 75 (0, 0)) (zac J1.o)) : f4 ≠ U5)); have WF := z_ ((by rw [hg]; exact Nat.ne_of_gt (qbH (g := f4) (o := .cells #[.bool G1, .slice Y0 E0.length Z0, .slice D1 u0.length W0, .slice X0 B0.length R0] 75 (0, 0)) (zac J1.o)) : U5 ≠ f4)); clear J1 HB; have J1 := H0; have HB := I0; have X4 := K0; have GW165 := U0; have AA := N5; have GN := b9; have VB := WF; clear H0 I0 K0 U0 N5 b9 WF; clear hb hbox hg) | ((with_reducible refine qaG (N := 3) rfl ?_); refine Kd.qcD k77 _ 77 zbX (N := 3) zbX (xs := ([] : List (S77))) (inner := []) (ok := fun _ => True) (okp := fun _ => True) zbv ?hp (fun _ hk => hk) trivial (Below.refl _ _) (Nat.le_refl _) zbW ?_; (case hp => exact (Reps.none _ _)); intro v167 w7 gQ hb F5 Z1; clear F5 Z1; (first | rw [← eU.o] at gQ | (simp only [Int.reduceToNat] at gQ; rw [← eU.o] at gQ)); have H0 := z_ (Kd.qa9 gQ (qaC (zaf m9.o AA.o))); have I0 := z_ (qap (g := f4) (o := .cells #[.bool G1, .slice Y0 E0.length Z0, .slice D1 u0.length W0, .slice X0 B0.length R0] 75 (0, 0)) (zac J1.o) hb); have K0 := z_ (qap (g := U5) (o := .cells #[.bool false, .slice none 0 0, .slice none 0 0, .slice none 0 0] 75 (0, 0)) (zac X4.o) hb); have U0 := z_ (qad (zaf m9.o AA.o) hb); clear J1 X4 HB; have vM := H0; have J1 := I0; have X4 := K0; have HB := U0; clear H0 I0 K0 U0 hb gQ; have rY := GN.o; have XZ := VB.o; have kG : w7.cell? ⟨f4, 0, none⟩ = some (.bool G1) := (qac J1.o 0).trans rfl; have wM : w7.cell? ⟨f4, 1, none⟩ = some (.slice Y0 E0.length Z0) := (qac J1.o 1).trans rfl; have PM : w7.cell? ⟨f4, 2, none⟩ = some (.slice D1 u0.length W0) := (qac J1.o 2).trans rfl; have aM : w7.cell? ⟨f4, 3, none⟩ = some (.slice X0 B0.length R0) := (qac J1.o 3).trans rfl; have rG := qab J1.o 0; have NM := qab J1.o 1; have qM := qab J1.o 2; have pM := qab J1.o 3) | ((with_reducible refine qbs (b := .append) (xs := #[.tmp 3, .tmp 5]) rfl ?_); at_builtin; refine Kd.qbJ k77 (w0 := w) w.heap.size rfl (.tmp 3) (.tmp 5) 36 77 (.agg #[(.string ⟨#[]⟩), (.string ⟨#[]⟩)]) 32 rfl Try.underlying36 qcK rfl zbT zbV v167 GG E0 _ _ _ (fun _ => True) (fun _ => False) rfl rfl ?aO ?aR (fun _ _ h => h) (fun _ h => h.elim) ?aF ?aB ?aS ?aL ?_; (case aR => exact zad (Kd.qaO U6.o HB.o)); (case aB => exact (zaf m9.o AA.o)); (case aF => exact (fun _ _ => trivial)); (case aO => exact (zae vM.o)); (case aS => exact (qaC (zaf m9.o AA.o))); (case aL => have := af.o; omega); intro v170 lL ho hb hg hat; rw [← ba.o] at ho; have H0 := z_ (qbd (g := f4) (o := .cells #[.bool G1, .slice Y0 E0.length Z0, .slice D1 u0.length W0, .slice X0 B0.length R0] 75 (0, 0)) (zac J1.o) hg (Kd.R_ne vM.o J1.o zbT)); have I0 := z_ (qbd (g := U5) (o := .cells #[.bool false, .slice none 0 0, .slice none 0 0, .slice none 0 0] 75 (0, 0)) (zac X4.o) hg (Kd.R_ne vM.o X4.o zbT)); have K0 := z_ (hb); have U0 := z_ (ho); clear J1 X4 HB vM; have J1 := H0; have X4 := I0; have HB := K0; have cA := U0; clear H0 I0 K0 U0 ho hb hg hat; obtain ⟨KC, EC, tf⟩ := Kd.qbi cA.o; subst tf; have vI : lL.cell? ⟨f4, 0, none⟩ = some (.bool G1) := (qac J1.o 0).trans rfl; have RM : lL.cell? ⟨f4, 1, none⟩ = some (.slice Y0 E0.length Z0) := (qac J1.o 1).trans rfl; have tS : lL.cell? ⟨f4, 2, none⟩ = some (.slice D1 u0.length W0) := (qac J1.o 2).trans rfl; have Id : lL.cell? ⟨f4, 3, none⟩ = some (.slice X0 B0.length R0) := (qac J1.o 3).trans rfl; have WH := qab J1.o 0; have lM := qab J1.o 1; have KR := qab J1.o 2; have Mc := qab J1.o 3) | ((with_reducible refine qaG (N := 8) rfl ?_); refine Kd.qcD Kd.string _ 9 zbX (N := 8) zbX (xs := ([] : List ByteArray)) (inner := []) (ok := fun _ => True) (okp := fun _ => True) zbv ?hp (fun _ hk => hk) trivial (Below.refl _ _) (Nat.le_refl _) zbW ?_; (case hp => exact (Reps.none _ _)); intro v173 CK IO hb F5 Z1; clear F5 Z1; (first | rw [← NS.o] at IO | (simp only [Int.reduceToNat] at IO; rw [← NS.o] at IO)); have H0 := z_ (Kd.qbO (by (with_reducible repeat (first | apply Kd.qaV | apply Kd.qa0 | apply Kd.qa6)); exact (Kd.qbb (Kd.qbQ (p := ⟨f4, 1, none⟩) (Kd.qbu cA.o J1.o zbT) (fun _ hk => hk.2) (.slice KC kA.length EC)) (fun _ h_ => h_.1))) hb); have I0 := z_ (Kd.qa9 IO (qaC (zaf m9.o AA.o))); have K0 := z_ (qap (g := f4) (o := .cells #[.bool G1, .slice KC kA.length EC, .slice D1 u0.length W0, .slice X0 B0.length R0] 75 (0, 0)) (by (with_reducible repeat (first | refine qaj ?_ _ | refine qai ?_ | refine qah ?_ _)); refine qbm (cs := #[.bool G1, .slice Y0 E0.length Z0, .slice D1 u0.length W0, .slice X0 B0.length R0]) ?_ 1 _ rfl; (with_reducible repeat (first | refine qaj ?_ _ | refine qai ?_ | refine qah ?_ _)); exact J1.o) hb); have U0 := z_ (qap (g := U5) (o := .cells #[.bool false, .slice none 0 0, .slice none 0 0, .slice none 0 0] 75 (0, 0)) (by (with_reducible repeat (first | refine qaj ?_ _ | refine qai ?_ | refine qah ?_ _)); refine qbF ?_ VB.o _; (with_reducible repeat (first | refine qaj ?_ _ | refine qai ?_ | refine qah ?_ _)); exact X4.o) hb); have N5 := z_ (qad (zaf m9.o AA.o) hb); clear cA J1 X4 HB; have cA := H0; have aJ := I0; have J1 := K0; have X4 := U0; have HB := N5; clear H0 I0 K0 U0 N5 hb IO; have SA : CK.cell? ⟨f4, 0, none⟩ = some (.bool G1) := (qac J1.o 0).trans rfl; have OB : CK.cell? ⟨f4, 1, none⟩ = some (.slice KC kA.length EC) := (qac J1.o 1).trans rfl; have PB : CK.cell? ⟨f4, 2, none⟩ = some (.slice D1 u0.length W0) := (qac J1.o 2).trans rfl; have jC : CK.cell? ⟨f4, 3, none⟩ = some (.slice X0 B0.length R0) := (qac J1.o 3).trans rfl; have NA := qab J1.o 0; have xC := qab J1.o 1; have fC := qab J1.o 2; have vC := qab J1.o 3) | ((with_reducible refine qbs (b := .append) (xs := #[.tmp 8, .tmp 10]) rfl ?_); at_builtin; refine Kd.qbJ Kd.string (w0 := w) w.heap.size rfl (.tmp 8) (.tmp 10) 73 9 (.string ⟨#[]⟩) 16 rfl Try.underlying73 info9 rfl zbT zbV v173 DB u0 _ _ _ (fun _ => True) (fun _ => False) rfl rfl ?aO ?aR (fun _ _ h => h) (fun _ h => h.elim) ?aF ?aB ?aS ?aL ?_; (case aR => exact zad (Kd.qaO d5.o HB.o)); (case aB => exact (zaf m9.o AA.o)); (case aF => exact (fun _ _ => trivial)); (case aO => exact (zae aJ.o)); (case aS => exact (qaC (zaf m9.o AA.o))); (case aL => have := De.o; omega); intro v176 nG ho hb hg hat; rw [← ea.o] at ho; have H0 := z_ (qbd (g := f4) (o := .cells #[.bool G1, .slice KC kA.length EC, .slice D1 u0.length W0, .slice X0 B0.length R0] 75 (0, 0)) (zac J1.o) hg (Kd.R_ne aJ.o J1.o zbT)); have I0 := z_ (qbd (g := U5) (o := .cells #[.bool false, .slice none 0 0, .slice none 0 0, .slice none 0 0] 75 (0, 0)) (zac X4.o) hg (Kd.R_ne aJ.o X4.o zbT)); have K0 := z_ (Kd.qdh (zae cA.o) (Kd.qcL (zae aJ.o)) zbT hg); have U0 := z_ (hb); have N5 := z_ (ho); clear J1 X4 cA HB aJ; have J1 := H0; have X4 := I0; have cA := K0; have HB := U0; have ZF := N5; clear H0 I0 K0 U0 N5 ho hb hg hat; obtain ⟨GF, hD, dI⟩ := Kd.qbi ZF.o; subst dI; have MM : nG.cell? ⟨f4, 0, none⟩ = some (.bool G1) := (qac J1.o 0).trans rfl; have jb : nG.cell? ⟨f4, 1, none⟩ = some (.slice KC kA.length EC) := (qac J1.o 1).trans rfl; have qb : nG.cell? ⟨f4, 2, none⟩ = some (.slice D1 u0.length W0) := (qac J1.o 2).trans rfl; have Yc : nG.cell? ⟨f4, 3, none⟩ = some (.slice X0 B0.length R0) := (qac J1.o 3).trans rfl; have WL := qab J1.o 0; have Md := qab J1.o 1; have Td := qab J1.o 2; have Gc := qab J1.o 3) | ((with_reducible refine qaG (N := 13) rfl ?_); refine Kd.qcD (Kd.int .i64) _ 3 zbX (N := 13) zbX (xs := ([] : List Int)) (inner := []) (ok := fun _ => True) (okp := fun _ => True) zbv ?hp (fun _ hk => hk) trivial (Below.refl _ _) (Nat.le_refl _) zbW ?_; (case hp => exact (Reps.none _ _)); intro Le uG sP hb F5 Z1; clear F5 Z1; (first | rw [← DS.o] at sP | (simp only [Int.reduceToNat] at sP; rw [← DS.o] at sP)); have H0 := z_ (Kd.qbO (by (with_reducible repeat (first | apply Kd.qaV | apply Kd.qa0 | apply Kd.qa6)); exact (Kd.qbb (Kd.qbQ (p := ⟨f4, 2, none⟩) (Kd.qbu cA.o J1.o zbT) (fun _ hk => hk.2) (.slice GF EF.length hD)) (fun _ h_ => h_.1))) hb); have I0 := z_ (Kd.qbO (by (with_reducible repeat (first | apply Kd.qaV | apply Kd.qa0 | apply Kd.qa6)); exact (Kd.qbb (Kd.qbQ (p := ⟨f4, 2, none⟩) (Kd.qbu ZF.o J1.o zbT) (fun _ hk => hk.2) (.slice GF EF.length hD)) (fun _ h_ => h_.1))) hb); have K0 := z_ (Kd.qa9 sP (qaC (zaf m9.o AA.o))); have U0 := z_ (qap (g := f4) (o := .cells #[.bool G1, .slice KC kA.length EC, .slice GF EF.length hD, .slice X0 B0.length R0] 75 (0, 0)) (by (with_reducible repeat (first | refine qaj ?_ _ | refine qai ?_ | refine qah ?_ _)); refine qbm (cs := #[.bool G1, .slice KC kA.length EC, .slice D1 u0.length W0, .slice X0 B0.length R0]) ?_ 2 _ rfl; (with_reducible repeat (first | refine qaj ?_ _ | refine qai ?_ | refine qah ?_ _)); exact J1.o) hb); have N5 := z_ (qap (g := U5) (o := .cells #[.bool false, .slice none 0 0, .slice none 0 0, .slice none 0 0] 75 (0, 0)) (by (with_reducible repeat (first | refine qaj ?_ _ | refine qai ?_ | refine qah ?_ _)); refine qbF ?_ VB.o _; (with_reducible repeat (first | refine qaj ?_ _ | refine qai ?_ | refine qah ?_ _)); exact X4.o) hb); have b9 := z_ (qad (zaf m9.o AA.o) hb); clear cA ZF J1 X4 HB; have cA := H0; have ZF := I0; have xH := K0; have J1 := U0; have X4 := N5; have HB := b9; clear H0 I0 K0 U0 N5 b9 hb sP; have a8 : uG.cell? ⟨f4, 0, none⟩ = some (.bool G1) := (qac J1.o 0).trans rfl; have i8 : uG.cell? ⟨f4, 1, none⟩ = some (.slice KC kA.length EC) := (qac J1.o 1).trans rfl; have X7 : uG.cell? ⟨f4, 2, none⟩ = some (.slice GF EF.length hD) := (qac J1.o 2).trans rfl; have TB : uG.cell? ⟨f4, 3, none⟩ = some (.slice X0 B0.length R0) := (qac J1.o 3).trans rfl; have Q7 := qab J1.o 0; have V7 := qab J1.o 1; have f8 := qab J1.o 2; have XB := qab J1.o 3) | ((with_reducible refine qbs (b := .append) (xs := #[.tmp 13, .tmp 15]) rfl ?_); at_builtin; refine Kd.qbJ (Kd.int .i64) (w0 := w) w.heap.size rfl (.tmp 13) (.tmp 15) 29 3 (.int .i64 0) 8 rfl Try.underlying29 info3 rfl zbT zbV Le L9 B0 _ _ _ (fun _ => True) (fun _ => False) rfl rfl ?aO ?aR (fun _ _ h => h) (fun _ h => h.elim) ?aF ?aB ?aS ?aL ?_; (case aR => exact zad (Kd.qaO g6.o HB.o)); (case aB => exact (zaf m9.o AA.o)); (case aF => exact (fun _ _ => trivial)); (case aO => exact (zae xH.o)); (case aS => exact (qaC (zaf m9.o AA.o))); (case aL => have := Pg.o; omega); intro v182 KF ho hb hg hat; rw [← EX.o] at ho; have H0 := z_ (qbd (g := f4) (o := .cells #[.bool G1, .slice KC kA.length EC, .slice GF EF.length hD, .slice X0 B0.length R0] 75 (0, 0)) (zac J1.o) hg (Kd.R_ne xH.o J1.o zbT)); have I0 := z_ (qbd (g := U5) (o := .cells #[.bool false, .slice none 0 0, .slice none 0 0, .slice none 0 0] 75 (0, 0)) (zac X4.o) hg (Kd.R_ne xH.o X4.o zbT)); have K0 := z_ (Kd.qdh (zae cA.o) (Kd.qcL (zae xH.o)) zbT hg); have U0 := z_ (Kd.qdh (zae ZF.o) (Kd.qcL (zae xH.o)) zbT hg); have N5 := z_ (hb); have b9 := z_ (ho); clear J1 X4 cA ZF HB xH; have J1 := H0; have X4 := I0; have cA := K0; have ZF := U0; have HB := N5; have xT := b9; clear H0 I0 K0 U0 N5 b9 ho hb hg hat; obtain ⟨SG, zE, bO⟩ := Kd.qbi xT.o; subst bO; have PQ : KF.cell? ⟨f4, 0, none⟩ = some (.bool G1) := (qac J1.o 0).trans rfl; have xc : KF.cell? ⟨f4, 1, none⟩ = some (.slice KC kA.length EC) := (qac J1.o 1).trans rfl; have qc : KF.cell? ⟨f4, 2, none⟩ = some (.slice GF EF.length hD) := (qac J1.o 2).trans rfl; have Uc : KF.cell? ⟨f4, 3, none⟩ = some (.slice X0 B0.length R0) := (qac J1.o 3).trans rfl; have wR := qab J1.o 0; have Cc := qab J1.o 1; have td := qab J1.o 2; have qd := qab J1.o 3; have bC : KF.cell? ⟨U5, 0, none⟩ = some (.bool false) := (qac X4.o 0).trans rfl; have QB : KF.cell? ⟨U5, 1, none⟩ = some (.slice none 0 0) := (qac X4.o 1).trans rfl; have sC : KF.cell? ⟨U5, 2, none⟩ = some (.slice none 0 0) := (qac X4.o 2).trans rfl; have mC : KF.cell? ⟨U5, 3, none⟩ = some (.slice none 0 0) := (qac X4.o 3).trans rfl; have lC := qab X4.o 0; have DC := qab X4.o 1; have ZB := qab X4.o 2; have oC := qab X4.o 3))
    refine bodyPost_ret (results_cell_row rfl _ _ U5 75 #[.bool G1, .slice KC kA.length EC, .slice GF EF.length hD, .slice SG iK.length zE] (0, 0) _ rfl (by (with_reducible repeat (first | refine qaj ?_ _ | refine qai ?_ | refine qah ?_ _)); refine qbm (cs := #[.bool G1, .slice KC kA.length EC, .slice GF EF.length hD, .slice none 0 0]) ?_ 3 _ rfl; (with_reducible repeat (first | refine qaj ?_ _ | refine qai ?_ | refine qah ?_ _)); refine qbm (cs := #[.bool G1, .slice KC kA.length EC, .slice none 0 0, .slice none 0 0]) ?_ 2 _ rfl; (with_reducible repeat (first | refine qaj ?_ _ | refine qai ?_ | refine qah ?_ _)); refine qbm (cs := #[.bool G1, .slice none 0 0, .slice none 0 0, .slice none 0 0]) ?_ 1 _ rfl; (with_reducible repeat (first | refine qaj ?_ _ | refine qai ?_ | refine qah ?_ _)); refine qbm (cs := #[.bool false, .slice none 0 0, .slice none 0 0, .slice none 0 0]) ?_ 0 _ rfl; (with_reducible repeat (first | refine qaj ?_ _ | refine qai ?_ | refine qah ?_ _)); refine qbF ?_ VB.o _; (with_reducible repeat (first | refine qaj ?_ _ | refine qai ?_ | refine qah ?_ _)); exact X4.o) Try.underlying75 rfl zbS) rfl ?_;exact ⟨_, _, _, zaF, by (with_reducible repeat (first | apply Kd.qaV | apply Kd.qa0 | apply Kd.qa6)); exact Kd.qbb (Kd.qbQ (p := ⟨U5, 3, none⟩) (Kd.qbQ (p := ⟨U5, 2, none⟩) (Kd.qbQ (p := ⟨U5, 1, none⟩) (Kd.qbQ (p := ⟨U5, 0, none⟩) (Kd.qbQ (p := ⟨f4, 3, none⟩) (Kd.qbu (Kd.qbu cA.o J1.o zbT) X4.o zbT) (fun _ hk => hk.1.2) (.slice SG iK.length zE)) (fun _ hk => hk.2) (.bool G1)) (fun _ hk => hk.2) (.slice KC kA.length EC)) (fun _ hk => hk.2) (.slice GF EF.length hD)) (fun _ hk => hk.2) (.slice SG iK.length zE)) (fun _ hk => trivial), by (with_reducible repeat (first | apply Kd.qaV | apply Kd.qa0 | apply Kd.qa6)); exact Kd.qbb (Kd.qbQ (p := ⟨U5, 3, none⟩) (Kd.qbQ (p := ⟨U5, 2, none⟩) (Kd.qbQ (p := ⟨U5, 1, none⟩) (Kd.qbQ (p := ⟨U5, 0, none⟩) (Kd.qbQ (p := ⟨f4, 3, none⟩) (Kd.qbu (Kd.qbu ZF.o J1.o zbT) X4.o zbT) (fun _ hk => hk.1.2) (.slice SG iK.length zE)) (fun _ hk => hk.2) (.bool G1)) (fun _ hk => hk.2) (.slice KC kA.length EC)) (fun _ hk => hk.2) (.slice GF EF.length hD)) (fun _ hk => hk.2) (.slice SG iK.length zE)) (fun _ hk => trivial), by (with_reducible repeat (first | apply Kd.qaV | apply Kd.qa0 | apply Kd.qa6)); exact Kd.qbb (Kd.qbQ (p := ⟨U5, 3, none⟩) (Kd.qbQ (p := ⟨U5, 2, none⟩) (Kd.qbQ (p := ⟨U5, 1, none⟩) (Kd.qbQ (p := ⟨U5, 0, none⟩) (Kd.qbQ (p := ⟨f4, 3, none⟩) (Kd.qbu (Kd.qbu xT.o J1.o zbT) X4.o zbT) (fun _ hk => hk.1.2) (.slice SG iK.length zE)) (fun _ hk => hk.2) (.bool G1)) (fun _ hk => hk.2) (.slice KC kA.length EC)) (fun _ hk => hk.2) (.slice GF EF.length hD)) (fun _ hk => hk.2) (.slice SG iK.length zE)) (fun _ hk => trivial), zaf m9.o AA.o⟩
   ·rw [if_neg c4] at H;exact absurd H zbW
  ·rw [if_neg c3] at H;exact absurd H zbW
 ·rw [if_neg c2] at H;exact absurd H zbW
def S3 (g gn gu : Nat) (k : Nat) : Prop := k = g ∨ k = gn ∨ k = gu
structure BsAt (w0 w : World) (g gn cn gu cu : Nat) (b : List S75 × List Bool × Bool) : Prop where
 ge : w0.heap.size ≤ g
 blk : w.heap[g]? = some (.cells #[.slice (some ⟨gn, 0, none⟩) b.1.length cn, .slice (some ⟨gu, 0, none⟩) b.2.1.length cu, .bool b.2.2] 111 (0, 0))
 nodes : Kd.S k75 75 w w0.heap.size (fun _ => True) (.slice (some ⟨gn, 0, none⟩) b.1.length cn) b.1
 used : Kd.R Kd.bool 4 w w0.heap.size (fun _ => True) (.slice (some ⟨gu, 0, none⟩) b.2.1.length cu) b.2.1
theorem BsAt.below {w0 w w1 : World} {g gn cn gu cu : Nat} {b : List S75 × List Bool × Bool} (h : BsAt w0 w g gn cn gu cu b) (hb : Below w.heap.size w w1) : BsAt w0 w1 g gn cn gu cu b := ⟨h.ge, qap h.blk hb, Kd.qck h.nodes hb, Kd.qbO h.used hb⟩
theorem qcS (g n c : Nat) : (Value.slice (some ⟨g, 0, none⟩) n c).ownBlock = some g := rfl
theorem BsAt.tn {w0 w : World} {g gn cn gu cu : Nat} {b : List S75 × List Bool × Bool} (h : BsAt w0 w g gn cn gu cu b) : ∃ cells, w.heap[gn]? = some (.cells cells 75 (0, 0)) := Kd.qdN h.nodes gn (qcS _ _ _)
theorem BsAt.tu {w0 w : World} {g gn cn gu cu : Nat} {b : List S75 × List Bool × Bool} (h : BsAt w0 w g gn cn gu cu b) : ∃ cells, w.heap[gu]? = some (.cells cells 4 (0, 0)) := Kd.qcL h.used gu (qcS _ _ _)
theorem qc7 {w : World} {a b t u : Nat} {x y : Array Value} (h : w.heap[a]? = some (.cells x t (0, 0))) (k : w.heap[b]? = some (.cells y u (0, 0))) (hne : t ≠ u) : a ≠ b := fun e => by
 subst e;rw [h] at k;injection k with k
 injection k with _ e _
 exact hne e
theorem BsAt.apart {w0 w : World} {g gn cn gu cu : Nat} {b : List S75 × List Bool × Bool} (h : BsAt w0 w g gn cn gu cu b) : g ≠ gn ∧ g ≠ gu ∧ gn ≠ gu := by
 obtain ⟨x, hx⟩ := h.tn;obtain ⟨y, hy⟩ := h.tu;exact ⟨qc7 h.blk hx zbT, qc7 h.blk hy zbT, qc7 hx hy zbT⟩
theorem BsAt.other {w0 w : World} {g gn cn gu cu : Nat} {b : List S75 × List Bool × Bool} (h : BsAt w0 w g gn cn gu cu b) {k t : Nat} {x : Array Value} (hk : w.heap[k]? = some (.cells x t (0, 0))) (h1 : t ≠ 111) (h2 : t ≠ 75) (h3 : t ≠ 4) : ¬ S3 g gn gu k := by
 obtain ⟨y, hy⟩ := h.tn;obtain ⟨z, hz⟩ := h.tu;rintro (e | e | e)
 ·exact qc7 hk h.blk h1 e
 ·exact qc7 hk hy h2 e
 ·exact qc7 hk hz h3 e
theorem BsAt.lts {w0 w : World} {g gn cn gu cu : Nat} {b : List S75 × List Bool × Bool} (h : BsAt w0 w g gn cn gu cu b) : g < w.heap.size ∧ gn < w.heap.size ∧ gu < w.heap.size := by
 obtain ⟨y, hy⟩ := h.tn;obtain ⟨z, hz⟩ := h.tu;exact ⟨qbH h.blk, qbH hy, qbH hz⟩
theorem qdC {w w1 : World} {g gn gu : Nat} (h : Kept w w1 (S3 g gn gu)) {p : Addr} (hp : S3 g gn gu p.block) (u : Value) : Kept w (w1.setCell p u) (S3 g gn gu) := h.setCell (.inl hp) u
def set4 (w : World) (g o : Nat) (v0 v1 v2 v3 : Value) : World := (((w.setCell ⟨g, o, none⟩ v0).setCell ⟨g, o + 1, none⟩ v1).setCell ⟨g, o + 2, none⟩ v2).setCell ⟨g, o + 3, none⟩ v3
theorem qhm {α : Type} {d : Kd α} {e : Nat} {w : World} {base : Nat} {ok : Nat → Prop} {v : Value} {xs : List α} {g o : Nat} (h : d.R e w base ok v xs) (hg : ∀ k, ok k → k ≠ g) (v0 v1 v2 v3 : Value) : d.R e (set4 w g o v0 v1 v2 v3) base ok v xs :=
 Kd.qbQ (p := ⟨g, o + 3, none⟩) (Kd.qbQ (p := ⟨g, o + 2, none⟩) (Kd.qbQ (p := ⟨g, o + 1, none⟩) (Kd.qbQ (p := ⟨g, o, none⟩) h hg v0) hg v1) hg v2) hg v3
theorem qfk {w : World} {g o k : Nat} {x : Array Value} {t : TypeId} (h : w.heap[k]? = some (.cells x t (0, 0))) (hne : k ≠ g) (v0 v1 v2 v3 : Value) : (set4 w g o v0 v1 v2 v3).heap[k]? = some (.cells x t (0, 0)) := qbF (qbF (qbF (qbF h hne v0) hne v1) hne v2) hne v3
theorem qiq {w0 w : World} {B g o : Nat} (h : Below B w0 w) (hg : B ≤ g) (v0 v1 v2 v3 : Value) : Below B w0 (set4 w g o v0 v1 v2 v3) := (((h.setCell (p := ⟨g, o, none⟩) hg v0).setCell (p := ⟨g, o + 1, none⟩) hg v1).setCell (p := ⟨g, o + 2, none⟩) hg v2).setCell (p := ⟨g, o + 3, none⟩) hg v3
theorem kept4 {w w1 : World} {g gn gu o : Nat} (h : Kept w w1 (S3 g gn gu)) (v0 v1 v2 v3 : Value) : Kept w (set4 w1 gn o v0 v1 v2 v3) (S3 g gn gu) := qdC (qdC (qdC (qdC h (p := ⟨gn, o, none⟩) (.inr (.inl rfl)) v0) (p := ⟨gn, o + 1, none⟩) (.inr (.inl rfl)) v1) (p := ⟨gn, o + 2, none⟩) (.inr (.inl rfl)) v2) (p := ⟨gn, o + 3, none⟩) (.inr (.inl rfl)) v3
theorem S_put {w : World} {base N gn n cap i : Nat} {ns : List S75} (hS : Kd.S k75 75 w base (fun k => k < N) (.slice (some ⟨gn, 0, none⟩) n cap) ns) (hi : i < n) (x : S75) {v1 v2 v3 : Value} {o1 o2 o3 : Nat → Prop} (h1 : Kd.R k77 77 w N o1 v1 x.f1) (h2 : Kd.R Kd.string 9 w N o2 v2 x.f2) (h3 : Kd.R (Kd.int .i64) 3 w N o3 v3 x.f3) (hb : base ≤ N) (hc : v1.oneCell' = true ∧ v2.oneCell' = true ∧ v3.oneCell' = true) :
  Kd.S k75 75 (set4 w gn (i * 4) (.bool x.f0) v1 v2 v3) base (fun _ => True) (.slice (some ⟨gn, 0, none⟩) n cap) (ns.set i x) := by
 have hg : gn < N := (Kd.S_R hS).1 gn (qcS _ _ _);obtain ⟨oki, c, hcl, _, _, _, hH⟩ := Kd.S_lend hS z75 (i : Int) zbV zbV;have hH2 := Kd.H_more (okg := fun k => N ≤ k) (ok := fun _ => True) (Kd.H_mono hH (fun k hk => ⟨trivial, zbV⟩)) (fun _ _ => trivial);have hs := (Kd.H_seg hH2 zbV zbV (seg := [.bool x.f0, v1, v2, v3]) (j := 0) (by show 0 + 4 ≤ 4; omega) (fun q hq => by
  simp only [List.mem_cons, List.not_mem_nil, or_false] at hq
  rcases hq with rfl | rfl | rfl | rfl
  ·rfl
  ·exact hc.1
  ·exact hc.2.1
  ·exact hc.2.2)).1
 have hcs : (c.take 0 ++ [.bool x.f0, v1, v2, v3] ++ c.drop (0 + [Value.bool x.f0, v1, v2, v3].length)) = [.bool x.f0, v1, v2, v3] := by
  have : c.drop 4 = [] := List.drop_eq_nil_of_le (by rw [hcl]; exact Nat.le_refl 4)
  show [] ++ [.bool x.f0, v1, v2, v3] ++ c.drop 4 = _
  rw [this];rfl
 rw [hcs] at hs;have hW : w.setCells gn ((i : Int).toNat * k75.sz + 0) [.bool x.f0, v1, v2, v3] = set4 w gn (i * 4) (.bool x.f0) v1 v2 v3 := by
  rw [Int.toNat_natCast];rfl
 rw [hW] at hs;have hr : ∀ {α : Type} {d : Kd α} {e : Nat} {o : Nat → Prop} {v : Value} {xs : List α}, d.R e w N o v xs → d.E = [] → d.R e (set4 w gn (i * 4) (.bool x.f0) v1 v2 v3) base (fun k => N ≤ k) v xs := fun h hE => by
  have h0 := Kd.R_reok hE (ok := fun k => N ≤ k) h (fun k hk => Kd.qb0 h k hk);exact Kd.qa9 (qhm h0 (fun k hk => zbV) _ _ _ _) hb
 have := Kd.H_back hs (qhQ _ base (fun k => N ≤ k) x (hr h1 rfl) (hr h2 rfl) (hr h3 rfl)) (fun k hk => .inr hk)
 rwa [Int.toNat_natCast] at this
theorem qeh (x : S75) (h : x.f1.length ≤ 1000000 ∧ x.f2.length ≤ 1000000 ∧ x.f3.length ≤ 1000000) : qbK.f x.f0 x.f1 x.f2 x.f3 = some (x.f0, x.f1, x.f2, x.f3) := by
 unfold qbK.f;rw [Option.bind_some, if_pos zbR, Option.bind_some, if_pos zbR, Option.bind_some, if_pos zbR];rfl
def qbc.l0 : Nat → List (S77) → ByteArray → Int → Option (Int)
 | 0, _, _, _ => none
 | k + 1, x0, x1, x5 => if x5 < (x0.length : Int) then (if 0 ≤ x5 then (if (Op.bytesLess (((qaq x0 x5).f0).toList) x1.toList) = true then (qbc.l0 k x0 x1 (wrap64 (x5 + 1))) else (some x5)) else (none)) else (some x5)
def qbc.f (k : Nat) (l0 : List (S77)) (a1 : ByteArray) : Option (Int) := qbc.l0 k l0 a1 0
theorem qbc.qbW : ∀ k, (∀ y0 y1 y2, LeO (qbc.l0 k y0 y1 y2) (qbc.l0 (k + 1) y0 y1 y2))
 | 0 => fun _ _ _ r h => by simp [qbc.l0] at h
 | k + 1 => by
  have d6 := qbc.qbW k
  ·intro y0 y1 y2;unfold qbc.l0
   repeat' first
   | (with_reducible exact d6 _ _ _)
   | (with_reducible exact LeO.refl _)
   | (with_reducible exact LeO.none _)
   | (with_reducible refine LeO.ite ?_ ?_)
   | (with_reducible refine LeO.bind ?_ (fun _ => ?_))
   | exact d6 _ _ _
   | exact LeO.none _
   | refine LeO.ite ?_ ?_
   | refine LeO.bind ?_ (fun _ => ?_)
set_option maxHeartbeats 8000000 in
set_option maxRecDepth 100000 in
theorem qbc.calls (k : Nat) (A0 : Option Addr) (c0 : Nat) (l0 : List (S77)) (a1 : ByteArray) (r : Int) (w : World) (hr0 : Kd.C k77 w A0 l0.length l0) (hc0 : l0.length ≤ c0) (h : qbc.f k l0 a1 = some r) :
  Calls Try.prog 65 #[.slice A0 l0.length c0, .string a1] w fun e w' => e = .returned (.int .i64 r) ∧ qcI w w' := by
 have I7 := z_ hr0;have OF := z_ hc0;clear hr0 hc0;have H : (qbc.l0 k l0 a1 0) = some r := h;clear h;have H' := z_ H;clear H
 go_enter Try.func65, Try.ntmps65
 go_wp2
 go_loopg [5] k (fun kq v5 w' => ∃ (G3 : Int), v5 = .int .i64 G3 ∧ Aside0 (qbc.l0 kq l0 a1 G3 = some r) ∧ Aside0 (kq ≤ k) ∧ qcI w w')
 case atStart => exact ⟨(0), zbs, H', ⟨Nat.le_refl _⟩, zaL⟩
 case round =>
  clear H';try clear p2
  obtain ⟨G3, rfl, HA, q7, ⟨m1, rfl⟩⟩ := hrel
  cases gk with
  | zero => exact absurd HA.o (by simp [qbc.l0])
  | succ k1 =>
   have H := HA.o;clear HA;simp only [qbc.l0] at H
   by_cases c3 : G3 < (l0.length : Int)
   ·rw [if_pos c3] at H;have M9 : decide (G3 < (l0.length : Int)) = true := decide_eq_true c3;clear c3
    by_cases c4 : 0 ≤ G3
    ·rw [if_pos c4] at H;have GB : decide (0 ≤ G3) = true := decide_eq_true c4;clear c4
     by_cases c5 : (Op.bytesLess (((qaq l0 G3).f0).toList) a1.toList) = true
     ·rw [if_pos c5] at H;have fE : (Op.bytesLess (((qaq l0 G3).f0).toList) a1.toList) = true := c5;clear c5;have H' := z_ H;clear H;have UK : 0 ≤ (G3 : Int) := of_decide_eq_true zaN;have oL : G3 < (l0.length : Int) := of_decide_eq_true zaN;obtain ⟨ga, e221, GQ, rS⟩ := qce I7.o G3 UK oL
      cases e221
      replace UK := eq_true UK;replace oL := eq_true oL
      go_wp2
      go_roundg k1
      case measure => have := q7.o; omega
      case rel => exact ⟨(wrap64 (G3 + 1)), zbs, H', ⟨zbK⟩, zaL⟩
     ·rw [if_neg c5] at H;have fE : (Op.bytesLess (((qaq l0 G3).f0).toList) a1.toList) = false := by simpa using c5
      clear c5;obtain rfl := Option.some.inj H;have UK : 0 ≤ (G3 : Int) := of_decide_eq_true zaN;have oL : G3 < (l0.length : Int) := of_decide_eq_true zaN;obtain ⟨ga, e221, GQ, rS⟩ := qce I7.o G3 UK oL
      cases e221
      replace UK := eq_true UK;replace oL := eq_true oL
      go_wp2
      go_ret
      exact ⟨zbs, zaL⟩
    ·rw [if_neg c4] at H;exact absurd H zbW
   ·rw [if_neg c3] at H;have M9 : decide (G3 < (l0.length : Int)) = false := decide_eq_false c3;clear c3;obtain rfl := Option.some.inj H
    go_wp2
    go_ret
    exact ⟨zbs, zaL⟩
def qdm.f (k : Nat) (l0 : List (S77)) (a1 : ByteArray) : Option (ByteArray × Bool) := (qbc.f k l0 a1).bind fun m7 => (if m7 < (l0.length : Int) then (if 0 ≤ m7 then (if ((qaq l0 m7).f0).toList = a1.toList then (some ((qaq l0 m7).f1, true)) else (some ((⟨#[]⟩ : ByteArray), false))) else (none)) else (some ((⟨#[]⟩ : ByteArray), false)))
set_option maxHeartbeats 8000000 in
set_option maxRecDepth 100000 in
theorem qdm.calls (k : Nat) (A0 : Option Addr) (c0 : Nat) (l0 : List (S77)) (a1 : ByteArray) (r1 : ByteArray) (r2 : Bool) (w : World) (hr0 : Kd.C k77 w A0 l0.length l0) (hc0 : l0.length ≤ c0) (h : qdm.f k l0 a1 = some (r1, r2)) :
  Calls Try.prog 52 #[.slice A0 l0.length c0, .string a1] w fun e w' => e = .returned (.tuple #[.string r1, .bool r2]) ∧ qcI w w' := by
 have I7 := z_ hr0;have OF := z_ hc0;clear hr0 hc0;have H : ((qbc.f k l0 a1).bind fun m7 => (if m7 < (l0.length : Int) then (if 0 ≤ m7 then (if ((qaq l0 m7).f0).toList = a1.toList then (some ((qaq l0 m7).f1, true)) else (some ((⟨#[]⟩ : ByteArray), false))) else (none)) else (some ((⟨#[]⟩ : ByteArray), false)))) = some (r1, r2) := h;clear h;replace H := Option.bind_eq_some_iff.mp H;obtain ⟨m7, jI, H⟩ := H;try dsimp only at H
 have A3 := z_ jI;clear jI
 by_cases c4 : m7 < (l0.length : Int)
 ·rw [if_pos c4] at H;have GB : decide (m7 < (l0.length : Int)) = true := decide_eq_true c4;clear c4
  by_cases c5 : 0 ≤ m7
  ·rw [if_pos c5] at H;have fE : decide (0 ≤ m7) = true := decide_eq_true c5;clear c5
   by_cases c6 : ((qaq l0 m7).f0).toList = a1.toList
   ·rw [if_pos c6] at H;have mH : (((qaq l0 m7).f0).toList == a1.toList) = true := beq_iff_eq.mpr c6;have uL : (((qaq l0 m7).f0).toList != a1.toList) = false := bne_eq_false_iff_eq.mpr c6;clear c6;simp only [Option.some.injEq, Prod.mk.injEq] at H;obtain ⟨rfl, rfl⟩ := H
    go_enter Try.func52, Try.ntmps52
    go_wp2_with (first | ((with_reducible refine qaD (f := 65) rfl ?_); refine qbk (some 9) rfl rfl Try.func65 zbS rfl #[.slice A0 l0.length c0, .string a1] rfl zao ?_; (with_reducible refine (qbc.calls k _ _ l0 a1 m7 _ ?side1 ?side2 A3.o).mono ?_); (case side1 => exact zad I7.o); (case side2 => exact OF.o); rintro e w' ⟨rfl, ⟨nd, rfl⟩⟩; refine ⟨_, rfl, ?_⟩; have KL : 0 ≤ (m7 : Int) := of_decide_eq_true zaN; have JL : m7 < (l0.length : Int) := of_decide_eq_true zaN; obtain ⟨tU, EV, iR, lR⟩ := qce I7.o m7 KL JL; cases EV; replace KL := eq_true KL; replace JL := eq_true JL; have RV : 0 ≤ (m7 : Int) := of_decide_eq_true zaN; have pV : m7 < (l0.length : Int) := of_decide_eq_true zaN; obtain ⟨rZ, ue, Rb, Vb⟩ := qce I7.o m7 RV pV; obtain rfl : tU = rZ := (by injection ue); replace RV := eq_true RV; replace pV := eq_true pV))
    go_ret2
    exact ⟨zbs, zaL⟩
   ·rw [if_neg c6] at H;have mH : (((qaq l0 m7).f0).toList == a1.toList) = false := beq_eq_false_iff_ne.mpr c6;have uL : (((qaq l0 m7).f0).toList != a1.toList) = true := bne_iff_ne.mpr c6;simp only [Option.some.injEq, Prod.mk.injEq] at H;obtain ⟨rfl, rfl⟩ := H
    go_enter Try.func52, Try.ntmps52
    go_wp2_with (first | ((with_reducible refine qaD (f := 65) rfl ?_); refine qbk (some 9) rfl rfl Try.func65 zbS rfl #[.slice A0 l0.length c0, .string a1] rfl zao ?_; (with_reducible refine (qbc.calls k _ _ l0 a1 m7 _ ?side1 ?side2 A3.o).mono ?_); (case side1 => exact zad I7.o); (case side2 => exact OF.o); rintro e w' ⟨rfl, ⟨nd, rfl⟩⟩; refine ⟨_, rfl, ?_⟩; have KL : 0 ≤ (m7 : Int) := of_decide_eq_true zaN; have JL : m7 < (l0.length : Int) := of_decide_eq_true zaN; obtain ⟨tU, EV, iR, lR⟩ := qce I7.o m7 KL JL; cases EV; replace KL := eq_true KL; replace JL := eq_true JL))
    go_ret2
    exact ⟨zbs, zaL⟩
  ·rw [if_neg c5] at H;exact absurd H zbW
 ·rw [if_neg c4] at H;have GB : decide (m7 < (l0.length : Int)) = false := decide_eq_false c4;clear c4;simp only [Option.some.injEq, Prod.mk.injEq] at H;obtain ⟨rfl, rfl⟩ := H
  go_enter Try.func52, Try.ntmps52
  go_wp2_with (first | ((with_reducible refine qaD (f := 65) rfl ?_); refine qbk (some 9) rfl rfl Try.func65 zbS rfl #[.slice A0 l0.length c0, .string a1] rfl zao ?_; (with_reducible refine (qbc.calls k _ _ l0 a1 m7 _ ?side1 ?side2 A3.o).mono ?_); (case side1 => exact zad I7.o); (case side2 => exact OF.o); rintro e w' ⟨rfl, ⟨nd, rfl⟩⟩; refine ⟨_, rfl, ?_⟩))
  go_ret2
  exact ⟨zbs, zaL⟩
theorem qhn (l : List S77) (key : ByteArray) (hl : l.length < 9223372036854775807) (rest : List S77) : ∀ pre : List S77, l = pre ++ rest →
  Ev (fun k => qbc.l0 k l key ((pre.length : Nat) : Int)) ((pre.length : Int) + (rest.findIdx fun p => !Op.bytesLess p.f0.toList key.toList : Nat)) := by
 induction rest with
 | nil =>
  intro pre h;refine Ev.succ ?_;simp only [qbc.l0];exact Ev.neg zbQ (Ev.is zbW)
 | cons x r ih =>
  intro pre h;have hx := qhb l pre r x h;have hlen : pre.length < l.length := zbQ;have hi := ih (pre ++ [x]) zbQ;rw [← qef] at hi;refine Ev.succ ?_;simp only [qbc.l0, hx, qev (n := pre.length) zbV];refine Ev.pos zbV (Ev.pos zbV ?_)
  cases hb : Op.bytesLess x.f0.toList key.toList with
  | true =>
   refine Ev.pos rfl (Ev.same hi ?_);rw [List.findIdx_cons, hb];simp;omega
  | false =>
   refine Ev.neg zbW (Ev.is ?_);rw [List.findIdx_cons, hb];simp
theorem qjA (l : List S77) (key : ByteArray) (hl : l.length < 9223372036854775807) : Ev (fun k => qbc.f k l key) (lowAt l key : Int) := by
 unfold qbc.f;have h := qhn l key hl l [] rfl
 simpa [lowAt] using h
def getV (l : List S77) (key : ByteArray) : ByteArray := if hasAt l key = true then (qaq l (lowAt l key)).f1 else ⟨#[]⟩
theorem spec_get (l : List S77) (key : ByteArray) (hl : l.length < 9223372036854775807) : Ev (fun k => qdm.f k l key) (getV l key, hasAt l key) := by
 unfold qdm.f;refine Ev.bind (qjA l key hl) ?_;unfold getV hasAt
 by_cases h : lowAt l key < l.length
 ·refine Ev.pos zbV (Ev.pos zbV ?_)
  by_cases h2 : (qaq l (lowAt l key)).f0.toList = key.toList
  ·exact Ev.pos h2 (Ev.is (by simp [h, h2]))
  ·exact Ev.neg h2 (Ev.is (by simp [h, h2]))
 ·exact Ev.neg zbV (Ev.is (by simp [h]))
theorem qfl {l : List S77} {key : ByteArray} (h : hasAt l key = true) : lowAt l key < l.length := by
 unfold hasAt at h;simp only [Bool.and_eq_true, decide_eq_true_eq] at h;exact h.1
end Go.Proofs.Ytcdokcpiahbejaa.X
namespace Go.Proofs.Ytcdokcpiahbejaa.X
open Go.RowKit Go.Proofs.YtcdokcpiahbejaaW.PrintWords Go.Proofs.YtcdokcpiahbejaaW.PrintLast Go.Proofs.YtcdokcpiahbejaaW.PrintMore
attribute [local go_sem] qax qay qaz qat qau qaJ qaK qam qan qav qaw
set_option linter.unusedVariables false
set_option linter.unusedSimpArgs false
open Go.Lib in
theorem run_clear_cells {P : Program} (w : World) (t e ty : TypeId) (z : Value) (ht : P.underlying t = some (.slice e)) (hv : ∀ w, (zeroValue e).run P w = .ok z w) (b o n c : Nat) (zs : List Value) (hzs : (Builtin.zeroCells z.cells n).toList = zs) (h1 : ∀ v ∈ zs, v.oneCell' = true) (hn : 0 < n)
  (hc : ∀ j, j < zs.length → (w.cell? ⟨b, o + j, none⟩).isSome = true) (hf : ∀ j, j < zs.length → w.frozen? ⟨b, o + j, none⟩ = false) :
  (Builtin.clear_ #[t] ty #[.slice (some ⟨b, o, none⟩) n c]).run P w = .ok (.tuple #[]) (w.setCells b o zs) := by
 have hst := run_storeCells_cells (P := P) b o zs 0 w (by simpa using hc) (by simpa using hf) h1;simp only [Nat.add_zero] at hst;obtain ⟨m, rfl⟩ : ∃ m, n = m + 1 := ⟨n - 1, zbV⟩
 simp [Builtin.clear_, run_underlying ht, hv, hzs, hst]
end Go.Proofs.Ytcdokcpiahbejaa.X
namespace Go.Proofs.Ytcdokcpiahbejaa.X
open Go.RowKit Go.Proofs.YtcdokcpiahbejaaW.PrintWords Go.Proofs.YtcdokcpiahbejaaW.PrintLast Go.Proofs.YtcdokcpiahbejaaW.PrintMore
attribute [local go_sem] qax qay qaz qat qau qaJ qaK qam qan qav qaw
set_option linter.unusedVariables false
set_option linter.unusedSimpArgs false
def qba.l0 : Nat → List (S77) → ByteArray → List (S77) → Int → Option ((List (S77)))
 | 0, _, _, _, _ => none
 | k + 1, x0, x1, x5, x6 => if x6 < (x0.length : Int) then (if 0 ≤ x6 then (if ((qaq x0 x6).f0).toList = x1.toList then (qba.l0 k x0 x1 x5 (wrap64 (x6 + 1))) else (if x5.length < 4398046511104 then (qba.l0 k x0 x1 (x5 ++ [(⟨(qaq x0 x6).f0, (qaq x0 x6).f1⟩ : S77)]) (wrap64 (x6 + 1))) else (none))) else (none)) else (some x5)
def qba.f (k : Nat) (l0 : List (S77)) (a1 : ByteArray) : Option ((List (S77))) := qba.l0 k l0 a1 (([] : List (S77))) 0
theorem qba.qbW : ∀ k, (∀ y0 y1 y2 y3, LeO (qba.l0 k y0 y1 y2 y3) (qba.l0 (k + 1) y0 y1 y2 y3))
 | 0 => fun _ _ _ _ r h => by simp [qba.l0] at h
 | k + 1 => by
  have d6 := qba.qbW k
  ·intro y0 y1 y2 y3;unfold qba.l0
   repeat' first
   | (with_reducible exact d6 _ _ _ _)
   | (with_reducible exact LeO.refl _)
   | (with_reducible exact LeO.none _)
   | (with_reducible refine LeO.ite ?_ ?_)
   | (with_reducible refine LeO.bind ?_ (fun _ => ?_))
   | exact d6 _ _ _ _
   | exact LeO.none _
   | refine LeO.ite ?_ ?_
   | refine LeO.bind ?_ (fun _ => ?_)
set_option maxHeartbeats 8000000 in
set_option maxRecDepth 100000 in
theorem qba.calls (k : Nat) (A0 : Option Addr) (c0 : Nat) (l0 : List (S77)) (a1 : ByteArray) (r : List (S77)) (w : World) (hr0 : Kd.C k77 w A0 l0.length l0) (hc0 : l0.length ≤ c0) (h : qba.f k l0 a1 = some r) :
  Calls Try.prog 94 #[.slice A0 l0.length c0, .string a1] w fun e w' => ∃ mA : Value, e = .returned (mA) ∧ Kd.R k77 77 w' w.heap.size (fun _ => True) mA r ∧ Below w.heap.size w w' := by
 have YO := Try.underlying77;have I7 := z_ hr0;have OF := z_ hc0;clear hr0 hc0;have HB := z_ (Below.refl w.heap.size w);have H : (qba.l0 k l0 a1 (([] : List (S77))) 0) = some r := h;clear h;obtain ⟨ra, oK⟩ : ∃ y_ : List (S77), y_ = (([] : List (S77))) := ⟨_, rfl⟩
 replace H : (qba.l0 k l0 a1 ra 0) = some r := by first | (rw [oK]; with_reducible exact H) | (have Y1 := (Option.bind_some _ _).symm.trans H; rw [oK]; with_reducible exact Y1) | (have Y1 := (Option.bind_some _ _).symm.trans H; with_reducible exact Y1) | with_reducible exact H | (rw [oK]; exact H) | exact H
 have GS := z_ oK;clear oK;have H' := z_ H;clear H
 go_enter Try.func94, Try.ntmps94
 go_wp2_with (first | ((with_reducible refine qaG (N := 7) rfl ?_); refine Kd.qcD k77 _ 77 zbX (N := 7) zbX (xs := ([] : List (S77))) (inner := []) (ok := fun _ => True) (okp := fun _ => True) zbv ?hp (fun _ hk => hk) trivial (Below.refl _ _) (Nat.le_refl _) zbW ?_; (case hp => exact (Reps.none _ _)); intro v318 w3 FF hb F5 Z1; clear F5 Z1; (first | rw [← GS.o] at FF | (simp only [Int.reduceToNat] at FF; rw [← GS.o] at FF)); have H0 := z_ (Kd.qa9 FF (qaC zaq)); have I0 := z_ (qad zaq hb); clear HB; have ZY := H0; have HB := I0; clear H0 I0; clear hb FF))
 go_loopg [5, 6] k (fun kq v5 v6 w' => ∃ (G3 : List (S77)) (F4 : Int), v6 = .int .i64 F4 ∧ Aside0 (qba.l0 kq l0 a1 G3 F4 = some r) ∧ Aside0 (kq ≤ k) ∧ Aside0 (Kd.R k77 77 w' w.heap.size (fun _ => True) v5 G3) ∧ Aside0 (Below w.heap.size w w'))
 case atStart => exact ⟨(ra), (0), zbs, H', ⟨Nat.le_refl _⟩, ⟨by (with_reducible repeat (first | apply Kd.qaV | apply Kd.qa0 | apply Kd.qa6)); exact ZY.o⟩, ⟨zaq⟩⟩
 case round =>
  clear H';try clear p2
  obtain ⟨G3, F4, rfl, HA, q7, Y8, HB⟩ := hrel
  cases gk with
  | zero => exact absurd HA.o (by simp [qba.l0])
  | succ k1 =>
   have H := HA.o;clear HA;simp only [qba.l0] at H
   by_cases c5 : F4 < (l0.length : Int)
   ·rw [if_pos c5] at H;have fE : decide (F4 < (l0.length : Int)) = true := decide_eq_true c5;clear c5
    by_cases c6 : 0 ≤ F4
    ·rw [if_pos c6] at H;have mH : decide (0 ≤ F4) = true := decide_eq_true c6;clear c6
     by_cases c7 : ((qaq l0 F4).f0).toList = a1.toList
     ·rw [if_pos c7] at H;have GC : (((qaq l0 F4).f0).toList == a1.toList) = true := beq_iff_eq.mpr c7;have AO : (((qaq l0 F4).f0).toList != a1.toList) = false := bne_eq_false_iff_eq.mpr c7;clear c7;have H' := z_ H;clear H;have JK : 0 ≤ (F4 : Int) := of_decide_eq_true zaN;have QK : F4 < (l0.length : Int) := of_decide_eq_true zaN;obtain ⟨pT, RW, GA, cB⟩ := qce I7.o F4 JK QK
      cases RW
      replace GA := (HB.o.cell (World.block_lt_of_cell? w _ GA)).trans GA;replace cB := (HB.o.cell (World.block_lt_of_cell? w _ cB)).trans cB;replace JK := eq_true JK;replace QK := eq_true QK
      go_wp2
      go_roundg k1
      case measure => have := q7.o; omega
      case rel => exact ⟨(G3), (wrap64 (F4 + 1)), zbs, H', ⟨zbK⟩, ⟨zaA⟩, ⟨zaq⟩⟩
     ·rw [if_neg c7] at H;have GC : (((qaq l0 F4).f0).toList == a1.toList) = false := beq_eq_false_iff_ne.mpr c7;have AO : (((qaq l0 F4).f0).toList != a1.toList) = true := bne_iff_ne.mpr c7
      by_cases c8 : G3.length < 4398046511104
      ·rw [if_pos c8] at H;have lf := z_ c8;clear c8;obtain ⟨Da, YJ⟩ : ∃ y_ : List (S77), y_ = (G3 ++ [(⟨(qaq l0 F4).f0, (qaq l0 F4).f1⟩ : S77)]) := ⟨_, rfl⟩
       replace H : (qba.l0 k1 l0 a1 Da (wrap64 (F4 + 1))) = some r := by first | (rw [YJ]; with_reducible exact H) | (have Y1 := (Option.bind_some _ _).symm.trans H; rw [YJ]; with_reducible exact Y1) | (have Y1 := (Option.bind_some _ _).symm.trans H; with_reducible exact Y1) | with_reducible exact H | (rw [YJ]; exact H) | exact H
       have YX := z_ YJ;clear YJ;have H' := z_ H;clear H;have JK : 0 ≤ (F4 : Int) := of_decide_eq_true zaN;have QK : F4 < (l0.length : Int) := of_decide_eq_true zaN;obtain ⟨pT, RW, GA, cB⟩ := qce I7.o F4 JK QK
       cases RW
       replace GA := (HB.o.cell (World.block_lt_of_cell? w _ GA)).trans GA;replace cB := (HB.o.cell (World.block_lt_of_cell? w _ cB)).trans cB;replace JK := eq_true JK;replace QK := eq_true QK;have YV : 0 ≤ (F4 : Int) := of_decide_eq_true zaN;have xV : F4 < (l0.length : Int) := of_decide_eq_true zaN;obtain ⟨mY, e321, UH, kI⟩ := qce I7.o F4 YV xV;obtain rfl : pT = mY := (by injection e321);replace UH := (HB.o.cell (World.block_lt_of_cell? w _ UH)).trans UH;replace kI := (HB.o.cell (World.block_lt_of_cell? w _ kI)).trans kI;replace YV := eq_true YV;replace xV := eq_true xV
       go_wp2_with (first | ((with_reducible refine qbs (b := .append) (xs := #[.tmp 21, .tmp 26]) rfl ?_); at_builtin; refine Kd.qeA k77 (w0 := w) w.heap.size rfl (.tmp 21) (.tmp 26) 36 77 (.agg #[(.string ⟨#[]⟩), (.string ⟨#[]⟩)]) 32 rfl Try.underlying36 qcK rfl zbT zbV u5 G3 (⟨(qaq l0 F4).f0, (qaq l0 F4).f1⟩ : S77) [.string ((qaq l0 F4).f0), .string ((qaq l0 F4).f1)] (fun _ => True) (fun _ => False) rfl rfl ?aP (fun _ hk => hk.elim) ?aF ?aO ?aB ?aS ?aL ?_; (case aP => exact qfy _ _ _ (⟨(qaq l0 F4).f0, (qaq l0 F4).f1⟩ : S77)); (case aB => exact zaq); (case aF => exact (fun _ _ => trivial)); (case aO => exact (zae Y8.o)); (case aS => exact (qaC zaq)); (case aL => have := lf.o; omega); intro v323 w9 ho hb hg hat; rw [← YX.o] at ho; have H0 := z_ (hb); have I0 := z_ (ho); clear HB Y8; have HB := H0; have WY := I0; clear H0 I0; clear ho hb hg hat))
       go_roundg k1
       case measure => have := q7.o; omega
       case rel => exact ⟨(Da), (wrap64 (F4 + 1)), zbs, H', ⟨zbK⟩, ⟨by (with_reducible repeat (first | apply Kd.qaV | apply Kd.qa0 | apply Kd.qa6)); exact WY.o⟩, ⟨zaq⟩⟩
      ·rw [if_neg c8] at H;exact absurd H zbW
    ·rw [if_neg c6] at H;exact absurd H zbW
   ·rw [if_neg c5] at H;have fE : decide (F4 < (l0.length : Int)) = false := decide_eq_false c5;clear c5;obtain rfl := Option.some.inj H
    go_wp2
    go_ret
    exact ⟨_, zaF, zaA, zaq⟩
theorem ba_ext {a b : ByteArray} (h : a.toList = b.toList) : a = b := by
 rw [ByteArray.toList_eq, ByteArray.toList_eq] at h;exact ByteArray.ext (Array.toList_inj.mp h)
theorem qho (l : List S77) (i : Nat) (h : i < l.length) : qaq l (i : Int) = l[i] := by
 unfold qaq;rw [Int.toNat_natCast];simp [List.getD_eq_getElem?_getD, h]
theorem qjB {l : List S77} {key : ByteArray} (h : hasAt l key = true) : (l[lowAt l key]'(qfl h)).f0 = key := by
 have h2 := h;unfold hasAt at h2;simp only [Bool.and_eq_true, decide_eq_true_eq] at h2;rw [qho l _ h2.1] at h2;exact ba_ext h2.2
theorem qf5 (key : ByteArray) (rest : List S77) : ∀ (pre acc : List S77), (pre ++ rest).length ≤ 1000000 → acc.length ≤ pre.length → Ev (fun k => qba.l0 k (pre ++ rest) key acc ((pre.length : Nat) : Int)) (acc ++ rest.filter fun p => !decide (p.f0.toList = key.toList)) := by
 induction rest with
 | nil =>
  intro pre acc hl ha;refine Ev.succ ?_;simp only [qba.l0];exact Ev.neg zbW (Ev.is zbW)
 | cons x r ih =>
  intro pre acc hl ha;have hx : qaq (pre ++ x :: r) ((pre.length : Nat) : Int) = x := qhb _ pre r x rfl;have hlt : ((pre.length : Nat) : Int) < ((pre ++ x :: r).length : Int) := zbR;have hpl : pre.length < 1000000 := by simp at hl; omega
  have e1 : pre ++ x :: r = (pre ++ [x]) ++ r := zbW;refine Ev.succ ?_;simp only [qba.l0, hx, qev (n := pre.length) zbV];refine Ev.pos hlt (Ev.pos zbV ?_);rw [qef pre x]
  by_cases hk : x.f0.toList = key.toList
  ·refine Ev.pos hk ?_;have := ih (pre ++ [x]) acc (by rw [← e1]; exact hl) zbR;rw [← e1] at this;refine Ev.same this ?_;rw [List.filter_cons];simp [hk]
  ·refine Ev.neg hk (Ev.pos zbV ?_);have := ih (pre ++ [x]) (acc ++ [x]) (by rw [← e1]; exact hl) zbR;rw [← e1] at this;refine Ev.same this ?_;rw [List.filter_cons];simp [hk]
theorem qjC (l : List S77) (key : ByteArray) (hl : l.length ≤ 1000000) : Ev (fun k => qba.f k l key) (l.filter fun p => !decide (p.f0.toList = key.toList)) := by
 unfold qba.f;have h := qf5 key l [] [] hl (Nat.le_refl _)
 simpa using h
end Go.Proofs.Ytcdokcpiahbejaa.X
namespace Go.Proofs.Ytcdokcpiahbejaa.X
open Go.RowKit Go.Proofs.YtcdokcpiahbejaaW.PrintWords Go.Proofs.YtcdokcpiahbejaaW.PrintLast Go.Proofs.YtcdokcpiahbejaaW.PrintMore
attribute [local go_sem] qax qay qaz qat qau qaJ qaK qam qan qav qaw
set_option linter.unusedVariables false
set_option linter.unusedSimpArgs false
open Go.Lib
end Go.Proofs.Ytcdokcpiahbejaa.X
namespace Go.Proofs.Ytcdokcpiahbejaa.X
open Go.RowKit Go.Proofs.YtcdokcpiahbejaaW.PrintWords Go.Proofs.YtcdokcpiahbejaaW.PrintLast Go.Proofs.YtcdokcpiahbejaaW.PrintMore
attribute [local go_sem] qax qay qaz qat qau qaJ qaK qam qan qav qaw
set_option linter.unusedVariables false
set_option linter.unusedSimpArgs false
def qdn.f (k : Nat) (l0 : List (S77)) (a1 : ByteArray) (a2 : ByteArray) : Option ((List (S77))) := (qbc.f k l0 a1).bind fun t222 => (if 0 ≤ t222 then (if t222 ≤ (l0.length : Int) then ((some (l0.drop (t222 : Int).toNat : List (S77))).bind fun R4 => (if t222 < (l0.length : Int) then (if ((qaq l0 t222).f0).toList = a1.toList then (if 0 ≤ (wrap64 (t222 + 1)) then (if (wrap64 (t222 + 1)) ≤ (l0.length : Int) then ((some (l0.drop ((wrap64 (t222 + 1)) : Int).toNat : List (S77))).bind fun F7 => ((some (([] : List (S77)) : List (S77))).bind fun T9 => ((some (l0.take (t222 : Int).toNat : List (S77))).bind fun a9 => (if T9.length + a9.length < 4398046511104 then ((some (T9 ++ a9 : List (S77))).bind fun U8 => (if U8.length < 4398046511104 then ((some (U8 ++ [(⟨a1, a2⟩ : S77)] : List (S77))).bind fun R7 => (if R7.length + F7.length < 4398046511104 then (some (R7 ++ F7)) else (none))) else (none))) else (none))))) else (none)) else (none)) else ((some (([] : List (S77)) : List (S77))).bind fun NC => ((some (l0.take (t222 : Int).toNat : List (S77))).bind fun ZA => (if NC.length + ZA.length < 4398046511104 then ((some (NC ++ ZA : List (S77))).bind fun rA => (if rA.length < 4398046511104 then ((some (rA ++ [(⟨a1, a2⟩ : S77)] : List (S77))).bind fun E9 => (if E9.length + R4.length < 4398046511104 then (some (E9 ++ R4)) else (none))) else (none))) else (none))))) else ((some (([] : List (S77)) : List (S77))).bind fun JC => ((some (l0.take (t222 : Int).toNat : List (S77))).bind fun IA => (if JC.length + IA.length < 4398046511104 then ((some (JC ++ IA : List (S77))).bind fun nA => (if nA.length < 4398046511104 then ((some (nA ++ [(⟨a1, a2⟩ : S77)] : List (S77))).bind fun I9 => (if I9.length + R4.length < 4398046511104 then (some (I9 ++ R4)) else (none))) else (none))) else (none)))))) else (none)) else (none))
set_option maxHeartbeats 8000000 in
set_option maxRecDepth 100000 in
theorem qdn.calls (k : Nat) (A0 : Option Addr) (c0 : Nat) (l0 : List (S77)) (a1 : ByteArray) (a2 : ByteArray) (r : List (S77)) (w : World) (hr0 : Kd.C k77 w A0 l0.length l0) (hc0 : l0.length ≤ c0) (h : qdn.f k l0 a1 a2 = some r) :
  Calls Try.prog 37 #[.slice A0 l0.length c0, .string a1, .string a2] w fun e w' => ∃ mA : Value, e = .returned (mA) ∧ Kd.R k77 77 w' w.heap.size (fun _ => True) mA r ∧ Below w.heap.size w w' := by
 have YO := Try.underlying77;have I7 := z_ hr0;have OF := z_ hc0;clear hr0 hc0;have HB := z_ (Below.refl w.heap.size w);have H : ((qbc.f k l0 a1).bind fun t222 => (if 0 ≤ t222 then (if t222 ≤ (l0.length : Int) then ((some (l0.drop (t222 : Int).toNat : List (S77))).bind fun R4 => (if t222 < (l0.length : Int) then (if ((qaq l0 t222).f0).toList = a1.toList then (if 0 ≤ (wrap64 (t222 + 1)) then (if (wrap64 (t222 + 1)) ≤ (l0.length : Int) then ((some (l0.drop ((wrap64 (t222 + 1)) : Int).toNat : List (S77))).bind fun F7 => ((some (([] : List (S77)) : List (S77))).bind fun T9 => ((some (l0.take (t222 : Int).toNat : List (S77))).bind fun a9 => (if T9.length + a9.length < 4398046511104 then ((some (T9 ++ a9 : List (S77))).bind fun U8 => (if U8.length < 4398046511104 then ((some (U8 ++ [(⟨a1, a2⟩ : S77)] : List (S77))).bind fun R7 => (if R7.length + F7.length < 4398046511104 then (some (R7 ++ F7)) else (none))) else (none))) else (none))))) else (none)) else (none)) else ((some (([] : List (S77)) : List (S77))).bind fun NC => ((some (l0.take (t222 : Int).toNat : List (S77))).bind fun ZA => (if NC.length + ZA.length < 4398046511104 then ((some (NC ++ ZA : List (S77))).bind fun rA => (if rA.length < 4398046511104 then ((some (rA ++ [(⟨a1, a2⟩ : S77)] : List (S77))).bind fun E9 => (if E9.length + R4.length < 4398046511104 then (some (E9 ++ R4)) else (none))) else (none))) else (none))))) else ((some (([] : List (S77)) : List (S77))).bind fun JC => ((some (l0.take (t222 : Int).toNat : List (S77))).bind fun IA => (if JC.length + IA.length < 4398046511104 then ((some (JC ++ IA : List (S77))).bind fun nA => (if nA.length < 4398046511104 then ((some (nA ++ [(⟨a1, a2⟩ : S77)] : List (S77))).bind fun I9 => (if I9.length + R4.length < 4398046511104 then (some (I9 ++ R4)) else (none))) else (none))) else (none)))))) else (none)) else (none))) = some r := h;clear h;replace H := Option.bind_eq_some_iff.mp H;obtain ⟨t222, KO, H⟩ := H;try dsimp only at H
 have A4 := z_ KO;clear KO
 by_cases c5 : 0 ≤ t222
 ·rw [if_pos c5] at H;have fE := eq_true c5;have KN : decide (0 ≤ t222) = true := decide_eq_true c5;clear c5
  by_cases c6 : t222 ≤ (l0.length : Int)
  ·rw [if_pos c6] at H;have mH := eq_true c6;have uL : decide (t222 ≤ (l0.length : Int)) = true := decide_eq_true c6;clear c6;obtain ⟨R4, SI⟩ : ∃ y_ : List (S77), y_ = (l0.drop (t222 : Int).toNat) := ⟨_, rfl⟩
   replace H : (if t222 < (l0.length : Int) then (if ((qaq l0 t222).f0).toList = a1.toList then (if 0 ≤ (wrap64 (t222 + 1)) then (if (wrap64 (t222 + 1)) ≤ (l0.length : Int) then ((some (l0.drop ((wrap64 (t222 + 1)) : Int).toNat : List (S77))).bind fun F7 => ((some (([] : List (S77)) : List (S77))).bind fun T9 => ((some (l0.take (t222 : Int).toNat : List (S77))).bind fun a9 => (if T9.length + a9.length < 4398046511104 then ((some (T9 ++ a9 : List (S77))).bind fun U8 => (if U8.length < 4398046511104 then ((some (U8 ++ [(⟨a1, a2⟩ : S77)] : List (S77))).bind fun R7 => (if R7.length + F7.length < 4398046511104 then (some (R7 ++ F7)) else (none))) else (none))) else (none))))) else (none)) else (none)) else ((some (([] : List (S77)) : List (S77))).bind fun NC => ((some (l0.take (t222 : Int).toNat : List (S77))).bind fun ZA => (if NC.length + ZA.length < 4398046511104 then ((some (NC ++ ZA : List (S77))).bind fun rA => (if rA.length < 4398046511104 then ((some (rA ++ [(⟨a1, a2⟩ : S77)] : List (S77))).bind fun E9 => (if E9.length + R4.length < 4398046511104 then (some (E9 ++ R4)) else (none))) else (none))) else (none))))) else ((some (([] : List (S77)) : List (S77))).bind fun JC => ((some (l0.take (t222 : Int).toNat : List (S77))).bind fun IA => (if JC.length + IA.length < 4398046511104 then ((some (JC ++ IA : List (S77))).bind fun nA => (if nA.length < 4398046511104 then ((some (nA ++ [(⟨a1, a2⟩ : S77)] : List (S77))).bind fun I9 => (if I9.length + R4.length < 4398046511104 then (some (I9 ++ R4)) else (none))) else (none))) else (none))))) = some r := by first | (rw [SI]; with_reducible exact H) | (have Y1 := (Option.bind_some _ _).symm.trans H; rw [SI]; with_reducible exact Y1) | (have Y1 := (Option.bind_some _ _).symm.trans H; with_reducible exact Y1) | with_reducible exact H | (rw [SI]; exact H) | exact H
   have DH := z_ SI;clear SI
   by_cases c7 : t222 < (l0.length : Int)
   ·rw [if_pos c7] at H;have GC : decide (t222 < (l0.length : Int)) = true := decide_eq_true c7;clear c7
    by_cases c8 : ((qaq l0 t222).f0).toList = a1.toList
    ·rw [if_pos c8] at H;have aG : (((qaq l0 t222).f0).toList == a1.toList) = true := beq_iff_eq.mpr c8;have pf : (((qaq l0 t222).f0).toList != a1.toList) = false := bne_eq_false_iff_eq.mpr c8;clear c8;obtain ⟨R9, rH⟩ : ∃ j_ : Int, (wrap64 (t222 + 1)) = j_ := ⟨_, rfl⟩
     replace H : (if 0 ≤ (R9) then (if (R9) ≤ (l0.length : Int) then ((some (l0.drop ((R9) : Int).toNat : List (S77))).bind fun F7 => ((some (([] : List (S77)) : List (S77))).bind fun T9 => ((some (l0.take (t222 : Int).toNat : List (S77))).bind fun a9 => (if T9.length + a9.length < 4398046511104 then ((some (T9 ++ a9 : List (S77))).bind fun U8 => (if U8.length < 4398046511104 then ((some (U8 ++ [(⟨a1, a2⟩ : S77)] : List (S77))).bind fun R7 => (if R7.length + F7.length < 4398046511104 then (some (R7 ++ F7)) else (none))) else (none))) else (none))))) else (none)) else (none)) = some r := by first | (rw [rH] at H; exact H) | (simp only [rH] at H ⊢; exact H)
     (try rw [rH] at A4)
     have XY : (IntKind.i64.wrap (t222 + 1)) = R9 := (qbw _).trans rH
     by_cases c10 : 0 ≤ (R9)
     ·rw [if_pos c10] at H;have XF := eq_true c10;have c10b1 : decide (0 ≤ (R9)) = true := decide_eq_true c10;clear c10
      by_cases c11 : (R9) ≤ (l0.length : Int)
      ·rw [if_pos c11] at H;have CE := eq_true c11;have Ca : decide ((R9) ≤ (l0.length : Int)) = true := decide_eq_true c11;clear c11;obtain ⟨F7, dJ⟩ : ∃ y_ : List (S77), y_ = (l0.drop ((R9) : Int).toNat) := ⟨_, rfl⟩
       replace H : ((some (([] : List (S77)) : List (S77))).bind fun T9 => ((some (l0.take (t222 : Int).toNat : List (S77))).bind fun a9 => (if T9.length + a9.length < 4398046511104 then ((some (T9 ++ a9 : List (S77))).bind fun U8 => (if U8.length < 4398046511104 then ((some (U8 ++ [(⟨a1, a2⟩ : S77)] : List (S77))).bind fun R7 => (if R7.length + F7.length < 4398046511104 then (some (R7 ++ F7)) else (none))) else (none))) else (none)))) = some r := by first | (rw [dJ]; with_reducible exact H) | (have Y1 := (Option.bind_some _ _).symm.trans H; rw [dJ]; with_reducible exact Y1) | (have Y1 := (Option.bind_some _ _).symm.trans H; with_reducible exact Y1) | with_reducible exact H | (rw [dJ]; exact H) | exact H
       have zT := z_ dJ;clear dJ;obtain ⟨T9, uK⟩ : ∃ y_ : List (S77), y_ = (([] : List (S77))) := ⟨_, rfl⟩
       replace H : ((some (l0.take (t222 : Int).toNat : List (S77))).bind fun a9 => (if T9.length + a9.length < 4398046511104 then ((some (T9 ++ a9 : List (S77))).bind fun U8 => (if U8.length < 4398046511104 then ((some (U8 ++ [(⟨a1, a2⟩ : S77)] : List (S77))).bind fun R7 => (if R7.length + F7.length < 4398046511104 then (some (R7 ++ F7)) else (none))) else (none))) else (none))) = some r := by first | (rw [uK]; with_reducible exact H) | (have Y1 := (Option.bind_some _ _).symm.trans H; rw [uK]; with_reducible exact Y1) | (have Y1 := (Option.bind_some _ _).symm.trans H; with_reducible exact Y1) | with_reducible exact H | (rw [uK]; exact H) | exact H
       have wT := z_ uK;clear uK;have W9 := eq_true (of_decide_eq_true zaN : 0 ≤ t222);have jN := eq_true (of_decide_eq_true zaN : t222 ≤ (l0.length : Int));obtain ⟨a9, gJ⟩ : ∃ y_ : List (S77), y_ = (l0.take (t222 : Int).toNat) := ⟨_, rfl⟩
       replace H : (if T9.length + a9.length < 4398046511104 then ((some (T9 ++ a9 : List (S77))).bind fun U8 => (if U8.length < 4398046511104 then ((some (U8 ++ [(⟨a1, a2⟩ : S77)] : List (S77))).bind fun R7 => (if R7.length + F7.length < 4398046511104 then (some (R7 ++ F7)) else (none))) else (none))) else (none)) = some r := by first | (rw [gJ]; with_reducible exact H) | (have Y1 := (Option.bind_some _ _).symm.trans H; rw [gJ]; with_reducible exact Y1) | (have Y1 := (Option.bind_some _ _).symm.trans H; with_reducible exact Y1) | with_reducible exact H | (rw [gJ]; exact H) | exact H
       have kT := z_ gJ;clear gJ
       by_cases c14 : T9.length + a9.length < 4398046511104
       ·rw [if_pos c14] at H;have IP := z_ c14;clear c14;obtain ⟨U8, NJ⟩ : ∃ y_ : List (S77), y_ = (T9 ++ a9) := ⟨_, rfl⟩
        replace H : (if U8.length < 4398046511104 then ((some (U8 ++ [(⟨a1, a2⟩ : S77)] : List (S77))).bind fun R7 => (if R7.length + F7.length < 4398046511104 then (some (R7 ++ F7)) else (none))) else (none)) = some r := by first | (rw [NJ]; with_reducible exact H) | (have Y1 := (Option.bind_some _ _).symm.trans H; rw [NJ]; with_reducible exact Y1) | (have Y1 := (Option.bind_some _ _).symm.trans H; with_reducible exact Y1) | with_reducible exact H | (rw [NJ]; exact H) | exact H
        have KY := z_ NJ;clear NJ
        by_cases c15 : U8.length < 4398046511104
        ·rw [if_pos c15] at H;have EZ := z_ c15;clear c15;obtain ⟨R7, NI⟩ : ∃ y_ : List (S77), y_ = (U8 ++ [(⟨a1, a2⟩ : S77)]) := ⟨_, rfl⟩
         replace H : (if R7.length + F7.length < 4398046511104 then (some (R7 ++ F7)) else (none)) = some r := by first | (rw [NI]; with_reducible exact H) | (have Y1 := (Option.bind_some _ _).symm.trans H; rw [NI]; with_reducible exact Y1) | (have Y1 := (Option.bind_some _ _).symm.trans H; with_reducible exact Y1) | with_reducible exact H | (rw [NI]; exact H) | exact H
         have Va := z_ NI;clear NI
         by_cases c16 : R7.length + F7.length < 4398046511104
         ·rw [if_pos c16] at H;have UZ := z_ c16;clear c16;obtain ⟨ng, rJ⟩ : ∃ y_ : List (S77), y_ = (R7 ++ F7) := ⟨_, rfl⟩
          replace H : (some ng) = some r := by first | (rw [rJ]; with_reducible exact H) | (have Y1 := (Option.bind_some _ _).symm.trans H; rw [rJ]; with_reducible exact Y1) | (have Y1 := (Option.bind_some _ _).symm.trans H; with_reducible exact Y1) | with_reducible exact H | (rw [rJ]; exact H) | exact H
          have EY := z_ rJ;clear rJ;obtain rfl := Option.some.inj H
          go_enter Try.func37, Try.ntmps37
          go_wp2_with (first | ((with_reducible refine qaD (f := 65) rfl ?_); refine qbk (some 11) rfl rfl Try.func65 zbS rfl #[.slice A0 l0.length c0, .string a1] rfl zao ?_; (with_reducible refine (qbc.calls k _ _ l0 a1 t222 _ ?side1 ?side2 A4.o).mono ?_); (case side1 => exact zad I7.o); (case side2 => exact OF.o); rintro e w' ⟨rfl, ⟨nd, rfl⟩⟩; refine ⟨_, rfl, ?_⟩; have jh : (t222 : Int) ≤ ((l0.length : Int) : Int) := of_decide_eq_true zaN; obtain ⟨i017, mU, _, GT, _⟩ := info_parts qcK; have PH : l0.length ≤ c0 := OF.o; have iZ : Kd.C k77 _ A0 l0.length l0 := I7.o; have Yf : (0 : Int) ≤ (t222 : Int) := of_decide_eq_true zaN; have LW := qfi (P := Try.prog) 36 77 .i64 Try.underlying36 mU 2 GT A0 l0.length c0 t222 Yf jh; have nQ := Kd.qgX (m := (t222 : Int).toNat) (c := c0) iZ zbV PH; obtain ⟨Fh, TQ⟩ : ∃ A1, A1 = (if c0 = (t222 : Int).toNat then A0 else (A0 : Option Addr).map (·.add ((t222 : Int).toNat * 2))) := ⟨_, rfl⟩; obtain ⟨c17, hc17⟩ : ∃ c1, c1 = c0 - (t222 : Int).toNat := ⟨_, rfl⟩; have ER : R4.length = l0.length - (t222 : Int).toNat := (by rw [DH.o, List.length_drop] <;> omega); rw [show (l0).drop (t222 : Int).toNat = R4 from DH.o.symm] at nQ; replace nQ : Kd.C k77 _ Fh R4.length R4 := (by rw [TQ]; exact nQ); rw [← ER, ← TQ, ← hc17] at LW; have YM := z_ nQ; have XT := z_ (show R4.length ≤ c17 from by rw [ER, hc17]; exact Nat.sub_le_sub_right PH _); clear nQ iZ PH mU GT hc17; have KY17 := z_ ER; have KA17 := z_ TQ; clear ER TQ; replace jh := eq_true jh; have LL : 0 ≤ (t222 : Int) := of_decide_eq_true zaN; have MK : t222 < (l0.length : Int) := of_decide_eq_true zaN; obtain ⟨OE, e227, LQ, dS⟩ := qce I7.o t222 LL MK; cases e227; replace LL := eq_true LL; replace MK := eq_true MK; have WN : ((R9) : Int) ≤ ((l0.length : Int) : Int) := of_decide_eq_true zaN; obtain ⟨i018, rT, _, LT, _⟩ := info_parts qcK; have BI : l0.length ≤ c0 := OF.o; have ya : Kd.C k77 _ (some OE) l0.length l0 := I7.o; have ze : (0 : Int) ≤ ((R9) : Int) := of_decide_eq_true zaN; have nV := qfi (P := Try.prog) 36 77 .i64 Try.underlying36 rT 2 LT (some OE) l0.length c0 (R9) ze WN; have kQ := Kd.qgX (m := ((R9) : Int).toNat) (c := c0) ya zbV BI; obtain ⟨A18, WR⟩ : ∃ A1, A1 = (if c0 = ((R9) : Int).toNat then (some OE) else ((some OE) : Option Addr).map (·.add (((R9) : Int).toNat * 2))) := ⟨_, rfl⟩; obtain ⟨c18, hc18⟩ : ∃ c1, c1 = c0 - ((R9) : Int).toNat := ⟨_, rfl⟩; have cR : F7.length = l0.length - ((R9) : Int).toNat := (by rw [zT.o, List.length_drop] <;> omega); rw [show (l0).drop ((R9) : Int).toNat = F7 from zT.o.symm] at kQ; replace kQ : Kd.C k77 _ A18 F7.length F7 := (by rw [WR]; exact kQ); rw [← cR, ← WR, ← hc18] at nV; have vZ := z_ kQ; have HC231 := z_ (show F7.length ≤ c18 from by rw [cR, hc18]; exact Nat.sub_le_sub_right BI _); clear kQ ya BI rT LT hc18; have KY18 := z_ cR; have KA18 := z_ WR; clear cR WR; replace WN := eq_true WN) | ((with_reducible refine qaG (N := 32) rfl ?_); refine Kd.qcD k77 _ 77 zbX (N := 32) zbX (xs := ([] : List (S77))) (inner := []) (ok := fun _ => True) (okp := fun _ => True) zbv ?hp (fun _ hk => hk) trivial (Below.refl _ _) (Nat.le_refl _) zbW ?_; (case hp => exact (Reps.none _ _)); intro v233 CG yP hb F5 Z1; clear F5 Z1; (first | rw [← wT.o] at yP | (simp only [Int.reduceToNat] at yP; rw [← wT.o] at yP)); have H0 := z_ (Kd.qa9 yP (qaC zaq)); have I0 := z_ (qad zaq hb); clear HB; have oT := H0; have HB := I0; clear H0 I0 hb yP; have ag : (t222 : Int) ≤ ((l0.length : Int) : Int) := of_decide_eq_true zaN; obtain ⟨i021, TT, _, tZ, _⟩ := info_parts qcK; have DM : l0.length ≤ c0 := OF.o; have hZ : Kd.C k77 _ (some OE) l0.length l0 := I7.o; have lX := qi8 (P := Try.prog) 36 77 .i64 Try.underlying36 TT (some OE) l0.length c0 t222 (of_decide_eq_true zaN) ag DM; have VV := Kd.qid (m := (t222 : Int).toNat) hZ zbV; have IU : a9.length = (t222 : Int).toNat := (by rw [kT.o, List.length_take]; omega); rw [← kT.o] at VV; rw [← IU] at lX; have PX := z_ VV; have HC238 := z_ (show a9.length ≤ c0 from zbV); clear VV hZ DM TT tZ; have KY21 := z_ IU; clear IU; replace ag := eq_true ag) | ((with_reducible refine qbs (b := .append) (xs := #[.tmp 32, .tmp 35]) rfl ?_); at_builtin; refine Kd.qbJ k77 (w0 := w) w.heap.size rfl (.tmp 32) (.tmp 35) 36 77 (.agg #[(.string ⟨#[]⟩), (.string ⟨#[]⟩)]) 32 rfl Try.underlying36 qcK rfl zbT zbV v233 T9 a9 _ _ _ (fun _ => True) (fun _ => False) rfl rfl ?aO ?aR (fun _ _ h => h) (fun _ h => h.elim) ?aF ?aB ?aS ?aL ?_; (case aR => exact zad (Kd.qaO PX.o HB.o)); (case aB => exact zaq); (case aF => exact (fun _ _ => trivial)); (case aO => exact (zae oT.o)); (case aS => exact (qaC zaq)); (case aL => have := IP.o; omega); intro Cf QO ho hb hg hat; rw [← KY.o] at ho; have H0 := z_ (hb); have I0 := z_ (ho); clear HB oT; have HB := H0; have QS := I0; clear H0 I0; clear ho hb hg hat) | ((with_reducible refine qbs (b := .append) (xs := #[.tmp 36, .tmp 40]) rfl ?_); at_builtin; refine Kd.qeA k77 (w0 := w) w.heap.size rfl (.tmp 36) (.tmp 40) 36 77 (.agg #[(.string ⟨#[]⟩), (.string ⟨#[]⟩)]) 32 rfl Try.underlying36 qcK rfl zbT zbV Cf U8 (⟨a1, a2⟩ : S77) [.string a1, .string a2] (fun _ => True) (fun _ => False) rfl rfl ?aP (fun _ hk => hk.elim) ?aF ?aO ?aB ?aS ?aL ?_; (case aP => exact qfy _ _ _ (⟨a1, a2⟩ : S77)); (case aB => exact zaq); (case aF => exact (fun _ _ => trivial)); (case aO => exact (zae QS.o)); (case aS => exact (qaC zaq)); (case aL => have := EZ.o; omega); intro Tg KF ho hb hg hat; rw [← Va.o] at ho; have H0 := z_ (hb); have I0 := z_ (ho); clear HB QS; have HB := H0; have uT := I0; clear H0 I0; clear ho hb hg hat) | ((with_reducible refine qbs (b := .append) (xs := #[.tmp 41, .tmp 42]) rfl ?_); at_builtin; refine Kd.qbJ k77 (w0 := w) w.heap.size rfl (.tmp 41) (.tmp 42) 36 77 (.agg #[(.string ⟨#[]⟩), (.string ⟨#[]⟩)]) 32 rfl Try.underlying36 qcK rfl zbT zbV Tg R7 F7 _ _ _ (fun _ => True) (fun _ => False) rfl rfl ?aO ?aR (fun _ _ h => h) (fun _ h => h.elim) ?aF ?aB ?aS ?aL ?_; (case aR => exact zad (Kd.qaO vZ.o HB.o)); (case aB => exact zaq); (case aF => exact (fun _ _ => trivial)); (case aO => exact (zae uT.o)); (case aS => exact (qaC zaq)); (case aL => have := UZ.o; omega); intro v246 VU ho hb hg hat; rw [← EY.o] at ho; have H0 := z_ (hb); have I0 := z_ (ho); clear HB uT; have HB := H0; have ma := I0; clear H0 I0; clear ho hb hg hat))
          go_ret
          exact ⟨_, zaj, by (with_reducible repeat (first | apply Kd.qaV | apply Kd.qa0 | apply Kd.qa6)); exact ma.o, zaq⟩
         ·rw [if_neg c16] at H;exact absurd H zbW
        ·rw [if_neg c15] at H;exact absurd H zbW
       ·rw [if_neg c14] at H;exact absurd H zbW
      ·rw [if_neg c11] at H;exact absurd H zbW
     ·rw [if_neg c10] at H;exact absurd H zbW
    ·rw [if_neg c8] at H;have aG : (((qaq l0 t222).f0).toList == a1.toList) = false := beq_eq_false_iff_ne.mpr c8;have pf : (((qaq l0 t222).f0).toList != a1.toList) = true := bne_iff_ne.mpr c8;obtain ⟨NC, nJ⟩ : ∃ y_ : List (S77), y_ = (([] : List (S77))) := ⟨_, rfl⟩
     replace H : ((some (l0.take (t222 : Int).toNat : List (S77))).bind fun ZA => (if NC.length + ZA.length < 4398046511104 then ((some (NC ++ ZA : List (S77))).bind fun rA => (if rA.length < 4398046511104 then ((some (rA ++ [(⟨a1, a2⟩ : S77)] : List (S77))).bind fun E9 => (if E9.length + R4.length < 4398046511104 then (some (E9 ++ R4)) else (none))) else (none))) else (none))) = some r := by first | (rw [nJ]; with_reducible exact H) | (have Y1 := (Option.bind_some _ _).symm.trans H; rw [nJ]; with_reducible exact Y1) | (have Y1 := (Option.bind_some _ _).symm.trans H; with_reducible exact Y1) | with_reducible exact H | (rw [nJ]; exact H) | exact H
     have xU := z_ nJ;clear nJ;have dY := eq_true (of_decide_eq_true zaN : 0 ≤ t222);have X9 := eq_true (of_decide_eq_true zaN : t222 ≤ (l0.length : Int));obtain ⟨ZA, oJ⟩ : ∃ y_ : List (S77), y_ = (l0.take (t222 : Int).toNat) := ⟨_, rfl⟩
     replace H : (if NC.length + ZA.length < 4398046511104 then ((some (NC ++ ZA : List (S77))).bind fun rA => (if rA.length < 4398046511104 then ((some (rA ++ [(⟨a1, a2⟩ : S77)] : List (S77))).bind fun E9 => (if E9.length + R4.length < 4398046511104 then (some (E9 ++ R4)) else (none))) else (none))) else (none)) = some r := by first | (rw [oJ]; with_reducible exact H) | (have Y1 := (Option.bind_some _ _).symm.trans H; rw [oJ]; with_reducible exact Y1) | (have Y1 := (Option.bind_some _ _).symm.trans H; with_reducible exact Y1) | with_reducible exact H | (rw [oJ]; exact H) | exact H
     have kU := z_ oJ;clear oJ
     by_cases vR : NC.length + ZA.length < 4398046511104
     ·rw [if_pos vR] at H;have RY := z_ vR;clear vR;obtain ⟨rA, PJ⟩ : ∃ y_ : List (S77), y_ = (NC ++ ZA) := ⟨_, rfl⟩
      replace H : (if rA.length < 4398046511104 then ((some (rA ++ [(⟨a1, a2⟩ : S77)] : List (S77))).bind fun E9 => (if E9.length + R4.length < 4398046511104 then (some (E9 ++ R4)) else (none))) else (none)) = some r := by first | (rw [PJ]; with_reducible exact H) | (have Y1 := (Option.bind_some _ _).symm.trans H; rw [PJ]; with_reducible exact Y1) | (have Y1 := (Option.bind_some _ _).symm.trans H; with_reducible exact Y1) | with_reducible exact H | (rw [PJ]; exact H) | exact H
      have tY := z_ PJ;clear PJ
      by_cases c28 : rA.length < 4398046511104
      ·rw [if_pos c28] at H;have WZ := z_ c28;clear c28;obtain ⟨E9, gK⟩ : ∃ y_ : List (S77), y_ = (rA ++ [(⟨a1, a2⟩ : S77)]) := ⟨_, rfl⟩
       replace H : (if E9.length + R4.length < 4398046511104 then (some (E9 ++ R4)) else (none)) = some r := by first | (rw [gK]; with_reducible exact H) | (have Y1 := (Option.bind_some _ _).symm.trans H; rw [gK]; with_reducible exact Y1) | (have Y1 := (Option.bind_some _ _).symm.trans H; with_reducible exact Y1) | with_reducible exact H | (rw [gK]; exact H) | exact H
       have MZ := z_ gK;clear gK
       by_cases nH : E9.length + R4.length < 4398046511104
       ·rw [if_pos nH] at H;have jZ := z_ nH;clear nH;obtain ⟨ye, lJ⟩ : ∃ y_ : List (S77), y_ = (E9 ++ R4) := ⟨_, rfl⟩
        replace H : (some ye) = some r := by first | (rw [lJ]; with_reducible exact H) | (have Y1 := (Option.bind_some _ _).symm.trans H; rw [lJ]; with_reducible exact Y1) | (have Y1 := (Option.bind_some _ _).symm.trans H; with_reducible exact Y1) | with_reducible exact H | (rw [lJ]; exact H) | exact H
        have YZ := z_ lJ;clear lJ;obtain rfl := Option.some.inj H
        go_enter Try.func37, Try.ntmps37
        go_wp2_with (first | ((with_reducible refine qaD (f := 65) rfl ?_); refine qbk (some 11) rfl rfl Try.func65 zbS rfl #[.slice A0 l0.length c0, .string a1] rfl zao ?_; (with_reducible refine (qbc.calls k _ _ l0 a1 t222 _ ?side1 ?side2 A4.o).mono ?_); (case side1 => exact zad I7.o); (case side2 => exact OF.o); rintro e w' ⟨rfl, ⟨nd, rfl⟩⟩; refine ⟨_, rfl, ?_⟩; have oh : (t222 : Int) ≤ ((l0.length : Int) : Int) := of_decide_eq_true zaN; obtain ⟨i030, ZT, _, FT, _⟩ := info_parts qcK; have mI : l0.length ≤ c0 := OF.o; have oZ : Kd.C k77 _ A0 l0.length l0 := I7.o; have mh : (0 : Int) ≤ (t222 : Int) := of_decide_eq_true zaN; have EW := qfi (P := Try.prog) 36 77 .i64 Try.underlying36 ZT 2 FT A0 l0.length c0 t222 mh oh; have cQ := Kd.qgX (m := (t222 : Int).toNat) (c := c0) oZ zbV mI; obtain ⟨jI, MR⟩ : ∃ A1, A1 = (if c0 = (t222 : Int).toNat then A0 else (A0 : Option Addr).map (·.add ((t222 : Int).toNat * 2))) := ⟨_, rfl⟩; obtain ⟨FI, hX⟩ : ∃ c1, c1 = c0 - (t222 : Int).toNat := ⟨_, rfl⟩; have yR : R4.length = l0.length - (t222 : Int).toNat := (by rw [DH.o, List.length_drop] <;> omega); rw [show (l0).drop (t222 : Int).toNat = R4 from DH.o.symm] at cQ; replace cQ : Kd.C k77 _ jI R4.length R4 := (by rw [MR]; exact cQ); rw [← yR, ← MR, ← hX] at EW; have YM := z_ cQ; have XT := z_ (show R4.length ≤ FI from by rw [yR, hX]; exact Nat.sub_le_sub_right mI _); clear cQ oZ mI ZT FT hX; have KY30 := z_ yR; have KA30 := z_ MR; clear yR MR; replace oh := eq_true oh; have LL : 0 ≤ (t222 : Int) := of_decide_eq_true zaN; have MK : t222 < (l0.length : Int) := of_decide_eq_true zaN; obtain ⟨OE, e227, LQ, dS⟩ := qce I7.o t222 LL MK; cases e227; replace LL := eq_true LL; replace MK := eq_true MK) | ((with_reducible refine qaG (N := 32) rfl ?_); refine Kd.qcD k77 _ 77 zbX (N := 32) zbX (xs := ([] : List (S77))) (inner := []) (ok := fun _ => True) (okp := fun _ => True) zbv ?hp (fun _ hk => hk) trivial (Below.refl _ _) (Nat.le_refl _) zbW ?_; (case hp => exact (Reps.none _ _)); intro th w31 xP hb F5 Z1; clear F5 Z1; (first | rw [← xU.o] at xP | (simp only [Int.reduceToNat] at xP; rw [← xU.o] at xP)); have H0 := z_ (Kd.qa9 xP (qaC zaq)); have I0 := z_ (qad zaq hb); clear HB; have fU := H0; have HB := I0; clear H0 I0 hb xP; have gX : (t222 : Int) ≤ ((l0.length : Int) : Int) := of_decide_eq_true zaN; obtain ⟨i033, zU, _, Pa, _⟩ := info_parts qcK; have dM : l0.length ≤ c0 := OF.o; have AX : Kd.C k77 _ (some OE) l0.length l0 := I7.o; have dW := qi8 (P := Try.prog) 36 77 .i64 Try.underlying36 zU (some OE) l0.length c0 t222 (of_decide_eq_true zaN) gX dM; have IV := Kd.qid (m := (t222 : Int).toNat) AX zbV; have yV : ZA.length = (t222 : Int).toNat := (by rw [kU.o, List.length_take]; omega); rw [← kU.o] at IV; rw [← yV] at dW; have JY := z_ IV; have HC254 := z_ (show ZA.length ≤ c0 from zbV); clear IV AX dM zU Pa; have KY33 := z_ yV; clear yV; replace gX := eq_true gX) | ((with_reducible refine qbs (b := .append) (xs := #[.tmp 32, .tmp 35]) rfl ?_); at_builtin; refine Kd.qbJ k77 (w0 := w) w.heap.size rfl (.tmp 32) (.tmp 35) 36 77 (.agg #[(.string ⟨#[]⟩), (.string ⟨#[]⟩)]) 32 rfl Try.underlying36 qcK rfl zbT zbV th NC ZA _ _ _ (fun _ => True) (fun _ => False) rfl rfl ?aO ?aR (fun _ _ h => h) (fun _ h => h.elim) ?aF ?aB ?aS ?aL ?_; (case aR => exact zad (Kd.qaO JY.o HB.o)); (case aB => exact zaq); (case aF => exact (fun _ _ => trivial)); (case aO => exact (zae fU.o)); (case aS => exact (qaC zaq)); (case aL => have := RY.o; omega); intro qe w34 ho hb hg hat; rw [← tY.o] at ho; have H0 := z_ (hb); have I0 := z_ (ho); clear HB fU; have HB := H0; have yU := I0; clear H0 I0; clear ho hb hg hat) | ((with_reducible refine qbs (b := .append) (xs := #[.tmp 36, .tmp 40]) rfl ?_); at_builtin; refine Kd.qeA k77 (w0 := w) w.heap.size rfl (.tmp 36) (.tmp 40) 36 77 (.agg #[(.string ⟨#[]⟩), (.string ⟨#[]⟩)]) 32 rfl Try.underlying36 qcK rfl zbT zbV qe rA (⟨a1, a2⟩ : S77) [.string a1, .string a2] (fun _ => True) (fun _ => False) rfl rfl ?aP (fun _ hk => hk.elim) ?aF ?aO ?aB ?aS ?aL ?_; (case aP => exact qfy _ _ _ (⟨a1, a2⟩ : S77)); (case aB => exact zaq); (case aF => exact (fun _ _ => trivial)); (case aO => exact (zae yU.o)); (case aS => exact (qaC zaq)); (case aL => have := WZ.o; omega); intro sg xQ ho hb hg hat; rw [← MZ.o] at ho; have H0 := z_ (hb); have I0 := z_ (ho); clear HB yU; have HB := H0; have UT := I0; clear H0 I0; clear ho hb hg hat) | ((with_reducible refine qbs (b := .append) (xs := #[.tmp 41, .tmp 42]) rfl ?_); at_builtin; refine Kd.qbJ k77 (w0 := w) w.heap.size rfl (.tmp 41) (.tmp 42) 36 77 (.agg #[(.string ⟨#[]⟩), (.string ⟨#[]⟩)]) 32 rfl Try.underlying36 qcK rfl zbT zbV sg E9 R4 _ _ _ (fun _ => True) (fun _ => False) rfl rfl ?aO ?aR (fun _ _ h => h) (fun _ h => h.elim) ?aF ?aB ?aS ?aL ?_; (case aR => exact zad (Kd.qaO YM.o HB.o)); (case aB => exact zaq); (case aF => exact (fun _ _ => trivial)); (case aO => exact (zae UT.o)); (case aS => exact (qaC zaq)); (case aL => have := jZ.o; omega); intro v262 Db ho hb hg hat; rw [← YZ.o] at ho; have H0 := z_ (hb); have I0 := z_ (ho); clear HB UT; have HB := H0; have QY := I0; clear H0 I0; clear ho hb hg hat))
        go_ret
        exact ⟨_, zaF, by (with_reducible repeat (first | apply Kd.qaV | apply Kd.qa0 | apply Kd.qa6)); exact QY.o, zaq⟩
       ·rw [if_neg nH] at H;exact absurd H zbW
      ·rw [if_neg c28] at H;exact absurd H zbW
     ·rw [if_neg vR] at H;exact absurd H zbW
   ·rw [if_neg c7] at H;have GC : decide (t222 < (l0.length : Int)) = false := decide_eq_false c7;clear c7;obtain ⟨JC, kK⟩ : ∃ y_ : List (S77), y_ = (([] : List (S77))) := ⟨_, rfl⟩
    replace H : ((some (l0.take (t222 : Int).toNat : List (S77))).bind fun IA => (if JC.length + IA.length < 4398046511104 then ((some (JC ++ IA : List (S77))).bind fun nA => (if nA.length < 4398046511104 then ((some (nA ++ [(⟨a1, a2⟩ : S77)] : List (S77))).bind fun I9 => (if I9.length + R4.length < 4398046511104 then (some (I9 ++ R4)) else (none))) else (none))) else (none))) = some r := by first | (rw [kK]; with_reducible exact H) | (have Y1 := (Option.bind_some _ _).symm.trans H; rw [kK]; with_reducible exact Y1) | (have Y1 := (Option.bind_some _ _).symm.trans H; with_reducible exact Y1) | with_reducible exact H | (rw [kK]; exact H) | exact H
    have vT := z_ kK;clear kK;have c37b0 := eq_true (of_decide_eq_true zaN : 0 ≤ t222);have c38b0 := eq_true (of_decide_eq_true zaN : t222 ≤ (l0.length : Int));obtain ⟨IA, XJ⟩ : ∃ y_ : List (S77), y_ = (l0.take (t222 : Int).toNat) := ⟨_, rfl⟩
    replace H : (if JC.length + IA.length < 4398046511104 then ((some (JC ++ IA : List (S77))).bind fun nA => (if nA.length < 4398046511104 then ((some (nA ++ [(⟨a1, a2⟩ : S77)] : List (S77))).bind fun I9 => (if I9.length + R4.length < 4398046511104 then (some (I9 ++ R4)) else (none))) else (none))) else (none)) = some r := by first | (rw [XJ]; with_reducible exact H) | (have Y1 := (Option.bind_some _ _).symm.trans H; rw [XJ]; with_reducible exact Y1) | (have Y1 := (Option.bind_some _ _).symm.trans H; with_reducible exact Y1) | with_reducible exact H | (rw [XJ]; exact H) | exact H
    have dU := z_ XJ;clear XJ
    by_cases UC : JC.length + IA.length < 4398046511104
    ·rw [if_pos UC] at H;have Ba := z_ UC;clear UC;obtain ⟨nA, QI⟩ : ∃ y_ : List (S77), y_ = (JC ++ IA) := ⟨_, rfl⟩
     replace H : (if nA.length < 4398046511104 then ((some (nA ++ [(⟨a1, a2⟩ : S77)] : List (S77))).bind fun I9 => (if I9.length + R4.length < 4398046511104 then (some (I9 ++ R4)) else (none))) else (none)) = some r := by first | (rw [QI]; with_reducible exact H) | (have Y1 := (Option.bind_some _ _).symm.trans H; rw [QI]; with_reducible exact Y1) | (have Y1 := (Option.bind_some _ _).symm.trans H; with_reducible exact Y1) | with_reducible exact H | (rw [QI]; exact H) | exact H
     have NX := z_ QI;clear QI
     by_cases c40 : nA.length < 4398046511104
     ·rw [if_pos c40] at H;have qZ := z_ c40;clear c40;obtain ⟨I9, uJ⟩ : ∃ y_ : List (S77), y_ = (nA ++ [(⟨a1, a2⟩ : S77)]) := ⟨_, rfl⟩
      replace H : (if I9.length + R4.length < 4398046511104 then (some (I9 ++ R4)) else (none)) = some r := by first | (rw [uJ]; with_reducible exact H) | (have Y1 := (Option.bind_some _ _).symm.trans H; rw [uJ]; with_reducible exact Y1) | (have Y1 := (Option.bind_some _ _).symm.trans H; with_reducible exact Y1) | with_reducible exact H | (rw [uJ]; exact H) | exact H
      have ja := z_ uJ;clear uJ
      by_cases xI : I9.length + R4.length < 4398046511104
      ·rw [if_pos xI] at H;have Fa := z_ xI;clear xI;obtain ⟨Mf, MI⟩ : ∃ y_ : List (S77), y_ = (I9 ++ R4) := ⟨_, rfl⟩
       replace H : (some Mf) = some r := by first | (rw [MI]; with_reducible exact H) | (have Y1 := (Option.bind_some _ _).symm.trans H; rw [MI]; with_reducible exact Y1) | (have Y1 := (Option.bind_some _ _).symm.trans H; with_reducible exact Y1) | with_reducible exact H | (rw [MI]; exact H) | exact H
       have FX := z_ MI;clear MI;obtain rfl := Option.some.inj H
       go_enter Try.func37, Try.ntmps37
       go_wp2_with (first | ((with_reducible refine qaD (f := 65) rfl ?_); refine qbk (some 11) rfl rfl Try.func65 zbS rfl #[.slice A0 l0.length c0, .string a1] rfl zao ?_; (with_reducible refine (qbc.calls k _ _ l0 a1 t222 _ ?side1 ?side2 A4.o).mono ?_); (case side1 => exact zad I7.o); (case side2 => exact OF.o); rintro e w' ⟨rfl, ⟨nd, rfl⟩⟩; refine ⟨_, rfl, ?_⟩; have je : (t222 : Int) ≤ ((l0.length : Int) : Int) := of_decide_eq_true zaN; obtain ⟨i042, tT, _, MT, _⟩ := info_parts qcK; have TH : l0.length ≤ c0 := OF.o; have ca : Kd.C k77 _ A0 l0.length l0 := I7.o; have Cg : (0 : Int) ≤ (t222 : Int) := of_decide_eq_true zaN; have bW := qfi (P := Try.prog) 36 77 .i64 Try.underlying36 tT 2 MT A0 l0.length c0 t222 Cg je; have sO := Kd.qgX (m := (t222 : Int).toNat) (c := c0) ca zbV TH; obtain ⟨A42, vS⟩ : ∃ A1, A1 = (if c0 = (t222 : Int).toNat then A0 else (A0 : Option Addr).map (·.add ((t222 : Int).toNat * 2))) := ⟨_, rfl⟩; obtain ⟨SM, oV⟩ : ∃ c1, c1 = c0 - (t222 : Int).toNat := ⟨_, rfl⟩; have FQ : R4.length = l0.length - (t222 : Int).toNat := (by rw [DH.o, List.length_drop] <;> omega); rw [show (l0).drop (t222 : Int).toNat = R4 from DH.o.symm] at sO; replace sO : Kd.C k77 _ A42 R4.length R4 := (by rw [vS]; exact sO); rw [← FQ, ← vS, ← oV] at bW; have YM := z_ sO; have XT := z_ (show R4.length ≤ SM from by rw [FQ, oV]; exact Nat.sub_le_sub_right TH _); clear sO ca TH tT MT oV; have KY42 := z_ FQ; have KA42 := z_ vS; clear FQ vS; replace je := eq_true je) | ((with_reducible refine qaG (N := 32) rfl ?_); refine Kd.qcD k77 _ 77 zbX (N := 32) zbX (xs := ([] : List (S77))) (inner := []) (ok := fun _ => True) (okp := fun _ => True) zbv ?hp (fun _ hk => hk) trivial (Below.refl _ _) (Nat.le_refl _) zbW ?_; (case hp => exact (Reps.none _ _)); intro We w43 OO hb F5 Z1; clear F5 Z1; (first | rw [← vT.o] at OO | (simp only [Int.reduceToNat] at OO; rw [← vT.o] at OO)); have H0 := z_ (Kd.qa9 OO (qaC zaq)); have I0 := z_ (qad zaq hb); clear HB; have yT := H0; have HB := I0; clear H0 I0 hb OO; have re : (t222 : Int) ≤ ((l0.length : Int) : Int) := of_decide_eq_true zaN; obtain ⟨i045, NT, _, Ua, _⟩ := info_parts qcK; have UM : l0.length ≤ c0 := OF.o; have da : Kd.C k77 _ A0 l0.length l0 := I7.o; have DW := qi8 (P := Try.prog) 36 77 .i64 Try.underlying36 NT A0 l0.length c0 t222 (of_decide_eq_true zaN) re UM; have OV := Kd.qid (m := (t222 : Int).toNat) da zbV; have PW : IA.length = (t222 : Int).toNat := (by rw [dU.o, List.length_take]; omega); rw [← dU.o] at OV; rw [← PW] at DW; have CX := z_ OV; have HC270 := z_ (show IA.length ≤ c0 from zbV); clear OV da UM NT Ua; have KY45 := z_ PW; clear PW; replace re := eq_true re) | ((with_reducible refine qbs (b := .append) (xs := #[.tmp 32, .tmp 35]) rfl ?_); at_builtin; refine Kd.qbJ k77 (w0 := w) w.heap.size rfl (.tmp 32) (.tmp 35) 36 77 (.agg #[(.string ⟨#[]⟩), (.string ⟨#[]⟩)]) 32 rfl Try.underlying36 qcK rfl zbT zbV We JC IA _ _ _ (fun _ => True) (fun _ => False) rfl rfl ?aO ?aR (fun _ _ h => h) (fun _ h => h.elim) ?aF ?aB ?aS ?aL ?_; (case aR => exact zad (Kd.qaO CX.o HB.o)); (case aB => exact zaq); (case aF => exact (fun _ _ => trivial)); (case aO => exact (zae yT.o)); (case aS => exact (qaC zaq)); (case aL => have := Ba.o; omega); intro jg w46 ho hb hg hat; rw [← NX.o] at ho; have H0 := z_ (hb); have I0 := z_ (ho); clear HB yT; have HB := H0; have oU := I0; clear H0 I0; clear ho hb hg hat) | ((with_reducible refine qbs (b := .append) (xs := #[.tmp 36, .tmp 40]) rfl ?_); at_builtin; refine Kd.qeA k77 (w0 := w) w.heap.size rfl (.tmp 36) (.tmp 40) 36 77 (.agg #[(.string ⟨#[]⟩), (.string ⟨#[]⟩)]) 32 rfl Try.underlying36 qcK rfl zbT zbV jg nA (⟨a1, a2⟩ : S77) [.string a1, .string a2] (fun _ => True) (fun _ => False) rfl rfl ?aP (fun _ hk => hk.elim) ?aF ?aO ?aB ?aS ?aL ?_; (case aP => exact qfy _ _ _ (⟨a1, a2⟩ : S77)); (case aB => exact zaq); (case aF => exact (fun _ _ => trivial)); (case aO => exact (zae oU.o)); (case aS => exact (qaC zaq)); (case aL => have := qZ.o; omega); intro Bh w47 ho hb hg hat; rw [← ja.o] at ho; have H0 := z_ (hb); have I0 := z_ (ho); clear HB oU; have HB := H0; have XS := I0; clear H0 I0; clear ho hb hg hat) | ((with_reducible refine qbs (b := .append) (xs := #[.tmp 41, .tmp 42]) rfl ?_); at_builtin; refine Kd.qbJ k77 (w0 := w) w.heap.size rfl (.tmp 41) (.tmp 42) 36 77 (.agg #[(.string ⟨#[]⟩), (.string ⟨#[]⟩)]) 32 rfl Try.underlying36 qcK rfl zbT zbV Bh I9 R4 _ _ _ (fun _ => True) (fun _ => False) rfl rfl ?aO ?aR (fun _ _ h => h) (fun _ h => h.elim) ?aF ?aB ?aS ?aL ?_; (case aR => exact zad (Kd.qaO YM.o HB.o)); (case aB => exact zaq); (case aF => exact (fun _ _ => trivial)); (case aO => exact (zae XS.o)); (case aS => exact (qaC zaq)); (case aL => have := Fa.o; omega); intro v278 w48 ho hb hg hat; rw [← FX.o] at ho; have H0 := z_ (hb); have I0 := z_ (ho); clear HB XS; have HB := H0; have yX := I0; clear H0 I0; clear ho hb hg hat))
       go_ret
       exact ⟨_, zaF, by (with_reducible repeat (first | apply Kd.qaV | apply Kd.qa0 | apply Kd.qa6)); exact yX.o, zaq⟩
      ·rw [if_neg xI] at H;exact absurd H zbW
     ·rw [if_neg c40] at H;exact absurd H zbW
    ·rw [if_neg UC] at H;exact absurd H zbW
  ·rw [if_neg c6] at H;exact absurd H zbW
 ·rw [if_neg c5] at H;exact absurd H zbW
def putP (l : List S77) (key v : ByteArray) : List S77 := if hasAt l key = true then l.set (lowAt l key) ⟨key, v⟩ else l.take (lowAt l key) ++ [⟨key, v⟩] ++ l.drop (lowAt l key)
theorem qeH (l : List S77) (key : ByteArray) : lowAt l key ≤ l.length := by
 unfold lowAt;exact List.findIdx_le_length
theorem qdP (l : List S77) (key v : ByteArray) : (putP l key v).length = l.length + (if hasAt l key = true then 0 else 1) := by
 unfold putP;have h := qeH l key
 cases hh : hasAt l key with
 | true => simp
 | false => simp; omega
theorem set_is {α : Type} (l : List α) (i : Nat) (x : α) (h : i < l.length) : l.set i x = l.take i ++ [x] ++ l.drop (i + 1) := by
 rw [List.set_eq_take_append_cons_drop, if_pos h];simp
theorem spec_put (l : List S77) (key v : ByteArray) (hl : l.length ≤ 1000000) : Ev (fun k => qdn.f k l key v) (putP l key v) := by
 unfold qdn.f putP;have hle := qeH l key;refine Ev.bind (qjA l key zbV) (Ev.pos zbV (Ev.pos zbV (Ev.bindk rfl ?_)));simp only [Int.toNat_natCast]
 by_cases h : lowAt l key < l.length
 ·refine Ev.pos zbV ?_
  by_cases h2 : (qaq l (lowAt l key)).f0.toList = key.toList
  ·have hh : hasAt l key = true := by unfold hasAt; simp [h, h2]
   have e := qev (n := lowAt l key) zbV;refine Ev.pos h2 (Ev.pos zbV (Ev.pos zbV (Ev.bindk rfl (Ev.bindk rfl (Ev.bindk rfl (Ev.pos zbR (Ev.bindk rfl (Ev.pos zbR (Ev.bindk rfl (Ev.pos zbR (Ev.is ?_)))))))))));rw [if_pos hh, e, Int.toNat_natCast, set_is _ _ _ h];simp
  ·have hh : hasAt l key = false := by unfold hasAt; simp [h2]
   refine Ev.neg h2 (Ev.bindk rfl (Ev.bindk rfl (Ev.pos zbR (Ev.bindk rfl (Ev.pos zbR (Ev.bindk rfl (Ev.pos zbR (Ev.is ?_))))))));rw [if_neg (by rw [hh]; simp)];simp
 ·have hh : hasAt l key = false := by unfold hasAt; simp [h]
  refine Ev.neg zbV (Ev.bindk rfl (Ev.bindk rfl (Ev.pos zbR (Ev.bindk rfl (Ev.pos zbR (Ev.bindk rfl (Ev.pos zbR (Ev.is ?_))))))));rw [if_neg (by rw [hh]; simp)];simp
def Fine (l : List S77) : Prop := (∀ p ∈ l, okP p = true) ∧ Rises l
theorem qhp {l : List S77} {key : ByteArray} {j : Nat} (hl : j < l.length) (hj : j < lowAt l key) : Op.bytesLess l[j].f0.toList key.toList = true := by
 have h := List.not_of_lt_findIdx (xs := l) (p := fun p => !Op.bytesLess p.f0.toList key.toList) hj
 simpa using h
theorem qjD {l : List S77} {key : ByteArray} (hr : Rises l) (hh : hasAt l key = false) {j : Nat} (hl : j < l.length) (hj : lowAt l key ≤ j) : Op.bytesLess key.toList l[j].f0.toList = true := by
 have hlt : lowAt l key < l.length := zbV;have h1 : Op.bytesLess (l[lowAt l key]).f0.toList key.toList = false := by
  have h := List.findIdx_getElem (xs := l) (p := fun p => !Op.bytesLess p.f0.toList key.toList) (w := (show List.findIdx (fun p => !Op.bytesLess p.f0.toList key.toList) l < l.length from hlt));have h9 : (!Op.bytesLess (l[lowAt l key]).f0.toList key.toList) = true := h
  simpa using h9
 have h2 : Op.bytesLess key.toList (l[lowAt l key]).f0.toList = true := by
  cases h : Op.bytesLess key.toList (l[lowAt l key]).f0.toList with
  | true => rfl
  | false =>
   have he := qfB h1 h;unfold hasAt at hh;rw [qho l _ hlt, he] at hh;simp [hlt] at hh
 rcases Nat.eq_or_lt_of_le hj with e | e
 ·subst e; exact h2
 ·exact qcH h2 (qip hr hl e)
theorem qjE {l : List S77} {key v : ByteArray} (hr : Rises l) : Rises (putP l key v) := by
 unfold putP
 cases hh : hasAt l key with
 | true =>
  rw [if_pos rfl];have hk := qjB hh;have hlt := qfl hh;have e : (l.set (lowAt l key) ⟨key, v⟩).map (fun p => p.f0) = l.map (fun p => p.f0) := by
   rw [List.map_set];have : key = (l.map fun p => p.f0)[lowAt l key]'(by rw [List.length_map]; exact hlt) := by rw [List.getElem_map]; exact hk.symm
   conv => lhs; rw [show (⟨key, v⟩ : S77).f0 = (l.map fun p => p.f0)[lowAt l key]'(by rw [List.length_map]; exact hlt) from this]
   exact List.set_getElem_self _
  have h1 : (l.map fun p => p.f0).Pairwise (fun a b => Op.bytesLess a.toList b.toList = true) := List.pairwise_map.2 hr;rw [← e] at h1;exact List.pairwise_map.1 h1
 | false =>
  rw [if_neg zbW];have h1 : ∀ x ∈ l.take (lowAt l key), Op.bytesLess x.f0.toList key.toList = true := by
   intro x hx;obtain ⟨j, hj, rfl⟩ := List.mem_take_iff_getElem.1 hx;exact qhp zbV zbV
  have h2 : ∀ x ∈ l.drop (lowAt l key), Op.bytesLess key.toList x.f0.toList = true := by
   intro x hx;obtain ⟨j, hj, rfl⟩ := List.mem_drop_iff_getElem.1 hx;exact qjD hr hh zbV zbV
  unfold Rises;rw [List.append_assoc, List.pairwise_append];refine ⟨List.Pairwise.sublist (List.take_sublist _ _) hr, ?_, ?_⟩
  ·rw [List.singleton_append, List.pairwise_cons];exact ⟨h2, List.Pairwise.sublist (List.drop_sublist _ _) hr⟩
  ·intro a ha b hb;rw [List.singleton_append] at hb
   rcases List.mem_cons.1 hb with rfl | hb
   ·exact h1 a ha
   ·exact qcH (h1 a ha) (h2 b hb)
theorem qir {l : List S77} {key v : ByteArray} (h : Fine l) (hk : keyB key = true) (hv : v.size ≤ 90) : Fine (putP l key v) := by
 refine ⟨fun p hp => ?_, qjE h.2⟩;have hn : okP ⟨key, v⟩ = true := by simp [okP, hk, hv]
 unfold putP at hp
 split at hp
 ·rcases List.mem_or_eq_of_mem_set hp with hp | rfl
  ·exact h.1 p hp
  ·exact hn
 ·rw [List.append_assoc] at hp
  rcases List.mem_append.1 hp with hp | hp
  ·exact h.1 p (List.mem_of_mem_take hp)
  ·rcases List.mem_append.1 hp with hp | hp
   ·rw [List.mem_singleton.1 hp]; exact hn
   ·exact h.1 p (List.mem_of_mem_drop hp)
end Go.Proofs.Ytcdokcpiahbejaa.X
