import Derived.Test.YtcdokcpiahbejaaGreatKFnExactTreeDrop13
set_option maxRecDepth 100000
set_option maxHeartbeats 16000000
set_option linter.unusedVariables false
set_option linter.unusedSimpArgs false
namespace Go.Proofs.YtcdokcpiahbejaaGreat.X
open Go.RowKit Go.Proofs.PW Go.Proofs.PL Go.Proofs.PM
attribute [local go_sem] qaj qak qal qaf qag qao qap qad qae qah qai
def qaM.l0 : Nat → List (S80) → List (S80) → Int → Option (Bool)
 | 0, _, _, _ => none
 | k + 1, x0, x1, x5 => if x5 < (x0.length : Int) then (if 0 ≤ x5 then (if x5 < (x1.length : Int) then ((qcb.f k ((qaC x0 x5).f0) ((qaC x0 x5).f1) ((qaC x0 x5).f2) ((qaC x0 x5).f3) ((qaC x1 x5).f0) ((qaC x1 x5).f1) ((qaC x1 x5).f2) ((qaC x1 x5).f3)).bind fun ac => (if ac = true then (qaM.l0 k x0 x1 (wrap64 (x5 + 1))) else (some false))) else (none)) else (none)) else (some true)
def qaM.f (k : Nat) (l0 : List (S80)) (l1 : List (S80)) : Option (Bool) := if (l0.length : Int) = (l1.length : Int) then (qaM.l0 k l0 l1 0) else (some false)
theorem qaM.qbl : ∀ k, (∀ y0 y1 y2, LeO (qaM.l0 k y0 y1 y2) (qaM.l0 (k + 1) y0 y1 y2))
 | 0 => fun _ _ _ r h => by simp [qaM.l0] at h
 | k + 1 => by
  have Q9 := qaM.qbl k
  ·intro y0 y1 y2;unfold qaM.l0;have kC := @qcb.mono; exact zleo_
def qaM.T6 : Bool × List (List Nat × List Nat) := (true, [([], []), ([], []), ([0, 1], [0, 1]), ([2], [2]), ([], []), ([], []), ([4, 5], [4, 5]), ([6], [6]), ([3, 7], [3, 7]), ([8], [8])])
def qaM.B6 : List Nat := [0, 0, 3, 7, 0, 0, 48, 112, 255, 511]
theorem qaM.tab6 : rtab .any (opsOf Tryz.f27 6) = qaM.T6 := zdG
theorem qaM.bits6 : qbW qaM.T6.2 qaM.B6 = true := zdG
theorem qaM.calls (k : Nat) (A0 : Option Addr) (c0 : Nat) (l0 : List (S80)) (A1 : Option Addr) (c1 : Nat) (l1 : List (S80)) (r : Bool) (w : World) (hr0 : Kd.C k80 w A0 l0.length l0) (hc0 : l0.length ≤ c0) (hr1 : Kd.C k80 w A1 l1.length l1) (hc1 : l1.length ≤ c1) (h : qaM.f k l0 l1 = some r) :
  Calls Tryz.prog 27 #[.slice A0 l0.length c0, .slice A1 l1.length c1] w fun e w' => e = .returned (.bool r) ∧ Below w.heap.size w w' := by
 have lI := Tryz.underlying80;have Z1 := z_ hr0;have kB := z_ hc0;clear hr0 hc0;have HR1 := z_ hr1;have cG := z_ hc1;clear hr1 hc1;have HB := z_ (Below.refl w.heap.size w);have H : (if (l0.length : Int) = (l1.length : Int) then (qaM.l0 k l0 l1 0) else (some false)) = some r := h;clear h
 by_cases c3 : (l0.length : Int) = (l1.length : Int)
 ·rw [if_pos c3] at H;have Y1 : ((l0.length : Int) == (l1.length : Int)) = true := beq_iff_eq.mpr c3;have r6 : ((l0.length : Int) != (l1.length : Int)) = false := bne_eq_false_iff_eq.mpr c3;have QB : (l0.length == l1.length) = true := zbW;clear c3;have H' := z_ H;clear H
  go_enter Tryz.func27, Tryz.ntmps27
  go_wp2
  go_loopg [5] k (fun kq v5 w' => ∃ (o0 : Int), v5 = .int .i64 o0 ∧ Aside0 (qaM.l0 kq l0 l1 o0 = some r) ∧ Aside0 (kq ≤ k) ∧ Aside0 (Below w.heap.size w w'))
  case atStart => exact ⟨(0), zcc, H', ⟨Nat.le_refl _⟩, ⟨zar⟩⟩
  case round =>
   clear H';try clear c3
   try clear Y1
   try clear r6
   try clear QB
   obtain ⟨o0, rfl, HA, I5, HB⟩ := hrel
   cases gk with
   | zero => exact absurd HA.o (by simp [qaM.l0])
   | succ k1 =>
    have H := HA.o;clear HA;simp only [qaM.l0] at H
    by_cases c4 : o0 < (l0.length : Int)
    ·rw [if_pos c4] at H;have G4 : decide (o0 < (l0.length : Int)) = true := decide_eq_true c4;clear c4
     by_cases c5 : 0 ≤ o0
     ·rw [if_pos c5] at H;have O8 : decide (0 ≤ o0) = true := decide_eq_true c5;clear c5
      by_cases c6 : o0 < (l1.length : Int)
      ·rw [if_pos c6] at H;have u7 : decide (o0 < (l1.length : Int)) = true := decide_eq_true c6;clear c6;replace H := Option.bind_eq_some_iff.mp H;obtain ⟨ac, RT, H⟩ := H;try dsimp only at H
       have A7 := z_ RT;clear RT
       by_cases c8 : ac = true
       ·subst c8;rw [if_pos rfl] at H;have H' := z_ H;clear H;try go_wp2
        have O1 := z_ (qa1 HB.o);clear HB;have HB := O1;clear O1;have tL : 0 ≤ (o0 : Int) := zod_;have dN : o0 < (l0.length : Int) := zod_;obtain ⟨B8, SF, KF, TF, sG, ZF, FG, Sc, b8, j8, l8, k8, QD, zD, rD, tD, SC, rC⟩ := qdq Z1.o o0 tL dN;have LC := k8;have DD := l8;have RC := j8;have gD := b8
        cases Sc
        replace b8 := zmove_ HB rfl b8;replace j8 := zmove_ HB rfl j8;replace l8 := zmove_ HB rfl l8;replace k8 := zmove_ HB rfl k8;have UC := z_ zD;have eI := z_ QD;clear zD QD;have iC := z_ tD;have QH := z_ rD;clear tD rD;have TD := z_ rC;have PH := z_ SC;clear rC SC;replace tL := eq_true tL;replace dN := eq_true dN;have SL : 0 ≤ (o0 : Int) := zod_;have fN : o0 < (l1.length : Int) := zod_;obtain ⟨N8, NF, dG, pG, AG, EF, OF, jd, f8, a8, m8, Z7, iD, XD, eD, PC, AC, OD⟩ := qdq HR1.o o0 SL fN;have fC := Z7;have wD := m8;have DC := a8;have QC := f8
        cases jd
        replace f8 := zmove_ HB rfl f8;replace a8 := zmove_ HB rfl a8;replace m8 := zmove_ HB rfl m8;replace Z7 := zmove_ HB rfl Z7;have GC := z_ XD;have CI := z_ iD;clear XD iD;have sD := z_ PC;have sI := z_ eD;clear PC eD;have BC := z_ OD;have vI := z_ AC;clear OD AC;replace SL := eq_true SL;replace fN := eq_true fN;refine qdv (n := 10) (S := fun w' => w'.cell? (B8.add ((o0).toNat * 4)) = some (.bool ((qaC l0 o0).f0)) ∧ w'.cell? ⟨(B8.add ((o0).toNat * 4)).block, (B8.add ((o0).toNat * 4)).off + 1, none⟩ = some (.slice SF ((qaC l0 o0).f1).length KF) ∧ w'.cell? ⟨(B8.add ((o0).toNat * 4)).block, (B8.add ((o0).toNat * 4)).off + 2, none⟩ = some (.slice TF ((qaC l0 o0).f2).length sG) ∧ w'.cell? ⟨(B8.add ((o0).toNat * 4)).block, (B8.add ((o0).toNat * 4)).off + 3, none⟩ = some (.slice ZF ((qaC l0 o0).f3).length FG) ∧ w'.cell? (N8.add ((o0).toNat * 4)) = some (.bool ((qaC l1 o0).f0)) ∧ w'.cell? ⟨(N8.add ((o0).toNat * 4)).block, (N8.add ((o0).toNat * 4)).off + 1, none⟩ = some (.slice NF ((qaC l1 o0).f1).length dG) ∧ w'.cell? ⟨(N8.add ((o0).toNat * 4)).block, (N8.add ((o0).toNat * 4)).off + 2, none⟩ = some (.slice pG ((qaC l1 o0).f2).length AG) ∧ w'.cell? ⟨(N8.add ((o0).toNat * 4)).block, (N8.add ((o0).toNat * 4)).off + 3, none⟩ = some (.slice EF ((qaC l1 o0).f3).length OF)) (ds := []) zArrF10 zdG rfl rfl ⟨(zcm_ HB.o gD), (zcm_ HB.o RC), (zcm_ HB.o DD), (zcm_ HB.o LC), (zcm_ HB.o QC), (zcm_ HB.o DC), (zcm_ HB.o wD), (zcm_ HB.o fC)⟩ (fun hHeld => ?_); refine qbU qaM.tab6 qaM.bits6 (fun E2 r8 => ?_);generalize wr.drew = w9 at HB UC iC TD GC sD BC b8 j8 l8 k8 f8 a8 m8 Z7 hHeld ⊢;refine qce (i := 0) (N := some 17) (v := _) (a' := _) #[true, false, false, false, false, false, false, false, false, false] rfl rfl (qbI E2.o zdG) (fun _ _ _ h => h) (Or.inl ⟨zdO, zct⟩) zaF ?_;refine qce (i := 1) (N := some 18) (v := _) (a' := _) #[true, true, false, false, false, false, false, false, false, false] rfl rfl (qbI E2.o zdG) (fun _ _ _ h => h) (Or.inl ⟨zdO, zct⟩) zaF ?_;refine qce (i := 2) (N := some 19) (v := _) (a' := _) #[true, true, true, false, false, false, false, false, false, false] rfl rfl (qbI E2.o zdG) (fun _ _ _ h => h) (Or.inl ⟨zdO, zct⟩) zaF ?_;refine qce (i := 4) (N := some 21) (v := _) (a' := _) #[true, true, true, false, true, false, false, false, false, false] rfl rfl (qbI E2.o zdG) (fun _ _ _ h => h) (Or.inl ⟨zdO, zct⟩) zaF ?_;refine qce (i := 5) (N := some 22) (v := _) (a' := _) #[true, true, true, false, true, true, false, false, false, false] rfl rfl (qbI E2.o zdG) (fun _ _ _ h => h) (Or.inl ⟨zdO, zct⟩) zaF ?_;refine qce (i := 6) (N := some 23) (v := _) (a' := _) #[true, true, true, false, true, true, true, false, false, false] rfl rfl (qbI E2.o zdG) (fun _ _ _ h => h) (Or.inl ⟨zdO, zct⟩) zaF ?_;refine qfc (i := 3) (N := some 20) (v := _) (a' := _) #[true, true, true, true, true, true, true, false, false, false] rfl rfl (qcI E2.o r8.o zdG) (fun _ _ _ h => h) (Or.inl ⟨zdO, zaT⟩) hHeld zaF ?_;refine qfc (i := 7) (N := some 24) (v := _) (a' := _) #[true, true, true, true, true, true, true, true, false, false] rfl rfl (qcI E2.o r8.o zdG) (fun _ _ _ h => h) (Or.inl ⟨zdO, zaT⟩) hHeld zaF ?_
        refine one_ (i := 8) (N := some 25) #[true, true, true, true, true, true, true, true, true, false] rfl rfl (qdO E2.o zdG) zdK (fun K hK => ?_);refine qfE Tryz.func55 zdG rfl #[.agg #[.bool ((qaC l0 o0).f0), .slice SF ((qaC l0 o0).f1).length KF, .slice TF ((qaC l0 o0).f2).length sG, .slice ZF ((qaC l0 o0).f3).length FG], .agg #[.bool ((qaC l1 o0).f0), .slice NF ((qaC l1 o0).f1).length dG, .slice pG ((qaC l1 o0).f2).length AG, .slice EF ((qaC l1 o0).f3).length OF]] zdO rfl rfl zaq ?_
        with_reducible refine (qcb.calls k1 ((qaC l0 o0).f0) _ _ ((qaC l0 o0).f1) _ _ ((qaC l0 o0).f2) _ _ ((qaC l0 o0).f3) ((qaC l1 o0).f0) _ _ ((qaC l1 o0).f1) _ _ ((qaC l1 o0).f2) _ _ ((qaC l1 o0).f3) true _ ?side1 ?side2 ?side3 ?side4 ?side5 ?side6 ?side7 ?side8 ?side9 ?side10 ?side11 ?side12 A7.o).mono ?_
        (case side1 => exact zae (Kd.qar UC.o HB.o))
        (case side2 => exact eI.o)
        (case side3 => exact zae (Kd.qar iC.o HB.o))
        (case side4 => exact QH.o)
        (case side5 => exact zae (Kd.qar TD.o HB.o))
        (case side6 => exact PH.o)
        (case side7 => exact zae (Kd.qar GC.o HB.o))
        (case side8 => exact CI.o)
        (case side9 => exact zae (Kd.qar sD.o HB.o))
        (case side10 => exact sI.o)
        (case side11 => exact zae (Kd.qar BC.o HB.o))
        (case side12 => exact vI.o)
        rintro e U8 ⟨rfl, hb⟩;refine ⟨_, rfl, ?_⟩;have O1 := z_ (qaa zar hb);clear HB;have HB := O1;clear O1
        (try clear hb)
        (try clear hb2)
        (try clear hk)
        (try clear hi)
        refine hK.o _ _ ⟨(zcm_ HB.o gD), (zcm_ HB.o RC), (zcm_ HB.o DD), (zcm_ HB.o LC), (zcm_ HB.o QC), (zcm_ HB.o DC), (zcm_ HB.o wD), (zcm_ HB.o fC)⟩ (fun hHeld => ?_);clear hK K;refine qfD (a' := ?_) ?_ ?_;rotate_left
        ·show Act.put _ (some 25) _ = _
         simp only [Act.put, List.setIfInBounds_toArray, List.set_cons_zero, List.set_cons_succ, qef, qeP];rfl
        refine qce (i := 9) (N := some 26) (v := _) (a' := _) zArrT10 rfl rfl (qbI E2.o zdG) (fun _ _ _ h => h) (Or.inl ⟨zdO, zct⟩) zaF ?_;refine qiV (qeQ E2.o zdG) ?_;try go_wp2
        go_roundg k1
        case measure => have := I5.o; omega
        case rel => exact ⟨(wrap64 (o0 + 1)), zcc, H', ⟨zcY⟩, ⟨zar⟩⟩
       ·replace c8 := Bool.eq_false_iff.mpr c8;subst c8;rw [if_neg zft_] at H;obtain rfl := Option.some.inj H;try go_wp2
        have O1 := z_ (qa1 HB.o);clear HB;have HB := O1;clear O1;have tL : 0 ≤ (o0 : Int) := zod_;have dN : o0 < (l0.length : Int) := zod_;obtain ⟨B8, SF, KF, TF, sG, ZF, FG, Sc, b8, j8, l8, k8, QD, zD, rD, tD, SC, rC⟩ := qdq Z1.o o0 tL dN;have LC := k8;have DD := l8;have RC := j8;have gD := b8
        cases Sc
        replace b8 := zmove_ HB rfl b8;replace j8 := zmove_ HB rfl j8;replace l8 := zmove_ HB rfl l8;replace k8 := zmove_ HB rfl k8;have UC := z_ zD;have eI := z_ QD;clear zD QD;have iC := z_ tD;have QH := z_ rD;clear tD rD;have TD := z_ rC;have PH := z_ SC;clear rC SC;replace tL := eq_true tL;replace dN := eq_true dN;have SL : 0 ≤ (o0 : Int) := zod_;have fN : o0 < (l1.length : Int) := zod_;obtain ⟨N8, NF, dG, pG, AG, EF, OF, jd, f8, a8, m8, Z7, iD, XD, eD, PC, AC, OD⟩ := qdq HR1.o o0 SL fN;have fC := Z7;have wD := m8;have DC := a8;have QC := f8
        cases jd
        replace f8 := zmove_ HB rfl f8;replace a8 := zmove_ HB rfl a8;replace m8 := zmove_ HB rfl m8;replace Z7 := zmove_ HB rfl Z7;have GC := z_ XD;have CI := z_ iD;clear XD iD;have sD := z_ PC;have sI := z_ eD;clear PC eD;have BC := z_ OD;have vI := z_ AC;clear OD AC;replace SL := eq_true SL;replace fN := eq_true fN;refine qdv (n := 10) (S := fun w' => w'.cell? (B8.add ((o0).toNat * 4)) = some (.bool ((qaC l0 o0).f0)) ∧ w'.cell? ⟨(B8.add ((o0).toNat * 4)).block, (B8.add ((o0).toNat * 4)).off + 1, none⟩ = some (.slice SF ((qaC l0 o0).f1).length KF) ∧ w'.cell? ⟨(B8.add ((o0).toNat * 4)).block, (B8.add ((o0).toNat * 4)).off + 2, none⟩ = some (.slice TF ((qaC l0 o0).f2).length sG) ∧ w'.cell? ⟨(B8.add ((o0).toNat * 4)).block, (B8.add ((o0).toNat * 4)).off + 3, none⟩ = some (.slice ZF ((qaC l0 o0).f3).length FG) ∧ w'.cell? (N8.add ((o0).toNat * 4)) = some (.bool ((qaC l1 o0).f0)) ∧ w'.cell? ⟨(N8.add ((o0).toNat * 4)).block, (N8.add ((o0).toNat * 4)).off + 1, none⟩ = some (.slice NF ((qaC l1 o0).f1).length dG) ∧ w'.cell? ⟨(N8.add ((o0).toNat * 4)).block, (N8.add ((o0).toNat * 4)).off + 2, none⟩ = some (.slice pG ((qaC l1 o0).f2).length AG) ∧ w'.cell? ⟨(N8.add ((o0).toNat * 4)).block, (N8.add ((o0).toNat * 4)).off + 3, none⟩ = some (.slice EF ((qaC l1 o0).f3).length OF)) (ds := []) zArrF10 zdG rfl rfl ⟨(zcm_ HB.o gD), (zcm_ HB.o RC), (zcm_ HB.o DD), (zcm_ HB.o LC), (zcm_ HB.o QC), (zcm_ HB.o DC), (zcm_ HB.o wD), (zcm_ HB.o fC)⟩ (fun hHeld => ?_); refine qbU qaM.tab6 qaM.bits6 (fun E2 r8 => ?_);generalize wr.drew = s9 at HB UC iC TD GC sD BC b8 j8 l8 k8 f8 a8 m8 Z7 hHeld ⊢;refine qce (i := 0) (N := some 17) (v := _) (a' := _) #[true, false, false, false, false, false, false, false, false, false] rfl rfl (qbI E2.o zdG) (fun _ _ _ h => h) (Or.inl ⟨zdO, zct⟩) zaF ?_;refine qce (i := 1) (N := some 18) (v := _) (a' := _) #[true, true, false, false, false, false, false, false, false, false] rfl rfl (qbI E2.o zdG) (fun _ _ _ h => h) (Or.inl ⟨zdO, zct⟩) zaF ?_;refine qce (i := 2) (N := some 19) (v := _) (a' := _) #[true, true, true, false, false, false, false, false, false, false] rfl rfl (qbI E2.o zdG) (fun _ _ _ h => h) (Or.inl ⟨zdO, zct⟩) zaF ?_;refine qce (i := 4) (N := some 21) (v := _) (a' := _) #[true, true, true, false, true, false, false, false, false, false] rfl rfl (qbI E2.o zdG) (fun _ _ _ h => h) (Or.inl ⟨zdO, zct⟩) zaF ?_;refine qce (i := 5) (N := some 22) (v := _) (a' := _) #[true, true, true, false, true, true, false, false, false, false] rfl rfl (qbI E2.o zdG) (fun _ _ _ h => h) (Or.inl ⟨zdO, zct⟩) zaF ?_;refine qce (i := 6) (N := some 23) (v := _) (a' := _) #[true, true, true, false, true, true, true, false, false, false] rfl rfl (qbI E2.o zdG) (fun _ _ _ h => h) (Or.inl ⟨zdO, zct⟩) zaF ?_;refine qfc (i := 3) (N := some 20) (v := _) (a' := _) #[true, true, true, true, true, true, true, false, false, false] rfl rfl (qcI E2.o r8.o zdG) (fun _ _ _ h => h) (Or.inl ⟨zdO, zaT⟩) hHeld zaF ?_;refine qfc (i := 7) (N := some 24) (v := _) (a' := _) #[true, true, true, true, true, true, true, true, false, false] rfl rfl (qcI E2.o r8.o zdG) (fun _ _ _ h => h) (Or.inl ⟨zdO, zaT⟩) hHeld zaF ?_
        refine one_ (i := 8) (N := some 25) #[true, true, true, true, true, true, true, true, true, false] rfl rfl (qdO E2.o zdG) zdK (fun K hK => ?_);refine qfE Tryz.func55 zdG rfl #[.agg #[.bool ((qaC l0 o0).f0), .slice SF ((qaC l0 o0).f1).length KF, .slice TF ((qaC l0 o0).f2).length sG, .slice ZF ((qaC l0 o0).f3).length FG], .agg #[.bool ((qaC l1 o0).f0), .slice NF ((qaC l1 o0).f1).length dG, .slice pG ((qaC l1 o0).f2).length AG, .slice EF ((qaC l1 o0).f3).length OF]] zdO rfl rfl zaq ?_
        with_reducible refine (qcb.calls k1 ((qaC l0 o0).f0) _ _ ((qaC l0 o0).f1) _ _ ((qaC l0 o0).f2) _ _ ((qaC l0 o0).f3) ((qaC l1 o0).f0) _ _ ((qaC l1 o0).f1) _ _ ((qaC l1 o0).f2) _ _ ((qaC l1 o0).f3) false _ ?side1 ?side2 ?side3 ?side4 ?side5 ?side6 ?side7 ?side8 ?side9 ?side10 ?side11 ?side12 A7.o).mono ?_
        (case side1 => exact zae (Kd.qar UC.o HB.o))
        (case side2 => exact eI.o)
        (case side3 => exact zae (Kd.qar iC.o HB.o))
        (case side4 => exact QH.o)
        (case side5 => exact zae (Kd.qar TD.o HB.o))
        (case side6 => exact PH.o)
        (case side7 => exact zae (Kd.qar GC.o HB.o))
        (case side8 => exact CI.o)
        (case side9 => exact zae (Kd.qar sD.o HB.o))
        (case side10 => exact sI.o)
        (case side11 => exact zae (Kd.qar BC.o HB.o))
        (case side12 => exact vI.o)
        rintro e JB ⟨rfl, hb⟩;refine ⟨_, rfl, ?_⟩;have O1 := z_ (qaa zar hb);clear HB;have HB := O1;clear O1
        (try clear hb)
        (try clear hb2)
        (try clear hk)
        (try clear hi)
        refine hK.o _ _ ⟨(zcm_ HB.o gD), (zcm_ HB.o RC), (zcm_ HB.o DD), (zcm_ HB.o LC), (zcm_ HB.o QC), (zcm_ HB.o DC), (zcm_ HB.o wD), (zcm_ HB.o fC)⟩ (fun hHeld => ?_);clear hK K;refine qfD (a' := ?_) ?_ ?_;rotate_left
        ·show Act.put _ (some 25) _ = _
         simp only [Act.put, List.setIfInBounds_toArray, List.set_cons_zero, List.set_cons_succ, qef, qeP];rfl
        refine qce (i := 9) (N := some 26) (v := _) (a' := _) zArrT10 rfl rfl (qbI E2.o zdG) (fun _ _ _ h => h) (Or.inl ⟨zdO, zct⟩) zaF ?_;refine qiV (qeQ E2.o zdG) ?_;try go_wp2
        go_ret
        exact ⟨zaM, zar⟩
      ·rw [if_neg c6] at H;exact absurd H zdN
     ·rw [if_neg c5] at H;exact absurd H zdN
    ·rw [if_neg c4] at H;have G4 : decide (o0 < (l0.length : Int)) = false := decide_eq_false c4;clear c4;obtain rfl := Option.some.inj H
     go_wp2
     go_ret
     exact ⟨zaM, zar⟩
 ·rw [if_neg c3] at H;have Y1 : ((l0.length : Int) == (l1.length : Int)) = false := beq_eq_false_iff_ne.mpr c3;have r6 : ((l0.length : Int) != (l1.length : Int)) = true := bne_iff_ne.mpr c3;have QB : (l0.length == l1.length) = false := zbW;obtain rfl := Option.some.inj H
  go_enter Tryz.func27, Tryz.ntmps27
  go_wp2
  go_ret
  exact ⟨zaM, zar⟩
theorem qiF (rest : List S80) : ∀ (pre : List S80), (pre ++ rest).length ≤ 9223372036854775807 → (∀ y ∈ rest, len80 y) → Ev (fun k => qaM.l0 k (pre ++ rest) (pre ++ rest) ((pre.length : Nat) : Int)) true := by
 induction rest with
 | nil =>
  intro pre hl hs;refine Ev.succ ?_;simp only [qaM.l0];exact Ev.neg zdN (Ev.is rfl)
 | cons x rest ih =>
  intro pre hl hs;have hx : qaC (pre ++ x :: rest) ((pre.length : Nat) : Int) = x := by simp [qaC, List.getD_eq_getElem?_getD]
  have hlt : ((pre.length : Nat) : Int) < ((pre ++ x :: rest).length : Int) := zdF;have hwp : wrap64 (((pre.length : Nat) : Int) + 1) = (((pre ++ [x]).length : Nat) : Int) := zbn;have e1 : pre ++ x :: rest = (pre ++ [x]) ++ rest := zdN;have hi := ih (pre ++ [x]) zdo (fun y hy => hs y (List.mem_cons_of_mem _ hy));rw [← e1] at hi;refine Ev.succ ?_;simp only [qaM.l0, hx, hwp];exact Ev.pos hlt (Ev.pos zdM (Ev.pos hlt (Ev.bind (eq_Node x (hs x List.mem_cons_self)) (Ev.pos rfl hi))))
theorem eq_NodeS (l : List S80) (h : l.length ≤ 9223372036854775807 ∧ ∀ y ∈ l, len80 y) : Ev (fun k => qaM.f k l l) true := by
 unfold qaM.f;have hh := qiF l [] (by simpa using h.1) h.2;exact Ev.pos rfl (by simpa using hh)
def qcv.f (k : Nat) (u0 : List (S80)) (yA : List (S80)) : Option (Bool) := (qaM.f k u0 yA).bind fun GS => (if GS = true then (some true) else (some false))
theorem qcv.calls (k : Nat) (I0 : Option Addr) (H0 : Nat) (u0 : List (S80)) (UG : Option Addr) (eH : Nat) (yA : List (S80)) (r : Bool) (w : World) (Z0 : Kd.C k80 w I0 u0.length u0) (Q1 : u0.length ≤ H0) (AH : Kd.C k80 w UG yA.length yA) (uH : yA.length ≤ eH) (h : qcv.f k u0 yA = some r) :
  Calls Tryz.prog 10 #[.agg #[.slice I0 u0.length H0], .agg #[.slice UG yA.length eH]] w fun e w' => e = .returned (.bool r) ∧ Below w.heap.size w w' := by
 have qW := Tryz.underlying29;have U7 := z_ Z0;have L8 := z_ Q1;clear Z0 Q1;have gY := z_ AH;have BY := z_ uH;clear AH uH;have HB := z_ (Below.refl w.heap.size w);have H : ((qaM.f k u0 yA).bind fun GS => (if GS = true then (some true) else (some false))) = some r := h;clear h;replace H := Option.bind_eq_some_iff.mp H;obtain ⟨GS, GE, H⟩ := H;try dsimp only at H
 have A3 := z_ GE;clear GE
 by_cases c4 : GS = true
 ·subst c4;rw [if_pos rfl] at H;obtain rfl := Option.some.inj H
  go_enter Tryz.func10, Tryz.ntmps10
  go_wp2_with (first | ((with_reducible refine qaw (N := 2) rfl ?_); refine qaH zdO (N := 2) zdO (cs := #[.slice I0 u0.length H0]) (t := 29) zcm ?_; intro I7 hg w5 hbox hb; have G8 := z_ (hbox); have lf := z_ ((zao : w.heap.size ≤ I7)); have IE := z_ ((zao : w.heap.size ≤ I7)); replace HB := z_ (qaa zar hb); clear hb hbox hg) | ((with_reducible refine qaw (N := 3) rfl ?_); refine qaH zdO (N := 3) zdO (cs := #[.slice UG yA.length eH]) (t := 29) zcm ?_; intro N9 hg w6 hbox hb; have kD := z_ (hbox); have xf := z_ ((zch : w.heap.size ≤ N9)); have AJ := z_ ((zch : w.heap.size ≤ N9)); have sE := z_ ((zav : I7 ≠ N9)); have qE := z_ ((zaw : N9 ≠ I7)); replace G8 := z_ (qab (g := I7) (o := .cells #[.slice I0 u0.length H0] 29 (0, 0)) (zac G8.o) hb); replace HB := z_ (qaa (zab IE.o) hb); clear hb hbox hg; have mg := sE.o; have ki := qE.o; have dE : w6.cell? ⟨I7, 0, none⟩ = some (.slice I0 u0.length H0) := (qac G8.o 0).trans rfl; have ZD := qau G8.o 0; have SH : w6.cell? ⟨N9, 0, none⟩ = some (.slice UG yA.length eH) := (qac kD.o 0).trans rfl; have iJ := qau kD.o 0) | ((with_reducible refine qax (f := 27) rfl ?_); refine qbq (some 9) rfl rfl Tryz.func27 zdG rfl #[.slice I0 u0.length H0, .slice UG yA.length eH] rfl zaq ?_; (with_reducible refine (qaM.calls k _ _ u0 _ _ yA true _ ?side1 ?side2 ?side3 ?side4 A3.o).mono ?_); (case side1 => exact zae (Kd.qar U7.o HB.o)); (case side2 => exact L8.o); (case side3 => exact zae (Kd.qar gY.o HB.o)); (case side4 => exact BY.o); rintro e U8 ⟨rfl, hb⟩; refine ⟨_, rfl, ?_⟩; replace G8 := z_ (qab (g := I7) (o := .cells #[.slice I0 u0.length H0] 29 (0, 0)) (zac G8.o) hb); replace kD := z_ (qab (g := N9) (o := .cells #[.slice UG yA.length eH] 29 (0, 0)) (zac kD.o) hb); replace HB := z_ (qaa (zaf IE.o AJ.o) hb); (try clear hb)))
  go_ret
  exact ⟨zaM, zaf IE.o AJ.o⟩
 ·replace c4 := Bool.eq_false_iff.mpr c4;subst c4;rw [if_neg zft_] at H;obtain rfl := Option.some.inj H
  go_enter Tryz.func10, Tryz.ntmps10
  go_wp2_with (first | ((with_reducible refine qaw (N := 2) rfl ?_); refine qaH zdO (N := 2) zdO (cs := #[.slice I0 u0.length H0]) (t := 29) zcm ?_; intro I7 hg s9 hbox hb; have G8 := z_ (hbox); have lf := z_ ((zao : w.heap.size ≤ I7)); have IE := z_ ((zao : w.heap.size ≤ I7)); replace HB := z_ (qaa zar hb); clear hb hbox hg) | ((with_reducible refine qaw (N := 3) rfl ?_); refine qaH zdO (N := 3) zdO (cs := #[.slice UG yA.length eH]) (t := 29) zcm ?_; intro N9 hg JB hbox hb; have kD := z_ (hbox); have xf := z_ ((zch : w.heap.size ≤ N9)); have AJ := z_ ((zch : w.heap.size ≤ N9)); have sE := z_ ((zav : I7 ≠ N9)); have qE := z_ ((zaw : N9 ≠ I7)); replace G8 := z_ (qab (g := I7) (o := .cells #[.slice I0 u0.length H0] 29 (0, 0)) (zac G8.o) hb); replace HB := z_ (qaa (zab IE.o) hb); clear hb hbox hg; have yh := sE.o; have Kh := qE.o; have xI : JB.cell? ⟨I7, 0, none⟩ = some (.slice I0 u0.length H0) := (qac G8.o 0).trans rfl; have AI := qau G8.o 0; have gX : JB.cell? ⟨N9, 0, none⟩ = some (.slice UG yA.length eH) := (qac kD.o 0).trans rfl; have EW := qau kD.o 0) | ((with_reducible refine qax (f := 27) rfl ?_); refine qbq (some 9) rfl rfl Tryz.func27 zdG rfl #[.slice I0 u0.length H0, .slice UG yA.length eH] rfl zaq ?_; (with_reducible refine (qaM.calls k _ _ u0 _ _ yA false _ ?side1 ?side2 ?side3 ?side4 A3.o).mono ?_); (case side1 => exact zae (Kd.qar U7.o HB.o)); (case side2 => exact L8.o); (case side3 => exact zae (Kd.qar gY.o HB.o)); (case side4 => exact BY.o); rintro e w16 ⟨rfl, hb⟩; refine ⟨_, rfl, ?_⟩; replace G8 := z_ (qab (g := I7) (o := .cells #[.slice I0 u0.length H0] 29 (0, 0)) (zac G8.o) hb); replace kD := z_ (qab (g := N9) (o := .cells #[.slice UG yA.length eH] 29 (0, 0)) (zac kD.o) hb); replace HB := z_ (qaa (zaf IE.o AJ.o) hb); (try clear hb)))
  go_ret
  exact ⟨zaM, zaf IE.o AJ.o⟩
def len29 (x : S29) : Prop := (x.f0.length ≤ 9223372036854775807 ∧ ∀ y ∈ x.f0, len80 y)
theorem qma (x : S29) (h : len29 x) : Ev (fun k => qcv.f k (x.f0) (x.f0)) true := by
 unfold qcv.f;exact Ev.bind (eq_NodeS _ h) (Ev.pos rfl (Ev.is rfl))
def qaR.l0 : Nat → List Int → List Int → Int → Option (List Int)
 | 0, _, _, _ => none
 | k + 1, x0, x3, x4 => if x4 < (x0.length : Int) then (if 0 ≤ x4 then (if x4 < (x3.length : Int) then (qaR.l0 k x0 (x3.set (x4 : Int).toNat (rd x0 x4)) (wrap64 (x4 + 1))) else (none)) else (none)) else (some x3)
def qaR.f (k : Nat) (l0 : List Int) : Option (List Int) := if 0 ≤ (l0.length : Int) then (if ((l0.length : Int) : Int).toNat ≤ 35184372088832 then (qaR.l0 k l0 (List.replicate ((l0.length : Int) : Int).toNat 0) 0) else (none)) else (none)
theorem qaR.qbl : ∀ k, (∀ y0 y1 y2, LeO (qaR.l0 k y0 y1 y2) (qaR.l0 (k + 1) y0 y1 y2))
 | 0 => fun _ _ _ r h => by simp [qaR.l0] at h
 | k + 1 => by
  have Q9 := qaR.qbl k
  ·intro y0 y1 y2;unfold qaR.l0;exact zleo_
theorem qaR.mono : ∀ a0 k, LeO (qaR.f k a0) (qaR.f (k + 1) a0) := by
 intro a0 k;have Q9 := qaR.qbl k;unfold qaR.f;exact zleo_
theorem qaR.calls (k : Nat) (A0 : Option Addr) (c0 : Nat) (l0 : List Int) (r : List Int) (w : World) (hr0 : Kd.C (Kd.int .i64) w A0 l0.length l0) (hc0 : l0.length ≤ c0) (h : qaR.f k l0 = some r) :
  Calls Tryz.prog 8 #[.slice A0 l0.length c0] w fun e w' => ∃ B7 : Value, e = .returned (B7) ∧ Kd.R (Kd.int .i64) 3 w' w.heap.size (fun _ => True) B7 r ∧ Below w.heap.size w w' := by
 have Z1 := z_ hr0;have kB := z_ hc0;clear hr0 hc0;have HB := z_ (Below.refl w.heap.size w);have H : (if 0 ≤ (l0.length : Int) then (if ((l0.length : Int) : Int).toNat ≤ 35184372088832 then (qaR.l0 k l0 (List.replicate ((l0.length : Int) : Int).toNat 0) 0) else (none)) else (none)) = some r := h;clear h
 by_cases c2 : 0 ≤ (l0.length : Int)
 ·rw [if_pos c2] at H;have RA := eq_true c2;have VE : decide (0 ≤ (l0.length : Int)) = true := decide_eq_true c2;clear c2
  by_cases c3 : ((l0.length : Int) : Int).toNat ≤ 35184372088832
  ·rw [if_pos c3] at H;have Y1 := eq_true c3;have r6 : decide (((l0.length : Int) : Int).toNat ≤ 35184372088832) = true := decide_eq_true c3;clear c3;obtain ⟨Jf, NK⟩ : ∃ y_ : List Int, y_ = (List.replicate ((l0.length : Int) : Int).toNat 0) := ⟨_, rfl⟩
   replace H : (qaR.l0 k l0 Jf 0) = some r := by first | (rw [NK]; with_reducible exact H) | (have J1 := (Option.bind_some _ _).symm.trans H; rw [NK]; with_reducible exact J1) | (have J1 := (Option.bind_some _ _).symm.trans H; with_reducible exact J1) | with_reducible exact H | (rw [NK]; exact H) | exact H
   have IY := z_ NK;clear NK;have H' := z_ H;clear H
   go_enter Tryz.func8, Tryz.ntmps8
   go_wp2_with (first | ((with_reducible refine qaw (N := 7) rfl ?_); refine Kd.qgH (Kd.int .i64) _ 3 rfl (N := 7) rfl 25 _ _ rfl (l0.length : Int) rfl rfl Tryz.underlying25 (.int .i64 0) 8 info3 rfl zdK zdM 0 (ok := fun _ => True) (okp := fun _ => True) rfl (fun _ hk => hk) trivial (zod_) (Nat.le_trans (Nat.mul_le_mul_right _ (zod_ : (l0.length : Int).toNat ≤ 35184372088832)) zdM) (Below.refl _ _) (Nat.le_refl _) ?_; intro Ho w4 zB hb j3 K0; clear j3 K0; (first | rw [← IY.o] at zB | (simp only [Int.reduceToNat] at zB; rw [← IY.o] at zB)); have mi := z_ (Kd.qa3 zB (qaz zar)); replace HB := z_ (qaa zar hb); clear hb zB))
   go_loopg [4] k (fun kq v4 w' => ∃ (J0 : List Int) (F0 : Int), v4 = .int .i64 F0 ∧ Aside0 (qaR.l0 kq l0 J0 F0 = some r) ∧ Aside0 (kq ≤ k) ∧ Aside0 (Kd.R (Kd.int .i64) 3 w' w.heap.size (fun _ => True) Ho J0) ∧ Aside0 (Below w.heap.size w w'))
   case atStart => exact ⟨(Jf), (0), zcc, H', ⟨Nat.le_refl _⟩, ⟨by (with_reducible repeat (first | apply Kd.qbm | apply Kd.qbE | apply Kd.qbu)); exact mi.o⟩, ⟨zar⟩⟩
   case round =>
    clear H';try clear c2
    try clear RA
    try clear VE
    try clear c3
    try clear Y1
    try clear r6
    obtain ⟨J0, F0, rfl, HA, I5, X4, HB⟩ := hrel
    cases gk with
    | zero => exact absurd HA.o (by simp [qaR.l0])
    | succ k1 =>
     have H := HA.o;clear HA;simp only [qaR.l0] at H
     by_cases c6 : F0 < (l0.length : Int)
     ·rw [if_pos c6] at H;have u7 : decide (F0 < (l0.length : Int)) = true := decide_eq_true c6;clear c6
      by_cases c7 : 0 ≤ F0
      ·rw [if_pos c7] at H;have QA : decide (0 ≤ F0) = true := decide_eq_true c7;clear c7
       by_cases c8 : F0 < (J0.length : Int)
       ·rw [if_pos c8] at H;have FD : decide (F0 < (J0.length : Int)) = true := decide_eq_true c8;clear c8;obtain ⟨SZ, CK⟩ : ∃ y_ : List Int, y_ = (J0.set (F0 : Int).toNat (rd l0 F0)) := ⟨_, rfl⟩
        replace H : (qaR.l0 k1 l0 SZ (wrap64 (F0 + 1))) = some r := by first | (rw [CK]; with_reducible exact H) | (have J1 := (Option.bind_some _ _).symm.trans H; rw [CK]; with_reducible exact J1) | (have J1 := (Option.bind_some _ _).symm.trans H; with_reducible exact J1) | with_reducible exact H | (rw [CK]; exact H) | exact H
        have Zf := z_ CK;clear CK;have H' := z_ H;clear H;have La : 0 ≤ (F0 : Int) := zod_;have WY : F0 < (l0.length : Int) := zod_;obtain ⟨ad389, Yo, OP⟩ := Kd.qdu Z1.o F0 La WY
        cases Yo
        replace OP := zmove_ HB rfl OP;replace La := eq_true La;replace WY := eq_true WY;have p9 : 0 ≤ (F0 : Int) := zod_;have q9 : (F0 : Int) < ((J0.length : Int) : Int) := zod_;obtain ⟨DZ, UK, uR, Bg, Co, cl9, zg⟩ := Kd.qcS X4.o zdM
        (first | cases uR | (injection uR with O4 en_ ec_; (first | subst O4 | (injection O4 with O4; subst O4)); subst ec_; clear en_))
        have zn := z_ Bg;have GG9 := z_ zg;clear Bg Co zg;obtain ⟨bi, mh⟩ := Kd.qc9 0 X4.o (F0 : Int) p9 q9;replace p9 := eq_true p9;replace q9 := eq_true q9;have AL := Kd.qj9 X4.o (F0 : Int) (rd l0 F0)
        go_wp2_with (first | ((with_reducible refine qdB (t := 3) (p := 20) rfl ?_); refine qda (t := 3) (p := 20) (v := ?vo_w11) (w1 := (wr.setCell ⟨DZ, (F0 : Int).toNat, none⟩ (.int .i64 (rd l0 F0)))) ?hg ?ho ?hn ?hr ?_; (case ho => rfl); (case hg => rfl); (case hn => rfl); (case hr => first | (go_simp; done) | (go_simp; rfl)); intro s9 hw; have hg : wr.grownBy s9 (some DZ) := (by rw [hw]; exact AL.2); have xG : Kd.R (Kd.int .i64) 3 s9 w.heap.size (fun _ => True) (.slice (some ⟨DZ, 0, none⟩) J0.length UK) SZ := (by rw [hw, Zf.o]; exact AL.1); clear AL; replace X4 := z_ (xG); replace HB := z_ ((by rw [hw]; exact qcd (HB.o) zn.o : Below w.heap.size w s9)); clear hg hw xG))
        go_roundg k1
        case measure => have := I5.o; omega
        case rel => exact ⟨(SZ), (wrap64 (F0 + 1)), zcc, H', ⟨zcY⟩, ⟨zaH⟩, ⟨zar⟩⟩
       ·rw [if_neg c8] at H;exact absurd H zdN
      ·rw [if_neg c7] at H;exact absurd H zdN
     ·rw [if_neg c6] at H;have u7 : decide (F0 < (l0.length : Int)) = false := decide_eq_false c6;clear c6;obtain rfl := Option.some.inj H
      go_wp2
      go_ret
      exact ⟨_, zaM, zaH, zar⟩
  ·rw [if_neg c3] at H;exact absurd H zdN
 ·rw [if_neg c2] at H;exact absurd H zdN
theorem qjC (rest : List Int) : ∀ (pre : List Int), ((pre ++ rest).length : Int) ≤ 1048576 → (∀ y ∈ rest, True) →
  Ev (fun k => qaR.l0 k (pre ++ rest) (pre ++ List.replicate rest.length 0) ((pre.length : Nat) : Int)) ((pre ++ rest)) := by
 induction rest with
 | nil =>
  intro pre hl hs;refine Ev.succ ?_;simp only [qaR.l0];exact Ev.neg zdN (Ev.is zdN)
 | cons x rest ih =>
  intro pre hl hs;have hx : rd (pre ++ x :: rest) ((pre.length : Nat) : Int) = x := by simp [rd, List.getD_eq_getElem?_getD]
  have hlt : ((pre.length : Nat) : Int) < ((pre ++ x :: rest).length : Int) := zdF;have hw : wrap64 (((pre.length : Nat) : Int) + 1) = (((pre ++ [x]).length : Nat) : Int) := zck;have hset : ∀ v : Int, ((pre ++ List.replicate (x :: rest).length 0).set ((pre.length : Nat) : Int).toNat v) = (pre ++ [v]) ++ List.replicate rest.length 0 := fun v => zaW
  have hi := ih (pre ++ [x]) zdv (fun y hy => hs y (List.mem_cons_of_mem _ hy));refine Ev.succ ?_;simp only [qaR.l0, hx];refine Ev.pos hlt (Ev.pos zdM ?_);refine Ev.pos zdF ?_;simp only [hset, hw];have e1 : pre ++ x :: rest = (pre ++ [x]) ++ rest := zdN;rw [e1];exact hi
theorem qmb (l : List Int) (hs : (l.length : Int) ≤ 1048576) : Ev (fun k => qaR.f k l) (l) := by
 have hl : (l.length : Int) ≤ 1048576 := hs;unfold qaR.f;refine Ev.pos zdM (Ev.pos zdM ?_);have h := qjC l [] zdv (fun _ _ => trivial)
 simpa using h
def qee.f (B0 : ByteArray) (I2 : ByteArray) : Option (ByteArray × ByteArray) := some (B0, I2)
theorem qee.calls (B0 : ByteArray) (I2 : ByteArray) (r1 : ByteArray) (r2 : ByteArray) (w : World) (h : qee.f B0 I2 = some (r1, r2)) :
  Calls Tryz.prog 99 #[.agg #[.string B0, .string I2]] w fun e w' => e = .returned (.agg #[.string r1, .string r2]) ∧ Below w.heap.size w w' := by
 have QR := Tryz.underlying135;have SK := Tryz.underlying61;have HB := z_ (Below.refl w.heap.size w);have H : (some (B0, I2)) = some (r1, r2) := h;clear h;simp only [Option.some.injEq, Prod.mk.injEq] at H;obtain ⟨rfl, rfl⟩ := H
 go_enter Tryz.func99, Tryz.ntmps99
 go_wp2_with (first | ((with_reducible refine qaw (N := 1) rfl ?_); refine qaH zdO (N := 1) zdO (cs := #[.string B0, .string I2]) (t := 135) zcm ?_; intro xB hg w2 hbox hb; have JG := z_ (hbox); have GW391 := z_ ((zao : w.heap.size ≤ xB)); have qH := z_ ((zao : w.heap.size ≤ xB)); replace HB := z_ (qaa zar hb); clear hb hbox hg) | ((with_reducible refine qaw (N := 2) rfl ?_); refine qaH zdO (N := 2) zdO (cs := #[.string (⟨#[]⟩ : ByteArray), .string (⟨#[]⟩ : ByteArray)]) (t := 61) zcm ?_; intro yB hg w3 hbox hb; have xH := z_ (hbox); have GW392 := z_ ((by rw [hg]; exact (qaz (zab qH.o)) : w.heap.size ≤ yB)); have xS := z_ ((by rw [hg]; exact (qaz (zab qH.o)) : w.heap.size ≤ yB)); have ZQ := z_ ((zaz : xB ≠ yB)); have iR := z_ ((zaA : yB ≠ xB)); replace JG := z_ (qab (g := xB) (o := .cells #[.string B0, .string I2] 135 (0, 0)) (zac JG.o) hb); replace HB := z_ (qaa (zab qH.o) hb); clear hb hbox hg) | ((with_reducible refine qaw (N := 3) rfl ?_); refine qaH zdO (N := 3) zdO (cs := #[.string (⟨#[]⟩ : ByteArray), .string (⟨#[]⟩ : ByteArray)]) (t := 61) zcm ?_; intro tH hg w4 hbox hb; have Nd := z_ (hbox); have GW393 := z_ ((zbs : w.heap.size ≤ tH)); have ag := z_ ((zbs : w.heap.size ≤ tH)); have WQ := z_ ((zaz : xB ≠ tH)); have mR := z_ ((zaA : tH ≠ xB)); replace JG := z_ (qab (g := xB) (o := .cells #[.string B0, .string I2] 135 (0, 0)) (zac JG.o) hb); have pE := z_ ((by rw [hg]; exact Nat.ne_of_lt (qbo (g := yB) (o := .cells #[.string (⟨#[]⟩ : ByteArray), .string (⟨#[]⟩ : ByteArray)] 61 (0, 0)) (zac xH.o)) : yB ≠ tH)); have BQ := z_ ((by rw [hg]; exact Nat.ne_of_gt (qbo (g := yB) (o := .cells #[.string (⟨#[]⟩ : ByteArray), .string (⟨#[]⟩ : ByteArray)] 61 (0, 0)) (zac xH.o)) : tH ≠ yB)); replace xH := z_ (qab (g := yB) (o := .cells #[.string (⟨#[]⟩ : ByteArray), .string (⟨#[]⟩ : ByteArray)] 61 (0, 0)) (zac xH.o) hb); replace HB := z_ (qaa (zaf qH.o xS.o) hb); clear hb hbox hg; have hnb5 := ZQ.o; have hnc5 := iR.o; have Df := WQ.o; have qh := mR.o; obtain ⟨FM, pL, bN, ZL⟩ := zcells2 JG.o; have Xd := BQ.o; have Dg := pE.o; obtain ⟨SH, sb, iJ, Ma⟩ := zcells2 Nd.o; obtain ⟨X9, ID, fA, hD⟩ := zcells2 xH.o))
 refine bodyPost_ret (results_cell_row rfl _ _ yB 61 #[.string B0, .string I2] (0, 0) _ rfl (by (with_reducible repeat (first | apply qas | apply qaq | apply qam)); refine qaX (cs := #[.string B0, .string (⟨#[]⟩ : ByteArray)]) ?_ 1 _ rfl; (with_reducible repeat (first | apply qas | apply qaq | apply qam)); refine qaX (cs := #[.string (⟨#[]⟩ : ByteArray), .string (⟨#[]⟩ : ByteArray)]) ?_ 0 _ rfl; (with_reducible repeat (first | apply qas | apply qaq | apply qam)); refine qbD ?_ pE.o _; (with_reducible repeat (first | apply qas | apply qaq | apply qam)); refine qbD ?_ pE.o _; (with_reducible repeat (first | apply qas | apply qaq | apply qam)); exact xH.o) Tryz.underlying61 rfl zdG) rfl ?_;exact ⟨zaM, zah qH.o xS.o ag.o⟩
def cv135 (x : S135) : S61 := ⟨x.f0, x.f1⟩
def sm135 (B : Int) (x : S135) : Prop := (x.f0.size : Int) ≤ B ∧ (x.f1.size : Int) ≤ B
def wl135 (x : S135) : Prop := x.f0.size ≤ maxLen ∧ x.f1.size ≤ maxLen
theorem to_Pair (x : S135) : qee.f (x.f0) (x.f1) = some (x.f0, x.f1) := rfl
def qaV.l0 : Nat → List (S135) → List (S61) → Int → Option ((List (S61)))
 | 0, _, _, _ => none
 | k + 1, x0, x3, x4 => if x4 < (x0.length : Int) then (if 0 ≤ x4 then ((qee.f ((qcl x0 x4).f0) ((qcl x0 x4).f1)).bind fun QX => (if x4 < (x3.length : Int) then (qaV.l0 k x0 (x3.set (x4 : Int).toNat (⟨QX.1, QX.2⟩ : S61)) (wrap64 (x4 + 1))) else (none))) else (none)) else (some x3)
def qaV.f (k : Nat) (l0 : List (S135)) : Option ((List (S61))) := if 0 ≤ (l0.length : Int) then (if ((l0.length : Int) : Int).toNat ≤ 8796093022208 then (qaV.l0 k l0 (List.replicate ((l0.length : Int) : Int).toNat z61) 0) else (none)) else (none)
theorem qaV.qbl : ∀ k, (∀ y0 y1 y2, LeO (qaV.l0 k y0 y1 y2) (qaV.l0 (k + 1) y0 y1 y2))
 | 0 => fun _ _ _ r h => by simp [qaV.l0] at h
 | k + 1 => by
  have Q9 := qaV.qbl k
  ·intro y0 y1 y2;unfold qaV.l0;exact zleo_
theorem qaV.mono : ∀ a0 k, LeO (qaV.f k a0) (qaV.f (k + 1) a0) := by
 intro a0 k;have Q9 := qaV.qbl k;unfold qaV.f;exact zleo_
theorem qaV.calls (k : Nat) (A0 : Option Addr) (c0 : Nat) (l0 : List (S135)) (r : List (S61)) (w : World) (hr0 : Kd.C k135 w A0 l0.length l0) (hc0 : l0.length ≤ c0) (h : qaV.f k l0 = some r) :
  Calls Tryz.prog 75 #[.slice A0 l0.length c0] w fun e w' => ∃ B7 : Value, e = .returned (B7) ∧ Kd.R k61 61 w' w.heap.size (fun _ => True) B7 r ∧ Below w.heap.size w w' := by
 have QR := Tryz.underlying135;have SK := Tryz.underlying61;have Z1 := z_ hr0;have kB := z_ hc0;clear hr0 hc0;have HB := z_ (Below.refl w.heap.size w);have H : (if 0 ≤ (l0.length : Int) then (if ((l0.length : Int) : Int).toNat ≤ 8796093022208 then (qaV.l0 k l0 (List.replicate ((l0.length : Int) : Int).toNat z61) 0) else (none)) else (none)) = some r := h;clear h
 by_cases c2 : 0 ≤ (l0.length : Int)
 ·rw [if_pos c2] at H;have RA := eq_true c2;have VE : decide (0 ≤ (l0.length : Int)) = true := decide_eq_true c2;clear c2
  by_cases c3 : ((l0.length : Int) : Int).toNat ≤ 8796093022208
  ·rw [if_pos c3] at H;have Y1 := eq_true c3;have r6 : decide (((l0.length : Int) : Int).toNat ≤ 8796093022208) = true := decide_eq_true c3;clear c3;obtain ⟨sg, uK⟩ : ∃ y_ : List (S61), y_ = (List.replicate ((l0.length : Int) : Int).toNat z61) := ⟨_, rfl⟩
   replace H : (qaV.l0 k l0 sg 0) = some r := by first | (rw [uK]; with_reducible exact H) | (have J1 := (Option.bind_some _ _).symm.trans H; rw [uK]; with_reducible exact J1) | (have J1 := (Option.bind_some _ _).symm.trans H; with_reducible exact J1) | with_reducible exact H | (rw [uK]; exact H) | exact H
   have yX := z_ uK;clear uK;have H' := z_ H;clear H
   go_enter Tryz.func75, Tryz.ntmps75
   go_wp2_with (first | ((with_reducible refine qaw (N := 7) rfl ?_); refine Kd.qgH k61 _ 61 rfl (N := 7) rfl 45 _ _ rfl (l0.length : Int) rfl rfl Tryz.underlying45 (.agg #[(.string ⟨#[]⟩), (.string ⟨#[]⟩)]) 32 qgh rfl zdK zdM z61 (ok := fun _ => True) (okp := fun _ => True) (qf5 _ _ _ z61 ) (fun _ hk => hk) trivial (zod_) (Nat.le_trans (Nat.mul_le_mul_right _ (zod_ : (l0.length : Int).toNat ≤ 8796093022208)) zdM) (Below.refl _ _) (Nat.le_refl _) ?_; intro On w4 zB hb j3 K0; clear j3 K0; (first | rw [← yX.o] at zB | (simp only [Int.reduceToNat] at zB; rw [← yX.o] at zB)); have Qe := z_ (Kd.qa3 zB (qaz zar)); replace HB := z_ (qaa zar hb); clear hb zB))
   go_loopg [4] k (fun kq v4 w' => ∃ (J0 : List (S61)) (F0 : Int), v4 = .int .i64 F0 ∧ Aside0 (qaV.l0 kq l0 J0 F0 = some r) ∧ Aside0 (kq ≤ k) ∧ Aside0 (Kd.R k61 61 w' w.heap.size (fun _ => True) On J0) ∧ Aside0 (Below w.heap.size w w'))
   case atStart => exact ⟨(sg), (0), zcc, H', ⟨Nat.le_refl _⟩, ⟨by (with_reducible repeat (first | apply Kd.qbm | apply Kd.qbE | apply Kd.qbu)); exact Qe.o⟩, ⟨zar⟩⟩
   case round =>
    clear H';try clear c2
    try clear RA
    try clear VE
    try clear c3
    try clear Y1
    try clear r6
    obtain ⟨J0, F0, rfl, HA, I5, X4, HB⟩ := hrel
    cases gk with
    | zero => exact absurd HA.o (by simp [qaV.l0])
    | succ k1 =>
     have H := HA.o;clear HA;simp only [qaV.l0] at H
     by_cases c6 : F0 < (l0.length : Int)
     ·rw [if_pos c6] at H;have u7 : decide (F0 < (l0.length : Int)) = true := decide_eq_true c6;clear c6
      by_cases c7 : 0 ≤ F0
      ·rw [if_pos c7] at H;have QA : decide (0 ≤ F0) = true := decide_eq_true c7;clear c7;replace H := Option.bind_eq_some_iff.mp H;obtain ⟨⟨lR, PQ⟩, SX, H⟩ := H;try dsimp only at H
       have A8 := z_ SX;clear SX
       by_cases c9 : F0 < (J0.length : Int)
       ·rw [if_pos c9] at H;have OJ : decide (F0 < (J0.length : Int)) = true := decide_eq_true c9;clear c9;obtain ⟨qa, wK⟩ : ∃ y_ : List (S61), y_ = (J0.set (F0 : Int).toNat (⟨lR, PQ⟩ : S61)) := ⟨_, rfl⟩
        replace H : (qaV.l0 k1 l0 qa (wrap64 (F0 + 1))) = some r := by first | (rw [wK]; with_reducible exact H) | (have J1 := (Option.bind_some _ _).symm.trans H; rw [wK]; with_reducible exact J1) | (have J1 := (Option.bind_some _ _).symm.trans H; with_reducible exact J1) | with_reducible exact H | (rw [wK]; exact H) | exact H
        have pi := z_ wK;clear wK;have H' := z_ H;clear H;have ib : 0 ≤ (F0 : Int) := zod_;have Sb : F0 < (l0.length : Int) := zod_;obtain ⟨ad397, Lo, dQ, tP⟩ := qjL Z1.o F0 ib Sb
        cases Lo
        replace dQ := zmove_ HB rfl dQ;replace tP := zmove_ HB rfl tP;replace ib := eq_true ib;replace Sb := eq_true Sb
        go_wp2_with (first | ((with_reducible refine qax (f := 99) rfl ?_); refine qbq (some 20) rfl rfl Tryz.func99 zdG rfl #[.agg #[.string ((qcl l0 F0).f0), .string ((qcl l0 F0).f1)]] rfl zaq ?_; (with_reducible refine (qee.calls ((qcl l0 F0).f0) ((qcl l0 F0).f1) lR PQ _ A8.o).mono ?_); rintro e s9 ⟨rfl, hb⟩; refine ⟨_, rfl, ?_⟩; replace X4 := z_ (Kd.qa7 (zad X4.o) hb); replace HB := z_ (qaa zar hb); (try clear hb); have wY : 0 ≤ (F0 : Int) := zod_; have xc : (F0 : Int) < ((J0.length : Int) : Int) := zod_; obtain ⟨f6, PB, jJ, MR, sd, ro, YS⟩ := Kd.qcS X4.o zdM; (first | cases jJ | (injection jJ with O4 en_ ec_; (first | subst O4 | (injection O4 with O4; subst O4)); subst ec_; clear en_)); have DM := z_ MR; have Xo := z_ YS; clear MR sd YS; obtain ⟨Vl, IR, JT, xC, mC⟩ := Kd.qfB X4.o z61 (F0 : Int) wY xc; obtain rfl := qes JT; have mc : s9.cell? ⟨f6, (F0 : Int).toNat * 2, none⟩ = some (.string ((qan J0 F0).f0)) := xC 0 _ rfl; have Xa : s9.cell? ⟨f6, (F0 : Int).toNat * 2 + 1, none⟩ = some (.string ((qan J0 F0).f1)) := xC 1 _ rfl; have Na : s9.frozen? ⟨f6, (F0 : Int).toNat * 2, none⟩ = false := mC 0; have EZ : s9.frozen? ⟨f6, (F0 : Int).toNat * 2 + 1, none⟩ = false := mC 1; clear IR xC mC JT; replace wY := eq_true wY; replace xc := eq_true xc; have qQ := z_ (show Kd.R k61 61 s9 w.heap.size (fun _ => True) (.slice (some ⟨f6, 0, none⟩) J0.length PB) J0 from (zad X4.o)); obtain ⟨Tl, JO, nS, sB, dD⟩ := Kd.qfB qQ.o z61 (F0 : Int) (zod_) (by have h_ : (F0 : Int) < ((J0.length : Int) : Int) := zod_; first | exact h_ | (have e_ := (Kd.qbb X4.o).1; omega) | simpa using h_); obtain rfl := qes nS; have AM := Kd.R_seg qQ.o (F0 : Int) (zod_) (by have h_ : (F0 : Int) < ((J0.length : Int) : Int) := zod_; first | exact h_ | (have e_ := (Kd.qbb X4.o).1; omega) | simpa using h_) (seg := [.string lR, .string PQ]) (j := 0) JO sB (show 2 ≤ 2 from zdK) (x' := (⟨lR, PQ⟩ : S61)) (qf5 _ _ _ (⟨lR, PQ⟩ : S61) ) (fun _ hk => hk); have QL := sB 0 _ rfl; (try simp only [show (k61).sz = 2 from rfl, Nat.mul_one, Nat.add_zero] at QL); have cL := dD 0; (try simp only [show (k61).sz = 2 from rfl, Nat.mul_one, Nat.add_zero] at cL); have UM := sB 1 _ rfl; (try simp only [show (k61).sz = 2 from rfl, Nat.mul_one, Nat.add_zero] at UM); have KM := dD 1; (try simp only [show (k61).sz = 2 from rfl, Nat.mul_one, Nat.add_zero] at KM); clear JO sB dD nS) | ((with_reducible refine qdB (t := 61) (p := 21) rfl ?_); refine qda (t := 61) (p := 21) (v := ?vo_w13) (w1 := ((s9.setCell ⟨f6, (F0 : Int).toNat * 2, none⟩ (.string lR)).setCell ⟨f6, (F0 : Int).toNat * 2 + 1, none⟩ (.string PQ))) ?hg ?ho ?hn ?hr ?_; (case ho => rfl); (case hg => rfl); (case hn => rfl); (case hr => first | (go_simp; done) | (go_simp; rfl)); intro NE hw; have hg : s9.grownBy NE (some f6) := (by rw [hw]; exact AM.2); have xG : Kd.R k61 61 NE w.heap.size (fun _ => True) (.slice (some ⟨f6, 0, none⟩) J0.length PB) qa := (by rw [hw, pi.o]; exact AM.1); clear AM; replace X4 := z_ (xG); replace HB := z_ ((by rw [hw]; exact qcd (qcd (HB.o) DM.o) DM.o : Below w.heap.size w NE)); clear hg hw xG))
        go_roundg k1
        case measure => have := I5.o; omega
        case rel => exact ⟨(qa), (wrap64 (F0 + 1)), zcc, H', ⟨zcY⟩, ⟨zaH⟩, ⟨zar⟩⟩
       ·rw [if_neg c9] at H;exact absurd H zdN
      ·rw [if_neg c7] at H;exact absurd H zdN
     ·rw [if_neg c6] at H;have u7 : decide (F0 < (l0.length : Int)) = false := decide_eq_false c6;clear c6;obtain rfl := Option.some.inj H
      go_wp2
      go_ret
      exact ⟨_, zaM, zaH, zar⟩
  ·rw [if_neg c3] at H;exact absurd H zdN
 ·rw [if_neg c2] at H;exact absurd H zdN
theorem qiG (rest : List S135) : ∀ (pre : List S135), ((pre ++ rest).length : Int) ≤ 1048576 → (∀ y ∈ rest, sm135 1048576 y) →
  Ev (fun k => qaV.l0 k (pre ++ rest) (pre.map cv135 ++ List.replicate rest.length z61) ((pre.length : Nat) : Int)) ((pre ++ rest).map cv135) := by
 induction rest with
 | nil =>
  intro pre hl hs;refine Ev.succ ?_;simp only [qaV.l0];exact Ev.neg zdN (Ev.is zdN)
 | cons x rest ih =>
  intro pre hl hs;have hx : qcl (pre ++ x :: rest) ((pre.length : Nat) : Int) = x := by simp [qcl, List.getD_eq_getElem?_getD]
  have hlt : ((pre.length : Nat) : Int) < ((pre ++ x :: rest).length : Int) := zdF;have hw : wrap64 (((pre.length : Nat) : Int) + 1) = (((pre ++ [x]).length : Nat) : Int) := zck;have hset : ∀ v : S61, ((pre.map cv135 ++ List.replicate (x :: rest).length z61).set ((pre.length : Nat) : Int).toNat v) = (pre.map cv135 ++ [v]) ++ List.replicate rest.length z61 := fun v => zaW
  have hi := ih (pre ++ [x]) zdv (fun y hy => hs y (List.mem_cons_of_mem _ hy));refine Ev.succ ?_;simp only [qaV.l0, hx];refine Ev.pos hlt (Ev.pos zdM ?_);refine Ev.bindk (to_Pair x) ?_;refine Ev.pos zdF ?_;simp only [hset, hw];have e1 : pre ++ x :: rest = (pre ++ [x]) ++ rest := zdN;have e2 : (pre ++ [x]).map cv135 = pre.map cv135 ++ [cv135 x] := zdN;rw [e1];rw [e2] at hi;exact hi
theorem to_PairS (l : List S135) (hs : ((l.length : Int) ≤ 1048576 ∧ ∀ y ∈ l, sm135 1048576 y)) : Ev (fun k => qaV.f k l) (l.map cv135) := by
 have hl : (l.length : Int) ≤ 1048576 := hs.1;unfold qaV.f;refine Ev.pos zdM (Ev.pos zdM ?_);have h := qiG l [] zdv hs.2
 simpa using h
def qaL.l0 : Nat → List ByteArray → List ByteArray → Int → Option (List ByteArray)
 | 0, _, _, _ => none
 | k + 1, x0, x3, x4 => if x4 < (x0.length : Int) then (if 0 ≤ x4 then (if x4 < (x3.length : Int) then (qaL.l0 k x0 (x3.set (x4 : Int).toNat (rdOf ByteArray.empty x0 x4)) (wrap64 (x4 + 1))) else (none)) else (none)) else (some x3)
def qaL.f (k : Nat) (l0 : List ByteArray) : Option (List ByteArray) := if 0 ≤ (l0.length : Int) then (if ((l0.length : Int) : Int).toNat ≤ 17592186044416 then (qaL.l0 k l0 (List.replicate ((l0.length : Int) : Int).toNat (⟨#[]⟩ : ByteArray)) 0) else (none)) else (none)
theorem qaL.qbl : ∀ k, (∀ y0 y1 y2, LeO (qaL.l0 k y0 y1 y2) (qaL.l0 (k + 1) y0 y1 y2))
 | 0 => fun _ _ _ r h => by simp [qaL.l0] at h
 | k + 1 => by
  have Q9 := qaL.qbl k
  ·intro y0 y1 y2;unfold qaL.l0;exact zleo_
theorem qaL.mono : ∀ a0 k, LeO (qaL.f k a0) (qaL.f (k + 1) a0) := by
 intro a0 k;have Q9 := qaL.qbl k;unfold qaL.f;exact zleo_
theorem qaL.calls (k : Nat) (A0 : Option Addr) (c0 : Nat) (l0 : List ByteArray) (r : List ByteArray) (w : World) (hr0 : Kd.C Kd.string w A0 l0.length l0) (hc0 : l0.length ≤ c0) (h : qaL.f k l0 = some r) :
  Calls Tryz.prog 76 #[.slice A0 l0.length c0] w fun e w' => ∃ B7 : Value, e = .returned (B7) ∧ Kd.R Kd.string 9 w' w.heap.size (fun _ => True) B7 r ∧ Below w.heap.size w w' := by
 have Z1 := z_ hr0;have kB := z_ hc0;clear hr0 hc0;have HB := z_ (Below.refl w.heap.size w);have H : (if 0 ≤ (l0.length : Int) then (if ((l0.length : Int) : Int).toNat ≤ 17592186044416 then (qaL.l0 k l0 (List.replicate ((l0.length : Int) : Int).toNat (⟨#[]⟩ : ByteArray)) 0) else (none)) else (none)) = some r := h;clear h
 by_cases c2 : 0 ≤ (l0.length : Int)
 ·rw [if_pos c2] at H;have RA := eq_true c2;have VE : decide (0 ≤ (l0.length : Int)) = true := decide_eq_true c2;clear c2
  by_cases c3 : ((l0.length : Int) : Int).toNat ≤ 17592186044416
  ·rw [if_pos c3] at H;have Y1 := eq_true c3;have r6 : decide (((l0.length : Int) : Int).toNat ≤ 17592186044416) = true := decide_eq_true c3;clear c3;obtain ⟨re, GJ⟩ : ∃ y_ : List ByteArray, y_ = (List.replicate ((l0.length : Int) : Int).toNat (⟨#[]⟩ : ByteArray)) := ⟨_, rfl⟩
   replace H : (qaL.l0 k l0 re 0) = some r := by first | (rw [GJ]; with_reducible exact H) | (have J1 := (Option.bind_some _ _).symm.trans H; rw [GJ]; with_reducible exact J1) | (have J1 := (Option.bind_some _ _).symm.trans H; with_reducible exact J1) | with_reducible exact H | (rw [GJ]; exact H) | exact H
   have rY := z_ GJ;clear GJ;have H' := z_ H;clear H
   go_enter Tryz.func76, Tryz.ntmps76
   go_wp2_with (first | ((with_reducible refine qaw (N := 7) rfl ?_); refine Kd.qgH Kd.string _ 9 rfl (N := 7) rfl 68 _ _ rfl (l0.length : Int) rfl rfl Tryz.underlying68 (.string ⟨#[]⟩) 16 info9 rfl zdK zdM (⟨#[]⟩ : ByteArray) (ok := fun _ => True) (okp := fun _ => True) rfl (fun _ hk => hk) trivial (zod_) (Nat.le_trans (Nat.mul_le_mul_right _ (zod_ : (l0.length : Int).toNat ≤ 17592186044416)) zdM) (Below.refl _ _) (Nat.le_refl _) ?_; intro gm w4 zB hb j3 K0; clear j3 K0; (first | rw [← rY.o] at zB | (simp only [Int.reduceToNat] at zB; rw [← rY.o] at zB)); have Se := z_ (Kd.qa3 zB (qaz zar)); replace HB := z_ (qaa zar hb); clear hb zB))
   go_loopg [4] k (fun kq v4 w' => ∃ (J0 : List ByteArray) (F0 : Int), v4 = .int .i64 F0 ∧ Aside0 (qaL.l0 kq l0 J0 F0 = some r) ∧ Aside0 (kq ≤ k) ∧ Aside0 (Kd.R Kd.string 9 w' w.heap.size (fun _ => True) gm J0) ∧ Aside0 (Below w.heap.size w w'))
   case atStart => exact ⟨(re), (0), zcc, H', ⟨Nat.le_refl _⟩, ⟨by (with_reducible repeat (first | apply Kd.qbm | apply Kd.qbE | apply Kd.qbu)); exact Se.o⟩, ⟨zar⟩⟩
   case round =>
    clear H';try clear c2
    try clear RA
    try clear VE
    try clear c3
    try clear Y1
    try clear r6
    obtain ⟨J0, F0, rfl, HA, I5, X4, HB⟩ := hrel
    cases gk with
    | zero => exact absurd HA.o (by simp [qaL.l0])
    | succ k1 =>
     have H := HA.o;clear HA;simp only [qaL.l0] at H
     by_cases c6 : F0 < (l0.length : Int)
     ·rw [if_pos c6] at H;have u7 : decide (F0 < (l0.length : Int)) = true := decide_eq_true c6;clear c6
      by_cases c7 : 0 ≤ F0
      ·rw [if_pos c7] at H;have QA : decide (0 ≤ F0) = true := decide_eq_true c7;clear c7
       by_cases c8 : F0 < (J0.length : Int)
       ·rw [if_pos c8] at H;have FD : decide (F0 < (J0.length : Int)) = true := decide_eq_true c8;clear c8;obtain ⟨Mc, dK⟩ : ∃ y_ : List ByteArray, y_ = (J0.set (F0 : Int).toNat (rdOf ByteArray.empty l0 F0)) := ⟨_, rfl⟩
        replace H : (qaL.l0 k1 l0 Mc (wrap64 (F0 + 1))) = some r := by first | (rw [dK]; with_reducible exact H) | (have J1 := (Option.bind_some _ _).symm.trans H; rw [dK]; with_reducible exact J1) | (have J1 := (Option.bind_some _ _).symm.trans H; with_reducible exact J1) | with_reducible exact H | (rw [dK]; exact H) | exact H
        have Gh := z_ dK;clear dK;have H' := z_ H;clear H;have xZ : 0 ≤ (F0 : Int) := zod_;have tZ : F0 < (l0.length : Int) := zod_;obtain ⟨ad404, mm, TN⟩ := Kd.qbX Z1.o F0 xZ tZ
        cases mm
        replace TN := zmove_ HB rfl TN;replace xZ := eq_true xZ;replace tZ := eq_true tZ;have p9 : 0 ≤ (F0 : Int) := zod_;have q9 : (F0 : Int) < ((J0.length : Int) : Int) := zod_;obtain ⟨DZ, UK, uR, Bg, Co, cl9, zg⟩ := Kd.qcS X4.o zdM
        (first | cases uR | (injection uR with O4 en_ ec_; (first | subst O4 | (injection O4 with O4; subst O4)); subst ec_; clear en_))
        have zn := z_ Bg;have GG9 := z_ zg;clear Bg Co zg;obtain ⟨bi, mh⟩ := Kd.qc9 (⟨#[]⟩ : ByteArray) X4.o (F0 : Int) p9 q9;replace p9 := eq_true p9;replace q9 := eq_true q9;have AL := Kd.qj9 X4.o (F0 : Int) (rdOf ByteArray.empty l0 F0)
        go_wp2_with (first | ((with_reducible refine qdB (t := 9) (p := 20) rfl ?_); refine qda (t := 9) (p := 20) (v := ?vo_w11) (w1 := (wr.setCell ⟨DZ, (F0 : Int).toNat, none⟩ (.string (rdOf ByteArray.empty l0 F0)))) ?hg ?ho ?hn ?hr ?_; (case ho => rfl); (case hg => rfl); (case hn => rfl); (case hr => first | (go_simp; done) | (go_simp; rfl)); intro s9 hw; have hg : wr.grownBy s9 (some DZ) := (by rw [hw]; exact AL.2); have xG : Kd.R Kd.string 9 s9 w.heap.size (fun _ => True) (.slice (some ⟨DZ, 0, none⟩) J0.length UK) Mc := (by rw [hw, Gh.o]; exact AL.1); clear AL; replace X4 := z_ (xG); replace HB := z_ ((by rw [hw]; exact qcd (HB.o) zn.o : Below w.heap.size w s9)); clear hg hw xG))
        go_roundg k1
        case measure => have := I5.o; omega
        case rel => exact ⟨(Mc), (wrap64 (F0 + 1)), zcc, H', ⟨zcY⟩, ⟨zaH⟩, ⟨zar⟩⟩
       ·rw [if_neg c8] at H;exact absurd H zdN
      ·rw [if_neg c7] at H;exact absurd H zdN
     ·rw [if_neg c6] at H;have u7 : decide (F0 < (l0.length : Int)) = false := decide_eq_false c6;clear c6;obtain rfl := Option.some.inj H
      go_wp2
      go_ret
      exact ⟨_, zaM, zaH, zar⟩
  ·rw [if_neg c3] at H;exact absurd H zdN
 ·rw [if_neg c2] at H;exact absurd H zdN
theorem qht (rest : List ByteArray) : ∀ (pre : List ByteArray), ((pre ++ rest).length : Int) ≤ 1048576 → (∀ y ∈ rest, True) →
  Ev (fun k => qaL.l0 k (pre ++ rest) (pre ++ List.replicate rest.length (⟨#[]⟩ : ByteArray)) ((pre.length : Nat) : Int)) ((pre ++ rest)) := by
 induction rest with
 | nil =>
  intro pre hl hs;refine Ev.succ ?_;simp only [qaL.l0];exact Ev.neg zdN (Ev.is zdN)
 | cons x rest ih =>
  intro pre hl hs;have hx : rdOf ByteArray.empty (pre ++ x :: rest) ((pre.length : Nat) : Int) = x := by simp [rdOf, List.getD_eq_getElem?_getD]
  have hlt : ((pre.length : Nat) : Int) < ((pre ++ x :: rest).length : Int) := zdF;have hw : wrap64 (((pre.length : Nat) : Int) + 1) = (((pre ++ [x]).length : Nat) : Int) := zck;have hset : ∀ v : ByteArray, ((pre ++ List.replicate (x :: rest).length (⟨#[]⟩ : ByteArray)).set ((pre.length : Nat) : Int).toNat v) = (pre ++ [v]) ++ List.replicate rest.length (⟨#[]⟩ : ByteArray) := fun v => zaW
  have hi := ih (pre ++ [x]) zdv (fun y hy => hs y (List.mem_cons_of_mem _ hy));refine Ev.succ ?_;simp only [qaL.l0, hx];refine Ev.pos hlt (Ev.pos zdM ?_);refine Ev.pos zdF ?_;simp only [hset, hw];have e1 : pre ++ x :: rest = (pre ++ [x]) ++ rest := zdN;rw [e1];exact hi
theorem qkT (l : List ByteArray) (hs : ((l.length : Int) ≤ 1048576 ∧ ∀ y ∈ l, (y.size : Int) ≤ 1048576)) : Ev (fun k => qaL.f k l) (l) := by
 have hl : (l.length : Int) ≤ 1048576 := hs.1;unfold qaL.f;refine Ev.pos zdM (Ev.pos zdM ?_);have h := qht l [] zdv (fun _ _ => trivial)
 simpa using h
def qck.f (k : Nat) (B0 : Bool) (D0 : List (S135)) (C0 : List ByteArray) (E0 : List Int) : Option (Bool × (List (S61)) × List ByteArray × List Int) := (qaV.f k D0).bind fun GB => ((qaL.f k C0).bind fun yE => ((qaR.f k E0).bind fun PE => (some (B0, GB, yE, PE))))
theorem qck.mono : ∀ a0 a1 a2 a3 k, LeO (qck.f k a0 a1 a2 a3) (qck.f (k + 1) a0 a1 a2 a3) := by
 intro a0 a1 a2 a3 k;unfold qck.f;have kC := @qaR.mono; have dT := @qaV.mono; have iW := @qaL.mono; exact zleo_
theorem qck.calls (k : Nat) (B0 : Bool) (P0 : Option Addr) (O0 : Nat) (D0 : List (S135)) (R0 : Option Addr) (T0 : Nat) (C0 : List ByteArray) (U0 : Option Addr) (Q0 : Nat) (E0 : List Int) (r1 : Bool) (r2 : List (S61)) (r3 : List ByteArray) (r4 : List Int) (w : World) (J3 : Kd.C k135 w P0 D0.length D0) (I3 : D0.length ≤ O0) (V2 : Kd.C Kd.string w R0 C0.length C0) (F3 : C0.length ≤ T0) (u3 : Kd.C (Kd.int .i64) w U0 E0.length E0) (D3 : E0.length ≤ Q0) (h : qck.f k B0 D0 C0 E0 = some (r1, r2, r3, r4)) :
  Calls Tryz.prog 46 #[.agg #[.bool B0, .slice P0 D0.length O0, .slice R0 C0.length T0, .slice U0 E0.length Q0]] w fun e w' => ∃ ME bG CE : Value, e = .returned (.agg #[.bool r1, ME, bG, CE]) ∧ Kd.R k61 61 w' w.heap.size (fun _ => True) ME r2 ∧ Kd.R Kd.string 9 w' w.heap.size (fun _ => True) bG r3 ∧ Kd.R (Kd.int .i64) 3 w' w.heap.size (fun _ => True) CE r4 ∧ Below w.heap.size w w' := by
 have ia := Tryz.underlying70;have lI := Tryz.underlying80;have M7 := z_ J3;have Y7 := z_ I3;clear J3 I3;have I8 := z_ V2;have Z8 := z_ F3;clear V2 F3;have D9 := z_ u3;have oA := z_ D3;clear u3 D3;have HB := z_ (Below.refl w.heap.size w);have H : ((qaV.f k D0).bind fun GB => ((qaL.f k C0).bind fun yE => ((qaR.f k E0).bind fun PE => (some (B0, GB, yE, PE))))) = some (r1, r2, r3, r4) := h;clear h;replace H := Option.bind_eq_some_iff.mp H;obtain ⟨GB, aK, H⟩ := H;try dsimp only at H
 have A2 := z_ aK;clear aK;replace H := Option.bind_eq_some_iff.mp H;obtain ⟨yE, GE, H⟩ := H;try dsimp only at H
 have A3 := z_ GE;clear GE;replace H := Option.bind_eq_some_iff.mp H;obtain ⟨PE, CS, H⟩ := H;try dsimp only at H
 have A4 := z_ CS;clear CS;simp only [Option.some.injEq, Prod.mk.injEq] at H;obtain ⟨rfl, rfl, rfl, rfl⟩ := H
 go_enter Tryz.func46, Tryz.ntmps46
 go_wp2_with (first | ((with_reducible refine qaw (N := 1) rfl ?_); refine qaH zdO (N := 1) zdO (cs := #[.bool B0, .slice P0 D0.length O0, .slice R0 C0.length T0, .slice U0 E0.length Q0]) (t := 70) zcm ?_; intro I9 hg w5 hbox hb; have J8 := z_ (hbox); have GW406 := z_ ((zao : w.heap.size ≤ I9)); have H8 := z_ ((zao : w.heap.size ≤ I9)); replace HB := z_ (qaa zar hb); clear hb hbox hg) | ((with_reducible refine qaw (N := 2) rfl ?_); refine qaH zdO (N := 2) zdO (cs := #[.bool false, .slice none 0 0, .slice none 0 0, .slice none 0 0]) (t := 80) zcm ?_; intro V4 hg w6 hbox hb; have M8 := z_ (hbox); have GW407 := z_ ((by rw [hg]; exact (qaz (zab H8.o)) : w.heap.size ≤ V4)); have xA := z_ ((by rw [hg]; exact (qaz (zab H8.o)) : w.heap.size ≤ V4)); have vQ := z_ ((zal : I9 ≠ V4)); have wR := z_ ((zam : V4 ≠ I9)); replace J8 := z_ (qab (g := I9) (o := .cells #[.bool B0, .slice P0 D0.length O0, .slice R0 C0.length T0, .slice U0 E0.length Q0] 70 (0, 0)) (zac J8.o) hb); replace HB := z_ (qaa (zab H8.o) hb); clear hb hbox hg) | ((with_reducible refine qaw (N := 3) rfl ?_); refine qaH zdO (N := 3) zdO (cs := #[.bool false, .slice none 0 0, .slice none 0 0, .slice none 0 0]) (t := 80) zcm ?_; intro t8 hg w7 hbox hb; have W7 := z_ (hbox); have GW408 := z_ ((zbt : w.heap.size ≤ t8)); have CB := z_ ((zbt : w.heap.size ≤ t8)); have bB := z_ ((zal : I9 ≠ t8)); have yQ := z_ ((zam : t8 ≠ I9)); replace J8 := z_ (qab (g := I9) (o := .cells #[.bool B0, .slice P0 D0.length O0, .slice R0 C0.length T0, .slice U0 E0.length Q0] 70 (0, 0)) (zac J8.o) hb); have F9 := z_ ((by rw [hg]; exact Nat.ne_of_lt (qbo (g := V4) (o := .cells #[.bool false, .slice none 0 0, .slice none 0 0, .slice none 0 0] 80 (0, 0)) (zac M8.o)) : V4 ≠ t8)); have zQ := z_ ((by rw [hg]; exact Nat.ne_of_gt (qbo (g := V4) (o := .cells #[.bool false, .slice none 0 0, .slice none 0 0, .slice none 0 0] 80 (0, 0)) (zac M8.o)) : t8 ≠ V4)); replace M8 := z_ (qab (g := V4) (o := .cells #[.bool false, .slice none 0 0, .slice none 0 0, .slice none 0 0] 80 (0, 0)) (zac M8.o) hb); replace HB := z_ (qaa (zaf H8.o xA.o) hb); clear hb hbox hg; have Xd := vQ.o; have Dg := wR.o; have ng := bB.o; have Le := yQ.o; obtain ⟨X9, ID, II, mI, fA, hD, bI, lJ⟩ := zcells4 J8.o; have je := zQ.o; have Sg := F9.o; obtain ⟨IH, iQ, vO, LP, oI, eO, yP, lO⟩ := zcells4 W7.o) | ((with_reducible refine qax (f := 75) rfl ?_); refine qbq (some 9) rfl rfl Tryz.func75 zdG rfl #[.slice P0 D0.length O0] rfl zaq ?_; (with_reducible refine (qaV.calls k _ _ D0 GB _ ?side1 ?side2 A2.o).mono ?_); (case side1 => exact Kd.qar M7.o (zah H8.o xA.o CB.o)); (case side2 => exact Y7.o); rintro e NE ⟨v410, rfl, ho0, hb⟩; refine ⟨_, rfl, ?_⟩; have DH := z_ (Kd.qa3 ho0 (qaz (zah H8.o xA.o CB.o))); replace J8 := z_ (qab (g := I9) (o := .cells #[.bool B0, .slice P0 D0.length O0, .slice R0 C0.length T0, .slice U0 E0.length Q0] 70 (0, 0)) (by (with_reducible repeat (first | apply qas | apply qaq | apply qam)); refine qbD ?_ bB.o _; (with_reducible repeat (first | apply qas | apply qaq | apply qam)); exact J8.o) hb); replace M8 := z_ (qab (g := V4) (o := .cells #[.bool false, .slice none 0 0, .slice none 0 0, .slice none 0 0] 80 (0, 0)) (by (with_reducible repeat (first | apply qas | apply qaq | apply qam)); refine qbD ?_ F9.o _; (with_reducible repeat (first | apply qas | apply qaq | apply qam)); exact M8.o) hb); replace W7 := z_ (qab (g := t8) (o := .cells #[.bool B0, .slice none 0 0, .slice none 0 0, .slice none 0 0] 80 (0, 0)) (by (with_reducible repeat (first | apply qas | apply qaq | apply qam)); refine qaX (cs := #[.bool false, .slice none 0 0, .slice none 0 0, .slice none 0 0]) ?_ 0 _ rfl; (with_reducible repeat (first | apply qas | apply qaq | apply qam)); exact W7.o) hb); replace HB := z_ (qaa (zah H8.o xA.o CB.o) hb); (try clear hb); (try clear ho0); obtain ⟨fH, aH, Ol⟩ := Kd.qbO DH.o; subst Ol; obtain ⟨gX, Sj, gj, mj, EW, Lk, Xi, jl⟩ := zcells4 W7.o; obtain ⟨eP, lW, DV, PU, MN, WU, yW, UV⟩ := zcells4 J8.o) | ((with_reducible refine qax (f := 76) rfl ?_); refine qbq (some 13) rfl rfl Tryz.func76 zdG rfl #[.slice R0 C0.length T0] rfl zaq ?_; (with_reducible refine (qaL.calls k _ _ C0 yE _ ?side1 ?side2 A3.o).mono ?_); (case side1 => exact Kd.qar I8.o (zah H8.o xA.o CB.o)); (case side2 => exact Z8.o); rintro e oJ ⟨v413, rfl, ho0, hb⟩; refine ⟨_, rfl, ?_⟩; replace DH := z_ (Kd.qa7 (by (with_reducible repeat (first | apply Kd.qbm | apply Kd.qbE | apply Kd.qbu)); exact (Kd.qaU (Kd.qbp (p := ⟨t8, 1, none⟩) (Kd.qbg DH.o W7.o zdK) (fun _ hk => hk.2) (.slice fH GB.length aH)) (fun _ h_ => h_.1))) hb); have xO := z_ (Kd.qa3 ho0 (qaz (zah H8.o xA.o CB.o))); replace J8 := z_ (qab (g := I9) (o := .cells #[.bool B0, .slice P0 D0.length O0, .slice R0 C0.length T0, .slice U0 E0.length Q0] 70 (0, 0)) (by (with_reducible repeat (first | apply qas | apply qaq | apply qam)); refine qbD ?_ bB.o _; (with_reducible repeat (first | apply qas | apply qaq | apply qam)); exact J8.o) hb); replace M8 := z_ (qab (g := V4) (o := .cells #[.bool false, .slice none 0 0, .slice none 0 0, .slice none 0 0] 80 (0, 0)) (by (with_reducible repeat (first | apply qas | apply qaq | apply qam)); refine qbD ?_ F9.o _; (with_reducible repeat (first | apply qas | apply qaq | apply qam)); exact M8.o) hb); replace W7 := z_ (qab (g := t8) (o := .cells #[.bool B0, .slice fH GB.length aH, .slice none 0 0, .slice none 0 0] 80 (0, 0)) (by (with_reducible repeat (first | apply qas | apply qaq | apply qam)); refine qaX (cs := #[.bool B0, .slice none 0 0, .slice none 0 0, .slice none 0 0]) ?_ 1 _ rfl; (with_reducible repeat (first | apply qas | apply qaq | apply qam)); exact W7.o) hb); replace HB := z_ (qaa (zah H8.o xA.o CB.o) hb); (try clear hb); (try clear hk); (try clear ho0); obtain ⟨DA, BA, UZ⟩ := Kd.qbO xO.o; subst UZ; obtain ⟨jF, BF, aJ, NI, nF, eF, NH, TI⟩ := zcells4 W7.o; obtain ⟨VW, pj, il, jk, PV, zk, yj, ll⟩ := zcells4 J8.o) | ((with_reducible refine qax (f := 8) rfl ?_); refine qbq (some 17) rfl rfl Tryz.func8 zdG rfl #[.slice U0 E0.length Q0] rfl zaq ?_; (with_reducible refine (qaR.calls k _ _ E0 PE _ ?side1 ?side2 A4.o).mono ?_); (case side1 => exact Kd.qar D9.o (zah H8.o xA.o CB.o)); (case side2 => exact oA.o); rintro e pY ⟨v416, rfl, ho0, hb⟩; refine ⟨_, rfl, ?_⟩; replace DH := z_ (Kd.qa7 (by (with_reducible repeat (first | apply Kd.qbm | apply Kd.qbE | apply Kd.qbu)); exact (Kd.qaU (Kd.qbp (p := ⟨t8, 2, none⟩) (Kd.qbg DH.o W7.o zdK) (fun _ hk => hk.2) (.slice DA yE.length BA)) (fun _ h_ => h_.1))) hb); replace xO := z_ (Kd.qa7 (by (with_reducible repeat (first | apply Kd.qbm | apply Kd.qbE | apply Kd.qbu)); exact (Kd.qaU (Kd.qbp (p := ⟨t8, 2, none⟩) (Kd.qbg xO.o W7.o zdK) (fun _ hk => hk.2) (.slice DA yE.length BA)) (fun _ h_ => h_.1))) hb); have jY := z_ (Kd.qa3 ho0 (qaz (zah H8.o xA.o CB.o))); replace J8 := z_ (qab (g := I9) (o := .cells #[.bool B0, .slice P0 D0.length O0, .slice R0 C0.length T0, .slice U0 E0.length Q0] 70 (0, 0)) (by (with_reducible repeat (first | apply qas | apply qaq | apply qam)); refine qbD ?_ bB.o _; (with_reducible repeat (first | apply qas | apply qaq | apply qam)); exact J8.o) hb); replace M8 := z_ (qab (g := V4) (o := .cells #[.bool false, .slice none 0 0, .slice none 0 0, .slice none 0 0] 80 (0, 0)) (by (with_reducible repeat (first | apply qas | apply qaq | apply qam)); refine qbD ?_ F9.o _; (with_reducible repeat (first | apply qas | apply qaq | apply qam)); exact M8.o) hb); replace W7 := z_ (qab (g := t8) (o := .cells #[.bool B0, .slice fH GB.length aH, .slice DA yE.length BA, .slice none 0 0] 80 (0, 0)) (by (with_reducible repeat (first | apply qas | apply qaq | apply qam)); refine qaX (cs := #[.bool B0, .slice fH GB.length aH, .slice none 0 0, .slice none 0 0]) ?_ 2 _ rfl; (with_reducible repeat (first | apply qas | apply qaq | apply qam)); exact W7.o) hb); replace HB := z_ (qaa (zah H8.o xA.o CB.o) hb); (try clear hb); (try clear hk); (try clear ho0); obtain ⟨VG, XG, XV⟩ := Kd.qbO jY.o; subst XV; obtain ⟨IP, JP, SW, IU, qP, GP, iV, WV⟩ := zcells4 W7.o; obtain ⟨Zi, Aj, Zj, Jk, ml, Hk, Ck, Zk⟩ := zcells4 M8.o))
 refine bodyPost_ret (results_cell_row rfl _ _ V4 80 #[.bool B0, .slice fH GB.length aH, .slice DA yE.length BA, .slice VG PE.length XG] (0, 0) _ rfl (by (with_reducible repeat (first | apply qas | apply qaq | apply qam)); refine qaX (cs := #[.bool B0, .slice fH GB.length aH, .slice DA yE.length BA, .slice none 0 0]) ?_ 3 _ rfl; (with_reducible repeat (first | apply qas | apply qaq | apply qam)); refine qaX (cs := #[.bool B0, .slice fH GB.length aH, .slice none 0 0, .slice none 0 0]) ?_ 2 _ rfl; (with_reducible repeat (first | apply qas | apply qaq | apply qam)); refine qaX (cs := #[.bool B0, .slice none 0 0, .slice none 0 0, .slice none 0 0]) ?_ 1 _ rfl; (with_reducible repeat (first | apply qas | apply qaq | apply qam)); refine qaX (cs := #[.bool false, .slice none 0 0, .slice none 0 0, .slice none 0 0]) ?_ 0 _ rfl; (with_reducible repeat (first | apply qas | apply qaq | apply qam)); refine qbD ?_ F9.o _; (with_reducible repeat (first | apply qas | apply qaq | apply qam)); exact M8.o) Tryz.underlying80 rfl zdG) rfl ?_;exact ⟨_, _, _, zaM, by (with_reducible repeat (first | apply Kd.qbm | apply Kd.qbE | apply Kd.qbu)); exact Kd.qaU (Kd.qbp (p := ⟨V4, 3, none⟩) (Kd.qbp (p := ⟨V4, 2, none⟩) (Kd.qbp (p := ⟨V4, 1, none⟩) (Kd.qbp (p := ⟨V4, 0, none⟩) (Kd.qbp (p := ⟨t8, 3, none⟩) (Kd.qbg (Kd.qbg DH.o W7.o zdK) M8.o zdK) (fun _ hk => hk.1.2) (.slice VG PE.length XG)) (fun _ hk => hk.2) (.bool B0)) (fun _ hk => hk.2) (.slice fH GB.length aH)) (fun _ hk => hk.2) (.slice DA yE.length BA)) (fun _ hk => hk.2) (.slice VG PE.length XG)) (fun _ hk => trivial), by (with_reducible repeat (first | apply Kd.qbm | apply Kd.qbE | apply Kd.qbu)); exact Kd.qaU (Kd.qbp (p := ⟨V4, 3, none⟩) (Kd.qbp (p := ⟨V4, 2, none⟩) (Kd.qbp (p := ⟨V4, 1, none⟩) (Kd.qbp (p := ⟨V4, 0, none⟩) (Kd.qbp (p := ⟨t8, 3, none⟩) (Kd.qbg (Kd.qbg xO.o W7.o zdK) M8.o zdK) (fun _ hk => hk.1.2) (.slice VG PE.length XG)) (fun _ hk => hk.2) (.bool B0)) (fun _ hk => hk.2) (.slice fH GB.length aH)) (fun _ hk => hk.2) (.slice DA yE.length BA)) (fun _ hk => hk.2) (.slice VG PE.length XG)) (fun _ hk => trivial), by (with_reducible repeat (first | apply Kd.qbm | apply Kd.qbE | apply Kd.qbu)); exact Kd.qaU (Kd.qbp (p := ⟨V4, 3, none⟩) (Kd.qbp (p := ⟨V4, 2, none⟩) (Kd.qbp (p := ⟨V4, 1, none⟩) (Kd.qbp (p := ⟨V4, 0, none⟩) (Kd.qbp (p := ⟨t8, 3, none⟩) (Kd.qbg (Kd.qbg jY.o W7.o zdK) M8.o zdK) (fun _ hk => hk.1.2) (.slice VG PE.length XG)) (fun _ hk => hk.2) (.bool B0)) (fun _ hk => hk.2) (.slice fH GB.length aH)) (fun _ hk => hk.2) (.slice DA yE.length BA)) (fun _ hk => hk.2) (.slice VG PE.length XG)) (fun _ hk => trivial), zah H8.o xA.o CB.o⟩
def cv70 (x : S70) : S80 := ⟨x.f0, (x.f1).map cv135, x.f2, x.f3⟩
def sm70 (B : Int) (x : S70) : Prop := True ∧ ((x.f1.length : Int) ≤ B ∧ ∀ y ∈ x.f1, sm135 B y) ∧ ((x.f2.length : Int) ≤ B ∧ ∀ y ∈ x.f2, (y.size : Int) ≤ B) ∧ (x.f3.length : Int) ≤ B
def wl70 (x : S70) : Prop := True ∧ (x.f1.length ≤ maxLen ∧ ∀ y ∈ x.f1, wl135 y) ∧ (x.f2.length ≤ maxLen ∧ ∀ y ∈ x.f2, y.size ≤ maxLen) ∧ x.f3.length ≤ maxLen
theorem to_Node (x : S70) (hs : sm70 1048576 x) : Ev (fun k => qck.f k (x.f0) (x.f1) (x.f2) (x.f3)) (x.f0, (x.f1).map cv135, x.f2, x.f3) := by
 unfold qck.f;exact Ev.bind (to_PairS _ hs.2.1) (Ev.bind (qkT _ hs.2.2.1) (Ev.bind (qmb _ hs.2.2.2) (Ev.is rfl)))
def qa8.l0 : Nat → List (S70) → List (S80) → Int → Option ((List (S80)))
 | 0, _, _, _ => none
 | k + 1, x0, x3, x4 => if x4 < (x0.length : Int) then (if 0 ≤ x4 then ((qck.f k ((qbM x0 x4).f0) ((qbM x0 x4).f1) ((qbM x0 x4).f2) ((qbM x0 x4).f3)).bind fun RN => (if x4 < (x3.length : Int) then (qa8.l0 k x0 (x3.set (x4 : Int).toNat (⟨RN.1, RN.2.1, RN.2.2.1, RN.2.2.2⟩ : S80)) (wrap64 (x4 + 1))) else (none))) else (none)) else (some x3)
def qa8.f (k : Nat) (l0 : List (S70)) : Option ((List (S80))) := if 0 ≤ (l0.length : Int) then (if ((l0.length : Int) : Int).toNat ≤ 3518437208883 then (qa8.l0 k l0 (List.replicate ((l0.length : Int) : Int).toNat z80) 0) else (none)) else (none)
theorem qa8.qbl : ∀ k, (∀ y0 y1 y2, LeO (qa8.l0 k y0 y1 y2) (qa8.l0 (k + 1) y0 y1 y2))
 | 0 => fun _ _ _ r h => by simp [qa8.l0] at h
 | k + 1 => by
  have Q9 := qa8.qbl k
  ·intro y0 y1 y2;unfold qa8.l0;have kC := @qck.mono; exact zleo_
theorem qa8.calls (k : Nat) (A0 : Option Addr) (c0 : Nat) (l0 : List (S70)) (r : List (S80)) (w : World) (hr0 : Kd.C k70 w A0 l0.length l0) (hc0 : l0.length ≤ c0) (h : qa8.f k l0 = some r) :
  Calls Tryz.prog 23 #[.slice A0 l0.length c0] w fun e w' => ∃ B7 : Value, e = .returned (B7) ∧ Kd.S k80 80 w' w.heap.size (fun _ => True) B7 r ∧ Below w.heap.size w w' := by
 have ia := Tryz.underlying70;have lI := Tryz.underlying80;have Z1 := z_ hr0;have kB := z_ hc0;clear hr0 hc0;have HB := z_ (Below.refl w.heap.size w);have H : (if 0 ≤ (l0.length : Int) then (if ((l0.length : Int) : Int).toNat ≤ 3518437208883 then (qa8.l0 k l0 (List.replicate ((l0.length : Int) : Int).toNat z80) 0) else (none)) else (none)) = some r := h;clear h
 by_cases c2 : 0 ≤ (l0.length : Int)
 ·rw [if_pos c2] at H;have RA := eq_true c2;have VE : decide (0 ≤ (l0.length : Int)) = true := decide_eq_true c2;clear c2
  by_cases c3 : ((l0.length : Int) : Int).toNat ≤ 3518437208883
  ·rw [if_pos c3] at H;have Y1 := eq_true c3;have r6 : decide (((l0.length : Int) : Int).toNat ≤ 3518437208883) = true := decide_eq_true c3;clear c3;obtain ⟨Af, eK⟩ : ∃ y_ : List (S80), y_ = (List.replicate ((l0.length : Int) : Int).toNat z80) := ⟨_, rfl⟩
   replace H : (qa8.l0 k l0 Af 0) = some r := by first | (rw [eK]; with_reducible exact H) | (have J1 := (Option.bind_some _ _).symm.trans H; rw [eK]; with_reducible exact J1) | (have J1 := (Option.bind_some _ _).symm.trans H; with_reducible exact J1) | with_reducible exact H | (rw [eK]; exact H) | exact H
   have OX := z_ eK;clear eK;have H' := z_ H;clear H
   go_enter Tryz.func23, Tryz.ntmps23
   go_wp2_with (first | ((with_reducible refine qaw (N := 7) rfl ?_); refine Kd.S_make k80 _ 80 rfl (N := 7) rfl 27 _ _ rfl (l0.length : Int) rfl rfl Tryz.underlying27 (.agg #[(.bool false), (.slice none 0 0), (.slice none 0 0), (.slice none 0 0)]) 80 qlq rfl zdK zdM z80 (ok := fun _ => True) (okp := fun _ => True) (qfs _ _ _ z80 (Kd.qdW _ _ _ _ _) (Kd.qdW _ _ _ _ _) (Kd.qdW _ _ _ _ _)) (fun _ hk => hk) trivial (zod_) (Nat.le_trans (Nat.mul_le_mul_right _ (zod_ : (l0.length : Int).toNat ≤ 3518437208883)) zdM) (Below.refl _ _) (Nat.le_refl _) ?_; intro Vn w4 zB hb j3 K0; clear j3 K0; (first | rw [← OX.o] at zB | (simp only [Int.reduceToNat] at zB; rw [← OX.o] at zB)); have qf := z_ (Kd.qcJ zB (qaz zar)); replace HB := z_ (qaa zar hb); clear hb zB))
   go_loopg [4] k (fun kq v4 w' => ∃ (J0 : List (S80)) (F0 : Int), v4 = .int .i64 F0 ∧ Aside0 (qa8.l0 kq l0 J0 F0 = some r) ∧ Aside0 (kq ≤ k) ∧ Aside0 (Kd.S k80 80 w' w.heap.size (fun _ => True) Vn J0) ∧ Aside0 (Below w.heap.size w w'))
   case atStart => exact ⟨(Af), (0), zcc, H', ⟨Nat.le_refl _⟩, ⟨by (with_reducible repeat (first | apply Kd.qcK | apply Kd.qeC | apply Kd.qd1)); exact qf.o⟩, ⟨zar⟩⟩
   case round =>
    clear H';try clear c2
    try clear RA
    try clear VE
    try clear c3
    try clear Y1
    try clear r6
    obtain ⟨J0, F0, rfl, HA, I5, X4, HB⟩ := hrel
    cases gk with
    | zero => exact absurd HA.o (by simp [qa8.l0])
    | succ k1 =>
     have H := HA.o;clear HA;simp only [qa8.l0] at H
     by_cases c6 : F0 < (l0.length : Int)
     ·rw [if_pos c6] at H;have u7 : decide (F0 < (l0.length : Int)) = true := decide_eq_true c6;clear c6
      by_cases c7 : 0 ≤ F0
      ·rw [if_pos c7] at H;have QA : decide (0 ≤ F0) = true := decide_eq_true c7;clear c7;replace H := Option.bind_eq_some_iff.mp H;obtain ⟨⟨oR, pV, dW, OU⟩, SX, H⟩ := H;try dsimp only at H
       have A8 := z_ SX;clear SX
       by_cases c9 : F0 < (J0.length : Int)
       ·rw [if_pos c9] at H;have OJ : decide (F0 < (J0.length : Int)) = true := decide_eq_true c9;clear c9;obtain ⟨PY, qK⟩ : ∃ y_ : List (S80), y_ = (J0.set (F0 : Int).toNat (⟨oR, pV, dW, OU⟩ : S80)) := ⟨_, rfl⟩
        replace H : (qa8.l0 k1 l0 PY (wrap64 (F0 + 1))) = some r := by first | (rw [qK]; with_reducible exact H) | (have J1 := (Option.bind_some _ _).symm.trans H; rw [qK]; with_reducible exact J1) | (have J1 := (Option.bind_some _ _).symm.trans H; with_reducible exact J1) | with_reducible exact H | (rw [qK]; exact H) | exact H
        have Be := z_ qK;clear qK;have H' := z_ H;clear H;have tb : 0 ≤ (F0 : Int) := zod_;have Rc : F0 < (l0.length : Int) := zod_;obtain ⟨ad421, qc, Jc, Da, Wa, rc, Lc, Oo, XP, VN, uP, EO, WN, DP, cP, yO, AP, gP⟩ := qls Z1.o F0 tb Rc
        cases Oo
        replace XP := zmove_ HB rfl XP;replace VN := zmove_ HB rfl VN;replace uP := zmove_ HB rfl uP;replace EO := zmove_ HB rfl EO;have ZV := z_ DP;have aW := z_ WN;clear DP WN;have pW := z_ yO;have TU := z_ cP;clear yO cP;have mX := z_ gP;have uV := z_ AP;clear gP AP;replace tb := eq_true tb;replace Rc := eq_true Rc
        go_wp2_with (first | ((with_reducible refine qax (f := 46) rfl ?_); refine qbq (some 20) rfl rfl Tryz.func46 zdG rfl #[.agg #[.bool ((qbM l0 F0).f0), .slice qc ((qbM l0 F0).f1).length Jc, .slice Da ((qbM l0 F0).f2).length Wa, .slice rc ((qbM l0 F0).f3).length Lc]] rfl zaq ?_; (with_reducible refine (qck.calls k1 ((qbM l0 F0).f0) _ _ ((qbM l0 F0).f1) _ _ ((qbM l0 F0).f2) _ _ ((qbM l0 F0).f3) oR pV dW OU _ ?side1 ?side2 ?side3 ?side4 ?side5 ?side6 A8.o).mono ?_); (case side1 => exact zae (Kd.qar ZV.o HB.o)); (case side2 => exact aW.o); (case side3 => exact zae (Kd.qar pW.o HB.o)); (case side4 => exact TU.o); (case side5 => exact zae (Kd.qar mX.o HB.o)); (case side6 => exact uV.o); rintro e s9 ⟨xN, kN, iL, rfl, ho0, ho1, ho2, hb⟩; refine ⟨_, rfl, ?_⟩; replace X4 := z_ (Kd.qbZ (Kd.qhS (Kd.qhS (Kd.qhS (Kd.S_old (zag X4.o) hb) (Kd.qdt ho0)) (Kd.qdt ho1)) (Kd.qdt ho2)) (fun _ h_ => h_.1)); have kO := z_ (Kd.qa3 ho0 (qaz zar)); have qO := z_ (Kd.qa3 ho1 (qaz zar)); have xP := z_ (Kd.qa3 ho2 (qaz zar)); replace HB := z_ (qaa zar hb); have Jj : ∀ (a_ : Addr) (m_ : Mode) (W_ : World), (store a_ xN m_).run Tryz.prog W_ = stored Tryz.prog W_ a_ xN m_ := (fun a_ m_ W_ => run_store _ W_ a_ xN m_ (by obtain ⟨_, _, e_⟩ := Kd.qbO kO.o; rw [e_]; rfl)); have bk : ∀ (a_ : Addr) (m_ : Mode) (W_ : World), (store a_ kN m_).run Tryz.prog W_ = stored Tryz.prog W_ a_ kN m_ := (fun a_ m_ W_ => run_store _ W_ a_ kN m_ (by obtain ⟨_, _, e_⟩ := Kd.qbO qO.o; rw [e_]; rfl)); have qj : ∀ (a_ : Addr) (m_ : Mode) (W_ : World), (store a_ iL m_).run Tryz.prog W_ = stored Tryz.prog W_ a_ iL m_ := (fun a_ m_ W_ => run_store _ W_ a_ iL m_ (by obtain ⟨_, _, e_⟩ := Kd.qbO xP.o; rw [e_]; rfl)); (try clear hb); (try clear ho0); (try clear ho1); (try clear ho2); have wY : 0 ≤ (F0 : Int) := zod_; have xc : (F0 : Int) < ((J0.length : Int) : Int) := zod_; obtain ⟨f6, PB, jJ, MR, sd, ro, YS⟩ := Kd.qiZ X4.o zdM; (first | cases jJ | (injection jJ with O4 en_ ec_; (first | subst O4 | (injection O4 with O4; subst O4)); subst ec_; clear en_)); have DM := z_ MR; have Xo := z_ YS; clear MR sd YS; obtain ⟨_, Vl, IR, JT, xC, mC, _, _⟩ := Kd.qeR X4.o z80 (F0 : Int) wY xc; obtain ⟨ba, tc, qZ, rfl, uo, Mn, Bm⟩ := qeU JT; have mc : s9.cell? ⟨f6, (F0 : Int).toNat * 4, none⟩ = some (.bool ((qaC J0 F0).f0)) := xC 0 _ rfl; have Xa : s9.cell? ⟨f6, (F0 : Int).toNat * 4 + 1, none⟩ = some (ba) := xC 1 _ rfl; have So : s9.cell? ⟨f6, (F0 : Int).toNat * 4 + 2, none⟩ = some (tc) := xC 2 _ rfl; have em : s9.cell? ⟨f6, (F0 : Int).toNat * 4 + 3, none⟩ = some (qZ) := xC 3 _ rfl; have Na : s9.frozen? ⟨f6, (F0 : Int).toNat * 4, none⟩ = false := mC 0; have EZ : s9.frozen? ⟨f6, (F0 : Int).toNat * 4 + 1, none⟩ = false := mC 1; have Un : s9.frozen? ⟨f6, (F0 : Int).toNat * 4 + 2, none⟩ = false := mC 2; have an : s9.frozen? ⟨f6, (F0 : Int).toNat * 4 + 3, none⟩ = false := mC 3; clear IR xC mC JT; replace wY := eq_true wY; replace xc := eq_true xc; have n_ := z_ (Kd.qbZ (ok' := (fun k_ => some k_ ≠ (xN : Value).ownBlock ∧ some k_ ≠ (kN : Value).ownBlock ∧ some k_ ≠ (iL : Value).ownBlock)) X4.o (fun k_ hk => ⟨hk.1.1.2, ⟨hk.1.2, hk.2⟩⟩)); clear X4; have X4 := n_; clear n_; have qQ := z_ (show Kd.S k80 80 s9 w.heap.size (fun k_ => ((fun _ => True)) k_ ∧ ¬ ((fun k_ => some k_ = (xN : Value).ownBlock ∨ some k_ = (kN : Value).ownBlock ∨ some k_ = (iL : Value).ownBlock)) k_) (.slice (some ⟨f6, 0, none⟩) J0.length PB) J0 from (by (with_reducible repeat (first | apply Kd.qcK | apply Kd.qeC | apply Kd.qd1)); exact Kd.qbZ X4.o (fun k_ hk => ⟨trivial, fun e_ => e_.elim (fun h_ => hk.1 h_) (fun h_ => h_.elim (fun h_ => hk.2.1 h_) (fun h_ => hk.2.2 h_))⟩))); obtain ⟨oki12, Tl, JO, nS, sB, dD, Qc, cg⟩ := Kd.qeR qQ.o z80 (F0 : Int) (zod_) (by have h_ : (F0 : Int) < ((J0.length : Int) : Int) := zod_; first | exact h_ | (have e_ := (Kd.qbn X4.o).1; omega) | simpa using h_); obtain ⟨Rl, Em, Ym, rfl, Um, ep, Sm⟩ := qeU nS; have AM := Kd.S_seg cg (zod_) (by have h_ : (F0 : Int) < ((J0.length : Int) : Int) := zod_; first | exact h_ | (have e_ := (Kd.qbn X4.o).1; omega) | simpa using h_) (seg := [.bool oR, xN, kN, iL]) (j := 0) (show 4 ≤ 4 from zdK) (x' := (⟨oR, pV, dW, OU⟩ : S80)) (qfs _ _ _ (⟨oR, pV, dW, OU⟩ : S80) (Kd.qaU (Kd.qdH rfl (Kd.qaU (ok' := fun k_ => ((fun _ => True)) k_ ∧ k_ ≠ f6) (Kd.qdx (kO.o) (Kd.qcL X4.o) zdK) (fun k_ hk => ⟨trivial, fun e_ => (hk.2) zdE⟩))) (fun _ h_ => Or.inr (Or.inl h_))) (Kd.qaU (Kd.qdH rfl (Kd.qaU (ok' := fun k_ => ((fun _ => True)) k_ ∧ k_ ≠ f6) (Kd.qdx (qO.o) (Kd.qcL X4.o) zdK) (fun k_ hk => ⟨trivial, fun e_ => (hk.2) zdE⟩))) (fun _ h_ => Or.inr (Or.inr (Or.inl h_)))) (Kd.qaU (Kd.qdH rfl (Kd.qaU (ok' := fun k_ => ((fun _ => True)) k_ ∧ k_ ≠ f6) (Kd.qdx (xP.o) (Kd.qcL X4.o) zdK) (fun k_ hk => ⟨trivial, fun e_ => (hk.2) zdE⟩))) (fun _ h_ => Or.inr (Or.inr (Or.inr (h_)))))) (fun _ hk => hk) (fun k_ uU => uU.elim (fun h_ => ((Kd.qaU (ok' := fun k_ => ((fun _ => True)) k_ ∧ k_ ≠ f6) (Kd.qdx (kO.o) (Kd.qcL X4.o) zdK) (fun k_ hk => ⟨trivial, fun e_ => (hk.2) zdE⟩))).1 k_ h_.symm) (fun h_ => h_.elim (fun h_ => ((Kd.qaU (ok' := fun k_ => ((fun _ => True)) k_ ∧ k_ ≠ f6) (Kd.qdx (qO.o) (Kd.qcL X4.o) zdK) (fun k_ hk => ⟨trivial, fun e_ => (hk.2) zdE⟩))).1 k_ h_.symm) (fun h_ => ((Kd.qaU (ok' := fun k_ => ((fun _ => True)) k_ ∧ k_ ≠ f6) (Kd.qdx (xP.o) (Kd.qcL X4.o) zdK) (fun k_ hk => ⟨trivial, fun e_ => (hk.2) zdE⟩))).1 k_ h_.symm))); have QL := sB 0 _ rfl; (try simp only [show (k80).sz = 4 from rfl, Nat.mul_one, Nat.add_zero] at QL); have cL := dD 0; (try simp only [show (k80).sz = 4 from rfl, Nat.mul_one, Nat.add_zero] at cL); have UM := sB 1 _ rfl; (try simp only [show (k80).sz = 4 from rfl, Nat.mul_one, Nat.add_zero] at UM); have KM := dD 1; (try simp only [show (k80).sz = 4 from rfl, Nat.mul_one, Nat.add_zero] at KM); have CZ := sB 2 _ rfl; (try simp only [show (k80).sz = 4 from rfl, Nat.mul_one, Nat.add_zero] at CZ); have Pb := dD 2; (try simp only [show (k80).sz = 4 from rfl, Nat.mul_one, Nat.add_zero] at Pb); have AZ := sB 3 _ rfl; (try simp only [show (k80).sz = 4 from rfl, Nat.mul_one, Nat.add_zero] at AZ); have Wb := dD 3; (try simp only [show (k80).sz = 4 from rfl, Nat.mul_one, Nat.add_zero] at Wb); clear JO sB dD nS Qc cg) | ((with_reducible refine qdB (t := 80) (p := 21) rfl ?_); refine qda (t := 80) (p := 21) (v := ?vo_w13) (w1 := ((((s9.setCell ⟨f6, (F0 : Int).toNat * 4, none⟩ (.bool oR)).setCell ⟨f6, (F0 : Int).toNat * 4 + 1, none⟩ (xN)).setCell ⟨f6, (F0 : Int).toNat * 4 + 2, none⟩ (kN)).setCell ⟨f6, (F0 : Int).toNat * 4 + 3, none⟩ (iL))) ?hg ?ho ?hn ?hr ?_; (case ho => rfl); (case hg => rfl); (case hn => rfl); (case hr => first | (go_simp; done) | (go_simp; rfl)); intro NE hw; have hg : s9.grownBy NE (some f6) := (by rw [hw]; exact AM.2); have xG : Kd.S k80 80 NE w.heap.size (fun _ => True) (.slice (some ⟨f6, 0, none⟩) J0.length PB) PY := (by rw [hw, Be.o]; exact AM.1); clear AM; replace X4 := z_ (xG); replace HB := z_ ((by rw [hw]; exact qcd (qcd (qcd (qcd (HB.o) DM.o) DM.o) DM.o) DM.o : Below w.heap.size w NE)); clear kO qO xP; clear hg hw xG))
        go_roundg k1
        case measure => have := I5.o; omega
        case rel => exact ⟨(PY), (wrap64 (F0 + 1)), zcc, H', ⟨zcY⟩, ⟨zaJ⟩, ⟨zar⟩⟩
       ·rw [if_neg c9] at H;exact absurd H zdN
      ·rw [if_neg c7] at H;exact absurd H zdN
     ·rw [if_neg c6] at H;have u7 : decide (F0 < (l0.length : Int)) = false := decide_eq_false c6;clear c6;obtain rfl := Option.some.inj H
      go_wp2
      go_ret
      exact ⟨_, zaM, zaJ, zar⟩
  ·rw [if_neg c3] at H;exact absurd H zdN
 ·rw [if_neg c2] at H;exact absurd H zdN
theorem qiH (rest : List S70) : ∀ (pre : List S70), ((pre ++ rest).length : Int) ≤ 1048576 → (∀ y ∈ rest, sm70 1048576 y) →
  Ev (fun k => qa8.l0 k (pre ++ rest) (pre.map cv70 ++ List.replicate rest.length z80) ((pre.length : Nat) : Int)) ((pre ++ rest).map cv70) := by
 induction rest with
 | nil =>
  intro pre hl hs;refine Ev.succ ?_;simp only [qa8.l0];exact Ev.neg zdN (Ev.is zdN)
 | cons x rest ih =>
  intro pre hl hs;have hx : qbM (pre ++ x :: rest) ((pre.length : Nat) : Int) = x := by simp [qbM, List.getD_eq_getElem?_getD]
  have hlt : ((pre.length : Nat) : Int) < ((pre ++ x :: rest).length : Int) := zdF;have hw : wrap64 (((pre.length : Nat) : Int) + 1) = (((pre ++ [x]).length : Nat) : Int) := zck;have hset : ∀ v : S80, ((pre.map cv70 ++ List.replicate (x :: rest).length z80).set ((pre.length : Nat) : Int).toNat v) = (pre.map cv70 ++ [v]) ++ List.replicate rest.length z80 := fun v => zaW
  have hi := ih (pre ++ [x]) zdv (fun y hy => hs y (List.mem_cons_of_mem _ hy));refine Ev.succ ?_;simp only [qa8.l0, hx];refine Ev.pos hlt (Ev.pos zdM ?_);refine Ev.bind (to_Node x (hs x List.mem_cons_self)) ?_;refine Ev.pos zdF ?_;simp only [hset, hw];have e1 : pre ++ x :: rest = (pre ++ [x]) ++ rest := zdN;have e2 : (pre ++ [x]).map cv70 = pre.map cv70 ++ [cv70 x] := zdN;rw [e1];rw [e2] at hi;exact hi
theorem to_NodeS (l : List S70) (hs : ((l.length : Int) ≤ 1048576 ∧ ∀ y ∈ l, sm70 1048576 y)) : Ev (fun k => qa8.f k l) (l.map cv70) := by
 have hl : (l.length : Int) ≤ 1048576 := hs.1;unfold qa8.f;refine Ev.pos zdM (Ev.pos zdM ?_);have h := qiH l [] zdv hs.2
 simpa using h
def qcQ.f (k : Nat) (u0 : List (S70)) : Option ((List (S80))) := (qa8.f k u0).bind fun LJ => (some LJ)
theorem qcQ.calls (k : Nat) (I0 : Option Addr) (H0 : Nat) (u0 : List (S70)) (r : List (S80)) (w : World) (Z0 : Kd.C k70 w I0 u0.length u0) (Q1 : u0.length ≤ H0) (h : qcQ.f k u0 = some r) :
  Calls Tryz.prog 7 #[.agg #[.slice I0 u0.length H0]] w fun e w' => ∃ B7 : Value, e = .returned (.agg #[B7]) ∧ Kd.S k80 80 w' w.heap.size (fun _ => True) B7 r ∧ Below w.heap.size w w' := by
 have qm := Tryz.underlying24;have qW := Tryz.underlying29;have U7 := z_ Z0;have L8 := z_ Q1;clear Z0 Q1;have HB := z_ (Below.refl w.heap.size w);have H : ((qa8.f k u0).bind fun LJ => (some LJ)) = some r := h;clear h;replace H := Option.bind_eq_some_iff.mp H;obtain ⟨LJ, aK, H⟩ := H;try dsimp only at H
 have A2 := z_ aK;clear aK;obtain rfl := Option.some.inj H
 go_enter Tryz.func7, Tryz.ntmps7
 go_wp2_with (first | ((with_reducible refine qaw (N := 1) rfl ?_); refine qaH zdO (N := 1) zdO (cs := #[.slice I0 u0.length H0]) (t := 24) zcm ?_; intro rA hg w3 hbox hb; have DB := z_ (hbox); have GW433 := z_ ((zao : w.heap.size ≤ rA)); have OE := z_ ((zao : w.heap.size ≤ rA)); replace HB := z_ (qaa zar hb); clear hb hbox hg) | ((with_reducible refine qaw (N := 2) rfl ?_); refine qaH zdO (N := 2) zdO (cs := #[.slice none 0 0]) (t := 29) zcm ?_; intro K9 hg w4 hbox hb; have wB := z_ (hbox); have GW434 := z_ ((by rw [hg]; exact (qaz (zab OE.o)) : w.heap.size ≤ K9)); have IK := z_ ((by rw [hg]; exact (qaz (zab OE.o)) : w.heap.size ≤ K9)); have wQ := z_ ((zax : rA ≠ K9)); have cR := z_ ((zay : K9 ≠ rA)); replace DB := z_ (qab (g := rA) (o := .cells #[.slice I0 u0.length H0] 24 (0, 0)) (zac DB.o) hb); replace HB := z_ (qaa (zab OE.o) hb); clear hb hbox hg) | ((with_reducible refine qaw (N := 3) rfl ?_); refine qaH zdO (N := 3) zdO (cs := #[.slice none 0 0]) (t := 29) zcm ?_; intro xD hg w5 hbox hb; have yJ := z_ (hbox); have GW435 := z_ ((zbu : w.heap.size ≤ xD)); have qT := z_ ((zbu : w.heap.size ≤ xD)); have TQ := z_ ((zax : rA ≠ xD)); have OQ := z_ ((zay : xD ≠ rA)); replace DB := z_ (qab (g := rA) (o := .cells #[.slice I0 u0.length H0] 24 (0, 0)) (zac DB.o) hb); have zH := z_ ((by rw [hg]; exact Nat.ne_of_lt (qbo (g := K9) (o := .cells #[.slice none 0 0] 29 (0, 0)) (zac wB.o)) : K9 ≠ xD)); have DQ := z_ ((by rw [hg]; exact Nat.ne_of_gt (qbo (g := K9) (o := .cells #[.slice none 0 0] 29 (0, 0)) (zac wB.o)) : xD ≠ K9)); replace wB := z_ (qab (g := K9) (o := .cells #[.slice none 0 0] 29 (0, 0)) (zac wB.o) hb); replace HB := z_ (qaa (zaf OE.o IK.o) hb); clear hb hbox hg; have Df := wQ.o; have qh := cR.o; have mg := TQ.o; have ki := OQ.o; have dE : w5.cell? ⟨rA, 0, none⟩ = some (.slice I0 u0.length H0) := (qac DB.o 0).trans rfl; have ZD := qau DB.o 0) | ((with_reducible refine qax (f := 23) rfl ?_); refine qbq (some 6) rfl rfl Tryz.func23 zdG rfl #[.slice I0 u0.length H0] rfl zaq ?_; (with_reducible refine (qa8.calls k _ _ u0 LJ _ ?side1 ?side2 A2.o).mono ?_); (case side1 => exact zae (Kd.qar U7.o HB.o)); (case side2 => exact L8.o); rintro e w9 ⟨v437, rfl, ho0, hb⟩; refine ⟨_, rfl, ?_⟩; have RX := z_ (Kd.qcJ ho0 (qaz (zah OE.o IK.o qT.o))); replace DB := z_ (qab (g := rA) (o := .cells #[.slice I0 u0.length H0] 24 (0, 0)) (zac DB.o) hb); replace wB := z_ (qab (g := K9) (o := .cells #[.slice none 0 0] 29 (0, 0)) (zac wB.o) hb); replace yJ := z_ (qab (g := xD) (o := .cells #[.slice none 0 0] 29 (0, 0)) (zac yJ.o) hb); replace HB := z_ (qaa (zah OE.o IK.o qT.o) hb); (try clear hb); (try clear ho0); obtain ⟨tI, PB, jJ⟩ := Kd.qeD RX.o; subst jJ; have je := DQ.o; have Sg := zH.o; have IH : w9.cell? ⟨xD, 0, none⟩ = some (.slice none 0 0) := (qac yJ.o 0).trans rfl; have oI := qau yJ.o 0; have rF : w9.cell? ⟨K9, 0, none⟩ = some (.slice none 0 0) := (qac wB.o 0).trans rfl; have gF := qau wB.o 0))
 refine bodyPost_ret (results_cell_row rfl _ _ K9 29 #[.slice tI LJ.length PB] (0, 0) _ rfl (by (with_reducible repeat (first | apply qas | apply qaq | apply qam)); refine qaX (cs := #[.slice none 0 0]) ?_ 0 _ rfl; (with_reducible repeat (first | apply qas | apply qaq | apply qam)); refine qbD ?_ zH.o _; (with_reducible repeat (first | apply qas | apply qaq | apply qam)); exact wB.o) Tryz.underlying29 rfl zdG) rfl ?_;exact ⟨_, zaM, by (with_reducible repeat (first | apply Kd.qcK | apply Kd.qeC | apply Kd.qd1)); exact Kd.qbZ (Kd.qgQ (p := ⟨K9, 0, none⟩) (Kd.qgQ (p := ⟨xD, 0, none⟩) (Kd.qd7 (Kd.qd7 RX.o yJ.o zdK) wB.o zdK) (fun _ hk => hk.1.2) (.slice tI LJ.length PB)) (fun _ hk => hk.2) (.slice tI LJ.length PB)) (fun _ hk => trivial), zah OE.o IK.o qT.o⟩
def sm24 (B : Int) (x : S24) : Prop := ((x.f0.length : Int) ≤ B ∧ ∀ y ∈ x.f0, sm70 B y)
def wl24 (x : S24) : Prop := (x.f0.length ≤ maxLen ∧ ∀ y ∈ x.f0, wl70 y)
theorem to_Heap (x : S24) (hs : sm24 1048576 x) : Ev (fun k => qcQ.f k (x.f0)) ((x.f0).map cv70) := by
 unfold qcQ.f;exact Ev.bind (to_NodeS _ hs) (Ev.is rfl)
theorem heap_len {l : List S70} (hs : sm24 1048576 ⟨l⟩) : len29 ⟨l.map cv70⟩ := by
 refine ⟨by simp only [List.length_map]; have := hs.1; simp only at this; omega, fun x hx => ?_⟩;obtain ⟨y, hy, rfl⟩ := List.mem_map.1 hx;have h := hs.2 y hy;refine ⟨trivial, ⟨by simp only [cv70, List.length_map]; have := h.2.1.1; omega, fun _ _ => ⟨trivial, trivial⟩⟩, by simp only [cv70]; have := h.2.2.1.1; omega, by simp only [cv70]; have := h.2.2.2; omega⟩
theorem qmc {l : List S70} (hs : sm24 1048576 ⟨l⟩) : (qcf (l.map cv70) : Int) ≤ 5000000000000 := by
 have h := qjA (c := 4194305) (l.map cv70) fun x hx => by
  obtain ⟨y, hy, rfl⟩ := List.mem_map.1 hx;have h := hs.2 y hy;have h1 := h.2.1.1;have h2 := h.2.2.1.1;have h3 := h.2.2.2;unfold costN;simp only [cv70, List.length_map];omega
 have hl := hs.1;simp only at hl;rw [List.length_map] at h;have h2 : l.length * 4194305 ≤ 1048576 * 4194305 := Nat.mul_le_mul_right _ zdM;omega
def qcw.f (l0 : List Int) (a1 : Int) : Option (Int) := if (wrap64 (a1 - (l0.length : Int))) < 0 then (some (-1)) else (some (wrap64 (a1 - (l0.length : Int))))
theorem qcw.calls (A0 : Option Addr) (c0 : Nat) (l0 : List Int) (a1 : Int) (r : Int) (w : World) (hr0 : Kd.C (Kd.int .i64) w A0 l0.length l0) (hc0 : l0.length ≤ c0) (h : qcw.f l0 a1 = some r) :
  Calls Tryz.prog 68 #[.slice A0 l0.length c0, .int .i64 a1] w fun e w' => e = .returned (.int .i64 r) ∧ qcm w w' := by
 have Z1 := z_ hr0;have kB := z_ hc0;clear hr0 hc0;have H : (if (wrap64 (a1 - (l0.length : Int))) < 0 then (some (-1)) else (some (wrap64 (a1 - (l0.length : Int))))) = some r := h;clear h
 by_cases c3 : (wrap64 (a1 - (l0.length : Int))) < 0
 ·rw [if_pos c3] at H;have Y1 : decide ((wrap64 (a1 - (l0.length : Int))) < 0) = true := decide_eq_true c3;clear c3;obtain rfl := Option.some.inj H
  go_enter Tryz.func68, Tryz.ntmps68
  go_wp2
  go_ret
  exact ⟨zcc, zbh⟩
 ·rw [if_neg c3] at H;have Y1 : decide ((wrap64 (a1 - (l0.length : Int))) < 0) = false := decide_eq_false c3;clear c3;obtain rfl := Option.some.inj H
  go_enter Tryz.func68, Tryz.ntmps68
  go_wp2
  go_ret
  exact ⟨zcc, zbh⟩
theorem sz_IntS (l : List Int) (hw : l.length ≤ maxLen) (B left : Int) (h0 : 0 ≤ left) (h1 : left ≤ B) (hB : B ≤ 1048576) : ∃ r, Ev (fun k => qcw.f l left) r ∧ (0 ≤ r → r ≤ left ∧ (l.length : Int) ≤ B) := by
 have hl := Nat.le_trans hw qd9;unfold qcw.f;have e : wrap64 (left - (l.length : Int)) = left - (l.length : Int) := qc0 zdM zdM;simp only [e]
 by_cases c : left - (l.length : Int) < 0
 ·exact ⟨-1, Ev.pos c (Ev.is rfl), fun h => zdM⟩
 ·exact ⟨left - (l.length : Int), Ev.neg c (Ev.is rfl), fun _ => ⟨zdM, zdM⟩⟩
def qdz.f (B0 : ByteArray) (I2 : ByteArray) (a1 : Int) : Option (Int) := if (wrap64 (a1 - (B0.size : Int))) < 0 then (some (-1)) else (if (wrap64 ((wrap64 (a1 - (B0.size : Int))) - (I2.size : Int))) < 0 then (some (-1)) else (some (wrap64 ((wrap64 (a1 - (B0.size : Int))) - (I2.size : Int)))))
theorem qdz.calls (B0 : ByteArray) (I2 : ByteArray) (a1 : Int) (r : Int) (w : World) (h : qdz.f B0 I2 a1 = some r) :
  Calls Tryz.prog 97 #[.agg #[.string B0, .string I2], .int .i64 a1] w fun e w' => e = .returned (.int .i64 r) ∧ Below w.heap.size w w' := by
 have QR := Tryz.underlying135;have HB := z_ (Below.refl w.heap.size w);have H : (if (wrap64 (a1 - (B0.size : Int))) < 0 then (some (-1)) else (if (wrap64 ((wrap64 (a1 - (B0.size : Int))) - (I2.size : Int))) < 0 then (some (-1)) else (some (wrap64 ((wrap64 (a1 - (B0.size : Int))) - (I2.size : Int)))))) = some r := h;clear h
 by_cases c3 : (wrap64 (a1 - (B0.size : Int))) < 0
 ·rw [if_pos c3] at H;have Y1 : decide ((wrap64 (a1 - (B0.size : Int))) < 0) = true := decide_eq_true c3;clear c3;obtain rfl := Option.some.inj H
  go_enter Tryz.func97, Tryz.ntmps97
  go_wp2_with (first | ((with_reducible refine qaw (N := 2) rfl ?_); refine qaH zdO (N := 2) zdO (cs := #[.string B0, .string I2]) (t := 135) zcm ?_; intro JE hg w4 hbox hb; have bK := z_ (hbox); have DX := z_ ((zao : w.heap.size ≤ JE)); have RK := z_ ((zao : w.heap.size ≤ JE)); replace HB := z_ (qaa zar hb); clear hb hbox hg; obtain ⟨CT, aT, xT, UT⟩ := zcells2 bK.o))
  go_ret
  exact ⟨zaM, zab RK.o⟩
 ·rw [if_neg c3] at H;have Y1 : decide ((wrap64 (a1 - (B0.size : Int))) < 0) = false := decide_eq_false c3;clear c3
  by_cases c6 : (wrap64 ((wrap64 (a1 - (B0.size : Int))) - (I2.size : Int))) < 0
  ·rw [if_pos c6] at H;have u7 : decide ((wrap64 ((wrap64 (a1 - (B0.size : Int))) - (I2.size : Int))) < 0) = true := decide_eq_true c6;clear c6;obtain rfl := Option.some.inj H
   go_enter Tryz.func97, Tryz.ntmps97
   go_wp2_with (first | ((with_reducible refine qaw (N := 2) rfl ?_); refine qaH zdO (N := 2) zdO (cs := #[.string B0, .string I2]) (t := 135) zcm ?_; intro JE hg w7 hbox hb; have bK := z_ (hbox); have DX := z_ ((zao : w.heap.size ≤ JE)); have RK := z_ ((zao : w.heap.size ≤ JE)); replace HB := z_ (qaa zar hb); clear hb hbox hg; obtain ⟨dE, fJ, ZD, BI⟩ := zcells2 bK.o))
   go_ret
   exact ⟨zaM, zab RK.o⟩
  ·rw [if_neg c6] at H;have u7 : decide ((wrap64 ((wrap64 (a1 - (B0.size : Int))) - (I2.size : Int))) < 0) = false := decide_eq_false c6;clear c6;obtain rfl := Option.some.inj H
   go_enter Tryz.func97, Tryz.ntmps97
   go_wp2_with (first | ((with_reducible refine qaw (N := 2) rfl ?_); refine qaH zdO (N := 2) zdO (cs := #[.string B0, .string I2]) (t := 135) zcm ?_; intro JE hg w9 hbox hb; have bK := z_ (hbox); have DX := z_ ((zao : w.heap.size ≤ JE)); have RK := z_ ((zao : w.heap.size ≤ JE)); replace HB := z_ (qaa zar hb); clear hb hbox hg; obtain ⟨X9, ID, fA, hD⟩ := zcells2 bK.o))
   go_ret
   exact ⟨zaM, zab RK.o⟩
theorem sz_Pair (x : S135) (hw : wl135 x) (B left : Int) (h0 : 0 ≤ left) (h1 : left ≤ B) (hB : B ≤ 1048576) : ∃ r, Ev (fun k => qdz.f (x.f0) (x.f1) left) r ∧ (0 ≤ r → r ≤ left ∧ sm135 B x) := by
 unfold qdz.f;have hs0 : x.f0.size ≤ 9223372036854775807 := Nat.le_trans hw.1 qd9;have e0 : wrap64 (left - (x.f0.size : Int)) = left - (x.f0.size : Int) := qc0 zdM zdM;simp only [e0]
 by_cases c0 : left - (x.f0.size : Int) < 0
 ·exact ⟨-1, Ev.pos c0 (Ev.is rfl), fun h => zdM⟩
 suffices hh : ∃ r, Ev _ r ∧ (0 ≤ r → r ≤ left ∧ sm135 B x) from (let ⟨r, hr, hq⟩ := hh; ⟨r, Ev.neg c0 hr, hq⟩)
 have hs1 : x.f1.size ≤ 9223372036854775807 := Nat.le_trans hw.2 qd9;have e1 : wrap64 ((left - (x.f0.size : Int)) - (x.f1.size : Int)) = (left - (x.f0.size : Int)) - (x.f1.size : Int) := qc0 zdM zdM;simp only [e1]
 by_cases c1 : (left - (x.f0.size : Int)) - (x.f1.size : Int) < 0
 ·exact ⟨-1, Ev.pos c1 (Ev.is rfl), fun h => zdM⟩
 suffices hh : ∃ r, Ev _ r ∧ (0 ≤ r → r ≤ left ∧ sm135 B x) from (let ⟨r, hr, hq⟩ := hh; ⟨r, Ev.neg c1 hr, hq⟩)
 exact ⟨((left - (x.f0.size : Int)) - (x.f1.size : Int)), Ev.is rfl, fun _ => ⟨zdM, ⟨zdM, zdM⟩⟩⟩
def qaP.l0 : Nat → List (S135) → Int → Int → Option (Int)
 | 0, _, _, _ => none
 | k + 1, x0, x1, x5 => if x5 < (x0.length : Int) then (if 0 ≤ x5 then ((qdz.f ((qcl x0 x5).f0) ((qcl x0 x5).f1) x1).bind fun EI => (if EI < 0 then (some (-1)) else (qaP.l0 k x0 EI (wrap64 (x5 + 1))))) else (none)) else (some x1)
def qaP.f (k : Nat) (l0 : List (S135)) (a1 : Int) : Option (Int) := if (wrap64 (a1 - (l0.length : Int))) < 0 then (some (-1)) else (qaP.l0 k l0 (wrap64 (a1 - (l0.length : Int))) 0)
theorem qaP.qbl : ∀ k, (∀ y0 y1 y2, LeO (qaP.l0 k y0 y1 y2) (qaP.l0 (k + 1) y0 y1 y2))
 | 0 => fun _ _ _ r h => by simp [qaP.l0] at h
 | k + 1 => by
  have Q9 := qaP.qbl k
  ·intro y0 y1 y2;unfold qaP.l0;exact zleo_
theorem qaP.mono : ∀ a0 a1 k, LeO (qaP.f k a0 a1) (qaP.f (k + 1) a0 a1) := by
 intro a0 a1 k;have Q9 := qaP.qbl k;unfold qaP.f;exact zleo_
theorem qaP.calls (k : Nat) (A0 : Option Addr) (c0 : Nat) (l0 : List (S135)) (a1 : Int) (r : Int) (w : World) (hr0 : Kd.C k135 w A0 l0.length l0) (hc0 : l0.length ≤ c0) (h : qaP.f k l0 a1 = some r) :
  Calls Tryz.prog 66 #[.slice A0 l0.length c0, .int .i64 a1] w fun e w' => e = .returned (.int .i64 r) ∧ Below w.heap.size w w' := by
 have QR := Tryz.underlying135;have Z1 := z_ hr0;have kB := z_ hc0;clear hr0 hc0;have HB := z_ (Below.refl w.heap.size w);have H : (if (wrap64 (a1 - (l0.length : Int))) < 0 then (some (-1)) else (qaP.l0 k l0 (wrap64 (a1 - (l0.length : Int))) 0)) = some r := h;clear h
 by_cases c3 : (wrap64 (a1 - (l0.length : Int))) < 0
 ·rw [if_pos c3] at H;have Y1 : decide ((wrap64 (a1 - (l0.length : Int))) < 0) = true := decide_eq_true c3;clear c3;obtain rfl := Option.some.inj H
  go_enter Tryz.func66, Tryz.ntmps66
  go_wp2
  go_ret
  exact ⟨zaM, zar⟩
 ·rw [if_neg c3] at H;have Y1 : decide ((wrap64 (a1 - (l0.length : Int))) < 0) = false := decide_eq_false c3;clear c3;have H' := z_ H;clear H
  go_enter Tryz.func66, Tryz.ntmps66
  go_wp2
  go_loopg [1, 5] k (fun kq v1 v5 w' => ∃ (L0 : Int) (o0 : Int), v1 = .int .i64 L0 ∧ v5 = .int .i64 o0 ∧ Aside0 (qaP.l0 kq l0 L0 o0 = some r) ∧ Aside0 (kq ≤ k) ∧ Aside0 (Below w.heap.size w w'))
  case atStart => exact ⟨(wrap64 (a1 - (l0.length : Int))), (0), zcc, zcc, H', ⟨Nat.le_refl _⟩, ⟨zar⟩⟩
  case round =>
   clear H';try clear c3
   try clear Y1
   obtain ⟨L0, o0, rfl, rfl, HA, I5, HB⟩ := hrel
   cases gk with
   | zero => exact absurd HA.o (by simp [qaP.l0])
   | succ k1 =>
    have H := HA.o;clear HA;simp only [qaP.l0] at H
    by_cases c4 : o0 < (l0.length : Int)
    ·rw [if_pos c4] at H;have G4 : decide (o0 < (l0.length : Int)) = true := decide_eq_true c4;clear c4
     by_cases c5 : 0 ≤ o0
     ·rw [if_pos c5] at H;have O8 : decide (0 ≤ o0) = true := decide_eq_true c5;clear c5;replace H := Option.bind_eq_some_iff.mp H;obtain ⟨EI, AT, H⟩ := H;try dsimp only at H
      have A6 := z_ AT;clear AT
      by_cases c7 : EI < 0
      ·rw [if_pos c7] at H;have QA : decide (EI < 0) = true := decide_eq_true c7;clear c7;obtain rfl := Option.some.inj H;have BM : 0 ≤ (o0 : Int) := zod_;have mM : o0 < (l0.length : Int) := zod_;obtain ⟨ce, xa, JD, ED⟩ := qjL Z1.o o0 BM mM
       cases xa
       replace JD := zmove_ HB rfl JD;replace ED := zmove_ HB rfl ED;replace BM := eq_true BM;replace mM := eq_true mM
       go_wp2_with (first | ((with_reducible refine qax (f := 97) rfl ?_); refine qbq (some 23) rfl rfl Tryz.func97 zdG rfl #[.agg #[.string ((qcl l0 o0).f0), .string ((qcl l0 o0).f1)], .int .i64 L0] rfl zaq ?_; (with_reducible refine (qdz.calls ((qcl l0 o0).f0) ((qcl l0 o0).f1) L0 EI _ A6.o).mono ?_); rintro e w8 ⟨rfl, hb⟩; refine ⟨_, rfl, ?_⟩; replace HB := z_ (qaa zar hb); (try clear hb)))
       go_ret
       exact ⟨zaM, zar⟩
      ·rw [if_neg c7] at H;have QA : decide (EI < 0) = false := decide_eq_false c7;clear c7;have H' := z_ H;clear H;have BM : 0 ≤ (o0 : Int) := zod_;have mM : o0 < (l0.length : Int) := zod_;obtain ⟨ce, xa, JD, ED⟩ := qjL Z1.o o0 BM mM
       cases xa
       replace JD := zmove_ HB rfl JD;replace ED := zmove_ HB rfl ED;replace BM := eq_true BM;replace mM := eq_true mM
       go_wp2_with (first | ((with_reducible refine qax (f := 97) rfl ?_); refine qbq (some 23) rfl rfl Tryz.func97 zdG rfl #[.agg #[.string ((qcl l0 o0).f0), .string ((qcl l0 o0).f1)], .int .i64 L0] rfl zaq ?_; (with_reducible refine (qdz.calls ((qcl l0 o0).f0) ((qcl l0 o0).f1) L0 EI _ A6.o).mono ?_); rintro e w9 ⟨rfl, hb⟩; refine ⟨_, rfl, ?_⟩; replace HB := z_ (qaa zar hb); (try clear hb)))
       go_roundg k1
       case measure => have := I5.o; omega
       case rel => exact ⟨(EI), (wrap64 (o0 + 1)), zcc, zcc, H', ⟨zcY⟩, ⟨zar⟩⟩
     ·rw [if_neg c5] at H;exact absurd H zdN
    ·rw [if_neg c4] at H;have G4 : decide (o0 < (l0.length : Int)) = false := decide_eq_false c4;clear c4;obtain rfl := Option.some.inj H
     go_wp2
     go_ret
     exact ⟨zaM, zar⟩
theorem qiI (B : Int) (hB : B ≤ 1048576) (rest : List S135) : ∀ (pre : List S135) (left : Int), (pre ++ rest).length ≤ 9223372036854775807 → (∀ y ∈ rest, wl135 y) → 0 ≤ left → left ≤ B →
  ∃ r, Ev (fun k => qaP.l0 k (pre ++ rest) left ((pre.length : Nat) : Int)) r ∧ (0 ≤ r → r ≤ left ∧ ∀ y ∈ rest, sm135 B y) := by
 induction rest with
 | nil =>
  intro pre left hl hw h0 h1;refine ⟨left, Ev.succ ?_, fun _ => ⟨Int.le_refl _, fun y hy => by cases hy⟩⟩;simp only [qaP.l0];exact Ev.neg zdN (Ev.is rfl)
 | cons x rest ih =>
  intro pre left hl hw h0 h1;have hx : qcl (pre ++ x :: rest) ((pre.length : Nat) : Int) = x := by simp [qcl, List.getD_eq_getElem?_getD]
  have hlt : ((pre.length : Nat) : Int) < ((pre ++ x :: rest).length : Int) := zdF;have hwp : wrap64 (((pre.length : Nat) : Int) + 1) = (((pre ++ [x]).length : Nat) : Int) := zck;have e1 : pre ++ x :: rest = (pre ++ [x]) ++ rest := zdN;have hl2 : ((pre ++ [x]) ++ rest).length ≤ 9223372036854775807 := zdo
  obtain ⟨r, hr, hq⟩ := sz_Pair x (hw x List.mem_cons_self) B left h0 h1 hB
  by_cases c : r < 0
  ·refine ⟨-1, Ev.succ ?_, fun h => zdM⟩;simp only [qaP.l0, hx];exact Ev.pos hlt (Ev.pos zdM (Ev.bind hr (Ev.pos c (Ev.is rfl))))
  ·have hq' := hq zdM;obtain ⟨r2, hr2, hq2⟩ := ih (pre ++ [x]) r hl2 (fun y hy => hw y (List.mem_cons_of_mem _ hy)) zdM zdM;refine ⟨r2, Ev.succ ?_, fun h => ?_⟩
   ·simp only [qaP.l0, hx, hwp];rw [← e1] at hr2;exact Ev.pos hlt (Ev.pos zdM (Ev.bind hr (Ev.neg c hr2)))
   ·have h3 := hq2 h;refine ⟨zdM, fun y hy => ?_⟩
    rcases List.mem_cons.1 hy with rfl | hy
    ·exact hq'.2
    ·exact h3.2 y hy
theorem sz_PairS (l : List S135) (hw : (l.length ≤ maxLen ∧ ∀ y ∈ l, wl135 y)) (B left : Int) (h0 : 0 ≤ left) (h1 : left ≤ B) (hB : B ≤ 1048576) : ∃ r, Ev (fun k => qaP.f k l left) r ∧ (0 ≤ r → r ≤ left ∧ ((l.length : Int) ≤ B ∧ ∀ y ∈ l, sm135 B y)) := by
 have hl := Nat.le_trans hw.1 qd9;unfold qaP.f;have e : wrap64 (left - (l.length : Int)) = left - (l.length : Int) := qc0 zdM zdM;simp only [e]
 by_cases c : left - (l.length : Int) < 0
 ·exact ⟨-1, Ev.pos c (Ev.is rfl), fun h => zdM⟩
 ·obtain ⟨r, hr, hq⟩ := qiI B hB l [] (left - (l.length : Int)) zdv hw.2 zdM zdM;exact ⟨r, Ev.neg c (by simpa using hr), fun h => ⟨zcX, zdM, (hq h).2⟩⟩
end Go.Proofs.YtcdokcpiahbejaaGreat.X
