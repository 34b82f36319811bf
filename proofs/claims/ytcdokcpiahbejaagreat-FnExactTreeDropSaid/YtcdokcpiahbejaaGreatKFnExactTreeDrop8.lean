import Derived.Test.YtcdokcpiahbejaaGreatKFnExactTreeDrop7
set_option maxRecDepth 100000
set_option maxHeartbeats 16000000
set_option linter.unusedVariables false
set_option linter.unusedSimpArgs false
namespace Go.Proofs.YtcdokcpiahbejaaGreat.X
open Go.RowKit Go.Proofs.PW Go.Proofs.PL Go.Proofs.PM
attribute [local go_sem] qaj qak qal qaf qag qao qap qad qae qah qai
def qaZ.l0 : Nat → Int → List (S80) → List (S80) → Option ((List (S80)))
 | 0, _, _, _ => none
 | k + 1, x4, x230000, x235000 => if x4 < (x230000.length : Int) then (if 0 ≤ x4 then ((qb3.f ((qaC x230000 x4).f0) ((qaC x230000 x4).f1) ((qaC x230000 x4).f2) ((qaC x230000 x4).f3)).bind fun dP => (if x235000.length < 1759218604441 then (qaZ.l0 k (wrap64 (x4 + 1)) x230000 (x235000 ++ [(⟨dP.1, dP.2.1, dP.2.2.1, dP.2.2.2⟩ : S80)])) else (none))) else (none)) else (some x235000)
def qaZ.f (k : Nat) (u0 : List (S80)) : Option ((List (S80))) := qaZ.l0 k 0 u0 (([] : List (S80)))
theorem qaZ.qbl : ∀ k, (∀ y0 y1 y2, LeO (qaZ.l0 k y0 y1 y2) (qaZ.l0 (k + 1) y0 y1 y2))
 | 0 => fun _ _ _ r h => by simp [qaZ.l0] at h
 | k + 1 => by
  have Q9 := qaZ.qbl k
  ·intro y0 y1 y2;unfold qaZ.l0;exact zleo_
def qaZ.T5 : Bool × List (List Nat × List Nat) := (true, [([], []), ([0], [0]), ([], []), ([2], [2]), ([], []), ([3, 4], [3, 4]), ([5], [5]), ([6], [6]), ([7], [7]), ([1, 8, 7], [1, 8]), ([0, 1, 2, 3, 4, 5, 6, 7, 8, 9], []), ([10, 9, 9, 0, 1, 2, 3, 4, 5, 6, 7, 8, 9], [9, 10])])
def qaZ.B5 : List Nat := [0, 1, 0, 4, 0, 28, 60, 124, 252, 511, 1023, 2047]
theorem qaZ.tab5 : rtab .any (opsOf Tryz.f21 5) = qaZ.T5 := zdG
theorem qaZ.bits5 : qbW qaZ.T5.2 qaZ.B5 = true := zdG
theorem qaZ.calls (k : Nat) (I0 : Option Addr) (H0 : Nat) (u0 : List (S80)) (r : List (S80)) (w : World) (Z0 : Kd.C k80 w I0 u0.length u0) (Q1 : u0.length ≤ H0) (h : qaZ.f k u0 = some r) :
  Calls Tryz.prog 21 #[.agg #[.slice I0 u0.length H0]] w fun e w' => ∃ B7 : Value, e = .returned (.agg #[B7]) ∧ Kd.S k80 80 w' w.heap.size (fun _ => True) B7 r ∧ Below w.heap.size w w' := by
 have qW := Tryz.underlying29;have lI := Tryz.underlying80;have U7 := z_ Z0;have L8 := z_ Q1;clear Z0 Q1;have HB := z_ (Below.refl w.heap.size w);have H : (qaZ.l0 k 0 u0 (([] : List (S80)))) = some r := h;clear h;obtain ⟨jX, PK⟩ : ∃ y_ : List (S80), y_ = (([] : List (S80))) := ⟨_, rfl⟩
 replace H : (qaZ.l0 k 0 u0 jX) = some r := by first | (rw [PK]; with_reducible exact H) | (have J1 := (Option.bind_some _ _).symm.trans H; rw [PK]; with_reducible exact J1) | (have J1 := (Option.bind_some _ _).symm.trans H; with_reducible exact J1) | with_reducible exact H | (rw [PK]; exact H) | exact H
 have vX := z_ PK;clear PK;have H' := z_ H;clear H
 go_enter Tryz.func21, Tryz.ntmps21
 go_wp2_with (first | ((with_reducible refine qaw (N := 1) rfl ?_); refine qaH zdO (N := 1) zdO (cs := #[.slice I0 u0.length H0]) (t := 29) zcm ?_; intro N7 hg w2 hbox hb; have i4 := z_ (hbox); have GW229 := z_ ((zao : w.heap.size ≤ N7)); have X7 := z_ ((zao : w.heap.size ≤ N7)); replace HB := z_ (qaa zar hb); clear hb hbox hg) | ((with_reducible refine qaw (N := 2) rfl ?_); refine qaH zdO (N := 2) zdO (cs := #[.slice none 0 0]) (t := 29) zcm ?_; intro S7 hg w3 hbox hb; have m5 := z_ (hbox); have GW230 := z_ ((by rw [hg]; exact (qaz (zab X7.o)) : w.heap.size ≤ S7)); have L9 := z_ ((by rw [hg]; exact (qaz (zab X7.o)) : w.heap.size ≤ S7)); have lH := z_ ((zat : N7 ≠ S7)); have rH := z_ ((zau : S7 ≠ N7)); replace i4 := z_ (qab (g := N7) (o := .cells #[.slice I0 u0.length H0] 29 (0, 0)) (zac i4.o) hb); replace HB := z_ (qaa (zab X7.o) hb); clear hb hbox hg) | ((with_reducible refine qaw (N := 5) rfl ?_); refine Kd.S_lit k80 _ 80 zdO (N := 5) zdO (xs := ([] : List (S80))) (inner := []) (ok := fun _ => True) (okp := fun _ => True) zcm ?hp (fun _ hk => hk) trivial (Below.refl _ _) (Nat.le_refl _) zdN ?_; (case hp => exact (Reps.none _ _)); intro v232 w4 zB hb j3 K0; clear j3 K0; (first | rw [← vX.o] at zB | (simp only [Int.reduceToNat] at zB; rw [← vX.o] at zB)); have nQ := z_ (Kd.qcJ zB (qaz (zaf X7.o L9.o))); replace i4 := z_ (qab (g := N7) (o := .cells #[.slice I0 u0.length H0] 29 (0, 0)) (zac i4.o) hb); replace m5 := z_ (qab (g := S7) (o := .cells #[.slice none 0 0] 29 (0, 0)) (zac m5.o) hb); replace HB := z_ (qaa (zaf X7.o L9.o) hb); clear hb zB; obtain ⟨UX, IT, OS⟩ := Kd.qeD nQ.o; subst OS) | ((with_reducible refine qaw (N := 3) rfl ?_); refine qaH zdO (N := 3) zdO (cs := #[.slice none 0 0]) (t := 29) zcm ?_; intro E8 hg w7 hbox hb; replace nQ := z_ (Kd.qaO (zag nQ.o) hb); have P4 := z_ (hbox); have GW234 := z_ ((zbr : w.heap.size ≤ E8)); have VD := z_ ((zbr : w.heap.size ≤ E8)); have n8 := z_ ((zat : N7 ≠ E8)); have fB := z_ ((zau : E8 ≠ N7)); replace i4 := z_ (qab (g := N7) (o := .cells #[.slice I0 u0.length H0] 29 (0, 0)) (zac i4.o) hb); have C9 := z_ ((by rw [hg]; exact Nat.ne_of_lt (qbo (g := S7) (o := .cells #[.slice none 0 0] 29 (0, 0)) (zac m5.o)) : S7 ≠ E8)); have kE := z_ ((by rw [hg]; exact Nat.ne_of_gt (qbo (g := S7) (o := .cells #[.slice none 0 0] 29 (0, 0)) (zac m5.o)) : E8 ≠ S7)); replace m5 := z_ (qab (g := S7) (o := .cells #[.slice none 0 0] 29 (0, 0)) (zac m5.o) hb); replace HB := z_ (qaa (zaf X7.o L9.o) hb); clear hb hbox hg; have Xd := fB.o; have Dg := n8.o; have ng := kE.o; have Le := C9.o; have X9 : w7.cell? ⟨E8, 0, none⟩ = some (.slice none 0 0) := (qac P4.o 0).trans rfl; have fA := qau P4.o 0))
 go_loopg [4] k (fun kq v4 w' => ∃ (F0 : Int) (j6 : List (S80)) (K4 : Value), v4 = .int .i64 F0 ∧ Aside0 (qaZ.l0 kq F0 u0 j6 = some r) ∧ Aside0 (kq ≤ k) ∧ Aside0 (Kd.S k80 80 w' w.heap.size (fun _ => True) K4 j6) ∧ Aside0 (w'.heap[N7]? = some (.cells #[(.slice I0 u0.length H0)] 29 (0, 0))) ∧ Aside0 (w'.heap[S7]? = some (.cells #[(.slice none 0 0)] 29 (0, 0))) ∧ Aside0 (w'.heap[E8]? = some (.cells #[K4] 29 (0, 0))) ∧ Aside0 (Below w.heap.size w w'))
 case atStart => exact ⟨(0), (jX), (.slice UX jX.length IT), zcc, H', ⟨Nat.le_refl _⟩, ⟨by (with_reducible repeat (first | apply Kd.qcK | apply Kd.qeC | apply Kd.qd1)); exact Kd.qbZ (Kd.qgQ (p := ⟨E8, 0, none⟩) (Kd.qd7 nQ.o P4.o zdK) (fun _ hk => hk.2) (.slice UX jX.length IT)) (fun _ hk => trivial)⟩, ⟨by (with_reducible repeat (first | apply qas | apply qaq | apply qam)); refine qbD ?_ n8.o _; (with_reducible repeat (first | apply qas | apply qaq | apply qam)); exact i4.o⟩, ⟨by (with_reducible repeat (first | apply qas | apply qaq | apply qam)); refine qbD ?_ C9.o _; (with_reducible repeat (first | apply qas | apply qaq | apply qam)); exact m5.o⟩, ⟨by (with_reducible repeat (first | apply qas | apply qaq | apply qam)); refine qaX (cs := #[.slice none 0 0]) ?_ 0 _ rfl; (with_reducible repeat (first | apply qas | apply qaq | apply qam)); exact P4.o⟩, ⟨zah X7.o L9.o VD.o⟩⟩
 case round =>
  clear H';try clear X9
  try clear fA
  obtain ⟨F0, j6, K4, rfl, HA, I5, F1, i4, m5, P4, HB⟩ := hrel
  cases gk with
  | zero => exact absurd HA.o (by simp [qaZ.l0])
  | succ k1 =>
   have H := HA.o;clear HA;simp only [qaZ.l0] at H
   by_cases c11 : F0 < (u0.length : Int)
   ·rw [if_pos c11] at H;have qC : decide (F0 < (u0.length : Int)) = true := decide_eq_true c11;clear c11
    by_cases c12 : 0 ≤ F0
    ·rw [if_pos c12] at H;have fY : decide (0 ≤ F0) = true := decide_eq_true c12;clear c12;replace H := Option.bind_eq_some_iff.mp H;obtain ⟨⟨t236, eR, xR, SQ⟩, gG, H⟩ := H;try dsimp only at H
     have lU := z_ gG;clear gG
     by_cases c14 : j6.length < 1759218604441
     ·rw [if_pos c14] at H;have nh := z_ c14;clear c14;obtain ⟨wV, MJ⟩ : ∃ y_ : List (S80), y_ = (j6 ++ [(⟨t236, eR, xR, SQ⟩ : S80)]) := ⟨_, rfl⟩
      replace H : (qaZ.l0 k1 (wrap64 (F0 + 1)) u0 wV) = some r := by first | (rw [MJ]; with_reducible exact H) | (have J1 := (Option.bind_some _ _).symm.trans H; rw [MJ]; with_reducible exact J1) | (have J1 := (Option.bind_some _ _).symm.trans H; with_reducible exact J1) | with_reducible exact H | (rw [MJ]; exact H) | exact H
      have ff := z_ MJ;clear MJ;have H' := z_ H;clear H;have hnb15 := lH.o;have hnc15 := rH.o;have hnb16 := n8.o;have hnc16 := fB.o;have OW : wr.cell? ⟨N7, 0, none⟩ = some (.slice I0 u0.length H0) := (qac i4.o 0).trans rfl;have dV := qau i4.o 0;try go_wp2
      have O1 := z_ (Kd.qd1 F1.o);have C4 := z_ (qaq i4.o);have G7 := z_ (qaq m5.o);have R7 := z_ (qaq P4.o);have EA := z_ (qa1 HB.o);clear F1 i4 m5 P4 HB;have F1 := O1;have i4 := C4;have m5 := G7;have P4 := R7;have HB := EA;clear O1 C4 G7 R7 EA;have td : 0 ≤ (F0 : Int) := zod_;have ic : F0 < (u0.length : Int) := zod_;obtain ⟨AB, JR, LR, NS, aU, ER, wS, Mo, mF, DF, oF, uF, mO, EN, RP, QP, fQ, wP⟩ := qdq U7.o F0 td ic;have vC := uF;have jD := oF;have MD := DF;have EC := mF
      cases Mo
      replace mF := zmove_ HB rfl mF;replace DF := zmove_ HB rfl DF;replace oF := zmove_ HB rfl oF;replace uF := zmove_ HB rfl uF;have TP := z_ EN;have eX := z_ mO;clear EN mO;have QN := z_ QP;have yU := z_ RP;clear QP RP;have YN := z_ wP;have eW := z_ fQ;clear wP fQ;replace td := eq_true td;replace ic := eq_true ic;refine qdv (n := 12) (S := fun w' => w'.cell? ⟨E8, 0, none⟩ = some (K4) ∧ w'.cell? ⟨N7, 0, none⟩ = some (.slice (some AB) u0.length H0) ∧ w'.cell? (AB.add ((F0).toNat * 4)) = some (.bool ((qaC u0 F0).f0)) ∧ w'.cell? ⟨(AB.add ((F0).toNat * 4)).block, (AB.add ((F0).toNat * 4)).off + 1, none⟩ = some (.slice JR ((qaC u0 F0).f1).length LR) ∧ w'.cell? ⟨(AB.add ((F0).toNat * 4)).block, (AB.add ((F0).toNat * 4)).off + 2, none⟩ = some (.slice NS ((qaC u0 F0).f2).length aU) ∧ w'.cell? ⟨(AB.add ((F0).toNat * 4)).block, (AB.add ((F0).toNat * 4)).off + 3, none⟩ = some (.slice ER ((qaC u0 F0).f3).length wS)) (ds := [11]) zArrF12 zdG rfl rfl ⟨(qac P4.o 0).trans rfl, (qac i4.o 0).trans rfl, (zcm_ HB.o EC), (zcm_ HB.o MD), (zcm_ HB.o jD), (zcm_ HB.o vC)⟩ (fun hHeld => ?_); refine qbU qaZ.tab5 qaZ.bits5 (fun E2 r8 => ?_);generalize wr.drew = ZU at F1 i4 m5 P4 HB TP QN YN mF DF oF uF hHeld ⊢;refine qce (i := 0) (N := some 14) (v := _) (a' := _) #[true, false, false, false, false, false, false, false, false, false, false, false] rfl rfl (qbI E2.o zdG) (fun _ _ _ h => h) (Or.inl ⟨zdO, zct⟩) zaF ?_;refine qce (i := 2) (N := some 16) (v := _) (a' := _) #[true, false, true, false, false, false, false, false, false, false, false, false] rfl rfl (qbI E2.o zdG) (fun _ _ _ h => h) (Or.inl ⟨zdO, zct⟩) zaF ?_;refine qce (i := 4) (N := some 18) (v := _) (a' := _) #[true, false, true, false, true, false, false, false, false, false, false, false] rfl rfl (qbI E2.o zdG) (fun _ _ _ h => h) (Or.inl ⟨zdO, zct⟩) zaF ?_;refine qfc (i := 1) (N := some 15) (v := _) (a' := _) #[true, true, true, false, true, false, false, false, false, false, false, false] rfl rfl (qcI E2.o r8.o zdG) (fun _ _ _ h => h) (Or.inl ⟨zdO, zaZ⟩) hHeld zaF ?_;refine qfc (i := 3) (N := some 17) (v := _) (a' := _) #[true, true, true, true, true, false, false, false, false, false, false, false] rfl rfl (qcI E2.o r8.o zdG) (fun _ _ _ h => h) (Or.inl ⟨zdO, zaZ⟩) hHeld zaF ?_;refine qce (i := 5) (N := some 19) (v := _) (a' := _) #[true, true, true, true, true, true, false, false, false, false, false, false] rfl rfl (qbI E2.o zdG) (fun _ _ _ h => h) (Or.inl ⟨zdO, zct⟩) zaF ?_;refine qfc (i := 6) (N := some 20) (v := _) (a' := _) #[true, true, true, true, true, true, true, false, false, false, false, false] rfl rfl (qcI E2.o r8.o zdG) (fun _ _ _ h => h) (Or.inl ⟨zdO, zaZ⟩) hHeld zaF ?_;refine one_ (i := 7) (N := some 21) #[true, true, true, true, true, true, true, true, false, false, false, false] rfl rfl (qdO E2.o zdG) zdK (fun K hK => ?_);refine qfE Tryz.func41 zdG rfl #[.agg #[.bool ((qaC u0 F0).f0), .slice JR ((qaC u0 F0).f1).length LR, .slice NS ((qaC u0 F0).f2).length aU, .slice ER ((qaC u0 F0).f3).length wS]] zdO rfl rfl zaq ?_
      with_reducible refine (qb3.calls ((qaC u0 F0).f0) _ _ ((qaC u0 F0).f1) _ _ ((qaC u0 F0).f2) _ _ ((qaC u0 F0).f3) t236 eR xR SQ _ ?side1 ?side2 ?side3 ?side4 ?side5 ?side6 lU.o).mono ?_
      (case side1 => exact zae (Kd.qar TP.o HB.o))
      (case side2 => exact eX.o)
      (case side3 => exact zae (Kd.qar QN.o HB.o))
      (case side4 => exact yU.o)
      (case side5 => exact zae (Kd.qar YN.o HB.o))
      (case side6 => exact eW.o)
      rintro e WK ⟨v238, v241, v244, rfl, ho0, ho1, ho2, hb⟩;refine ⟨_, rfl, ?_⟩;have O1 := z_ (Kd.qbZ (Kd.qhS (Kd.qhS (Kd.qhS (Kd.S_old (zag F1.o) hb) (Kd.qdt ho0)) (Kd.qdt ho1)) (Kd.qdt ho2)) (fun _ h_ => h_.1));have C4 := z_ (Kd.qa3 ho0 (qaz (zah X7.o L9.o VD.o)));have G7 := z_ (Kd.qa3 ho1 (qaz (zah X7.o L9.o VD.o)));have R7 := z_ (Kd.qa3 ho2 (qaz (zah X7.o L9.o VD.o)));have EA := z_ (qab (g := N7) (o := .cells #[.slice (some AB) u0.length H0] 29 (0, 0)) (zac i4.o) hb);have RG := z_ (qab (g := S7) (o := .cells #[.slice none 0 0] 29 (0, 0)) (zac m5.o) hb);have n6_ := z_ (qab (g := E8) (o := .cells #[K4] 29 (0, 0)) (zac P4.o) hb);have n7_ := z_ (qaa (zah X7.o L9.o VD.o) hb);clear F1 i4 m5 P4 HB;have F1 := O1;have zO := C4;have uO := G7;have sO := R7;have i4 := EA;have m5 := RG;have P4 := n6_;have HB := n7_;clear O1 C4 G7 R7 EA RG n6_ n7_
      (try clear hb)
      (try clear hb2)
      (try clear hk)
      (try clear hi)
      (try clear ho0)
      (try clear ho1)
      (try clear ho2)
      obtain ⟨Z9, W9, pT⟩ := Kd.qbO zO.o
      (first | subst pT | (injection pT with tE pJ oE; have gK := tE.symm; have TK := oE.symm; clear tE pJ oE; subst gK; subst TK))
      obtain ⟨VG, XG, XV⟩ := Kd.qbO uO.o
      (first | subst XV | (injection XV with tE pJ oE; have gK := tE.symm; have TK := oE.symm; clear tE pJ oE; subst gK; subst TK))
      obtain ⟨Vh, Sf, ze⟩ := Kd.qbO sO.o
      (first | subst ze | (injection ze with tE pJ oE; have gK := tE.symm; have TK := oE.symm; clear tE pJ oE; subst gK; subst TK))
      refine hK.o _ _ ⟨(qac P4.o 0).trans rfl, (qac i4.o 0).trans rfl, (zcm_ HB.o EC), (zcm_ HB.o MD), (zcm_ HB.o jD), (zcm_ HB.o vC)⟩ (fun hHeld => ?_);clear hK K;refine qfD (a' := ?_) ?_ ?_;rotate_left
      ·show Act.put _ (some 21) _ = _
       simp only [Act.put, List.setIfInBounds_toArray, List.set_cons_zero, List.set_cons_succ, qef, qeP];rfl
      refine one_ (i := 8) (N := some 22) #[true, true, true, true, true, true, true, true, true, false, false, false] rfl rfl (qdO E2.o zdG) zdK (fun K hK => ?_);refine qaT (w1 := ?_) (v := ?_) zdO rfl ?_ ?_;rotate_left 2
      ·go_simp
       constructor
       ·rfl
       ·rfl
      refine hK.o _ _ ⟨(qac (qam P4.o _) 0).trans rfl, (qac (qam i4.o _) 0).trans rfl, (World.cell?_alloc_lt _ _ _ (World.block_lt_of_cell? _ _ ((zcm_ HB.o EC)))).trans ((zcm_ HB.o EC)), (World.cell?_alloc_lt _ _ _ (World.block_lt_of_cell? _ _ ((zcm_ HB.o MD)))).trans ((zcm_ HB.o MD)), (World.cell?_alloc_lt _ _ _ (World.block_lt_of_cell? _ _ ((zcm_ HB.o jD)))).trans ((zcm_ HB.o jD)), (World.cell?_alloc_lt _ _ _ (World.block_lt_of_cell? _ _ ((zcm_ HB.o vC)))).trans ((zcm_ HB.o vC))⟩ (fun hHeld => ?_);clear hK K;refine qfD (a' := ?_) ?_ ?_;rotate_left
      ·show Act.put _ (some 22) _ = _
       simp only [Act.put, List.setIfInBounds_toArray, List.set_cons_zero, List.set_cons_succ, qef, qeP];rfl
      refine one_ (i := 9) (N := some 23) #[true, true, true, true, true, true, true, true, true, true, false, false] rfl rfl (qdO E2.o zdG) zdK (fun K hK => ?_);refine Kd.qif k80 (w0 := w) w.heap.size zdO (.tmp 15) (.tmp 22) 27 80 (.agg #[(.bool false), (.slice none 0 0), (.slice none 0 0), (.slice none 0 0)]) 80 rfl Tryz.underlying27 qlq rfl zdK zdM K4 j6 (⟨t236, eR, xR, SQ⟩ : S80) [.bool t236, .slice Z9 eR.length W9, .slice VG xR.length XG, .slice Vh SQ.length Sf] (fun _ => True) (fun k_ => some k_ = (.slice Z9 eR.length W9 : Value).ownBlock ∨ some k_ = (.slice VG xR.length XG : Value).ownBlock ∨ some k_ = (.slice Vh SQ.length Sf : Value).ownBlock) rfl rfl ?aP (fun k_ uU => uU.elim (fun h_ => ((Kd.qaU (ok' := fun k_ => ((fun _ => True)) k_ ∧ some k_ ≠ (K4 : Value).ownBlock) (Kd.qdx (zO.o) (Kd.qcL F1.o) zdK) (fun k_ hk => ⟨trivial, hk.2⟩))).1 k_ h_.symm) (fun h_ => h_.elim (fun h_ => ((Kd.qaU (ok' := fun k_ => ((fun _ => True)) k_ ∧ some k_ ≠ (K4 : Value).ownBlock) (Kd.qdx (uO.o) (Kd.qcL F1.o) zdK) (fun k_ hk => ⟨trivial, hk.2⟩))).1 k_ h_.symm) (fun h_ => ((Kd.qaU (ok' := fun k_ => ((fun _ => True)) k_ ∧ some k_ ≠ (K4 : Value).ownBlock) (Kd.qdx (sO.o) (Kd.qcL F1.o) zdK) (fun k_ hk => ⟨trivial, hk.2⟩))).1 k_ h_.symm))) ?aF ?aO ?aB ?aS ?aL ?_
      (case aP => exact qfs _ _ _ (⟨t236, eR, xR, SQ⟩ : S80) (Kd.qaU (Kd.qdH rfl (Kd.qaU (ok' := fun k_ => ((fun _ => True)) k_ ∧ some k_ ≠ (K4 : Value).ownBlock) (Kd.qdx (zO.o) (Kd.qcL F1.o) zdK) (fun k_ hk => ⟨trivial, hk.2⟩))) (fun _ h_ => Or.inl h_)) (Kd.qaU (Kd.qdH rfl (Kd.qaU (ok' := fun k_ => ((fun _ => True)) k_ ∧ some k_ ≠ (K4 : Value).ownBlock) (Kd.qdx (uO.o) (Kd.qcL F1.o) zdK) (fun k_ hk => ⟨trivial, hk.2⟩))) (fun _ h_ => Or.inr (Or.inl h_))) (Kd.qaU (Kd.qdH rfl (Kd.qaU (ok' := fun k_ => ((fun _ => True)) k_ ∧ some k_ ≠ (K4 : Value).ownBlock) (Kd.qdx (sO.o) (Kd.qcL F1.o) zdK) (fun k_ hk => ⟨trivial, hk.2⟩))) (fun _ h_ => Or.inr (Or.inr (h_)))))
      (case aB => exact (zah X7.o L9.o VD.o))
      (case aF => exact (fun _ _ => trivial))
      (case aO => exact (by (with_reducible repeat (first | apply Kd.qcK | apply Kd.qeC | apply Kd.qd1)); exact Kd.qbZ F1.o (fun k_ hk => ⟨trivial, fun e_ => e_.elim (fun h_ => hk.1.1.2 h_) (fun h_ => h_.elim (fun h_ => hk.1.2 h_) (fun h_ => hk.2 h_))⟩)))
      (case aS => exact (qaz (zah X7.o L9.o VD.o)))
      (case aL => have := nh.o; omega)
      intro v247 tF ho hb hg hat;rw [← ff.o] at ho;have O1 := z_ (qbe (g := N7) (o := .cells #[.slice (some AB) u0.length H0] 29 (0, 0)) (zac i4.o) hg (Kd.S_ne F1.o i4.o zdK));have C4 := z_ (qbe (g := S7) (o := .cells #[.slice none 0 0] 29 (0, 0)) (zac m5.o) hg (Kd.S_ne F1.o m5.o zdK));have G7 := z_ (qbe (g := E8) (o := .cells #[K4] 29 (0, 0)) (zac P4.o) hg (Kd.S_ne F1.o P4.o zdK));have R7 := z_ (hb);have EA := z_ (ho);clear i4 m5 P4 HB F1 zO uO sO;have i4 := O1;have m5 := C4;have P4 := G7;have HB := R7;have MY := EA;clear O1 C4 G7 R7 EA ho hb hg hat;obtain ⟨cH, YG, IV⟩ := Kd.qeD MY.o
      (first | subst IV | (injection IV with tE pJ oE; have gK := tE.symm; have TK := oE.symm; clear tE pJ oE; subst gK; subst TK))
      refine hK.o _ _ ⟨(qac P4.o 0).trans rfl, (qac i4.o 0).trans rfl, (zcm_ HB.o EC), (zcm_ HB.o MD), (zcm_ HB.o jD), (zcm_ HB.o vC)⟩ (fun hHeld => ?_);clear hK K;refine qfD (a' := ?_) ?_ ?_;rotate_left
      ·show Act.put _ (some 23) _ = _
       simp only [Act.put, List.setIfInBounds_toArray, List.set_cons_zero, List.set_cons_succ, qef, qeP];rfl
      refine qce (i := 10) (N := some 24) (v := _) (a' := _) #[true, true, true, true, true, true, true, true, true, true, true, false] rfl rfl (qbI E2.o zdG) (fun _ _ _ h => h) (Or.inl ⟨zdO, zct⟩) zaF ?_;refine last_ (i := 11) (N := none) zArrT12 rfl rfl (qdO E2.o zdG) zdK (fun K hK => ?_);have hs25 : tF.cell? ⟨E8, 0, none⟩ = some (K4) := (qac P4.o 0).trans rfl;have hfs25 := qau P4.o 0;have uk := n8.o;have fk := C9.o;have Wi := fB.o;have Pj := kE.o;refine qgN (w1 := ?_) zdO rfl ?_ ?_;rotate_left
      ·go_simp;rfl
      refine hK.o _ _ ?_;clear hK K;refine qiV (qeQ E2.o zdG) ?_;try go_wp2
      go_roundg k1
      case measure => have := I5.o; omega
      case rel => exact ⟨(wrap64 (F0 + 1)), (wV), (.slice cH wV.length YG), zcc, H', ⟨zcY⟩, ⟨by (with_reducible repeat (first | apply Kd.qcK | apply Kd.qeC | apply Kd.qd1)); exact Kd.qbZ (Kd.qgQ (p := ⟨E8, 0, none⟩) (Kd.qd7 MY.o P4.o zdK) (fun _ hk => hk.2) (.slice cH wV.length YG)) (fun _ hk => trivial)⟩, ⟨by (with_reducible repeat (first | apply qas | apply qaq | apply qam)); refine qbD ?_ n8.o _; (with_reducible repeat (first | apply qas | apply qaq | apply qam)); exact i4.o⟩, ⟨by (with_reducible repeat (first | apply qas | apply qaq | apply qam)); refine qbD ?_ C9.o _; (with_reducible repeat (first | apply qas | apply qaq | apply qam)); exact m5.o⟩, ⟨by (with_reducible repeat (first | apply qas | apply qaq | apply qam)); refine qaX (cs := #[K4]) ?_ 0 _ rfl; (with_reducible repeat (first | apply qas | apply qaq | apply qam)); exact P4.o⟩, ⟨zah X7.o L9.o VD.o⟩⟩
     ·rw [if_neg c14] at H;exact absurd H zdN
    ·rw [if_neg c12] at H;exact absurd H zdN
   ·rw [if_neg c11] at H;have qC : decide (F0 < (u0.length : Int)) = false := decide_eq_false c11;clear c11;obtain rfl := Option.some.inj H;have hnb26 := lH.o;have hnc26 := rH.o;have hnb27 := n8.o;have hnc27 := fB.o;have HV : wr.cell? ⟨N7, 0, none⟩ = some (.slice I0 u0.length H0) := (qac i4.o 0).trans rfl;have eV := qau i4.o 0;have hnb29 := kE.o;have hnc29 := C9.o;have BP : wr.cell? ⟨E8, 0, none⟩ = some (K4) := (qac P4.o 0).trans rfl;have JN := qau P4.o 0;obtain ⟨WJ, jK, ta⟩ := Kd.qeD F1.o;subst ta;have zi : wr.cell? ⟨S7, 0, none⟩ = some (.slice none 0 0) := (qac m5.o 0).trans rfl;have yl := qau m5.o 0
    go_wp2
    refine bodyPost_ret (results_cell_row rfl _ _ S7 29 #[.slice WJ j6.length jK] (0, 0) _ rfl (by (with_reducible repeat (first | apply qas | apply qaq | apply qam)); refine qaX (cs := #[.slice none 0 0]) ?_ 0 _ rfl; (with_reducible repeat (first | apply qas | apply qaq | apply qam)); exact m5.o) Tryz.underlying29 rfl zdG) rfl ?_;exact ⟨_, zaM, by (with_reducible repeat (first | apply Kd.qcK | apply Kd.qeC | apply Kd.qd1)); exact Kd.qbZ (Kd.qgQ (p := ⟨S7, 0, none⟩) (Kd.qd7 F1.o m5.o zdK) (fun _ hk => hk.2) (.slice WJ j6.length jK)) (fun _ hk => trivial), zah X7.o L9.o VD.o⟩
def TinyN (ns : List S80) : Prop := ∀ x, x ∈ ns → x.f1.length ≤ 1048576 ∧ x.f2.length ≤ 1048576 ∧ x.f3.length ≤ 1048576
theorem qdD {ns : List S80} (h : TinyN ns) : qcG ns = true := by
 unfold qcG;rw [List.all_eq_true];intro x hx;have := h x hx;exact decide_eq_true zdM
theorem own_loop (l : List S80) (hl : l.length ≤ 1000) (ht : TinyN l) : ∀ (d i k : Nat), i + d = l.length → d < k → qaZ.l0 k (i : Int) l (l.take i) = some l := by
 intro d
 induction d with
 | zero =>
  intro i k hi hk;obtain ⟨k, rfl⟩ : ∃ j, k = j + 1 := ⟨k - 1, zdM⟩
  simp only [qaZ.l0];rw [if_neg zdM, List.take_of_length_le zdM]
 | succ d ih =>
  intro i k hi hk;obtain ⟨k, rfl⟩ : ∃ j, k = j + 1 := ⟨k - 1, zdM⟩
  have hlt : i < l.length := zdM;have hrd : qaC l (i : Int) = l[i] := by
   unfold qaC;rw [Int.toNat_natCast];simp [List.getD_eq_getElem?_getD, hlt]
  have hw : wrap64 ((i : Int) + 1) = ((i + 1 : Nat) : Int) := zdn;have h1 := ht l[i] (List.getElem_mem hlt);have h2 := ih (i + 1) k zdM zdM;rw [List.take_succ_eq_append_getElem hlt] at h2;simp only [qaZ.l0];rw [if_pos zdM, if_pos zdM, hrd, qe7 l[i] zdM, Option.bind_some, if_pos zcM, hw];exact h2
theorem own_is (l : List S80) (hl : l.length ≤ 1000) (ht : TinyN l) : qaZ.f (l.length + 1) l = some l := own_loop l hl ht l.length 0 (l.length + 1) zdM zdM
theorem tiny_set {ns : List S80} {i : Nat} {x : S80} (h : TinyN ns) (hx : x.f1.length ≤ 1048576 ∧ x.f2.length ≤ 1048576 ∧ x.f3.length ≤ 1048576) : TinyN (ns.set i x) := fun y hy => by
 rcases List.mem_or_eq_of_mem_set hy with hy | hy
 ·exact h y hy
 ·rw [hy]; exact hx
theorem qjo {ns : List S80} (h : TinyN ns) (i : Nat) : (ns.getD i z80).f1.length ≤ 1048576 ∧ (ns.getD i z80).f2.length ≤ 1048576 ∧ (ns.getD i z80).f3.length ≤ 1048576 := by
 rw [List.getD_eq_getElem?_getD]
 cases e : ns[i]? with
 | none => simp only [Option.getD_none]; decide
 | some x => exact h x (List.mem_of_getElem? e)
theorem qfS {ns : List S80} {keep : List Bool} (h : TinyN ns) : TinyN (onlyN ns keep) := fun x hx => by
 obtain ⟨i, _, rfl⟩ := List.mem_map.1 hx
 split
 ·exact qjo h i
 ·decide
theorem tiny_lay {x : S80} {b : List S80 × List Bool × Bool} (h : TinyN b.1) (hx : x.f1.length ≤ 1048576 ∧ x.f2.length ≤ 1048576 ∧ x.f3.length ≤ 1048576) : TinyN (layB x b).2.1 := by
 unfold layB
 split
 ·exact tiny_set h hx
 ·exact h
theorem qkr {α : Type} {f : List α → ByteArray × S80} : ∀ (cs : List (List α)) (b : List S80 × List Bool × Bool), (∀ c, c ∈ cs → (f c).2.f1.length ≤ 1048576 ∧ (f c).2.f2.length ≤ 1048576 ∧ (f c).2.f3.length ≤ 1048576) → TinyN b.1 → TinyN (layAll f cs b).2.1 := by
 intro cs
 induction cs with
 | nil => intro b _ h; exact h
 | cons c cs ih => intro b hc h; exact ih _ (fun c' hc' => hc c' (List.mem_cons_of_mem _ hc')) (tiny_lay h (hc c (List.mem_cons_self ..)))
theorem qhc {α : Type} {most : Nat} {l c : List α} (hm : most ≤ 1000) (hl : l.length ≤ 1900) (h : c ∈ qbJ most l) : c.length ≤ 1000 := by
 unfold qbJ at h
 split at h
 ·simp only [List.mem_cons, List.not_mem_nil, or_false] at h
  rcases h with rfl | rfl
  ·rw [List.length_take]; omega
  ·rw [List.length_drop]; omega
 ·split at h
  ·cases h
  ·simp only [List.mem_cons, List.not_mem_nil, or_false] at h;rw [h];omega
theorem qh1 {α : Type} {most : Nat} {l c : List α} (hm : most ≤ 1000) (hl : l.length ≤ 2000000) (h : c ∈ qbJ most l) : c.length ≤ 1048576 := by
 unfold qbJ at h
 split at h
 ·simp only [List.mem_cons, List.not_mem_nil, or_false] at h
  rcases h with rfl | rfl
  ·rw [List.length_take]; omega
  ·rw [List.length_drop]; omega
 ·split at h
  ·cases h
  ·simp only [List.mem_cons, List.not_mem_nil, or_false] at h;rw [h];omega
theorem qeG {l : List S61} {b : List S80 × List Bool × Bool} (hl : l.length ≤ 2000000) (h : TinyN b.1) : TinyN (qbA l b).2.1 := by
 unfold qbA;refine qkr _ _ (fun c hc => ?_) h;have := qh1 zdM hl hc;unfold leafF;simp;omega
theorem qhd {l : List (ByteArray × Nat)} {b : List S80 × List Bool × Bool} (hl : l.length ≤ 2000000) (h : TinyN b.1) : TinyN (qbP l b).2.1 := by
 unfold qbP;refine qkr _ _ (fun c hc => ?_) h;have := qh1 zdM hl hc;unfold qbf;simp;omega
theorem qlQ (x : S80) : (partsOf x).length ≤ x.f3.length := by
 unfold partsOf;rw [List.length_zip, List.length_map];omega
theorem qfz {dop : List S61 → List S61} {key : ByteArray} (hd : ∀ l, (dop l).length ≤ l.length + 1) : ∀ (n k : Nat) (b : List S80 × List Bool × Bool), TinyN b.1 → TinyN (qbk dop key n k b).2.1 := by
 intro n
 induction n with
 | zero => intro k b h; exact h
 | succ n ih =>
  intro k b h;have hx := qjo h k;unfold qbk
  split
  ·exact qeG (by have := hd (b.1.getD k z80).f1; omega) h
  ·refine qhd ?_ (ih _ _ h);have h1 := qdy dop key n ((partsOf (b.1.getD k z80)).getD (qca (b.1.getD k z80).f2 key) (ByteArray.empty, 0)).2 b;have h2 := qlQ (b.1.getD k z80);rw [List.length_append, List.length_append, List.length_take, List.length_drop];omega
theorem qhe {p : List (ByteArray × Nat) × List S80 × List Bool × Bool} (hp : p.1.length ≤ 2) (h : TinyN p.2.1) : TinyN (topsB p).2.1 := by
 unfold topsB
 split
 ·exact qhd zdM h
 ·exact h
structure CgAt (w wr : World) (g gn cn gu cu gh gr : Nat) (H : Value) (b : List S80 × List Bool × Bool) : Prop where
 below : Below w.heap.size w wr
 bs : BsAt w wr g gn cn gu cu b
 boxh : wr.heap[gh]? = some (.cells #[H] 29 (0, 0))
 boxr : wr.heap[gr]? = some (.cells #[.slice none 0 0] 29 (0, 0))
 ge : w.heap.size ≤ gr
theorem CgAt.qbQ {w wr w1 : World} {g gn cn gu cu gh gr : Nat} {H : Value} {b : List S80 × List Bool × Bool} (h : CgAt w wr g gn cn gu cu gh gr H b) (hb : Below wr.heap.size wr w1) : CgAt w w1 g gn cn gu cu gh gr H b := ⟨qaa h.below hb, h.bs.below hb, qab h.boxh hb, qab h.boxr hb, h.ge⟩
theorem CgAt.call {w wr w1 : World} {g gn cn gu cu gh gr : Nat} {H : Value} {b c : List S80 × List Bool × Bool} (h : CgAt w wr g gn cn gu cu gh gr H b) (hb : BsAt w w1 g gn cn gu cu c) (hw : Below w.heap.size w w1) (hk : Kept wr w1 (S3 g gn gu)) : CgAt w w1 g gn cn gu cu gh gr H c :=
 ⟨hw, hb, (hk.2 gh (qbo h.boxh) (h.bs.other h.boxh zdK zdK zdK)).trans h.boxh, (hk.2 gr (qbo h.boxr) (h.bs.other h.boxr zdK zdK zdK)).trans h.boxr, h.ge⟩
theorem CgAt.store {w wd w' : World} {g gn cn gu cu gh gr i : Nat} {H v1 v2 v3 : Value} {ms : List S80} {us : List Bool} {f : Bool} (h : CgAt w wd g gn cn gu cu gh gr H (ms, us, f)) (hb : Below wd.heap.size wd w') (hi : i < ms.length) (x : S80) (r1 : Kd.R k61 61 w' wd.heap.size (fun _ => True) v1 x.f1) (r2 : Kd.R Kd.string 9 w' wd.heap.size (fun _ => True) v2 x.f2) (r3 : Kd.R (Kd.int .i64) 3 w' wd.heap.size (fun _ => True) v3 x.f3) (o : v1.oneCell' = true ∧ v2.oneCell' = true ∧ v3.oneCell' = true) :
  CgAt w (set4 w' gn (i * 4) (.bool x.f0) v1 v2 v3) g gn cn gu cu gh gr H (ms.set i x, us, f) := by
 have h' := h.qbQ hb;obtain ⟨ap1, ap2, ap3⟩ := h'.bs.apart;obtain ⟨y, hy⟩ := h'.bs.tn;have hS0 : Kd.S k80 80 wd w.heap.size (fun k => k < wd.heap.size) (.slice (some ⟨gn, 0, none⟩) ms.length cn) ms := Kd.qbZ (Kd.qcr h.bs.nodes) (fun k hk => hk.2.2.1);have hS := S_put (Kd.qaO hS0 hb) hi x r1 r2 r3 h.below.size o;refine ⟨qgl h'.below (Kd.qgf h.bs.nodes gn (qbT _ _ _)) _ _ _ _, ⟨h.bs.ge, ?_, ?_, ?_⟩, qel h'.boxh (qb9 h'.boxh hy zdK) _ _ _ _, qel h'.boxr (qb9 h'.boxr hy zdK) _ _ _ _, h.ge⟩
 ·simp only [List.length_set];exact qel h'.bs.blk ap1 _ _ _ _
 ·simp only [List.length_set];exact hS
 ·exact Kd.qaU (qfI (Kd.qbg h'.bs.used hy ne_tB) (fun k hk => hk.2) _ _ _ _) (fun _ _ => trivial)
def slLen : Value → Nat
 | .slice _ n _ => n
 | _ => 0
theorem qgC {p : List (ByteArray × Nat) × List S80 × List Bool × Bool} (hp : p.1.length ≤ 2) : (topsB p).1.length ≤ 1 := by
 unfold topsB
 split
 ·unfold qbP;rw [qcX];exact (qcY 4 p.1).2 zdM
 ·omega
theorem PD_mem {T : Nat → List S61 → List Nat → Prop} : ∀ (ms : List (ByteArray × Nat)) (ps : List S61) (pg : List Nat), PD T ms ps pg → ∀ m, m ∈ ms → ∃ p g, T m.2 p g := by
 intro ms
 induction ms with
 | nil => intro ps pg _ m hm; cases hm
 | cons a r ih =>
  intro ps pg h m hm;obtain ⟨p1, p2, g1, g2, rfl, rfl, h1, _, h3⟩ := h
  rcases List.mem_cons.1 hm with rfl | hm
  ·exact ⟨p1, g1, h1⟩
  ·exact ih _ _ h3 m hm
theorem qd0 {dop : List S61 → List S61} {key : ByteArray} {b : List S80 × List Bool × Bool} : ∀ (d k : Nat) (ps : List S61) (pg : List Nat), TrD b.1 d k ps pg → ∀ n, d ≤ n → qbk dop key n k b = qbk dop key d k b := by
 intro d
 induction d with
 | zero => intro k ps pg h; exact h.elim
 | succ d ih =>
  intro k ps pg h n hn;obtain ⟨x, hx, hb, hf, h⟩ := h;have hget : b.1.getD k z80 = x := by rw [List.getD_eq_getElem?_getD, hx]; rfl
  obtain ⟨m, rfl⟩ : ∃ m, n = m + 1 := ⟨n - 1, zdM⟩
  unfold qbk;rw [hget]
  rcases h with ⟨hl, _⟩ | ⟨hl, pg', rfl, hp⟩
  ·rw [if_pos hl, if_pos hl]
  ·rw [if_neg (by rw [hl]; decide), if_neg (by rw [hl]; decide)];obtain ⟨e3, e2, elen, _⟩ := qcW hb hf hl;obtain ⟨_, k1, _, klen, _⟩ := qdi hb hf hl;have hat := qhb (ls := x.f2) key zdM;have kR : qca x.f2 key < (partsOf x).length := zdM;have hgd : (partsOf x).getD (qca x.f2 key) (ByteArray.empty, 0) = (partsOf x)[qca x.f2 key] := by rw [List.getD_eq_getElem?_getD, List.getElem?_eq_getElem kR]; rfl
   rw [hgd];obtain ⟨p, g, t⟩ := PD_mem _ _ _ hp _ (List.getElem_mem kR);rw [ih _ p g t m zdM]
theorem qeH (p : List (ByteArray × Nat) × List S80 × List Bool × Bool) : BG p.2 (topsB p).2 := by
 unfold topsB
 split
 ·exact qdj _ _ _
 ·exact BG.refl _
theorem qiz {p : List (ByteArray × Nat) × List S80 × List Bool × Bool} {d : Nat} {ps : List S61} {pg : List Nat} (hl1 : p.2.1.length = 50) (hl2 : p.2.2.1.length = 50) (h : PD (TrD p.2.1 d) p.1 ps pg) (hn : pg.Nodup) (hu : ∀ i, i ∈ pg → qa5 p.2.2.1 i) (hp : p.1.length ≤ 2) (hf : Fine ps) (hnf : (topsB p).2.2.2 = false) :
  ∃ e pg', e ≤ d + 1 ∧ (p.1.length ≤ 1 → e = d) ∧ (topsB p).1.length ≤ 1 ∧ PD (TrD (topsB p).2.1 e) (topsB p).1 ps pg' ∧ pg'.Nodup := by
 unfold topsB at hnf ⊢
 by_cases hc : 1 < p.1.length
 ·rw [if_pos hc] at hnf ⊢;unfold qbP at hnf ⊢;obtain ⟨pg', t, nd, _, _⟩ := qev qbf d (qbJ 4 p.1) p.2 ps pg zdM (qfP h hf hl1 zdM) hn hu hnf;exact ⟨d + 1, pg', Nat.le_refl _, fun h => absurd h zdM, by rw [qcX]; exact (qcY 4 _).2 zdM, t, nd⟩
 ·rw [if_neg hc] at hnf ⊢;exact ⟨d, pg, zdM, fun _ => rfl, zdM, h, hn⟩
theorem qen {a b : List Bool} {i : Nat} (hi : i < 50) : qa5 (orW a b) i ↔ qa5 a i ∨ qa5 b i := by
 have := qfa a b 50 i hi;rw [qdL, qdL, qdL, decide_eq_true hi, Bool.true_and] at this;unfold qa5 orW;rw [this, Bool.or_eq_true]
theorem qjp {a : List Bool} {i : Nat} (h : qa5 a i) : i < a.length := by
 rcases Nat.lt_or_ge i a.length with h1 | h1
 ·exact h1
 ·unfold qa5 at h;rw [List.getD_eq_getElem?_getD, List.getElem?_eq_none h1] at h
  cases h
theorem qkE {h : List S80} {root : Int} {keep : List Bool} {dop : List S61 → List S61} {key : ByteArray} {one : List S61} {d : Nat} {ps : List S61} {pg : List Nat} (hl : h.length = 50) (hk : keep.length = 50) (ht : qdM h d root ps pg) (hu : ∀ i, i ∈ pg → qa5 keep i) (hf : Fine ps) (hop : LocalOp dop key) (h1 : one = dop [] ∧ one.length ≤ 3) (hd : 1 ≤ d ∧ d ≤ 20 ∨ d = 21 ∧ (∀ l, (dop l).length ≤ l.length)) (hlen : (dop ps).length ≤ 60) (hr : (qbr h root keep dop key one).2.2 = true) :
  ∃ e pg', e ≤ 21 ∧ e ≤ d + 1 ∧ qdM (qbr h root keep dop key one).1 e (qbr h root keep dop key one).2.1 (dop ps) pg' ∧ walkR (qbr h root keep dop key one).1 (qbr h root keep dop key one).2.1 = (dop ps, markL noneW pg', true) ∧ (qbr h root keep dop key one).1.length = 50 ∧ (∀ i, qa5 keep i → (qbr h root keep dop key one).1[i]? = h[i]?) ∧ Fine (dop ps) ∧ walkR (qbC h root keep dop key one).2.1 (rootOf (qbC h root keep dop key one)) = (dop ps, markL noneW pg', true) := by
 have hfd := hop.fine ps hf;have hnf : (qbC h root keep dop key one).2.2.2 = false := by
  unfold qbr at hr
  cases e : (qbC h root keep dop key one).2.2.2 with
  | false => rfl
  | true => rw [if_pos e] at hr; cases hr
 have hres : qbr h root keep dop key one = (onlyN (qbC h root keep dop key one).2.1 (orW keep (walkR (qbC h root keep dop key one).2.1 (rootOf (qbC h root keep dop key one))).2.1), rootOf (qbC h root keep dop key one), true) := by
  unfold qbr;rw [if_neg (by rw [hnf]; decide)]
 rw [hres];simp only;have hbuilt : ∃ e pg', e ≤ 21 ∧ e ≤ d + 1 ∧ (qbC h root keep dop key one).1.length ≤ 1 ∧ PD (TrD (qbC h root keep dop key one).2.1 e) (qbC h root keep dop key one).1 (dop ps) pg' ∧ pg'.Nodup ∧ BG (onlyN h keep, keep, false) (qbC h root keep dop key one).2 := by
  unfold qbC at hnf ⊢;have hb0 : ∀ (a b : Nat), a = 50 → b = 50 → a = b := fun _ _ x y => zdM
  rcases ht with ⟨hr1, rfl, rfl⟩ | ⟨k, hr1, ht, hn⟩
  ·rw [if_pos hr1] at hnf ⊢;have hbg := qdj leafF (qbJ 3 one) (onlyN h keep, keep, false);have htb := qeH (qbA one (onlyN h keep, keep, false));have hf1 := htb.qf9 hnf;unfold qbA at hf1 hnf htb ⊢;have hone : Fine one := by rw [h1.1]; exact hfd
   obtain ⟨lY, t, nd, us, _⟩ := qev leafF 0 (qbJ 3 one) (onlyN h keep, keep, false) one [] zcn (qd5 hone zdM _ 0) List.nodup_nil (fun i hi => zdI) hf1;have hl1 : (layAll leafF (qbJ 3 one) (onlyN h keep, keep, false)).1.length ≤ 1 := by rw [qcX]; exact (qcY 3 _).2 h1.2
   obtain ⟨e, pg', e1, e2, e3, t2, n2⟩ := qiz zcA zcU t nd us zdM hone hnf;refine ⟨e, pg', by have := e2 hl1; omega, by have := e2 hl1; omega, e3, ?_, n2, hbg.trans htb⟩;rw [← h1.1];exact t2
  ·rw [if_neg zdM] at hnf ⊢;rw [hr1, Int.toNat_natCast] at hnf ⊢;have ht' : TrD (onlyN h keep, keep, false).1 d k ps pg := qdZ _ _ _ _ (fun i hi => qdN hl (hu i hi) hk) ht;rw [qd0 (b := (onlyN h keep, keep, false)) d k ps pg ht' 21 zdM] at hnf ⊢;have hbg := qdC dop key d k (onlyN h keep, keep, false);have htb := qeH (qbk dop key d k (onlyN h keep, keep, false));have hf1 := htb.qf9 hnf;obtain ⟨⟨l2, l1⟩, lY, t, nd, us, _⟩ := qfb hop d k (onlyN h keep, keep, false) ps pg (qcU _ _) hk ht' hn hu hf hf1;obtain ⟨e, pg', e1, e2, e3, t2, n2⟩ := qiz zcA zcU t nd us l2 hfd hnf;refine ⟨e, pg', ?_, e1, e3, t2, n2, hbg.trans htb⟩
   rcases hd with hd | hd
   ·omega
   ·have := e2 (l1 hd.2); omega
 obtain ⟨e, pg', e21, ed, el, t, nd, hbg⟩ := hbuilt;generalize hq : qbC h root keep dop key one = q at *;have hql : q.2.1.length = 50 := zcA;have htree : ∃ iZ, qdM q.2.1 e (rootOf q) (dop ps) iZ := by
  unfold rootOf
  match hp : q.1 with
  | [] =>
   rw [hp] at t;exact ⟨[], .inl ⟨rfl, t.1, rfl⟩⟩
  | m :: r =>
   have hr0 : r = [] := by
    rw [hp, List.length_cons] at el;exact List.eq_nil_of_length_eq_zero zdM
   rw [hp, hr0] at t;obtain ⟨t1, _⟩ := PD_one.1 t;obtain ⟨g, t2, n2, _⟩ := qjY 22 e m.2 (dop ps) pg' t1 nd;exact ⟨g, .inr ⟨_, rfl, t2, n2⟩⟩
 obtain ⟨iZ, ht2⟩ := htree;have hw := qfR hql e21 ht2 hfd hlen;rw [hw];simp only;have hlt : ∀ i, i ∈ iZ → i < 50 := fun i hi => by
  rcases ht2 with ⟨_, _, rfl⟩ | ⟨k, _, ht3, _⟩
  ·cases hi
  ·rw [← hql]; exact qfN _ _ _ _ ht3 i hi
 have hsame : ∀ i, i ∈ iZ → (onlyN q.2.1 (orW keep (markL noneW iZ)))[i]? = q.2.1[i]? := fun i hi => by
  refine qdN hql ((qen (hlt i hi)).2 (.inr ?_)) (by unfold orW; exact qc8 _ _ _);have := qeW iZ noneW i (by unfold noneW; rw [List.length_replicate]; exact hlt i hi);unfold qa5;rw [List.getD_eq_getElem?_getD, this];simp [hi]
 have JV := qgr ht2 hsame;refine ⟨e, iZ, e21, ed, JV, qfR (qcU _ _) e21 JV hfd hlen, qcU _ _, fun i hi => ?_, hfd, rfl⟩;have Ql : i < 50 := by rw [← hk]; exact qjp hi
 rw [qdN hql ((qen Ql).2 (.inl hi)) (by unfold orW; exact qc8 _ _ _), (hbg.stay i hi).2];exact qdN hl hi hk
def qgs.T6 : Bool × List (List Nat × List Nat) := (true, [([], []), ([0], [0]), ([], []), ([], []), ([3], [3]), ([1, 2, 0, 1, 2, 3, 4], [1, 2]), ([5, 4, 4, 0, 1, 2, 3, 4], [4, 5])])
def qgs.B6 : List Nat := [0, 1, 0, 0, 8, 31, 63]
theorem qgs.tab6 : rtab .any (opsOf Tryz.f45 6) = qgs.T6 := zdG
theorem qgs.bits6 : qbW qgs.T6.2 qgs.B6 = true := zdG
def qc7 (ns : List S80) (pages keep : List Bool) (i : Nat) (ms : List S80) : Prop := ms.length = 50 ∧ ∀ j, j < 50 → ms.getD j z80 = if j < i ∧ pages.getD j false = false ∧ keep.getD j false = false then z80 else ns.getD j z80
theorem qc7.zero {ns : List S80} {pages keep : List Bool} (h : ns.length = 50) : qc7 ns pages keep 0 ns := ⟨h, fun j _ => by rw [if_neg (fun h => absurd h.1 (Nat.not_lt_zero _))]⟩
theorem qc7.free {ns ms : List S80} {pages keep : List Bool} {i : Nat} (h : qc7 ns pages keep i ms) (hi : i < 50) (h1 : pages.getD i false = false) (h2 : keep.getD i false = false) : qc7 ns pages keep (i + 1) (ms.set i z80) := by
 refine ⟨zcH, fun j hj => ?_⟩
 by_cases e : j = i
 ·subst e;rw [if_pos ⟨zdM, h1, h2⟩, List.getD_eq_getElem?_getD, List.getElem?_set_self zdp];rfl
 ·have := h.2 j hj;rw [List.getD_eq_getElem?_getD] at this ⊢;rw [List.getElem?_set_ne (fun e2 => e e2.symm), this];have e3 : (j < i + 1) = (j < i) := by simp only [eq_iff_iff]; omega
  simp only [e3]
theorem qc7.keep {ns ms : List S80} {pages keep : List Bool} {i : Nat} (h : qc7 ns pages keep i ms) (h1 : pages.getD i false = true ∨ keep.getD i false = true) : qc7 ns pages keep (i + 1) ms := by
 refine ⟨h.1, fun j hj => ?_⟩;rw [h.2 j hj]
 by_cases e : j = i
 ·subst e;rw [if_neg (fun h => absurd h.1 (Nat.lt_irrefl _)), if_neg];rintro ⟨_, h2, h3⟩
  rcases h1 with h1 | h1
  ·rw [h1] at h2; cases h2
  ·rw [h1] at h3; cases h3
 ·have e3 : (j < i + 1) = (j < i) := by simp only [eq_iff_iff]; omega
  simp only [e3]
theorem qiA {w : World} {base gn n c : Nat} {ns : List S80} {k t : Nat} {x : Array Value} (h : Kd.S k80 80 w base (fun _ => True) (.slice (some ⟨gn, 0, none⟩) n c) ns) (hk : w.heap[k]? = some (.cells x t (0, 0))) (ht : t ≠ 80) : k ≠ gn := by
 obtain ⟨y, hy⟩ := Kd.qcL h gn (qbT _ _ _);exact qb9 hk hy ht
theorem qgx : ∀ q, q ∈ 80 :: k80.E → q ≠ 29 := fun q hq => by
 rcases eN q hq with rfl | rfl | rfl | rfl <;> decide
theorem qc7.all {ns ms : List S80} {pages keep : List Bool} (hl : ns.length = 50) (h : qc7 ns pages keep 50 ms) : ms = onlyN ns (orW keep pages) := by
 refine List.ext_getElem? fun j => ?_
 unfold onlyN;rw [List.getElem?_map]
 by_cases hj : j < 50
 ·have h1 := h.2 j hj;have h2 := qen (a := keep) (b := pages) hj;rw [List.getElem?_range hj, Option.map_some];have e1 : ms[j]? = some (ms.getD j z80) := by rw [List.getD_eq_getElem?_getD, List.getElem?_eq_getElem zdp]; rfl
  rw [e1, h1]
  congr 1
  unfold qa5 at h2
  by_cases hu : (orW keep pages).getD j false = true
  ·rw [if_pos hu]
   rcases h2.1 hu with h3 | h3
   ·rw [if_neg]; rintro ⟨_, _, h4⟩; rw [h3] at h4; cases h4
   ·rw [if_neg]; rintro ⟨_, h4, _⟩; rw [h3] at h4; cases h4
  ·rw [if_neg hu, if_pos];refine ⟨hj, ?_, ?_⟩
   ·cases e : pages.getD j false with
    | false => rfl
    | true => exact absurd (h2.2 (.inr e)) hu
   ·cases e : keep.getD j false with
    | false => rfl
    | true => exact absurd (h2.2 (.inl e)) hu
 ·rw [List.getElem?_eq_none (by rw [h.1]; omega), List.getElem?_eq_none (by rw [List.length_range]; omega)];rfl
theorem sswept (w0 w : World) (gn cn : Nat) (ns : List S80) (keep : List Bool) (root : Int) (hB : Below w0.heap.size w0 w) (hS : Kd.S k80 80 w w0.heap.size (fun _ => True) (.slice (some ⟨gn, 0, none⟩) ns.length cn) ns) (hl : ns.length = 50) (hsm : qcG ns = true) (A : Option Addr) (ck : Nat) (P : Nat → Prop) (hP : ∀ k, P k → k ≠ gn) (hk : Kd.F Kd.bool w P A keep.length keep) (hkl : keep.length = 50) (hkc : keep.length ≤ ck) :
  Calls Tryz.prog 45 #[.agg #[.slice (some ⟨gn, 0, none⟩) ns.length cn], .int .i64 root, .slice A keep.length ck] w fun e w' => e = .returned (.agg #[.slice (some ⟨gn, 0, none⟩) ns.length cn]) ∧ Kd.S k80 80 w' w0.heap.size (fun _ => True) (.slice (some ⟨gn, 0, none⟩) ns.length cn) (onlyN ns (orW keep (walkR ns root).2.1)) ∧ Below w0.heap.size w0 w' ∧ Kept w w' (fun k => k = gn) := by
 have hu := Tryz.underlying80;have hu2 := Tryz.underlying29;obtain ⟨gh, hgh⟩ : ∃ gh, gh = w.heap.size := ⟨_, rfl⟩
 obtain ⟨W1, hW1⟩ : ∃ W1, W1 = w.alloc (Obj.cells #[.slice (some ⟨gn, 0, none⟩) ns.length cn] 29 (0, 0)) := ⟨_, rfl⟩
 obtain ⟨gr, hgr⟩ : ∃ gr, gr = W1.heap.size := ⟨_, rfl⟩
 have OA : gr = w.heap.size + 1 := zcr;obtain ⟨W2, hW2⟩ : ∃ W2, W2 = W1.alloc (Obj.cells #[.slice none 0 0] 29 (0, 0)) := ⟨_, rfl⟩
 have LE : Below w.heap.size w W1 := zbU;have hY2 : Below W1.heap.size W1 W2 := zbV;have hX1 : W1.heap[gh]? = some (.cells #[.slice (some ⟨gn, 0, none⟩) ns.length cn] 29 (0, 0)) := zcC;have HXH := z_ (qab hX1 hY2);have HXR := z_ (show W2.heap[gr]? = some (.cells #[.slice none 0 0] 29 (0, 0)) from zcB);have HYW := z_ (qaa LE hY2);have HS2 := z_ (Kd.qaO hS HYW.o);have tQ := z_ (Kd.qbF (Kd.qfq hk) HYW.o);have HB2 := z_ (qaa hB HYW.o);have HLS := z_ hl;have HGN := z_ (Kd.qgf hS gn (qbT _ _ _));have HON := z_ (qe7 z80 zdK);have HLK := z_ (And.intro hkl hkc);have HPP := z_ (show ∀ k, (P k ∧ k < w.heap.size) → k ≠ gn from fun k h => hP k h.1);have HSP := z_ (show qcp.f ns root = some (walkR ns root) from if_pos hsm);have HG := z_ (And.intro hgh (And.intro hgr (Kd.S_lt hS gn (qbT _ _ _))));have HRS := z_ (Kd.qbn hS).2.1;have HGR := z_ (show w.heap.size ≤ gr ∧ w0.heap.size ≤ gr from by have := hB.size; omega);clear hB hS hl hsm hP hk hkl hkc LE hY2 hX1
 go_enter Tryz.func45, Tryz.ntmps45
 go_upto_region 1 with fail
 rw [← hW1, ← hW2, ← OA, ← hgh];clear hW1 hW2 OA hgr hgh;have hc0 := qac HXH.o 0;simp only [List.getElem?_toArray, List.getElem?_cons_zero] at hc0
 go_wp2_with fail
 refine (qcp.calls _ _ ns root _ _ _ W2 (Kd.qbn HS2.o).2.2 HRS.o (h := HSP.o)).mono ?_;rintro e w1 ⟨v0, v1, rfl, h0, h1, hb1⟩;obtain ⟨pages, hpg⟩ : ∃ pages, pages = (lookW ns root).2.1 := ⟨_, rfl⟩
 rw [← hpg] at h1;have HPL := z_ (show pages.length = 50 from by rw [hpg]; exact (qfM ns root).1);have HPE := z_ (show pages = (walkR ns root).2.1 from hpg);obtain ⟨A1, cp, rfl, lp, _⟩ := Kd.qa4 h1;have HG2 := z_ (show gn < W2.heap.size ∧ w.heap.size ≤ W2.heap.size ∧ gr < W2.heap.size ∧ gh < W2.heap.size ∧ w.heap.size ≤ gr ∧ w0.heap.size ≤ gr from by
  have := HG.o; have := HYW.o.size; have a1 := qbo HXR.o; have a2 := qbo HXH.o;have b1 := HB2.o.size;refine ⟨zdM, this, a1, a2, ?_, ?_⟩
  ·exact HGR.o.1
  ·exact HGR.o.2)
 have HPF := z_ (show Kd.F Kd.bool w1 (fun k => k ≠ gn) A1 pages.length pages from Kd.qci (qfd h1) (fun k hk e => by have := HG2.o.1; omega));have HPC := z_ lp;have HKF := z_ (show Kd.F Kd.bool w1 (fun k => k ≠ gn) A keep.length keep from Kd.qci (Kd.qbF tQ.o hb1) HPP.o);have rJ := z_ (Kd.qaO HS2.o hb1);have HB1 := z_ (qaa HB2.o hb1);have LQ := z_ (qab HXH.o hb1);have YH := z_ (qab HXR.o hb1);have o8 := z_ (qaa HYW.o hb1);have HNG := z_ (And.intro (qiA rJ.o LQ.o zdK) (qiA rJ.o YH.o zdK));clear hpg h0 h1 hb1 lp hc0 HS2 tQ HB2 HXH HXR
 go_wp2_with fail
 go_loopw [10] (fun v10 wr => ∃ (i : Nat) (ms : List S80), i ≤ 50 ∧ v10 = .int .i64 (i : Int) ∧ Aside0 (qc7 ns pages keep i ms) ∧ Aside0 (Kd.S k80 80 wr w0.heap.size (fun _ => True) (.slice (some ⟨gn, 0, none⟩) ns.length cn) ms) ∧ Aside0 (Below w0.heap.size w0 wr) ∧ Aside0 (Kept w1 wr (S3 gn gn gn))) (fun v10 _ => 50 - (intOf v10).toNat)
 case atStart => exact ⟨0, ns, Nat.zero_le _, rfl, ⟨qc7.zero HLS.o⟩, rJ, HB1, ⟨Kept.refl _ _⟩⟩
 case round =>
  obtain ⟨i, ms, hi, rfl, HSW, HS, HB, HK⟩ := hrel;have hne : ∀ k, k ≠ gn → ¬ S3 gn gn gn k := fun k hk e => by rcases e with e | e | e <;> exact hk e
  have HXHr := z_ ((HK.o.2 gh (qbo LQ.o) (hne _ HNG.o.1)).trans LQ.o);have HXRr := z_ ((HK.o.2 gr (qbo YH.o) (hne _ HNG.o.2)).trans YH.o);have HPFr := z_ (Kd.qd2 HPF.o HK.o hne);have HKFr := z_ (Kd.qd2 HKF.o HK.o hne);have hc0 := qac HXHr.o 0;simp only [List.getElem?_toArray, List.getElem?_cons_zero] at hc0;clear hne
  by_cases hlt : i < 50
  ·have c1 : decide ((i : Int) < 50) = true := decide_eq_true zdM;have w2 : IntKind.i64.wrap ((i : Int) + 1) = (i : Int) + 1 := zcK;have p1 : (0 : Int) ≤ (i : Int) := zdM;have q1 : (i : Int) < (pages.length : Int) := by have := HPL.o; omega
   have q2 : (i : Int) < (keep.length : Int) := by have := HLK.o.1; omega
   obtain ⟨adp, rfl, hxp⟩ := Kd.qfW (Kd.qcT HPFr.o) (i : Int) p1 q1;obtain ⟨adk, rfl, hxk⟩ := Kd.qfW (Kd.qcT HKFr.o) (i : Int) p1 q2;rw [Int.toNat_natCast, qdL] at hxp hxk
   cases hpi : pages.getD i false with
   | true =>
    rw [hpi] at hxp;have HN := z_ (HSW.o.keep (.inl hpi));clear hpi
    go_wp2_with fail
    go_roundw
    case rel => exact ⟨i + 1, ms, zdM, zdL, HN, HS, HB, HK⟩
    case measure => simp [intOf]; omega
   | false =>
    rw [hpi] at hxp
    cases hki : keep.getD i false with
    | true =>
     rw [hki] at hxk;have HN := z_ (HSW.o.keep (.inr hki));clear hpi hki
     go_wp2_with fail
     go_roundw
     case rel => exact ⟨i + 1, ms, zdM, zdL, HN, HS, HB, HK⟩
     case measure => simp [intOf]; omega
    | false =>
     rw [hki] at hxk;have HN := z_ (HSW.o.free hlt hpi hki);clear hpi hki;have HQ := z_ (show (i < ns.length) = True from eq_true zde)
     go_upto_region 6 with fail
     have jW := z_ (qaq HXHr.o);have OG := z_ (show Kd.S k80 80 wr.drew w0.heap.size (fun k => k < wr.drew.heap.size) (.slice (some ⟨gn, 0, none⟩) ns.length cn) ms from Kd.qbZ (Kd.qcr (Kd.qd1 HS.o)) (fun k hk => hk.2.2.1));have HB3 := z_ (qba HB.o);have EB := z_ (show Kept w1 wr.drew (S3 gn gn gn) from HK.o.drew);have k6 := z_ (Below.refl wr.drew.heap.size wr.drew);clear HXHr HS HB HK;refine qdv (n := 7) (S := fun w' => True) (ds := []) zArrF7 zdG rfl rfl trivial (fun hHeld => ?_);refine qbU qgs.tab6 qgs.bits6 (fun E2 r8 => ?_);generalize wr.drew = wd at jW OG HB3 EB k6 ⊢;refine qer [0, 1, 2, 3, 4, 5, 6] (fun TE b a w' => ∃ (v1 : Value) (v2 : Value) (v3 : Value) (U4 : Value), a = qbH TE b [(0, 34, .pointer (some ⟨gh, 0, none⟩)), (1, 35, .slice (some ⟨gn, 0, none⟩) ns.length cn), (2, 36, .int .i64 (i : Int)), (3, 37, .agg #[.bool false, .slice none 0 0, .slice none 0 0, .slice none 0 0]), (4, 38, U4), (5, 39, .pointer (some ⟨gn, i * 4, none⟩))] ∧ (b 6 = false → Below wd.heap.size wd w') ∧ (b 4 = true → b 6 = false → Kd.R k61 61 w' wd.heap.size (fun _ => True) v1 z80.f1) ∧ (b 4 = true → b 6 = false → Kd.R Kd.string 9 w' wd.heap.size (fun _ => True) v2 z80.f2) ∧ (b 4 = true → b 6 = false → Kd.R (Kd.int .i64) 3 w' wd.heap.size (fun _ => True) v3 z80.f3) ∧ (b 6 = true → Kd.S k80 80 w' w0.heap.size (fun _ => True) (.slice (some ⟨gn, 0, none⟩) ns.length cn) (ms.set i z80)) ∧ (b 6 = true → Below w0.heap.size w0 w') ∧ (b 6 = true → Kept w1 w' (S3 gn gn gn)) ∧ (b 4 = true → (U4 : Value) = .agg #[.bool z80.f0, v1, v2, v3])) E2.o r8.o zdG zdG ?_ ?_ ?_
     ·exact ⟨.bool false, .bool false, .bool false, .bool false, zbB, fun _ => k6.o, fun h_ => absurd h_ zdK, fun h_ => absurd h_ zdK, fun h_ => absurd h_ zdK, fun h_ => absurd h_ zdK, fun h_ => absurd h_ zdK, fun h_ => absurd h_ zdK, fun h_ => absurd h_ zdK⟩
     ·skip;clear k6;refine zsteps_ rfl ?_ ?_
      ·rintro b a w' ⟨v1, v2, v3, U4, ha, QT⟩ hb_ hon hoff K hK;have e3 : a.tmps[3]? = some (.pointer (some ⟨gh, 0, none⟩)) := zcj;replace ha := z_ ha;refine qaT (w1 := w') (v := .pointer (some ⟨gh, 0, none⟩)) zdO rfl zci ?_;refine hK.o _ _ ⟨v1, v2, v3, U4, zbJ, QT⟩
      refine zsteps_ rfl ?_ ?_
      ·rintro b a w' ⟨v1, v2, v3, U4, ha, QT⟩ hb_ hon hoff K hK;have e34 : a.tmps[34]? = some (.pointer (some ⟨gh, 0, none⟩)) := zon_ ha 0 rfl rfl hon;replace ha := z_ ha;have k6 := z_ (QT.1 (hoff 6 zdG));have yF := qac (qab jW.o k6.o) 0;simp only [List.getElem?_toArray, List.getElem?_cons_zero] at yF;refine qaT (w1 := w') (v := .slice (some ⟨gn, 0, none⟩) ns.length cn) zdO rfl zci ?_;refine hK.o _ _ ⟨v1, v2, v3, U4, zbK, QT⟩
      refine zsteps_ rfl ?_ ?_
      ·rintro b a w' ⟨v1, v2, v3, U4, ha, QT⟩ hb_ hon hoff K hK;have e10 : a.tmps[10]? = some (.int .i64 (i : Int)) := zcj;replace ha := z_ ha;refine qaT (w1 := w') (v := .int .i64 (i : Int)) zdO rfl zci ?_;refine hK.o _ _ ⟨v1, v2, v3, U4, zbL, QT⟩
      refine zsteps_ rfl ?_ ?_
      ·rintro b a w' ⟨v1, v2, v3, U4, ha, QT⟩ hb_ hon hoff K hK;replace ha := z_ ha;refine qaT (w1 := w') (v := .agg #[.bool false, .slice none 0 0, .slice none 0 0, .slice none 0 0]) zdO rfl zci ?_;refine hK.o _ _ ⟨v1, v2, v3, U4, zbM, QT⟩
      refine zsteps_ rfl ?_ ?_
      ·rintro b a w' ⟨v1, v2, v3, U4, ha, H7, Y9, bA, V9, y9, CD, nD, Q3⟩ hb_ hon hoff K hK;have e37 : a.tmps[37]? = some (.agg #[.bool false, .slice none 0 0, .slice none 0 0, .slice none 0 0]) := zon_ ha 3 rfl rfl hon;replace ha := z_ ha;have k6 := z_ (H7 (hoff 6 zdG));have hs_ := k6.o.size;refine qfE Tryz.func41 zdG rfl #[.agg #[.bool false, .slice none 0 0, .slice none 0 0, .slice none 0 0]] zdO rfl rfl (by first | (simp only [List.map_toArray, List.map_cons, List.map_nil, Act.eval, Array.getD_eq_getD_getElem?, Option.getD_some, e37]; done) | (simp only [List.map_toArray, List.map_cons, List.map_nil, Act.eval, Array.getD_eq_getD_getElem?, Option.getD_some, e37]; rfl)) ?_;refine (qb3.calls false none 0 [] none 0 [] none 0 [] _ _ _ _ w' (Kd.qjE _ _) (Nat.le_refl _) (Kd.qjE _ _) (Nat.le_refl _) (Kd.qjE _ _) (Nat.le_refl _) (h := HON.o)).mono ?_;rintro e_ DS ⟨ME, bG, CE, rfl, o6, Ga, Zb, hb1⟩;refine ⟨_, rfl, ?_⟩;refine hK.o _ _ ⟨ME, bG, CE, (.agg #[.bool z80.f0, ME, bG, CE]), zbN, fun _ => qaa k6.o hb1, fun _ _ => Kd.qa3 o6 hs_, fun _ _ => Kd.qa3 Ga hs_, fun _ _ => Kd.qa3 Zb hs_, nf_ (hoff 6 zdG), nf_ (hoff 6 zdG), nf_ (hoff 6 zdG), fun _ => rfl⟩
      refine zsteps_ rfl ?_ ?_
      ·rintro b a w' ⟨v1, v2, v3, U4, ha, QT⟩ hb_ hon hoff K hK;have e35 : a.tmps[35]? = some (.slice (some ⟨gn, 0, none⟩) ns.length cn) := zon_ ha 1 rfl rfl hon;have e36 : a.tmps[36]? = some (.int .i64 (i : Int)) := zon_ ha 2 rfl rfl hon;replace ha := z_ ha;have yd := HQ.o;have Og : (i : Int) < (ns.length : Int) := zde;refine qaT (w1 := w') (v := .pointer (some ⟨gn, i * 4, none⟩)) zdO rfl zci ?_;refine hK.o _ _ ⟨v1, v2, v3, U4, zbO, QT⟩
      refine zsteps_ rfl ?_ ?_
      ·rintro b a w' ⟨v1, v2, v3, U4, ha, H7, Y9, bA, V9, y9, CD, nD, Q3⟩ hb_ hon hoff K hK;have e39 : a.tmps[39]? = some (.pointer (some ⟨gn, i * 4, none⟩)) := zon_ ha 5 rfl rfl hon;have e38 : a.tmps[38]? = some (U4) := zon_ ha 4 rfl rfl hon;rw [Q3 (hon 4 zdG)] at e38;replace ha := z_ ha;have k6 := z_ (H7 hb_);have R1 := z_ (Y9 (hon 4 zdG) hb_);have R2 := z_ (bA (hon 4 zdG) hb_);have R3 := z_ (V9 (hon 4 zdG) hb_);obtain ⟨_, lB, XE, _, V5, u6, _, _⟩ := Kd.qeR (Kd.qaO OG.o k6.o) z80 (i : Int) zdM zde;obtain ⟨Mg, Hf, Zd, nf, kG⟩ : ∃ y0 y1 y2 y3, lB = [y0, y1, y2, y3] := by have qS : lB.length = 4 := XE; match lB, qS with | [a0, a1, a2, a3], _ => exact ⟨a0, a1, a2, a3, rfl⟩
       subst kG;have bP := V5 0 _ rfl;have g6 := V5 1 _ rfl;have i6 := V5 2 _ rfl;have P9 := V5 3 _ rfl;have O1 := u6 0;have C4 := u6 1;have G7 := u6 2;have R7 := u6 3;simp only [Int.toNat_natCast, show k80.sz = 4 from rfl, Nat.add_zero] at bP g6 i6 P9 O1 C4 G7 R7;have TM := (Kd.qfo R1.o).2;have KL := (Kd.qfo R2.o).2;have jL := (Kd.qfo R3.o).2;have WW : ∀ (a_ : Addr) (m_ : Mode) (W_ : World), (store a_ v1 m_).run Tryz.prog W_ = stored Tryz.prog W_ a_ v1 m_ := fun a_ m_ W_ => run_store _ W_ a_ v1 m_ TM
       have xW : ∀ (a_ : Addr) (m_ : Mode) (W_ : World), (store a_ v2 m_).run Tryz.prog W_ = stored Tryz.prog W_ a_ v2 m_ := fun a_ m_ W_ => run_store _ W_ a_ v2 m_ KL
       have TV : ∀ (a_ : Addr) (m_ : Mode) (W_ : World), (store a_ v3 m_).run Tryz.prog W_ = stored Tryz.prog W_ a_ v3 m_ := fun a_ m_ W_ => run_store _ W_ a_ v3 m_ jL
       refine qgN (w1 := (set4 w' gn (i * 4) (.bool z80.f0) v1 v2 v3)) zdO rfl zdt ?_;refine hK.o _ _ ⟨v1, v2, v3, U4, zbR, fun qB => absurd ((qbG b 6).symm.trans qB) zdK, fun _ o6 => absurd ((qbG b 6).symm.trans o6) zdK, fun _ o6 => absurd ((qbG b 6).symm.trans o6) zdK, fun _ o6 => absurd ((qbG b 6).symm.trans o6) zdK, fun _ => S_put (Kd.qaO OG.o k6.o) zde z80 R1.o R2.o R3.o HB3.o.size ⟨TM, KL, jL⟩, fun _ => qgl (qaa HB3.o k6.o) HGN.o _ _ _ _, fun _ => kept4 (EB.o.below k6.o) _ _ _ _, Q3⟩
      exact qcC
     rintro b a wE hall ⟨v1, v2, v3, U4, ha, H7, Y9, bA, V9, y9, CD, nD, Q3⟩;clear k6;have Z4 := hall 0 zdG;have i3 := hall 1 zdG;have J4 := hall 2 zdG;have o4 := hall 3 zdG;have D4 := hall 4 zdG;have Q5 := hall 5 zdG;have H4 := hall 6 zdG;subst ha;obtain rfl := Q3 D4;simp only [qbH, Z4, i3, J4, o4, D4, Q5, H4, if_true, Act.put, List.setIfInBounds_toArray, List.set_cons_zero, List.set_cons_succ];clear H7 Y9 bA V9;have SSF := z_ (y9 H4);clear y9;have HBF := z_ (CD H4);clear CD;have HKF := z_ (nD H4);clear nD hall Z4 i3 J4 o4 D4 Q5 H4
     go_wp2_with fail
     go_roundw
     case rel => exact ⟨i + 1, ms.set i z80, zdM, zdL, HN, SSF, HBF, HKF⟩
     case measure => simp [intOf]; omega
  ·have c1 : decide ((i : Int) < 50) = false := decide_eq_false zdM;have hr0 := qac HXRr.o 0;have hf0 := qau HXRr.o 0;simp only [List.getElem?_toArray, List.getElem?_cons_zero] at hr0;have hie : i = 50 := zdM;have HE := z_ (show ms = onlyN ns (orW keep (walkR ns root).2.1) from by
    have := HSW.o;rw [hie] at this;rw [← HPE.o];exact qc7.all HLS.o this)
   clear hie
   go_wp2_with fail
   refine bodyPost_ret (results_cell_row rfl _ _ gr 29 #[.slice (some ⟨gn, 0, none⟩) ns.length cn] (0, 0) _ rfl (qaX (cs := #[.slice none 0 0]) HXRr.o 0 _ rfl) Tryz.underlying29 rfl zdG) rfl ?_;rw [← HE.o];refine ⟨rfl, Kd.qfY HS.o HXRr.o qgx 0 _, HB.o.setCell (p := ⟨gr, 0, none⟩) HG2.o.2.2.2.2.2 _, ?_⟩;have h1 : Kept w wr (fun k => k = gn) := (Kept.of_below o8.o _).qfZ HK.o (fun k hk => .inl (by rcases hk with e | e | e <;> exact e));exact h1.setCell (p := ⟨gr, 0, none⟩) (.inr HG2.o.2.2.2.2.1) _
def qby.f (B0 : Bool) (D0 : List (S61)) (C0 : List ByteArray) (E0 : List Int) : Option (Bool × (List (S61)) × List ByteArray × List Int) := (qcn.f D0).bind fun IG => ((qbh.f C0).bind fun dH => ((qbj.f E0).bind fun RH => (some (B0, IG, dH, RH))))
def qby.T1 : Bool × List (List Nat × List Nat) := (true, [([], []), ([0], [0]), ([], []), ([2], [2]), ([3], [3]), ([], []), ([5], [5]), ([6, 4], [6]), ([], []), ([8], [8]), ([9, 7], [9]), ([1, 4, 7, 10], [1, 4, 7, 10]), ([11, 10, 0, 1, 2, 3, 4, 5, 6, 7, 8, 9, 10, 11], [11])])
def qby.B1 : List Nat := [0, 1, 0, 4, 12, 0, 32, 124, 0, 256, 1020, 2047, 4095]
theorem qby.tab1 : rtab .any (opsOf Tryz.f54 1) = qby.T1 := zdG
theorem qby.bits1 : qbW qby.T1.2 qby.B1 = true := zdG
theorem qby.calls (B0 : Bool) (P0 : Option Addr) (O0 : Nat) (D0 : List (S61)) (R0 : Option Addr) (T0 : Nat) (C0 : List ByteArray) (U0 : Option Addr) (Q0 : Nat) (E0 : List Int) (r1 : Bool) (r2 : List (S61)) (r3 : List ByteArray) (r4 : List Int) (w : World) (J3 : Kd.C k61 w P0 D0.length D0) (I3 : D0.length ≤ O0) (V2 : Kd.C Kd.string w R0 C0.length C0) (F3 : C0.length ≤ T0) (u3 : Kd.C (Kd.int .i64) w U0 E0.length E0) (D3 : E0.length ≤ Q0) (h : qby.f B0 D0 C0 E0 = some (r1, r2, r3, r4)) :
  Calls Tryz.prog 54 #[.agg #[.bool B0, .slice P0 D0.length O0, .slice R0 C0.length T0, .slice U0 E0.length Q0]] w fun e w' => ∃ ME bG CE : Value, e = .returned (.agg #[.bool r1, ME, bG, CE]) ∧ Kd.R k61 61 w' w.heap.size (fun _ => True) ME r2 ∧ Kd.R Kd.string 9 w' w.heap.size (fun _ => True) bG r3 ∧ Kd.R (Kd.int .i64) 3 w' w.heap.size (fun _ => True) CE r4 ∧ Below w.heap.size w w' := by
 have lI := Tryz.underlying80;have M7 := z_ J3;have Y7 := z_ I3;clear J3 I3;have I8 := z_ V2;have Z8 := z_ F3;clear V2 F3;have D9 := z_ u3;have oA := z_ D3;clear u3 D3;have HB := z_ (Below.refl w.heap.size w);have H : ((qcn.f D0).bind fun IG => ((qbh.f C0).bind fun dH => ((qbj.f E0).bind fun RH => (some (B0, IG, dH, RH))))) = some (r1, r2, r3, r4) := h;clear h;replace H := Option.bind_eq_some_iff.mp H;obtain ⟨IG, aK, H⟩ := H;try dsimp only at H
 have A2 := z_ aK;clear aK;replace H := Option.bind_eq_some_iff.mp H;obtain ⟨dH, GE, H⟩ := H;try dsimp only at H
 have A3 := z_ GE;clear GE;replace H := Option.bind_eq_some_iff.mp H;obtain ⟨RH, CS, H⟩ := H;try dsimp only at H
 have A4 := z_ CS;clear CS;simp only [Option.some.injEq, Prod.mk.injEq] at H;obtain ⟨rfl, rfl, rfl, rfl⟩ := H
 go_enter Tryz.func54, Tryz.ntmps54
 try go_wp2_with (first | ((with_reducible refine qaw (N := 1) rfl ?_); refine qaH zdO (N := 1) zdO (cs := #[.bool B0, .slice P0 D0.length O0, .slice R0 C0.length T0, .slice U0 E0.length Q0]) (t := 80) zcm ?_; intro k9 hg w5 hbox hb; have X2 := z_ (hbox); have GW455 := z_ ((zao : w.heap.size ≤ k9)); have rB := z_ ((zao : w.heap.size ≤ k9)); replace HB := z_ (qaa zar hb); clear hb hbox hg) | ((with_reducible refine qaw (N := 2) rfl ?_); refine qaH zdO (N := 2) zdO (cs := #[.bool false, .slice none 0 0, .slice none 0 0, .slice none 0 0]) (t := 80) zcm ?_; intro F2 hg w6 hbox hb; have Y4 := z_ (hbox); have GW456 := z_ ((by rw [hg]; exact (qaz (zab rB.o)) : w.heap.size ≤ F2)); have GG := z_ ((by rw [hg]; exact (qaz (zab rB.o)) : w.heap.size ≤ F2)); have E1 := z_ ((by rw [hg]; exact Nat.ne_of_lt (qbo (g := k9) (o := .cells #[.bool B0, .slice P0 D0.length O0, .slice R0 C0.length T0, .slice U0 E0.length Q0] 80 (0, 0)) (zac X2.o)) : k9 ≠ F2)); have ZA := z_ ((by rw [hg]; exact Nat.ne_of_gt (qbo (g := k9) (o := .cells #[.bool B0, .slice P0 D0.length O0, .slice R0 C0.length T0, .slice U0 E0.length Q0] 80 (0, 0)) (zac X2.o)) : F2 ≠ k9)); replace X2 := z_ (qab (g := k9) (o := .cells #[.bool B0, .slice P0 D0.length O0, .slice R0 C0.length T0, .slice U0 E0.length Q0] 80 (0, 0)) (zac X2.o) hb); replace HB := z_ (qaa (zab rB.o) hb); clear hb hbox hg))
 have O1 := z_ (qaq X2.o);have C4 := z_ (qaq Y4.o);have G7 := z_ (qa1 HB.o);clear X2 Y4 HB;have X2 := O1;have Y4 := C4;have HB := G7;clear O1 C4 G7;refine qdv (n := 13) (S := fun w' => w'.cell? ⟨k9, 0, none⟩ = some (.bool B0) ∧ w'.cell? ⟨k9, 1, none⟩ = some (.slice P0 D0.length O0) ∧ w'.cell? ⟨k9, 2, none⟩ = some (.slice R0 C0.length T0) ∧ w'.cell? ⟨k9, 3, none⟩ = some (.slice U0 E0.length Q0)) (ds := []) zArrF13 zdG rfl rfl ⟨(qac X2.o 0).trans rfl, (qac X2.o 1).trans rfl, (qac X2.o 2).trans rfl, (qac X2.o 3).trans rfl⟩ (fun hHeld => ?_); refine qbU qby.tab1 qby.bits1 (fun E2 r8 => ?_);generalize w6.drew = w7 at X2 Y4 HB hHeld ⊢;refine qce (i := 0) (N := some 3) (v := _) (a' := _) #[true, false, false, false, false, false, false, false, false, false, false, false, false] rfl rfl (qbI E2.o zdG) (fun _ _ _ h => h) (Or.inl ⟨zdO, zct⟩) zaF ?_;refine qce (i := 2) (N := some 5) (v := _) (a' := _) #[true, false, true, false, false, false, false, false, false, false, false, false, false] rfl rfl (qbI E2.o zdG) (fun _ _ _ h => h) (Or.inl ⟨zdO, zct⟩) zaF ?_;refine qce (i := 5) (N := some 8) (v := _) (a' := _) #[true, false, true, false, false, true, false, false, false, false, false, false, false] rfl rfl (qbI E2.o zdG) (fun _ _ _ h => h) (Or.inl ⟨zdO, zct⟩) zaF ?_;refine qce (i := 8) (N := some 11) (v := _) (a' := _) #[true, false, true, false, false, true, false, false, true, false, false, false, false] rfl rfl (qbI E2.o zdG) (fun _ _ _ h => h) (Or.inl ⟨zdO, zct⟩) zaF ?_;refine qfc (i := 1) (N := some 4) (v := _) (a' := _) #[true, true, true, false, false, true, false, false, true, false, false, false, false] rfl rfl (qcI E2.o r8.o zdG) (fun _ _ _ h => h) (Or.inl ⟨zdO, zbj⟩) hHeld zaF ?_;refine qfc (i := 3) (N := some 6) (v := _) (a' := _) #[true, true, true, true, false, true, false, false, true, false, false, false, false] rfl rfl (qcI E2.o r8.o zdG) (fun _ _ _ h => h) (Or.inl ⟨zdO, zbj⟩) hHeld zaF ?_;refine qfc (i := 6) (N := some 9) (v := _) (a' := _) #[true, true, true, true, false, true, true, false, true, false, false, false, false] rfl rfl (qcI E2.o r8.o zdG) (fun _ _ _ h => h) (Or.inl ⟨zdO, zbj⟩) hHeld zaF ?_;refine qfc (i := 9) (N := some 12) (v := _) (a' := _) #[true, true, true, true, false, true, true, false, true, true, false, false, false] rfl rfl (qcI E2.o r8.o zdG) (fun _ _ _ h => h) (Or.inl ⟨zdO, zbj⟩) hHeld zaF ?_;refine one_ (i := 4) (N := some 7) #[true, true, true, true, true, true, true, false, true, true, false, false, false] rfl rfl (qdO E2.o zdG) zdK (fun K hK => ?_);refine qfE Tryz.func88 zdG rfl #[.slice P0 D0.length O0] zdO rfl rfl zaq ?_
 with_reducible refine (qcn.calls _ _ D0 IG _ ?side1 ?side2 A2.o).mono ?_
 (case side1 => exact zae (Kd.qar M7.o HB.o))
 (case side2 => exact Y7.o)
 rintro e w8 ⟨v458, rfl, ho0, hb⟩;refine ⟨_, rfl, ?_⟩;have O1 := z_ (Kd.qa3 ho0 (qaz (zaf rB.o GG.o)));have C4 := z_ (qab (g := k9) (o := .cells #[.bool B0, .slice P0 D0.length O0, .slice R0 C0.length T0, .slice U0 E0.length Q0] 80 (0, 0)) (zac X2.o) hb);have G7 := z_ (qab (g := F2) (o := .cells #[.bool false, .slice none 0 0, .slice none 0 0, .slice none 0 0] 80 (0, 0)) (zac Y4.o) hb);have R7 := z_ (qaa (zaf rB.o GG.o) hb);clear X2 Y4 HB;have DE := O1;have X2 := C4;have Y4 := G7;have HB := R7;clear O1 C4 G7 R7
 (try clear hb)
 (try clear hb2)
 (try clear hk)
 (try clear hi)
 (try clear ho0)
 refine hK.o _ _ ⟨(qac X2.o 0).trans rfl, (qac X2.o 1).trans rfl, (qac X2.o 2).trans rfl, (qac X2.o 3).trans rfl⟩ (fun hHeld => ?_);clear hK K;refine qfD (a' := ?_) ?_ ?_;rotate_left
 ·show Act.put _ (some 7) _ = _
  simp only [Act.put, List.setIfInBounds_toArray, List.set_cons_zero, List.set_cons_succ, qef, qeP];rfl
 refine one_ (i := 7) (N := some 10) #[true, true, true, true, true, true, true, true, true, true, false, false, false] rfl rfl (qdO E2.o zdG) zdK (fun K hK => ?_);refine qfE Tryz.func89 zdG rfl #[.slice R0 C0.length T0] zdO rfl rfl zaq ?_
 with_reducible refine (qbh.calls _ _ C0 dH _ ?side1 ?side2 A3.o).mono ?_
 (case side1 => exact zae (Kd.qar I8.o HB.o))
 (case side2 => exact Z8.o)
 rintro e w9 ⟨v461, rfl, ho0, hb⟩;refine ⟨_, rfl, ?_⟩;have O1 := z_ (Kd.qa7 (zad DE.o) hb);have C4 := z_ (Kd.qa3 ho0 (qaz (zaf rB.o GG.o)));have G7 := z_ (qab (g := k9) (o := .cells #[.bool B0, .slice P0 D0.length O0, .slice R0 C0.length T0, .slice U0 E0.length Q0] 80 (0, 0)) (zac X2.o) hb);have R7 := z_ (qab (g := F2) (o := .cells #[.bool false, .slice none 0 0, .slice none 0 0, .slice none 0 0] 80 (0, 0)) (zac Y4.o) hb);have EA := z_ (qaa (zaf rB.o GG.o) hb);clear DE X2 Y4 HB;have DE := O1;have xJ := C4;have X2 := G7;have Y4 := R7;have HB := EA;clear O1 C4 G7 R7 EA
 (try clear hb)
 (try clear hb2)
 (try clear hk)
 (try clear hi)
 (try clear ho0)
 refine hK.o _ _ ⟨(qac X2.o 0).trans rfl, (qac X2.o 1).trans rfl, (qac X2.o 2).trans rfl, (qac X2.o 3).trans rfl⟩ (fun hHeld => ?_);clear hK K;refine qfD (a' := ?_) ?_ ?_;rotate_left
 ·show Act.put _ (some 10) _ = _
  simp only [Act.put, List.setIfInBounds_toArray, List.set_cons_zero, List.set_cons_succ, qef, qeP];rfl
 refine one_ (i := 10) (N := some 13) #[true, true, true, true, true, true, true, true, true, true, true, false, false] rfl rfl (qdO E2.o zdG) zdK (fun K hK => ?_);refine qfE Tryz.func82 zdG rfl #[.slice U0 E0.length Q0] zdO rfl rfl zaq ?_
 with_reducible refine (qbj.calls _ _ E0 RH _ ?side1 ?side2 A4.o).mono ?_
 (case side1 => exact zae (Kd.qar D9.o HB.o))
 (case side2 => exact oA.o)
 rintro e U8 ⟨v464, rfl, ho0, hb⟩;refine ⟨_, rfl, ?_⟩;have O1 := z_ (Kd.qa7 (zad DE.o) hb);have C4 := z_ (Kd.qa7 (zad xJ.o) hb);have G7 := z_ (Kd.qa3 ho0 (qaz (zaf rB.o GG.o)));have R7 := z_ (qab (g := k9) (o := .cells #[.bool B0, .slice P0 D0.length O0, .slice R0 C0.length T0, .slice U0 E0.length Q0] 80 (0, 0)) (zac X2.o) hb);have EA := z_ (qab (g := F2) (o := .cells #[.bool false, .slice none 0 0, .slice none 0 0, .slice none 0 0] 80 (0, 0)) (zac Y4.o) hb);have RG := z_ (qaa (zaf rB.o GG.o) hb);clear DE xJ X2 Y4 HB;have DE := O1;have xJ := C4;have dY := G7;have X2 := R7;have Y4 := EA;have HB := RG;clear O1 C4 G7 R7 EA RG
 (try clear hb)
 (try clear hb2)
 (try clear hk)
 (try clear hi)
 (try clear ho0)
 obtain ⟨D7, E7, pQ⟩ := Kd.qbO dY.o
 (first | subst pQ | (injection pQ with tE pJ oE; have gK := tE.symm; have TK := oE.symm; clear tE pJ oE; subst gK; subst TK))
 obtain ⟨zA, AA, gW⟩ := Kd.qbO xJ.o
 (first | subst gW | (injection gW with tE pJ oE; have gK := tE.symm; have TK := oE.symm; clear tE pJ oE; subst gK; subst TK))
 obtain ⟨NQ, UQ, Nh⟩ := Kd.qbO DE.o
 (first | subst Nh | (injection Nh with tE pJ oE; have gK := tE.symm; have TK := oE.symm; clear tE pJ oE; subst gK; subst TK))
 refine hK.o _ _ ⟨(qac X2.o 0).trans rfl, (qac X2.o 1).trans rfl, (qac X2.o 2).trans rfl, (qac X2.o 3).trans rfl⟩ (fun hHeld => ?_);clear hK K;refine qfD (a' := ?_) ?_ ?_;rotate_left
 ·show Act.put _ (some 13) _ = _
  simp only [Act.put, List.setIfInBounds_toArray, List.set_cons_zero, List.set_cons_succ, qef, qeP];rfl
 refine qce (i := 11) (N := some 14) (v := _) (a' := _) #[true, true, true, true, true, true, true, true, true, true, true, true, false] rfl rfl (qbI E2.o zdG) (fun _ _ _ h => h) (Or.inl ⟨zdO, zct⟩) zaF ?_;refine one_ (i := 12) (N := none) zArrT13 rfl rfl (qdO E2.o zdG) zdK (fun K hK => ?_);have hs14 : U8.cell? ⟨F2, 0, none⟩ = some (.bool false) := (qac Y4.o 0).trans rfl;have hfs14 := qau Y4.o 0;have Gj := E1.o;have Li := ZA.o;have hs15 : U8.cell? ⟨F2, 1, none⟩ = some (.slice none 0 0) := (qac Y4.o 1).trans rfl;have hfs15 := qau Y4.o 1;have Ei := E1.o;have Gi := ZA.o;have hs16 : U8.cell? ⟨F2, 2, none⟩ = some (.slice none 0 0) := (qac Y4.o 2).trans rfl;have hfs16 := qau Y4.o 2;have Kk := E1.o;have Uk := ZA.o;have hs17 : U8.cell? ⟨F2, 3, none⟩ = some (.slice none 0 0) := (qac Y4.o 3).trans rfl;have hfs17 := qau Y4.o 3;have nj := E1.o;have Bi := ZA.o;refine qgN (w1 := ?_) zdO rfl ?_ ?_;rotate_left
 ·go_simp;rfl
 refine hK.o _ _ ⟨((cell_far (p := ⟨F2, _, none⟩) E1.o _).trans (((cell_far (p := ⟨F2, _, none⟩) E1.o _).trans (((cell_far (p := ⟨F2, _, none⟩) E1.o _).trans (((cell_far (p := ⟨F2, _, none⟩) E1.o _).trans (hHeld.1)))))))), ((cell_far (p := ⟨F2, _, none⟩) E1.o _).trans (((cell_far (p := ⟨F2, _, none⟩) E1.o _).trans (((cell_far (p := ⟨F2, _, none⟩) E1.o _).trans (((cell_far (p := ⟨F2, _, none⟩) E1.o _).trans (hHeld.2.1)))))))), ((cell_far (p := ⟨F2, _, none⟩) E1.o _).trans (((cell_far (p := ⟨F2, _, none⟩) E1.o _).trans (((cell_far (p := ⟨F2, _, none⟩) E1.o _).trans (((cell_far (p := ⟨F2, _, none⟩) E1.o _).trans (hHeld.2.2.1)))))))), ((cell_far (p := ⟨F2, _, none⟩) E1.o _).trans (((cell_far (p := ⟨F2, _, none⟩) E1.o _).trans (((cell_far (p := ⟨F2, _, none⟩) E1.o _).trans (((cell_far (p := ⟨F2, _, none⟩) E1.o _).trans (hHeld.2.2.2))))))))⟩ (fun hHeld => ?_);clear hK K;refine qiV (qeQ E2.o zdG) ?_;try go_wp2
 refine bodyPost_ret (results_cell_row rfl _ _ F2 80 #[.bool B0, .slice NQ IG.length UQ, .slice zA dH.length AA, .slice D7 RH.length E7] (0, 0) _ rfl (by (with_reducible repeat (first | apply qas | apply qaq | apply qam)); refine qaX (cs := #[.bool B0, .slice NQ IG.length UQ, .slice zA dH.length AA, .slice none 0 0]) ?_ 3 _ rfl; (with_reducible repeat (first | apply qas | apply qaq | apply qam)); refine qaX (cs := #[.bool B0, .slice NQ IG.length UQ, .slice none 0 0, .slice none 0 0]) ?_ 2 _ rfl; (with_reducible repeat (first | apply qas | apply qaq | apply qam)); refine qaX (cs := #[.bool B0, .slice none 0 0, .slice none 0 0, .slice none 0 0]) ?_ 1 _ rfl; (with_reducible repeat (first | apply qas | apply qaq | apply qam)); refine qaX (cs := #[.bool false, .slice none 0 0, .slice none 0 0, .slice none 0 0]) ?_ 0 _ rfl; (with_reducible repeat (first | apply qas | apply qaq | apply qam)); exact Y4.o) Tryz.underlying80 rfl zdG) rfl ?_;exact ⟨_, _, _, zaM, by (with_reducible repeat (first | apply Kd.qbm | apply Kd.qbE | apply Kd.qbu)); exact Kd.qaU (Kd.qbp (p := ⟨F2, 3, none⟩) (Kd.qbp (p := ⟨F2, 2, none⟩) (Kd.qbp (p := ⟨F2, 1, none⟩) (Kd.qbp (p := ⟨F2, 0, none⟩) (Kd.qbg DE.o Y4.o zdK) (fun _ hk => hk.2) (.bool B0)) (fun _ hk => hk.2) (.slice NQ IG.length UQ)) (fun _ hk => hk.2) (.slice zA dH.length AA)) (fun _ hk => hk.2) (.slice D7 RH.length E7)) (fun _ hk => trivial), by (with_reducible repeat (first | apply Kd.qbm | apply Kd.qbE | apply Kd.qbu)); exact Kd.qaU (Kd.qbp (p := ⟨F2, 3, none⟩) (Kd.qbp (p := ⟨F2, 2, none⟩) (Kd.qbp (p := ⟨F2, 1, none⟩) (Kd.qbp (p := ⟨F2, 0, none⟩) (Kd.qbg xJ.o Y4.o zdK) (fun _ hk => hk.2) (.bool B0)) (fun _ hk => hk.2) (.slice NQ IG.length UQ)) (fun _ hk => hk.2) (.slice zA dH.length AA)) (fun _ hk => hk.2) (.slice D7 RH.length E7)) (fun _ hk => trivial), by (with_reducible repeat (first | apply Kd.qbm | apply Kd.qbE | apply Kd.qbu)); exact Kd.qaU (Kd.qbp (p := ⟨F2, 3, none⟩) (Kd.qbp (p := ⟨F2, 2, none⟩) (Kd.qbp (p := ⟨F2, 1, none⟩) (Kd.qbp (p := ⟨F2, 0, none⟩) (Kd.qbg dY.o Y4.o zdK) (fun _ hk => hk.2) (.bool B0)) (fun _ hk => hk.2) (.slice NQ IG.length UQ)) (fun _ hk => hk.2) (.slice zA dH.length AA)) (fun _ hk => hk.2) (.slice D7 RH.length E7)) (fun _ hk => trivial), zaf rB.o GG.o⟩
def qgt.T5 : Bool × List (List Nat × List Nat) := (true, [([], []), ([0], [0]), ([], []), ([], []), ([3], [3]), ([1, 2, 0, 1, 2, 3, 4], [1, 2]), ([5, 4, 4, 0, 1, 2, 3, 4], [4, 5])])
def qgt.B5 : List Nat := [0, 1, 0, 0, 8, 31, 63]
theorem qgt.tab5 : rtab .any (opsOf Tryz.f26 5) = qgt.T5 := zdG
theorem qgt.bits5 : qbW qgt.T5.2 qgt.B5 = true := zdG
def MsTo (hs : List S80) (i : Nat) (ms : List S80) : Prop := ms.length = 50 ∧ ∀ j, j < 50 → ms.getD j z80 = if j < i then hs.getD j z80 else z80
theorem MsTo.zero (hs : List S80) : MsTo hs 0 (List.replicate 50 z80) := ⟨List.length_replicate .., fun j hj => by rw [List.getD_eq_getElem?_getD, List.getElem?_replicate, if_pos hj, if_neg (Nat.not_lt_zero _)]; rfl⟩
theorem MsTo.step {hs ms : List S80} {i : Nat} (h : MsTo hs i ms) (hi : i < 50) : MsTo hs (i + 1) (ms.set i (hs.getD i z80)) := by
 refine ⟨zcH, fun j hj => ?_⟩
 by_cases e : j = i
 ·subst e;rw [if_pos zdM, List.getD_eq_getElem?_getD, List.getElem?_set_self zdp];rfl
 ·have h1 := h.2 j hj;rw [List.getD_eq_getElem?_getD] at h1 ⊢;rw [List.getElem?_set_ne zdM, h1]
  by_cases h2 : j < i
  ·rw [if_pos h2, if_pos zdM]
  ·rw [if_neg h2, if_neg zdM]
theorem MsTo.all {hs ms : List S80} (hl : hs.length = 50) (h : MsTo hs 50 ms) : ms = hs := by
 refine List.ext_getElem? fun j => ?_
 by_cases hj : j < 50
 ·have h1 := h.2 j hj;rw [if_pos hj, List.getD_eq_getElem?_getD, List.getD_eq_getElem?_getD, List.getElem?_eq_getElem zdp, List.getElem?_eq_getElem (by rw [hl]; exact hj)] at h1;rw [List.getElem?_eq_getElem zdp, List.getElem?_eq_getElem (by rw [hl]; exact hj)];exact congrArg some h1
 ·rw [List.getElem?_eq_none (by rw [h.1]; omega), List.getElem?_eq_none zdM]
theorem qkF (x : S80) (h : x.f1.length ≤ 1048576 ∧ x.f2.length ≤ 1048576 ∧ x.f3.length ≤ 1048576) : qby.f x.f0 x.f1 x.f2 x.f3 = some (x.f0, x.f1, x.f2, x.f3) := by
 unfold qby.f;rw [show qcn.f x.f1 = some x.f1 from if_pos zdM, Option.bind_some, show qbh.f x.f2 = some x.f2 from if_pos zdM, Option.bind_some, show qbj.f x.f3 = some x.f3 from if_pos zdM, Option.bind_some]
theorem S_fifty {w : World} {base n : Nat} {v : Value} (h : Kd.S k80 80 w base (fun _ => True) v (List.replicate (n : Int).toNat z80)) (hn : n = 50) : Kd.S k80 80 w base (fun _ => True) v (List.replicate 50 z80) := by
 subst hn;exact h
structure ClAt (w wr : World) (g1 g2 g3 gn cn : Nat) (H : Value) (n : Nat) (ms : List S80) : Prop where
 below : Below w.heap.size w wr
 box1 : wr.heap[g1]? = some (.cells #[H] 29 (0, 0))
 box2 : wr.heap[g2]? = some (.cells #[.slice none 0 0] 29 (0, 0))
 box3 : wr.heap[g3]? = some (.cells #[.slice (some ⟨gn, 0, none⟩) n cn] 29 (0, 0))
 nodes : Kd.S k80 80 wr w.heap.size (fun _ => True) (.slice (some ⟨gn, 0, none⟩) n cn) ms
 ge : w.heap.size ≤ g2
theorem ClAt.qbQ {w wr w1 : World} {g1 g2 g3 gn cn n : Nat} {H : Value} {ms : List S80} (h : ClAt w wr g1 g2 g3 gn cn H n ms) (hb : Below wr.heap.size wr w1) : ClAt w w1 g1 g2 g3 gn cn H n ms := ⟨qaa h.below hb, qab h.box1 hb, qab h.box2 hb, qab h.box3 hb, Kd.qaO h.nodes hb, h.ge⟩
theorem ClAt.store {w wd w' : World} {g1 g2 g3 gn cn n i : Nat} {H v1 v2 v3 : Value} {ms : List S80} (h : ClAt w wd g1 g2 g3 gn cn H n ms) (hb : Below wd.heap.size wd w') (hi : i < n) (x : S80) (r1 : Kd.R k61 61 w' wd.heap.size (fun _ => True) v1 x.f1) (r2 : Kd.R Kd.string 9 w' wd.heap.size (fun _ => True) v2 x.f2) (r3 : Kd.R (Kd.int .i64) 3 w' wd.heap.size (fun _ => True) v3 x.f3) (o : v1.oneCell' = true ∧ v2.oneCell' = true ∧ v3.oneCell' = true) :
  ClAt w (set4 w' gn (i * 4) (.bool x.f0) v1 v2 v3) g1 g2 g3 gn cn H n (ms.set i x) := by
 have h' := h.qbQ hb;obtain ⟨y, hy⟩ := Kd.qcL h'.nodes gn (qbT _ _ _);have hS0 : Kd.S k80 80 wd w.heap.size (fun k => k < wd.heap.size) (.slice (some ⟨gn, 0, none⟩) n cn) ms := Kd.qbZ (Kd.qcr h.nodes) (fun k hk => hk.2.2.1);have hS := S_put (Kd.qaO hS0 hb) hi x r1 r2 r3 h.below.size o;exact ⟨qgl h'.below (Kd.qgf h.nodes gn (qbT _ _ _)) _ _ _ _, qel h'.box1 (qb9 h'.box1 hy zdK) _ _ _ _, qel h'.box2 (qb9 h'.box2 hy zdK) _ _ _ _, qel h'.box3 (qb9 h'.box3 hy zdK) _ _ _ _, hS, h.ge⟩
theorem qlR (w : World) (A : Option Addr) (c : Nat) (hs : List S80) (hC : Kd.C k80 w A hs.length hs) (hc : hs.length ≤ c) (hl : hs.length = 50) (ht : TinyN hs) :
  Calls Tryz.prog 26 #[.agg #[.slice A hs.length c]] w fun e w' => ∃ v, e = .returned (.agg #[v]) ∧ Kd.S k80 80 w' w.heap.size (fun _ => True) v hs ∧ Below w.heap.size w w' := by
 have huh := Tryz.underlying29;have hun := Tryz.underlying80;obtain ⟨g1, hg1⟩ : ∃ g1, g1 = w.heap.size := ⟨_, rfl⟩
 obtain ⟨W1, hW1⟩ : ∃ W1, W1 = w.alloc (Obj.cells #[.slice A hs.length c] 29 (0, 0)) := ⟨_, rfl⟩
 obtain ⟨g2, hg2⟩ : ∃ g2, g2 = w.heap.size + 1 := ⟨_, rfl⟩
 obtain ⟨W2, hW2⟩ : ∃ W2, W2 = W1.alloc (Obj.cells #[.slice none 0 0] 29 (0, 0)) := ⟨_, rfl⟩
 have hz1 : W1.heap.size = w.heap.size + 1 := by rw [hW1]; exact Array.size_push _
 have LE : Below w.heap.size w W1 := zbU;have hY2 : Below W1.heap.size W1 W2 := zbV;have oU := z_ (show W2.heap[g1]? = some (.cells #[.slice A hs.length c] 29 (0, 0)) from qab (by rw [hW1, hg1]; exact qbz w _) hY2);have AE := z_ (show W2.heap[g2]? = some (.cells #[.slice none 0 0] 29 (0, 0)) ∧ w.heap.size ≤ g2 from ⟨by rw [hW2, hg2, ← hz1]; exact qbz W1 _, zdM⟩);have BH := z_ (qaa LE hY2);have HC := z_ hC;have HCC := z_ (And.intro hc hl);have HT := z_ ht;clear hC hc hl ht LE hY2
 go_enter Tryz.func26, Tryz.ntmps26
 go_upto_region 1 with fail
 rw [← hW1, ← hW2, ← hg2, ← hg1];clear hW1 hW2 hz1 hg1 hg2;have d1 := qac oU.o 0;simp only [List.getElem?_toArray, List.getElem?_cons_zero] at d1
 go_upto_region 2 with ((with_reducible refine qaw (N := 9) rfl ?_); go_must (refine Kd.S_make k80 (w0 := w) w.heap.size 80 rfl (N := 9) rfl 27 _ _ rfl (hs.length : Int) rfl rfl Tryz.underlying27 (.agg #[(.bool false), (.slice none 0 0), (.slice none 0 0), (.slice none 0 0)]) 80 qlq rfl zdK zdM z80 (ok := fun _ => True) (okp := fun _ => True) (qfs _ _ _ z80 (Kd.qdW _ _ _ _ _) (Kd.qdW _ _ _ _ _) (Kd.qdW _ _ _ _ _)) (fun _ hk => hk) trivial zdM zcS BH.o BH.o.size ?_; intro v3 w3 hS3 hb3 hg3 vW; have HW3 := z_ (Below.grown (Below.refl W2.heap.size W2) hg3 (Nat.le_refl _) (fun k hk => zdH)); have Ad : Kd.S k80 80 w3 w.heap.size (fun _ => True) v3 (List.replicate 50 z80) := S_fifty hS3 HCC.o.2; obtain ⟨gn, cn, e3, _, _⟩ := Kd.qiZ Ad zdN; rw [List.length_replicate] at e3; subst e3; have GQ := z_ Ad; clear hS3 hb3 hg3 vW Ad))
 obtain ⟨g3, hg3⟩ : ∃ g3, g3 = w3.heap.size := ⟨_, rfl⟩
 obtain ⟨W4, XK⟩ : ∃ W4, W4 = w3.alloc (Obj.cells #[.slice (some ⟨gn, 0, none⟩) 50 cn] 29 (0, 0)) := ⟨_, rfl⟩
 have QG : Below w3.heap.size w3 W4 := zbX;have HCA := z_ (show ClAt w W4 g1 g2 g3 gn cn (.slice A hs.length c) 50 (List.replicate 50 z80) from
  ⟨qaa (qaa BH.o HW3.o) QG, qab (qab oU.o HW3.o) QG, qab (qab AE.o.1 HW3.o) QG, by rw [XK, hg3]; exact qbz w3 _, Kd.qaO GQ.o QG, AE.o.2⟩)
 rw [← XK, ← hg3];clear XK hg3 QG oU AE BH HW3 GQ d1;have d1 := qac HCA.o.box1 0;simp only [List.getElem?_toArray, List.getElem?_cons_zero] at d1
 go_wp2_with fail
 clear d1
 go_loopw [14] (fun v14 wr => ∃ (i : Nat) (ms : List S80), i ≤ 50 ∧ v14 = .int .i64 (i : Int) ∧ Aside0 (MsTo hs i ms) ∧ Aside0 (ClAt w wr g1 g2 g3 gn cn (.slice A hs.length c) 50 ms)) (fun v14 _ => 50 - (intOf v14).toNat)
 case atStart => exact ⟨0, _, Nat.zero_le _, rfl, ⟨MsTo.zero hs⟩, HCA⟩
 case round =>
  clear HCA;obtain ⟨i, ms, hi, rfl, HM, HCA⟩ := hrel
  by_cases hlt : i < 50
  ·have c1 : decide ((i : Int) < (hs.length : Int)) = true := decide_eq_true zcS;have w2 : IntKind.i64.wrap ((i : Int) + 1) = (i : Int) + 1 := zcK;have p1 : (0 : Int) ≤ (i : Int) := zdM;have q1 : (i : Int) < (hs.length : Int) := zcS;obtain ⟨ad, A1, Fd, A2, Id, A3, KX, e0, x0, x1, x2, x3, l1, r1, l2, r2, l3, r3⟩ := qdq (Kd.qar HC.o HCA.o.below) (i : Int) p1 q1
   cases e0
   obtain ⟨x, hx⟩ : ∃ x, x = qaC hs (i : Int) := ⟨_, rfl⟩
   rw [← hx] at x0 x1 x2 x3 l1 r1 l2 r2 l3 r3;rw [Int.toNat_natCast] at x0 x1 x2 x3;have HX := z_ (show x = hs.getD i z80 from by rw [hx]; unfold qaC; rw [Int.toNat_natCast]);obtain ⟨gx, hgx⟩ : ∃ gx, gx = wr.heap.size := ⟨_, rfl⟩
   obtain ⟨W5, AO⟩ : ∃ W5, W5 = wr.alloc (Obj.cells #[.bool x.f0, .slice A1 x.f1.length Fd, .slice A2 x.f2.length Id, .slice A3 x.f3.length KX] 80 (0, 0)) := ⟨_, rfl⟩
   have wh : Below wr.heap.size wr W5 := zca;have zR := z_ (show W5.heap[gx]? = some (.cells #[.bool x.f0, .slice A1 x.f1.length Fd, .slice A2 x.f2.length Id, .slice A3 x.f3.length KX] 80 (0, 0)) from by rw [AO, hgx]; exact qbz wr _);have mU := z_ (And.intro (Kd.qar r1 wh) (And.intro (Kd.qar r2 wh) (Kd.qar r3 wh)));have QQ := z_ (And.intro l1 (And.intro l2 l3));have eQ := z_ (HCA.o.qbQ wh);have HML := z_ (show ms.length = 50 from HM.o.1);have HCN := z_ (show qby.f x.f0 x.f1 x.f2 x.f3 = some (x.f0, x.f1, x.f2, x.f3) from qkF x (by
    have hm : x ∈ hs := by rw [HX.o, List.getD_eq_getElem?_getD, List.getElem?_eq_getElem zdM]; exact List.getElem_mem _
    exact HT.o x hm))
   clear hx r1 r2 r3 l1 l2 l3 wh
   go_upto_region 5 with fail
   rw [← AO, ← hgx];clear AO hgx x0 x1 x2 x3;refine qdv (n := 7) (S := fun w' => True) (ds := []) zArrF7 zdG rfl rfl trivial (fun hHeld => ?_);refine qbU qgt.tab5 qgt.bits5 (fun E2 r8 => ?_);replace eQ := z_ (eQ.o.qbQ (qba (Below.refl _ _)));replace zR := z_ (qaq zR.o);replace mU := z_ (And.intro (Kd.qeN mU.o.1) (And.intro (Kd.qeN mU.o.2.1) (Kd.qeN mU.o.2.2)));have BE := z_ (Below.refl W5.drew.heap.size W5.drew);generalize W5.drew = wd at eQ zR mU BE ⊢;refine qer [0, 1, 2, 3, 4, 5, 6] (fun TE b a w' => ∃ (v1 : Value) (v2 : Value) (v3 : Value) (U4 : Value), a = qbH TE b [(0, 19, .pointer (some ⟨g3, 0, none⟩)), (1, 20, .slice (some ⟨gn, 0, none⟩) 50 cn), (2, 21, .int .i64 (i : Int)), (3, 22, .agg #[.bool x.f0, .slice A1 x.f1.length Fd, .slice A2 x.f2.length Id, .slice A3 x.f3.length KX]), (4, 23, U4), (5, 24, .pointer (some ⟨gn, i * 4, none⟩))] ∧ (b 6 = false → Below wd.heap.size wd w') ∧ (b 4 = true → b 6 = false → Kd.R k61 61 w' wd.heap.size (fun _ => True) v1 x.f1) ∧ (b 4 = true → b 6 = false → Kd.R Kd.string 9 w' wd.heap.size (fun _ => True) v2 x.f2) ∧ (b 4 = true → b 6 = false → Kd.R (Kd.int .i64) 3 w' wd.heap.size (fun _ => True) v3 x.f3) ∧ (b 6 = true → ClAt w w' g1 g2 g3 gn cn (.slice (some ad) hs.length c) 50 (ms.set i x)) ∧ (b 4 = true → (U4 : Value) = .agg #[.bool x.f0, v1, v2, v3])) E2.o r8.o zdG zdG ?_ ?_ ?_
   ·exact ⟨.bool false, .bool false, .bool false, .bool false, zbB, fun _ => BE.o, fun h_ => absurd h_ zdK, fun h_ => absurd h_ zdK, fun h_ => absurd h_ zdK, fun h_ => absurd h_ zdK, fun h_ => absurd h_ zdK⟩
   ·skip;clear BE;refine zsteps_ rfl ?_ ?_
    ·rintro b a w' ⟨v1, v2, v3, U4, ha, QT⟩ hb_ hon hoff K hK;have e3 : a.tmps[3]? = some (.pointer (some ⟨g3, 0, none⟩)) := zcj;replace ha := z_ ha;refine qaT (w1 := w') (v := .pointer (some ⟨g3, 0, none⟩)) zdO rfl zci ?_;refine hK.o _ _ ⟨v1, v2, v3, U4, zbJ, QT⟩
    refine zsteps_ rfl ?_ ?_
    ·rintro b a w' ⟨v1, v2, v3, U4, ha, QT⟩ hb_ hon hoff K hK;have e19 : a.tmps[19]? = some (.pointer (some ⟨g3, 0, none⟩)) := zon_ ha 0 rfl rfl hon;replace ha := z_ ha;have BE := z_ (QT.1 (hoff 6 zdG));have yF := qac (eQ.o.qbQ BE.o).box3 0;simp only [List.getElem?_toArray, List.getElem?_cons_zero] at yF;refine qaT (w1 := w') (v := .slice (some ⟨gn, 0, none⟩) 50 cn) zdO rfl zci ?_;refine hK.o _ _ ⟨v1, v2, v3, U4, zbK, QT⟩
    refine zsteps_ rfl ?_ ?_
    ·rintro b a w' ⟨v1, v2, v3, U4, ha, QT⟩ hb_ hon hoff K hK;have e4 : a.tmps[4]? = some (.int .i64 (i : Int)) := zcj;replace ha := z_ ha;refine qaT (w1 := w') (v := .int .i64 (i : Int)) zdO rfl zci ?_;refine hK.o _ _ ⟨v1, v2, v3, U4, zbL, QT⟩
    refine zsteps_ rfl ?_ ?_
    ·rintro b a w' ⟨v1, v2, v3, U4, ha, QT⟩ hb_ hon hoff K hK;have e5 : a.tmps[5]? = some (.pointer (some ⟨gx, 0, none⟩)) := zcj;replace ha := z_ ha;have BE := z_ (QT.1 (hoff 6 zdG));obtain ⟨Tg, Kg, ph, Wg⟩ := qbB (qab zR.o BE.o);refine qaT (w1 := w') (v := .agg #[.bool x.f0, .slice A1 x.f1.length Fd, .slice A2 x.f2.length Id, .slice A3 x.f3.length KX]) zdO rfl zci ?_;refine hK.o _ _ ⟨v1, v2, v3, U4, zbM, QT⟩
    refine zsteps_ rfl ?_ ?_
    ·rintro b a w' ⟨v1, v2, v3, U4, ha, zE, Y9, bA, V9, UD, Q3⟩ hb_ hon hoff K hK;have e22 : a.tmps[22]? = some (.agg #[.bool x.f0, .slice A1 x.f1.length Fd, .slice A2 x.f2.length Id, .slice A3 x.f3.length KX]) := zon_ ha 3 rfl rfl hon;replace ha := z_ ha;have BE := z_ (zE (hoff 6 zdG));have hs_ := BE.o.size;refine qfE Tryz.func54 zdG rfl #[.agg #[.bool x.f0, .slice A1 x.f1.length Fd, .slice A2 x.f2.length Id, .slice A3 x.f3.length KX]] zdO rfl rfl (by first | (simp only [List.map_toArray, List.map_cons, List.map_nil, Act.eval, Array.getD_eq_getD_getElem?, Option.getD_some, e22]; done) | (simp only [List.map_toArray, List.map_cons, List.map_nil, Act.eval, Array.getD_eq_getD_getElem?, Option.getD_some, e22]; rfl)) ?_;refine (qby.calls (J3 := Kd.qar mU.o.1 BE.o) (I3 := QQ.o.1) (V2 := Kd.qar mU.o.2.1 BE.o) (F3 := QQ.o.2.1) (u3 := Kd.qar mU.o.2.2 BE.o) (D3 := QQ.o.2.2) (h := HCN.o)).mono ?_;rintro e_ DS ⟨ME, bG, CE, rfl, o6, Ga, Zb, hb1⟩;refine ⟨_, rfl, ?_⟩;refine hK.o _ _ ⟨ME, bG, CE, (.agg #[.bool x.f0, ME, bG, CE]), zbN, fun _ => qaa BE.o hb1, fun _ _ => Kd.qa3 o6 hs_, fun _ _ => Kd.qa3 Ga hs_, fun _ _ => Kd.qa3 Zb hs_, nf_ (hoff 6 zdG), fun _ => rfl⟩
    refine zsteps_ rfl ?_ ?_
    ·rintro b a w' ⟨v1, v2, v3, U4, ha, QT⟩ hb_ hon hoff K hK;have e20 : a.tmps[20]? = some (.slice (some ⟨gn, 0, none⟩) 50 cn) := zon_ ha 1 rfl rfl hon;have e21 : a.tmps[21]? = some (.int .i64 (i : Int)) := zon_ ha 2 rfl rfl hon;replace ha := z_ ha;have Og : (0 : Int) ≤ (i : Int) := zdM;have yd : (i : Int) < (50 : Int) := zdM;have q7_ : i < 50 := zdM;refine qaT (w1 := w') (v := .pointer (some ⟨gn, i * 4, none⟩)) zdO rfl zci ?_;refine hK.o _ _ ⟨v1, v2, v3, U4, zbO, QT⟩
    refine zsteps_ rfl ?_ ?_
    ·rintro b a w' ⟨v1, v2, v3, U4, ha, zE, Y9, bA, V9, UD, Q3⟩ hb_ hon hoff K hK;have e24 : a.tmps[24]? = some (.pointer (some ⟨gn, i * 4, none⟩)) := zon_ ha 5 rfl rfl hon;have e23 : a.tmps[23]? = some (U4) := zon_ ha 4 rfl rfl hon;rw [Q3 (hon 4 zdG)] at e23;replace ha := z_ ha;have BE := z_ (zE hb_);have R1 := z_ (Y9 (hon 4 zdG) hb_);have R2 := z_ (bA (hon 4 zdG) hb_);have R3 := z_ (V9 (hon 4 zdG) hb_);obtain ⟨_, lB, XE, _, V5, u6, _, _⟩ := Kd.qeR (eQ.o.qbQ BE.o).nodes z80 (i : Int) zdM zdM;obtain ⟨Mg, Hf, Zd, nf, kG⟩ : ∃ y0 y1 y2 y3, lB = [y0, y1, y2, y3] := by have qS : lB.length = 4 := XE; match lB, qS with | [a0, a1, a2, a3], _ => exact ⟨a0, a1, a2, a3, rfl⟩
     subst kG;have bP := V5 0 _ rfl;have g6 := V5 1 _ rfl;have i6 := V5 2 _ rfl;have P9 := V5 3 _ rfl;have O1 := u6 0;have C4 := u6 1;have G7 := u6 2;have R7 := u6 3;simp only [Int.toNat_natCast, show k80.sz = 4 from rfl, Nat.add_zero] at bP g6 i6 P9 O1 C4 G7 R7;have TM := (Kd.qfo R1.o).2;have KL := (Kd.qfo R2.o).2;have jL := (Kd.qfo R3.o).2;have WW : ∀ (a_ : Addr) (m_ : Mode) (W_ : World), (store a_ v1 m_).run Tryz.prog W_ = stored Tryz.prog W_ a_ v1 m_ := fun a_ m_ W_ => run_store _ W_ a_ v1 m_ TM
     have xW : ∀ (a_ : Addr) (m_ : Mode) (W_ : World), (store a_ v2 m_).run Tryz.prog W_ = stored Tryz.prog W_ a_ v2 m_ := fun a_ m_ W_ => run_store _ W_ a_ v2 m_ KL
     have TV : ∀ (a_ : Addr) (m_ : Mode) (W_ : World), (store a_ v3 m_).run Tryz.prog W_ = stored Tryz.prog W_ a_ v3 m_ := fun a_ m_ W_ => run_store _ W_ a_ v3 m_ jL
     refine qgN (w1 := (set4 w' gn (i * 4) (.bool x.f0) v1 v2 v3)) zdO rfl zdt ?_;refine hK.o _ _ ⟨v1, v2, v3, U4, zbR, fun qB => absurd ((qbG b 6).symm.trans qB) zdK, fun _ o6 => absurd ((qbG b 6).symm.trans o6) zdK, fun _ o6 => absurd ((qbG b 6).symm.trans o6) zdK, fun _ o6 => absurd ((qbG b 6).symm.trans o6) zdK, fun _ => ClAt.store eQ.o BE.o zdM x R1.o R2.o R3.o ⟨TM, KL, jL⟩, Q3⟩
    exact qcC
   rintro b a wE hall ⟨v1, v2, v3, U4, ha, zE, Y9, bA, V9, UD, Q3⟩;clear BE;have Z4 := hall 0 zdG;have i3 := hall 1 zdG;have J4 := hall 2 zdG;have o4 := hall 3 zdG;have D4 := hall 4 zdG;have Q5 := hall 5 zdG;have H4 := hall 6 zdG;subst ha;obtain rfl := Q3 D4;simp only [qbH, Z4, i3, J4, o4, D4, Q5, H4, if_true, Act.put, List.setIfInBounds_toArray, List.set_cons_zero, List.set_cons_succ];clear zE Y9 bA V9;have CGF := z_ (UD H4);clear UD hall Z4 i3 J4 o4 D4 Q5 H4
   go_wp2_with fail
   go_roundw
   case rel => exact ⟨i + 1, ms.set i x, zdM, zdL, ⟨by rw [HX.o]; exact HM.o.step hlt⟩, CGF⟩
   case measure => simp [intOf]; omega
  ·have c1 : decide ((i : Int) < (hs.length : Int)) = false := decide_eq_false zcS;have hz : (i < hs.length) = False := eq_false zcS;have hie : i = 50 := zdM;have HE := z_ (show ms = hs from MsTo.all HCC.o.2 (hie ▸ HM.o));have he := HE.o;subst he;clear hie;have d3 := qac HCA.o.box3 0;have d2 := qac HCA.o.box2 0;have f2 := qau HCA.o.box2 0;simp only [List.getElem?_toArray, List.getElem?_cons_zero] at d2 d3
   go_wp2_with fail
   refine bodyPost_ret (results_cell_row rfl _ _ g2 29 #[.slice (some ⟨gn, 0, none⟩) 50 cn] (0, 0) _ rfl (qaX (cs := #[.slice none 0 0]) HCA.o.box2 0 _ rfl) Tryz.underlying29 rfl zdG) rfl ?_;exact ⟨_, rfl, Kd.qfY HCA.o.nodes HCA.o.box2 qgx 0 _, HCA.o.below.setCell (p := ⟨g2, 0, none⟩) HCA.o.ge _⟩
def qaE.l0 : Nat → List Bool → Bool → Int → Int → Option (Int)
 | 0, _, _, _, _ => none
 | k + 1, x0, x1, x7, x8 => if x8 < x7 then (if 0 ≤ x8 then (if x8 < (x0.length : Int) then (if (x1 == (rdOf false x0 x8)) = true then (some x8) else (qaE.l0 k x0 x1 x7 (wrap64 (x8 + 1)))) else (none)) else (none)) else (some (-1))
def qaE.f (k : Nat) (l0 : List Bool) (a1 : Bool) : Option (Int) := qaE.l0 k l0 a1 (l0.length : Int) 0
theorem qaE.qbl : ∀ k, (∀ y0 y1 y2 y3, LeO (qaE.l0 k y0 y1 y2 y3) (qaE.l0 (k + 1) y0 y1 y2 y3))
 | 0 => fun _ _ _ _ r h => by simp [qaE.l0] at h
 | k + 1 => by
  have Q9 := qaE.qbl k
  ·intro y0 y1 y2 y3;unfold qaE.l0;exact zleo_
theorem qaE.calls (k : Nat) (A0 : Option Addr) (c0 : Nat) (l0 : List Bool) (a1 : Bool) (r : Int) (w : World) (hr0 : Kd.C Kd.bool w A0 l0.length l0) (hc0 : l0.length ≤ c0) (h : qaE.f k l0 a1 = some r) :
  Calls Tryz.prog 116 #[.slice A0 l0.length c0, .bool a1] w fun e w' => e = .returned (.int .i64 r) ∧ qcm w w' := by
 have Z1 := z_ hr0;have kB := z_ hc0;clear hr0 hc0;have H : (qaE.l0 k l0 a1 (l0.length : Int) 0) = some r := h;clear h;have H' := z_ H;clear H
 go_enter Tryz.func116, Tryz.ntmps116
 go_wp2
 go_loopg [8] k (fun kq v8 w' => ∃ (O7 : Int), v8 = .int .i64 O7 ∧ Aside0 (qaE.l0 kq l0 a1 (l0.length : Int) O7 = some r) ∧ Aside0 (kq ≤ k) ∧ qcm w w')
 case atStart => exact ⟨(0), zcc, H', ⟨Nat.le_refl _⟩, zbh⟩
 case round =>
  clear H';obtain ⟨O7, rfl, HA, I5, ⟨m1, rfl⟩⟩ := hrel
  cases gk with
  | zero => exact absurd HA.o (by simp [qaE.l0])
  | succ k1 =>
   have H := HA.o;clear HA;simp only [qaE.l0] at H
   by_cases c3 : O7 < (l0.length : Int)
   ·rw [if_pos c3] at H;have Y1 : decide (O7 < (l0.length : Int)) = true := decide_eq_true c3;clear c3
    by_cases c4 : 0 ≤ O7
    ·rw [if_pos c4] at H;have G4 : decide (0 ≤ O7) = true := decide_eq_true c4;clear c4
     by_cases c5 : O7 < (l0.length : Int)
     ·rw [if_pos c5] at H;have O8 : decide (O7 < (l0.length : Int)) = true := decide_eq_true c5;clear c5
      by_cases c6 : (a1 == (rdOf false l0 O7)) = true
      ·rw [if_pos c6] at H;have u7 : (a1 == (rdOf false l0 O7)) = true := c6
       (try (have yG : decide (a1 = (rdOf false l0 O7)) = true := zdy))
       (try (have FZ : (a1 == (rdOf false l0 O7)) = true := zdy))
       clear c6;obtain rfl := Option.some.inj H;have tN : 0 ≤ (O7 : Int) := zod_;have pN : O7 < (l0.length : Int) := zod_;obtain ⟨Ud, dZ, BU⟩ := Kd.qfW Z1.o O7 tN pN
       cases dZ
       replace tN := eq_true tN;replace pN := eq_true pN
       go_wp2
       go_ret
       exact ⟨zcc, zbh⟩
      ·rw [if_neg c6] at H;have u7 : (a1 == (rdOf false l0 O7)) = false := zdy
       (try (have yG : decide (a1 = (rdOf false l0 O7)) = false := zdy))
       (try (have FZ : (a1 == (rdOf false l0 O7)) = false := zdy))
       (try (have c6b3 : ¬ (a1 = (rdOf false l0 O7)) := zdy))
       clear c6;have H' := z_ H;clear H;have tN : 0 ≤ (O7 : Int) := zod_;have pN : O7 < (l0.length : Int) := zod_;obtain ⟨Ud, dZ, BU⟩ := Kd.qfW Z1.o O7 tN pN
       cases dZ
       replace tN := eq_true tN;replace pN := eq_true pN
       go_wp2
       go_roundg k1
       case measure => have := I5.o; omega
       case rel => exact ⟨(wrap64 (O7 + 1)), zcc, H', ⟨zcY⟩, zbh⟩
     ·rw [if_neg c5] at H;exact absurd H zdN
    ·rw [if_neg c4] at H;exact absurd H zdN
   ·rw [if_neg c3] at H;have Y1 : decide (O7 < (l0.length : Int)) = false := decide_eq_false c3;clear c3;obtain rfl := Option.some.inj H
    go_wp2
    go_ret
    exact ⟨zcc, zbh⟩
structure CsAt (Q : Nat → Prop) (w0 w : World) (g gn cn gu cu : Nat) (b : List S80 × List Bool × Bool) : Prop where
 ge : w0.heap.size ≤ g
 blk : w.heap[g]? = some (.cells #[.slice (some ⟨gn, 0, none⟩) b.1.length cn, .slice (some ⟨gu, 0, none⟩) b.2.1.length cu, .bool b.2.2] 122 (0, 0))
 nodes : Kd.S k80 80 w w0.heap.size Q (.slice (some ⟨gn, 0, none⟩) b.1.length cn) b.1
 free : Kd.R Kd.bool 4 w w0.heap.size (fun _ => True) (.slice (some ⟨gu, 0, none⟩) b.2.1.length cu) (b.2.1.map (!·))
def Off (X : Option Nat) (v : Value) (k : Nat) : Prop := some k ≠ v.ownBlock ∧ some k ≠ X
theorem CsAt.below {Q : Nat → Prop} {w0 w w1 : World} {g gn cn gu cu : Nat} {b : List S80 × List Bool × Bool} (h : CsAt Q w0 w g gn cn gu cu b) (hb : Below w.heap.size w w1) : CsAt Q w0 w1 g gn cn gu cu b := ⟨h.ge, qab h.blk hb, Kd.qaO h.nodes hb, Kd.qa7 h.free hb⟩
theorem CsAt.tn {Q : Nat → Prop} {w0 w : World} {g gn cn gu cu : Nat} {b : List S80 × List Bool × Bool} (h : CsAt Q w0 w g gn cn gu cu b) : ∃ cells, w.heap[gn]? = some (.cells cells 80 (0, 0)) := Kd.qcL h.nodes gn (qbT _ _ _)
theorem CsAt.tu {Q : Nat → Prop} {w0 w : World} {g gn cn gu cu : Nat} {b : List S80 × List Bool × Bool} (h : CsAt Q w0 w g gn cn gu cu b) : ∃ cells, w.heap[gu]? = some (.cells cells 4 (0, 0)) := Kd.qcZ h.free gu (qbT _ _ _)
theorem CsAt.apart {Q : Nat → Prop} {w0 w : World} {g gn cn gu cu : Nat} {b : List S80 × List Bool × Bool} (h : CsAt Q w0 w g gn cn gu cu b) : g ≠ gn ∧ g ≠ gu ∧ gn ≠ gu := by
 obtain ⟨x, hx⟩ := h.tn;obtain ⟨y, hy⟩ := h.tu;exact ⟨qb9 h.blk hx zdK, qb9 h.blk hy zdK, qb9 hx hy zdK⟩
theorem CsAt.other {Q : Nat → Prop} {w0 w : World} {g gn cn gu cu : Nat} {b : List S80 × List Bool × Bool} (h : CsAt Q w0 w g gn cn gu cu b) {k t : Nat} {x : Array Value} (hk : w.heap[k]? = some (.cells x t (0, 0))) (h1 : t ≠ 122) (h2 : t ≠ 80) (h3 : t ≠ 4) : ¬ S3 g gn gu k := by
 obtain ⟨y, hy⟩ := h.tn;obtain ⟨z, hz⟩ := h.tu;rintro (e | e | e)
 ·exact qb9 hk h.blk h1 e
 ·exact qb9 hk hy h2 e
 ·exact qb9 hk hz h3 e
theorem CsAt.lts {Q : Nat → Prop} {w0 w : World} {g gn cn gu cu : Nat} {b : List S80 × List Bool × Bool} (h : CsAt Q w0 w g gn cn gu cu b) : g < w.heap.size ∧ gn < w.heap.size ∧ gu < w.heap.size := by
 obtain ⟨y, hy⟩ := h.tn;obtain ⟨z, hz⟩ := h.tu;exact ⟨qbo h.blk, qbo hy, qbo hz⟩
theorem ne_tB3 : ∀ q, q ∈ 4 :: Kd.bool.E → q ≠ 122 := fun q hq => by
 have : q = 4 := zcw;rw [this]; decide
theorem not_get (u : List Bool) (i : Nat) (h : i < u.length) : rdOf false (u.map (!·)) (i : Int) = !(u.getD i false) := by
 rw [qdL, List.getD_eq_getElem?_getD, List.getElem?_map, List.getD_eq_getElem?_getD, List.getElem?_eq_getElem h];rfl
theorem qkG (u : List Bool) (hl : u.length ≤ 1000000) : ∀ d i : Nat, i + d = u.length → (∀ j, j < i → qa5 u j) → Ev (fun k => qaE.l0 k (u.map (!·)) true (u.length : Int) (i : Int)) (if firstFree u < u.length then (firstFree u : Int) else -1) := by
 intro d
 induction d with
 | zero =>
  intro i h hu;rw [qff (fun j hj => hu j zdM), if_neg zdM];refine Ev.step (fun k => by rw [qaE.l0]) ?_;exact Ev.neg zdM (Ev.is rfl)
 | succ d ih =>
  intro i h hu;refine Ev.step (fun k => by rw [qaE.l0]) ?_;refine Ev.pos zdM (Ev.pos zdM (Ev.pos zcN ?_));rw [not_get u i zdM]
  cases hg : u.getD i false with
  | false =>
   refine Ev.pos rfl (Ev.is ?_);rw [qgp zdM hg hu, if_pos zdM]
  | true =>
   refine Ev.neg zdK ?_;have e : wrap64 ((i : Int) + 1) = ((i + 1 : Nat) : Int) := zdn;rw [e];refine ih (i + 1) zdM (fun j hj => ?_)
   by_cases hji : j = i
   ·subst hji; exact hg
   ·exact hu j zdM
theorem index_is (u : List Bool) (hl : u.length ≤ 1000000) : Ev (fun k => qaE.f k (u.map (!·)) true) (if firstFree u < u.length then (firstFree u : Int) else -1) := by
 unfold qaE.f;rw [List.length_map];exact qkG u hl u.length 0 zdM (fun j hj => absurd hj zdM)
theorem qjZ (u : List Bool) (i : Nat) : (u.set i true).map (!·) = (u.map (!·)).set i false := by
 rw [List.map_set];rfl
theorem S_putQ {Q : Nat → Prop} {w : World} {base N gn n cap i : Nat} {ns : List S80} (hS : Kd.S k80 80 w base (fun k => k < N ∧ Q k) (.slice (some ⟨gn, 0, none⟩) n cap) ns) (hi : i < n) (x : S80) {v1 v2 v3 : Value} (h1 : Kd.R k61 61 w N Q v1 x.f1) (h2 : Kd.R Kd.string 9 w N Q v2 x.f2) (h3 : Kd.R (Kd.int .i64) 3 w N Q v3 x.f3) (hb : base ≤ N) (hc : v1.oneCell' = true ∧ v2.oneCell' = true ∧ v3.oneCell' = true) :
  Kd.S k80 80 (set4 w gn (i * 4) (.bool x.f0) v1 v2 v3) base Q (.slice (some ⟨gn, 0, none⟩) n cap) (ns.set i x) := by
 have hg : gn < N := ((Kd.S_R hS).1 gn (qbT _ _ _)).1;obtain ⟨oki, c, hcl, _, _, _, hH⟩ := Kd.qlb hS z80 (i : Int) zdM zdM;have hH2 := Kd.qlc (okg := fun k => N ≤ k ∧ Q k) (ok := Q) (Kd.H_mono hH (fun k hk => ⟨hk.2, fun hc => by have := hk.1; have := hc.1; omega⟩)) (fun _ hk => hk.2);have hs := (Kd.H_seg hH2 zdM zdM (seg := [.bool x.f0, v1, v2, v3]) (j := 0) (by show 0 + 4 ≤ 4; omega) (fun q hq => by
  simp only [List.mem_cons, List.not_mem_nil, or_false] at hq
  rcases hq with rfl | rfl | rfl | rfl
  ·rfl
  ·exact hc.1
  ·exact hc.2.1
  ·exact hc.2.2)).1
 have hcs : (c.take 0 ++ [.bool x.f0, v1, v2, v3] ++ c.drop (0 + [Value.bool x.f0, v1, v2, v3].length)) = [.bool x.f0, v1, v2, v3] := by
  have : c.drop 4 = [] := List.drop_eq_nil_of_le (by rw [hcl]; exact Nat.le_refl 4)
  show [] ++ [.bool x.f0, v1, v2, v3] ++ c.drop 4 = _
  rw [this];rfl
 rw [hcs] at hs;have hW : w.setCells gn ((i : Int).toNat * k80.sz + 0) [.bool x.f0, v1, v2, v3] = set4 w gn (i * 4) (.bool x.f0) v1 v2 v3 := by
  rw [Int.toNat_natCast];rfl
 rw [hW] at hs;have hr : ∀ {α : Type} {d : Kd α} {e : Nat} {v : Value} {xs : List α}, d.R e w N Q v xs → d.E = [] → d.R e (set4 w gn (i * 4) (.bool x.f0) v1 v2 v3) base (fun k => N ≤ k ∧ Q k) v xs := fun h hE => by
  have h0 := Kd.qhU hE (ok := fun k => N ≤ k ∧ Q k) h (fun k hk => ⟨Kd.qdt h k hk, h.1 k hk⟩);exact Kd.qa3 (qfI h0 (fun k hk => by have := hk.1; omega) _ _ _ _) hb
 have := Kd.H_back hs (qfs _ base (fun k => N ≤ k ∧ Q k) x (hr h1 rfl) (hr h2 rfl) (hr h3 rfl)) (fun k hk => .inr hk)
 rwa [Int.toNat_natCast] at this
end Go.Proofs.YtcdokcpiahbejaaGreat.X
