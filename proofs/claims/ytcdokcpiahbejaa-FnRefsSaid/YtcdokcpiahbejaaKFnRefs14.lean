import Derived.Test.YtcdokcpiahbejaaKFnRefs13
namespace Go.Proofs.Ytcdokcpiahbejaa.X
open Go.RowKit Go.Proofs.YtcdokcpiahbejaaW.PrintWords Go.Proofs.YtcdokcpiahbejaaW.PrintLast Go.Proofs.YtcdokcpiahbejaaW.PrintMore
attribute [local go_sem] qax qay qaz qat qau qaJ qaK qam qan qav qaw
set_option linter.unusedVariables false
set_option linter.unusedSimpArgs false
mutual
def qaM.l0 : Nat → List Int → List Int → List Int → Int → Int → List (S75) → Option (List Int)
 | 0, _, _, _, _, _, _ => none
 | k + 1, x1, x5, x13, x14, x15, x427000 => if x15 < x14 then (if 0 ≤ x15 then (if x15 < (x13.length : Int) then (if (rd x13 x15) ≥ 0 then (if 0 ≤ (rd x13 x15) then (if (rd x13 x15) < (x5.length : Int) then (qaM.l0 k x1 (x5.set ((rd x13 x15) : Int).toNat (wrap64 ((rd x5 (rd x13 x15)) + 1))) x13 x14 (wrap64 (x15 + 1)) x427000) else (none)) else (none)) else (qaM.l0 k x1 x5 x13 x14 (wrap64 (x15 + 1)) x427000)) else (none)) else (none)) else ((qbM.f x427000 x1).bind fun E7 => (qaM.l1 k x5 E7 (E7.length : Int) 0 x427000))
def qaM.l1 : Nat → List Int → List Bool → Int → Int → List (S75) → Option (List Int)
 | 0, _, _, _, _, _ => none
 | k + 1, x5, x30, x31, x32, x427000 => if x32 < x31 then (if 0 ≤ x32 then (if x32 < (x30.length : Int) then (if rdOf false x30 x32 = true then (if x32 < (x427000.length : Int) then (qaM.l2 k x5 x30 x31 x32 ((qaH x427000 x32).f3) (((qaH x427000 x32).f3).length : Int) 0 x427000) else (none)) else (qaM.l1 k x5 x30 x31 (wrap64 (x32 + 1)) x427000)) else (none)) else (none)) else (some x5)
def qaM.l2 : Nat → List Int → List Bool → Int → Int → List Int → Int → Int → List (S75) → Option (List Int)
 | 0, _, _, _, _, _, _, _, _ => none
 | k + 1, x5, x30, x31, x32, x43, x44, x45, x427000 => if x45 < x44 then (if 0 ≤ x45 then (if x45 < (x43.length : Int) then (if 0 ≤ (rd x43 x45) then (if (rd x43 x45) < (x5.length : Int) then (qaM.l2 k (x5.set ((rd x43 x45) : Int).toNat (wrap64 ((rd x5 (rd x43 x45)) + 1))) x30 x31 x32 x43 x44 (wrap64 (x45 + 1)) x427000) else (none)) else (none)) else (none)) else (none)) else (qaM.l1 k x5 x30 x31 (wrap64 (x32 + 1)) x427000)
end
def qaM.f (k : Nat) (t0 : List (S75)) (l1 : List Int) : Option (List Int) := if 50 ≤ 35184372088832 then (qaM.l0 k l1 (List.replicate 50 0) l1 (l1.length : Int) 0 t0) else (none)
theorem qaM.qbW : ∀ k, (∀ y0 y1 y2 y3 y4 y5, LeO (qaM.l0 k y0 y1 y2 y3 y4 y5) (qaM.l0 (k + 1) y0 y1 y2 y3 y4 y5)) ∧ (∀ y0 y1 y2 y3 y4, LeO (qaM.l1 k y0 y1 y2 y3 y4) (qaM.l1 (k + 1) y0 y1 y2 y3 y4)) ∧ (∀ y0 y1 y2 y3 y4 y5 y6 y7, LeO (qaM.l2 k y0 y1 y2 y3 y4 y5 y6 y7) (qaM.l2 (k + 1) y0 y1 y2 y3 y4 y5 y6 y7))
 | 0 => ⟨fun _ _ _ _ _ _ r h => by simp [qaM.l0] at h, fun _ _ _ _ _ r h => by simp [qaM.l1] at h, fun _ _ _ _ _ _ _ _ r h => by simp [qaM.l2] at h⟩
 | k + 1 => by
  obtain ⟨d6, ih1, ih2⟩ := qaM.qbW k;refine ⟨?_, ?_, ?_⟩
  ·intro y0 y1 y2 y3 y4 y5;unfold qaM.l0
   repeat' first
   | (with_reducible exact d6 _ _ _ _ _ _)
   | (with_reducible exact ih1 _ _ _ _ _)
   | (with_reducible exact ih2 _ _ _ _ _ _ _ _)
   | (with_reducible exact LeO.refl _)
   | (with_reducible exact LeO.none _)
   | (with_reducible refine LeO.ite ?_ ?_)
   | (with_reducible refine LeO.bind ?_ (fun _ => ?_))
   | exact d6 _ _ _ _ _ _
   | exact ih1 _ _ _ _ _
   | exact ih2 _ _ _ _ _ _ _ _
   | exact LeO.none _
   | refine LeO.ite ?_ ?_
   | refine LeO.bind ?_ (fun _ => ?_)
  ·intro y0 y1 y2 y3 y4;unfold qaM.l1
   repeat' first
   | (with_reducible exact d6 _ _ _ _ _ _)
   | (with_reducible exact ih1 _ _ _ _ _)
   | (with_reducible exact ih2 _ _ _ _ _ _ _ _)
   | (with_reducible exact LeO.refl _)
   | (with_reducible exact LeO.none _)
   | (with_reducible refine LeO.ite ?_ ?_)
   | (with_reducible refine LeO.bind ?_ (fun _ => ?_))
   | exact d6 _ _ _ _ _ _
   | exact ih1 _ _ _ _ _
   | exact ih2 _ _ _ _ _ _ _ _
   | exact LeO.none _
   | refine LeO.ite ?_ ?_
   | refine LeO.bind ?_ (fun _ => ?_)
  ·intro y0 y1 y2 y3 y4 y5 y6 y7;unfold qaM.l2
   repeat' first
   | (with_reducible exact d6 _ _ _ _ _ _)
   | (with_reducible exact ih1 _ _ _ _ _)
   | (with_reducible exact ih2 _ _ _ _ _ _ _ _)
   | (with_reducible exact LeO.refl _)
   | (with_reducible exact LeO.none _)
   | (with_reducible refine LeO.ite ?_ ?_)
   | (with_reducible refine LeO.bind ?_ (fun _ => ?_))
   | exact d6 _ _ _ _ _ _
   | exact ih1 _ _ _ _ _
   | exact ih2 _ _ _ _ _ _ _ _
   | exact LeO.none _
   | refine LeO.ite ?_ ?_
   | refine LeO.bind ?_ (fun _ => ?_)
theorem qaM.mono : ∀ a0 a1 k, LeO (qaM.f k a0 a1) (qaM.f (k + 1) a0 a1) := by
 intro a0 a1 k;obtain ⟨d6, ih1, ih2⟩ := qaM.qbW k;unfold qaM.f
 repeat' first
   | (with_reducible exact d6 _ _ _ _ _ _)
   | (with_reducible exact ih1 _ _ _ _ _)
   | (with_reducible exact ih2 _ _ _ _ _ _ _ _)
   | (with_reducible exact LeO.refl _)
   | (with_reducible exact LeO.none _)
   | (with_reducible refine LeO.ite ?_ ?_)
   | (with_reducible refine LeO.bind ?_ (fun _ => ?_))
   | exact d6 _ _ _ _ _ _
   | exact ih1 _ _ _ _ _
   | exact ih2 _ _ _ _ _ _ _ _
   | exact LeO.none _
   | refine LeO.ite ?_ ?_
   | refine LeO.bind ?_ (fun _ => ?_)
set_option maxHeartbeats 8000000 in
set_option maxRecDepth 100000 in
theorem qaM.calls (k : Nat) (P0 : Option Addr) (O0 : Nat) (t0 : List (S75)) (A1 : Option Addr) (c1 : Nat) (l1 : List Int) (r : List Int) (w : World) (a5 : Kd.C k75 w P0 t0.length t0) (J6 : t0.length ≤ O0) (hr1 : Kd.C (Kd.int .i64) w A1 l1.length l1) (hc1 : l1.length ≤ c1) (h : qaM.f k t0 l1 = some r) :
  Calls Try.prog 26 #[.agg #[.slice P0 t0.length O0], .slice A1 l1.length c1] w fun e w' => ∃ mA : Value, e = .returned (mA) ∧ Kd.R (Kd.int .i64) 3 w' w.heap.size (fun _ => True) mA r ∧ Below w.heap.size w w' := by
 have bI := Try.underlying25;have S6 := z_ a5;have r8 := z_ J6;clear a5 J6;have HR1 := z_ hr1;have eG := z_ hc1;clear hr1 hc1;have HB := z_ (Below.refl w.heap.size w);have H : (if 50 ≤ 35184372088832 then (qaM.l0 k l1 (List.replicate 50 0) l1 (l1.length : Int) 0 t0) else (none)) = some r := h;clear h
 by_cases c3 : 50 ≤ 35184372088832
 ·rw [if_pos c3] at H;have M9 := eq_true c3;have nB : decide (50 ≤ 35184372088832) = true := decide_eq_true c3;clear c3;obtain ⟨aa, fK⟩ : ∃ y_ : List Int, y_ = (List.replicate 50 0) := ⟨_, rfl⟩
  replace H : (qaM.l0 k l1 aa l1 (l1.length : Int) 0 t0) = some r := by first | (rw [fK]; with_reducible exact H) | (have Y1 := (Option.bind_some _ _).symm.trans H; rw [fK]; with_reducible exact Y1) | (have Y1 := (Option.bind_some _ _).symm.trans H; with_reducible exact Y1) | with_reducible exact H | (rw [fK]; exact H) | exact H
  have US := z_ fK;clear fK;have H' := z_ H;clear H
  go_enter Try.func26, Try.ntmps26
  go_wp2_with (first | ((with_reducible refine qaG (N := 2) rfl ?_); refine qaS zbX (N := 2) zbX (cs := #[.slice P0 t0.length O0]) (t := 25) zbv ?_; intro vB hg w4 hbox hb; have H0 := z_ (qad zaq hb); have I0 := z_ (hbox); have K0 := z_ ((zal : w.heap.size ≤ vB)); have U0 := z_ ((zal : w.heap.size ≤ vB)); clear HB; have HB := H0; have L5 := I0; have GW426 := K0; have yA := U0; clear H0 I0 K0 U0; clear hb hbox hg) | ((with_reducible refine qaG (N := 12) rfl ?_); refine Kd.qgW (Kd.int .i64) _ 3 rfl (N := 12) rfl 29 _ _ rfl 50 rfl rfl Try.underlying29 (.int .i64 0) 8 info3 rfl zbT zbV 0 (ok := fun _ => True) (okp := fun _ => True) rfl (fun _ hk => hk) trivial zbV zbV (Below.refl _ _) (Nat.le_refl _) ?_; intro sW w5 iH hb F5 Z1; clear F5 Z1; (first | rw [← US.o] at iH | (simp only [Int.reduceToNat] at iH; rw [← US.o] at iH)); have H0 := z_ (Kd.qa9 iH (qaC (zab yA.o))); have I0 := z_ (qap (g := vB) (o := .cells #[.slice P0 t0.length O0] 25 (0, 0)) (zac L5.o) hb); have K0 := z_ (qad (zab yA.o) hb); clear L5 HB; have bY := H0; have L5 := I0; have HB := K0; clear H0 I0 K0; clear hb iH))
  go_loopg [15] k (fun kq v15 w' => ∃ (G3 : List Int) (C4 : Int), v15 = .int .i64 C4 ∧ Aside0 (qaM.l0 kq l1 G3 l1 (l1.length : Int) C4 t0 = some r) ∧ Aside0 (kq ≤ k) ∧ Aside0 (Kd.R (Kd.int .i64) 3 w' w.heap.size (fun _ => True) sW G3) ∧ Aside0 (w'.heap[vB]? = some (.cells #[(.slice P0 t0.length O0)] 25 (0, 0))) ∧ Aside0 (Below w.heap.size w w'))
  case atStart => exact ⟨(aa), (0), zbs, H', ⟨Nat.le_refl _⟩, ⟨by (with_reducible repeat (first | apply Kd.qaV | apply Kd.qa0 | apply Kd.qa6)); exact bY.o⟩, ⟨by (with_reducible repeat (first | refine qaj ?_ _ | refine qai ?_ | refine qah ?_ _)); exact L5.o⟩, ⟨zab yA.o⟩⟩
  case round =>
   clear H';try clear c1
   try clear c2
   try clear p2
   try clear c3
   try clear M9
   try clear nB
   obtain ⟨G3, C4, rfl, HA, q7, Y8, L5, HB⟩ := hrel
   cases gk with
   | zero => exact absurd HA.o (by simp [qaM.l0])
   | succ k1 =>
    have H := HA.o;clear HA;simp only [qaM.l0] at H
    by_cases c7 : C4 < (l1.length : Int)
    ·rw [if_pos c7] at H;have GC : decide (C4 < (l1.length : Int)) = true := decide_eq_true c7;clear c7
     by_cases c8 : 0 ≤ C4
     ·rw [if_pos c8] at H;have aG : decide (0 ≤ C4) = true := decide_eq_true c8;clear c8
      by_cases c9 : C4 < (l1.length : Int)
      ·rw [if_pos c9] at H;have CO : decide (C4 < (l1.length : Int)) = true := decide_eq_true c9;clear c9
       by_cases c10 : (rd l1 C4) ≥ 0
       ·rw [if_pos c10] at H;have XF : decide (0 ≤ (rd l1 C4)) = true := decide_eq_true c10;clear c10
        by_cases c11 : 0 ≤ (rd l1 C4)
        ·rw [if_pos c11] at H;have CE : decide (0 ≤ (rd l1 C4)) = true := decide_eq_true c11;clear c11
         by_cases c12 : (rd l1 C4) < (G3.length : Int)
         ·rw [if_pos c12] at H;have W9 : decide ((rd l1 C4) < (G3.length : Int)) = true := decide_eq_true c12;clear c12;obtain ⟨jV, qJ⟩ : ∃ y_ : List Int, y_ = (G3.set ((rd l1 C4) : Int).toNat (wrap64 ((rd G3 (rd l1 C4)) + 1))) := ⟨_, rfl⟩
          replace H : (qaM.l0 k1 l1 jV l1 (l1.length : Int) (wrap64 (C4 + 1)) t0) = some r := by first | (rw [qJ]; with_reducible exact H) | (have Y1 := (Option.bind_some _ _).symm.trans H; rw [qJ]; with_reducible exact Y1) | (have Y1 := (Option.bind_some _ _).symm.trans H; with_reducible exact Y1) | with_reducible exact H | (rw [qJ]; exact H) | exact H
          have LY := z_ qJ;clear qJ;have H' := z_ H;clear H;have rI : 0 ≤ (C4 : Int) := of_decide_eq_true zaN;have XH : C4 < (l1.length : Int) := of_decide_eq_true zaN;obtain ⟨eY, iV, u9⟩ := Kd.qbN HR1.o C4 rI XH
          cases iV
          replace u9 := (HB.o.cell (World.block_lt_of_cell? w _ u9)).trans u9;replace rI := eq_true rI;replace XH := eq_true XH;obtain ⟨vY, LU, SV⟩ := Kd.qbi Y8.o;subst SV;have kP : 0 ≤ ((rd l1 C4) : Int) := of_decide_eq_true zaN;have dQ : (rd l1 C4) < (G3.length : Int) := of_decide_eq_true zaN;obtain ⟨ad431, Ff, gI⟩ := Kd.qbN (Kd.qaU Y8.o).2.2 (rd l1 C4) kP dQ
          cases Ff
          replace kP := eq_true kP;replace dQ := eq_true dQ;have CU : 0 ≤ ((rd l1 C4) : Int) := of_decide_eq_true zaN;have aV : ((rd l1 C4) : Int) < ((G3.length : Int) : Int) := of_decide_eq_true zaN;obtain ⟨TV, co13, gY, Qa, Ve, cl13, fZ⟩ := Kd.qcJ Y8.o zbV
          (first | cases gY | (injection gY with xA en_ ec_; (first | subst xA | (injection xA with xA; subst xA)); subst ec_; clear en_))
          have Zd := z_ Qa;have GG13 := z_ fZ;clear Qa Ve fZ
          (first | simp only [add_plain] at gI | skip)
          obtain ⟨bQ, Qe⟩ := Kd.qcM 0 Y8.o ((rd l1 C4) : Int) CU aV;replace CU := eq_true CU;replace aV := eq_true aV;have sV := Kd.qgb Y8.o ((rd l1 C4) : Int) (wrap64 ((rd G3 (rd l1 C4)) + 1))
          go_wp2_with (first | ((with_reducible refine qde (t := 3) (p := 26) rfl ?_); refine qcY (t := 3) (p := 26) (v := ?vo_w16) (w1 := (wr.setCell ⟨TV, ((rd l1 C4) : Int).toNat, none⟩ (.int .i64 (wrap64 ((rd G3 (rd l1 C4)) + 1))))) ?hg ?ho ?hn ?hr ?_; (case ho => rfl); (case hg => rfl); (case hn => rfl); (case hr => first | (go_simp; done) | (go_simp; rfl)); intro w16 hw; have hg : wr.grownBy w16 (some TV) := (by rw [hw]; exact sV.2); have UJ : Kd.R (Kd.int .i64) 3 w16 w.heap.size (fun _ => True) (.slice (some ⟨TV, 0, none⟩) G3.length LU) jV := (by rw [hw, LY.o]; exact sV.1); clear sV; have H0 := z_ (UJ); have I0 := z_ (qbd (g := vB) (o := .cells #[.slice P0 t0.length O0] 25 (0, 0)) (zac L5.o) hg (Kd.R_ne Y8.o L5.o zbT)); have K0 := z_ ((by rw [hw]; exact qa4 (HB.o) Zd.o : Below w.heap.size w w16)); clear Y8 L5 HB; have Y8 := H0; have L5 := I0; have HB := K0; clear H0 I0 K0; clear hg hw UJ))
          go_roundg k1
          case measure => have := q7.o; omega
          case rel => exact ⟨(jV), (wrap64 (C4 + 1)), zbs, H', ⟨zbK⟩, ⟨zaA⟩, ⟨by (with_reducible repeat (first | refine qaj ?_ _ | refine qai ?_ | refine qah ?_ _)); exact L5.o⟩, ⟨zab yA.o⟩⟩
         ·rw [if_neg c12] at H;exact absurd H zbW
        ·rw [if_neg c11] at H;exact absurd H zbW
       ·rw [if_neg c10] at H;have XF : decide (0 ≤ (rd l1 C4)) = false := decide_eq_false c10;clear c10;have H' := z_ H;clear H;have rI : 0 ≤ (C4 : Int) := of_decide_eq_true zaN;have XH : C4 < (l1.length : Int) := of_decide_eq_true zaN;obtain ⟨eY, iV, u9⟩ := Kd.qbN HR1.o C4 rI XH
        cases iV
        replace u9 := (HB.o.cell (World.block_lt_of_cell? w _ u9)).trans u9;replace rI := eq_true rI;replace XH := eq_true XH
        go_wp2
        go_roundg k1
        case measure => have := q7.o; omega
        case rel => exact ⟨(G3), (wrap64 (C4 + 1)), zbs, H', ⟨zbK⟩, ⟨zaA⟩, ⟨by (with_reducible repeat (first | refine qaj ?_ _ | refine qai ?_ | refine qah ?_ _)); exact L5.o⟩, ⟨zab yA.o⟩⟩
      ·rw [if_neg c9] at H;exact absurd H zbW
     ·rw [if_neg c8] at H;exact absurd H zbW
    ·rw [if_neg c7] at H;have GC : decide (C4 < (l1.length : Int)) = false := decide_eq_false c7;clear c7;replace H := Option.bind_eq_some_iff.mp H;obtain ⟨E7, YY, H⟩ := H;try dsimp only at H
     have Fh := z_ YY;clear YY;have H' := z_ H;clear H;have p9 : wr.cell? ⟨vB, 0, none⟩ = some (.slice P0 t0.length O0) := (qac L5.o 0).trans rfl;have q9 := qab L5.o 0
     go_wp2_with (first | ((with_reducible refine qaD (f := 29) rfl ?_); refine qbk (some 30) rfl rfl Try.func29 zbS rfl #[.agg #[.slice P0 t0.length O0], .slice A1 l1.length c1] rfl zao ?_; (with_reducible refine (qbM.calls _ _ t0 _ _ l1 E7 _ ?side1 ?side2 ?side3 ?side4 Fh.o).mono ?_); (case side1 => exact zad (Kd.qaO S6.o HB.o)); (case side2 => exact r8.o); (case side3 => exact zad (Kd.qaO HR1.o HB.o)); (case side4 => exact eG.o); rintro e CG ⟨v434, rfl, ho0, hb⟩; refine ⟨_, rfl, ?_⟩; have H0 := z_ (Kd.qbO (zae Y8.o) hb); have I0 := z_ (Kd.qa9 ho0 (qaC (zab yA.o))); have K0 := z_ (qap (g := vB) (o := .cells #[.slice P0 t0.length O0] 25 (0, 0)) (zac L5.o) hb); have U0 := z_ (qad (zab yA.o) hb); clear Y8 L5 HB; have Y8 := H0; have ES := I0; have L5 := K0; have HB := U0; clear H0 I0 K0 U0; (try clear hb); (try clear hb2); (try clear hk); (try clear hi); (try clear ho0); obtain ⟨SQ, NN, MP⟩ := Kd.qbi ES.o; subst MP))
     go_loopg [32] k1 (fun kq v32 w' => ∃ (eI : List Int) (E2 : Int), v32 = .int .i64 E2 ∧ Aside0 (qaM.l1 kq eI E7 (E7.length : Int) E2 t0 = some r) ∧ Aside0 (kq ≤ k1) ∧ Aside0 (Kd.R (Kd.int .i64) 3 w' w.heap.size (fun _ => True) sW eI) ∧ Aside0 (Kd.R Kd.bool 4 w' w.heap.size (fun _ => True) (.slice SQ E7.length NN) E7) ∧ Aside0 (w'.heap[vB]? = some (.cells #[(.slice P0 t0.length O0)] 25 (0, 0))) ∧ Aside0 (Below w.heap.size w w'))
     case atStart => exact ⟨(G3), (0), zbs, H', ⟨Nat.le_refl _⟩, ⟨zaA⟩, ⟨by (with_reducible repeat (first | apply Kd.qaV | apply Kd.qa0 | apply Kd.qa6)); exact ES.o⟩, ⟨by (with_reducible repeat (first | refine qaj ?_ _ | refine qai ?_ | refine qah ?_ _)); exact L5.o⟩, ⟨zab yA.o⟩⟩
     case round =>
      clear H';try clear c1
      try clear p1
      try clear q1
      try clear hx1
      try clear c2
      try clear p2
      try clear c3
      try clear M9
      try clear nB
      try clear p4
      try clear q4
      try clear hx4
      try clear p6
      try clear c7
      try clear GC
      try clear c8
      try clear aG
      try clear c9
      try clear CO
      try clear c10
      try clear XF
      try clear c11
      try clear CE
      try clear c12
      try clear W9
      try clear CU
      try clear aV
      try clear hx13
      try clear hf13
      try clear p9
      try clear q9
      try clear bQ
      try clear u9
      try clear gI
      try clear CU
      try clear p2
      try clear rI
      try clear kP
      try clear aV
      try clear XH
      try clear dQ
      obtain ⟨eI, E2, rfl, HA, p7, Y8, MG, L5, HB⟩ := hrel
      cases gk with
      | zero => exact absurd HA.o (by simp [qaM.l1])
      | succ k2 =>
       have H := HA.o;clear HA;simp only [qaM.l1] at H
       by_cases c21 : E2 < (E7.length : Int)
       ·rw [if_pos c21] at H;have JT : decide (E2 < (E7.length : Int)) = true := decide_eq_true c21;clear c21
        by_cases WK : 0 ≤ E2
        ·rw [if_pos WK] at H;have KT : decide (0 ≤ E2) = true := decide_eq_true WK;clear WK
         by_cases c23 : E2 < (E7.length : Int)
         ·rw [if_pos c23] at H;have OZ : decide (E2 < (E7.length : Int)) = true := decide_eq_true c23;clear c23;obtain ⟨sY, eP⟩ : ∃ b_ : Bool, b_ = (rdOf false E7 E2) := ⟨_, rfl⟩
          replace H : (if sY = true then (if E2 < (t0.length : Int) then (qaM.l2 k2 eI E7 (E7.length : Int) E2 ((qaH t0 E2).f3) (((qaH t0 E2).f3).length : Int) 0 t0) else (none)) else (qaM.l1 k2 eI E7 (E7.length : Int) (wrap64 (E2 + 1)) t0)) = some r := by rw [← eP] at H; exact H
          have QP := z_ eP;clear eP
          by_cases yQ : sY = true
          ·subst yQ;have H1 : (if E2 < (t0.length : Int) then (qaM.l2 k2 eI E7 (E7.length : Int) E2 ((qaH t0 E2).f3) (((qaH t0 E2).f3).length : Int) 0 t0) else (none)) = some r := zbE;clear H;have H := H1;clear H1
           by_cases vG : E2 < (t0.length : Int)
           ·rw [if_pos vG] at H;have X9 : decide (E2 < (t0.length : Int)) = true := decide_eq_true vG;clear vG;have H' := z_ H;clear H;have RJ : 0 ≤ (E2 : Int) := of_decide_eq_true zaN;have mJ : E2 < (E7.length : Int) := of_decide_eq_true zaN;obtain ⟨fT, yW, qG⟩ := Kd.qcX (Kd.qaU MG.o).2.2 E2 RJ mJ
            (try rw [← QP.o] at qG)
            cases yW
            replace RJ := eq_true RJ;replace mJ := eq_true mJ;have eR : wr.cell? ⟨vB, 0, none⟩ = some (.slice P0 t0.length O0) := (qac L5.o 0).trans rfl;have JQ := qab L5.o 0;have PR : 0 ≤ (E2 : Int) := of_decide_eq_true zaN;have AQ : E2 < (t0.length : Int) := of_decide_eq_true zaN;obtain ⟨YT, Gf, Be, Of, zg, Bf, Hg, qg, bF, sG, lG, mG, kN, FM, KM, UL, sM, pN⟩ := qfz S6.o E2 PR AQ
            (try rw [← QP.o] at bF)
            cases qg
            replace bF := (HB.o.cell (World.block_lt_of_cell? w _ bF)).trans bF;replace sG := (HB.o.cell (World.block_lt_of_cell? w _ sG)).trans sG;replace lG := (HB.o.cell (World.block_lt_of_cell? w _ lG)).trans lG;replace mG := (HB.o.cell (World.block_lt_of_cell? w _ mG)).trans mG;have ac := z_ FM;have cb := z_ kN;clear FM kN;have Bc := z_ UL;have Bb := z_ KM;clear UL KM;have LR := z_ pN;have Wb := z_ sM;clear pN sM;replace PR := eq_true PR;replace AQ := eq_true AQ
            go_wp2
            go_loopg [45] k2 (fun kq v45 w' => ∃ (pF : List Int) (j5 : Int), v45 = .int .i64 j5 ∧ Aside0 (qaM.l2 kq pF E7 (E7.length : Int) E2 ((qaH t0 E2).f3) (((qaH t0 E2).f3).length : Int) j5 t0 = some r) ∧ Aside0 (kq ≤ k2) ∧ Aside0 (Kd.R (Kd.int .i64) 3 w' w.heap.size (fun _ => True) sW pF) ∧ Aside0 (Kd.R Kd.bool 4 w' w.heap.size (fun _ => True) (.slice (some fT) E7.length NN) E7) ∧ Aside0 (w'.heap[vB]? = some (.cells #[(.slice (some YT) t0.length O0)] 25 (0, 0))) ∧ Aside0 (Below w.heap.size w w'))
            case atStart => exact ⟨(eI), (0), zbs, H', ⟨Nat.le_refl _⟩, ⟨zaA⟩, ⟨zay⟩, ⟨by (with_reducible repeat (first | refine qaj ?_ _ | refine qai ?_ | refine qah ?_ _)); exact L5.o⟩, ⟨zab yA.o⟩⟩
            case round =>
             clear H';try clear c1
             try clear p1
             try clear q1
             try clear hx1
             try clear c2
             try clear p2
             try clear q2
             try clear c3
             try clear M9
             try clear nB
             try clear c4
             try clear p4
             try clear q4
             try clear hx4
             try clear p6
             try clear c7
             try clear GC
             try clear c8
             try clear aG
             try clear c9
             try clear CO
             try clear c10
             try clear XF
             try clear c11
             try clear CE
             try clear c12
             try clear W9
             try clear CU
             try clear aV
             try clear hx13
             try clear hf13
             try clear c21
             try clear JT
             try clear WK
             try clear KT
             try clear c23
             try clear OZ
             try clear q24
             try clear yQ
             try clear vG
             try clear X9
             try clear p9
             try clear eR
             try clear q9
             try clear JQ
             try clear bQ
             try clear u9
             try clear gI
             try clear qG
             try clear bF
             try clear sG
             try clear lG
             try clear mG
             try clear p1
             try clear CU
             try clear p2
             try clear p4
             try clear rI
             try clear kP
             try clear RJ
             try clear PR
             try clear p6
             try clear q1
             try clear aV
             try clear q4
             try clear XH
             try clear dQ
             try clear mJ
             try clear AQ
             obtain ⟨pF, j5, rfl, HA, oB, Y8, MG, L5, HB⟩ := hrel
             cases gk with
             | zero => exact absurd HA.o (by simp [qaM.l2])
             | succ k3 =>
              have H := HA.o;clear HA;simp only [qaM.l2] at H
              by_cases c28 : j5 < (((qaH t0 E2).f3).length : Int)
              ·rw [if_pos c28] at H;have qU : decide (j5 < (((qaH t0 E2).f3).length : Int)) = true := decide_eq_true c28;clear c28
               by_cases nH : 0 ≤ j5
               ·rw [if_pos nH] at H;have vH : decide (0 ≤ j5) = true := decide_eq_true nH;clear nH
                by_cases FI : j5 < (((qaH t0 E2).f3).length : Int)
                ·rw [if_pos FI] at H;have tH : decide (j5 < (((qaH t0 E2).f3).length : Int)) = true := decide_eq_true FI;clear FI
                 by_cases c31 : 0 ≤ (rd ((qaH t0 E2).f3) j5)
                 ·rw [if_pos c31] at H;have c31b0 : decide (0 ≤ (rd ((qaH t0 E2).f3) j5)) = true := decide_eq_true c31;clear c31
                  by_cases c32 : (rd ((qaH t0 E2).f3) j5) < (pF.length : Int)
                  ·rw [if_pos c32] at H;have c32b0 : decide ((rd ((qaH t0 E2).f3) j5) < (pF.length : Int)) = true := decide_eq_true c32;clear c32;obtain ⟨zV, RI⟩ : ∃ y_ : List Int, y_ = (pF.set ((rd ((qaH t0 E2).f3) j5) : Int).toNat (wrap64 ((rd pF (rd ((qaH t0 E2).f3) j5)) + 1))) := ⟨_, rfl⟩
                   replace H : (qaM.l2 k3 zV E7 (E7.length : Int) E2 ((qaH t0 E2).f3) (((qaH t0 E2).f3).length : Int) (wrap64 (j5 + 1)) t0) = some r := by first | (rw [RI]; with_reducible exact H) | (have Y1 := (Option.bind_some _ _).symm.trans H; rw [RI]; with_reducible exact Y1) | (have Y1 := (Option.bind_some _ _).symm.trans H; with_reducible exact Y1) | with_reducible exact H | (rw [RI]; exact H) | exact H
                   have aY := z_ RI;clear RI;have H' := z_ H;clear H;have cW : 0 ≤ (j5 : Int) := of_decide_eq_true zaN;have UU : j5 < (((qaH t0 E2).f3).length : Int) := of_decide_eq_true zaN;obtain ⟨ad438, Eg, wI⟩ := Kd.qbN LR.o j5 cW UU
                   cases Eg
                   replace wI := (HB.o.cell (World.block_lt_of_cell? w _ wI)).trans wI;replace cW := eq_true cW;replace UU := eq_true UU;obtain ⟨Lh, JW, DU⟩ := Kd.qbi Y8.o;subst DU;have tV : 0 ≤ ((rd ((qaH t0 E2).f3) j5) : Int) := of_decide_eq_true zaN;have nW : (rd ((qaH t0 E2).f3) j5) < (pF.length : Int) := of_decide_eq_true zaN;obtain ⟨ad439, gf, UR⟩ := Kd.qbN (Kd.qaU Y8.o).2.2 (rd ((qaH t0 E2).f3) j5) tV nW
                   cases gf
                   replace tV := eq_true tV;replace nW := eq_true nW;have p33 : 0 ≤ ((rd ((qaH t0 E2).f3) j5) : Int) := of_decide_eq_true zaN;have gX : ((rd ((qaH t0 E2).f3) j5) : Int) < ((pF.length : Int) : Int) := of_decide_eq_true zaN;obtain ⟨FR, Ae, BS, CZ, fe, cl33, RX⟩ := Kd.qcJ Y8.o zbV
                   (first | cases BS | (injection BS with xA en_ ec_; (first | subst xA | (injection xA with xA; subst xA)); subst ec_; clear en_))
                   have Ie := z_ CZ;have GG33 := z_ RX;clear CZ fe RX
                   (first | simp only [add_plain] at UR | skip)
                   obtain ⟨yg, ce⟩ := Kd.qcM 0 Y8.o ((rd ((qaH t0 E2).f3) j5) : Int) p33 gX;replace p33 := eq_true p33;replace gX := eq_true gX;have kW := Kd.qgb Y8.o ((rd ((qaH t0 E2).f3) j5) : Int) (wrap64 ((rd pF (rd ((qaH t0 E2).f3) j5)) + 1))
                   go_wp2_with (first | ((with_reducible refine qde (t := 3) (p := 54) rfl ?_); refine qcY (t := 3) (p := 54) (v := ?vo_w36) (w1 := (wr.setCell ⟨FR, ((rd ((qaH t0 E2).f3) j5) : Int).toNat, none⟩ (.int .i64 (wrap64 ((rd pF (rd ((qaH t0 E2).f3) j5)) + 1))))) ?hg ?ho ?hn ?hr ?_; (case ho => rfl); (case hg => rfl); (case hn => rfl); (case hr => first | (go_simp; done) | (go_simp; rfl)); intro Db hw; have hg : wr.grownBy Db (some FR) := (by rw [hw]; exact kW.2); have UJ : Kd.R (Kd.int .i64) 3 Db w.heap.size (fun _ => True) (.slice (some ⟨FR, 0, none⟩) pF.length JW) zV := (by rw [hw, aY.o]; exact kW.1); clear kW; have H0 := z_ (UJ); have I0 := z_ (Kd.qdh (v := (.slice (some ⟨FR, 0, none⟩) pF.length JW)) (zae MG.o) (Kd.qcL Y8.o) zbT hg); have K0 := z_ (qbd (g := vB) (o := .cells #[.slice (some YT) t0.length O0] 25 (0, 0)) (zac L5.o) hg (Kd.R_ne Y8.o L5.o zbT)); have U0 := z_ ((by rw [hw]; exact qa4 (HB.o) Ie.o : Below w.heap.size w Db)); clear Y8 MG L5 HB; have Y8 := H0; have MG := I0; have L5 := K0; have HB := U0; clear H0 I0 K0 U0; clear hg hw UJ))
                   go_roundg k3
                   case measure => have := q7.o; have := p7.o; have := oB.o; omega
                   case rel => exact ⟨(zV), (wrap64 (j5 + 1)), zbs, H', ⟨by have := q7.o; have := p7.o; have := oB.o; omega⟩, ⟨zaA⟩, ⟨zay⟩, ⟨by (with_reducible repeat (first | refine qaj ?_ _ | refine qai ?_ | refine qah ?_ _)); exact L5.o⟩, ⟨zab yA.o⟩⟩
                  ·rw [if_neg c32] at H;exact absurd H zbW
                 ·rw [if_neg c31] at H;exact absurd H zbW
                ·rw [if_neg FI] at H;exact absurd H zbW
               ·rw [if_neg nH] at H;exact absurd H zbW
              ·rw [if_neg c28] at H;have qU : decide (j5 < (((qaH t0 E2).f3).length : Int)) = false := decide_eq_false c28;clear c28;have H' := z_ H;clear H
               go_wp2
               go_roundg k3
               case measure => have := q7.o; have := p7.o; have := oB.o; omega
               case rel => exact ⟨(pF), (wrap64 (E2 + 1)), zbs, H', ⟨by have := q7.o; have := p7.o; have := oB.o; omega⟩, ⟨zaA⟩, ⟨zay⟩, ⟨by (with_reducible repeat (first | refine qaj ?_ _ | refine qai ?_ | refine qah ?_ _)); exact L5.o⟩, ⟨zab yA.o⟩⟩
           ·rw [if_neg vG] at H;exact absurd H zbW
          ·replace yQ := Bool.eq_false_iff.mpr yQ;subst yQ;have H1 : (qaM.l1 k2 eI E7 (E7.length : Int) (wrap64 (E2 + 1)) t0) = some r := zaK;clear H;have H := H1;clear H1;have H' := z_ H;clear H;have RJ : 0 ≤ (E2 : Int) := of_decide_eq_true zaN;have mJ : E2 < (E7.length : Int) := of_decide_eq_true zaN;obtain ⟨fT, yW, qG⟩ := Kd.qcX (Kd.qaU MG.o).2.2 E2 RJ mJ
           (try rw [← QP.o] at qG)
           cases yW
           replace RJ := eq_true RJ;replace mJ := eq_true mJ
           go_wp2
           go_roundg k2
           case measure => have := q7.o; have := p7.o; omega
           case rel => exact ⟨(eI), (wrap64 (E2 + 1)), zbs, H', ⟨zbx⟩, ⟨zaA⟩, ⟨zay⟩, ⟨by (with_reducible repeat (first | refine qaj ?_ _ | refine qai ?_ | refine qah ?_ _)); exact L5.o⟩, ⟨zab yA.o⟩⟩
         ·rw [if_neg c23] at H;exact absurd H zbW
        ·rw [if_neg WK] at H;exact absurd H zbW
       ·rw [if_neg c21] at H;have JT : decide (E2 < (E7.length : Int)) = false := decide_eq_false c21;clear c21;obtain rfl := Option.some.inj H
        go_wp2
        go_ret
        exact ⟨_, zaF, zaA, zab yA.o⟩
 ·rw [if_neg c3] at H;exact absurd H zbW
end Go.Proofs.Ytcdokcpiahbejaa.X
namespace Go.Proofs.Ytcdokcpiahbejaa.X
open Go.RowKit Go.Proofs.YtcdokcpiahbejaaW.PrintWords Go.Proofs.YtcdokcpiahbejaaW.PrintLast Go.Proofs.YtcdokcpiahbejaaW.PrintMore
attribute [local go_sem] qax qay qaz qat qau qaJ qaK qam qan qav qaw
set_option linter.unusedVariables false
set_option linter.unusedSimpArgs false
def qa8.f (k : Nat) (t0 : List (S75)) (l1 : List Int) : Option (List Int × Int) := if (l1.length : Int) > 4096 then (some (([] : List Int), 2)) else (if (l1.length : Int) > 20 then (some (([] : List Int), 6)) else ((qco.f t0 l1).bind fun TP => (if TP = true then ((qaM.f k t0 l1).bind fun fL => (some (fL, 0))) else (some (([] : List Int), 1)))))
theorem qa8.mono : ∀ a0 a1 k, LeO (qa8.f k a0 a1) (qa8.f (k + 1) a0 a1) := by
 intro a0 a1 k;unfold qa8.f
 repeat' first
   | (with_reducible exact qaM.mono _ _ _)
   | (with_reducible exact LeO.refl _)
   | (with_reducible exact LeO.none _)
   | (with_reducible refine LeO.ite ?_ ?_)
   | (with_reducible refine LeO.bind ?_ (fun _ => ?_))
   | exact qaM.mono _ _ _
   | exact LeO.none _
   | refine LeO.ite ?_ ?_
   | refine LeO.bind ?_ (fun _ => ?_)
set_option maxHeartbeats 8000000 in
set_option maxRecDepth 100000 in
theorem qa8.calls (k : Nat) (P0 : Option Addr) (O0 : Nat) (t0 : List (S75)) (A1 : Option Addr) (c1 : Nat) (l1 : List Int) (r1 : List Int) (r2 : Int) (w : World) (a5 : Kd.C k75 w P0 t0.length t0) (J6 : t0.length ≤ O0) (hr1 : Kd.C (Kd.int .i64) w A1 l1.length l1) (hc1 : l1.length ≤ c1) (h : qa8.f k t0 l1 = some (r1, r2)) :
  Calls Try.prog 7 #[.agg #[.slice P0 t0.length O0], .slice A1 l1.length c1] w fun e w' => ∃ mA : Value, e = .returned (.tuple #[mA, .int .i64 r2]) ∧ Kd.R (Kd.int .i64) 3 w' w.heap.size (fun _ => True) mA r1 ∧ Below w.heap.size w w' := by
 have bI := Try.underlying25;have S6 := z_ a5;have r8 := z_ J6;clear a5 J6;have HR1 := z_ hr1;have eG := z_ hc1;clear hr1 hc1;have HB := z_ (Below.refl w.heap.size w);have H : (if (l1.length : Int) > 4096 then (some (([] : List Int), 2)) else (if (l1.length : Int) > 20 then (some (([] : List Int), 6)) else ((qco.f t0 l1).bind fun TP => (if TP = true then ((qaM.f k t0 l1).bind fun fL => (some (fL, 0))) else (some (([] : List Int), 1)))))) = some (r1, r2) := h;clear h
 by_cases c3 : (l1.length : Int) > 4096
 ·rw [if_pos c3] at H;have M9 : decide (4096 < (l1.length : Int)) = true := decide_eq_true c3;have nB : decide (4096 < l1.length) = true := decide_eq_true zbV;clear c3;simp only [Option.some.injEq, Prod.mk.injEq] at H;obtain ⟨rfl, rfl⟩ := H
  go_enter Try.func7, Try.ntmps7
  go_wp2_with (first | ((with_reducible refine qaG (N := 2) rfl ?_); refine qaS zbX (N := 2) zbX (cs := #[.slice P0 t0.length O0]) (t := 25) zbv ?_; intro W8 hg w4 hbox hb; have H0 := z_ (qad zaq hb); have I0 := z_ (hbox); have K0 := z_ ((zal : w.heap.size ≤ W8)); have U0 := z_ ((zal : w.heap.size ≤ W8)); clear HB; have HB := H0; have s8 := I0; have LP := K0; have IB := U0; clear H0 I0 K0 U0; clear hb hbox hg))
  go_ret2
  exact ⟨_, zaF, zan, zab IB.o⟩
 ·rw [if_neg c3] at H;have M9 : decide (4096 < (l1.length : Int)) = false := decide_eq_false c3;have nB : decide (4096 < l1.length) = false := decide_eq_false zbV;clear c3
  by_cases c5 : (l1.length : Int) > 20
  ·rw [if_pos c5] at H;have fE : decide (20 < (l1.length : Int)) = true := decide_eq_true c5;have KN : decide (20 < l1.length) = true := decide_eq_true zbV;clear c5;simp only [Option.some.injEq, Prod.mk.injEq] at H;obtain ⟨rfl, rfl⟩ := H
   go_enter Try.func7, Try.ntmps7
   go_wp2_with (first | ((with_reducible refine qaG (N := 2) rfl ?_); refine qaS zbX (N := 2) zbX (cs := #[.slice P0 t0.length O0]) (t := 25) zbv ?_; intro W8 hg w6 hbox hb; have H0 := z_ (qad zaq hb); have I0 := z_ (hbox); have K0 := z_ ((zal : w.heap.size ≤ W8)); have U0 := z_ ((zal : w.heap.size ≤ W8)); clear HB; have HB := H0; have s8 := I0; have LP := K0; have IB := U0; clear H0 I0 K0 U0; clear hb hbox hg))
   go_ret2
   exact ⟨_, zaF, zan, zab IB.o⟩
  ·rw [if_neg c5] at H;have fE : decide (20 < (l1.length : Int)) = false := decide_eq_false c5;have KN : decide (20 < l1.length) = false := decide_eq_false zbV;clear c5;replace H := Option.bind_eq_some_iff.mp H;obtain ⟨TP, ZZ, H⟩ := H;try dsimp only at H
   have A7 := z_ ZZ;clear ZZ
   by_cases c8 : TP = true
   ·subst c8;have H1 : ((qaM.f k t0 l1).bind fun fL => (some (fL, 0))) = some (r1, r2) := zbE;clear H;have H := H1;clear H1;replace H := Option.bind_eq_some_iff.mp H;obtain ⟨fL, RT, H⟩ := H;try dsimp only at H
    have A9 := z_ RT;clear RT;simp only [Option.some.injEq, Prod.mk.injEq] at H;obtain ⟨rfl, rfl⟩ := H
    go_enter Try.func7, Try.ntmps7
    go_wp2_with (first | ((with_reducible refine qaG (N := 2) rfl ?_); refine qaS zbX (N := 2) zbX (cs := #[.slice P0 t0.length O0]) (t := 25) zbv ?_; intro W8 hg DX hbox hb; have H0 := z_ (qad zaq hb); have I0 := z_ (hbox); have K0 := z_ ((zal : w.heap.size ≤ W8)); have U0 := z_ ((zal : w.heap.size ≤ W8)); clear HB; have HB := H0; have s8 := I0; have LP := K0; have IB := U0; clear H0 I0 K0 U0 hb hbox hg; have iI : DX.cell? ⟨W8, 0, none⟩ = some (.slice P0 t0.length O0) := (qac s8.o 0).trans rfl; have pI := qab s8.o 0) | ((with_reducible refine qaD (f := 25) rfl ?_); refine qbk (some 17) rfl rfl Try.func25 zbS rfl #[.agg #[.slice P0 t0.length O0], .slice A1 l1.length c1] rfl zao ?_; (with_reducible refine (qco.calls _ _ t0 _ _ l1 true _ ?side1 ?side2 ?side3 ?side4 A7.o).mono ?_); (case side1 => exact zad (Kd.qaO S6.o HB.o)); (case side2 => exact r8.o); (case side3 => exact zad (Kd.qaO HR1.o HB.o)); (case side4 => exact eG.o); rintro e sL ⟨rfl, hb⟩; refine ⟨_, rfl, ?_⟩; have H0 := z_ (qap (g := W8) (o := .cells #[.slice P0 t0.length O0] 25 (0, 0)) (zac s8.o) hb); have I0 := z_ (qad (zab IB.o) hb); clear s8 HB; have s8 := H0; have HB := I0; clear H0 I0; (try clear hb); (try clear hb2); (try clear hk); (try clear hi); have vI : sL.cell? ⟨W8, 0, none⟩ = some (.slice P0 t0.length O0) := (qac s8.o 0).trans rfl; have WH := qab s8.o 0) | ((with_reducible refine qaD (f := 26) rfl ?_); refine qbk (some 21) rfl rfl Try.func26 zbS rfl #[.agg #[.slice P0 t0.length O0], .slice A1 l1.length c1] rfl zao ?_; (with_reducible refine (qaM.calls k _ _ t0 _ _ l1 fL _ ?side1 ?side2 ?side3 ?side4 A9.o).mono ?_); (case side1 => exact zad (Kd.qaO S6.o HB.o)); (case side2 => exact r8.o); (case side3 => exact zad (Kd.qaO HR1.o HB.o)); (case side4 => exact eG.o); rintro e CK ⟨v444, rfl, ho0, hb⟩; refine ⟨_, rfl, ?_⟩; have H0 := z_ (Kd.qa9 ho0 (qaC (zab IB.o))); have I0 := z_ (qap (g := W8) (o := .cells #[.slice P0 t0.length O0] 25 (0, 0)) (zac s8.o) hb); have K0 := z_ (qad (zab IB.o) hb); clear s8 HB; have pY := H0; have s8 := I0; have HB := K0; clear H0 I0 K0; (try clear hb); (try clear hb2); (try clear hk); (try clear hi); (try clear ho0)))
    go_ret2
    exact ⟨_, zaF, by (with_reducible repeat (first | apply Kd.qaV | apply Kd.qa0 | apply Kd.qa6)); exact pY.o, zab IB.o⟩
   ·replace c8 := Bool.eq_false_iff.mpr c8;subst c8;have H1 : (some (([] : List Int), 1)) = some (r1, r2) := zaK;clear H;have H := H1;clear H1;simp only [Option.some.injEq, Prod.mk.injEq] at H;obtain ⟨rfl, rfl⟩ := H
    go_enter Try.func7, Try.ntmps7
    go_wp2_with (first | ((with_reducible refine qaG (N := 2) rfl ?_); refine qaS zbX (N := 2) zbX (cs := #[.slice P0 t0.length O0]) (t := 25) zbv ?_; intro W8 hg jG hbox hb; have H0 := z_ (qad zaq hb); have I0 := z_ (hbox); have K0 := z_ ((zal : w.heap.size ≤ W8)); have U0 := z_ ((zal : w.heap.size ≤ W8)); clear HB; have HB := H0; have s8 := I0; have LP := K0; have IB := U0; clear H0 I0 K0 U0 hb hbox hg; have SA : jG.cell? ⟨W8, 0, none⟩ = some (.slice P0 t0.length O0) := (qac s8.o 0).trans rfl; have NA := qab s8.o 0) | ((with_reducible refine qaD (f := 25) rfl ?_); refine qbk (some 17) rfl rfl Try.func25 zbS rfl #[.agg #[.slice P0 t0.length O0], .slice A1 l1.length c1] rfl zao ?_; (with_reducible refine (qco.calls _ _ t0 _ _ l1 false _ ?side1 ?side2 ?side3 ?side4 A7.o).mono ?_); (case side1 => exact zad (Kd.qaO S6.o HB.o)); (case side2 => exact r8.o); (case side3 => exact zad (Kd.qaO HR1.o HB.o)); (case side4 => exact eG.o); rintro e nG ⟨rfl, hb⟩; refine ⟨_, rfl, ?_⟩; have H0 := z_ (qap (g := W8) (o := .cells #[.slice P0 t0.length O0] 25 (0, 0)) (zac s8.o) hb); have I0 := z_ (qad (zab IB.o) hb); clear s8 HB; have s8 := H0; have HB := I0; clear H0 I0; (try clear hb); (try clear hb2); (try clear hk); (try clear hi)))
    go_ret2
    exact ⟨_, zaF, zan, zab IB.o⟩
def qa3.f (k : Nat) (t0 : List (S75)) (l1 : List Int) : Option (List Int × Int) := if (l1.length : Int) > 4096 then (some ((([] : List Int)), 2)) else (if (l1.length : Int) > 20 then (some ((([] : List Int)), 6)) else ((qag.f k t0 l1).bind fun YI => (if YI.2 = true then ((qao.f k t0 l1 YI.1).bind fun TL => (some (TL, 0))) else (some ((([] : List Int)), 1)))))
theorem qa3.mono : ∀ a0 a1 k, LeO (qa3.f k a0 a1) (qa3.f (k + 1) a0 a1) := by
 intro a0 a1 k;unfold qa3.f
 repeat' first
   | (with_reducible exact qag.mono _ _ _)
   | (with_reducible exact qao.mono _ _ _ _)
   | (with_reducible exact LeO.refl _)
   | (with_reducible exact LeO.none _)
   | (with_reducible refine LeO.ite ?_ ?_)
   | (with_reducible refine LeO.bind ?_ (fun _ => ?_))
   | exact qag.mono _ _ _
   | exact qao.mono _ _ _ _
   | exact LeO.none _
   | refine LeO.ite ?_ ?_
   | refine LeO.bind ?_ (fun _ => ?_)
set_option maxHeartbeats 8000000 in
set_option maxRecDepth 100000 in
theorem qa3.calls (k : Nat) (P0 : Option Addr) (O0 : Nat) (t0 : List (S75)) (A1 : Option Addr) (c1 : Nat) (l1 : List Int) (r1 : List Int) (r2 : Int) (w : World) (a5 : Kd.C k75 w P0 t0.length t0) (J6 : t0.length ≤ O0) (hr1 : Kd.C (Kd.int .i64) w A1 l1.length l1) (hc1 : l1.length ≤ c1) (h : qa3.f k t0 l1 = some (r1, r2)) :
  Calls Try.prog 8 #[.agg #[.slice P0 t0.length O0], .slice A1 l1.length c1] w fun e w' => ∃ mA : Value, e = .returned (.tuple #[mA, .int .i64 r2]) ∧ Kd.R (Kd.int .i64) 3 w' w.heap.size (fun _ => True) mA r1 ∧ Below w.heap.size w w' := by
 have bI := Try.underlying25;have S6 := z_ a5;have r8 := z_ J6;clear a5 J6;have HR1 := z_ hr1;have eG := z_ hc1;clear hr1 hc1;have HB := z_ (Below.refl w.heap.size w);have H : (if (l1.length : Int) > 4096 then (some ((([] : List Int)), 2)) else (if (l1.length : Int) > 20 then (some ((([] : List Int)), 6)) else ((qag.f k t0 l1).bind fun YI => (if YI.2 = true then ((qao.f k t0 l1 YI.1).bind fun TL => (some (TL, 0))) else (some ((([] : List Int)), 1)))))) = some (r1, r2) := h;clear h
 by_cases c3 : (l1.length : Int) > 4096
 ·rw [if_pos c3] at H;have M9 : decide (4096 < (l1.length : Int)) = true := decide_eq_true c3;have nB : decide (4096 < l1.length) = true := decide_eq_true zbV;clear c3;obtain ⟨Hf, mK⟩ : ∃ y_ : List Int, y_ = (([] : List Int)) := ⟨_, rfl⟩
  replace H : (some (Hf, 2)) = some (r1, r2) := by first | (rw [mK]; with_reducible exact H) | (have Y1 := (Option.bind_some _ _).symm.trans H; rw [mK]; with_reducible exact Y1) | (have Y1 := (Option.bind_some _ _).symm.trans H; with_reducible exact Y1) | with_reducible exact H | (rw [mK]; exact H) | exact H
  have WT := z_ mK;clear mK;simp only [Option.some.injEq, Prod.mk.injEq] at H;obtain ⟨rfl, rfl⟩ := H
  go_enter Try.func8, Try.ntmps8
  go_wp2_with (first | ((with_reducible refine qaG (N := 2) rfl ?_); refine qaS zbX (N := 2) zbX (cs := #[.slice P0 t0.length O0]) (t := 25) zbv ?_; intro C7 hg w4 hbox hb; have H0 := z_ (qad zaq hb); have I0 := z_ (hbox); have K0 := z_ ((zal : w.heap.size ≤ C7)); have U0 := z_ ((zal : w.heap.size ≤ C7)); clear HB; have HB := H0; have a6 := I0; have FO := K0; have O7 := U0; clear H0 I0 K0 U0; clear hb hbox hg) | ((with_reducible refine qaG (N := 11) rfl ?_); refine Kd.qcD (Kd.int .i64) _ 3 zbX (N := 11) zbX (xs := ([] : List Int)) (inner := []) (ok := fun _ => True) (okp := fun _ => True) zbv ?hp (fun _ hk => hk) trivial (Below.refl _ _) (Nat.le_refl _) zbW ?_; (case hp => exact (Reps.none _ _)); intro v462 w5 iH hb F5 Z1; clear F5 Z1; (first | rw [← WT.o] at iH | (simp only [Int.reduceToNat] at iH; rw [← WT.o] at iH)); have H0 := z_ (Kd.qa9 iH (qaC (zab O7.o))); have I0 := z_ (qap (g := C7) (o := .cells #[.slice P0 t0.length O0] 25 (0, 0)) (zac a6.o) hb); have K0 := z_ (qad (zab O7.o) hb); clear a6 HB; have uZ := H0; have a6 := I0; have HB := K0; clear H0 I0 K0; clear hb iH))
  go_ret2
  exact ⟨_, zaF, by (with_reducible repeat (first | apply Kd.qaV | apply Kd.qa0 | apply Kd.qa6)); exact uZ.o, zab O7.o⟩
 ·rw [if_neg c3] at H;have M9 : decide (4096 < (l1.length : Int)) = false := decide_eq_false c3;have nB : decide (4096 < l1.length) = false := decide_eq_false zbV;clear c3
  by_cases c7 : (l1.length : Int) > 20
  ·rw [if_pos c7] at H;have GC : decide (20 < (l1.length : Int)) = true := decide_eq_true c7;have AO : decide (20 < l1.length) = true := decide_eq_true zbV;clear c7;obtain ⟨Ue, IJ⟩ : ∃ y_ : List Int, y_ = (([] : List Int)) := ⟨_, rfl⟩
   replace H : (some (Ue, 6)) = some (r1, r2) := by first | (rw [IJ]; with_reducible exact H) | (have Y1 := (Option.bind_some _ _).symm.trans H; rw [IJ]; with_reducible exact Y1) | (have Y1 := (Option.bind_some _ _).symm.trans H; with_reducible exact Y1) | with_reducible exact H | (rw [IJ]; exact H) | exact H
   have mT := z_ IJ;clear IJ;simp only [Option.some.injEq, Prod.mk.injEq] at H;obtain ⟨rfl, rfl⟩ := H
   go_enter Try.func8, Try.ntmps8
   go_wp2_with (first | ((with_reducible refine qaG (N := 2) rfl ?_); refine qaS zbX (N := 2) zbX (cs := #[.slice P0 t0.length O0]) (t := 25) zbv ?_; intro C7 hg w8 hbox hb; have H0 := z_ (qad zaq hb); have I0 := z_ (hbox); have K0 := z_ ((zal : w.heap.size ≤ C7)); have U0 := z_ ((zal : w.heap.size ≤ C7)); clear HB; have HB := H0; have a6 := I0; have FO := K0; have O7 := U0; clear H0 I0 K0 U0; clear hb hbox hg) | ((with_reducible refine qaG (N := 15) rfl ?_); refine Kd.qcD (Kd.int .i64) _ 3 zbX (N := 15) zbX (xs := ([] : List Int)) (inner := []) (ok := fun _ => True) (okp := fun _ => True) zbv ?hp (fun _ hk => hk) trivial (Below.refl _ _) (Nat.le_refl _) zbW ?_; (case hp => exact (Reps.none _ _)); intro v465 w9 eH hb F5 Z1; clear F5 Z1; (first | rw [← mT.o] at eH | (simp only [Int.reduceToNat] at eH; rw [← mT.o] at eH)); have H0 := z_ (Kd.qa9 eH (qaC (zab O7.o))); have I0 := z_ (qap (g := C7) (o := .cells #[.slice P0 t0.length O0] 25 (0, 0)) (zac a6.o) hb); have K0 := z_ (qad (zab O7.o) hb); clear a6 HB; have zX := H0; have a6 := I0; have HB := K0; clear H0 I0 K0; clear hb eH))
   go_ret2
   exact ⟨_, zaF, by (with_reducible repeat (first | apply Kd.qaV | apply Kd.qa0 | apply Kd.qa6)); exact zX.o, zab O7.o⟩
  ·rw [if_neg c7] at H;have GC : decide (20 < (l1.length : Int)) = false := decide_eq_false c7;have AO : decide (20 < l1.length) = false := decide_eq_false zbV;clear c7;replace H := Option.bind_eq_some_iff.mp H;obtain ⟨⟨pO, xh⟩, KZ, H⟩ := H;try dsimp only at H
   have A11 := z_ KZ;clear KZ
   by_cases c12 : xh = true
   ·subst c12;have H1 : ((qao.f k t0 l1 pO).bind fun TL => (some (TL, 0))) = some (r1, r2) := zbE;clear H;have H := H1;clear H1;replace H := Option.bind_eq_some_iff.mp H;obtain ⟨TL, vP, H⟩ := H;try dsimp only at H
    have yh := z_ vP;clear vP;simp only [Option.some.injEq, Prod.mk.injEq] at H;obtain ⟨rfl, rfl⟩ := H
    go_enter Try.func8, Try.ntmps8
    go_wp2_with (first | ((with_reducible refine qaG (N := 2) rfl ?_); refine qaS zbX (N := 2) zbX (cs := #[.slice P0 t0.length O0]) (t := 25) zbv ?_; intro C7 hg CK hbox hb; have H0 := z_ (qad zaq hb); have I0 := z_ (hbox); have K0 := z_ ((zal : w.heap.size ≤ C7)); have U0 := z_ ((zal : w.heap.size ≤ C7)); clear HB; have HB := H0; have a6 := I0; have FO := K0; have O7 := U0; clear H0 I0 K0 U0 hb hbox hg; have Ec : CK.cell? ⟨C7, 0, none⟩ = some (.slice P0 t0.length O0) := (qac a6.o 0).trans rfl; have Pc := qab a6.o 0) | ((with_reducible refine qaD (f := 27) rfl ?_); refine qbk (some 19) rfl rfl Try.func27 zbS rfl #[.agg #[.slice P0 t0.length O0], .slice A1 l1.length c1] rfl zao ?_; (with_reducible refine (qag.calls k _ _ t0 _ _ l1 pO true _ ?side1 ?side2 ?side3 ?side4 A11.o).mono ?_); (case side1 => exact zad (Kd.qaO S6.o HB.o)); (case side2 => exact r8.o); (case side3 => exact zad (Kd.qaO HR1.o HB.o)); (case side4 => exact eG.o); rintro e w16 ⟨cg, rfl, ho0, hb⟩; refine ⟨_, rfl, ?_⟩; have H0 := z_ (Kd.qa9 ho0 (qaC (zab O7.o))); have I0 := z_ (qap (g := C7) (o := .cells #[.slice P0 t0.length O0] 25 (0, 0)) (zac a6.o) hb); have K0 := z_ (qad (zab O7.o) hb); clear a6 HB; have PC := H0; have a6 := I0; have HB := K0; clear H0 I0 K0; (try clear hb); (try clear hb2); (try clear hk); (try clear hi); (try clear ho0); have cC : w16.cell? ⟨C7, 0, none⟩ = some (.slice P0 t0.length O0) := (qac a6.o 0).trans rfl; have iC := qab a6.o 0; obtain ⟨GF, hD, dI⟩ := Kd.qbi PC.o; subst dI) | ((with_reducible refine qaD (f := 28) rfl ?_); refine qbk (some 28) rfl rfl Try.func28 zbS rfl #[.agg #[.slice P0 t0.length O0], .slice A1 l1.length c1, .slice GF pO.length hD] rfl zao ?_; (with_reducible refine (qao.calls k _ _ t0 _ _ l1 _ _ pO TL _ ?side1 ?side2 ?side3 ?side4 ?side5 ?side6 yh.o).mono ?_); (case side1 => exact zad (Kd.qaO S6.o HB.o)); (case side2 => exact r8.o); (case side3 => exact zad (Kd.qaO HR1.o HB.o)); (case side4 => exact eG.o); (case side5 => exact zad ((Kd.qaU PC.o).2.2)); (case side6 => exact (Kd.qaU PC.o).2.1); rintro e CG ⟨v472, rfl, ho0, hb⟩; refine ⟨_, rfl, ?_⟩; have H0 := z_ (Kd.qbO (zae PC.o) hb); have I0 := z_ (Kd.qa9 ho0 (qaC (zab O7.o))); have K0 := z_ (qap (g := C7) (o := .cells #[.slice P0 t0.length O0] 25 (0, 0)) (zac a6.o) hb); have U0 := z_ (qad (zab O7.o) hb); clear PC a6 HB; have PC := H0; have oa := I0; have a6 := K0; have HB := U0; clear H0 I0 K0 U0; (try clear hb); (try clear hb2); (try clear hk); (try clear hi); (try clear ho0)))
    go_ret2
    exact ⟨_, zaF, by (with_reducible repeat (first | apply Kd.qaV | apply Kd.qa0 | apply Kd.qa6)); exact oa.o, zab O7.o⟩
   ·replace c12 := Bool.eq_false_iff.mpr c12;subst c12;have H1 : (some ((([] : List Int)), 1)) = some (r1, r2) := zaK;clear H;have H := H1;clear H1;obtain ⟨Gh, LJ⟩ : ∃ y_ : List Int, y_ = (([] : List Int)) := ⟨_, rfl⟩
    replace H : (some (Gh, 1)) = some (r1, r2) := by first | (rw [LJ]; with_reducible exact H) | (have Y1 := (Option.bind_some _ _).symm.trans H; rw [LJ]; with_reducible exact Y1) | (have Y1 := (Option.bind_some _ _).symm.trans H; with_reducible exact Y1) | with_reducible exact H | (rw [LJ]; exact H) | exact H
    have uU := z_ LJ;clear LJ;simp only [Option.some.injEq, Prod.mk.injEq] at H;obtain ⟨rfl, rfl⟩ := H
    go_enter Try.func8, Try.ntmps8
    go_wp2_with (first | ((with_reducible refine qaG (N := 2) rfl ?_); refine qaS zbX (N := 2) zbX (cs := #[.slice P0 t0.length O0]) (t := 25) zbv ?_; intro C7 hg uG hbox hb; have H0 := z_ (qad zaq hb); have I0 := z_ (hbox); have K0 := z_ ((zal : w.heap.size ≤ C7)); have U0 := z_ ((zal : w.heap.size ≤ C7)); clear HB; have HB := H0; have a6 := I0; have FO := K0; have O7 := U0; clear H0 I0 K0 U0 hb hbox hg; have Wc : uG.cell? ⟨C7, 0, none⟩ = some (.slice P0 t0.length O0) := (qac a6.o 0).trans rfl; have Jb := qab a6.o 0) | ((with_reducible refine qaD (f := 27) rfl ?_); refine qbk (some 19) rfl rfl Try.func27 zbS rfl #[.agg #[.slice P0 t0.length O0], .slice A1 l1.length c1] rfl zao ?_; (with_reducible refine (qag.calls k _ _ t0 _ _ l1 pO false _ ?side1 ?side2 ?side3 ?side4 A11.o).mono ?_); (case side1 => exact zad (Kd.qaO S6.o HB.o)); (case side2 => exact r8.o); (case side3 => exact zad (Kd.qaO HR1.o HB.o)); (case side4 => exact eG.o); rintro e QO ⟨cg, rfl, ho0, hb⟩; refine ⟨_, rfl, ?_⟩; have H0 := z_ (Kd.qa9 ho0 (qaC (zab O7.o))); have I0 := z_ (qap (g := C7) (o := .cells #[.slice P0 t0.length O0] 25 (0, 0)) (zac a6.o) hb); have K0 := z_ (qad (zab O7.o) hb); clear a6 HB; have PC := H0; have a6 := I0; have HB := K0; clear H0 I0 K0; (try clear hb); (try clear hb2); (try clear hk); (try clear hi); (try clear ho0)) | ((with_reducible refine qaG (N := 24) rfl ?_); refine Kd.qcD (Kd.int .i64) _ 3 zbX (N := 24) zbX (xs := ([] : List Int)) (inner := []) (ok := fun _ => True) (okp := fun _ => True) zbv ?hp (fun _ hk => hk) trivial (Below.refl _ _) (Nat.le_refl _) zbW ?_; (case hp => exact (Reps.none _ _)); intro v475 KF iQ hb F5 Z1; clear F5 Z1; (first | rw [← uU.o] at iQ | (simp only [Int.reduceToNat] at iQ; rw [← uU.o] at iQ)); have H0 := z_ (Kd.qbO (zae PC.o) hb); have I0 := z_ (Kd.qa9 iQ (qaC (zab O7.o))); have K0 := z_ (qap (g := C7) (o := .cells #[.slice P0 t0.length O0] 25 (0, 0)) (zac a6.o) hb); have U0 := z_ (qad (zab O7.o) hb); clear PC a6 HB; have PC := H0; have BY := I0; have a6 := K0; have HB := U0; clear H0 I0 K0 U0; clear hb iQ))
    go_ret2
    exact ⟨_, zaF, by (with_reducible repeat (first | apply Kd.qaV | apply Kd.qa0 | apply Kd.qa6)); exact BY.o, zab O7.o⟩
def qal.l0 : Nat → List Int → List Bool → Int → Int → Option (List Int × Int)
 | 0, _, _, _, _ => none
 | k + 1, x6, x17, x18, x19 => if x19 < x18 then (if 0 ≤ x19 then (if x19 < (x17.length : Int) then (if rdOf false x17 x19 = true then (if x6.length < 17592186044416 then (qal.l0 k (x6 ++ [x19]) x17 x18 (wrap64 (x19 + 1))) else (none)) else (qal.l0 k x6 x17 x18 (wrap64 (x19 + 1)))) else (none)) else (none)) else (some (x6, 0))
def qal.f (k : Nat) (t0 : List (S75)) (a1 : Int) : Option (List Int × Int) := (qcc.f t0 a1).bind fun NP => (if NP = true then ((qbM.f t0 (([a1] : List Int))).bind fun H6 => (qal.l0 k (([] : List Int)) H6 (H6.length : Int) 0)) else (some (([] : List Int), 1)))
theorem qal.qbW : ∀ k, (∀ y0 y1 y2 y3, LeO (qal.l0 k y0 y1 y2 y3) (qal.l0 (k + 1) y0 y1 y2 y3))
 | 0 => fun _ _ _ _ r h => by simp [qal.l0] at h
 | k + 1 => by
  have d6 := qal.qbW k
  ·intro y0 y1 y2 y3;unfold qal.l0
   repeat' first
   | (with_reducible exact d6 _ _ _ _)
   | (with_reducible exact LeO.refl _)
   | (with_reducible exact LeO.none _)
   | (with_reducible refine LeO.ite ?_ ?_)
   | (with_reducible refine LeO.bind ?_ (fun _ => ?_))
   | exact d6 _ _ _ _
   | exact LeO.none _
   | refine LeO.ite ?_ ?_
   | refine LeO.bind ?_ (fun _ => ?_)
theorem qal.mono : ∀ a0 a1 k, LeO (qal.f k a0 a1) (qal.f (k + 1) a0 a1) := by
 intro a0 a1 k;have d6 := qal.qbW k;unfold qal.f
 repeat' first
   | (with_reducible exact d6 _ _ _ _)
   | (with_reducible exact LeO.refl _)
   | (with_reducible exact LeO.none _)
   | (with_reducible refine LeO.ite ?_ ?_)
   | (with_reducible refine LeO.bind ?_ (fun _ => ?_))
   | exact d6 _ _ _ _
   | exact LeO.none _
   | refine LeO.ite ?_ ?_
   | refine LeO.bind ?_ (fun _ => ?_)
set_option maxHeartbeats 8000000 in
set_option maxRecDepth 100000 in
theorem qal.calls (k : Nat) (P0 : Option Addr) (O0 : Nat) (t0 : List (S75)) (a1 : Int) (r1 : List Int) (r2 : Int) (w : World) (a5 : Kd.C k75 w P0 t0.length t0) (J6 : t0.length ≤ O0) (h : qal.f k t0 a1 = some (r1, r2)) :
  Calls Try.prog 9 #[.agg #[.slice P0 t0.length O0], .int .i64 a1] w fun e w' => ∃ mA : Value, e = .returned (.tuple #[mA, .int .i64 r2]) ∧ Kd.R (Kd.int .i64) 3 w' w.heap.size (fun _ => True) mA r1 ∧ Below w.heap.size w w' := by
 have bI := Try.underlying25;have S6 := z_ a5;have r8 := z_ J6;clear a5 J6;have HB := z_ (Below.refl w.heap.size w);have H : ((qcc.f t0 a1).bind fun NP => (if NP = true then ((qbM.f t0 (([a1] : List Int))).bind fun H6 => (qal.l0 k (([] : List Int)) H6 (H6.length : Int) 0)) else (some (([] : List Int), 1)))) = some (r1, r2) := h;clear h;replace H := Option.bind_eq_some_iff.mp H;obtain ⟨NP, jI, H⟩ := H;try dsimp only at H
 have A3 := z_ jI;clear jI
 by_cases c4 : NP = true
 ·subst c4;have H1 : ((qbM.f t0 (([a1] : List Int))).bind fun H6 => (qal.l0 k (([] : List Int)) H6 (H6.length : Int) 0)) = some (r1, r2) := zbE;clear H;have H := H1;clear H1;obtain ⟨FU, wK⟩ : ∃ y_ : List Int, y_ = (([] : List Int)) := ⟨_, rfl⟩
  replace H : ((qbM.f t0 (([a1] : List Int))).bind fun H6 => (qal.l0 k FU H6 (H6.length : Int) 0)) = some (r1, r2) := by first | (rw [wK]; with_reducible exact H) | (have Y1 := (Option.bind_some _ _).symm.trans H; rw [wK]; with_reducible exact Y1) | (have Y1 := (Option.bind_some _ _).symm.trans H; with_reducible exact Y1) | with_reducible exact H | (rw [wK]; exact H) | exact H
  have bT := z_ wK;clear wK;obtain ⟨WW, pJ⟩ : ∃ y_ : List Int, y_ = (([a1] : List Int)) := ⟨_, rfl⟩
  replace H : ((qbM.f t0 WW).bind fun H6 => (qal.l0 k FU H6 (H6.length : Int) 0)) = some (r1, r2) := by first | (rw [pJ]; with_reducible exact H) | (have Y1 := (Option.bind_some _ _).symm.trans H; rw [pJ]; with_reducible exact Y1) | (have Y1 := (Option.bind_some _ _).symm.trans H; with_reducible exact Y1) | with_reducible exact H | (rw [pJ]; exact H) | exact H
  have WS := z_ pJ;clear pJ;replace H := Option.bind_eq_some_iff.mp H;obtain ⟨H6, JI, H⟩ := H;try dsimp only at H
  have A5 := z_ JI;clear JI;have H' := z_ H;clear H
  go_enter Try.func9, Try.ntmps9
  go_wp2_with (first | ((with_reducible refine qaG (N := 2) rfl ?_); refine qaS zbX (N := 2) zbX (cs := #[.slice P0 t0.length O0]) (t := 25) zbv ?_; intro H9 hg w6 hbox hb; have H0 := z_ (qad zaq hb); have I0 := z_ (hbox); have K0 := z_ ((zal : w.heap.size ≤ H9)); have U0 := z_ ((zal : w.heap.size ≤ H9)); clear HB; have HB := H0; have G5 := I0; have cY := K0; have g9 := U0; clear H0 I0 K0 U0 hb hbox hg; have tL : w6.cell? ⟨H9, 0, none⟩ = some (.slice P0 t0.length O0) := (qac G5.o 0).trans rfl; have SK := qab G5.o 0) | ((with_reducible refine qaD (f := 17) rfl ?_); refine qbk (some 11) rfl rfl Try.func17 zbS rfl #[.agg #[.slice P0 t0.length O0], .int .i64 a1] rfl zao ?_; (with_reducible refine (qcc.calls _ _ t0 a1 true _ ?side1 ?side2 A3.o).mono ?_); (case side1 => exact zad (Kd.qaO S6.o HB.o)); (case side2 => exact r8.o); rintro e w8 ⟨rfl, hb⟩; refine ⟨_, rfl, ?_⟩; have H0 := z_ (qap (g := H9) (o := .cells #[.slice P0 t0.length O0] 25 (0, 0)) (zac G5.o) hb); have I0 := z_ (qad (zab g9.o) hb); clear G5 HB; have G5 := H0; have HB := I0; clear H0 I0; (try clear hb); (try clear hb2); (try clear hk); (try clear hi)) | ((with_reducible refine qaG (N := 13) rfl ?_); refine Kd.qcD (Kd.int .i64) _ 3 zbX (N := 13) zbX (xs := ([] : List Int)) (inner := []) (ok := fun _ => True) (okp := fun _ => True) zbv ?hp (fun _ hk => hk) trivial (Below.refl _ _) (Nat.le_refl _) zbW ?_; (case hp => exact (Reps.none _ _)); intro v480 w9 eH hb F5 Z1; clear F5 Z1; (first | rw [← bT.o] at eH | (simp only [Int.reduceToNat] at eH; rw [← bT.o] at eH)); have H0 := z_ (Kd.qa9 eH (qaC (zab g9.o))); have I0 := z_ (qap (g := H9) (o := .cells #[.slice P0 t0.length O0] 25 (0, 0)) (zac G5.o) hb); have K0 := z_ (qad (zab g9.o) hb); clear G5 HB; have TF := H0; have G5 := I0; have HB := K0; clear H0 I0 K0 hb eH; have iI : w9.cell? ⟨H9, 0, none⟩ = some (.slice P0 t0.length O0) := (qac G5.o 0).trans rfl; have pI := qab G5.o 0) | ((with_reducible refine qaG (N := 16) rfl ?_); refine Kd.qcD (Kd.int .i64) _ 3 zbX (N := 16) zbX (xs := ([a1] : List Int)) (inner := [.int .i64 a1]) (ok := fun _ => True) (okp := fun _ => True) zbv ?hp (fun _ hk => hk) trivial (Below.refl _ _) (Nat.le_refl _) zbW ?_; (case hp => exact (Reps.one (show Kd.M (Kd.int .i64) _ _ _ a1 [.int .i64 a1] from rfl) (Reps.none _ _))); intro v483 sL QN hb F5 Z1; clear F5 Z1; (first | rw [← WS.o] at QN | (simp only [Int.reduceToNat] at QN; rw [← WS.o] at QN)); have H0 := z_ (Kd.qbZ (zae TF.o) (Kd.qb0 QN) hb); have I0 := z_ (Kd.qa9 (Kd.qcV QN (Kd.R_lt (zae TF.o))) (qaC (zab g9.o))); have K0 := z_ (qap (g := H9) (o := .cells #[.slice P0 t0.length O0] 25 (0, 0)) (zac G5.o) hb); have U0 := z_ (qad (zab g9.o) hb); clear TF G5 HB; have TF := H0; have IH := I0; have G5 := K0; have HB := U0; clear H0 I0 K0 U0 hb QN; obtain ⟨vY, LU, SV⟩ := Kd.qbi IH.o; subst SV) | ((with_reducible refine qaD (f := 29) rfl ?_); refine qbk (some 17) rfl rfl Try.func29 zbS rfl #[.agg #[.slice P0 t0.length O0], .slice vY WW.length LU] rfl zao ?_; (with_reducible refine (qbM.calls _ _ t0 _ _ WW H6 _ ?side1 ?side2 ?side3 ?side4 A5.o).mono ?_); (case side1 => exact zad (Kd.qaO S6.o HB.o)); (case side2 => exact r8.o); (case side3 => exact zad ((Kd.qaU IH.o).2.2)); (case side4 => exact (Kd.qaU IH.o).2.1); rintro e jG ⟨v486, rfl, ho0, hb⟩; refine ⟨_, rfl, ?_⟩; have H0 := z_ (Kd.qbO (zae TF.o) hb); have I0 := z_ (Kd.qbO (zae IH.o) hb); have K0 := z_ (Kd.qa9 ho0 (qaC (zab g9.o))); have U0 := z_ (qap (g := H9) (o := .cells #[.slice P0 t0.length O0] 25 (0, 0)) (zac G5.o) hb); have N5 := z_ (qad (zab g9.o) hb); clear TF IH G5 HB; have TF := H0; have IH := I0; have lT := K0; have G5 := U0; have HB := N5; clear H0 I0 K0 U0 N5; (try clear hb); (try clear hb2); (try clear hk); (try clear hi); (try clear ho0); obtain ⟨lg, Lf, Ig⟩ := Kd.qbi lT.o; subst Ig))
  go_loopg [6, 19] k (fun kq v6 v19 w' => ∃ (F4 : List Int) (J5 : Int), v19 = .int .i64 J5 ∧ Aside0 (qal.l0 kq F4 H6 (H6.length : Int) J5 = some (r1, r2)) ∧ Aside0 (kq ≤ k) ∧ Aside0 (Kd.R (Kd.int .i64) 3 w' w.heap.size (fun _ => True) v6 F4) ∧ Aside0 (Kd.R Kd.bool 4 w' w.heap.size (fun _ => True) (.slice lg H6.length Lf) H6) ∧ Aside0 (w'.heap[H9]? = some (.cells #[(.slice P0 t0.length O0)] 25 (0, 0))) ∧ Aside0 (Below w.heap.size w w'))
  case atStart => exact ⟨(FU), (0), zbs, H', ⟨Nat.le_refl _⟩, ⟨by (with_reducible repeat (first | apply Kd.qaV | apply Kd.qa0 | apply Kd.qa6)); exact Kd.qbb TF.o (fun _ hk => trivial)⟩, ⟨by (with_reducible repeat (first | apply Kd.qaV | apply Kd.qa0 | apply Kd.qa6)); exact lT.o⟩, ⟨by (with_reducible repeat (first | refine qaj ?_ _ | refine qai ?_ | refine qah ?_ _)); exact G5.o⟩, ⟨zab g9.o⟩⟩
  case round =>
   clear H';try clear c1
   try clear c2
   try clear p2
   try clear c4
   try clear c9
   try clear iI
   try clear tL
   try clear pI
   try clear SK
   obtain ⟨F4, J5, rfl, HA, q7, P5, yH, G5, HB⟩ := hrel
   cases gk with
   | zero => exact absurd HA.o (by simp [qal.l0])
   | succ k1 =>
    have H := HA.o;clear HA;simp only [qal.l0] at H
    by_cases c17 : J5 < (H6.length : Int)
    ·rw [if_pos c17] at H;have zP : decide (J5 < (H6.length : Int)) = true := decide_eq_true c17;clear c17
     by_cases c18 : 0 ≤ J5
     ·rw [if_pos c18] at H;have c18b0 : decide (0 ≤ J5) = true := decide_eq_true c18;clear c18
      by_cases c19 : J5 < (H6.length : Int)
      ·rw [if_pos c19] at H;have c19b0 : decide (J5 < (H6.length : Int)) = true := decide_eq_true c19;clear c19;obtain ⟨Ka, fQ⟩ : ∃ b_ : Bool, b_ = (rdOf false H6 J5) := ⟨_, rfl⟩
       replace H : (if Ka = true then (if F4.length < 17592186044416 then (qal.l0 k1 (F4 ++ [J5]) H6 (H6.length : Int) (wrap64 (J5 + 1))) else (none)) else (qal.l0 k1 F4 H6 (H6.length : Int) (wrap64 (J5 + 1)))) = some (r1, r2) := by rw [← fQ] at H; exact H
       have DT := z_ fQ;clear fQ
       by_cases c21 : Ka = true
       ·subst c21;have H1 : (if F4.length < 17592186044416 then (qal.l0 k1 (F4 ++ [J5]) H6 (H6.length : Int) (wrap64 (J5 + 1))) else (none)) = some (r1, r2) := zbE;clear H;have H := H1;clear H1
        by_cases WK : F4.length < 17592186044416
        ·rw [if_pos WK] at H;have VX := z_ WK;clear WK;obtain ⟨kY, wJ⟩ : ∃ y_ : List Int, y_ = (F4 ++ [J5]) := ⟨_, rfl⟩
         replace H : (qal.l0 k1 kY H6 (H6.length : Int) (wrap64 (J5 + 1))) = some (r1, r2) := by first | (rw [wJ]; with_reducible exact H) | (have Y1 := (Option.bind_some _ _).symm.trans H; rw [wJ]; with_reducible exact Y1) | (have Y1 := (Option.bind_some _ _).symm.trans H; with_reducible exact Y1) | with_reducible exact H | (rw [wJ]; exact H) | exact H
         have AY := z_ wJ;clear wJ;have H' := z_ H;clear H;have OK : 0 ≤ (J5 : Int) := of_decide_eq_true zaN;have rL : J5 < (H6.length : Int) := of_decide_eq_true zaN;obtain ⟨xZ, GU, lI⟩ := Kd.qcX (Kd.qaU yH.o).2.2 J5 OK rL
         (try rw [← DT.o] at lI)
         cases GU
         replace OK := eq_true OK;replace rL := eq_true rL
         go_wp2_with (first | ((with_reducible refine qbs (b := .append) (xs := #[.tmp 25, .tmp 27]) rfl ?_); at_builtin; refine Kd.qeA (Kd.int .i64) (w0 := w) w.heap.size rfl (.tmp 25) (.tmp 27) 29 3 (.int .i64 0) 8 rfl Try.underlying29 info3 rfl zbT zbV u6 F4 J5 [.int .i64 J5] (fun _ => True) (fun _ => False) rfl rfl ?aP (fun _ hk => hk.elim) ?aF ?aO ?aB ?aS ?aL ?_; (case aP => exact rfl); (case aB => exact (zab g9.o)); (case aF => exact (fun _ _ => trivial)); (case aO => exact (zae P5.o)); (case aS => exact (qaC (zab g9.o))); (case aL => have := VX.o; omega); intro v490 KF ho hb hg hat; rw [← AY.o] at ho; have H0 := z_ (Kd.qdh (zae yH.o) (Kd.qcL (zae P5.o)) zbT hg); have I0 := z_ (qbd (g := H9) (o := .cells #[.slice P0 t0.length O0] 25 (0, 0)) (zac G5.o) hg (Kd.R_ne P5.o G5.o zbT)); have K0 := z_ (hb); have U0 := z_ (ho); clear yH G5 HB P5; have yH := H0; have G5 := I0; have HB := K0; have Aa := U0; clear H0 I0 K0 U0; clear ho hb hg hat))
         go_roundg k1
         case measure => have := q7.o; omega
         case rel => exact ⟨(kY), (wrap64 (J5 + 1)), zbs, H', ⟨zbK⟩, ⟨by (with_reducible repeat (first | apply Kd.qaV | apply Kd.qa0 | apply Kd.qa6)); exact Aa.o⟩, ⟨zaz⟩, ⟨by (with_reducible repeat (first | refine qaj ?_ _ | refine qai ?_ | refine qah ?_ _)); exact G5.o⟩, ⟨zab g9.o⟩⟩
        ·rw [if_neg WK] at H;exact absurd H zbW
       ·replace c21 := Bool.eq_false_iff.mpr c21;subst c21;have H1 : (qal.l0 k1 F4 H6 (H6.length : Int) (wrap64 (J5 + 1))) = some (r1, r2) := zaK;clear H;have H := H1;clear H1;have H' := z_ H;clear H;have OK : 0 ≤ (J5 : Int) := of_decide_eq_true zaN;have rL : J5 < (H6.length : Int) := of_decide_eq_true zaN;obtain ⟨xZ, GU, lI⟩ := Kd.qcX (Kd.qaU yH.o).2.2 J5 OK rL
        (try rw [← DT.o] at lI)
        cases GU
        replace OK := eq_true OK;replace rL := eq_true rL
        go_wp2
        go_roundg k1
        case measure => have := q7.o; omega
        case rel => exact ⟨(F4), (wrap64 (J5 + 1)), zbs, H', ⟨zbK⟩, ⟨zaE⟩, ⟨zaz⟩, ⟨by (with_reducible repeat (first | refine qaj ?_ _ | refine qai ?_ | refine qah ?_ _)); exact G5.o⟩, ⟨zab g9.o⟩⟩
      ·rw [if_neg c19] at H;exact absurd H zbW
     ·rw [if_neg c18] at H;exact absurd H zbW
    ·rw [if_neg c17] at H;have zP : decide (J5 < (H6.length : Int)) = false := decide_eq_false c17;clear c17;simp only [Option.some.injEq, Prod.mk.injEq] at H;obtain ⟨rfl, rfl⟩ := H
     go_wp2
     go_ret2
     exact ⟨_, zaF, zaE, zab g9.o⟩
 ·replace c4 := Bool.eq_false_iff.mpr c4;subst c4;have H1 : (some (([] : List Int), 1)) = some (r1, r2) := zaK;clear H;have H := H1;clear H1;simp only [Option.some.injEq, Prod.mk.injEq] at H;obtain ⟨rfl, rfl⟩ := H
  go_enter Try.func9, Try.ntmps9
  go_wp2_with (first | ((with_reducible refine qaG (N := 2) rfl ?_); refine qaS zbX (N := 2) zbX (cs := #[.slice P0 t0.length O0]) (t := 25) zbv ?_; intro H9 hg VU hbox hb; have H0 := z_ (qad zaq hb); have I0 := z_ (hbox); have K0 := z_ ((zal : w.heap.size ≤ H9)); have U0 := z_ ((zal : w.heap.size ≤ H9)); clear HB; have HB := H0; have G5 := I0; have cY := K0; have g9 := U0; clear H0 I0 K0 U0 hb hbox hg; have PQ : VU.cell? ⟨H9, 0, none⟩ = some (.slice P0 t0.length O0) := (qac G5.o 0).trans rfl; have wR := qab G5.o 0) | ((with_reducible refine qaD (f := 17) rfl ?_); refine qbk (some 11) rfl rfl Try.func17 zbS rfl #[.agg #[.slice P0 t0.length O0], .int .i64 a1] rfl zao ?_; (with_reducible refine (qcc.calls _ _ t0 a1 false _ ?side1 ?side2 A3.o).mono ?_); (case side1 => exact zad (Kd.qaO S6.o HB.o)); (case side2 => exact r8.o); rintro e w26 ⟨rfl, hb⟩; refine ⟨_, rfl, ?_⟩; have H0 := z_ (qap (g := H9) (o := .cells #[.slice P0 t0.length O0] 25 (0, 0)) (zac G5.o) hb); have I0 := z_ (qad (zab g9.o) hb); clear G5 HB; have G5 := H0; have HB := I0; clear H0 I0; (try clear hb); (try clear hb2); (try clear hk); (try clear hi)))
  go_ret2
  exact ⟨_, zaF, zan, zab g9.o⟩
def qaF.l0 : Nat → List Int → List Int → Int → Option (Bool)
 | 0, _, _, _ => none
 | k + 1, x0, x1, x5 => if x5 < (x0.length : Int) then (if 0 ≤ x5 then (if x5 < (x1.length : Int) then (if (rd x0 x5) = (rd x1 x5) then (qaF.l0 k x0 x1 (wrap64 (x5 + 1))) else (some false)) else (none)) else (none)) else (some true)
def qaF.f (k : Nat) (l0 : List Int) (l1 : List Int) : Option (Bool) := if (l0.length : Int) = (l1.length : Int) then (qaF.l0 k l0 l1 0) else (some false)
theorem qaF.qbW : ∀ k, (∀ y0 y1 y2, LeO (qaF.l0 k y0 y1 y2) (qaF.l0 (k + 1) y0 y1 y2))
 | 0 => fun _ _ _ r h => by simp [qaF.l0] at h
 | k + 1 => by
  have d6 := qaF.qbW k
  ·intro y0 y1 y2;unfold qaF.l0
   repeat' first
   | (with_reducible exact d6 _ _ _)
   | (with_reducible exact LeO.refl _)
   | (with_reducible exact LeO.none _)
   | (with_reducible refine LeO.ite ?_ ?_)
   | (with_reducible refine LeO.bind ?_ (fun _ => ?_))
   | exact d6 _ _ _
   | exact LeO.none _
   | refine LeO.ite ?_ ?_
   | refine LeO.bind ?_ (fun _ => ?_)
theorem qaF.mono : ∀ a0 a1 k, LeO (qaF.f k a0 a1) (qaF.f (k + 1) a0 a1) := by
 intro a0 a1 k;have d6 := qaF.qbW k;unfold qaF.f
 repeat' first
   | (with_reducible exact d6 _ _ _)
   | (with_reducible exact LeO.refl _)
   | (with_reducible exact LeO.none _)
   | (with_reducible refine LeO.ite ?_ ?_)
   | (with_reducible refine LeO.bind ?_ (fun _ => ?_))
   | exact d6 _ _ _
   | exact LeO.none _
   | refine LeO.ite ?_ ?_
   | refine LeO.bind ?_ (fun _ => ?_)
set_option maxHeartbeats 8000000 in
set_option maxRecDepth 100000 in
theorem qaF.calls (k : Nat) (A0 : Option Addr) (c0 : Nat) (l0 : List Int) (A1 : Option Addr) (c1 : Nat) (l1 : List Int) (r : Bool) (w : World) (hr0 : Kd.C (Kd.int .i64) w A0 l0.length l0) (hc0 : l0.length ≤ c0) (hr1 : Kd.C (Kd.int .i64) w A1 l1.length l1) (hc1 : l1.length ≤ c1) (h : qaF.f k l0 l1 = some r) :
  Calls Try.prog 10 #[.slice A0 l0.length c0, .slice A1 l1.length c1] w fun e w' => e = .returned (.bool r) ∧ qcI w w' := by
 have I7 := z_ hr0;have OF := z_ hc0;clear hr0 hc0;have HR1 := z_ hr1;have eG := z_ hc1;clear hr1 hc1;have H : (if (l0.length : Int) = (l1.length : Int) then (qaF.l0 k l0 l1 0) else (some false)) = some r := h;clear h
 by_cases c3 : (l0.length : Int) = (l1.length : Int)
 ·rw [if_pos c3] at H;have M9 : ((l0.length : Int) == (l1.length : Int)) = true := beq_iff_eq.mpr c3;have nB : ((l0.length : Int) != (l1.length : Int)) = false := bne_eq_false_iff_eq.mpr c3;have AU : (l0.length == l1.length) = true := by first | simpa using c3 | (simp at c3 ⊢; omega)
  clear c3;have H' := z_ H;clear H
  go_enter Try.func10, Try.ntmps10
  go_wp2
  repeat (go_quiet (fail); try go_wp2)
  go_loopg [5] k (fun kq v5 w' => ∃ (G3 : Int), v5 = .int .i64 G3 ∧ Aside0 (qaF.l0 kq l0 l1 G3 = some r) ∧ Aside0 (kq ≤ k) ∧ qcI w w')
  case atStart => exact ⟨(0), zbs, H', ⟨Nat.le_refl _⟩, zaL⟩
  case round =>
   clear H';try clear c1
   try clear p2
   try clear c3
   try clear M9
   try clear nB
   try clear AU
   obtain ⟨G3, rfl, HA, q7, ⟨m1, rfl⟩⟩ := hrel
   cases gk with
   | zero => exact absurd HA.o (by simp [qaF.l0])
   | succ k1 =>
    have H := HA.o;clear HA;simp only [qaF.l0] at H
    by_cases c4 : G3 < (l0.length : Int)
    ·rw [if_pos c4] at H;have GB : decide (G3 < (l0.length : Int)) = true := decide_eq_true c4;clear c4
     by_cases c5 : 0 ≤ G3
     ·rw [if_pos c5] at H;have fE : decide (0 ≤ G3) = true := decide_eq_true c5;clear c5
      by_cases c6 : G3 < (l1.length : Int)
      ·rw [if_pos c6] at H;have mH : decide (G3 < (l1.length : Int)) = true := decide_eq_true c6;clear c6
       by_cases c7 : (rd l0 G3) = (rd l1 G3)
       ·rw [if_pos c7] at H;have GC : ((rd l0 G3) == (rd l1 G3)) = true := beq_iff_eq.mpr c7;have AO : ((rd l0 G3) != (rd l1 G3)) = false := bne_eq_false_iff_eq.mpr c7;clear c7;have H' := z_ H;clear H;have GK : 0 ≤ (G3 : Int) := of_decide_eq_true zaN;have QL : G3 < (l0.length : Int) := of_decide_eq_true zaN;obtain ⟨zZ, vV, yS⟩ := Kd.qbN I7.o G3 GK QL
        cases vV
        replace GK := eq_true GK;replace QL := eq_true QL;have yL : 0 ≤ (G3 : Int) := of_decide_eq_true zaN;have NK : G3 < (l1.length : Int) := of_decide_eq_true zaN;obtain ⟨Ta, ZV, GR⟩ := Kd.qbN HR1.o G3 yL NK
        cases ZV
        replace yL := eq_true yL;replace NK := eq_true NK
        go_wp2
        repeat (go_quiet (fail); try go_wp2)
        go_roundg k1
        case measure => have := q7.o; omega
        case rel => exact ⟨(wrap64 (G3 + 1)), zbs, H', ⟨zbK⟩, zaL⟩
       ·rw [if_neg c7] at H;have GC : ((rd l0 G3) == (rd l1 G3)) = false := beq_eq_false_iff_ne.mpr c7;have AO : ((rd l0 G3) != (rd l1 G3)) = true := bne_iff_ne.mpr c7;obtain rfl := Option.some.inj H;have GK : 0 ≤ (G3 : Int) := of_decide_eq_true zaN;have QL : G3 < (l0.length : Int) := of_decide_eq_true zaN;obtain ⟨zZ, vV, yS⟩ := Kd.qbN I7.o G3 GK QL
        cases vV
        replace GK := eq_true GK;replace QL := eq_true QL;have yL : 0 ≤ (G3 : Int) := of_decide_eq_true zaN;have NK : G3 < (l1.length : Int) := of_decide_eq_true zaN;obtain ⟨Ta, ZV, GR⟩ := Kd.qbN HR1.o G3 yL NK
        cases ZV
        replace yL := eq_true yL;replace NK := eq_true NK
        go_wp2
        repeat (go_quiet (fail); try go_wp2)
        go_ret
        exact ⟨zbs, zaL⟩
      ·rw [if_neg c6] at H;exact absurd H zbW
     ·rw [if_neg c5] at H;exact absurd H zbW
    ·rw [if_neg c4] at H;have GB : decide (G3 < (l0.length : Int)) = false := decide_eq_false c4;clear c4;obtain rfl := Option.some.inj H
     go_wp2
     repeat (go_quiet (fail); try go_wp2)
     go_ret
     exact ⟨zbs, zaL⟩
 ·rw [if_neg c3] at H;have M9 : ((l0.length : Int) == (l1.length : Int)) = false := beq_eq_false_iff_ne.mpr c3;have nB : ((l0.length : Int) != (l1.length : Int)) = true := bne_iff_ne.mpr c3;have AU : (l0.length == l1.length) = false := by first | simpa using c3 | (simp at c3 ⊢; omega)
  obtain rfl := Option.some.inj H
  go_enter Try.func10, Try.ntmps10
  go_wp2
  repeat (go_quiet (fail); try go_wp2)
  go_ret
  exact ⟨zbs, zaL⟩
end Go.Proofs.Ytcdokcpiahbejaa.X
