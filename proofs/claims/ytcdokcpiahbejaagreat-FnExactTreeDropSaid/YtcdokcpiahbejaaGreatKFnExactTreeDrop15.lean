import Derived.Test.YtcdokcpiahbejaaGreatKFnExactTreeDrop14
import Derived.Test.YtcdokcpiahbejaaGreatRows
import Derived.ShutString
import Derived.ChangeOld
import Derived.SizedLaws
set_option maxRecDepth 100000
set_option maxHeartbeats 16000000
set_option linter.unusedVariables false
set_option linter.unusedSimpArgs false
namespace Go.Proofs.YtcdokcpiahbejaaGreat.X
open Go.RowKit Go.Proofs.PW Go.Proofs.PL Go.Proofs.PM
attribute [local go_sem] qaj qak qal qaf qag qao qap qad qae qah qai
def qaI.l0 : Nat → List ByteArray → Int → Int → Option (Int)
 | 0, _, _, _ => none
 | k + 1, x0, x1, x5 => if x5 < (x0.length : Int) then (if 0 ≤ x5 then (if (wrap64 (x1 - ((rdOf ByteArray.empty x0 x5).size : Int))) < 0 then (some (-1)) else (qaI.l0 k x0 (wrap64 (x1 - ((rdOf ByteArray.empty x0 x5).size : Int))) (wrap64 (x5 + 1)))) else (none)) else (some x1)
def qaI.f (k : Nat) (l0 : List ByteArray) (a1 : Int) : Option (Int) := if (wrap64 (a1 - (l0.length : Int))) < 0 then (some (-1)) else (qaI.l0 k l0 (wrap64 (a1 - (l0.length : Int))) 0)
theorem qaI.qbl : ∀ k, (∀ y0 y1 y2, LeO (qaI.l0 k y0 y1 y2) (qaI.l0 (k + 1) y0 y1 y2))
 | 0 => fun _ _ _ r h => by simp [qaI.l0] at h
 | k + 1 => by
  have Q9 := qaI.qbl k
  ·intro y0 y1 y2;unfold qaI.l0;exact zleo_
theorem qaI.mono : ∀ a0 a1 k, LeO (qaI.f k a0 a1) (qaI.f (k + 1) a0 a1) := by
 intro a0 a1 k;have Q9 := qaI.qbl k;unfold qaI.f;exact zleo_
theorem qaI.calls (k : Nat) (A0 : Option Addr) (c0 : Nat) (l0 : List ByteArray) (a1 : Int) (r : Int) (w : World) (hr0 : Kd.C Kd.string w A0 l0.length l0) (hc0 : l0.length ≤ c0) (h : qaI.f k l0 a1 = some r) :
  Calls Tryz.prog 67 #[.slice A0 l0.length c0, .int .i64 a1] w fun e w' => e = .returned (.int .i64 r) ∧ qcm w w' := by
 have Z1 := z_ hr0;have kB := z_ hc0;clear hr0 hc0;have H : (if (wrap64 (a1 - (l0.length : Int))) < 0 then (some (-1)) else (qaI.l0 k l0 (wrap64 (a1 - (l0.length : Int))) 0)) = some r := h;clear h
 by_cases c3 : (wrap64 (a1 - (l0.length : Int))) < 0
 ·rw [if_pos c3] at H;have Y1 : decide ((wrap64 (a1 - (l0.length : Int))) < 0) = true := decide_eq_true c3;clear c3;obtain rfl := Option.some.inj H
  go_enter Tryz.func67, Tryz.ntmps67
  go_wp2
  go_ret
  exact ⟨zcc, zbh⟩
 ·rw [if_neg c3] at H;have Y1 : decide ((wrap64 (a1 - (l0.length : Int))) < 0) = false := decide_eq_false c3;clear c3;have H' := z_ H;clear H
  go_enter Tryz.func67, Tryz.ntmps67
  go_wp2
  go_loopg [1, 5] k (fun kq v1 v5 w' => ∃ (L0 : Int) (o0 : Int), v1 = .int .i64 L0 ∧ v5 = .int .i64 o0 ∧ Aside0 (qaI.l0 kq l0 L0 o0 = some r) ∧ Aside0 (kq ≤ k) ∧ qcm w w')
  case atStart => exact ⟨(wrap64 (a1 - (l0.length : Int))), (0), zcc, zcc, H', ⟨Nat.le_refl _⟩, zbh⟩
  case round =>
   clear H';try clear c3
   try clear Y1
   obtain ⟨L0, o0, rfl, rfl, HA, I5, ⟨m1, rfl⟩⟩ := hrel
   cases gk with
   | zero => exact absurd HA.o (by simp [qaI.l0])
   | succ k1 =>
    have H := HA.o;clear HA;simp only [qaI.l0] at H
    by_cases c4 : o0 < (l0.length : Int)
    ·rw [if_pos c4] at H;have G4 : decide (o0 < (l0.length : Int)) = true := decide_eq_true c4;clear c4
     by_cases c5 : 0 ≤ o0
     ·rw [if_pos c5] at H;have O8 : decide (0 ≤ o0) = true := decide_eq_true c5;clear c5
      by_cases c6 : (wrap64 (L0 - ((rdOf ByteArray.empty l0 o0).size : Int))) < 0
      ·rw [if_pos c6] at H;have u7 : decide ((wrap64 (L0 - ((rdOf ByteArray.empty l0 o0).size : Int))) < 0) = true := decide_eq_true c6;clear c6;obtain rfl := Option.some.inj H;have GM : 0 ≤ (o0 : Int) := zod_;have AN : o0 < (l0.length : Int) := zod_;obtain ⟨Oh, YZ, BW⟩ := Kd.qbX Z1.o o0 GM AN
       cases YZ
       replace GM := eq_true GM;replace AN := eq_true AN
       go_wp2
       go_ret
       exact ⟨zcc, zbh⟩
      ·rw [if_neg c6] at H;have u7 : decide ((wrap64 (L0 - ((rdOf ByteArray.empty l0 o0).size : Int))) < 0) = false := decide_eq_false c6;clear c6;have H' := z_ H;clear H;have GM : 0 ≤ (o0 : Int) := zod_;have AN : o0 < (l0.length : Int) := zod_;obtain ⟨Oh, YZ, BW⟩ := Kd.qbX Z1.o o0 GM AN
       cases YZ
       replace GM := eq_true GM;replace AN := eq_true AN
       go_wp2
       go_roundg k1
       case measure => have := I5.o; omega
       case rel => exact ⟨(wrap64 (L0 - ((rdOf ByteArray.empty l0 o0).size : Int))), (wrap64 (o0 + 1)), zcc, zcc, H', ⟨zcY⟩, zbh⟩
     ·rw [if_neg c5] at H;exact absurd H zdN
    ·rw [if_neg c4] at H;have G4 : decide (o0 < (l0.length : Int)) = false := decide_eq_false c4;clear c4;obtain rfl := Option.some.inj H
     go_wp2
     go_ret
     exact ⟨zcc, zbh⟩
theorem qhu (B : Int) (hB : B ≤ 1048576) (rest : List ByteArray) : ∀ (pre : List ByteArray) (left : Int), (pre ++ rest).length ≤ 9223372036854775807 → (∀ y ∈ rest, y.size ≤ maxLen) → 0 ≤ left → left ≤ B →
  ∃ r, Ev (fun k => qaI.l0 k (pre ++ rest) left ((pre.length : Nat) : Int)) r ∧ (0 ≤ r → r ≤ left ∧ ∀ y ∈ rest, (y.size : Int) ≤ B) := by
 induction rest with
 | nil =>
  intro pre left hl hw h0 h1;refine ⟨left, Ev.succ ?_, fun _ => ⟨Int.le_refl _, fun y hy => by cases hy⟩⟩;simp only [qaI.l0];exact Ev.neg zdN (Ev.is rfl)
 | cons x rest ih =>
  intro pre left hl hw h0 h1;have hx : rdOf ByteArray.empty (pre ++ x :: rest) ((pre.length : Nat) : Int) = x := by simp [rdOf, List.getD_eq_getElem?_getD]
  have hlt : ((pre.length : Nat) : Int) < ((pre ++ x :: rest).length : Int) := zdF;have hwp : wrap64 (((pre.length : Nat) : Int) + 1) = (((pre ++ [x]).length : Nat) : Int) := zck;have e1 : pre ++ x :: rest = (pre ++ [x]) ++ rest := zdN;have hl2 : ((pre ++ [x]) ++ rest).length ≤ 9223372036854775807 := zdo
  have hs : x.size ≤ 9223372036854775807 := Nat.le_trans (hw x List.mem_cons_self) qd9;have e : wrap64 (left - (x.size : Int)) = left - (x.size : Int) := qc0 zdM zdM
  by_cases c : left - (x.size : Int) < 0
  ·refine ⟨-1, Ev.succ ?_, fun h => zdM⟩;simp only [qaI.l0, hx, e];exact Ev.pos hlt (Ev.pos zdM (Ev.pos c (Ev.is rfl)))
  ·obtain ⟨r2, hr2, hq2⟩ := ih (pre ++ [x]) (left - (x.size : Int)) hl2 (fun y hy => hw y (List.mem_cons_of_mem _ hy)) zdM zdM;refine ⟨r2, Ev.succ ?_, fun h => ?_⟩
   ·simp only [qaI.l0, hx, hwp, e];rw [← e1] at hr2;exact Ev.pos hlt (Ev.pos zdM (Ev.neg c hr2))
   ·have h3 := hq2 h;refine ⟨zdM, fun y hy => ?_⟩
    rcases List.mem_cons.1 hy with rfl | hy
    ·omega
    ·exact h3.2 y hy
theorem qkU (l : List ByteArray) (hw : (l.length ≤ maxLen ∧ ∀ y ∈ l, y.size ≤ maxLen)) (B left : Int) (h0 : 0 ≤ left) (h1 : left ≤ B) (hB : B ≤ 1048576) : ∃ r, Ev (fun k => qaI.f k l left) r ∧ (0 ≤ r → r ≤ left ∧ ((l.length : Int) ≤ B ∧ ∀ y ∈ l, (y.size : Int) ≤ B)) := by
 have hl := Nat.le_trans hw.1 qd9;unfold qaI.f;have e : wrap64 (left - (l.length : Int)) = left - (l.length : Int) := qc0 zdM zdM;simp only [e]
 by_cases c : left - (l.length : Int) < 0
 ·exact ⟨-1, Ev.pos c (Ev.is rfl), fun h => zdM⟩
 ·obtain ⟨r, hr, hq⟩ := qhu B hB l [] (left - (l.length : Int)) zdv hw.2 zdM zdM;exact ⟨r, Ev.neg c (by simpa using hr), fun h => ⟨zcX, zdM, (hq h).2⟩⟩
def qcc.f (k : Nat) (B0 : Bool) (D0 : List (S135)) (C0 : List ByteArray) (E0 : List Int) (a1 : Int) : Option (Int) := (qaP.f k D0 a1).bind fun jA => (if jA < 0 then (some (-1)) else ((qaI.f k C0 jA).bind fun t107 => (if t107 < 0 then (some (-1)) else ((qcw.f E0 t107).bind fun oG => (if oG < 0 then (some (-1)) else (some oG))))))
theorem qcc.mono : ∀ a0 a1 a2 a3 a4 k, LeO (qcc.f k a0 a1 a2 a3 a4) (qcc.f (k + 1) a0 a1 a2 a3 a4) := by
 intro a0 a1 a2 a3 a4 k;unfold qcc.f;have kC := @qaP.mono; have dT := @qaI.mono; exact zleo_
theorem qcc.calls (k : Nat) (B0 : Bool) (P0 : Option Addr) (O0 : Nat) (D0 : List (S135)) (R0 : Option Addr) (T0 : Nat) (C0 : List ByteArray) (U0 : Option Addr) (Q0 : Nat) (E0 : List Int) (a1 : Int) (r : Int) (w : World) (J3 : Kd.C k135 w P0 D0.length D0) (I3 : D0.length ≤ O0) (V2 : Kd.C Kd.string w R0 C0.length C0) (F3 : C0.length ≤ T0) (u3 : Kd.C (Kd.int .i64) w U0 E0.length E0) (D3 : E0.length ≤ Q0) (h : qcc.f k B0 D0 C0 E0 a1 = some r) :
  Calls Tryz.prog 36 #[.agg #[.bool B0, .slice P0 D0.length O0, .slice R0 C0.length T0, .slice U0 E0.length Q0], .int .i64 a1] w fun e w' => e = .returned (.int .i64 r) ∧ Below w.heap.size w w' := by
 have ia := Tryz.underlying70;have M7 := z_ J3;have Y7 := z_ I3;clear J3 I3;have I8 := z_ V2;have Z8 := z_ F3;clear V2 F3;have D9 := z_ u3;have oA := z_ D3;clear u3 D3;have HB := z_ (Below.refl w.heap.size w);have H : ((qaP.f k D0 a1).bind fun jA => (if jA < 0 then (some (-1)) else ((qaI.f k C0 jA).bind fun t107 => (if t107 < 0 then (some (-1)) else ((qcw.f E0 t107).bind fun oG => (if oG < 0 then (some (-1)) else (some oG))))))) = some r := h;clear h;replace H := Option.bind_eq_some_iff.mp H;obtain ⟨jA, GE, H⟩ := H;try dsimp only at H
 have A3 := z_ GE;clear GE
 by_cases c4 : jA < 0
 ·rw [if_pos c4] at H;have G4 : decide (jA < 0) = true := decide_eq_true c4;clear c4;obtain rfl := Option.some.inj H
  go_enter Tryz.func36, Tryz.ntmps36
  go_wp2_with (first | ((with_reducible refine qaw (N := 2) rfl ?_); refine qaH zdO (N := 2) zdO (cs := #[.bool B0, .slice P0 D0.length O0, .slice R0 C0.length T0, .slice U0 E0.length Q0]) (t := 70) zcm ?_; intro K8 hg w5 hbox hb; have C7 := z_ (hbox); have uT := z_ ((zao : w.heap.size ≤ K8)); have H9 := z_ ((zao : w.heap.size ≤ K8)); replace HB := z_ (qaa zar hb); clear hb hbox hg; obtain ⟨NT, ap, Gl, xm, QS, Nn, bp, Wm⟩ := zcells4 C7.o) | ((with_reducible refine qax (f := 66) rfl ?_); refine qbq (some 8) rfl rfl Tryz.func66 zdG rfl #[.slice P0 D0.length O0, .int .i64 a1] rfl zaq ?_; (with_reducible refine (qaP.calls k _ _ D0 a1 jA _ ?side1 ?side2 A3.o).mono ?_); (case side1 => exact zae (Kd.qar M7.o HB.o)); (case side2 => exact Y7.o); rintro e w7 ⟨rfl, hb⟩; refine ⟨_, rfl, ?_⟩; replace C7 := z_ (qab (g := K8) (o := .cells #[.bool B0, .slice P0 D0.length O0, .slice R0 C0.length T0, .slice U0 E0.length Q0] 70 (0, 0)) (zac C7.o) hb); replace HB := z_ (qaa (zab H9.o) hb); (try clear hb)))
  go_ret
  exact ⟨zaM, zab H9.o⟩
 ·rw [if_neg c4] at H;have G4 : decide (jA < 0) = false := decide_eq_false c4;clear c4;replace H := Option.bind_eq_some_iff.mp H;obtain ⟨t107, SX, H⟩ := H;try dsimp only at H
  have A8 := z_ SX;clear SX
  by_cases c9 : t107 < 0
  ·rw [if_pos c9] at H;have OJ : decide (t107 < 0) = true := decide_eq_true c9;clear c9;obtain rfl := Option.some.inj H
   go_enter Tryz.func36, Tryz.ntmps36
   go_wp2_with (first | ((with_reducible refine qaw (N := 2) rfl ?_); refine qaH zdO (N := 2) zdO (cs := #[.bool B0, .slice P0 D0.length O0, .slice R0 C0.length T0, .slice U0 E0.length Q0]) (t := 70) zcm ?_; intro K8 hg U8 hbox hb; have C7 := z_ (hbox); have uT := z_ ((zao : w.heap.size ≤ K8)); have H9 := z_ ((zao : w.heap.size ≤ K8)); replace HB := z_ (qaa zar hb); clear hb hbox hg; obtain ⟨Oi, Vi, Ok, ri, Pk, sl, wj, Uj⟩ := zcells4 C7.o) | ((with_reducible refine qax (f := 66) rfl ?_); refine qbq (some 8) rfl rfl Tryz.func66 zdG rfl #[.slice P0 D0.length O0, .int .i64 a1] rfl zaq ?_; (with_reducible refine (qaP.calls k _ _ D0 a1 jA _ ?side1 ?side2 A3.o).mono ?_); (case side1 => exact zae (Kd.qar M7.o HB.o)); (case side2 => exact Y7.o); rintro e JB ⟨rfl, hb⟩; refine ⟨_, rfl, ?_⟩; replace C7 := z_ (qab (g := K8) (o := .cells #[.bool B0, .slice P0 D0.length O0, .slice R0 C0.length T0, .slice U0 E0.length Q0] 70 (0, 0)) (zac C7.o) hb); replace HB := z_ (qaa (zab H9.o) hb); (try clear hb); obtain ⟨rF, VH, cW, RU, gF, YI, SV, oV⟩ := zcells4 C7.o) | ((with_reducible refine qax (f := 67) rfl ?_); refine qbq (some 14) rfl rfl Tryz.func67 zdG rfl #[.slice R0 C0.length T0, .int .i64 jA] rfl zaq ?_; (with_reducible refine (qaI.calls k _ _ C0 jA t107 _ ?side1 ?side2 A8.o).mono ?_); (case side1 => exact zae (Kd.qar I8.o HB.o)); (case side2 => exact Z8.o); rintro e w' ⟨rfl, ⟨nd, rfl⟩⟩; refine ⟨_, rfl, ?_⟩))
   go_ret
   exact ⟨zaM, zab H9.o⟩
  ·rw [if_neg c9] at H;have OJ : decide (t107 < 0) = false := decide_eq_false c9;clear c9;replace H := Option.bind_eq_some_iff.mp H;obtain ⟨oG, Sd, H⟩ := H;try dsimp only at H
   have DR := z_ Sd;clear Sd
   by_cases c15 : oG < 0
   ·rw [if_pos c15] at H;have eT : decide (oG < 0) = true := decide_eq_true c15;clear c15;obtain rfl := Option.some.inj H
    go_enter Tryz.func36, Tryz.ntmps36
    go_wp2_with (first | ((with_reducible refine qaw (N := 2) rfl ?_); refine qaH zdO (N := 2) zdO (cs := #[.bool B0, .slice P0 D0.length O0, .slice R0 C0.length T0, .slice U0 E0.length Q0]) (t := 70) zcm ?_; intro K8 hg w16 hbox hb; have C7 := z_ (hbox); have uT := z_ ((zao : w.heap.size ≤ K8)); have H9 := z_ ((zao : w.heap.size ≤ K8)); replace HB := z_ (qaa zar hb); clear hb hbox hg; obtain ⟨OW, yk, ui, ij, dV, Oj, si, Di⟩ := zcells4 C7.o) | ((with_reducible refine qax (f := 66) rfl ?_); refine qbq (some 8) rfl rfl Tryz.func66 zdG rfl #[.slice P0 D0.length O0, .int .i64 a1] rfl zaq ?_; (with_reducible refine (qaP.calls k _ _ D0 a1 jA _ ?side1 ?side2 A3.o).mono ?_); (case side1 => exact zae (Kd.qar M7.o HB.o)); (case side2 => exact Y7.o); rintro e ZU ⟨rfl, hb⟩; refine ⟨_, rfl, ?_⟩; replace C7 := z_ (qab (g := K8) (o := .cells #[.bool B0, .slice P0 D0.length O0, .slice R0 C0.length T0, .slice U0 E0.length Q0] 70 (0, 0)) (zac C7.o) hb); replace HB := z_ (qaa (zab H9.o) hb); (try clear hb); obtain ⟨jF, BF, aJ, NI, nF, eF, NH, TI⟩ := zcells4 C7.o) | ((with_reducible refine qax (f := 67) rfl ?_); refine qbq (some 14) rfl rfl Tryz.func67 zdG rfl #[.slice R0 C0.length T0, .int .i64 jA] rfl zaq ?_; (with_reducible refine (qaI.calls k _ _ C0 jA t107 _ ?side1 ?side2 A8.o).mono ?_); (case side1 => exact zae (Kd.qar I8.o HB.o)); (case side2 => exact Z8.o); rintro e w' ⟨rfl, ⟨nd, rfl⟩⟩; refine ⟨_, rfl, ?_⟩) | ((with_reducible refine qax (f := 68) rfl ?_); refine qbq (some 20) rfl rfl Tryz.func68 zdG rfl #[.slice U0 E0.length Q0, .int .i64 t107] rfl zaq ?_; (with_reducible refine (qcw.calls _ _ E0 t107 oG _ ?side1 ?side2 DR.o).mono ?_); (case side1 => repeat (first | exact (Kd.qar D9.o (zab H9.o)) | (with_reducible refine Kd.qeM ?_ _) | (with_reducible refine Kd.qfl ?_ _) | (with_reducible refine Kd.qeN ?_))); (case side2 => exact oA.o); rintro e w' ⟨rfl, ⟨nd, rfl⟩⟩; refine ⟨_, rfl, ?_⟩))
    go_ret
    exact ⟨zaM, zab H9.o⟩
   ·rw [if_neg c15] at H;have eT : decide (oG < 0) = false := decide_eq_false c15;clear c15;obtain rfl := Option.some.inj H
    go_enter Tryz.func36, Tryz.ntmps36
    go_wp2_with (first | ((with_reducible refine qaw (N := 2) rfl ?_); refine qaH zdO (N := 2) zdO (cs := #[.bool B0, .slice P0 D0.length O0, .slice R0 C0.length T0, .slice U0 E0.length Q0]) (t := 70) zcm ?_; intro K8 hg tF hbox hb; have C7 := z_ (hbox); have uT := z_ ((zao : w.heap.size ≤ K8)); have H9 := z_ ((zao : w.heap.size ≤ K8)); replace HB := z_ (qaa zar hb); clear hb hbox hg; obtain ⟨nW, rV, rX, yV, bV, mV, XU, tV⟩ := zcells4 C7.o) | ((with_reducible refine qax (f := 66) rfl ?_); refine qbq (some 8) rfl rfl Tryz.func66 zdG rfl #[.slice P0 D0.length O0, .int .i64 a1] rfl zaq ?_; (with_reducible refine (qaP.calls k _ _ D0 a1 jA _ ?side1 ?side2 A3.o).mono ?_); (case side1 => exact zae (Kd.qar M7.o HB.o)); (case side2 => exact Y7.o); rintro e UR ⟨rfl, hb⟩; refine ⟨_, rfl, ?_⟩; replace C7 := z_ (qab (g := K8) (o := .cells #[.bool B0, .slice P0 D0.length O0, .slice R0 C0.length T0, .slice U0 E0.length Q0] 70 (0, 0)) (zac C7.o) hb); replace HB := z_ (qaa (zab H9.o) hb); (try clear hb); obtain ⟨IP, JP, SW, IU, qP, GP, iV, WV⟩ := zcells4 C7.o) | ((with_reducible refine qax (f := 67) rfl ?_); refine qbq (some 14) rfl rfl Tryz.func67 zdG rfl #[.slice R0 C0.length T0, .int .i64 jA] rfl zaq ?_; (with_reducible refine (qaI.calls k _ _ C0 jA t107 _ ?side1 ?side2 A8.o).mono ?_); (case side1 => exact zae (Kd.qar I8.o HB.o)); (case side2 => exact Z8.o); rintro e w' ⟨rfl, ⟨nd, rfl⟩⟩; refine ⟨_, rfl, ?_⟩) | ((with_reducible refine qax (f := 68) rfl ?_); refine qbq (some 20) rfl rfl Tryz.func68 zdG rfl #[.slice U0 E0.length Q0, .int .i64 t107] rfl zaq ?_; (with_reducible refine (qcw.calls _ _ E0 t107 oG _ ?side1 ?side2 DR.o).mono ?_); (case side1 => repeat (first | exact (Kd.qar D9.o (zab H9.o)) | (with_reducible refine Kd.qeM ?_ _) | (with_reducible refine Kd.qfl ?_ _) | (with_reducible refine Kd.qeN ?_))); (case side2 => exact oA.o); rintro e w' ⟨rfl, ⟨nd, rfl⟩⟩; refine ⟨_, rfl, ?_⟩))
    go_ret
    exact ⟨zaM, zab H9.o⟩
theorem sz_Node (x : S70) (hw : wl70 x) (B left : Int) (h0 : 0 ≤ left) (h1 : left ≤ B) (hB : B ≤ 1048576) : ∃ r, Ev (fun k => qcc.f k (x.f0) (x.f1) (x.f2) (x.f3) left) r ∧ (0 ≤ r → r ≤ left ∧ sm70 B x) := by
 unfold qcc.f;obtain ⟨r1, hr1, hq1⟩ := sz_PairS x.f1 hw.2.1 B left zdM zdM hB
 by_cases c1 : r1 < 0
 ·exact ⟨-1, Ev.bind hr1 (Ev.pos c1 (Ev.is rfl)), fun h => zdM⟩
 have zf := hq1 zdM
 suffices hh : ∃ r, Ev _ r ∧ (0 ≤ r → r ≤ left ∧ sm70 B x) from (let ⟨r, hr, hq⟩ := hh; ⟨r, Ev.bind hr1 (Ev.neg c1 hr), hq⟩)
 have hz1 := zf.1;obtain ⟨r2, hr2, hq2⟩ := qkU x.f2 hw.2.2.1 B r1 zdM zdM hB
 by_cases c2 : r2 < 0
 ·exact ⟨-1, Ev.bind hr2 (Ev.pos c2 (Ev.is rfl)), fun h => zdM⟩
 have ue := hq2 zdM
 suffices hh : ∃ r, Ev _ r ∧ (0 ≤ r → r ≤ left ∧ sm70 B x) from (let ⟨r, hr, hq⟩ := hh; ⟨r, Ev.bind hr2 (Ev.neg c2 hr), hq⟩)
 have hz2 := ue.1;obtain ⟨r3, hr3, hq3⟩ := sz_IntS x.f3 hw.2.2.2 B r2 zdM zdM hB
 by_cases c3 : r3 < 0
 ·exact ⟨-1, Ev.bind hr3 (Ev.pos c3 (Ev.is rfl)), fun h => zdM⟩
 have xh := hq3 zdM
 suffices hh : ∃ r, Ev _ r ∧ (0 ≤ r → r ≤ left ∧ sm70 B x) from (let ⟨r, hr, hq⟩ := hh; ⟨r, Ev.bind hr3 (Ev.neg c3 hr), hq⟩)
 have hz3 := xh.1;exact ⟨r3, Ev.is rfl, fun _ => ⟨zdM, ⟨trivial, zf.2, ue.2, xh.2⟩⟩⟩
def qa9.l0 : Nat → List (S70) → Int → Int → Option (Int)
 | 0, _, _, _ => none
 | k + 1, x0, x1, x5 => if x5 < (x0.length : Int) then (if 0 ≤ x5 then ((qcc.f k ((qbM x0 x5).f0) ((qbM x0 x5).f1) ((qbM x0 x5).f2) ((qbM x0 x5).f3) x1).bind fun kJ => (if kJ < 0 then (some (-1)) else (qa9.l0 k x0 kJ (wrap64 (x5 + 1))))) else (none)) else (some x1)
def qa9.f (k : Nat) (l0 : List (S70)) (a1 : Int) : Option (Int) := if (wrap64 (a1 - (l0.length : Int))) < 0 then (some (-1)) else (qa9.l0 k l0 (wrap64 (a1 - (l0.length : Int))) 0)
theorem qa9.qbl : ∀ k, (∀ y0 y1 y2, LeO (qa9.l0 k y0 y1 y2) (qa9.l0 (k + 1) y0 y1 y2))
 | 0 => fun _ _ _ r h => by simp [qa9.l0] at h
 | k + 1 => by
  have Q9 := qa9.qbl k
  ·intro y0 y1 y2;unfold qa9.l0;have kC := @qcc.mono; exact zleo_
theorem qa9.calls (k : Nat) (A0 : Option Addr) (c0 : Nat) (l0 : List (S70)) (a1 : Int) (r : Int) (w : World) (hr0 : Kd.C k70 w A0 l0.length l0) (hc0 : l0.length ≤ c0) (h : qa9.f k l0 a1 = some r) :
  Calls Tryz.prog 17 #[.slice A0 l0.length c0, .int .i64 a1] w fun e w' => e = .returned (.int .i64 r) ∧ Below w.heap.size w w' := by
 have ia := Tryz.underlying70;have Z1 := z_ hr0;have kB := z_ hc0;clear hr0 hc0;have HB := z_ (Below.refl w.heap.size w);have H : (if (wrap64 (a1 - (l0.length : Int))) < 0 then (some (-1)) else (qa9.l0 k l0 (wrap64 (a1 - (l0.length : Int))) 0)) = some r := h;clear h
 by_cases c3 : (wrap64 (a1 - (l0.length : Int))) < 0
 ·rw [if_pos c3] at H;have Y1 : decide ((wrap64 (a1 - (l0.length : Int))) < 0) = true := decide_eq_true c3;clear c3;obtain rfl := Option.some.inj H
  go_enter Tryz.func17, Tryz.ntmps17
  go_wp2
  go_ret
  exact ⟨zaM, zar⟩
 ·rw [if_neg c3] at H;have Y1 : decide ((wrap64 (a1 - (l0.length : Int))) < 0) = false := decide_eq_false c3;clear c3;have H' := z_ H;clear H
  go_enter Tryz.func17, Tryz.ntmps17
  go_wp2
  go_loopg [1, 5] k (fun kq v1 v5 w' => ∃ (L0 : Int) (o0 : Int), v1 = .int .i64 L0 ∧ v5 = .int .i64 o0 ∧ Aside0 (qa9.l0 kq l0 L0 o0 = some r) ∧ Aside0 (kq ≤ k) ∧ Aside0 (Below w.heap.size w w'))
  case atStart => exact ⟨(wrap64 (a1 - (l0.length : Int))), (0), zcc, zcc, H', ⟨Nat.le_refl _⟩, ⟨zar⟩⟩
  case round =>
   clear H';try clear c3
   try clear Y1
   obtain ⟨L0, o0, rfl, rfl, HA, I5, HB⟩ := hrel
   cases gk with
   | zero => exact absurd HA.o (by simp [qa9.l0])
   | succ k1 =>
    have H := HA.o;clear HA;simp only [qa9.l0] at H
    by_cases c4 : o0 < (l0.length : Int)
    ·rw [if_pos c4] at H;have G4 : decide (o0 < (l0.length : Int)) = true := decide_eq_true c4;clear c4
     by_cases c5 : 0 ≤ o0
     ·rw [if_pos c5] at H;have O8 : decide (0 ≤ o0) = true := decide_eq_true c5;clear c5;replace H := Option.bind_eq_some_iff.mp H;obtain ⟨kJ, AT, H⟩ := H;try dsimp only at H
      have A6 := z_ AT;clear AT
      by_cases c7 : kJ < 0
      ·rw [if_pos c7] at H;have QA : decide (kJ < 0) = true := decide_eq_true c7;clear c7;obtain rfl := Option.some.inj H;have vL : 0 ≤ (o0 : Int) := zod_;have WL : o0 < (l0.length : Int) := zod_;obtain ⟨Qg, yL, sM, BL, DL, VL, XM, e109, IC, aD, TC, LD, yD, WD, YC, pD, XC, BD⟩ := qls Z1.o o0 vL WL
       cases e109
       replace IC := zmove_ HB rfl IC;replace aD := zmove_ HB rfl aD;replace TC := zmove_ HB rfl TC;replace LD := zmove_ HB rfl LD;have WH := z_ WD;have aI := z_ yD;clear WD yD;have VI := z_ pD;have mJ := z_ YC;clear pD YC;have dJ := z_ BD;have cJ := z_ XC;clear BD XC;replace vL := eq_true vL;replace WL := eq_true WL
       go_wp2_with (first | ((with_reducible refine qax (f := 36) rfl ?_); refine qbq (some 23) rfl rfl Tryz.func36 zdG rfl #[.agg #[.bool ((qbM l0 o0).f0), .slice yL ((qbM l0 o0).f1).length sM, .slice BL ((qbM l0 o0).f2).length DL, .slice VL ((qbM l0 o0).f3).length XM], .int .i64 L0] rfl zaq ?_; (with_reducible refine (qcc.calls k1 ((qbM l0 o0).f0) _ _ ((qbM l0 o0).f1) _ _ ((qbM l0 o0).f2) _ _ ((qbM l0 o0).f3) L0 kJ _ ?side1 ?side2 ?side3 ?side4 ?side5 ?side6 A6.o).mono ?_); (case side1 => exact zae (Kd.qar WH.o HB.o)); (case side2 => exact aI.o); (case side3 => exact zae (Kd.qar VI.o HB.o)); (case side4 => exact mJ.o); (case side5 => exact zae (Kd.qar dJ.o HB.o)); (case side6 => exact cJ.o); rintro e w8 ⟨rfl, hb⟩; refine ⟨_, rfl, ?_⟩; replace HB := z_ (qaa zar hb); (try clear hb)))
       go_ret
       exact ⟨zaM, zar⟩
      ·rw [if_neg c7] at H;have QA : decide (kJ < 0) = false := decide_eq_false c7;clear c7;have H' := z_ H;clear H;have vL : 0 ≤ (o0 : Int) := zod_;have WL : o0 < (l0.length : Int) := zod_;obtain ⟨Qg, yL, sM, BL, DL, VL, XM, e109, IC, aD, TC, LD, yD, WD, YC, pD, XC, BD⟩ := qls Z1.o o0 vL WL
       cases e109
       replace IC := zmove_ HB rfl IC;replace aD := zmove_ HB rfl aD;replace TC := zmove_ HB rfl TC;replace LD := zmove_ HB rfl LD;have WH := z_ WD;have aI := z_ yD;clear WD yD;have VI := z_ pD;have mJ := z_ YC;clear pD YC;have dJ := z_ BD;have cJ := z_ XC;clear BD XC;replace vL := eq_true vL;replace WL := eq_true WL
       go_wp2_with (first | ((with_reducible refine qax (f := 36) rfl ?_); refine qbq (some 23) rfl rfl Tryz.func36 zdG rfl #[.agg #[.bool ((qbM l0 o0).f0), .slice yL ((qbM l0 o0).f1).length sM, .slice BL ((qbM l0 o0).f2).length DL, .slice VL ((qbM l0 o0).f3).length XM], .int .i64 L0] rfl zaq ?_; (with_reducible refine (qcc.calls k1 ((qbM l0 o0).f0) _ _ ((qbM l0 o0).f1) _ _ ((qbM l0 o0).f2) _ _ ((qbM l0 o0).f3) L0 kJ _ ?side1 ?side2 ?side3 ?side4 ?side5 ?side6 A6.o).mono ?_); (case side1 => exact zae (Kd.qar WH.o HB.o)); (case side2 => exact aI.o); (case side3 => exact zae (Kd.qar VI.o HB.o)); (case side4 => exact mJ.o); (case side5 => exact zae (Kd.qar dJ.o HB.o)); (case side6 => exact cJ.o); rintro e w9 ⟨rfl, hb⟩; refine ⟨_, rfl, ?_⟩; replace HB := z_ (qaa zar hb); (try clear hb)))
       go_roundg k1
       case measure => have := I5.o; omega
       case rel => exact ⟨(kJ), (wrap64 (o0 + 1)), zcc, zcc, H', ⟨zcY⟩, ⟨zar⟩⟩
     ·rw [if_neg c5] at H;exact absurd H zdN
    ·rw [if_neg c4] at H;have G4 : decide (o0 < (l0.length : Int)) = false := decide_eq_false c4;clear c4;obtain rfl := Option.some.inj H
     go_wp2
     go_ret
     exact ⟨zaM, zar⟩
theorem qiJ (B : Int) (hB : B ≤ 1048576) (rest : List S70) : ∀ (pre : List S70) (left : Int), (pre ++ rest).length ≤ 9223372036854775807 → (∀ y ∈ rest, wl70 y) → 0 ≤ left → left ≤ B →
  ∃ r, Ev (fun k => qa9.l0 k (pre ++ rest) left ((pre.length : Nat) : Int)) r ∧ (0 ≤ r → r ≤ left ∧ ∀ y ∈ rest, sm70 B y) := by
 induction rest with
 | nil =>
  intro pre left hl hw h0 h1;refine ⟨left, Ev.succ ?_, fun _ => ⟨Int.le_refl _, fun y hy => by cases hy⟩⟩;simp only [qa9.l0];exact Ev.neg zdN (Ev.is rfl)
 | cons x rest ih =>
  intro pre left hl hw h0 h1;have hx : qbM (pre ++ x :: rest) ((pre.length : Nat) : Int) = x := by simp [qbM, List.getD_eq_getElem?_getD]
  have hlt : ((pre.length : Nat) : Int) < ((pre ++ x :: rest).length : Int) := zdF;have hwp : wrap64 (((pre.length : Nat) : Int) + 1) = (((pre ++ [x]).length : Nat) : Int) := zck;have e1 : pre ++ x :: rest = (pre ++ [x]) ++ rest := zdN;have hl2 : ((pre ++ [x]) ++ rest).length ≤ 9223372036854775807 := zdo
  obtain ⟨r, hr, hq⟩ := sz_Node x (hw x List.mem_cons_self) B left h0 h1 hB
  by_cases c : r < 0
  ·refine ⟨-1, Ev.succ ?_, fun h => zdM⟩;simp only [qa9.l0, hx];exact Ev.pos hlt (Ev.pos zdM (Ev.bind hr (Ev.pos c (Ev.is rfl))))
  ·have hq' := hq zdM;obtain ⟨r2, hr2, hq2⟩ := ih (pre ++ [x]) r hl2 (fun y hy => hw y (List.mem_cons_of_mem _ hy)) zdM zdM;refine ⟨r2, Ev.succ ?_, fun h => ?_⟩
   ·simp only [qa9.l0, hx, hwp];rw [← e1] at hr2;exact Ev.pos hlt (Ev.pos zdM (Ev.bind hr (Ev.neg c hr2)))
   ·have h3 := hq2 h;refine ⟨zdM, fun y hy => ?_⟩
    rcases List.mem_cons.1 hy with rfl | hy
    ·exact hq'.2
    ·exact h3.2 y hy
theorem sz_NodeS (l : List S70) (hw : (l.length ≤ maxLen ∧ ∀ y ∈ l, wl70 y)) (B left : Int) (h0 : 0 ≤ left) (h1 : left ≤ B) (hB : B ≤ 1048576) : ∃ r, Ev (fun k => qa9.f k l left) r ∧ (0 ≤ r → r ≤ left ∧ ((l.length : Int) ≤ B ∧ ∀ y ∈ l, sm70 B y)) := by
 have hl := Nat.le_trans hw.1 qd9;unfold qa9.f;have e : wrap64 (left - (l.length : Int)) = left - (l.length : Int) := qc0 zdM zdM;simp only [e]
 by_cases c : left - (l.length : Int) < 0
 ·exact ⟨-1, Ev.pos c (Ev.is rfl), fun h => zdM⟩
 ·obtain ⟨r, hr, hq⟩ := qiJ B hB l [] (left - (l.length : Int)) zdv hw.2 zdM zdM;exact ⟨r, Ev.neg c (by simpa using hr), fun h => ⟨zcX, zdM, (hq h).2⟩⟩
def qdo.f (k : Nat) (u0 : List (S70)) (a1 : Int) : Option (Int) := (qa9.f k u0 a1).bind fun zG => (if zG < 0 then (some (-1)) else (some zG))
theorem qdo.calls (k : Nat) (I0 : Option Addr) (H0 : Nat) (u0 : List (S70)) (a1 : Int) (r : Int) (w : World) (Z0 : Kd.C k70 w I0 u0.length u0) (Q1 : u0.length ≤ H0) (h : qdo.f k u0 a1 = some r) :
  Calls Tryz.prog 5 #[.agg #[.slice I0 u0.length H0], .int .i64 a1] w fun e w' => e = .returned (.int .i64 r) ∧ Below w.heap.size w w' := by
 have qm := Tryz.underlying24;have U7 := z_ Z0;have L8 := z_ Q1;clear Z0 Q1;have HB := z_ (Below.refl w.heap.size w);have H : ((qa9.f k u0 a1).bind fun zG => (if zG < 0 then (some (-1)) else (some zG))) = some r := h;clear h;replace H := Option.bind_eq_some_iff.mp H;obtain ⟨zG, GE, H⟩ := H;try dsimp only at H
 have A3 := z_ GE;clear GE
 by_cases c4 : zG < 0
 ·rw [if_pos c4] at H;have G4 : decide (zG < 0) = true := decide_eq_true c4;clear c4;obtain rfl := Option.some.inj H
  go_enter Tryz.func5, Tryz.ntmps5
  go_wp2_with (first | ((with_reducible refine qaw (N := 2) rfl ?_); refine qaH zdO (N := 2) zdO (cs := #[.slice I0 u0.length H0]) (t := 24) zcm ?_; intro NC hg w5 hbox hb; have oC := z_ (hbox); have gg := z_ ((zao : w.heap.size ≤ NC)); have fK := z_ ((zao : w.heap.size ≤ NC)); replace HB := z_ (qaa zar hb); clear hb hbox hg; have NT : w5.cell? ⟨NC, 0, none⟩ = some (.slice I0 u0.length H0) := (qac oC.o 0).trans rfl; have QS := qau oC.o 0) | ((with_reducible refine qax (f := 17) rfl ?_); refine qbq (some 8) rfl rfl Tryz.func17 zdG rfl #[.slice I0 u0.length H0, .int .i64 a1] rfl zaq ?_; (with_reducible refine (qa9.calls k _ _ u0 a1 zG _ ?side1 ?side2 A3.o).mono ?_); (case side1 => exact zae (Kd.qar U7.o HB.o)); (case side2 => exact L8.o); rintro e w7 ⟨rfl, hb⟩; refine ⟨_, rfl, ?_⟩; replace oC := z_ (qab (g := NC) (o := .cells #[.slice I0 u0.length H0] 24 (0, 0)) (zac oC.o) hb); replace HB := z_ (qaa (zab fK.o) hb); (try clear hb)))
  go_ret
  exact ⟨zaM, zab fK.o⟩
 ·rw [if_neg c4] at H;have G4 : decide (zG < 0) = false := decide_eq_false c4;clear c4;obtain rfl := Option.some.inj H
  go_enter Tryz.func5, Tryz.ntmps5
  go_wp2_with (first | ((with_reducible refine qaw (N := 2) rfl ?_); refine qaH zdO (N := 2) zdO (cs := #[.slice I0 u0.length H0]) (t := 24) zcm ?_; intro NC hg w8 hbox hb; have oC := z_ (hbox); have gg := z_ ((zao : w.heap.size ≤ NC)); have fK := z_ ((zao : w.heap.size ≤ NC)); replace HB := z_ (qaa zar hb); clear hb hbox hg; have SH : w8.cell? ⟨NC, 0, none⟩ = some (.slice I0 u0.length H0) := (qac oC.o 0).trans rfl; have iJ := qau oC.o 0) | ((with_reducible refine qax (f := 17) rfl ?_); refine qbq (some 8) rfl rfl Tryz.func17 zdG rfl #[.slice I0 u0.length H0, .int .i64 a1] rfl zaq ?_; (with_reducible refine (qa9.calls k _ _ u0 a1 zG _ ?side1 ?side2 A3.o).mono ?_); (case side1 => exact zae (Kd.qar U7.o HB.o)); (case side2 => exact L8.o); rintro e U8 ⟨rfl, hb⟩; refine ⟨_, rfl, ?_⟩; replace oC := z_ (qab (g := NC) (o := .cells #[.slice I0 u0.length H0] 24 (0, 0)) (zac oC.o) hb); replace HB := z_ (qaa (zab fK.o) hb); (try clear hb)))
  go_ret
  exact ⟨zaM, zab fK.o⟩
theorem sz_Heap (x : S24) (hw : wl24 x) (B left : Int) (h0 : 0 ≤ left) (h1 : left ≤ B) (hB : B ≤ 1048576) : ∃ r, Ev (fun k => qdo.f k (x.f0) left) r ∧ (0 ≤ r → r ≤ left ∧ sm24 B x) := by
 unfold qdo.f;obtain ⟨r0, hr0, hq0⟩ := sz_NodeS x.f0 hw B left zdM zdM hB
 by_cases c0 : r0 < 0
 ·exact ⟨-1, Ev.bind hr0 (Ev.pos c0 (Ev.is rfl)), fun h => zdM⟩
 have Cg := hq0 zdM
 suffices hh : ∃ r, Ev _ r ∧ (0 ≤ r → r ≤ left ∧ sm24 B x) from (let ⟨r, hr, hq⟩ := hh; ⟨r, Ev.bind hr0 (Ev.neg c0 hr), hq⟩)
 have hz0 := Cg.1;exact ⟨r0, Ev.is rfl, fun _ => ⟨zdM, Cg.2⟩⟩
def qcR.f (k : Nat) (u0 : List (S80)) (a1 : Int) : Option (Int) := (qaS.f k u0 a1).bind fun jG => (if jG < 0 then (some (-1)) else (some jG))
theorem qcR.calls (k : Nat) (I0 : Option Addr) (H0 : Nat) (u0 : List (S80)) (a1 : Int) (r : Int) (w : World) (Z0 : Kd.C k80 w I0 u0.length u0) (Q1 : u0.length ≤ H0) (h : qcR.f k u0 a1 = some r) :
  Calls Tryz.prog 14 #[.agg #[.slice I0 u0.length H0], .int .i64 a1] w fun e w' => e = .returned (.int .i64 r) ∧ Below w.heap.size w w' := by
 have qW := Tryz.underlying29;have U7 := z_ Z0;have L8 := z_ Q1;clear Z0 Q1;have HB := z_ (Below.refl w.heap.size w);have H : ((qaS.f k u0 a1).bind fun jG => (if jG < 0 then (some (-1)) else (some jG))) = some r := h;clear h;replace H := Option.bind_eq_some_iff.mp H;obtain ⟨jG, GE, H⟩ := H;try dsimp only at H
 have A3 := z_ GE;clear GE
 by_cases c4 : jG < 0
 ·rw [if_pos c4] at H;have G4 : decide (jG < 0) = true := decide_eq_true c4;clear c4;obtain rfl := Option.some.inj H
  go_enter Tryz.func14, Tryz.ntmps14
  go_wp2_with (first | ((with_reducible refine qaw (N := 2) rfl ?_); refine qaH zdO (N := 2) zdO (cs := #[.slice I0 u0.length H0]) (t := 29) zcm ?_; intro VC hg w5 hbox hb; have mD := z_ (hbox); have Xe := z_ ((zao : w.heap.size ≤ VC)); have mK := z_ ((zao : w.heap.size ≤ VC)); replace HB := z_ (qaa zar hb); clear hb hbox hg; have NT : w5.cell? ⟨VC, 0, none⟩ = some (.slice I0 u0.length H0) := (qac mD.o 0).trans rfl; have QS := qau mD.o 0) | ((with_reducible refine qax (f := 29) rfl ?_); refine qbq (some 8) rfl rfl Tryz.func29 zdG rfl #[.slice I0 u0.length H0, .int .i64 a1] rfl zaq ?_; (with_reducible refine (qaS.calls k _ _ u0 a1 jG _ ?side1 ?side2 A3.o).mono ?_); (case side1 => exact zae (Kd.qar U7.o HB.o)); (case side2 => exact L8.o); rintro e w7 ⟨rfl, hb⟩; refine ⟨_, rfl, ?_⟩; replace mD := z_ (qab (g := VC) (o := .cells #[.slice I0 u0.length H0] 29 (0, 0)) (zac mD.o) hb); replace HB := z_ (qaa (zab mK.o) hb); (try clear hb)))
  go_ret
  exact ⟨zaM, zab mK.o⟩
 ·rw [if_neg c4] at H;have G4 : decide (jG < 0) = false := decide_eq_false c4;clear c4;obtain rfl := Option.some.inj H
  go_enter Tryz.func14, Tryz.ntmps14
  go_wp2_with (first | ((with_reducible refine qaw (N := 2) rfl ?_); refine qaH zdO (N := 2) zdO (cs := #[.slice I0 u0.length H0]) (t := 29) zcm ?_; intro VC hg w8 hbox hb; have mD := z_ (hbox); have Xe := z_ ((zao : w.heap.size ≤ VC)); have mK := z_ ((zao : w.heap.size ≤ VC)); replace HB := z_ (qaa zar hb); clear hb hbox hg; have SH : w8.cell? ⟨VC, 0, none⟩ = some (.slice I0 u0.length H0) := (qac mD.o 0).trans rfl; have iJ := qau mD.o 0) | ((with_reducible refine qax (f := 29) rfl ?_); refine qbq (some 8) rfl rfl Tryz.func29 zdG rfl #[.slice I0 u0.length H0, .int .i64 a1] rfl zaq ?_; (with_reducible refine (qaS.calls k _ _ u0 a1 jG _ ?side1 ?side2 A3.o).mono ?_); (case side1 => exact zae (Kd.qar U7.o HB.o)); (case side2 => exact L8.o); rintro e U8 ⟨rfl, hb⟩; refine ⟨_, rfl, ?_⟩; replace mD := z_ (qab (g := VC) (o := .cells #[.slice I0 u0.length H0] 29 (0, 0)) (zac mD.o) hb); replace HB := z_ (qaa (zab mK.o) hb); (try clear hb)))
  go_ret
  exact ⟨zaM, zab mK.o⟩
theorem dropR_at {x R : List S80} {root r1 code : Int} {rs : List Int} {key : ByteArray} (hd : dropR x root rs key = (R, r1, code)) (ht : TinyN x) (hl : x.length ≤ 1048576) : TinyN R ∧ R.length ≤ 1048576 := by
 unfold dropR at hd
 split at hd
 ·rename_i h0
  split at hd
  ·split at hd
   ·cases hd
    refine ⟨qjs ht, ?_⟩;rename_i hr;unfold qbr at hr ⊢
    split
    ·exact hl
    ·rw [qcU]; omega
   ·cases hd; exact ⟨ht, hl⟩
  ·cases hd; exact ⟨ht, hl⟩
 ·cases hd; exact ⟨(fun y hy => by cases hy), zdN⟩
theorem qmd {l : List S70} (hs : sm24 1048576 ⟨l⟩) : TinyN (l.map cv70) ∧ (l.map cv70).length ≤ 1048576 := by
 refine ⟨fun x hx => ?_, by rw [List.length_map]; have := hs.1; simp only at this; omega⟩;obtain ⟨y, hy, rfl⟩ := List.mem_map.1 hx;have h := hs.2 y hy;have h1 := h.2.1.1;have h2 := h.2.2.1.1;have h3 := h.2.2.2;simp only [cv70, List.length_map];omega
theorem qme {R : List S80} (ht : TinyN R) (hl : R.length ≤ 1048576) : (qcf R : Int) ≤ 5000000000000 ∧ len29 ⟨R⟩ := by
 have h := qjA (c := 4194305) R fun x hx => by
  have h := ht x hx;unfold costN;omega
 have h2 : R.length * 4194305 ≤ 1048576 * 4194305 := Nat.mul_le_mul_right _ hl;refine ⟨zdM, zdu, fun x hx => ?_⟩;have h := ht x hx;exact ⟨trivial, ⟨zdM, fun _ _ => ⟨trivial, trivial⟩⟩, zdM, zdM⟩
theorem sdropR {key : ByteArray} {w : World} {A : Option Addr} {c : Nat} {hs R : List S80} {root r1 code : Int} {Ak : Option Addr} {ck : Nat} {ks : List Int} (hd : dropR hs root ks key = (R, r1, code)) (ht : TinyN hs) (hC : Kd.C k80 w A hs.length hs) (hc : hs.length ≤ c) (hK : Kd.C (Kd.int .i64) w Ak ks.length ks) (hkc : ks.length ≤ ck) :
  Calls Tryz.prog 15 #[.agg #[.slice A hs.length c], .int .i64 root, .slice Ak ks.length ck, .string key] w fun e w' => ∃ v, e = .returned (.tuple #[.agg #[v], .int .i64 r1, .int .i64 code]) ∧ Kd.S k80 80 w' w.heap.size (fun _ => True) v R ∧ Below w.heap.size w w' := by
 have h := sdrop key w A c hs hC hc ht root Ak ck ks hK hkc;rw [hd] at h;exact h
theorem cdropR {key : ByteArray} {w : World} {A : Option Addr} {c : Nat} {hs R : List S80} {root r1 code : Int} {Ak : Option Addr} {ck : Nat} {ks : List Int} (hd : dropR hs root ks key = (R, r1, code)) (ht : TinyN hs) (hC : Kd.C k80 w A hs.length hs) (hc : hs.length ≤ c) (hK : Kd.C (Kd.int .i64) w Ak ks.length ks) (hkc : ks.length ≤ ck) :
  Calls Tryz.prog 16 #[.agg #[.slice A hs.length c], .int .i64 root, .slice Ak ks.length ck, .string key] w fun e w' => ∃ v, e = .returned (.tuple #[.agg #[v], .int .i64 r1, .int .i64 code]) ∧ Kd.S k80 80 w' w.heap.size (fun _ => True) v R ∧ Below w.heap.size w w' := by
 have h := cdrop key w A c hs hC hc ht root Ak ck ks hK hkc;rw [hd] at h;exact h
theorem qiK (A0 : Option Addr) (c0 : Nat) (l : List S70) (root : Int) (A2 : Option Addr) (c2 : Nat) (rs : List Int) (key : ByteArray) (w : World) (hr0 : Kd.C k70 w A0 l.length l) (hc0 : l.length ≤ c0) (hr2 : Kd.C (Kd.int .i64) w A2 rs.length rs) (hc2 : rs.length ≤ c2) (hll : 1048576 < (rs.length : Int)) :
  Calls Tryz.prog 4 #[.agg #[.slice A0 l.length c0], .int .i64 root, .slice A2 rs.length c2, .string key] w fun e w' => e = .returned (.bool true) ∧ Below w.heap.size w w' := by
 have t0 : decide (1048576 < (rs.length : Int)) = true := decide_eq_true hll;have hu := Tryz.underlying29;have hu2 := Tryz.underlying24;have Z1 := z_ hr0;have HR2 := z_ hr2;have HBi := z_ (Below.refl w.heap.size w);clear hr0 hr2;have HB1 := z_ (qaA HBi.o (.cells #[.slice A0 l.length c0] 24 (0, 0)));have Tc := z_ (qbz w (.cells #[.slice A0 l.length c0] 24 (0, 0)));have RQ := z_ (show (w.alloc (.cells #[.slice A0 l.length c0] 24 (0, 0))).heap.size = (w).heap.size + 1 from zbp);clear HBi
 go_enter Tryz.func4, Tryz.ntmps4
 go_wp2_with fail
 go_ret
 exact ⟨rfl, HB1.o⟩
theorem qhL (A0 : Option Addr) (c0 : Nat) (l : List S70) (root : Int) (A2 : Option Addr) (c2 : Nat) (rs : List Int) (key : ByteArray) (w : World) (hr0 : Kd.C k70 w A0 l.length l) (hc0 : l.length ≤ c0) (hr2 : Kd.C (Kd.int .i64) w A2 rs.length rs) (hc2 : rs.length ≤ c2) (hll : ¬ 1048576 < (rs.length : Int)) (hlk : 1048576 < (key.size : Int)) :
  Calls Tryz.prog 4 #[.agg #[.slice A0 l.length c0], .int .i64 root, .slice A2 rs.length c2, .string key] w fun e w' => e = .returned (.bool true) ∧ Below w.heap.size w w' := by
 have t0 : decide (1048576 < (rs.length : Int)) = false := decide_eq_false hll;have t0b : decide (1048576 < (key.size : Int)) = true := decide_eq_true hlk;have hu := Tryz.underlying29;have hu2 := Tryz.underlying24;have Z1 := z_ hr0;have HR2 := z_ hr2;have HBi := z_ (Below.refl w.heap.size w);clear hr0 hr2;have HB1 := z_ (qaA HBi.o (.cells #[.slice A0 l.length c0] 24 (0, 0)));have Tc := z_ (qbz w (.cells #[.slice A0 l.length c0] 24 (0, 0)));have RQ := z_ (show (w.alloc (.cells #[.slice A0 l.length c0] 24 (0, 0))).heap.size = (w).heap.size + 1 from zbp);clear HBi
 go_enter Tryz.func4, Tryz.ntmps4
 go_wp2_with fail
 go_ret
 exact ⟨rfl, HB1.o⟩
theorem qhM (kz : Nat) (z : Int) (A0 : Option Addr) (c0 : Nat) (l : List S70) (root : Int) (A2 : Option Addr) (c2 : Nat) (rs : List Int) (key : ByteArray) (w : World) (hr0 : Kd.C k70 w A0 l.length l) (hc0 : l.length ≤ c0) (hr2 : Kd.C (Kd.int .i64) w A2 rs.length rs) (hc2 : rs.length ≤ c2) (hz : qdo.f kz l 1048576 = some z) (hll : ¬ 1048576 < (rs.length : Int)) (hlk : ¬ 1048576 < (key.size : Int)) (hzn : z < 0) :
  Calls Tryz.prog 4 #[.agg #[.slice A0 l.length c0], .int .i64 root, .slice A2 rs.length c2, .string key] w fun e w' => e = .returned (.bool true) ∧ Below w.heap.size w w' := by
 have t0 : decide (1048576 < (rs.length : Int)) = false := decide_eq_false hll;have t0b : decide (1048576 < (key.size : Int)) = false := decide_eq_false hlk;have t1 : decide (z < 0) = true := decide_eq_true hzn;have hu := Tryz.underlying29;have hu2 := Tryz.underlying24;have Z1 := z_ hr0;have HR2 := z_ hr2;have Ahz := z_ hz;have HBi := z_ (Below.refl w.heap.size w);clear hr0 hr2 hz;have HB1 := z_ (qaA HBi.o (.cells #[.slice A0 l.length c0] 24 (0, 0)));have Tc := z_ (qbz w (.cells #[.slice A0 l.length c0] 24 (0, 0)));have RQ := z_ (show (w.alloc (.cells #[.slice A0 l.length c0] 24 (0, 0))).heap.size = (w).heap.size + 1 from zbp);clear HBi
 go_enter Tryz.func4, Tryz.ntmps4
 go_wp2_with fail
 refine (qdo.calls (Z0 := Kd.qar Z1.o HB1.o) (Q1 := hc0) (h := Ahz.o)).mono ?_;rintro e w2 ⟨rfl, hb2⟩;have hb2 := (show Below ((w.alloc (.cells #[.slice A0 l.length c0] 24 (0, 0)))).heap.size ((w.alloc (.cells #[.slice A0 l.length c0] 24 (0, 0)))) w2 from by first | exact hb2 | exact hb2.below);have HB2 := z_ (qaa HB1.o hb2);have Ze := z_ (qab Tc.o hb2);have EV := z_ (show ((w.alloc (.cells #[.slice A0 l.length c0] 24 (0, 0)))).heap.size ≤ w2.heap.size from hb2.size);clear hb2 HB1 Tc;have IF := qac Ze.o 0;simp only [List.getElem?_toArray, List.getElem?_cons_zero, List.getElem?_cons_succ] at IF
 go_wp2_with fail
 clear IF
 go_ret
 exact ⟨rfl, HB2.o⟩
theorem qiL (kz kt kti keR keY keX kmY kh : Nat) (z : Int) (A0 : Option Addr) (c0 : Nat) (l : List S70) (root : Int) (A2 : Option Addr) (c2 : Nat) (rs : List Int) (key : ByteArray) (x R : List S80) (r1 code mY : Int) (yY : List Int) (w : World) (hr0 : Kd.C k70 w A0 l.length l) (hc0 : l.length ≤ c0) (hr2 : Kd.C (Kd.int .i64) w A2 rs.length rs) (hc2 : rs.length ≤ c2) (hz : qdo.f kz l 1048576 = some z) (hll : ¬ 1048576 < (rs.length : Int)) (hlk : ¬ 1048576 < (key.size : Int)) (hzn : ¬ z < 0)
  (ht : qcQ.f kt l = some x) (hti : qaR.f kti rs = some rs) (hd : dropR x root rs key = (R, r1, code)) (htn : TinyN x) (heR : qcv.f keR R R = some true) (heY : qa0.f keY rs rs = some true) (heX : qcv.f keX x x = some true) (hmY : qa6.f kmY rs (1 + (qcf x : Int)) = some (mY, yY)) (hh : qcR.f kh (qcu R 1) 1 = some (1 + (qcf R : Int))) (hcost : 1 + (qcf x : Int) ≤ 4611686018427387904) (hmYn : ¬ mY < 0) (hRc : 1 + (qcf R : Int) ≤ 4611686018427387904) :
  Calls Tryz.prog 4 #[.agg #[.slice A0 l.length c0], .int .i64 root, .slice A2 rs.length c2, .string key] w fun e w' => e = .returned (.bool true) ∧ Below w.heap.size w w' := by
 have t0 : decide (1048576 < (rs.length : Int)) = false := decide_eq_false hll;have t0b : decide (1048576 < (key.size : Int)) = false := decide_eq_false hlk;have t1 : decide (z < 0) = false := decide_eq_false hzn;have t2 : decide (mY < 0) = false := decide_eq_false hmYn;have t5 : (code != code) = false := bne_self_eq_false _;have t7 : (r1 != r1) = false := bne_self_eq_false _;have HRC := z_ hRc;obtain ⟨m, hm⟩ : ∃ m : Int, m = 1 + (qcf R : Int) := ⟨_, rfl⟩
 rw [← hm] at hh;have HM := z_ hm;have t4 : decide (m < 0) = false := decide_eq_false zdM;have t6 : (m != m) = false := bne_self_eq_false _;have HCO := z_ hcost;clear hm hRc hcost hll hlk hzn hmYn;have hu := Tryz.underlying29;have hu2 := Tryz.underlying24;have Z1 := z_ hr0;have HR2 := z_ hr2;have Ahz := z_ hz;have Aht := z_ ht;have Ahti := z_ hti;have Ahd := z_ hd;have Ahtn := z_ htn;have AheR := z_ heR;have AheY := z_ heY;have AheX := z_ heX;have AhmY := z_ hmY;have Ahh := z_ hh;have HBi := z_ (Below.refl w.heap.size w);clear hr0 hr2 hz ht hti hd htn heR heY heX hmY hh;have HB1 := z_ (qaA HBi.o (.cells #[.slice A0 l.length c0] 24 (0, 0)));have Tc := z_ (qbz w (.cells #[.slice A0 l.length c0] 24 (0, 0)));have RQ := z_ (show (w.alloc (.cells #[.slice A0 l.length c0] 24 (0, 0))).heap.size = (w).heap.size + 1 from zbp);clear HBi
 go_enter Tryz.func4, Tryz.ntmps4
 go_wp2_with fail
 refine (qdo.calls (Z0 := Kd.qar Z1.o HB1.o) (Q1 := hc0) (h := Ahz.o)).mono ?_;rintro e w2 ⟨rfl, hb2⟩;have hb2 := (show Below ((w.alloc (.cells #[.slice A0 l.length c0] 24 (0, 0)))).heap.size ((w.alloc (.cells #[.slice A0 l.length c0] 24 (0, 0)))) w2 from by first | exact hb2 | exact hb2.below);have HB2 := z_ (qaa HB1.o hb2);have Ze := z_ (qab Tc.o hb2);have EV := z_ (show ((w.alloc (.cells #[.slice A0 l.length c0] 24 (0, 0)))).heap.size ≤ w2.heap.size from hb2.size);clear hb2 HB1 Tc;have IF := qac Ze.o 0;simp only [List.getElem?_toArray, List.getElem?_cons_zero, List.getElem?_cons_succ] at IF
 go_wp2_with fail
 clear IF;refine (qcQ.calls (Z0 := Kd.qar Z1.o HB2.o) (Q1 := hc0) (h := Aht.o)).mono ?_;rintro e w3 ⟨v3_0, rfl, fS, hb3⟩;have hb3 := (show Below (w2).heap.size (w2) w3 from by first | exact hb3 | exact hb3.below);obtain ⟨A3X0, c3X0, rfl, _, _⟩ := Kd.qfp fS;have OR := z_ (Kd.qcJ (Kd.qbZ (Kd.qcr fS) (fun k hk => (show (w2).heap.size ≤ k ∧ k < w3.heap.size from ⟨hk.2.1, hk.2.2.1⟩))) HB2.o.size);have HB3 := z_ (qaa HB2.o hb3);have Vo := z_ (qab Ze.o hb3);have qb := z_ (show (w2).heap.size ≤ w3.heap.size from hb3.size);clear hb3 fS HB2 Ze;have KR := qac Vo.o 0;simp only [List.getElem?_toArray, List.getElem?_cons_zero, List.getElem?_cons_succ] at KR
 go_wp2_with fail
 clear KR;refine (qaR.calls (hr0 := Kd.qar HR2.o HB3.o) (hc0 := hc2) (h := Ahti.o)).mono ?_;rintro e w4 ⟨v4_0, rfl, yT, hb4⟩;have hb4 := (show Below (w3).heap.size (w3) w4 from by first | exact hb4 | exact hb4.below);obtain ⟨A4R0, c4R0, rfl, _, _⟩ := Kd.qa4 yT;have qI := z_ (Kd.qa3 (Kd.qaU (Kd.qb5 yT) (fun k hk => (show (w3).heap.size ≤ k ∧ k < w4.heap.size from ⟨hk.2.1, hk.2.2.1⟩))) HB3.o.size);have cB := z_ (qaa HB3.o hb4);have dX := z_ (Kd.qaO OR.o hb4);have ln := z_ (qab Vo.o hb4);have bZ := z_ (show (w3).heap.size ≤ w4.heap.size from hb4.size);clear hb4 yT HB3 OR Vo;have cS := qac ln.o 0;simp only [List.getElem?_toArray, List.getElem?_cons_zero, List.getElem?_cons_succ] at cS
 go_wp2_with fail
 clear cS;refine (sdropR Ahd.o Ahtn.o ((Kd.qbn dX.o).2.2) ((Kd.qbn dX.o).2.1) ((Kd.qbb qI.o).2.2) ((Kd.qbb qI.o).2.1)).mono ?_;rintro e w5 ⟨v5_0, rfl, XT, hb5⟩;have hb5 := (show Below (w4).heap.size (w4) w5 from by first | exact hb5 | exact hb5.below);obtain ⟨vU, sU, rfl, _, _⟩ := Kd.qfp XT;have lT := z_ (Kd.qcJ (Kd.qbZ (Kd.qcr XT) (fun k hk => (show (w4).heap.size ≤ k ∧ k < w5.heap.size from ⟨hk.2.1, hk.2.2.1⟩))) cB.o.size);have L3 := z_ (qaa cB.o hb5);have HX05 := z_ (Kd.qaO dX.o hb5);have HR05 := z_ (Kd.qa7 qI.o hb5);have KA5 := z_ (qab ln.o hb5);have LZ := z_ (show (w4).heap.size ≤ w5.heap.size from hb5.size);clear hb5 XT cB dX qI ln;have MA := z_ (qaA L3.o (.cells #[.slice vU R.length sU] 29 (0, 0)));have kU := z_ (Kd.qcK lT.o (.cells #[.slice vU R.length sU] 29 (0, 0)));have Am := z_ (qam KA5.o (.cells #[.slice vU R.length sU] 29 (0, 0)));have Zm := z_ (qbz w5 (.cells #[.slice vU R.length sU] 29 (0, 0)));have Pc := z_ (show (w5.alloc (.cells #[.slice vU R.length sU] 29 (0, 0))).heap.size = (w5).heap.size + 1 from by show ((w5).heap.push _).size = _; rw [Array.size_push]);clear L3 lT KA5;have TS := qac Am.o 0;have bU := qac Zm.o 0;simp only [List.getElem?_toArray, List.getElem?_cons_zero, List.getElem?_cons_succ] at TS bU
 go_wp2_with fail
 clear TS bU;refine (qcQ.calls (Z0 := Kd.qar Z1.o MA.o) (Q1 := hc0) (h := Aht.o)).mono ?_;rintro e w7 ⟨v7_0, rfl, eS, IB⟩;have IB := (show Below ((w5.alloc (.cells #[.slice vU R.length sU] 29 (0, 0)))).heap.size ((w5.alloc (.cells #[.slice vU R.length sU] 29 (0, 0)))) w7 from by first | exact IB | exact IB.below);obtain ⟨bO, EP, rfl, _, _⟩ := Kd.qfp eS;have lS := z_ (Kd.qcJ (Kd.qbZ (Kd.qcr eS) (fun k hk => (show ((w5.alloc (.cells #[.slice vU R.length sU] 29 (0, 0)))).heap.size ≤ k ∧ k < w7.heap.size from ⟨hk.2.1, hk.2.2.1⟩))) MA.o.size);have CQ := z_ (qaa MA.o IB);have HW7 := z_ (Kd.qaO kU.o IB);have KA7 := z_ (qab Am.o IB);have KD7 := z_ (qab Zm.o IB);have Gc := z_ (show ((w5.alloc (.cells #[.slice vU R.length sU] 29 (0, 0)))).heap.size ≤ w7.heap.size from IB.size);clear IB eS MA kU Am Zm;have rL := z_ (qaA CQ.o (.cells #[.slice bO x.length EP] 29 (0, 0)));have HW8 := z_ (Kd.qcK HW7.o (.cells #[.slice bO x.length EP] 29 (0, 0)));have Bd := z_ (Kd.qcK lS.o (.cells #[.slice bO x.length EP] 29 (0, 0)));have Fl := z_ (qam KA7.o (.cells #[.slice bO x.length EP] 29 (0, 0)));have An := z_ (qam KD7.o (.cells #[.slice bO x.length EP] 29 (0, 0)));have mn := z_ (qbz w7 (.cells #[.slice bO x.length EP] 29 (0, 0)));have Xb := z_ (show (w7.alloc (.cells #[.slice bO x.length EP] 29 (0, 0))).heap.size = (w7).heap.size + 1 from by show ((w7).heap.push _).size = _; rw [Array.size_push]);clear CQ HW7 lS KA7 KD7;have fT := qac Fl.o 0;have PT := qac An.o 0;have nT := qac mn.o 0;simp only [List.getElem?_toArray, List.getElem?_cons_zero, List.getElem?_cons_succ] at fT PT nT
 go_wp2_with fail
 clear fT PT nT;refine (qaR.calls (hr0 := Kd.qar HR2.o rL.o) (hc0 := hc2) (h := Ahti.o)).mono ?_;rintro e w9 ⟨v9_0, rfl, jT, NG⟩;have NG := (show Below ((w7.alloc (.cells #[.slice bO x.length EP] 29 (0, 0)))).heap.size ((w7.alloc (.cells #[.slice bO x.length EP] 29 (0, 0)))) w9 from by first | exact NG | exact NG.below);obtain ⟨A9Y, c9Y, rfl, _, _⟩ := Kd.qa4 jT;have SI := z_ (Kd.qa3 (Kd.qaU (Kd.qb5 jT) (fun k hk => (show ((w7.alloc (.cells #[.slice bO x.length EP] 29 (0, 0)))).heap.size ≤ k ∧ k < w9.heap.size from ⟨hk.2.1, hk.2.2.1⟩))) rL.o.size);have KV := z_ (qaa rL.o NG);have Dd := z_ (Kd.qaO HW8.o NG);have al := z_ (Kd.qaO Bd.o NG);have yo := z_ (qab Fl.o NG);have cm := z_ (qab An.o NG);have mo := z_ (qab mn.o NG);have Ca := z_ (show ((w7.alloc (.cells #[.slice bO x.length EP] 29 (0, 0)))).heap.size ≤ w9.heap.size from NG.size);clear NG jT rL HW8 Bd Fl An mn;have KT := qac yo.o 0;have mS := qac cm.o 0;have FR := qac mo.o 0;simp only [List.getElem?_toArray, List.getElem?_cons_zero, List.getElem?_cons_succ] at KT mS FR
 go_wp2_with fail
 clear KT mS FR;refine (cdropR Ahd.o Ahtn.o ((Kd.qbn al.o).2.2) ((Kd.qbn al.o).2.1) ((Kd.qbb SI.o).2.2) ((Kd.qbb SI.o).2.1)).mono ?_;rintro e U8 ⟨v10_0, rfl, dL, YE⟩;have YE := (show Below (w9).heap.size (w9) U8 from by first | exact YE | exact YE.below);obtain ⟨nB, oB, rfl, _, _⟩ := Kd.qfp dL;have nO := z_ (Kd.qcJ (Kd.qbZ (Kd.qcr dL) (fun k hk => (show (w9).heap.size ≤ k ∧ k < U8.heap.size from ⟨hk.2.1, hk.2.2.1⟩))) KV.o.size);have Ff := z_ (qaa KV.o YE);have Yf := z_ (Kd.qaO Dd.o YE);have Wd := z_ (Kd.qaO al.o YE);have Fe := z_ (Kd.qa7 SI.o YE);have Oe := z_ (qab yo.o YE);have oh := z_ (qab cm.o YE);have Xh := z_ (qab mo.o YE);have tS := z_ (show (w9).heap.size ≤ U8.heap.size from YE.size);clear YE dL KV Dd al SI yo cm mo;have xg := z_ (qaA Ff.o (.cells #[.slice nB R.length oB] 29 (0, 0)));have KW := z_ (Kd.qcK Yf.o (.cells #[.slice nB R.length oB] 29 (0, 0)));have kT := z_ (Kd.qcK Wd.o (.cells #[.slice nB R.length oB] 29 (0, 0)));have Yh := z_ (Kd.qbm Fe.o (.cells #[.slice nB R.length oB] 29 (0, 0)));have JU := z_ (Kd.qcK nO.o (.cells #[.slice nB R.length oB] 29 (0, 0)));have PZ := z_ (qam Oe.o (.cells #[.slice nB R.length oB] 29 (0, 0)));have VY := z_ (qam oh.o (.cells #[.slice nB R.length oB] 29 (0, 0)));have Eb := z_ (qam Xh.o (.cells #[.slice nB R.length oB] 29 (0, 0)));have Cc := z_ (qbz U8 (.cells #[.slice nB R.length oB] 29 (0, 0)));have aN := z_ (show (U8.alloc (.cells #[.slice nB R.length oB] 29 (0, 0))).heap.size = (U8).heap.size + 1 from by show ((U8).heap.push _).size = _; rw [Array.size_push]);clear Ff Yf Wd Fe nO Oe oh Xh;have cQ := qac PZ.o 0;have SP := qac VY.o 0;have PP := qac Eb.o 0;have CP := qac Cc.o 0;simp only [List.getElem?_toArray, List.getElem?_cons_zero, List.getElem?_cons_succ] at cQ SP PP CP
 go_wp2_with fail
 clear cQ SP PP CP;refine (qcv.calls (Z0 := (Kd.qbn JU.o).2.2) (Q1 := (Kd.qbn JU.o).2.1) (AH := (Kd.qbn KW.o).2.2) (uH := (Kd.qbn KW.o).2.1) (h := AheR.o)).mono ?_;rintro e JB ⟨rfl, jC⟩;have jC := (show Below ((U8.alloc (.cells #[.slice nB R.length oB] 29 (0, 0)))).heap.size ((U8.alloc (.cells #[.slice nB R.length oB] 29 (0, 0)))) JB from by first | exact jC | exact jC.below);have Hm := z_ (qaa xg.o jC);have Jo := z_ (Kd.qaO KW.o jC);have qQ := z_ (Kd.qaO kT.o jC);have Nm := z_ (Kd.qa7 Yh.o jC);have Vm := z_ (Kd.qaO JU.o jC);have Nf := z_ (qab PZ.o jC);have Fm := z_ (qab VY.o jC);have mf := z_ (qab Eb.o jC);have bn := z_ (qab Cc.o jC);have eL := z_ (show ((U8.alloc (.cells #[.slice nB R.length oB] 29 (0, 0)))).heap.size ≤ JB.heap.size from jC.size);clear jC xg KW kT Yh JU PZ VY Eb Cc;have KI := qac Nf.o 0;have OH := qac mf.o 0;simp only [List.getElem?_toArray, List.getElem?_cons_zero, List.getElem?_cons_succ] at KI OH
 go_wp2_with fail
 have Pa := z_ (qba Hm.o);have eo := z_ (Kd.qd1 Jo.o);have oo := z_ (Kd.qd1 qQ.o);have Hn := z_ (Kd.qbu Nm.o);have Pn := z_ (Kd.qd1 Vm.o);have Wl := z_ (qaq Nf.o);have io := z_ (qaq Fm.o);have vm := z_ (qaq mf.o);have Nl := z_ (qaq bn.o);have GL := z_ (show (JB).drew.heap.size = (JB).heap.size from rfl)
 go_region_held3 (fun W => W.cell? ⟨(w).heap.size, 0, none⟩ = some (.slice A0 l.length c0) ∧ W.cell? ⟨(w7).heap.size, 0, none⟩ = some (.slice bO x.length EP))
  (first | exact ⟨KI, OH⟩ | exact ⟨fI, ZH⟩ | exact ⟨oQ, WP⟩)
  (first
   | (go_at_call 7; refine (qcQ.calls (Z0 := Kd.qar Z1.o Pa.o) (Q1 := hc0) (h := Aht.o)).mono ?_; rintro e oH ⟨v14_0, rfl, iS, gE⟩; have gE := (show Below ((JB).drew).heap.size ((JB).drew) oH from by first | exact gE | exact gE.below); obtain ⟨A14T1, c14T1, rfl, _, _⟩ := Kd.qfp iS; have bJ := z_ (Kd.qcJ (Kd.qbZ (Kd.qcr iS) (fun k hk => (show ((JB).drew).heap.size ≤ k ∧ k < oH.heap.size from ⟨hk.2.1, hk.2.2.1⟩))) Pa.o.size); have Gn := z_ (qaa Pa.o gE); have so := z_ (Kd.qaO eo.o gE); have vR := z_ (Kd.qaO oo.o gE); have Ln := z_ (Kd.qa7 Hn.o gE); have Gm := z_ (Kd.qaO Pn.o gE); have lX := z_ (qab Wl.o gE); have Xl := z_ (qab io.o gE); have Fg := z_ (qab vm.o gE); have Rm := z_ (qab Nl.o gE); have oN := z_ (show ((JB).drew).heap.size ≤ oH.heap.size from gE.size); have fI := qac lX.o 0; have ZH := qac Fg.o 0; simp only [List.getElem?_toArray, List.getElem?_cons_zero, List.getElem?_cons_succ] at fI ZH; dsimp only)
   | (go_at_call 10; refine (qcv.calls (Z0 := (Kd.qbn vR.o).2.2) (Q1 := (Kd.qbn vR.o).2.1) (AH := (Kd.qbn bJ.o).2.2) (uH := (Kd.qbn bJ.o).2.1) (h := AheX.o)).mono ?_; rintro e bC ⟨rfl, ZC⟩; have ZC := (show Below (oH).heap.size (oH) bC from by first | exact ZC | exact ZC.below); have rW := z_ (qaa Gn.o ZC); have ni := z_ (Kd.qaO so.o ZC); have Pe := z_ (Kd.qaO vR.o ZC); have se := z_ (Kd.qa7 Ln.o ZC); have Ph := z_ (Kd.qaO Gm.o ZC); have HT115 := z_ (Kd.qaO bJ.o ZC); have oX := z_ (qab lX.o ZC); have Db := z_ (qab Xl.o ZC); have CU := z_ (qab Fg.o ZC); have ub := z_ (qab Rm.o ZC); have lM := z_ (show (oH).heap.size ≤ bC.heap.size from ZC.size); have oQ := qac oX.o 0; have WP := qac CU.o 0; simp only [List.getElem?_toArray, List.getElem?_cons_zero, List.getElem?_cons_succ] at oQ WP; dsimp only)
   | fail)
 clear KI OH fI ZH;have tO := qac oX.o 0;have VO := qac Db.o 0;have fP := qac CU.o 0;have CN := qac ub.o 0;simp only [List.getElem?_toArray, List.getElem?_cons_zero, List.getElem?_cons_succ] at tO VO fP CN
 go_wp2_with fail
 clear tO VO fP CN;refine (qaR.calls (hr0 := Kd.qar HR2.o rW.o) (hc0 := hc2) (h := Ahti.o)).mono ?_;rintro e w16 ⟨v16_0, rfl, XL, uD⟩;have uD := (show Below (bC).heap.size (bC) w16 from by first | exact uD | exact uD.below);obtain ⟨A16T2, c16T2, rfl, _, _⟩ := Kd.qa4 XL;have AF := z_ (Kd.qa3 (Kd.qaU (Kd.qb5 XL) (fun k hk => (show (bC).heap.size ≤ k ∧ k < w16.heap.size from ⟨hk.2.1, hk.2.2.1⟩))) rW.o.size);have Rd := z_ (qaa rW.o uD);have Re := z_ (Kd.qaO ni.o uD);have Ig := z_ (Kd.qaO Pe.o uD);have OV := z_ (Kd.qa7 se.o uD);have Zh := z_ (Kd.qaO Ph.o uD);have Ua := z_ (qab oX.o uD);have YY := z_ (qab Db.o uD);have Yb := z_ (qab CU.o uD);have ra := z_ (qab ub.o uD);have oL := z_ (show (bC).heap.size ≤ w16.heap.size from uD.size);clear uD XL rW ni Pe se Ph oX Db CU ub;have MP := qac Ua.o 0;have YO := qac YY.o 0;have mP := qac Yb.o 0;have RO := qac ra.o 0;simp only [List.getElem?_toArray, List.getElem?_cons_zero, List.getElem?_cons_succ] at MP YO mP RO
 go_wp2_with fail
 clear MP YO mP RO;refine (qa0.calls (hr0 := (Kd.qbb OV.o).2.2) (hc0 := (Kd.qbb OV.o).2.1) (hr1 := (Kd.qbb AF.o).2.2) (hc1 := (Kd.qbb AF.o).2.1) (h := AheY.o)).mono ?_;rintro e oJ ⟨rfl, YB⟩;have YB := (show Below (w16).heap.size (w16) oJ from by first | exact YB | exact YB.below);have fe := z_ (qaa Rd.o YB);have Xg := z_ (Kd.qaO Re.o YB);have Ee := z_ (Kd.qaO Ig.o YB);have Rh := z_ (Kd.qa7 OV.o YB);have qg := z_ (Kd.qaO Zh.o YB);have HT217 := z_ (Kd.qa7 AF.o YB);have na := z_ (qab Ua.o YB);have od := z_ (qab YY.o YB);have QY := z_ (qab Yb.o YB);have Ta := z_ (qab ra.o YB);have TL := z_ (show (w16).heap.size ≤ oJ.heap.size from YB.size);clear YB Rd Re Ig OV Zh AF Ua YY Yb ra;have KP := qac na.o 0;have oP := qac od.o 0;have DN := qac QY.o 0;have GO := qac Ta.o 0;simp only [List.getElem?_toArray, List.getElem?_cons_zero, List.getElem?_cons_succ] at KP oP DN GO
 go_wp2_with fail
 clear KP oP DN GO;have Ie := z_ (And.intro RQ.o (And.intro EV.o (And.intro qb.o (And.intro bZ.o (And.intro LZ.o (And.intro Pc.o (And.intro Gc.o (And.intro Xb.o (And.intro Ca.o (And.intro tS.o (And.intro aN.o (And.intro eL.o (And.intro GL.o (And.intro oN.o (And.intro lM.o (And.intro oL.o (TL.o)))))))))))))))));refine (qgv (fun k => ((w5.alloc (.cells #[.slice vU R.length sU] 29 (0, 0)))).heap.size ≤ k ∧ k < w7.heap.size) bO _ EP x 1 w _ fe.o Ee.o zdM HCO.o).mono ?_;rintro e ZU ⟨rfl, di, Sh, gI⟩;have di := z_ di;have Of := z_ (Sh);have Ve := z_ (qhT Xg.o gI (fun k hk h => zaN));have Nc := z_ (Kd.qeS Rh.o gI (fun k hk h => zaN));have ji := z_ (qhT qg.o gI (fun k hk h => zaN));have jc := z_ (qcM na.o gI (fun h => zbc));have Ya := z_ (qcM od.o gI (fun h => zbc));have KB18 := z_ (qcM QY.o gI (fun h => zbc));have bb := z_ (qcM Ta.o gI (fun h => zbc));have SR := z_ (show (oJ).heap.size ≤ ZU.heap.size from gI.1);clear Sh gI fe Xg Rh qg na od QY Ta Ee;have lP := qac jc.o 0;have mQ := qac Ya.o 0;have jP := qac bb.o 0;simp only [List.getElem?_toArray, List.getElem?_cons_zero, List.getElem?_cons_succ] at lP mQ jP
 go_wp2_with fail
 clear lP mQ jP;have yg := z_ (And.intro RQ.o (And.intro EV.o (And.intro qb.o (And.intro bZ.o (And.intro LZ.o (And.intro Pc.o (And.intro Gc.o (And.intro Xb.o (And.intro Ca.o (And.intro tS.o (And.intro aN.o (And.intro eL.o (And.intro GL.o (And.intro oN.o (And.intro lM.o (And.intro oL.o (And.intro TL.o (SR.o))))))))))))))))));refine (qa6.calls (w0 := w) (hB := Of.o) (ho0 := Nc.o) (h := AhmY.o)).mono ?_;rintro e WK ⟨rfl, Th, Te, NM⟩;have Th := z_ (Kd.qhU (ok := (fun k => ((w7.alloc (.cells #[.slice bO x.length EP] 29 (0, 0)))).heap.size ≤ k ∧ k < w9.heap.size)) rfl Th (fun k hk => Nc.o.1 k hk));have Jd := z_ (Te);have AW := z_ (qhT Ve.o NM (fun k hk h => zaO));have nV := z_ (qhT ji.o NM (fun k hk h => zaO));have dd := z_ (qcM jc.o NM (fun h => zbd));have yc := z_ (qcM Ya.o NM (fun h => zbd));have eZ := z_ (qcM bb.o NM (fun h => zbd));have Fa := z_ (show (ZU).heap.size ≤ WK.heap.size from NM.1);clear Te NM Of Ve ji jc Ya bb Nc;have MO := qac dd.o 0;have QO := qac yc.o 0;have nP := qac eZ.o 0;simp only [List.getElem?_toArray, List.getElem?_cons_zero, List.getElem?_cons_succ] at MO QO nP
 go_wp2_with fail
 clear MO QO nP;refine (qcv.calls (Z0 := (Kd.qbn nV.o).2.2) (Q1 := (Kd.qbn nV.o).2.1) (AH := (Kd.qbn AW.o).2.2) (uH := (Kd.qbn AW.o).2.1) (h := AheR.o)).mono ?_;rintro e tF ⟨rfl, vG⟩;have vG := (show Below (WK).heap.size (WK) tF from by first | exact vG | exact vG.below);have Hh := z_ (qaa Jd.o vG);have zh := z_ (Kd.qaO AW.o vG);have Uh := z_ (Kd.qaO nV.o vG);have kZ := z_ (qab dd.o vG);have aa := z_ (qab yc.o vG);have lc := z_ (qab eZ.o vG);have fd := z_ (show (WK).heap.size ≤ tF.heap.size from vG.size);clear vG Jd AW nV dd yc eZ;have TO := qac kZ.o 0;have ON := qac aa.o 0;have gQ := qac lc.o 0;simp only [List.getElem?_toArray, List.getElem?_cons_zero, List.getElem?_cons_succ] at TO ON gQ
 go_wp2_with fail
 clear TO ON gQ;have WT := qgv (fun k => (w9).heap.size ≤ k ∧ k < U8.heap.size) nB _ oB R 1 w _ Hh.o Uh.o zdM HRC.o;rw [← HM.o] at WT;have Mh := z_ (And.intro RQ.o (And.intro EV.o (And.intro qb.o (And.intro bZ.o (And.intro LZ.o (And.intro Pc.o (And.intro Gc.o (And.intro Xb.o (And.intro Ca.o (And.intro tS.o (And.intro aN.o (And.intro eL.o (And.intro GL.o (And.intro oN.o (And.intro lM.o (And.intro oL.o (And.intro TL.o (And.intro SR.o (And.intro Fa.o (fd.o))))))))))))))))))));refine (WT).mono ?_;rintro e pY ⟨rfl, vM, Td, bR⟩;have vM := z_ vM;have gi := z_ (Td);have Ue := z_ (qhT zh.o bR (fun k hk h => (by have h1 := hk.1; have h2 := hk.2; have h3 := h.1; have h4 := h.2; have z := Mh.o; omega)));have hZ := z_ (qcM kZ.o bR (fun h => zbe));have ma := z_ (qcM aa.o bR (fun h => zbe));have KZ := z_ (qcM lc.o bR (fun h => zbe));have Cn := z_ (show (tF).heap.size ≤ pY.heap.size from bR.1);clear Td bR Hh zh kZ aa lc Uh WT;have wO := qac hZ.o 0;have UO := qac ma.o 0;have rO := qac KZ.o 0;simp only [List.getElem?_toArray, List.getElem?_cons_zero, List.getElem?_cons_succ] at wO UO rO
 go_wp2_with fail
 clear wO UO rO;have oZ := (Kd.qbn vM.o).1;have XZ := qcR.calls (I0 := nB) (H0 := oB) (Z0 := by exact (Kd.qbn vM.o).2.2) (Q1 := by rw [← oZ]; exact (Kd.qbn vM.o).2.1) (h := Ahh.o);rw [← oZ] at XZ;clear oZ;refine (XZ).mono ?_;rintro e UR ⟨rfl, fG⟩;have fG := (show Below (pY).heap.size (pY) UR from by first | exact fG | exact fG.below);have mW := z_ (qaa gi.o fG);have Pg := z_ (Kd.qaO Ue.o fG);have Vf := z_ (Kd.qaO vM.o fG);have fc := z_ (qab hZ.o fG);have NZ := z_ (qab ma.o fG);have ZZ := z_ (qab KZ.o fG);have Rn := z_ (show (pY).heap.size ≤ UR.heap.size from fG.size);clear fG gi Ue vM hZ ma KZ XZ;have GN := qac fc.o 0;have IN := qac NZ.o 0;have DO := qac ZZ.o 0;simp only [List.getElem?_toArray, List.getElem?_cons_zero, List.getElem?_cons_succ] at GN IN DO
 go_wp2_with fail
 clear GN IN DO;refine (qcQ.calls (Z0 := Kd.qar Z1.o mW.o) (Q1 := hc0) (h := Aht.o)).mono ?_;rintro e YR ⟨v23_0, rfl, lL, rG⟩;have rG := (show Below (UR).heap.size (UR) YR from by first | exact rG | exact rG.below);obtain ⟨A23T3, c23T3, rfl, _, _⟩ := Kd.qfp lL;have FN := z_ (Kd.qcJ (Kd.qbZ (Kd.qcr lL) (fun k hk => (show (UR).heap.size ≤ k ∧ k < YR.heap.size from ⟨hk.2.1, hk.2.2.1⟩))) mW.o.size);have RV := z_ (qaa mW.o rG);have Wh := z_ (Kd.qaO Pg.o rG);have de := z_ (Kd.qaO Vf.o rG);have xb := z_ (qab fc.o rG);have Lb := z_ (qab NZ.o rG);have yb := z_ (qab ZZ.o rG);have Do := z_ (show (UR).heap.size ≤ YR.heap.size from rG.size);clear rG lL mW Pg Vf fc NZ ZZ;have jQ := qac xb.o 0;have UN := qac Lb.o 0;have WO := qac yb.o 0;simp only [List.getElem?_toArray, List.getElem?_cons_zero, List.getElem?_cons_succ] at jQ UN WO
 go_wp2_with fail
 clear jQ UN WO;refine (qaR.calls (hr0 := Kd.qar HR2.o RV.o) (hc0 := hc2) (h := Ahti.o)).mono ?_;rintro e dR ⟨v24_0, rfl, cN, UE⟩;have UE := (show Below (YR).heap.size (YR) dR from by first | exact UE | exact UE.below);obtain ⟨A24T4, c24T4, rfl, _, _⟩ := Kd.qa4 cN;have wF := z_ (Kd.qa3 (Kd.qaU (Kd.qb5 cN) (fun k hk => (show (YR).heap.size ≤ k ∧ k < dR.heap.size from ⟨hk.2.1, hk.2.2.1⟩))) RV.o.size);have zZ := z_ (qaa RV.o UE);have Xf := z_ (Kd.qaO Wh.o UE);have pe := z_ (Kd.qaO de.o UE);have ZN := z_ (Kd.qaO FN.o UE);have jZ := z_ (qab xb.o UE);have UY := z_ (qab Lb.o UE);have Oc := z_ (qab yb.o UE);have jo := z_ (show (YR).heap.size ≤ dR.heap.size from UE.size);clear UE cN RV Wh de FN xb Lb yb;have NP := qac jZ.o 0;have fO := qac UY.o 0;have oO := qac Oc.o 0;simp only [List.getElem?_toArray, List.getElem?_cons_zero, List.getElem?_cons_succ] at NP fO oO
 go_wp2_with fail
 clear NP fO oO;refine (cdropR Ahd.o Ahtn.o ((Kd.qbn ZN.o).2.2) ((Kd.qbn ZN.o).2.1) ((Kd.qbb wF.o).2.2) ((Kd.qbb wF.o).2.1)).mono ?_;rintro e wM ⟨v25_0, rfl, iM, nE⟩;have nE := (show Below (dR).heap.size (dR) wM from by first | exact nE | exact nE.below);obtain ⟨QE, SE, rfl, _, _⟩ := Kd.qfp iM;have iP := z_ (Kd.qcJ (Kd.qbZ (Kd.qcr iM) (fun k hk => (show (dR).heap.size ≤ k ∧ k < wM.heap.size from ⟨hk.2.1, hk.2.2.1⟩))) zZ.o.size);have sh := z_ (qaa zZ.o nE);have jg := z_ (Kd.qaO Xf.o nE);have ug := z_ (Kd.qaO pe.o nE);have HT325 := z_ (Kd.qaO ZN.o nE);have HT425 := z_ (Kd.qa7 wF.o nE);have Qh := z_ (qab jZ.o nE);have bf := z_ (qab UY.o nE);have Hg := z_ (qab Oc.o nE);have Dn := z_ (show (dR).heap.size ≤ wM.heap.size from nE.size);clear nE iM zZ Xf pe ZN wF jZ UY Oc;have Rg := z_ (qaA sh.o (.cells #[.slice QE R.length SE] 29 (0, 0)));have LV := z_ (Kd.qcK jg.o (.cells #[.slice QE R.length SE] 29 (0, 0)));have Gf := z_ (Kd.qcK ug.o (.cells #[.slice QE R.length SE] 29 (0, 0)));have sV := z_ (Kd.qcK iP.o (.cells #[.slice QE R.length SE] 29 (0, 0)));have db := z_ (qam Qh.o (.cells #[.slice QE R.length SE] 29 (0, 0)));have Nb := z_ (qam bf.o (.cells #[.slice QE R.length SE] 29 (0, 0)));have jb := z_ (qam Hg.o (.cells #[.slice QE R.length SE] 29 (0, 0)));have mb := z_ (qbz wM (.cells #[.slice QE R.length SE] 29 (0, 0)));have pm := z_ (show (wM.alloc (.cells #[.slice QE R.length SE] 29 (0, 0))).heap.size = (wM).heap.size + 1 from by show ((wM).heap.push _).size = _; rw [Array.size_push]);clear sh jg ug iP Qh bf Hg;have dO := qac db.o 0;have KN := qac Nb.o 0;have gO := qac jb.o 0;have lQ := qac mb.o 0;simp only [List.getElem?_toArray, List.getElem?_cons_zero, List.getElem?_cons_succ] at dO KN gO lQ
 go_wp2_with fail
 clear dO KN gO lQ;refine (qcv.calls (Z0 := (Kd.qbn sV.o).2.2) (Q1 := (Kd.qbn sV.o).2.1) (AH := (Kd.qbn LV.o).2.2) (uH := (Kd.qbn LV.o).2.1) (h := AheR.o)).mono ?_;rintro e fX ⟨rfl, fE⟩;have fE := (show Below ((wM.alloc (.cells #[.slice QE R.length SE] 29 (0, 0)))).heap.size ((wM.alloc (.cells #[.slice QE R.length SE] 29 (0, 0)))) fX from by first | exact fE | exact fE.below);have Qf := z_ (qaa Rg.o fE);have Od := z_ (Kd.qaO LV.o fE);have gT := z_ (Kd.qaO Gf.o fE);have Ch := z_ (Kd.qaO sV.o fE);have oc := z_ (qab db.o fE);have Qb := z_ (qab Nb.o fE);have mZ := z_ (qab jb.o fE);have pb := z_ (qab mb.o fE);have Kn := z_ (show ((wM.alloc (.cells #[.slice QE R.length SE] 29 (0, 0)))).heap.size ≤ fX.heap.size from fE.size);clear fE Rg LV Gf sV db Nb jb mb;have pP := qac oc.o 0;have LO := qac Qb.o 0;have IO := qac mZ.o 0;have pO := qac pb.o 0;simp only [List.getElem?_toArray, List.getElem?_cons_zero, List.getElem?_cons_succ] at pP LO IO pO
 go_wp2_with fail
 clear pP LO IO pO;have qd := (Kd.qbn gT.o).1;have Ib := qcR.calls (I0 := nB) (H0 := oB) (Z0 := by exact (Kd.qbn gT.o).2.2) (Q1 := by rw [← qd]; exact (Kd.qbn gT.o).2.1) (h := Ahh.o);rw [← qd] at Ib;clear qd;refine (Ib).mono ?_;rintro e Lm ⟨rfl, YD⟩;have YD := (show Below (fX).heap.size (fX) Lm from by first | exact YD | exact YD.below);have To := z_ (qaa Qf.o YD);have HW28 := z_ (Kd.qaO Od.o YD);have HG28 := z_ (Kd.qaO gT.o YD);have HQ28 := z_ (Kd.qaO Ch.o YD);have um := z_ (qab oc.o YD);have En := z_ (qab Qb.o YD);have Yn := z_ (qab mZ.o YD);have ao := z_ (qab pb.o YD);have qo := z_ (show (fX).heap.size ≤ Lm.heap.size from YD.size);clear YD Qf Od gT Ch oc Qb mZ pb Ib;have UP := qac um.o 0;have rP := qac En.o 0;have BO := qac Yn.o 0;have CO := qac ao.o 0;simp only [List.getElem?_toArray, List.getElem?_cons_zero, List.getElem?_cons_succ] at UP rP BO CO
 go_wp2_with fail
 clear UP rP BO CO
 go_ret
 exact ⟨rfl, To.o⟩
open Classical in
noncomputable def qbK.f (u0 : List S70) (a1 : Int) (l2 : List Int) (a3 : ByteArray) : Option Bool := if wl24 ⟨u0⟩ ∧ l2.length ≤ maxLen then some true else none
theorem qbK.calls (I0 : Option Addr) (H0 : Nat) (u0 : List (S70)) (a1 : Int) (A2 : Option Addr) (c2 : Nat) (l2 : List Int) (a3 : ByteArray) (r : Bool) (w : World) (Z0 : Kd.C k70 w I0 u0.length u0) (Q1 : u0.length ≤ H0) (hr2 : Kd.C (Kd.int .i64) w A2 l2.length l2) (hc2 : l2.length ≤ c2) (h : qbK.f u0 a1 l2 a3 = some r) :
  Calls Tryz.prog 4 #[.agg #[.slice I0 u0.length H0], .int .i64 a1, .slice A2 l2.length c2, .string a3] w fun e w' => e = .returned (.bool r) ∧ Below w.heap.size w w' := by
 unfold qbK.f at h
 by_cases hw : wl24 ⟨u0⟩ ∧ l2.length ≤ maxLen
 ·rw [if_pos hw] at h;obtain rfl := Option.some.inj h;clear h
  by_cases hll : 1048576 < (l2.length : Int)
  ·exact qiK I0 H0 u0 a1 A2 c2 l2 a3 w Z0 Q1 hr2 hc2 hll
  by_cases hlk : 1048576 < (a3.size : Int)
  ·exact qhL I0 H0 u0 a1 A2 c2 l2 a3 w Z0 Q1 hr2 hc2 hll hlk
  obtain ⟨z, hz, hq⟩ := sz_Heap ⟨u0⟩ hw.1 1048576 1048576 zdM zdM zdM;obtain ⟨kz, hz⟩ := Ev.rounds hz
  by_cases hzn : z < 0
  ·exact qhM kz z I0 H0 u0 a1 A2 c2 l2 a3 w Z0 Q1 hr2 hc2 hz hll hlk hzn
  have hs := (hq zdM).2;obtain ⟨kt, ht⟩ := Ev.rounds (to_Heap ⟨u0⟩ hs);obtain ⟨kti, hti⟩ := Ev.rounds (qmb l2 zdM);have htn := qmd hs;have hco := qmc hs;obtain ⟨keX, heX⟩ := Ev.rounds (qma ⟨u0.map cv70⟩ (heap_len hs));simp only at ht;generalize u0.map cv70 = x at *;obtain ⟨RR, hR⟩ : ∃ RR, dropR x a1 l2 a3 = RR := ⟨_, rfl⟩
  obtain ⟨R, r1, code⟩ := RR;have hRt := dropR_at hR htn.1 htn.2;have hRl := qme hRt.1 hRt.2;obtain ⟨keR, heR⟩ := Ev.rounds (qma ⟨R⟩ hRl.2);obtain ⟨keY, heY⟩ := Ev.rounds (ql9 l2 zdM);obtain ⟨kmY, hmY⟩ := Ev.rounds (qjw l2 (1 + (qcf x : Int)) zdM zdM zdM);obtain ⟨kh, hh⟩ := Ev.rounds (qkR R 1 zdM zdM);have hh2 : qcR.f kh (qcu R 1) 1 = some (1 + (qcf R : Int)) := by
   unfold qcR.f;rw [hh];rfl
  simp only [Int.one_mul] at heX;exact qiL kz kt kti keR keY keX kmY kh z I0 H0 u0 a1 A2 c2 l2 a3 x R r1 code _ _ w Z0 Q1 hr2 hc2 hz hll hlk hzn ht hti hR htn.1 heR heY heX hmY hh2 zdM zdM zdM
 ·rw [if_neg hw] at h
  cases h
theorem opens4 : Opens Tryz.prog 4 Kd.bool (fun _ => True) := Opens.bool_ Tryz.underlying4 (by kernel_rfl)
theorem qmf : Opens Tryz.prog 9 Kd.string (fun x => x.size ≤ maxLen) := Opens.string_ Tryz.underlying9 (by kernel_rfl)
def wf135 (x : S135) : Prop := x.f0.size ≤ maxLen ∧ x.f1.size ≤ maxLen
theorem opens135 : Opens Tryz.prog 135 k135 wf135 := by
 refine ⟨by kernel_rfl, fun {H enc w base spare held fuel cs x} h => ?_⟩
 obtain ⟨xs, n, _, _, hl, hlen, hf⟩ := DataW.trod_struct Tryz.underlying135 h
 have hl' : cs.length = 2 := hl.trans (by kernel_rfl)
 match cs, hl', xs, hlen with
 | [c0, c1], _, [y0, y1], _ =>
  obtain ⟨v0, g0, w0⟩ := qmf.2 (by simpa [show Tryz.prog.cellsOf 9 = 1 from by kernel_rfl] using hf 0 _ rfl)
  obtain ⟨v1, g1, w1⟩ := qmf.2 (by simpa [show Tryz.prog.cellsOf 9 = 1 from by kernel_rfl] using hf 1 _ rfl)
  exact ⟨(⟨v0, v1⟩ : S135), ⟨[c0], [c1], rfl, g0, g1⟩, ⟨w0, w1⟩⟩
def wfL135 (xs : List (S135)) : Prop := xs.length ≤ maxLen ∧ ∀ x ∈ xs, wf135 x
theorem opens67 : Opens Tryz.prog 67 (Kd.slice 135 k135) wfL135 := Opens.qiP Tryz.underlying67 (by kernel_rfl) opens135
def wfL9 (xs : List ByteArray) : Prop := xs.length ≤ maxLen ∧ ∀ x ∈ xs, x.size ≤ maxLen
theorem opens68 : Opens Tryz.prog 68 (Kd.slice 9 Kd.string) wfL9 := Opens.qiP Tryz.underlying68 (by kernel_rfl) qmf
theorem opens3 : Opens Tryz.prog 3 (Kd.int .i64) (fun x => (Lit.int .i64 x).wf = true) := Opens.int_ Tryz.underlying3 (by kernel_rfl)
def wfL3 (xs : List Int) : Prop := xs.length ≤ maxLen ∧ ∀ x ∈ xs, (Lit.int .i64 x).wf = true
theorem qmg : Opens Tryz.prog 25 (Kd.slice 3 (Kd.int .i64)) wfL3 := Opens.qiP Tryz.underlying25 (by kernel_rfl) opens3
def wf70 (x : S70) : Prop := True ∧ wfL135 x.f1 ∧ wfL9 x.f2 ∧ wfL3 x.f3
theorem opens70 : Opens Tryz.prog 70 k70 wf70 := by
 refine ⟨by kernel_rfl, fun {H enc w base spare held fuel cs x} h => ?_⟩
 obtain ⟨xs, n, _, _, hl, hlen, hf⟩ := DataW.trod_struct Tryz.underlying70 h
 have hl' : cs.length = 4 := hl.trans (by kernel_rfl)
 match cs, hl', xs, hlen with
 | [c0, c1, c2, c3], _, [y0, y1, y2, y3], _ =>
  obtain ⟨v0, g0, w0⟩ := opens4.2 (by simpa [show Tryz.prog.cellsOf 4 = 1 from by kernel_rfl] using hf 0 _ rfl)
  obtain ⟨v1, g1, w1⟩ := opens67.2 (by simpa [show Tryz.prog.cellsOf 67 = 1 from by kernel_rfl] using hf 1 _ rfl)
  obtain ⟨v2, g2, w2⟩ := opens68.2 (by simpa [show Tryz.prog.cellsOf 68 = 1 from by kernel_rfl] using hf 2 _ rfl)
  obtain ⟨v3, g3, w3⟩ := qmg.2 (by simpa [show Tryz.prog.cellsOf 25 = 1 from by kernel_rfl] using hf 3 _ rfl)
  exact ⟨(⟨v0, v1, v2, v3⟩ : S70), ⟨[c0], [c1, c2, c3], rfl, g0, ⟨[c1], [c2, c3], rfl, g1, ⟨[c2], [c3], rfl, g2, g3⟩⟩⟩, ⟨w0, w1, w2, w3⟩⟩
def wfL70 (xs : List (S70)) : Prop := xs.length ≤ maxLen ∧ ∀ x ∈ xs, wf70 x
theorem opens22 : Opens Tryz.prog 22 (Kd.slice 70 k70) wfL70 := Opens.qiP Tryz.underlying22 (by kernel_rfl) opens70
def wf24 (x : S24) : Prop := wfL70 x.f0
theorem opens24 : Opens Tryz.prog 24 k24 wf24 := by
 refine ⟨by kernel_rfl, fun {H enc w base spare held fuel cs x} h => ?_⟩
 obtain ⟨xs, n, _, _, hl, hlen, hf⟩ := DataW.trod_struct Tryz.underlying24 h
 have hl' : cs.length = 1 := hl.trans (by kernel_rfl)
 match cs, hl', xs, hlen with
 | [c0], _, [y0], _ =>
  obtain ⟨v0, g0, w0⟩ := opens22.2 (by simpa [show Tryz.prog.cellsOf 22 = 1 from by kernel_rfl] using hf 0 _ rfl)
  exact ⟨(⟨v0⟩ : S24), g0, w0⟩
def qbK.Pure : Prop := ∀ (u0 : List (S70)) (a1 : Int) (l2 : List Int) (a3 : ByteArray), (wfL70 u0) → ((Lit.int .i64 a1).wf = true) → (wfL3 l2) → (a3.size ≤ maxLen) → a3.size ≤ 140737488351232 → qbK.f u0 a1 l2 a3 = some true
end Go.Proofs.YtcdokcpiahbejaaGreat.X
namespace Go.Proofs.YtcdokcpiahbejaaGreat.X.Pure
open Go.RowKit Go.Proofs.YtcdokcpiahbejaaGreat.X Go.Proofs.PW Go.Proofs.PL
theorem FnExactTreeDrop : qbK.Pure := by
 intro l root rs key hw _ hr _ _
 unfold qbK.f
 exact if_pos ⟨⟨hw.1, fun y hy => ⟨trivial, (hw.2 y hy).2.1, (hw.2 y hy).2.2.1, (hw.2 y hy).2.2.2.1⟩⟩, hr.1⟩
end Go.Proofs.YtcdokcpiahbejaaGreat.X.Pure
namespace Go.Proofs.YtcdokcpiahbejaaGreat.fnExactTreeDrop
open Go.ChangeShapes Go.WideShapes Go.ChangeAt Go.RowKit Go.Proofs.YtcdokcpiahbejaaGreat.X Go.Proofs.PW
open Go.ChangeMaps (open_string shut_string)
theorem own : ownKnob Tryz.prog.godebug = none := by kernel_rfl
theorem laidOut : laidOutB Tryz.prog = true := by kernel_rfl
theorem lifted (os : Os) (started : os.Started) (H : Type) (enc : TypeId × Value → H) :
  ReturnsInHanded {} Tryz.checked os 4 .any (Rows.fnExactTreeDropSpec.pre6 enc Tryz.prog Tryz.f4 Rows.fnExactTreeDropRow.domain false) (Rows.fnExactTreeDropSpec.post enc Tryz.prog Tryz.f4 false true false false) := by
 refine returnsInHanded_of_change_sized (C := Tryz.checked) own started (by kernel_rfl) Tryz.func4
  (ChangeSpec.witness6 (enc := enc) (C := Tryz.checked) false ⟨#[], #[.agg #[.slice none 0 0], .int .i64 0, .slice none 0 0, .string ByteArray.empty], []⟩ 8 (by kernel_rfl) (by kernel_rfl) (by kernel_rfl) (by kernel_rfl)) ?_
 intro W base args ds gs before hval0 hW hcnd hsz0 _
 have hsz : (DataW.weightsEach Tryz.prog (Tryz.f4.params.toList ++ Rows.fnExactTreeDropSpec.plain.varTypes Tryz.prog) (ds ++ gs)).all (· ≤ reachBytes) = true := hsz0
 have hval : ∀ (j : Nat) t v, Tryz.f4.params[j]? = some t → args[j]? = some v → Value.okWide Tryz.prog W .any base t v := hval0
 have hW' := hW
 obtain ⟨p, q, hA0, hV, rfl, hfz, hnd⟩ := hW
 have hA : DataW.TrodAll enc Tryz.prog W 0 (fun _ => true) true Tryz.f4.params.toList args.toList ds p := hA0
 rw [Tryz.params4] at hA hval hsz
 obtain ⟨v0, vs0, d0, ds0, p0, q0, hargs, rfl, rfl, h0, r0⟩ := trodAll_cons hA
 obtain ⟨v1, vs1, d1, ds1, p1, q1, rfl, rfl, rfl, h1, r1⟩ := trodAll_cons r0
 obtain ⟨v2, vs2, d2, ds2, p2, q2, rfl, rfl, rfl, h2, r2⟩ := trodAll_cons r1
 obtain ⟨v3, vs3, d3, ds3, p3, q3, rfl, rfl, rfl, h3, r3⟩ := trodAll_cons r2
 obtain ⟨rfl, rfl, rfl⟩ := trodAll_nil r3
 obtain rfl : args = #[v0, v1, v2, v3] := by cases args; simp_all
 obtain ⟨rfl, rfl⟩ := trodVars_none hV
 have k0 := h0
 have lt0 : ∀ x ∈ p0, x.block < W.heap.size := by obtain ⟨m, hm⟩ := k0; exact DataW.trod_lt m _ _ _ hm
 obtain ⟨x0, cs0, rfl, hK0, hw0⟩ := Opens.agg_arg opens24 Tryz.underlying24 (hval 0 24 v0 rfl rfl) h0
 obtain ⟨I0, H0, rfl, Q1, Z0⟩ := k24_open hK0
 obtain ⟨u0⟩ := x0
 obtain ⟨a1, rfl, rfl, rfl, w1⟩ := open_int Tryz.underlying3 (hval 1 3 v1 rfl rfl) h1
 have k2 := h2
 have lt2 : ∀ x ∈ p2, x.block < W.heap.size := by obtain ⟨m, hm⟩ := k2; exact DataW.trod_lt m _ _ _ hm
 obtain ⟨A2, len2, c2, rfl⟩ := okWide_slice Tryz.underlying25 (hval 2 25 v2 rfl rfl)
 obtain ⟨l2, rfl, hc2, hr2, hw2⟩ := Opens.qlt qmg h2
 obtain ⟨a3, rfl, rfl, rfl, y3⟩ := open_string Tryz.underlying9 (hval 3 9 v3 rfl rfl) h3
 have w3 : a3.size ≤ 140737488351232 := by
  have z := sized_string hsz (j := 3) (t := 9) rfl rfl
  rw [Array.length_toList] at z
  exact z
 clear hA0 hval0 hsz0 hsz
 have hP := X.Pure.FnExactTreeDrop u0 a1 l2 a3 hw0 w1 hw2 y3 w3
 refine (qbK.calls I0 H0 u0 a1 A2 c2 l2 a3 true W Z0 Q1 hr2 hc2 hP).mono fun e W' hQ => ?_
 obtain ⟨he, bel0⟩ := hQ
 subst he
 have bel : Below W.heap.size W W' := bel0
 exact ⟨_, rfl, _, _, _, [], _, [], hW', trodAll_mk1 (shut_bool Tryz.underlying4 _), (trodAll_cons_mk (Below.trod laidOut (by kernel_rfl) (of_decide_eq_true (by kernel_rfl)) k0 bel lt0) (trodAll_cons_mk (shut_int Tryz.underlying3 w1) (trodAll_cons_mk (Below.trod laidOut (by kernel_rfl) (of_decide_eq_true (by kernel_rfl)) k2 bel lt2) (trodAll_cons_mk (shut_string Tryz.underlying9 y3) trodAll_mk0)))), rfl, bel.frame _, fun h => by cases h⟩
theorem over : Rows.fnExactTreeDropRow.holds Tryz.pinned (OpenSpec.ofChange Rows.fnExactTreeDropSpec) :=
 OpenClaim.holds_of_wide 4 Tryz.f4 rfl rfl rfl rfl rfl rfl rfl ⟨rfl, rfl, rfl, rfl, rfl⟩ rfl rfl rfl rfl rfl (by kernel_rfl) Tryz.func4 (by kernel_rfl)
  (of_decide_eq_true (by kernel_rfl)) (by unfold Func.isWrapper; first | (rw [if_pos (by decide +kernel)]; kernel_rfl) | (rw [if_neg (by decide +kernel)]; exact ⟨rfl, rfl⟩))
  (fun os started H enc _ => lifted os started H enc)
theorem proved : Rows.FnExactTreeDropSaid := over
end Go.Proofs.YtcdokcpiahbejaaGreat.fnExactTreeDrop
namespace Go.Proofs.YtcdokcpiahbejaaGreat
theorem fnExactTreeDrop_holds : Rows.FnExactTreeDropSaid := fnExactTreeDrop.proved
end Go.Proofs.YtcdokcpiahbejaaGreat
