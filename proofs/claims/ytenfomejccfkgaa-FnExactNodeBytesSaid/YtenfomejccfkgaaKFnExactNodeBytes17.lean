import Derived.Test.YtenfomejccfkgaaKFnExactNodeBytes3
import Derived.Test.YtenfomejccfkgaaKFnExactNodeBytes4
import Derived.Test.YtenfomejccfkgaaKFnExactNodeBytes9
import Derived.Test.YtenfomejccfkgaaKFnExactNodeBytes10
import Derived.Test.YtenfomejccfkgaaKFnExactNodeBytes11
import Derived.Test.YtenfomejccfkgaaKFnExactNodeBytes13
import Derived.Test.YtenfomejccfkgaaKFnExactNodeBytes14
import Derived.Test.YtenfomejccfkgaaKFnExactNodeBytes15
import Derived.Test.YtenfomejccfkgaaKFnExactNodeBytes16
import Derived.LoopTactic
import Derived.WalkSpells
import Derived.Lib.ConvBytes
namespace Go.Proofs.Ytenfomejccfkgaa.X
open Go.RowKit Go.Proofs.YtenfomejccfkgaaW.PrintWords Go.Proofs.YtenfomejccfkgaaW.PrintLast Go.Proofs.YtenfomejccfkgaaW.PrintMore
attribute [local go_sem] qaE qaF qaG qaz qaA qaS qaT qau qav qaB qaC
set_option linter.unusedVariables false
set_option linter.unusedSimpArgs false
def nodeR (leaf : Bool) (ps : List S99) (ms : List ByteArray) (ks : List Int) : List Int × Int := if nodeB leaf ps ms ks = true then (if freeB leaf ps ms ks = true then ([], 5) else (bytesOf (nodeT leaf ps ms ks), 0)) else ([], 1)
theorem qgI (leaf : Bool) (ps : List S99) (ms : List ByteArray) (ks : List Int) : (nodeR leaf ps ms ks).1.length ≤ 200000000 := by
 unfold nodeR
 cases hn : nodeB leaf ps ms ks with
 | false => simp
 | true =>
  cases hf : freeB leaf ps ms ks with
  | true => simp
  | false =>
   have h := qcj (qeD hn hf)
   simp only [if_true, Bool.false_eq_true, if_false]
   rw [bytesOf_length]
   unfold nodeT
   rw [qeo, ByteArray.size_append, show (markT leaf).size = 1 from rfl]
   omega
theorem qgJ {ps : List S99} {ms : List ByteArray} {ks : List Int} (h : NodeFit true ps ms ks) : nodeL true ps ms ks = qco ps ps.length := by
 unfold nodeL leadL
 rw [h.lk rfl, if_pos rfl]
 simp [kidTo]
theorem kids_end (ps : List S99) (ms : List ByteArray) (ks : List Int) : nodeL false ps ms ks = kidTo ks ms ks.length := by
 unfold nodeL leadL
 simp
theorem qdt {leaf : Bool} {ps : List S99} {ms : List ByteArray} {ks : List Int} (h : NodeFit leaf ps ms ks) : qbW.f (nodeL leaf ps ms ks) = some (qcl (nodeL leaf ps ms ks)) := by
 have := qdS h
 unfold qbW.f
 rw [if_pos ⟨by omega, fun t ht => by have := this.2 t ht; omega⟩]
theorem qeq {leaf : Bool} {ps : List S99} {ms : List ByteArray} {ks : List Int} (h : NodeFit leaf ps ms ks) : Ev (fun k => qbj.f k (markT leaf ++ qcl (nodeL leaf ps ms ks))) (nodeT leaf ps ms ks) := by
 have := qcj h
 exact qgF _ (by rw [ByteArray.size_append, show (markT leaf).size = 1 from rfl]; omega)
theorem qfK (i : Nat) (h : i < 1000000) : wrap64 ((i : Int) + 1) = ((i + 1 : Nat) : Int) := by unfold wrap64; omega
theorem qec {ps : List S99} {ms : List ByteArray} {ks : List Int} (h : NodeFit true ps ms ks) : ∀ d i, i + d = ps.length → Ev (fun k => qao.l0 k (qco ps i) ps (ps.length : Int) (i : Int)) (nodeT true ps ms ks) := by
 intro d
 have hpl := h.pl
 induction d with
 | zero =>
  intro i hi
  have hi2 : i = ps.length := by omega
  subst hi2
  have hff := qdt h
  have hfs := qcj h
  have hsl := qeq h
  rw [qgJ h] at hff hfs hsl
  refine Ev.succ ?_
  simp only [qao.l0]
  exact Ev.neg (by omega) (Ev.bindk hff (Ev.pos (by omega) (Ev.bind hsl (Ev.is rfl))))
 | succ d ih =>
  intro i hi
  have hlt : i < ps.length := by omega
  have hrd : qap ps (i : Int) = ps[i] := by
   unfold qap
   rw [Int.toNat_natCast]
   simp [List.getD_eq_getElem?_getD, hlt]
  have hl := (qdl h.pl (h.ok rfl) i).1
  have hn := ih (i + 1) (by omega)
  rw [qdQ ps i hlt] at hn
  refine Ev.succ ?_
  simp only [qao.l0, hrd, qfK i (by omega), Option.bind_some]
  exact Ev.pos (by omega) (Ev.pos (by omega) (Ev.pos (by omega) (Ev.pos (by simp only [List.length_cons, List.length_nil]; omega) hn)))
theorem qed {ps : List S99} {ms : List ByteArray} {ks : List Int} (h : NodeFit false ps ms ks) : ∀ d i, i + d = ks.length → Ev (fun k => qao.l1 k (kidTo ks ms i) ks (ks.length : Int) (i : Int) false ps ms ks) (nodeT false ps ms ks) := by
 intro d
 have hkl := h.kl
 have hml := h.ml
 induction d with
 | zero =>
  intro i hi
  have hi2 : i = ks.length := by omega
  subst hi2
  have hff := qdt h
  have hfs := qcj h
  have hsl := qeq h
  rw [kids_end] at hff hfs hsl
  refine Ev.succ ?_
  simp only [qao.l1]
  exact Ev.neg (by omega) (Ev.bindk hff (Ev.pos (by omega) (Ev.bind hsl (Ev.is rfl))))
 | succ d ih =>
  intro i hi
  have hms := h.me i (by omega)
  have hl := (qdR h.me i (by omega) h.kl).1
  have hn := ih (i + 1) (by omega)
  rw [qep ks ms i] at hn
  refine Ev.succ ?_
  simp only [qao.l1, qfK i (by omega), Option.bind_some]
  exact Ev.pos (by omega) (Ev.pos (by omega) (Ev.pos (by omega) (Ev.pos (by omega) (Ev.pos (by rw [show (strOfNums [rd ks (i : Int) % 256]).size = 1 from rfl]; omega) (Ev.pos (by omega) hn)))))
theorem qfZ {leaf : Bool} {ps : List S99} {ms : List ByteArray} {ks : List Int} (h : NodeFit leaf ps ms ks) : Ev (fun k => qao.f k leaf ps ms ks) (nodeT leaf ps ms ks) := by
 unfold qao.f
 simp only [Option.bind_some]
 cases leaf with
 | true => exact Ev.pos rfl (qec h ps.length 0 (by omega))
 | false => exact Ev.neg (by simp) (qed h ks.length 0 (by omega))
theorem qf0 (leaf : Bool) (ps : List S99) (ms : List ByteArray) (ks : List Int) (hl : ks.length < 9223372036854775807) : Ev (fun k => qbx.f k leaf ps ms ks) (nodeR leaf ps ms ks) := by
 unfold qbx.f nodeR
 refine Ev.bind (qfo leaf ps ms ks hl) ?_
 cases hn : nodeB leaf ps ms ks with
 | false => exact Ev.neg (by simp) (Ev.is (by simp))
 | true =>
  refine Ev.pos rfl (Ev.bindk (qe3 leaf ps ms ks) ?_)
  cases hf : freeB leaf ps ms ks with
  | true => exact Ev.pos rfl (Ev.is (by simp))
  | false =>
   refine Ev.neg (by simp) (Ev.bindk (a := bytesOf (nodeT leaf ps ms ks)) ?_ (Ev.is (by simp)))
   unfold qby.f
   rw [if_pos ⟨hn, hf⟩]
end Go.Proofs.Ytenfomejccfkgaa.X
namespace Go.Proofs.Ytenfomejccfkgaa.X
open Go.RowKit Go.Proofs.YtenfomejccfkgaaW.PrintWords Go.Proofs.YtenfomejccfkgaaW.PrintLast Go.Proofs.YtenfomejccfkgaaW.PrintMore
attribute [local go_sem] qaE qaF qaG qaz qaA qaS qaT qau qav qaB qaC
set_option linter.unusedVariables false
set_option linter.unusedSimpArgs false
theorem qgK {W : World} {g : Nat} {t : TypeId} {x0 x1 x2 x3 : Value} (h : W.heap[g]? = some (.cells #[x0, x1, x2, x3] t (0, 0))) : W.cell? ⟨g, 0, none⟩ = some x0 ∧ W.cell? ⟨g, 1, none⟩ = some x1 ∧ W.cell? ⟨g, 2, none⟩ = some x2 ∧ W.cell? ⟨g, 3, none⟩ = some x3 :=
 ⟨qae h 0, qae h 1, qae h 2, qae h 3⟩
set_option maxHeartbeats 4000000 in
set_option maxRecDepth 100000 in
theorem qcI (b : Bool) (A1 : Option Addr) (c1 : Nat) (ps : List S99) (A2 : Option Addr) (c2 : Nat) (ms : List ByteArray) (A3 : Option Addr) (c3 : Nat) (ks : List Int) (R : List Int) (code : Int) (w : World) (hr1 : Kd.C k99 w A1 ps.length ps) (hc1 : ps.length ≤ c1) (hr2 : Kd.C Kd.string w A2 ms.length ms) (hc2 : ms.length ≤ c2) (hr3 : Kd.C (Kd.int .i64) w A3 ks.length ks) (hc3 : ks.length ≤ c3) (hl : ks.length ≤ 1000000000) (h : nodeR b ps ms ks = (R, code)) :
  Calls Try.prog 34 #[.agg #[.bool b, .slice A1 ps.length c1, .slice A2 ms.length c2, .slice A3 ks.length c3]] w fun e w' => ∃ v : Value, e = .returned (.tuple #[v, .int .i64 code]) ∧ BR w' w.heap.size (fun _ => True) v R ∧ Below w.heap.size w w' := by
 have hu := Try.underlying56
 have HR1 := Aside0.mk hr1
 have HR2 := Aside0.mk hr2
 have HR3 := Aside0.mk hr3
 have HB0 := Aside0.mk (qac (Below.refl w.heap.size w) (.cells #[.bool b, .slice A1 ps.length c1, .slice A2 ms.length c2, .slice A3 ks.length c3] 56 (0, 0)))
 have HK0 := Aside0.mk (qcz w (.cells #[.bool b, .slice A1 ps.length c1, .slice A2 ms.length c2, .slice A3 ks.length c3] 56 (0, 0)))
 obtain ⟨ko, hko⟩ := Ev.rounds (qfp b ps ms ks (by omega))
 have HFO := Aside0.mk (qe4 b ps ms ks)
 have hh := h
 unfold nodeR at hh
 clear hr1 hr2 hr3 h
 cases hb : nodeB b ps ms ks with
 | false =>
  rw [if_neg (by rw [hb]; decide)] at hh
  obtain ⟨rfl, rfl⟩ := Prod.mk.inj hh
  rw [hb] at hko
  have HO := Aside0.mk hko
  clear hko hh hb
  go_enter Try.func34, Try.ntmps34
  go_wp2_with fail
  refine (qat.calls (hr0_1 := Kd.qaw HR1.out HB0.out) (hc0_1 := hc1) (hr0_2 := Kd.qaw HR2.out HB0.out) (hc0_2 := hc2) (hr0_3 := Kd.qaw HR3.out HB0.out) (hc0_3 := hc3) (h := HO.out)).mono ?_
  rintro e w1 ⟨rfl, hb1⟩
  have HB1 := Aside0.mk (qag HB0.out hb1)
  clear hb1
  go_wp2_with fail
  go_ret2
  exact ⟨_, rfl, BR.nil, HB1.out⟩
 | true =>
  rw [if_pos hb] at hh
  rw [hb] at hko
  have HO := Aside0.mk hko
  cases hf : freeB b ps ms ks with
  | true =>
   rw [if_pos hf] at hh
   obtain ⟨rfl, rfl⟩ := Prod.mk.inj hh
   rw [hf] at HFO
   clear hko hh hb hf
   go_enter Try.func34, Try.ntmps34
   go_wp2_with fail
   refine (qat.calls (hr0_1 := Kd.qaw HR1.out HB0.out) (hc0_1 := hc1) (hr0_2 := Kd.qaw HR2.out HB0.out) (hc0_2 := hc2) (hr0_3 := Kd.qaw HR3.out HB0.out) (hc0_3 := hc3) (h := HO.out)).mono ?_
   rintro e w1 ⟨rfl, hb1⟩
   have HB1 := Aside0.mk (qag HB0.out hb1)
   have HK1 := Aside0.mk (qas HK0.out hb1)
   clear hb1
   obtain ⟨b0, b1, b2, b3⟩ := qgK HK1.out
   go_wp2_with fail
   refine (qbm.calls (hr0_1 := Kd.qaw HR1.out HB1.out) (hc0_1 := hc1) (hr0_2 := Kd.qaw HR2.out HB1.out) (hc0_2 := hc2) (hr0_3 := Kd.qaw HR3.out HB1.out) (hc0_3 := hc3) (h := HFO.out)).mono ?_
   rintro e w2 ⟨rfl, hb2⟩
   have HB2 := Aside0.mk (qag HB1.out hb2)
   clear hb2 b0 b1 b2 b3
   go_wp2_with fail
   go_ret2
   exact ⟨_, rfl, BR.nil, HB2.out⟩
  | false =>
   rw [if_neg (by rw [hf]; decide)] at hh
   obtain ⟨rfl, rfl⟩ := Prod.mk.inj hh
   rw [hf] at HFO
   have hfit := qeD hb hf
   obtain ⟨kt, hkt⟩ := Ev.rounds (qfZ hfit)
   have HT := Aside0.mk hkt
   have HZ := Aside0.mk (show (nodeT b ps ms ks).size ≤ 200000000 from by
    have := qcj hfit
    unfold nodeT
    rw [qeo, ByteArray.size_append, show (markT b).size = 1 from rfl]
    omega)
   have kb := fun W => qdv (P := Try.prog) 9 52 5 Try.underlying9 Try.underlying52 Try.underlying5 (nodeT b ps ms ks) W
   clear hko hh hb hf hfit hkt
   go_enter Try.func34, Try.ntmps34
   go_wp2_with fail
   refine (qat.calls (hr0_1 := Kd.qaw HR1.out HB0.out) (hc0_1 := hc1) (hr0_2 := Kd.qaw HR2.out HB0.out) (hc0_2 := hc2) (hr0_3 := Kd.qaw HR3.out HB0.out) (hc0_3 := hc3) (h := HO.out)).mono ?_
   rintro e w1 ⟨rfl, hb1⟩
   have HB1 := Aside0.mk (qag HB0.out hb1)
   have HK1 := Aside0.mk (qas HK0.out hb1)
   clear hb1
   obtain ⟨b0, b1, b2, b3⟩ := qgK HK1.out
   go_wp2_with fail
   refine (qbm.calls (hr0_1 := Kd.qaw HR1.out HB1.out) (hc0_1 := hc1) (hr0_2 := Kd.qaw HR2.out HB1.out) (hc0_2 := hc2) (hr0_3 := Kd.qaw HR3.out HB1.out) (hc0_3 := hc3) (h := HFO.out)).mono ?_
   rintro e w2 ⟨rfl, hb2⟩
   have HB2 := Aside0.mk (qag HB1.out hb2)
   have HK2 := Aside0.mk (qas HK1.out hb2)
   clear hb2 b0 b1 b2 b3
   obtain ⟨b0, b1, b2, b3⟩ := qgK HK2.out
   go_wp2_with fail
   refine (qao.calls (hr0_1 := Kd.qaw HR1.out HB2.out) (hc0_1 := hc1) (hr0_2 := Kd.qaw HR2.out HB2.out) (hc0_2 := hc2) (hr0_3 := Kd.qaw HR3.out HB2.out) (hc0_3 := hc3) (h := HT.out)).mono ?_
   rintro e w3 ⟨rfl, hb3⟩
   have HB3 := Aside0.mk (qag HB2.out hb3)
   clear hb3 b0 b1 b2 b3
   go_wp2_with fail
   go_ret2
   exact ⟨_, rfl, BR.lower (BR.of_bytes (nodeT b ps ms ks) (by have := HZ.out; omega)) HB3.out.size, qdw HB3.out HB3.out.size _ _⟩
end Go.Proofs.Ytenfomejccfkgaa.X
namespace Go.Proofs.Ytenfomejccfkgaa.X
open Go.RowKit Go.Proofs.YtenfomejccfkgaaW.PrintWords Go.Proofs.YtenfomejccfkgaaW.PrintLast Go.Proofs.YtenfomejccfkgaaW.PrintMore
attribute [local go_sem] qaE qaF qaG qaz qaA qaS qaT qau qav qaB qaC
set_option linter.unusedVariables false
set_option linter.unusedSimpArgs false
def qa7.l0 : Nat → List Int → List Int → Int → Option (Bool)
 | 0, _, _, _ => none
 | k + 1, x0, x1, x5 => if x5 < (x0.length : Int) then (if 0 ≤ x5 then (if x5 < (x1.length : Int) then (if (rd x0 x5) = (rd x1 x5) then (qa7.l0 k x0 x1 (wrap64 (x5 + 1))) else (some false)) else (none)) else (none)) else (some true)
def qa7.f (k : Nat) (l0 : List Int) (l1 : List Int) : Option (Bool) := if (l0.length : Int) = (l1.length : Int) then (qa7.l0 k l0 l1 0) else (some false)
theorem qa7.qbf : ∀ k, (∀ y0 y1 y2, LeO (qa7.l0 k y0 y1 y2) (qa7.l0 (k + 1) y0 y1 y2))
 | 0 => fun _ _ _ r h => by simp [qa7.l0] at h
 | k + 1 => by
  have ih0 := qa7.qbf k
  ·intro y0 y1 y2
   unfold qa7.l0
   repeat' first
   | (with_reducible exact ih0 _ _ _)
   | (with_reducible exact LeO.refl _)
   | (with_reducible exact LeO.none _)
   | (with_reducible refine LeO.ite ?_ ?_)
   | (with_reducible refine LeO.bind ?_ (fun _ => ?_))
   | exact ih0 _ _ _
   | exact LeO.none _
   | refine LeO.ite ?_ ?_
   | refine LeO.bind ?_ (fun _ => ?_)
theorem qa7.mono : ∀ a0 a1 k, LeO (qa7.f k a0 a1) (qa7.f (k + 1) a0 a1) := by
 intro a0 a1 k
 have ih0 := qa7.qbf k
 unfold qa7.f
 repeat' first
   | (with_reducible exact ih0 _ _ _)
   | (with_reducible exact LeO.refl _)
   | (with_reducible exact LeO.none _)
   | (with_reducible refine LeO.ite ?_ ?_)
   | (with_reducible refine LeO.bind ?_ (fun _ => ?_))
   | exact ih0 _ _ _
   | exact LeO.none _
   | refine LeO.ite ?_ ?_
   | refine LeO.bind ?_ (fun _ => ?_)
set_option maxHeartbeats 8000000 in
set_option maxRecDepth 100000 in
theorem qa7.calls (k : Nat) (A0 : Option Addr) (c0 : Nat) (l0 : List Int) (A1 : Option Addr) (c1 : Nat) (l1 : List Int) (r : Bool) (w : World) (hr0 : Kd.C (Kd.int .u8) w A0 l0.length l0) (hc0 : l0.length ≤ c0) (hr1 : Kd.C (Kd.int .u8) w A1 l1.length l1) (hc1 : l1.length ≤ c1) (h : qa7.f k l0 l1 = some r) :
  Calls Try.prog 35 #[.slice A0 l0.length c0, .slice A1 l1.length c1] w fun e w' => e = .returned (.bool r) ∧ qa0 w w' := by
 have HR0 := Aside0.mk hr0
 have HC0 := Aside0.mk hc0
 clear hr0 hc0
 have HR1 := Aside0.mk hr1
 have HC1 := Aside0.mk hc1
 clear hr1 hc1
 have H : (if (l0.length : Int) = (l1.length : Int) then (qa7.l0 k l0 l1 0) else (some false)) = some r := h
 clear h
 by_cases c3 : (l0.length : Int) = (l1.length : Int)
 ·rw [if_pos c3] at H
  have c3b0 : ((l0.length : Int) == (l1.length : Int)) = true := beq_iff_eq.mpr c3
  have c3b1 : ((l0.length : Int) != (l1.length : Int)) = false := bne_eq_false_iff_eq.mpr c3
  have c3b2 : (l0.length == l1.length) = true := by first | simpa using c3 | (simp at c3 ⊢; omega)
  clear c3
  have H' := Aside0.mk H
  clear H
  go_enter Try.func35, Try.ntmps35
  go_wp2
  repeat (go_quiet (fail); try go_wp2)
  go_loopg [5] k (fun kq v5 w' => ∃ (x5_1 : Int), v5 = .int .i64 x5_1 ∧ Aside0 (qa7.l0 kq l0 l1 x5_1 = some r) ∧ Aside0 (kq ≤ k) ∧ qa0 w w')
  case atStart => exact ⟨(0), (by first | rfl | (simp; done) | (simp [*]; done)), H', ⟨Nat.le_refl _⟩, by repeat (first | exact qa0.refl _ | apply qa0.step)⟩
  case round =>
   clear H'
   try clear c1
   try clear p2
   try clear c3
   try clear c3b0
   try clear c3b1
   try clear c3b2
   obtain ⟨x5_1, rfl, HA, HK1, ⟨m1, rfl⟩⟩ := hrel
   cases gk with
   | zero => exact absurd HA.out (by simp [qa7.l0])
   | succ k1 =>
    have H := HA.out
    clear HA
    simp only [qa7.l0] at H
    by_cases c4 : x5_1 < (l0.length : Int)
    ·rw [if_pos c4] at H
     have c4b0 : decide (x5_1 < (l0.length : Int)) = true := decide_eq_true c4
     clear c4
     by_cases c5 : 0 ≤ x5_1
     ·rw [if_pos c5] at H
      have c5b0 : decide (0 ≤ x5_1) = true := decide_eq_true c5
      clear c5
      by_cases c6 : x5_1 < (l1.length : Int)
      ·rw [if_pos c6] at H
       have c6b0 : decide (x5_1 < (l1.length : Int)) = true := decide_eq_true c6
       clear c6
       by_cases c7 : (rd l0 x5_1) = (rd l1 x5_1)
       ·rw [if_pos c7] at H
        have c7b0 : ((rd l0 x5_1) == (rd l1 x5_1)) = true := beq_iff_eq.mpr c7
        have c7b1 : ((rd l0 x5_1) != (rd l1 x5_1)) = false := bne_eq_false_iff_eq.mpr c7
        clear c7
        have H' := Aside0.mk H
        clear H
        have p426 : 0 ≤ (x5_1 : Int) := of_decide_eq_true (by first | (with_reducible assumption) | assumption)
        have q426 : x5_1 < (l0.length : Int) := of_decide_eq_true (by first | (with_reducible assumption) | assumption)
        obtain ⟨ad426, e426, hx426_0⟩ := Kd.qb1 HR0.out x5_1 p426 q426
        cases e426
        replace p426 := eq_true p426
        replace q426 := eq_true q426
        have p427 : 0 ≤ (x5_1 : Int) := of_decide_eq_true (by first | (with_reducible assumption) | assumption)
        have q427 : x5_1 < (l1.length : Int) := of_decide_eq_true (by first | (with_reducible assumption) | assumption)
        obtain ⟨ad427, e427, hx427_0⟩ := Kd.qb1 HR1.out x5_1 p427 q427
        cases e427
        replace p427 := eq_true p427
        replace q427 := eq_true q427
        go_wp2
        repeat (go_quiet (fail); try go_wp2)
        go_roundg k1
        case measure => have := HK1.out; omega
        case rel => exact ⟨(wrap64 (x5_1 + 1)), (by first | rfl | (simp; done) | (simp [*]; done)), H', ⟨by have := HK1.out; omega⟩, by repeat (first | exact qa0.refl _ | apply qa0.step)⟩
       ·rw [if_neg c7] at H
        have c7b0 : ((rd l0 x5_1) == (rd l1 x5_1)) = false := beq_eq_false_iff_ne.mpr c7
        have c7b1 : ((rd l0 x5_1) != (rd l1 x5_1)) = true := bne_iff_ne.mpr c7
        obtain rfl := Option.some.inj H
        have p426 : 0 ≤ (x5_1 : Int) := of_decide_eq_true (by first | (with_reducible assumption) | assumption)
        have q426 : x5_1 < (l0.length : Int) := of_decide_eq_true (by first | (with_reducible assumption) | assumption)
        obtain ⟨ad426, e426, hx426_0⟩ := Kd.qb1 HR0.out x5_1 p426 q426
        cases e426
        replace p426 := eq_true p426
        replace q426 := eq_true q426
        have p427 : 0 ≤ (x5_1 : Int) := of_decide_eq_true (by first | (with_reducible assumption) | assumption)
        have q427 : x5_1 < (l1.length : Int) := of_decide_eq_true (by first | (with_reducible assumption) | assumption)
        obtain ⟨ad427, e427, hx427_0⟩ := Kd.qb1 HR1.out x5_1 p427 q427
        cases e427
        replace p427 := eq_true p427
        replace q427 := eq_true q427
        go_wp2
        repeat (go_quiet (fail); try go_wp2)
        go_ret
        exact ⟨by first | rfl | (simp; done) | (simp [*]; done), by repeat (first | exact qa0.refl _ | apply qa0.step)⟩
      ·rw [if_neg c6] at H
       exact absurd H (by simp)
     ·rw [if_neg c5] at H
      exact absurd H (by simp)
    ·rw [if_neg c4] at H
     have c4b0 : decide (x5_1 < (l0.length : Int)) = false := decide_eq_false c4
     clear c4
     obtain rfl := Option.some.inj H
     go_wp2
     repeat (go_quiet (fail); try go_wp2)
     go_ret
     exact ⟨by first | rfl | (simp; done) | (simp [*]; done), by repeat (first | exact qa0.refl _ | apply qa0.step)⟩
 ·rw [if_neg c3] at H
  have c3b0 : ((l0.length : Int) == (l1.length : Int)) = false := beq_eq_false_iff_ne.mpr c3
  have c3b1 : ((l0.length : Int) != (l1.length : Int)) = true := bne_iff_ne.mpr c3
  have c3b2 : (l0.length == l1.length) = false := by first | simpa using c3 | (simp at c3 ⊢; omega)
  obtain rfl := Option.some.inj H
  go_enter Try.func35, Try.ntmps35
  go_wp2
  repeat (go_quiet (fail); try go_wp2)
  go_ret
  exact ⟨by first | rfl | (simp; done) | (simp [*]; done), by repeat (first | exact qa0.refl _ | apply qa0.step)⟩
end Go.Proofs.Ytenfomejccfkgaa.X
namespace Go.Proofs.Ytenfomejccfkgaa.X
open Go.RowKit Go.Proofs.YtenfomejccfkgaaW.PrintWords Go.Proofs.YtenfomejccfkgaaW.PrintLast Go.Proofs.YtenfomejccfkgaaW.PrintMore
attribute [local go_sem] qaE qaF qaG qaz qaA qaS qaT qau qav qaB qaC
set_option linter.unusedVariables false
set_option linter.unusedSimpArgs false
theorem qeE (rest : List Int) : ∀ (pre : List Int), (pre ++ rest).length ≤ 9223372036854775807 → (True) → Ev (fun k => qa7.l0 k (pre ++ rest) (pre ++ rest) ((pre.length : Nat) : Int)) true := by
 induction rest with
 | nil =>
  intro pre hl hs
  refine Ev.succ ?_
  simp only [qa7.l0]
  exact Ev.neg (by simp) (Ev.is rfl)
 | cons x rest ih =>
  intro pre hl hs
  have hx : rd (pre ++ x :: rest) ((pre.length : Nat) : Int) = x := by simp [rd, List.getD_eq_getElem?_getD]
  have hlt : ((pre.length : Nat) : Int) < ((pre ++ x :: rest).length : Int) := by simp; omega
  have hwp : wrap64 (((pre.length : Nat) : Int) + 1) = (((pre ++ [x]).length : Nat) : Int) := by rw [← qbJ]; exact qbV (by simp at hl; omega)
  have e1 : pre ++ x :: rest = (pre ++ [x]) ++ rest := by simp
  have hi := ih (pre ++ [x]) (by rw [← e1]; exact hl) trivial
  rw [← e1] at hi
  refine Ev.succ ?_
  simp only [qa7.l0, hx, hwp]
  exact Ev.pos hlt (Ev.pos (by omega) (Ev.pos hlt (Ev.pos (by first | trivial | rfl) hi)))
theorem eq_ByteS (l : List Int) (h : l.length ≤ 9223372036854775807) : Ev (fun k => qa7.f k l l) true := by
 unfold qa7.f
 have hh := qeE l [] (by simpa using h) trivial
 exact Ev.pos rfl (by simpa using hh)
end Go.Proofs.Ytenfomejccfkgaa.X
namespace Go.Proofs.Ytenfomejccfkgaa.X
open Go.RowKit Go.Proofs.YtenfomejccfkgaaW.PrintWords Go.Proofs.YtenfomejccfkgaaW.PrintLast Go.Proofs.YtenfomejccfkgaaW.PrintMore
attribute [local go_sem] qaE qaF qaG qaz qaA qaS qaT qau qav qaB qaC
set_option linter.unusedVariables false
set_option linter.unusedSimpArgs false
def qa2.l0 : Nat → List Int → List Int → Int → Option (Bool)
 | 0, _, _, _ => none
 | k + 1, x0, x1, x5 => if x5 < (x0.length : Int) then (if 0 ≤ x5 then (if x5 < (x1.length : Int) then (if (rd x0 x5) = (rd x1 x5) then (qa2.l0 k x0 x1 (wrap64 (x5 + 1))) else (some false)) else (none)) else (none)) else (some true)
def qa2.f (k : Nat) (l0 : List Int) (l1 : List Int) : Option (Bool) := if (l0.length : Int) = (l1.length : Int) then (qa2.l0 k l0 l1 0) else (some false)
theorem qa2.qbf : ∀ k, (∀ y0 y1 y2, LeO (qa2.l0 k y0 y1 y2) (qa2.l0 (k + 1) y0 y1 y2))
 | 0 => fun _ _ _ r h => by simp [qa2.l0] at h
 | k + 1 => by
  have ih0 := qa2.qbf k
  ·intro y0 y1 y2
   unfold qa2.l0
   repeat' first
   | (with_reducible exact ih0 _ _ _)
   | (with_reducible exact LeO.refl _)
   | (with_reducible exact LeO.none _)
   | (with_reducible refine LeO.ite ?_ ?_)
   | (with_reducible refine LeO.bind ?_ (fun _ => ?_))
   | exact ih0 _ _ _
   | exact LeO.none _
   | refine LeO.ite ?_ ?_
   | refine LeO.bind ?_ (fun _ => ?_)
theorem qa2.mono : ∀ a0 a1 k, LeO (qa2.f k a0 a1) (qa2.f (k + 1) a0 a1) := by
 intro a0 a1 k
 have ih0 := qa2.qbf k
 unfold qa2.f
 repeat' first
   | (with_reducible exact ih0 _ _ _)
   | (with_reducible exact LeO.refl _)
   | (with_reducible exact LeO.none _)
   | (with_reducible refine LeO.ite ?_ ?_)
   | (with_reducible refine LeO.bind ?_ (fun _ => ?_))
   | exact ih0 _ _ _
   | exact LeO.none _
   | refine LeO.ite ?_ ?_
   | refine LeO.bind ?_ (fun _ => ?_)
set_option maxHeartbeats 8000000 in
set_option maxRecDepth 100000 in
theorem qa2.calls (k : Nat) (A0 : Option Addr) (c0 : Nat) (l0 : List Int) (A1 : Option Addr) (c1 : Nat) (l1 : List Int) (r : Bool) (w : World) (hr0 : Kd.C (Kd.int .i64) w A0 l0.length l0) (hc0 : l0.length ≤ c0) (hr1 : Kd.C (Kd.int .i64) w A1 l1.length l1) (hc1 : l1.length ≤ c1) (h : qa2.f k l0 l1 = some r) :
  Calls Try.prog 28 #[.slice A0 l0.length c0, .slice A1 l1.length c1] w fun e w' => e = .returned (.bool r) ∧ qa0 w w' := by
 have HR0 := Aside0.mk hr0
 have HC0 := Aside0.mk hc0
 clear hr0 hc0
 have HR1 := Aside0.mk hr1
 have HC1 := Aside0.mk hc1
 clear hr1 hc1
 have H : (if (l0.length : Int) = (l1.length : Int) then (qa2.l0 k l0 l1 0) else (some false)) = some r := h
 clear h
 by_cases c3 : (l0.length : Int) = (l1.length : Int)
 ·rw [if_pos c3] at H
  have c3b0 : ((l0.length : Int) == (l1.length : Int)) = true := beq_iff_eq.mpr c3
  have c3b1 : ((l0.length : Int) != (l1.length : Int)) = false := bne_eq_false_iff_eq.mpr c3
  have c3b2 : (l0.length == l1.length) = true := by first | simpa using c3 | (simp at c3 ⊢; omega)
  clear c3
  have H' := Aside0.mk H
  clear H
  go_enter Try.func28, Try.ntmps28
  go_wp2
  repeat (go_quiet (fail); try go_wp2)
  go_loopg [5] k (fun kq v5 w' => ∃ (x5_1 : Int), v5 = .int .i64 x5_1 ∧ Aside0 (qa2.l0 kq l0 l1 x5_1 = some r) ∧ Aside0 (kq ≤ k) ∧ qa0 w w')
  case atStart => exact ⟨(0), (by first | rfl | (simp; done) | (simp [*]; done)), H', ⟨Nat.le_refl _⟩, by repeat (first | exact qa0.refl _ | apply qa0.step)⟩
  case round =>
   clear H'
   try clear c1
   try clear c2
   try clear p2
   try clear c3
   try clear c3b0
   try clear c3b1
   try clear c3b2
   obtain ⟨x5_1, rfl, HA, HK1, ⟨m1, rfl⟩⟩ := hrel
   cases gk with
   | zero => exact absurd HA.out (by simp [qa2.l0])
   | succ k1 =>
    have H := HA.out
    clear HA
    simp only [qa2.l0] at H
    by_cases c4 : x5_1 < (l0.length : Int)
    ·rw [if_pos c4] at H
     have c4b0 : decide (x5_1 < (l0.length : Int)) = true := decide_eq_true c4
     clear c4
     by_cases c5 : 0 ≤ x5_1
     ·rw [if_pos c5] at H
      have c5b0 : decide (0 ≤ x5_1) = true := decide_eq_true c5
      clear c5
      by_cases c6 : x5_1 < (l1.length : Int)
      ·rw [if_pos c6] at H
       have c6b0 : decide (x5_1 < (l1.length : Int)) = true := decide_eq_true c6
       clear c6
       by_cases c7 : (rd l0 x5_1) = (rd l1 x5_1)
       ·rw [if_pos c7] at H
        have c7b0 : ((rd l0 x5_1) == (rd l1 x5_1)) = true := beq_iff_eq.mpr c7
        have c7b1 : ((rd l0 x5_1) != (rd l1 x5_1)) = false := bne_eq_false_iff_eq.mpr c7
        clear c7
        have H' := Aside0.mk H
        clear H
        have p225 : 0 ≤ (x5_1 : Int) := of_decide_eq_true (by first | (with_reducible assumption) | assumption)
        have q225 : x5_1 < (l0.length : Int) := of_decide_eq_true (by first | (with_reducible assumption) | assumption)
        obtain ⟨ad225, e225, hx225_0⟩ := Kd.qb1 HR0.out x5_1 p225 q225
        cases e225
        replace p225 := eq_true p225
        replace q225 := eq_true q225
        have p226 : 0 ≤ (x5_1 : Int) := of_decide_eq_true (by first | (with_reducible assumption) | assumption)
        have q226 : x5_1 < (l1.length : Int) := of_decide_eq_true (by first | (with_reducible assumption) | assumption)
        obtain ⟨ad226, e226, hx226_0⟩ := Kd.qb1 HR1.out x5_1 p226 q226
        cases e226
        replace p226 := eq_true p226
        replace q226 := eq_true q226
        go_wp2
        repeat (go_quiet (fail); try go_wp2)
        go_roundg k1
        case measure => have := HK1.out; omega
        case rel => exact ⟨(wrap64 (x5_1 + 1)), (by first | rfl | (simp; done) | (simp [*]; done)), H', ⟨by have := HK1.out; omega⟩, by repeat (first | exact qa0.refl _ | apply qa0.step)⟩
       ·rw [if_neg c7] at H
        have c7b0 : ((rd l0 x5_1) == (rd l1 x5_1)) = false := beq_eq_false_iff_ne.mpr c7
        have c7b1 : ((rd l0 x5_1) != (rd l1 x5_1)) = true := bne_iff_ne.mpr c7
        obtain rfl := Option.some.inj H
        have p225 : 0 ≤ (x5_1 : Int) := of_decide_eq_true (by first | (with_reducible assumption) | assumption)
        have q225 : x5_1 < (l0.length : Int) := of_decide_eq_true (by first | (with_reducible assumption) | assumption)
        obtain ⟨ad225, e225, hx225_0⟩ := Kd.qb1 HR0.out x5_1 p225 q225
        cases e225
        replace p225 := eq_true p225
        replace q225 := eq_true q225
        have p226 : 0 ≤ (x5_1 : Int) := of_decide_eq_true (by first | (with_reducible assumption) | assumption)
        have q226 : x5_1 < (l1.length : Int) := of_decide_eq_true (by first | (with_reducible assumption) | assumption)
        obtain ⟨ad226, e226, hx226_0⟩ := Kd.qb1 HR1.out x5_1 p226 q226
        cases e226
        replace p226 := eq_true p226
        replace q226 := eq_true q226
        go_wp2
        repeat (go_quiet (fail); try go_wp2)
        go_ret
        exact ⟨by first | rfl | (simp; done) | (simp [*]; done), by repeat (first | exact qa0.refl _ | apply qa0.step)⟩
      ·rw [if_neg c6] at H
       exact absurd H (by simp)
     ·rw [if_neg c5] at H
      exact absurd H (by simp)
    ·rw [if_neg c4] at H
     have c4b0 : decide (x5_1 < (l0.length : Int)) = false := decide_eq_false c4
     clear c4
     obtain rfl := Option.some.inj H
     go_wp2
     repeat (go_quiet (fail); try go_wp2)
     go_ret
     exact ⟨by first | rfl | (simp; done) | (simp [*]; done), by repeat (first | exact qa0.refl _ | apply qa0.step)⟩
 ·rw [if_neg c3] at H
  have c3b0 : ((l0.length : Int) == (l1.length : Int)) = false := beq_eq_false_iff_ne.mpr c3
  have c3b1 : ((l0.length : Int) != (l1.length : Int)) = true := bne_iff_ne.mpr c3
  have c3b2 : (l0.length == l1.length) = false := by first | simpa using c3 | (simp at c3 ⊢; omega)
  obtain rfl := Option.some.inj H
  go_enter Try.func28, Try.ntmps28
  go_wp2
  repeat (go_quiet (fail); try go_wp2)
  go_ret
  exact ⟨by first | rfl | (simp; done) | (simp [*]; done), by repeat (first | exact qa0.refl _ | apply qa0.step)⟩
end Go.Proofs.Ytenfomejccfkgaa.X
namespace Go.Proofs.Ytenfomejccfkgaa.X
open Go.RowKit Go.Proofs.YtenfomejccfkgaaW.PrintWords Go.Proofs.YtenfomejccfkgaaW.PrintLast Go.Proofs.YtenfomejccfkgaaW.PrintMore
attribute [local go_sem] qaE qaF qaG qaz qaA qaS qaT qau qav qaB qaC
set_option linter.unusedVariables false
set_option linter.unusedSimpArgs false
theorem qe8 (rest : List Int) : ∀ (pre : List Int), (pre ++ rest).length ≤ 9223372036854775807 → (True) → Ev (fun k => qa2.l0 k (pre ++ rest) (pre ++ rest) ((pre.length : Nat) : Int)) true := by
 induction rest with
 | nil =>
  intro pre hl hs
  refine Ev.succ ?_
  simp only [qa2.l0]
  exact Ev.neg (by simp) (Ev.is rfl)
 | cons x rest ih =>
  intro pre hl hs
  have hx : rd (pre ++ x :: rest) ((pre.length : Nat) : Int) = x := by simp [rd, List.getD_eq_getElem?_getD]
  have hlt : ((pre.length : Nat) : Int) < ((pre ++ x :: rest).length : Int) := by simp; omega
  have hwp : wrap64 (((pre.length : Nat) : Int) + 1) = (((pre ++ [x]).length : Nat) : Int) := by rw [← qbJ]; exact qbV (by simp at hl; omega)
  have e1 : pre ++ x :: rest = (pre ++ [x]) ++ rest := by simp
  have hi := ih (pre ++ [x]) (by rw [← e1]; exact hl) trivial
  rw [← e1] at hi
  refine Ev.succ ?_
  simp only [qa2.l0, hx, hwp]
  exact Ev.pos hlt (Ev.pos (by omega) (Ev.pos hlt (Ev.pos (by first | trivial | rfl) hi)))
theorem eq_IntS (l : List Int) (h : l.length ≤ 9223372036854775807) : Ev (fun k => qa2.f k l l) true := by
 unfold qa2.f
 have hh := qe8 l [] (by simpa using h) trivial
 exact Ev.pos rfl (by simpa using hh)
end Go.Proofs.Ytenfomejccfkgaa.X
