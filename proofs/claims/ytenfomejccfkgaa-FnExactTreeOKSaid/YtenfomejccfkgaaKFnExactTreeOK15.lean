import Derived.Test.YtenfomejccfkgaaKFnExactTreeOK4
import Derived.Test.YtenfomejccfkgaaKFnExactTreeOK6
import Derived.Test.YtenfomejccfkgaaKFnExactTreeOK11
import Derived.Test.YtenfomejccfkgaaKFnExactTreeOK12
import Derived.Test.YtenfomejccfkgaaKFnExactTreeOK14
import Derived.LoopTactic
import Derived.WalkSpells
namespace Go.Proofs.Ytenfomejccfkgaa.X
open Go.RowKit Go.Proofs.YtenfomejccfkgaaW.PrintWords Go.Proofs.YtenfomejccfkgaaW.PrintLast Go.Proofs.YtenfomejccfkgaaW.PrintMore
attribute [local go_sem] qaN qaO qaP qaJ qaK qaX qaY qaD qaE qaL qaM
set_option linter.unusedVariables false
set_option linter.unusedSimpArgs false
def qbh.f (k : Nat) (l0 : List (S99)) : Option (Bool) := if (l0.length : Int) ≤ 60 then ((qas.f k l0).bind fun t217 => (some t217)) else (some false)
theorem qbh.mono : ∀ a0 k, LeO (qbh.f k a0) (qbh.f (k + 1) a0) := by
 intro a0 k
 unfold qbh.f
 repeat' first
   | (with_reducible exact qas.mono _ _)
   | (with_reducible exact LeO.refl _)
   | (with_reducible exact LeO.none _)
   | (with_reducible refine LeO.ite ?_ ?_)
   | (with_reducible refine LeO.bind ?_ (fun _ => ?_))
   | exact qas.mono _ _
   | exact LeO.none _
   | refine LeO.ite ?_ ?_
   | refine LeO.bind ?_ (fun _ => ?_)
set_option maxHeartbeats 8000000 in
set_option maxRecDepth 100000 in
theorem qbh.calls (k : Nat) (A0 : Option Addr) (c0 : Nat) (l0 : List (S99)) (r : Bool) (w : World) (hr0 : Kd.C k99 w A0 l0.length l0) (hc0 : l0.length ≤ c0) (h : qbh.f k l0 = some r) :
  Calls Try.prog 122 #[.slice A0 l0.length c0] w fun e w' => e = .returned (.bool r) ∧ Below w.heap.size w w' := by
 have HR0 := Aside0.mk hr0
 have HC0 := Aside0.mk hc0
 clear hr0 hc0
 have HB := Aside0.mk (Below.refl w.heap.size w)
 have H : (if (l0.length : Int) ≤ 60 then ((qas.f k l0).bind fun t217 => (some t217)) else (some false)) = some r := h
 clear h
 by_cases c2 : (l0.length : Int) ≤ 60
 ·rw [if_pos c2] at H
  have c2b0 : decide ((l0.length : Int) ≤ 60) = true := decide_eq_true c2
  have c2b1 : decide (l0.length ≤ 60) = true := decide_eq_true (by omega)
  clear c2
  replace H := Option.bind_eq_some_iff.mp H
  obtain ⟨t217, A30, H⟩ := H
  replace H : (some t217) = some r := H
  have A3 := Aside0.mk A30
  clear A30
  obtain rfl := Option.some.inj H
  go_enter Try.func122, Try.ntmps122
  go_wp2_with (first | (go_at_call 129; (with_reducible refine (qas.calls k _ _ l0 t217 _ ?side1 ?side2 A3.out).mono ?_); (case side1 => repeat (first | exact HR0.out | (with_reducible refine Kd.qaz ?_ _) | (with_reducible refine Kd.qaA ?_ _) | (with_reducible refine Kd.qaQ ?_))); (case side2 => exact HC0.out); rintro e w4 ⟨rfl, hb⟩; have n0_ := Aside0.mk (qaj (by repeat (first | (with_reducible first | exact HB.out | apply qab | apply qaa | apply qac) | exact HB.out)) hb); clear HB; have HB := n0_; clear n0_; (try clear hb); (try clear hb2); (try clear hk); (try clear hi)))
  go_ret
  exact ⟨by first | rfl | (simp [qam, qan] <;> rfl) | (simp [*, qam, qan] <;> rfl), by repeat (first | (with_reducible first | exact HB.out | apply qab | apply qaa | apply qac) | exact HB.out)⟩
 ·rw [if_neg c2] at H
  have c2b0 : decide ((l0.length : Int) ≤ 60) = false := decide_eq_false c2
  have c2b1 : decide (l0.length ≤ 60) = false := decide_eq_false (by omega)
  clear c2
  obtain rfl := Option.some.inj H
  go_enter Try.func122, Try.ntmps122
  go_wp2
  go_ret
  exact ⟨by first | rfl | (simp [qam, qan] <;> rfl) | (simp [*, qam, qan] <;> rfl), by repeat (first | (with_reducible first | exact HB.out | apply qab | apply qaa | apply qac) | exact HB.out)⟩
end Go.Proofs.Ytenfomejccfkgaa.X
namespace Go.Proofs.Ytenfomejccfkgaa.X
open Go.RowKit Go.Proofs.YtenfomejccfkgaaW.PrintWords Go.Proofs.YtenfomejccfkgaaW.PrintLast Go.Proofs.YtenfomejccfkgaaW.PrintMore
attribute [local go_sem] qaN qaO qaP qaJ qaK qaX qaY qaD qaE qaL qaM
set_option linter.unusedVariables false
set_option linter.unusedSimpArgs false
theorem qcV (l : List S99) : Ev (fun k => qbh.f k l) (qcw l) := by
 unfold qbh.f qcw
 by_cases h : (l.length : Int) ≤ 60
 ·exact Ev.pos h (Ev.bind (qdM l (by omega)) (Ev.is (by simp [show l.length ≤ 60 by omega])))
 ·exact Ev.neg h (Ev.is (by simp [show ¬ l.length ≤ 60 by omega]))
end Go.Proofs.Ytenfomejccfkgaa.X
namespace Go.Proofs.Ytenfomejccfkgaa.X
open Go.RowKit Go.Proofs.YtenfomejccfkgaaW.PrintWords Go.Proofs.YtenfomejccfkgaaW.PrintLast Go.Proofs.YtenfomejccfkgaaW.PrintMore
attribute [local go_sem] qaN qaO qaP qaJ qaK qaX qaY qaD qaE qaL qaM
set_option linter.unusedVariables false
set_option linter.unusedSimpArgs false
def qc8.T3 : Bool × List (List Nat × List Nat) := (true, [([], []), ([], []), ([0, 1], [0, 1]), ([2], [2]), ([3, 0, 1, 2, 3], [3])])
def qc8.B3 : List Nat := [0, 0, 3, 7, 15]
theorem qc8.tab3 : rtab .any (opsOf Try.f63 3) = qc8.T3 := by kernel_rfl
theorem qc8.bits3 : qbS qc8.T3.2 qc8.B3 = true := by kernel_rfl
set_option maxHeartbeats 16000000 in
set_option maxRecDepth 100000 in
theorem qf6 (ns : List S56) (root : Int) (A : Option Addr) (c : Nat) (w : World) (hr : Kd.C k56 w A ns.length ns) (hbd : qc7 ns) (hno : (walkR ns root).2.2 = false) : Calls Try.prog 63 #[.agg #[.slice A ns.length c], .int .i64 root] w fun e w' => e = .returned (.pointer none) ∧ Below w.heap.size w w' := by
 have hu := Try.underlying29
 have hu2 := Try.underlying155
 have hu3 := Try.underlying89
 have HR := Aside0.mk hr
 obtain ⟨w1, hw1⟩ : ∃ w1, w1 = w.alloc (.cells #[.slice A ns.length c] 29 (0, 0)) := ⟨_, rfl⟩
 have HB1 := Aside0.mk (show Below w.heap.size w w1 from hw1 ▸ qab (Below.refl _ w) _)
 have BX1 := Aside0.mk (show w1.heap[w.heap.size]? = some (.cells #[.slice A ns.length c] 29 (0, 0)) from hw1 ▸ qcH w _)
 by_cases hl : ns.length = 50
 ·have c1 : ((ns.length : Int) != 50) = false := by rw [hl]; rfl
  have hin := qek root (-1) 49
  cases hr : inB root (-1) 49 with
  | false =>
   rw [hr] at hin
   have HIN := Aside0.mk hin
   clear hno hl hbd hin hr
   go_enter Try.func63, Try.ntmps63
   go_wp2_with fail
   refine (qa6.calls _ _ _ _ _ HIN.out).mono ?_
   rintro e w2 ⟨rfl, hdr⟩
   rw [← hw1] at hdr
   have HB2 := Aside0.mk (qaj HB1.out hdr.below)
   clear hdr
   go_wp2_with fail
   go_ret
   exact ⟨rfl, HB2.out⟩
  | true =>
   have hrg : -1 ≤ root ∧ root ≤ 49 := by unfold inB at hr; simpa using hr
   rw [hr] at hin
   have HIN := Aside0.mk hin
   have HRG := Aside0.mk hrg
   have HL := Aside0.mk hl
   have HBD := Aside0.mk hbd
   have HNO := Aside0.mk hno
   clear hno hl hbd hin hr hrg
   go_enter Try.func63, Try.ntmps63
   go_wp2_with fail
   refine (qa6.calls _ _ _ _ _ HIN.out).mono ?_
   rintro e w2 ⟨rfl, hdr⟩
   rw [← hw1] at hdr
   have HB2 := Aside0.mk (qaj HB1.out hdr.below)
   have BX2 := Aside0.mk (qau BX1.out hdr.below)
   clear hdr hw1 HB1 BX1
   go_upto_region 3 with fail
   have BX5 := Aside0.mk (qap BX2.out)
   have HB5 := Aside0.mk (qbp HB2.out)
   clear HB2 BX2 c1
   refine qce (n := 5) (S := fun w' => True) (ds := []) #[false, false, false, false, false] (by kernel_rfl) rfl rfl trivial (fun hHeld => ?_)
   refine qbI qc8.tab3 qc8.bits3 (fun HT_ HW_ => ?_)
   generalize w2.drew = wd at BX5 HB5 ⊢
   refine qcq [0, 1, 2, 3, 4] (fun a0_ b a w' => ∃ (As : Option Addr) (cs : Nat) (gw : Nat) (m1_ : Value) (m2_ : Value) (m3_ : Value) (m4_ : Value), a = qbc a0_ b [(0, 15, .agg #[.slice A ns.length c]), (1, 16, m1_), (2, 17, m2_), (3, 18, m3_), (4, 5, m4_)] ∧ (w'.heap[w.heap.size]? = some (.cells #[.slice A ns.length c] 29 (0, 0))) ∧ (Below w.heap.size w w') ∧ (b 1 = true → Kd.R Kd.bool 4 w' w.heap.size (fun _ => True) (.slice As noneW.length cs) noneW) ∧ (b 3 = true → w'.heap[gw]? = some (.cells #[.slice A ns.length c, .slice As noneW.length cs, .slice none 0 0] 155 (0, 0))) ∧ (b 3 = true → w.heap.size ≤ gw) ∧ (b 1 = true → (m1_ : Value) = .slice As noneW.length cs) ∧ (b 2 = true → (m2_ : Value) = .agg #[.slice A ns.length c, .slice As noneW.length cs, .slice none 0 0]) ∧ (b 3 = true → (m3_ : Value) = .pointer (some ⟨gw, 0, none⟩)) ∧ (b 4 = true → (m4_ : Value) = .pointer (some ⟨gw, 0, none⟩))) HT_.out HW_.out (by kernel_rfl) (by kernel_rfl) ?_ ?_ ?_
   ·exact ⟨none, 0, 0, .bool false, .bool false, .bool false, .bool false, by simp only [qbc, Bool.false_eq_true, if_false], BX5.out, HB5.out, fun h_ => absurd h_ (by decide), fun h_ => absurd h_ (by decide), fun h_ => absurd h_ (by decide), fun h_ => absurd h_ (by decide), fun h_ => absurd h_ (by decide), fun h_ => absurd h_ (by decide), fun h_ => absurd h_ (by decide)⟩
   ·skip
    clear BX5 HB5
    refine qaf ?_ ?_
    ·rintro b a w' ⟨As, cs, gw, m1_, m2_, m3_, m4_, ha, Q_BX5, Q_HB5, Q_HS5, Q_BW5, Q_GW5, Q_X1_, Q_X2_, Q_X3_, Q_X4_⟩ hb_ hon hoff
     refine ⟨_, rfl, fun K hK => ?_⟩
     have e2 : a.tmps[2]? = some (.pointer (some ⟨w.heap.size, 0, none⟩)) := by rw [ha]; exact (qaH rfl).trans rfl
     replace ha := Aside0.mk ha
     have BX5 := Aside0.mk Q_BX5
     have HB5 := Aside0.mk Q_HB5
     have hc_ : w'.cell? ⟨w.heap.size, 0, none⟩ = some (.slice A ns.length c) := qah BX5.out 0
     refine qar (w1 := w') (v := .agg #[.slice A ns.length c]) (by rfl) rfl ?_ ?_
     ·go_simp
      (try simp only [qav])
      try rfl
     refine hK.out _ _ ⟨As, cs, gw, m1_, m2_, m3_, m4_, (by rw [ha.out]; exact qag 0 hb_ rfl rfl rfl), Q_BX5, Q_HB5, Q_HS5, fun h0_ => absurd ((hoff 3 (by kernel_rfl)).symm.trans h0_) (by decide), fun h0_ => absurd ((hoff 3 (by kernel_rfl)).symm.trans h0_) (by decide), Q_X1_, fun h0_ => absurd ((hoff 2 (by kernel_rfl)).symm.trans h0_) (by decide), fun h0_ => absurd ((hoff 3 (by kernel_rfl)).symm.trans h0_) (by decide), fun h0_ => absurd ((hoff 4 (by kernel_rfl)).symm.trans h0_) (by decide)⟩
    refine qaf ?_ ?_
    ·rintro b a w' ⟨As, cs, gw, m1_, m2_, m3_, m4_, ha, Q_BX5, Q_HB5, Q_HS5, Q_BW5, Q_GW5, Q_X1_, Q_X2_, Q_X3_, Q_X4_⟩ hb_ hon hoff
     refine ⟨_, rfl, fun K hK => ?_⟩
     replace ha := Aside0.mk ha
     have BX5 := Aside0.mk Q_BX5
     have HB5 := Aside0.mk Q_HB5
     refine Kd.qda Kd.bool (w0 := w) w.heap.size 4 (by rfl) (N := 16) (by rfl) 89 _ _ (by rfl) 50 (by rfl) (by rfl) Try.underlying89 (.bool false) 1 info4 rfl (by decide) (by omega) false (ok := fun _ => True) (okp := fun _ => True) rfl (fun _ hk => hk) trivial (by omega) (by decide) HB5.out HB5.out.size ?_
     intro v1 w1 ho1 hb1 hg1 hn1
     have ho2 : Kd.R Kd.bool 4 w1 w.heap.size (fun _ => True) v1 noneW := ho1
     obtain ⟨As_, cs_, ev_, _, _⟩ := Kd.qb8 ho2
     subst ev_
     refine hK.out _ _ ⟨As_, cs_, gw, (.slice As_ noneW.length cs_), m2_, m3_, m4_, (by rw [ha.out]; exact qag 1 hb_ rfl rfl rfl), qch BX5.out hg1 (by simp), hb1, fun _ => ho2, fun h0_ => absurd ((hoff 3 (by kernel_rfl)).symm.trans h0_) (by decide), fun h0_ => absurd ((hoff 3 (by kernel_rfl)).symm.trans h0_) (by decide), fun _ => rfl, fun h0_ => absurd ((hoff 2 (by kernel_rfl)).symm.trans h0_) (by decide), fun h0_ => absurd ((hoff 3 (by kernel_rfl)).symm.trans h0_) (by decide), fun h0_ => absurd ((hoff 4 (by kernel_rfl)).symm.trans h0_) (by decide)⟩
    refine qaf ?_ ?_
    ·rintro b a w' ⟨As, cs, gw, m1_, m2_, m3_, m4_, ha, Q_BX5, Q_HB5, Q_HS5, Q_BW5, Q_GW5, Q_X1_, Q_X2_, Q_X3_, Q_X4_⟩ hb_ hon hoff
     refine ⟨_, rfl, fun K hK => ?_⟩
     have e15 : a.tmps[15]? = some (.agg #[.slice A ns.length c]) := by rw [ha]; exact qae (e := (0, 15, .agg #[.slice A ns.length c])) 0 rfl rfl (hon 0 (by kernel_rfl)) rfl
     have e16 : a.tmps[16]? = some (m1_) := by rw [ha]; exact qae (e := (1, 16, m1_)) 1 rfl rfl (hon 1 (by kernel_rfl)) rfl
     rw [Q_X1_ (hon 1 (by kernel_rfl))] at e16
     replace ha := Aside0.mk ha
     have BX5 := Aside0.mk Q_BX5
     have HB5 := Aside0.mk Q_HB5
     have HS5 := Aside0.mk (Q_HS5 (hon 1 (by kernel_rfl)))
     refine qar (w1 := w') (v := .agg #[.slice A ns.length c, .slice As noneW.length cs, .slice none 0 0]) (by rfl) rfl ?_ ?_
     ·go_simp
      (try simp only [qav])
      try rfl
     refine hK.out _ _ ⟨As, cs, gw, m1_, (.agg #[.slice A ns.length c, .slice As noneW.length cs, .slice none 0 0]), m3_, m4_, (by rw [ha.out]; exact qag 2 hb_ rfl rfl rfl), Q_BX5, Q_HB5, Q_HS5, fun h0_ => absurd ((hoff 3 (by kernel_rfl)).symm.trans h0_) (by decide), fun h0_ => absurd ((hoff 3 (by kernel_rfl)).symm.trans h0_) (by decide), Q_X1_, fun _ => rfl, fun h0_ => absurd ((hoff 3 (by kernel_rfl)).symm.trans h0_) (by decide), fun h0_ => absurd ((hoff 4 (by kernel_rfl)).symm.trans h0_) (by decide)⟩
    refine qaf ?_ ?_
    ·rintro b a w' ⟨As, cs, gw, m1_, m2_, m3_, m4_, ha, Q_BX5, Q_HB5, Q_HS5, Q_BW5, Q_GW5, Q_X1_, Q_X2_, Q_X3_, Q_X4_⟩ hb_ hon hoff
     refine ⟨_, rfl, fun K hK => ?_⟩
     have e17 : a.tmps[17]? = some (m2_) := by rw [ha]; exact qae (e := (2, 17, m2_)) 2 rfl rfl (hon 2 (by kernel_rfl)) rfl
     rw [Q_X2_ (hon 2 (by kernel_rfl))] at e17
     replace ha := Aside0.mk ha
     have BX5 := Aside0.mk Q_BX5
     have HB5 := Aside0.mk Q_HB5
     have HS5 := Aside0.mk (Q_HS5 (hon 1 (by kernel_rfl)))
     refine qar (w1 := w'.alloc (.cells #[.slice A ns.length c, .slice As noneW.length cs, .slice none 0 0] 155 (0, 0))) (v := .pointer (some ⟨w'.heap.size, 0, none⟩)) (by rfl) rfl ?_ ?_
     ·go_simp
      try rfl
     refine hK.out _ _ ⟨As, cs, w'.heap.size, m1_, m2_, (.pointer (some ⟨w'.heap.size, 0, none⟩)), m4_, (by rw [ha.out]; exact qag 3 hb_ rfl rfl rfl), qal BX5.out _, qab HB5.out _, fun _ => Kd.qbN HS5.out _, fun _ => qcH w' _, fun _ => HB5.out.size, Q_X1_, Q_X2_, fun _ => rfl, fun h0_ => absurd ((hoff 4 (by kernel_rfl)).symm.trans h0_) (by decide)⟩
    refine qaf ?_ ?_
    ·rintro b a w' ⟨As, cs, gw, m1_, m2_, m3_, m4_, ha, Q_BX5, Q_HB5, Q_HS5, Q_BW5, Q_GW5, Q_X1_, Q_X2_, Q_X3_, Q_X4_⟩ hb_ hon hoff
     refine ⟨_, rfl, fun K hK => ?_⟩
     have e18 : a.tmps[18]? = some (m3_) := by rw [ha]; exact qae (e := (3, 18, m3_)) 3 rfl rfl (hon 3 (by kernel_rfl)) rfl
     rw [Q_X3_ (hon 3 (by kernel_rfl))] at e18
     replace ha := Aside0.mk ha
     have BX5 := Aside0.mk Q_BX5
     have HB5 := Aside0.mk Q_HB5
     have HS5 := Aside0.mk (Q_HS5 (hon 1 (by kernel_rfl)))
     have BW5 := Aside0.mk (Q_BW5 (hon 3 (by kernel_rfl)))
     have GW5 := Aside0.mk (Q_GW5 (hon 3 (by kernel_rfl)))
     refine qar (w1 := w') (v := .pointer (some ⟨gw, 0, none⟩)) (by rfl) rfl ?_ ?_
     ·go_simp
      (try simp only [qav])
      try rfl
     refine hK.out _ _ ⟨As, cs, gw, m1_, m2_, m3_, (.pointer (some ⟨gw, 0, none⟩)), (by rw [ha.out]; exact qag 4 hb_ rfl rfl rfl), Q_BX5, Q_HB5, Q_HS5, Q_BW5, Q_GW5, Q_X1_, Q_X2_, Q_X3_, fun _ => rfl⟩
    exact qbM
   rintro b a wA hall ⟨As, cs, gw, m1_, m2_, m3_, m4_, ha, Q_BX5, Q_HB5, Q_HS5, Q_BW5, Q_GW5, Q_X1_, Q_X2_, Q_X3_, Q_X4_⟩
   clear BX5 HB5
   have hb0_ := hall 0 (by kernel_rfl)
   have hb1_ := hall 1 (by kernel_rfl)
   have hb2_ := hall 2 (by kernel_rfl)
   have hb3_ := hall 3 (by kernel_rfl)
   have hb4_ := hall 4 (by kernel_rfl)
   subst ha
   obtain rfl := Q_X1_ hb1_
   obtain rfl := Q_X2_ hb2_
   obtain rfl := Q_X3_ hb3_
   obtain rfl := Q_X4_ hb4_
   simp only [qbc, hb0_, hb1_, hb2_, hb3_, hb4_, if_true, Act.put, List.setIfInBounds_toArray, List.set_cons_zero, List.set_cons_succ]
   have BX5 := Aside0.mk Q_BX5
   clear Q_BX5
   have HB5 := Aside0.mk Q_HB5
   clear Q_HB5
   have HS5 := Aside0.mk (Q_HS5 hb1_)
   clear Q_HS5
   have BW5 := Aside0.mk (Q_BW5 hb3_)
   clear Q_BW5
   have GW5 := Aside0.mk (Q_GW5 hb3_)
   clear Q_GW5
   clear hall hb0_ hb1_ hb2_ hb3_ hb4_
   clear BX5
   have HW5 := Aside0.mk (show WkAt w wA gw (.slice A ns.length c) (.slice As noneW.length cs) (.slice none 0 0) noneW [] from ⟨GW5.out, BW5.out, HS5.out, Kd.qfE _ _ _ _ _⟩)
   clear GW5 BW5 HS5
   by_cases h0 : 0 ≤ root
   ·obtain ⟨k, rfl⟩ : ∃ k : Nat, root = (k : Int) := ⟨root.toNat, by omega⟩
    have hk : k < 50 := by have := HRG.out; omega
    have c2 : decide (0 ≤ (k : Int)) = true := decide_eq_true h0
    have hres : lookW ns (k : Int) = walkW ns 21 (k : Int) noneW [] := by unfold lookW; rw [if_pos HL.out, if_neg (by omega)]
    have HRES := Aside0.mk hres
    obtain ⟨rb, S2, P2, hlk⟩ : ∃ rb S2 P2, walkW ns 21 (k : Int) noneW [] = (rb, S2, P2) := ⟨_, _, _, rfl⟩
    have hw := qeW ns w A c HR.out HL.out HBD.out 21 k 0 noneW [] wA gw _ _ hk (by omega) (by omega) qdo HB5.out HW5.out
    rw [hlk] at hw hres
    have HLK := Aside0.mk hres
    have HCW := Aside0.mk hw
    clear hlk hres hw h0
    go_wp2_with fail
    refine HCW.out.mono ?_
    rintro e w3 ⟨rfl, hb3, _, hst⟩
    cases rb with
    | false =>
     go_wp2_with fail
     go_ret
     exact ⟨rfl, hb3⟩
    | true =>
     obtain ⟨vs3, vp3, hw3⟩ := hst rfl
     obtain ⟨vpA, vpc, ev, hvc, _⟩ := Kd.qb8 hw3.2.2.2
     subst ev
     obtain ⟨d0, d1, d2, _⟩ := cells3 hw3.2.1
     obtain ⟨ko, hko⟩ := Ev.rounds (qcV P2)
     have hok : qcw P2 = false := by
      have h := HNO.out
      rw [qcZ, HLK.out] at h
      simpa using h
     rw [hok] at hko
     have HKO := Aside0.mk hko
     clear hko hok hst
     go_wp2_with fail
     refine (qbh.calls (hr0 := (Kd.qbG hw3.2.2.2).2.2) (hc0 := (Kd.qbG hw3.2.2.2).2.1) (h := HKO.out)).mono ?_
     rintro e w4 ⟨rfl, hb4⟩
     have HB6 := Aside0.mk (qaj hb3 hb4)
     have HW6 := Aside0.mk (hw3.below hb4)
     clear hb3 hb4 hw3 d0 d1 d2
     go_wp2_with fail
     go_ret
     exact ⟨rfl, HB6.out⟩
   ·have e0 : root = -1 := by have := HRG.out; omega
    have h := HNO.out
    rw [qcZ] at h
    unfold lookW at h
    rw [if_pos HL.out, if_pos e0] at h
    exact absurd h (by decide)
 ·have c1 : ((ns.length : Int) != 50) = true := bne_iff_ne.2 (by omega)
  clear hno hl hbd
  go_enter Try.func63, Try.ntmps63
  go_wp2_with fail
  go_ret
  rw [← hw1]
  exact ⟨rfl, HB1.out⟩
set_option maxHeartbeats 16000000 in
set_option maxRecDepth 100000 in
theorem qed (ns : List S56) (root : Int) (A : Option Addr) (c : Nat) (w : World) (hr : Kd.C k56 w A ns.length ns) (hbd : qc7 ns) (hno : (walkR ns root).2.2 = true) : Calls Try.prog 63 #[.agg #[.slice A ns.length c], .int .i64 root] w fun e w' => ∃ (g : Nat) (vs vp : Value), e = .returned (.pointer (some ⟨g, 0, none⟩)) ∧ WkAt w w' g (.slice A ns.length c) vs vp (walkR ns root).2.1 (walkR ns root).1 ∧ Below w.heap.size w w' := by
 have hu := Try.underlying29
 have hu2 := Try.underlying155
 have hu3 := Try.underlying89
 have HR := Aside0.mk hr
 obtain ⟨w1, hw1⟩ : ∃ w1, w1 = w.alloc (.cells #[.slice A ns.length c] 29 (0, 0)) := ⟨_, rfl⟩
 have HB1 := Aside0.mk (show Below w.heap.size w w1 from hw1 ▸ qab (Below.refl _ w) _)
 have BX1 := Aside0.mk (show w1.heap[w.heap.size]? = some (.cells #[.slice A ns.length c] 29 (0, 0)) from hw1 ▸ qcH w _)
 by_cases hl : ns.length = 50
 ·have c1 : ((ns.length : Int) != 50) = false := by rw [hl]; rfl
  have hin := qek root (-1) 49
  cases hr : inB root (-1) 49 with
  | false =>
   rw [qf2 hr] at hno
   cases hno
  | true =>
   have hrg : -1 ≤ root ∧ root ≤ 49 := by unfold inB at hr; simpa using hr
   rw [hr] at hin
   have HIN := Aside0.mk hin
   have HRG := Aside0.mk hrg
   have HL := Aside0.mk hl
   have HBD := Aside0.mk hbd
   have HNO := Aside0.mk hno
   clear hno hl hbd hin hr hrg
   go_enter Try.func63, Try.ntmps63
   go_wp2_with fail
   refine (qa6.calls _ _ _ _ _ HIN.out).mono ?_
   rintro e w2 ⟨rfl, hdr⟩
   rw [← hw1] at hdr
   have HB2 := Aside0.mk (qaj HB1.out hdr.below)
   have BX2 := Aside0.mk (qau BX1.out hdr.below)
   clear hdr hw1 HB1 BX1
   go_upto_region 3 with fail
   have BX5 := Aside0.mk (qap BX2.out)
   have HB5 := Aside0.mk (qbp HB2.out)
   clear HB2 BX2 c1
   refine qce (n := 5) (S := fun w' => True) (ds := []) #[false, false, false, false, false] (by kernel_rfl) rfl rfl trivial (fun hHeld => ?_)
   refine qbI qc8.tab3 qc8.bits3 (fun HT_ HW_ => ?_)
   generalize w2.drew = wd at BX5 HB5 ⊢
   refine qcq [0, 1, 2, 3, 4] (fun a0_ b a w' => ∃ (As : Option Addr) (cs : Nat) (gw : Nat) (m1_ : Value) (m2_ : Value) (m3_ : Value) (m4_ : Value), a = qbc a0_ b [(0, 15, .agg #[.slice A ns.length c]), (1, 16, m1_), (2, 17, m2_), (3, 18, m3_), (4, 5, m4_)] ∧ (w'.heap[w.heap.size]? = some (.cells #[.slice A ns.length c] 29 (0, 0))) ∧ (Below w.heap.size w w') ∧ (b 1 = true → Kd.R Kd.bool 4 w' w.heap.size (fun _ => True) (.slice As noneW.length cs) noneW) ∧ (b 3 = true → w'.heap[gw]? = some (.cells #[.slice A ns.length c, .slice As noneW.length cs, .slice none 0 0] 155 (0, 0))) ∧ (b 3 = true → w.heap.size ≤ gw) ∧ (b 1 = true → (m1_ : Value) = .slice As noneW.length cs) ∧ (b 2 = true → (m2_ : Value) = .agg #[.slice A ns.length c, .slice As noneW.length cs, .slice none 0 0]) ∧ (b 3 = true → (m3_ : Value) = .pointer (some ⟨gw, 0, none⟩)) ∧ (b 4 = true → (m4_ : Value) = .pointer (some ⟨gw, 0, none⟩))) HT_.out HW_.out (by kernel_rfl) (by kernel_rfl) ?_ ?_ ?_
   ·exact ⟨none, 0, 0, .bool false, .bool false, .bool false, .bool false, by simp only [qbc, Bool.false_eq_true, if_false], BX5.out, HB5.out, fun h_ => absurd h_ (by decide), fun h_ => absurd h_ (by decide), fun h_ => absurd h_ (by decide), fun h_ => absurd h_ (by decide), fun h_ => absurd h_ (by decide), fun h_ => absurd h_ (by decide), fun h_ => absurd h_ (by decide)⟩
   ·skip
    clear BX5 HB5
    refine qaf ?_ ?_
    ·rintro b a w' ⟨As, cs, gw, m1_, m2_, m3_, m4_, ha, Q_BX5, Q_HB5, Q_HS5, Q_BW5, Q_GW5, Q_X1_, Q_X2_, Q_X3_, Q_X4_⟩ hb_ hon hoff
     refine ⟨_, rfl, fun K hK => ?_⟩
     have e2 : a.tmps[2]? = some (.pointer (some ⟨w.heap.size, 0, none⟩)) := by rw [ha]; exact (qaH rfl).trans rfl
     replace ha := Aside0.mk ha
     have BX5 := Aside0.mk Q_BX5
     have HB5 := Aside0.mk Q_HB5
     have hc_ : w'.cell? ⟨w.heap.size, 0, none⟩ = some (.slice A ns.length c) := qah BX5.out 0
     refine qar (w1 := w') (v := .agg #[.slice A ns.length c]) (by rfl) rfl ?_ ?_
     ·go_simp
      (try simp only [qav])
      try rfl
     refine hK.out _ _ ⟨As, cs, gw, m1_, m2_, m3_, m4_, (by rw [ha.out]; exact qag 0 hb_ rfl rfl rfl), Q_BX5, Q_HB5, Q_HS5, fun h0_ => absurd ((hoff 3 (by kernel_rfl)).symm.trans h0_) (by decide), fun h0_ => absurd ((hoff 3 (by kernel_rfl)).symm.trans h0_) (by decide), Q_X1_, fun h0_ => absurd ((hoff 2 (by kernel_rfl)).symm.trans h0_) (by decide), fun h0_ => absurd ((hoff 3 (by kernel_rfl)).symm.trans h0_) (by decide), fun h0_ => absurd ((hoff 4 (by kernel_rfl)).symm.trans h0_) (by decide)⟩
    refine qaf ?_ ?_
    ·rintro b a w' ⟨As, cs, gw, m1_, m2_, m3_, m4_, ha, Q_BX5, Q_HB5, Q_HS5, Q_BW5, Q_GW5, Q_X1_, Q_X2_, Q_X3_, Q_X4_⟩ hb_ hon hoff
     refine ⟨_, rfl, fun K hK => ?_⟩
     replace ha := Aside0.mk ha
     have BX5 := Aside0.mk Q_BX5
     have HB5 := Aside0.mk Q_HB5
     refine Kd.qda Kd.bool (w0 := w) w.heap.size 4 (by rfl) (N := 16) (by rfl) 89 _ _ (by rfl) 50 (by rfl) (by rfl) Try.underlying89 (.bool false) 1 info4 rfl (by decide) (by omega) false (ok := fun _ => True) (okp := fun _ => True) rfl (fun _ hk => hk) trivial (by omega) (by decide) HB5.out HB5.out.size ?_
     intro v1 w1 ho1 hb1 hg1 hn1
     have ho2 : Kd.R Kd.bool 4 w1 w.heap.size (fun _ => True) v1 noneW := ho1
     obtain ⟨As_, cs_, ev_, _, _⟩ := Kd.qb8 ho2
     subst ev_
     refine hK.out _ _ ⟨As_, cs_, gw, (.slice As_ noneW.length cs_), m2_, m3_, m4_, (by rw [ha.out]; exact qag 1 hb_ rfl rfl rfl), qch BX5.out hg1 (by simp), hb1, fun _ => ho2, fun h0_ => absurd ((hoff 3 (by kernel_rfl)).symm.trans h0_) (by decide), fun h0_ => absurd ((hoff 3 (by kernel_rfl)).symm.trans h0_) (by decide), fun _ => rfl, fun h0_ => absurd ((hoff 2 (by kernel_rfl)).symm.trans h0_) (by decide), fun h0_ => absurd ((hoff 3 (by kernel_rfl)).symm.trans h0_) (by decide), fun h0_ => absurd ((hoff 4 (by kernel_rfl)).symm.trans h0_) (by decide)⟩
    refine qaf ?_ ?_
    ·rintro b a w' ⟨As, cs, gw, m1_, m2_, m3_, m4_, ha, Q_BX5, Q_HB5, Q_HS5, Q_BW5, Q_GW5, Q_X1_, Q_X2_, Q_X3_, Q_X4_⟩ hb_ hon hoff
     refine ⟨_, rfl, fun K hK => ?_⟩
     have e15 : a.tmps[15]? = some (.agg #[.slice A ns.length c]) := by rw [ha]; exact qae (e := (0, 15, .agg #[.slice A ns.length c])) 0 rfl rfl (hon 0 (by kernel_rfl)) rfl
     have e16 : a.tmps[16]? = some (m1_) := by rw [ha]; exact qae (e := (1, 16, m1_)) 1 rfl rfl (hon 1 (by kernel_rfl)) rfl
     rw [Q_X1_ (hon 1 (by kernel_rfl))] at e16
     replace ha := Aside0.mk ha
     have BX5 := Aside0.mk Q_BX5
     have HB5 := Aside0.mk Q_HB5
     have HS5 := Aside0.mk (Q_HS5 (hon 1 (by kernel_rfl)))
     refine qar (w1 := w') (v := .agg #[.slice A ns.length c, .slice As noneW.length cs, .slice none 0 0]) (by rfl) rfl ?_ ?_
     ·go_simp
      (try simp only [qav])
      try rfl
     refine hK.out _ _ ⟨As, cs, gw, m1_, (.agg #[.slice A ns.length c, .slice As noneW.length cs, .slice none 0 0]), m3_, m4_, (by rw [ha.out]; exact qag 2 hb_ rfl rfl rfl), Q_BX5, Q_HB5, Q_HS5, fun h0_ => absurd ((hoff 3 (by kernel_rfl)).symm.trans h0_) (by decide), fun h0_ => absurd ((hoff 3 (by kernel_rfl)).symm.trans h0_) (by decide), Q_X1_, fun _ => rfl, fun h0_ => absurd ((hoff 3 (by kernel_rfl)).symm.trans h0_) (by decide), fun h0_ => absurd ((hoff 4 (by kernel_rfl)).symm.trans h0_) (by decide)⟩
    refine qaf ?_ ?_
    ·rintro b a w' ⟨As, cs, gw, m1_, m2_, m3_, m4_, ha, Q_BX5, Q_HB5, Q_HS5, Q_BW5, Q_GW5, Q_X1_, Q_X2_, Q_X3_, Q_X4_⟩ hb_ hon hoff
     refine ⟨_, rfl, fun K hK => ?_⟩
     have e17 : a.tmps[17]? = some (m2_) := by rw [ha]; exact qae (e := (2, 17, m2_)) 2 rfl rfl (hon 2 (by kernel_rfl)) rfl
     rw [Q_X2_ (hon 2 (by kernel_rfl))] at e17
     replace ha := Aside0.mk ha
     have BX5 := Aside0.mk Q_BX5
     have HB5 := Aside0.mk Q_HB5
     have HS5 := Aside0.mk (Q_HS5 (hon 1 (by kernel_rfl)))
     refine qar (w1 := w'.alloc (.cells #[.slice A ns.length c, .slice As noneW.length cs, .slice none 0 0] 155 (0, 0))) (v := .pointer (some ⟨w'.heap.size, 0, none⟩)) (by rfl) rfl ?_ ?_
     ·go_simp
      try rfl
     refine hK.out _ _ ⟨As, cs, w'.heap.size, m1_, m2_, (.pointer (some ⟨w'.heap.size, 0, none⟩)), m4_, (by rw [ha.out]; exact qag 3 hb_ rfl rfl rfl), qal BX5.out _, qab HB5.out _, fun _ => Kd.qbN HS5.out _, fun _ => qcH w' _, fun _ => HB5.out.size, Q_X1_, Q_X2_, fun _ => rfl, fun h0_ => absurd ((hoff 4 (by kernel_rfl)).symm.trans h0_) (by decide)⟩
    refine qaf ?_ ?_
    ·rintro b a w' ⟨As, cs, gw, m1_, m2_, m3_, m4_, ha, Q_BX5, Q_HB5, Q_HS5, Q_BW5, Q_GW5, Q_X1_, Q_X2_, Q_X3_, Q_X4_⟩ hb_ hon hoff
     refine ⟨_, rfl, fun K hK => ?_⟩
     have e18 : a.tmps[18]? = some (m3_) := by rw [ha]; exact qae (e := (3, 18, m3_)) 3 rfl rfl (hon 3 (by kernel_rfl)) rfl
     rw [Q_X3_ (hon 3 (by kernel_rfl))] at e18
     replace ha := Aside0.mk ha
     have BX5 := Aside0.mk Q_BX5
     have HB5 := Aside0.mk Q_HB5
     have HS5 := Aside0.mk (Q_HS5 (hon 1 (by kernel_rfl)))
     have BW5 := Aside0.mk (Q_BW5 (hon 3 (by kernel_rfl)))
     have GW5 := Aside0.mk (Q_GW5 (hon 3 (by kernel_rfl)))
     refine qar (w1 := w') (v := .pointer (some ⟨gw, 0, none⟩)) (by rfl) rfl ?_ ?_
     ·go_simp
      (try simp only [qav])
      try rfl
     refine hK.out _ _ ⟨As, cs, gw, m1_, m2_, m3_, (.pointer (some ⟨gw, 0, none⟩)), (by rw [ha.out]; exact qag 4 hb_ rfl rfl rfl), Q_BX5, Q_HB5, Q_HS5, Q_BW5, Q_GW5, Q_X1_, Q_X2_, Q_X3_, fun _ => rfl⟩
    exact qbM
   rintro b a wA hall ⟨As, cs, gw, m1_, m2_, m3_, m4_, ha, Q_BX5, Q_HB5, Q_HS5, Q_BW5, Q_GW5, Q_X1_, Q_X2_, Q_X3_, Q_X4_⟩
   clear BX5 HB5
   have hb0_ := hall 0 (by kernel_rfl)
   have hb1_ := hall 1 (by kernel_rfl)
   have hb2_ := hall 2 (by kernel_rfl)
   have hb3_ := hall 3 (by kernel_rfl)
   have hb4_ := hall 4 (by kernel_rfl)
   subst ha
   obtain rfl := Q_X1_ hb1_
   obtain rfl := Q_X2_ hb2_
   obtain rfl := Q_X3_ hb3_
   obtain rfl := Q_X4_ hb4_
   simp only [qbc, hb0_, hb1_, hb2_, hb3_, hb4_, if_true, Act.put, List.setIfInBounds_toArray, List.set_cons_zero, List.set_cons_succ]
   have BX5 := Aside0.mk Q_BX5
   clear Q_BX5
   have HB5 := Aside0.mk Q_HB5
   clear Q_HB5
   have HS5 := Aside0.mk (Q_HS5 hb1_)
   clear Q_HS5
   have BW5 := Aside0.mk (Q_BW5 hb3_)
   clear Q_BW5
   have GW5 := Aside0.mk (Q_GW5 hb3_)
   clear Q_GW5
   clear hall hb0_ hb1_ hb2_ hb3_ hb4_
   clear BX5
   have HW5 := Aside0.mk (show WkAt w wA gw (.slice A ns.length c) (.slice As noneW.length cs) (.slice none 0 0) noneW [] from ⟨GW5.out, BW5.out, HS5.out, Kd.qfE _ _ _ _ _⟩)
   clear GW5 BW5 HS5
   by_cases h0 : 0 ≤ root
   ·obtain ⟨k, rfl⟩ : ∃ k : Nat, root = (k : Int) := ⟨root.toNat, by omega⟩
    have hk : k < 50 := by have := HRG.out; omega
    have c2 : decide (0 ≤ (k : Int)) = true := decide_eq_true h0
    have hres : lookW ns (k : Int) = walkW ns 21 (k : Int) noneW [] := by unfold lookW; rw [if_pos HL.out, if_neg (by omega)]
    have HRES := Aside0.mk hres
    obtain ⟨rb, S2, P2, hlk⟩ : ∃ rb S2 P2, walkW ns 21 (k : Int) noneW [] = (rb, S2, P2) := ⟨_, _, _, rfl⟩
    have hw := qeW ns w A c HR.out HL.out HBD.out 21 k 0 noneW [] wA gw _ _ hk (by omega) (by omega) qdo HB5.out HW5.out
    rw [hlk] at hw hres
    have HLK := Aside0.mk hres
    have HCW := Aside0.mk hw
    clear hlk hres hw h0
    go_wp2_with fail
    refine HCW.out.mono ?_
    rintro e w3 ⟨rfl, hb3, _, hst⟩
    cases rb with
    | false =>
     have h := HNO.out
     rw [qcZ, HLK.out] at h
     cases h
    | true =>
     obtain ⟨vs3, vp3, hw3⟩ := hst rfl
     obtain ⟨vpA, vpc, ev, hvc, _⟩ := Kd.qb8 hw3.2.2.2
     subst ev
     obtain ⟨d0, d1, d2, _⟩ := cells3 hw3.2.1
     obtain ⟨ko, hko⟩ := Ev.rounds (qcV P2)
     have hok : qcw P2 = true := by
      have h := HNO.out
      rw [qcZ, HLK.out] at h
      simpa using h
     rw [hok] at hko
     have HKO := Aside0.mk hko
     clear hko hok hst
     go_wp2_with fail
     refine (qbh.calls (hr0 := (Kd.qbG hw3.2.2.2).2.2) (hc0 := (Kd.qbG hw3.2.2.2).2.1) (h := HKO.out)).mono ?_
     rintro e w4 ⟨rfl, hb4⟩
     have HB6 := Aside0.mk (qaj hb3 hb4)
     have HW6 := Aside0.mk (hw3.below hb4)
     clear hb3 hb4 hw3 d0 d1 d2
     go_wp2_with fail
     go_ret
     have h1 : (walkR ns (k : Int)).2.1 = S2 := by unfold walkR; rw [HLK.out]
     have h2 : (walkR ns (k : Int)).1 = P2 := by unfold walkR; rw [HLK.out]
     rw [h1, h2]
     exact ⟨gw, _, _, rfl, HW6.out, HB6.out⟩
   ·have e0 : root = -1 := by have := HRG.out; omega
    subst e0
    have hlk : lookW ns (-1) = (true, noneW, []) := by unfold lookW; rw [if_pos HL.out, if_pos rfl]
    have HLK := Aside0.mk hlk
    obtain ⟨ko, hko⟩ := Ev.rounds (qcV ([] : List S99))
    rw [show qcw ([] : List S99) = true from rfl] at hko
    have HKO := Aside0.mk hko
    obtain ⟨d0, d1, d2, _⟩ := cells3 HW5.out.2.1
    clear hko hlk h0
    go_wp2_with fail
    have HN := Aside0.mk (show Kd.C k99 wA none ([] : List S99).length [] from (Kd.qbG HW5.out.2.2.2).2.2)
    refine (qbh.calls ko none 0 [] true wA HN.out (Nat.le_refl _) HKO.out).mono ?_
    rintro e w4 ⟨rfl, hb4⟩
    have HB6 := Aside0.mk (qaj HB5.out hb4)
    have HW6 := Aside0.mk (HW5.out.below hb4)
    clear hb4 d0 d1 d2
    go_wp2_with fail
    go_ret
    have h1 : (walkR ns (-1)).2.1 = noneW := by unfold walkR; rw [HLK.out]
    have h2 : (walkR ns (-1)).1 = [] := by unfold walkR; rw [HLK.out]
    rw [h1, h2]
    exact ⟨gw, _, _, rfl, HW6.out, HB6.out⟩
 ·rw [qdP hl] at hno
  cases hno
end Go.Proofs.Ytenfomejccfkgaa.X
namespace Go.Proofs.Ytenfomejccfkgaa.X
open Go.RowKit Go.Proofs.YtenfomejccfkgaaW.PrintWords Go.Proofs.YtenfomejccfkgaaW.PrintLast Go.Proofs.YtenfomejccfkgaaW.PrintMore
attribute [local go_sem] qaN qaO qaP qaJ qaK qaX qaY qaD qaE qaL qaM
set_option linter.unusedVariables false
set_option linter.unusedSimpArgs false
def qbs.f (l0_0 : List S56) (a1 : Int) : Option Bool := if qcF l0_0 = true then some (walkR l0_0 a1).2.2 else none
set_option maxHeartbeats 4000000 in
set_option maxRecDepth 100000 in
theorem qbs.calls (A0_0 : Option Addr) (c0_0 : Nat) (l0_0 : List S56) (a1 : Int) (r : Bool) (w : World) (hr0_0 : Kd.C k56 w A0_0 l0_0.length l0_0) (hc0_0 : l0_0.length ≤ c0_0) (h : qbs.f l0_0 a1 = some r) :
  Calls Try.prog 16 #[.agg #[.slice A0_0 l0_0.length c0_0], .int .i64 a1] w fun e w' => e = .returned (.bool r) ∧ Below w.heap.size w w' := by
 unfold qbs.f at h
 have hbd : qc7 l0_0 := by
  by_cases hb : qcF l0_0 = true
  ·exact qcG.1 hb
  ·rw [if_neg hb] at h
   cases h
 rw [if_pos (qcG.2 hbd)] at h
 have hr := Option.some.inj h
 have hu := Try.underlying29
 have HR := Aside0.mk hr0_0
 have HBD := Aside0.mk hbd
 have HB1 := Aside0.mk (qab (Below.refl w.heap.size w) (.cells #[.slice A0_0 l0_0.length c0_0] 29 (0, 0)))
 clear h hr0_0 hbd
 cases r with
 | true =>
  have HO := Aside0.mk hr
  clear hr
  go_enter Try.func16, Try.ntmps16
  go_wp2_with fail
  refine (qed l0_0 a1 A0_0 c0_0 _ (Kd.qax HR.out HB1.out) HBD.out HO.out).mono ?_
  rintro e w2 ⟨g, vs, vp, rfl, _, hb⟩
  have HB2 := Aside0.mk (qaj HB1.out hb)
  clear hb
  go_wp2_with fail
  go_ret
  exact ⟨rfl, HB2.out⟩
 | false =>
  have HO := Aside0.mk hr
  clear hr
  go_enter Try.func16, Try.ntmps16
  go_wp2_with fail
  refine (qf6 l0_0 a1 A0_0 c0_0 _ (Kd.qax HR.out HB1.out) HBD.out HO.out).mono ?_
  rintro e w2 ⟨rfl, hb⟩
  have HB2 := Aside0.mk (qaj HB1.out hb)
  clear hb
  go_wp2_with fail
  go_ret
  exact ⟨rfl, HB2.out⟩
def qbE.f (l0_0 : List S56) (a1 : Int) : Option (List S99) := if qcF l0_0 = true ∧ (walkR l0_0 a1).2.2 = true then some (walkR l0_0 a1).1 else none
set_option maxHeartbeats 4000000 in
set_option maxRecDepth 100000 in
theorem qbE.calls (A0_0 : Option Addr) (c0_0 : Nat) (l0_0 : List S56) (a1 : Int) (r : List S99) (w : World) (hr0_0 : Kd.C k56 w A0_0 l0_0.length l0_0) (hc0_0 : l0_0.length ≤ c0_0) (h : qbE.f l0_0 a1 = some r) :
  Calls Try.prog 65 #[.agg #[.slice A0_0 l0_0.length c0_0], .int .i64 a1] w fun e w' => ∃ v0_ : Value, e = .returned (v0_) ∧ Kd.R k99 99 w' w.heap.size (fun _ => True) v0_ r ∧ Below w.heap.size w w' := by
 unfold qbE.f at h
 have hbd : qcF l0_0 = true ∧ (walkR l0_0 a1).2.2 = true := by
  by_cases hb : qcF l0_0 = true ∧ (walkR l0_0 a1).2.2 = true
  ·exact hb
  ·rw [if_neg hb] at h
   cases h
 rw [if_pos hbd] at h
 have hr := Option.some.inj h
 have hu := Try.underlying29
 have hu2 := Try.underlying155
 have HR := Aside0.mk hr0_0
 have HBD := Aside0.mk (And.intro (qcG.1 hbd.1) hbd.2)
 have HB1 := Aside0.mk (qab (Below.refl w.heap.size w) (.cells #[.slice A0_0 l0_0.length c0_0] 29 (0, 0)))
 have HH := Aside0.mk hr
 clear h hr0_0 hbd hr
 go_enter Try.func65, Try.ntmps65
 go_wp2_with fail
 refine (qed l0_0 a1 A0_0 c0_0 _ (Kd.qax HR.out HB1.out) HBD.out.1 HBD.out.2).mono ?_
 rintro e w2 ⟨g, vs, vp, rfl, hw, hb⟩
 have HB2 := Aside0.mk (qaj HB1.out hb)
 rw [HH.out] at hw
 obtain ⟨d0, d1, d2, _⟩ := cells3 hw.2.1
 have HW := Aside0.mk hw.2.2.2
 clear hb hw
 go_wp2_with fail
 go_ret
 exact ⟨_, rfl, Kd.qbO HW.out HB1.out.size, HB2.out⟩
end Go.Proofs.Ytenfomejccfkgaa.X
namespace Go.Proofs.Ytenfomejccfkgaa.X
open Go.RowKit Go.Proofs.YtenfomejccfkgaaW.PrintWords Go.Proofs.YtenfomejccfkgaaW.PrintLast Go.Proofs.YtenfomejccfkgaaW.PrintMore
attribute [local go_sem] qaN qaO qaP qaJ qaK qaX qaY qaD qaE qaL qaM
set_option linter.unusedVariables false
set_option linter.unusedSimpArgs false
def qbP.f (l0_0 : List (S56)) (a1 : Int) : Option (Bool) := (qbD.f l0_0 a1).bind fun bt138 => (some bt138.2.2)
set_option maxHeartbeats 8000000 in
set_option maxRecDepth 100000 in
theorem qbP.calls (A0_0 : Option Addr) (c0_0 : Nat) (l0_0 : List (S56)) (a1 : Int) (r : Bool) (w : World) (hr0_0 : Kd.C k56 w A0_0 l0_0.length l0_0) (hc0_0 : l0_0.length ≤ c0_0) (h : qbP.f l0_0 a1 = some r) :
  Calls Try.prog 14 #[.agg #[.slice A0_0 l0_0.length c0_0], .int .i64 a1] w fun e w' => e = .returned (.bool r) ∧ Below w.heap.size w w' := by
 have hu29 := Try.underlying29
 have HR0_0 := Aside0.mk hr0_0
 have HC0_0 := Aside0.mk hc0_0
 clear hr0_0 hc0_0
 have HB := Aside0.mk (Below.refl w.heap.size w)
 have H : ((qbD.f l0_0 a1).bind fun bt138 => (some bt138.2.2)) = some r := h
 clear h
 replace H := Option.bind_eq_some_iff.mp H
 obtain ⟨⟨t138, t141, t144⟩, A30, H⟩ := H
 replace H : (some t144) = some r := H
 have A3 := Aside0.mk A30
 clear A30
 obtain rfl := Option.some.inj H
 go_enter Try.func14, Try.ntmps14
 go_wp2_with (first | ((with_reducible refine qaI (N := 2) rfl ?_); refine qaG ?hg (N := 2) ?hd (cs := #[.slice A0_0 l0_0.length c0_0]) (t := 29) ?hr ?_; (case hd => rfl); (case hg => rfl); (case hr => first | (go_simp; done) | (go_simp; rfl)); intro gb137 hg w4 hbox hb; have n0_ := Aside0.mk (qaj (by repeat (first | (with_reducible first | exact HB.out | apply qab | apply qaa | apply qac) | exact HB.out)) hb); have n1_ := Aside0.mk (hbox); have n2_ := Aside0.mk ((by rw [hg]; exact (qak (by repeat (first | (with_reducible first | exact HB.out | apply qab | apply qaa | apply qac) | exact HB.out))) : w.heap.size ≤ gb137)); have n3_ := Aside0.mk ((by rw [hg]; exact (qak (by repeat (first | (with_reducible first | exact HB.out | apply qab | apply qaa | apply qac) | exact HB.out))) : w.heap.size ≤ gb137)); clear HB; have HB := n0_; have BK137 := n1_; have GW137 := n2_; have GE137 := n3_; clear n0_ n1_ n2_ n3_; clear hb hbox hg; have hcz5_0 : w4.cell? ⟨gb137, 0, none⟩ = some (.slice A0_0 l0_0.length c0_0) := (qah BK137.out 0).trans rfl; have hfz5_0 := qad BK137.out 0) | ((with_reducible refine qaq (f := 61) rfl ?_); refine qa0 (some 11) rfl rfl Try.func61 (by kernel_rfl) rfl #[.agg #[.slice A0_0 l0_0.length c0_0], .int .i64 a1] rfl (by (try simp only [List.map_toArray, List.map_cons, List.map_nil]); first | done | rfl | (simp only [List.length_drop, List.length_take]; rfl)) ?_; (with_reducible refine (qbD.calls _ _ l0_0 a1 t138 t141 t144 _ ?side1 ?side2 A3.out).mono ?_); (case side1 => repeat (first | exact (Kd.qax HR0_0.out HB.out) | (with_reducible refine Kd.qaz ?_ _) | (with_reducible refine Kd.qaA ?_ _) | (with_reducible refine Kd.qaQ ?_))); (case side2 => exact HC0_0.out); rintro e w6 ⟨v139, v142, rfl, ho0, ho1, hb⟩; refine ⟨_, rfl, ?_⟩; have n0_ := Aside0.mk (Kd.qbO ho0 (qak (by repeat (first | (with_reducible first | exact HB.out | apply qab | apply qaa | apply qac | refine qai ?_ GE137.out) | exact HB.out)))); have n1_ := Aside0.mk (Kd.qbO ho1 (qak (by repeat (first | (with_reducible first | exact HB.out | apply qab | apply qaa | apply qac | refine qai ?_ GE137.out) | exact HB.out)))); have n2_ := Aside0.mk (qau (g := gb137) (o := .cells #[.slice A0_0 l0_0.length c0_0] 29 (0, 0)) (by (with_reducible repeat (first | refine qao ?_ _ | refine qap ?_ | refine qal ?_ _)); exact BK137.out) hb); have n3_ := Aside0.mk (qaj (by repeat (first | (with_reducible first | exact HB.out | apply qab | apply qaa | apply qac | refine qai ?_ GE137.out) | exact HB.out)) hb); clear BK137; clear HB; have HO140 := n0_; have HO143 := n1_; have BK137 := n2_; have HB := n3_; clear n0_ n1_ n2_ n3_; (try clear hb); (try clear hb2); (try clear hk); (try clear hi); (try clear ho0); (try clear ho1)))
 go_ret
 exact ⟨by first | rfl | (simp [qam, qan] <;> rfl) | (simp [*, qam, qan] <;> rfl), by repeat (first | (with_reducible first | exact HB.out | apply qab | apply qaa | apply qac | refine qai ?_ GE137.out) | exact HB.out)⟩
end Go.Proofs.Ytenfomejccfkgaa.X
