import Derived.Test.YtenfomejccfkgaaKFnExactCountRefs4
import Derived.Test.YtenfomejccfkgaaKFnExactCountRefs6
import Derived.Test.YtenfomejccfkgaaKFnExactCountRefs7
import Derived.Test.YtenfomejccfkgaaKFnExactCountRefs12
import Derived.Test.YtenfomejccfkgaaKFnExactCountRefs13
import Derived.Test.YtenfomejccfkgaaKFnExactCountRefs15
import Derived.Test.YtenfomejccfkgaaKFnExactCountRefs21
import Derived.LoopTactic
import Derived.WalkSpells
import Derived.Lib.Bytealg
import Derived.Laws.Externs
import Derived.Laws.Strings
import Derived.Sort.Walk0
import Derived.BigQuiet
namespace Go.Proofs.Ytenfomejccfkgaa.X
open Go.RowKit Go.Proofs.YtenfomejccfkgaaW.PrintWords Go.Proofs.YtenfomejccfkgaaW.PrintLast Go.Proofs.YtenfomejccfkgaaW.PrintMore
attribute [local go_sem] qaC qaD qaE qay qaz qaO qaP qas qat qaA qaB
set_option linter.unusedVariables false
set_option linter.unusedSimpArgs false
def qdm.T3 : Bool × List (List Nat × List Nat) := (true, [([], []), ([], []), ([0, 1], [0, 1]), ([2], [2]), ([3, 0, 1, 2, 3], [3])])
def qdm.B3 : List Nat := [0, 0, 3, 7, 15]
theorem qdm.tab3 : rtab .any (opsOf Try.f63 3) = qdm.T3 := by kernel_rfl
theorem qdm.bits3 : qbX qdm.T3.2 qdm.B3 = true := by kernel_rfl
set_option maxHeartbeats 16000000 in
set_option maxRecDepth 100000 in
theorem qhm (ns : List S56) (root : Int) (A : Option Addr) (c : Nat) (w : World) (hr : Kd.C k56 w A ns.length ns) (hbd : qdk ns) (hno : (walkR ns root).2.2 = false) : Calls Try.prog 63 #[.agg #[.slice A ns.length c], .int .i64 root] w fun e w' => e = .returned (.pointer none) ∧ Below w.heap.size w w' := by
 have hu := Try.underlying29
 have hu2 := Try.underlying155
 have hu3 := Try.underlying89
 have HR := Aside0.mk hr
 obtain ⟨w1, hw1⟩ : ∃ w1, w1 = w.alloc (.cells #[.slice A ns.length c] 29 (0, 0)) := ⟨_, rfl⟩
 have HB1 := Aside0.mk (show Below w.heap.size w w1 from hw1 ▸ qab (Below.refl _ w) _)
 have BX1 := Aside0.mk (show w1.heap[w.heap.size]? = some (.cells #[.slice A ns.length c] 29 (0, 0)) from hw1 ▸ qcn w _)
 by_cases hl : ns.length = 50
 ·have c1 : ((ns.length : Int) != 50) = false := by rw [hl]; rfl
  have hin := qfa root (-1) 49
  cases hr : inB root (-1) 49 with
  | false =>
   rw [hr] at hin
   have HIN := Aside0.mk hin
   clear hno hl hbd hin hr
   go_enter Try.func63, Try.ntmps63
   go_wp2_with fail
   refine (qbg.calls _ _ _ _ _ HIN.out).mono ?_
   rintro e w2 ⟨rfl, hdr⟩
   rw [← hw1] at hdr
   have HB2 := Aside0.mk (qai HB1.out hdr.below)
   clear hdr
   go_wp2_with fail
   go_ret
   exact ⟨rfl, HB2.out⟩
  | true =>
   have hrg : -1 ≤ root ∧ root ≤ 49 := by unfold inB at hr; simpa using hr
   rw [hr] at hin
   have HIN := Aside0.mk hin
   have HRG := Aside0.mk hrg
   have HL := Aside0.mk hl
   have HBD := Aside0.mk hbd
   have HNO := Aside0.mk hno
   clear hno hl hbd hin hr hrg
   go_enter Try.func63, Try.ntmps63
   go_wp2_with fail
   refine (qbg.calls _ _ _ _ _ HIN.out).mono ?_
   rintro e w2 ⟨rfl, hdr⟩
   rw [← hw1] at hdr
   have HB2 := Aside0.mk (qai HB1.out hdr.below)
   have BX2 := Aside0.mk (qar BX1.out hdr.below)
   clear hdr hw1 HB1 BX1
   go_upto_region 3 with fail
   have BX5 := Aside0.mk (qao BX2.out)
   have HB5 := Aside0.mk (qbr HB2.out)
   clear HB2 BX2 c1
   refine qcz (n := 5) (S := fun w' => True) (ds := []) #[false, false, false, false, false] (by kernel_rfl) rfl rfl trivial (fun hHeld => ?_)
   refine qbU qdm.tab3 qdm.bits3 (fun HT_ HW_ => ?_)
   generalize w2.drew = wd at BX5 HB5 ⊢
   refine qcY [0, 1, 2, 3, 4] (fun a0_ b a w' => ∃ (As : Option Addr) (cs : Nat) (gw : Nat) (m1_ : Value) (m2_ : Value) (m3_ : Value) (m4_ : Value), a = qbq a0_ b [(0, 15, .agg #[.slice A ns.length c]), (1, 16, m1_), (2, 17, m2_), (3, 18, m3_), (4, 5, m4_)] ∧ (w'.heap[w.heap.size]? = some (.cells #[.slice A ns.length c] 29 (0, 0))) ∧ (Below w.heap.size w w') ∧ (b 1 = true → Kd.R Kd.bool 4 w' w.heap.size (fun _ => True) (.slice As noneW.length cs) noneW) ∧ (b 3 = true → w'.heap[gw]? = some (.cells #[.slice A ns.length c, .slice As noneW.length cs, .slice none 0 0] 155 (0, 0))) ∧ (b 3 = true → w.heap.size ≤ gw) ∧ (b 1 = true → (m1_ : Value) = .slice As noneW.length cs) ∧ (b 2 = true → (m2_ : Value) = .agg #[.slice A ns.length c, .slice As noneW.length cs, .slice none 0 0]) ∧ (b 3 = true → (m3_ : Value) = .pointer (some ⟨gw, 0, none⟩)) ∧ (b 4 = true → (m4_ : Value) = .pointer (some ⟨gw, 0, none⟩))) HT_.out HW_.out (by kernel_rfl) (by kernel_rfl) ?_ ?_ ?_
   ·exact ⟨none, 0, 0, .bool false, .bool false, .bool false, .bool false, by simp only [qbq, Bool.false_eq_true, if_false], BX5.out, HB5.out, fun h_ => absurd h_ (by decide), fun h_ => absurd h_ (by decide), fun h_ => absurd h_ (by decide), fun h_ => absurd h_ (by decide), fun h_ => absurd h_ (by decide), fun h_ => absurd h_ (by decide), fun h_ => absurd h_ (by decide)⟩
   ·skip
    clear BX5 HB5
    refine qag ?_ ?_
    ·rintro b a w' ⟨As, cs, gw, m1_, m2_, m3_, m4_, ha, Q_BX5, Q_HB5, Q_HS5, Q_BW5, Q_GW5, Q_X1_, Q_X2_, Q_X3_, Q_X4_⟩ hb_ hon hoff
     refine ⟨_, rfl, fun K hK => ?_⟩
     have e2 : a.tmps[2]? = some (.pointer (some ⟨w.heap.size, 0, none⟩)) := by rw [ha]; exact (qa7 rfl).trans rfl
     replace ha := Aside0.mk ha
     have BX5 := Aside0.mk Q_BX5
     have hc_ : w'.cell? ⟨w.heap.size, 0, none⟩ = some (.slice A ns.length c) := qae BX5.out 0
     refine qaJ (w1 := w') (v := .agg #[.slice A ns.length c]) (by rfl) rfl ?_ ?_
     ·go_simp
      (try simp only [qaS])
      try rfl
     refine hK.out _ _ ⟨As, cs, gw, m1_, m2_, m3_, m4_, (by rw [ha.out]; exact qah 0 hb_ rfl rfl rfl), Q_BX5, Q_HB5, Q_HS5, fun h0_ => absurd ((hoff 3 (by kernel_rfl)).symm.trans h0_) (by decide), fun h0_ => absurd ((hoff 3 (by kernel_rfl)).symm.trans h0_) (by decide), Q_X1_, fun h0_ => absurd ((hoff 2 (by kernel_rfl)).symm.trans h0_) (by decide), fun h0_ => absurd ((hoff 3 (by kernel_rfl)).symm.trans h0_) (by decide), fun h0_ => absurd ((hoff 4 (by kernel_rfl)).symm.trans h0_) (by decide)⟩
    refine qag ?_ ?_
    ·rintro b a w' ⟨As, cs, gw, m1_, m2_, m3_, m4_, ha, Q_BX5, Q_HB5, Q_HS5, Q_BW5, Q_GW5, Q_X1_, Q_X2_, Q_X3_, Q_X4_⟩ hb_ hon hoff
     refine ⟨_, rfl, fun K hK => ?_⟩
     replace ha := Aside0.mk ha
     have BX5 := Aside0.mk Q_BX5
     have HB5 := Aside0.mk Q_HB5
     refine Kd.qdn Kd.bool (w0 := w) w.heap.size 4 (by rfl) (N := 16) (by rfl) 89 _ _ (by rfl) 50 (by rfl) (by rfl) Try.underlying89 (.bool false) 1 info4 rfl (by decide) (by omega) false (ok := fun _ => True) (okp := fun _ => True) rfl (fun _ hk => hk) trivial (by omega) (by decide) HB5.out HB5.out.size ?_
     intro v1 w1 ho1 hb1 hg1 hn1
     have ho2 : Kd.R Kd.bool 4 w1 w.heap.size (fun _ => True) v1 noneW := ho1
     obtain ⟨As_, cs_, ev_, _, _⟩ := Kd.qbP ho2
     subst ev_
     refine hK.out _ _ ⟨As_, cs_, gw, (.slice As_ noneW.length cs_), m2_, m3_, m4_, (by rw [ha.out]; exact qah 1 hb_ rfl rfl rfl), qbR BX5.out hg1 (by simp), hb1, fun _ => ho2, fun h0_ => absurd ((hoff 3 (by kernel_rfl)).symm.trans h0_) (by decide), fun h0_ => absurd ((hoff 3 (by kernel_rfl)).symm.trans h0_) (by decide), fun _ => rfl, fun h0_ => absurd ((hoff 2 (by kernel_rfl)).symm.trans h0_) (by decide), fun h0_ => absurd ((hoff 3 (by kernel_rfl)).symm.trans h0_) (by decide), fun h0_ => absurd ((hoff 4 (by kernel_rfl)).symm.trans h0_) (by decide)⟩
    refine qag ?_ ?_
    ·rintro b a w' ⟨As, cs, gw, m1_, m2_, m3_, m4_, ha, Q_BX5, Q_HB5, Q_HS5, Q_BW5, Q_GW5, Q_X1_, Q_X2_, Q_X3_, Q_X4_⟩ hb_ hon hoff
     refine ⟨_, rfl, fun K hK => ?_⟩
     have e15 : a.tmps[15]? = some (.agg #[.slice A ns.length c]) := on_ ha 0 rfl rfl (hon 0 (by kernel_rfl)) rfl
     have e16 : a.tmps[16]? = some (m1_) := on_ ha 1 rfl rfl (hon 1 (by kernel_rfl)) rfl
     rw [Q_X1_ (hon 1 (by kernel_rfl))] at e16
     replace ha := Aside0.mk ha
     refine qaJ (w1 := w') (v := .agg #[.slice A ns.length c, .slice As noneW.length cs, .slice none 0 0]) (by rfl) rfl ?_ ?_
     ·go_simp
      (try simp only [qaS])
      try rfl
     refine hK.out _ _ ⟨As, cs, gw, m1_, (.agg #[.slice A ns.length c, .slice As noneW.length cs, .slice none 0 0]), m3_, m4_, (by rw [ha.out]; exact qah 2 hb_ rfl rfl rfl), Q_BX5, Q_HB5, Q_HS5, fun h0_ => absurd ((hoff 3 (by kernel_rfl)).symm.trans h0_) (by decide), fun h0_ => absurd ((hoff 3 (by kernel_rfl)).symm.trans h0_) (by decide), Q_X1_, fun _ => rfl, fun h0_ => absurd ((hoff 3 (by kernel_rfl)).symm.trans h0_) (by decide), fun h0_ => absurd ((hoff 4 (by kernel_rfl)).symm.trans h0_) (by decide)⟩
    refine qag ?_ ?_
    ·rintro b a w' ⟨As, cs, gw, m1_, m2_, m3_, m4_, ha, Q_BX5, Q_HB5, Q_HS5, Q_BW5, Q_GW5, Q_X1_, Q_X2_, Q_X3_, Q_X4_⟩ hb_ hon hoff
     refine ⟨_, rfl, fun K hK => ?_⟩
     have e17 : a.tmps[17]? = some (m2_) := on_ ha 2 rfl rfl (hon 2 (by kernel_rfl)) rfl
     rw [Q_X2_ (hon 2 (by kernel_rfl))] at e17
     replace ha := Aside0.mk ha
     have BX5 := Aside0.mk Q_BX5
     have HB5 := Aside0.mk Q_HB5
     have HS5 := Aside0.mk (Q_HS5 (hon 1 (by kernel_rfl)))
     refine qaJ (w1 := w'.alloc (.cells #[.slice A ns.length c, .slice As noneW.length cs, .slice none 0 0] 155 (0, 0))) (v := .pointer (some ⟨w'.heap.size, 0, none⟩)) (by rfl) rfl ?_ ?_
     ·go_simp
      try rfl
     refine hK.out _ _ ⟨As, cs, w'.heap.size, m1_, m2_, (.pointer (some ⟨w'.heap.size, 0, none⟩)), m4_, (by rw [ha.out]; exact qah 3 hb_ rfl rfl rfl), qak BX5.out _, qab HB5.out _, fun _ => Kd.qa3 HS5.out _, fun _ => qcn w' _, fun _ => HB5.out.size, Q_X1_, Q_X2_, fun _ => rfl, fun h0_ => absurd ((hoff 4 (by kernel_rfl)).symm.trans h0_) (by decide)⟩
    refine qag ?_ ?_
    ·rintro b a w' ⟨As, cs, gw, m1_, m2_, m3_, m4_, ha, Q_BX5, Q_HB5, Q_HS5, Q_BW5, Q_GW5, Q_X1_, Q_X2_, Q_X3_, Q_X4_⟩ hb_ hon hoff
     refine ⟨_, rfl, fun K hK => ?_⟩
     have e18 : a.tmps[18]? = some (m3_) := on_ ha 3 rfl rfl (hon 3 (by kernel_rfl)) rfl
     rw [Q_X3_ (hon 3 (by kernel_rfl))] at e18
     replace ha := Aside0.mk ha
     refine qaJ (w1 := w') (v := .pointer (some ⟨gw, 0, none⟩)) (by rfl) rfl ?_ ?_
     ·go_simp
      (try simp only [qaS])
      try rfl
     refine hK.out _ _ ⟨As, cs, gw, m1_, m2_, m3_, (.pointer (some ⟨gw, 0, none⟩)), (by rw [ha.out]; exact qah 4 hb_ rfl rfl rfl), Q_BX5, Q_HB5, Q_HS5, Q_BW5, Q_GW5, Q_X1_, Q_X2_, Q_X3_, fun _ => rfl⟩
    exact qb7
   rintro b a wA hall ⟨As, cs, gw, m1_, m2_, m3_, m4_, ha, Q_BX5, Q_HB5, Q_HS5, Q_BW5, Q_GW5, Q_X1_, Q_X2_, Q_X3_, Q_X4_⟩
   clear BX5 HB5
   have hb0_ := hall 0 (by kernel_rfl)
   have hb1_ := hall 1 (by kernel_rfl)
   have hb2_ := hall 2 (by kernel_rfl)
   have hb3_ := hall 3 (by kernel_rfl)
   have hb4_ := hall 4 (by kernel_rfl)
   subst ha
   obtain rfl := Q_X1_ hb1_
   obtain rfl := Q_X2_ hb2_
   obtain rfl := Q_X3_ hb3_
   obtain rfl := Q_X4_ hb4_
   simp only [qbq, hb0_, hb1_, hb2_, hb3_, hb4_, if_true, Act.put, List.setIfInBounds_toArray, List.set_cons_zero, List.set_cons_succ]
   have BX5 := Aside0.mk Q_BX5
   clear Q_BX5
   have HB5 := Aside0.mk Q_HB5
   clear Q_HB5
   have HS5 := Aside0.mk (Q_HS5 hb1_)
   clear Q_HS5
   have BW5 := Aside0.mk (Q_BW5 hb3_)
   clear Q_BW5
   have GW5 := Aside0.mk (Q_GW5 hb3_)
   clear Q_GW5
   clear hall hb0_ hb1_ hb2_ hb3_ hb4_
   clear BX5
   have HW5 := Aside0.mk (show WkAt w wA gw (.slice A ns.length c) (.slice As noneW.length cs) (.slice none 0 0) noneW [] from ⟨GW5.out, BW5.out, HS5.out, Kd.qd0 _ _ _ _ _⟩)
   clear GW5 BW5 HS5
   by_cases h0 : 0 ≤ root
   ·obtain ⟨k, rfl⟩ : ∃ k : Nat, root = (k : Int) := ⟨root.toNat, by omega⟩
    have hk : k < 50 := by have := HRG.out; omega
    have c2 : decide (0 ≤ (k : Int)) = true := decide_eq_true h0
    have hres : lookW ns (k : Int) = walkW ns 21 (k : Int) noneW [] := by unfold lookW; rw [if_pos HL.out, if_neg (by omega)]
    have HRES := Aside0.mk hres
    obtain ⟨rb, S2, P2, hlk⟩ : ∃ rb S2 P2, walkW ns 21 (k : Int) noneW [] = (rb, S2, P2) := ⟨_, _, _, rfl⟩
    have hw := qfQ ns w A c HR.out HL.out HBD.out 21 k 0 noneW [] wA gw _ _ hk (by omega) (by omega) qdI HB5.out HW5.out
    rw [hlk] at hw hres
    have HLK := Aside0.mk hres
    have HCW := Aside0.mk hw
    clear hlk hres hw h0
    go_wp2_with fail
    refine HCW.out.mono ?_
    rintro e w3 ⟨rfl, hb3, _, hst⟩
    cases rb with
    | false =>
     go_wp2_with fail
     go_ret
     exact ⟨rfl, hb3⟩
    | true =>
     obtain ⟨vs3, vp3, hw3⟩ := hst rfl
     obtain ⟨vpA, vpc, ev, hvc, _⟩ := Kd.qbP hw3.2.2.2
     subst ev
     obtain ⟨d0, d1, d2, _⟩ := cells3 hw3.2.1
     obtain ⟨ko, hko⟩ := Ev.rounds (qdb P2)
     have hok : qcF P2 = false := by
      have h := HNO.out
      rw [qdf, HLK.out] at h
      simpa using h
     rw [hok] at hko
     have HKO := Aside0.mk hko
     clear hko hok hst
     go_wp2_with fail
     refine (qbL.calls (hr0 := (Kd.qbe hw3.2.2.2).2.2) (hc0 := (Kd.qbe hw3.2.2.2).2.1) (h := HKO.out)).mono ?_
     rintro e w4 ⟨rfl, hb4⟩
     have HB6 := Aside0.mk (qai hb3 hb4)
     have HW6 := Aside0.mk (hw3.below hb4)
     clear hb3 hb4 hw3 d0 d1 d2
     go_wp2_with fail
     go_ret
     exact ⟨rfl, HB6.out⟩
   ·have e0 : root = -1 := by have := HRG.out; omega
    have h := HNO.out
    rw [qdf] at h
    unfold lookW at h
    rw [if_pos HL.out, if_pos e0] at h
    exact absurd h (by decide)
 ·have c1 : ((ns.length : Int) != 50) = true := bne_iff_ne.2 (by omega)
  clear hno hl hbd
  go_enter Try.func63, Try.ntmps63
  go_wp2_with fail
  go_ret
  rw [← hw1]
  exact ⟨rfl, HB1.out⟩
set_option maxHeartbeats 16000000 in
set_option maxRecDepth 100000 in
theorem qeV (ns : List S56) (root : Int) (A : Option Addr) (c : Nat) (w : World) (hr : Kd.C k56 w A ns.length ns) (hbd : qdk ns) (hno : (walkR ns root).2.2 = true) : Calls Try.prog 63 #[.agg #[.slice A ns.length c], .int .i64 root] w fun e w' => ∃ (g : Nat) (vs vp : Value), e = .returned (.pointer (some ⟨g, 0, none⟩)) ∧ WkAt w w' g (.slice A ns.length c) vs vp (walkR ns root).2.1 (walkR ns root).1 ∧ Below w.heap.size w w' := by
 have hu := Try.underlying29
 have hu2 := Try.underlying155
 have hu3 := Try.underlying89
 have HR := Aside0.mk hr
 obtain ⟨w1, hw1⟩ : ∃ w1, w1 = w.alloc (.cells #[.slice A ns.length c] 29 (0, 0)) := ⟨_, rfl⟩
 have HB1 := Aside0.mk (show Below w.heap.size w w1 from hw1 ▸ qab (Below.refl _ w) _)
 have BX1 := Aside0.mk (show w1.heap[w.heap.size]? = some (.cells #[.slice A ns.length c] 29 (0, 0)) from hw1 ▸ qcn w _)
 by_cases hl : ns.length = 50
 ·have c1 : ((ns.length : Int) != 50) = false := by rw [hl]; rfl
  have hin := qfa root (-1) 49
  cases hr : inB root (-1) 49 with
  | false =>
   rw [qfP hr] at hno
   cases hno
  | true =>
   have hrg : -1 ≤ root ∧ root ≤ 49 := by unfold inB at hr; simpa using hr
   rw [hr] at hin
   have HIN := Aside0.mk hin
   have HRG := Aside0.mk hrg
   have HL := Aside0.mk hl
   have HBD := Aside0.mk hbd
   have HNO := Aside0.mk hno
   clear hno hl hbd hin hr hrg
   go_enter Try.func63, Try.ntmps63
   go_wp2_with fail
   refine (qbg.calls _ _ _ _ _ HIN.out).mono ?_
   rintro e w2 ⟨rfl, hdr⟩
   rw [← hw1] at hdr
   have HB2 := Aside0.mk (qai HB1.out hdr.below)
   have BX2 := Aside0.mk (qar BX1.out hdr.below)
   clear hdr hw1 HB1 BX1
   go_upto_region 3 with fail
   have BX5 := Aside0.mk (qao BX2.out)
   have HB5 := Aside0.mk (qbr HB2.out)
   clear HB2 BX2 c1
   refine qcz (n := 5) (S := fun w' => True) (ds := []) #[false, false, false, false, false] (by kernel_rfl) rfl rfl trivial (fun hHeld => ?_)
   refine qbU qdm.tab3 qdm.bits3 (fun HT_ HW_ => ?_)
   generalize w2.drew = wd at BX5 HB5 ⊢
   refine qcY [0, 1, 2, 3, 4] (fun a0_ b a w' => ∃ (As : Option Addr) (cs : Nat) (gw : Nat) (m1_ : Value) (m2_ : Value) (m3_ : Value) (m4_ : Value), a = qbq a0_ b [(0, 15, .agg #[.slice A ns.length c]), (1, 16, m1_), (2, 17, m2_), (3, 18, m3_), (4, 5, m4_)] ∧ (w'.heap[w.heap.size]? = some (.cells #[.slice A ns.length c] 29 (0, 0))) ∧ (Below w.heap.size w w') ∧ (b 1 = true → Kd.R Kd.bool 4 w' w.heap.size (fun _ => True) (.slice As noneW.length cs) noneW) ∧ (b 3 = true → w'.heap[gw]? = some (.cells #[.slice A ns.length c, .slice As noneW.length cs, .slice none 0 0] 155 (0, 0))) ∧ (b 3 = true → w.heap.size ≤ gw) ∧ (b 1 = true → (m1_ : Value) = .slice As noneW.length cs) ∧ (b 2 = true → (m2_ : Value) = .agg #[.slice A ns.length c, .slice As noneW.length cs, .slice none 0 0]) ∧ (b 3 = true → (m3_ : Value) = .pointer (some ⟨gw, 0, none⟩)) ∧ (b 4 = true → (m4_ : Value) = .pointer (some ⟨gw, 0, none⟩))) HT_.out HW_.out (by kernel_rfl) (by kernel_rfl) ?_ ?_ ?_
   ·exact ⟨none, 0, 0, .bool false, .bool false, .bool false, .bool false, by simp only [qbq, Bool.false_eq_true, if_false], BX5.out, HB5.out, fun h_ => absurd h_ (by decide), fun h_ => absurd h_ (by decide), fun h_ => absurd h_ (by decide), fun h_ => absurd h_ (by decide), fun h_ => absurd h_ (by decide), fun h_ => absurd h_ (by decide), fun h_ => absurd h_ (by decide)⟩
   ·skip
    clear BX5 HB5
    refine qag ?_ ?_
    ·rintro b a w' ⟨As, cs, gw, m1_, m2_, m3_, m4_, ha, Q_BX5, Q_HB5, Q_HS5, Q_BW5, Q_GW5, Q_X1_, Q_X2_, Q_X3_, Q_X4_⟩ hb_ hon hoff
     refine ⟨_, rfl, fun K hK => ?_⟩
     have e2 : a.tmps[2]? = some (.pointer (some ⟨w.heap.size, 0, none⟩)) := by rw [ha]; exact (qa7 rfl).trans rfl
     replace ha := Aside0.mk ha
     have BX5 := Aside0.mk Q_BX5
     have hc_ : w'.cell? ⟨w.heap.size, 0, none⟩ = some (.slice A ns.length c) := qae BX5.out 0
     refine qaJ (w1 := w') (v := .agg #[.slice A ns.length c]) (by rfl) rfl ?_ ?_
     ·go_simp
      (try simp only [qaS])
      try rfl
     refine hK.out _ _ ⟨As, cs, gw, m1_, m2_, m3_, m4_, (by rw [ha.out]; exact qah 0 hb_ rfl rfl rfl), Q_BX5, Q_HB5, Q_HS5, fun h0_ => absurd ((hoff 3 (by kernel_rfl)).symm.trans h0_) (by decide), fun h0_ => absurd ((hoff 3 (by kernel_rfl)).symm.trans h0_) (by decide), Q_X1_, fun h0_ => absurd ((hoff 2 (by kernel_rfl)).symm.trans h0_) (by decide), fun h0_ => absurd ((hoff 3 (by kernel_rfl)).symm.trans h0_) (by decide), fun h0_ => absurd ((hoff 4 (by kernel_rfl)).symm.trans h0_) (by decide)⟩
    refine qag ?_ ?_
    ·rintro b a w' ⟨As, cs, gw, m1_, m2_, m3_, m4_, ha, Q_BX5, Q_HB5, Q_HS5, Q_BW5, Q_GW5, Q_X1_, Q_X2_, Q_X3_, Q_X4_⟩ hb_ hon hoff
     refine ⟨_, rfl, fun K hK => ?_⟩
     replace ha := Aside0.mk ha
     have BX5 := Aside0.mk Q_BX5
     have HB5 := Aside0.mk Q_HB5
     refine Kd.qdn Kd.bool (w0 := w) w.heap.size 4 (by rfl) (N := 16) (by rfl) 89 _ _ (by rfl) 50 (by rfl) (by rfl) Try.underlying89 (.bool false) 1 info4 rfl (by decide) (by omega) false (ok := fun _ => True) (okp := fun _ => True) rfl (fun _ hk => hk) trivial (by omega) (by decide) HB5.out HB5.out.size ?_
     intro v1 w1 ho1 hb1 hg1 hn1
     have ho2 : Kd.R Kd.bool 4 w1 w.heap.size (fun _ => True) v1 noneW := ho1
     obtain ⟨As_, cs_, ev_, _, _⟩ := Kd.qbP ho2
     subst ev_
     refine hK.out _ _ ⟨As_, cs_, gw, (.slice As_ noneW.length cs_), m2_, m3_, m4_, (by rw [ha.out]; exact qah 1 hb_ rfl rfl rfl), qbR BX5.out hg1 (by simp), hb1, fun _ => ho2, fun h0_ => absurd ((hoff 3 (by kernel_rfl)).symm.trans h0_) (by decide), fun h0_ => absurd ((hoff 3 (by kernel_rfl)).symm.trans h0_) (by decide), fun _ => rfl, fun h0_ => absurd ((hoff 2 (by kernel_rfl)).symm.trans h0_) (by decide), fun h0_ => absurd ((hoff 3 (by kernel_rfl)).symm.trans h0_) (by decide), fun h0_ => absurd ((hoff 4 (by kernel_rfl)).symm.trans h0_) (by decide)⟩
    refine qag ?_ ?_
    ·rintro b a w' ⟨As, cs, gw, m1_, m2_, m3_, m4_, ha, Q_BX5, Q_HB5, Q_HS5, Q_BW5, Q_GW5, Q_X1_, Q_X2_, Q_X3_, Q_X4_⟩ hb_ hon hoff
     refine ⟨_, rfl, fun K hK => ?_⟩
     have e15 : a.tmps[15]? = some (.agg #[.slice A ns.length c]) := on_ ha 0 rfl rfl (hon 0 (by kernel_rfl)) rfl
     have e16 : a.tmps[16]? = some (m1_) := on_ ha 1 rfl rfl (hon 1 (by kernel_rfl)) rfl
     rw [Q_X1_ (hon 1 (by kernel_rfl))] at e16
     replace ha := Aside0.mk ha
     refine qaJ (w1 := w') (v := .agg #[.slice A ns.length c, .slice As noneW.length cs, .slice none 0 0]) (by rfl) rfl ?_ ?_
     ·go_simp
      (try simp only [qaS])
      try rfl
     refine hK.out _ _ ⟨As, cs, gw, m1_, (.agg #[.slice A ns.length c, .slice As noneW.length cs, .slice none 0 0]), m3_, m4_, (by rw [ha.out]; exact qah 2 hb_ rfl rfl rfl), Q_BX5, Q_HB5, Q_HS5, fun h0_ => absurd ((hoff 3 (by kernel_rfl)).symm.trans h0_) (by decide), fun h0_ => absurd ((hoff 3 (by kernel_rfl)).symm.trans h0_) (by decide), Q_X1_, fun _ => rfl, fun h0_ => absurd ((hoff 3 (by kernel_rfl)).symm.trans h0_) (by decide), fun h0_ => absurd ((hoff 4 (by kernel_rfl)).symm.trans h0_) (by decide)⟩
    refine qag ?_ ?_
    ·rintro b a w' ⟨As, cs, gw, m1_, m2_, m3_, m4_, ha, Q_BX5, Q_HB5, Q_HS5, Q_BW5, Q_GW5, Q_X1_, Q_X2_, Q_X3_, Q_X4_⟩ hb_ hon hoff
     refine ⟨_, rfl, fun K hK => ?_⟩
     have e17 : a.tmps[17]? = some (m2_) := on_ ha 2 rfl rfl (hon 2 (by kernel_rfl)) rfl
     rw [Q_X2_ (hon 2 (by kernel_rfl))] at e17
     replace ha := Aside0.mk ha
     have BX5 := Aside0.mk Q_BX5
     have HB5 := Aside0.mk Q_HB5
     have HS5 := Aside0.mk (Q_HS5 (hon 1 (by kernel_rfl)))
     refine qaJ (w1 := w'.alloc (.cells #[.slice A ns.length c, .slice As noneW.length cs, .slice none 0 0] 155 (0, 0))) (v := .pointer (some ⟨w'.heap.size, 0, none⟩)) (by rfl) rfl ?_ ?_
     ·go_simp
      try rfl
     refine hK.out _ _ ⟨As, cs, w'.heap.size, m1_, m2_, (.pointer (some ⟨w'.heap.size, 0, none⟩)), m4_, (by rw [ha.out]; exact qah 3 hb_ rfl rfl rfl), qak BX5.out _, qab HB5.out _, fun _ => Kd.qa3 HS5.out _, fun _ => qcn w' _, fun _ => HB5.out.size, Q_X1_, Q_X2_, fun _ => rfl, fun h0_ => absurd ((hoff 4 (by kernel_rfl)).symm.trans h0_) (by decide)⟩
    refine qag ?_ ?_
    ·rintro b a w' ⟨As, cs, gw, m1_, m2_, m3_, m4_, ha, Q_BX5, Q_HB5, Q_HS5, Q_BW5, Q_GW5, Q_X1_, Q_X2_, Q_X3_, Q_X4_⟩ hb_ hon hoff
     refine ⟨_, rfl, fun K hK => ?_⟩
     have e18 : a.tmps[18]? = some (m3_) := on_ ha 3 rfl rfl (hon 3 (by kernel_rfl)) rfl
     rw [Q_X3_ (hon 3 (by kernel_rfl))] at e18
     replace ha := Aside0.mk ha
     refine qaJ (w1 := w') (v := .pointer (some ⟨gw, 0, none⟩)) (by rfl) rfl ?_ ?_
     ·go_simp
      (try simp only [qaS])
      try rfl
     refine hK.out _ _ ⟨As, cs, gw, m1_, m2_, m3_, (.pointer (some ⟨gw, 0, none⟩)), (by rw [ha.out]; exact qah 4 hb_ rfl rfl rfl), Q_BX5, Q_HB5, Q_HS5, Q_BW5, Q_GW5, Q_X1_, Q_X2_, Q_X3_, fun _ => rfl⟩
    exact qb7
   rintro b a wA hall ⟨As, cs, gw, m1_, m2_, m3_, m4_, ha, Q_BX5, Q_HB5, Q_HS5, Q_BW5, Q_GW5, Q_X1_, Q_X2_, Q_X3_, Q_X4_⟩
   clear BX5 HB5
   have hb0_ := hall 0 (by kernel_rfl)
   have hb1_ := hall 1 (by kernel_rfl)
   have hb2_ := hall 2 (by kernel_rfl)
   have hb3_ := hall 3 (by kernel_rfl)
   have hb4_ := hall 4 (by kernel_rfl)
   subst ha
   obtain rfl := Q_X1_ hb1_
   obtain rfl := Q_X2_ hb2_
   obtain rfl := Q_X3_ hb3_
   obtain rfl := Q_X4_ hb4_
   simp only [qbq, hb0_, hb1_, hb2_, hb3_, hb4_, if_true, Act.put, List.setIfInBounds_toArray, List.set_cons_zero, List.set_cons_succ]
   have BX5 := Aside0.mk Q_BX5
   clear Q_BX5
   have HB5 := Aside0.mk Q_HB5
   clear Q_HB5
   have HS5 := Aside0.mk (Q_HS5 hb1_)
   clear Q_HS5
   have BW5 := Aside0.mk (Q_BW5 hb3_)
   clear Q_BW5
   have GW5 := Aside0.mk (Q_GW5 hb3_)
   clear Q_GW5
   clear hall hb0_ hb1_ hb2_ hb3_ hb4_
   clear BX5
   have HW5 := Aside0.mk (show WkAt w wA gw (.slice A ns.length c) (.slice As noneW.length cs) (.slice none 0 0) noneW [] from ⟨GW5.out, BW5.out, HS5.out, Kd.qd0 _ _ _ _ _⟩)
   clear GW5 BW5 HS5
   by_cases h0 : 0 ≤ root
   ·obtain ⟨k, rfl⟩ : ∃ k : Nat, root = (k : Int) := ⟨root.toNat, by omega⟩
    have hk : k < 50 := by have := HRG.out; omega
    have c2 : decide (0 ≤ (k : Int)) = true := decide_eq_true h0
    have hres : lookW ns (k : Int) = walkW ns 21 (k : Int) noneW [] := by unfold lookW; rw [if_pos HL.out, if_neg (by omega)]
    have HRES := Aside0.mk hres
    obtain ⟨rb, S2, P2, hlk⟩ : ∃ rb S2 P2, walkW ns 21 (k : Int) noneW [] = (rb, S2, P2) := ⟨_, _, _, rfl⟩
    have hw := qfQ ns w A c HR.out HL.out HBD.out 21 k 0 noneW [] wA gw _ _ hk (by omega) (by omega) qdI HB5.out HW5.out
    rw [hlk] at hw hres
    have HLK := Aside0.mk hres
    have HCW := Aside0.mk hw
    clear hlk hres hw h0
    go_wp2_with fail
    refine HCW.out.mono ?_
    rintro e w3 ⟨rfl, hb3, _, hst⟩
    cases rb with
    | false =>
     have h := HNO.out
     rw [qdf, HLK.out] at h
     cases h
    | true =>
     obtain ⟨vs3, vp3, hw3⟩ := hst rfl
     obtain ⟨vpA, vpc, ev, hvc, _⟩ := Kd.qbP hw3.2.2.2
     subst ev
     obtain ⟨d0, d1, d2, _⟩ := cells3 hw3.2.1
     obtain ⟨ko, hko⟩ := Ev.rounds (qdb P2)
     have hok : qcF P2 = true := by
      have h := HNO.out
      rw [qdf, HLK.out] at h
      simpa using h
     rw [hok] at hko
     have HKO := Aside0.mk hko
     clear hko hok hst
     go_wp2_with fail
     refine (qbL.calls (hr0 := (Kd.qbe hw3.2.2.2).2.2) (hc0 := (Kd.qbe hw3.2.2.2).2.1) (h := HKO.out)).mono ?_
     rintro e w4 ⟨rfl, hb4⟩
     have HB6 := Aside0.mk (qai hb3 hb4)
     have HW6 := Aside0.mk (hw3.below hb4)
     clear hb3 hb4 hw3 d0 d1 d2
     go_wp2_with fail
     go_ret
     have h1 : (walkR ns (k : Int)).2.1 = S2 := by unfold walkR; rw [HLK.out]
     have h2 : (walkR ns (k : Int)).1 = P2 := by unfold walkR; rw [HLK.out]
     rw [h1, h2]
     exact ⟨gw, _, _, rfl, HW6.out, HB6.out⟩
   ·have e0 : root = -1 := by have := HRG.out; omega
    subst e0
    have hlk : lookW ns (-1) = (true, noneW, []) := by unfold lookW; rw [if_pos HL.out, if_pos rfl]
    have HLK := Aside0.mk hlk
    obtain ⟨ko, hko⟩ := Ev.rounds (qdb ([] : List S99))
    rw [show qcF ([] : List S99) = true from rfl] at hko
    have HKO := Aside0.mk hko
    obtain ⟨d0, d1, d2, _⟩ := cells3 HW5.out.2.1
    clear hko hlk h0
    go_wp2_with fail
    have HN := Aside0.mk (show Kd.C k99 wA none ([] : List S99).length [] from (Kd.qbe HW5.out.2.2.2).2.2)
    refine (qbL.calls ko none 0 [] true wA HN.out (Nat.le_refl _) HKO.out).mono ?_
    rintro e w4 ⟨rfl, hb4⟩
    have HB6 := Aside0.mk (qai HB5.out hb4)
    have HW6 := Aside0.mk (HW5.out.below hb4)
    clear hb4 d0 d1 d2
    go_wp2_with fail
    go_ret
    have h1 : (walkR ns (-1)).2.1 = noneW := by unfold walkR; rw [HLK.out]
    have h2 : (walkR ns (-1)).1 = [] := by unfold walkR; rw [HLK.out]
    rw [h1, h2]
    exact ⟨gw, _, _, rfl, HW6.out, HB6.out⟩
 ·rw [qep hl] at hno
  cases hno
end Go.Proofs.Ytenfomejccfkgaa.X
namespace Go.Proofs.Ytenfomejccfkgaa.X
open Go.RowKit Go.Proofs.YtenfomejccfkgaaW.PrintWords Go.Proofs.YtenfomejccfkgaaW.PrintLast Go.Proofs.YtenfomejccfkgaaW.PrintMore
attribute [local go_sem] qaC qaD qaE qay qaz qaO qaP qas qat qaA qaB
set_option linter.unusedVariables false
set_option linter.unusedSimpArgs false
def orTo (a b : List Bool) (j : Nat) : List Bool := (List.range 50).map fun (i : Nat) => rdOf false a (i : Int) || (decide (i < j) && rdOf false b (i : Int))
def orW (a b : List Bool) : List Bool := orTo a b 50
def qdR (ns : List S56) (rs : List Int) : List Bool := rs.foldl (fun o r => orW o (walkR ns r).2.1) noneW
theorem qck (a b : List Bool) (j : Nat) : (orTo a b j).length = 50 := by unfold orTo; simp
theorem qdx {l : List Bool} {i : Nat} (h : i < l.length) : rdOf false l (i : Int) = l[i] := by
 unfold rdOf
 rw [Int.toNat_natCast]
 simp [List.getD_eq_getElem?_getD, h]
theorem qdg (a b : List Bool) (j i : Nat) (h : i < 50) : rdOf false (orTo a b j) (i : Int) = (rdOf false a (i : Int) || (decide (i < j) && rdOf false b (i : Int))) := by
 rw [qdx (by rw [qck]; exact h)]
 unfold orTo
 simp
theorem qfT (a b : List Bool) (h : a.length = 50) : orTo a b 0 = a := by
 refine List.ext_getElem (by rw [qck, h]) fun i h1 h2 => ?_
 rw [← qdx h1, qdg a b 0 i (by omega), qdx (by omega)]
 simp
theorem qfU (a b : List Bool) (j : Nat) (h : j < 50) : (orTo a b j).set j (rdOf false a (j : Int) || rdOf false b (j : Int)) = orTo a b (j + 1) := by
 refine List.ext_getElem (by rw [List.length_set, qck, qck]) fun i h1 h2 => ?_
 rw [qck] at h2
 rw [← qdx (l := orTo a b (j + 1)) (by rw [qck]; exact h2), qdg a b (j + 1) i h2]
 by_cases e : i = j
 ·subst e
  rw [List.getElem_set_self]
  simp
 ·rw [List.getElem_set_ne (fun h => e h.symm), ← qdx (l := orTo a b j) (by rw [qck]; exact h2), qdg a b j i h2]
  congr 2
  by_cases h3 : i < j
  ·rw [decide_eq_true h3, decide_eq_true (by omega)]
  ·rw [decide_eq_false h3, decide_eq_false (by omega)]
def qcv.f (l0_0 : List S56) (l1 : List Int) : Option (List Bool) := if qcq l0_0 = true ∧ l1.length ≤ 1000000 ∧ ∀ r, r ∈ l1 → (walkR l0_0 r).2.2 = true then some (qdR l0_0 l1) else none
set_option maxHeartbeats 16000000 in
set_option maxRecDepth 100000 in
theorem qcv.calls (A0_0 : Option Addr) (c0_0 : Nat) (l0_0 : List S56) (A1 : Option Addr) (c1 : Nat) (l1 : List Int) (r : List Bool) (w : World) (hr0_0 : Kd.C k56 w A0_0 l0_0.length l0_0) (hc0_0 : l0_0.length ≤ c0_0) (hr1 : Kd.C (Kd.int .i64) w A1 l1.length l1) (hc1 : l1.length ≤ c1) (h : qcv.f l0_0 l1 = some r) :
  Calls Try.prog 73 #[.agg #[.slice A0_0 l0_0.length c0_0], .slice A1 l1.length c1] w fun e w' => ∃ v0_ : Value, e = .returned (v0_) ∧ Kd.R Kd.bool 4 w' w.heap.size (fun _ => True) v0_ r ∧ Below w.heap.size w w' := by
 unfold qcv.f at h
 have hbd : qcq l0_0 = true ∧ l1.length ≤ 1000000 ∧ ∀ r, r ∈ l1 → (walkR l0_0 r).2.2 = true := by
  by_cases hb : qcq l0_0 = true ∧ l1.length ≤ 1000000 ∧ ∀ r, r ∈ l1 → (walkR l0_0 r).2.2 = true
  ·exact hb
  ·rw [if_neg hb] at h
   cases h
 rw [if_pos hbd] at h
 have hu := Try.underlying29
 have hu2 := Try.underlying155
 have hu3 := Try.underlying89
 have HR0 := Aside0.mk hr0_0
 have HR1 := Aside0.mk hr1
 have hl1 : l1.length ≤ 1000000 := hbd.2.1
 have HBD := Aside0.mk (And.intro (qcQ.1 hbd.1) hbd.2.2)
 have HH := Aside0.mk (Option.some.inj h)
 obtain ⟨w1, hw1⟩ : ∃ w1, w1 = w.alloc (.cells #[.slice A0_0 l0_0.length c0_0] 29 (0, 0)) := ⟨_, rfl⟩
 have HB1 := Aside0.mk (show Below w.heap.size w w1 from hw1 ▸ qab (Below.refl _ w) _)
 have BX1 := Aside0.mk (show w1.heap[w.heap.size]? = some (.cells #[.slice A0_0 l0_0.length c0_0] 29 (0, 0)) from hw1 ▸ qcn w _)
 clear h hr0_0 hr1 hbd
 go_enter Try.func73, Try.ntmps73
 go_upto_region 1 with fail
 rw [← hw1]
 clear hw1
 go_wp2_with (first | ((with_reducible refine qaQ (N := 10) rfl ?_); refine Kd.qdL Kd.bool (w0 := w) w.heap.size 4 rfl (N := 10) rfl 89 _ _ rfl 50 rfl rfl Try.underlying89 (.bool false) 1 info4 rfl (by decide) (by omega) false (ok := fun _ => True) (okp := fun _ => True) rfl (fun _ hk => hk) trivial (by omega) (by decide) HB1.out HB1.out.size ?_; intro v1 w2 ho1 hb1 hg1 hn1))
 have HO := Aside0.mk (show Kd.R Kd.bool 4 w2 w.heap.size (fun _ => True) v1 noneW from ho1)
 have HB2 := Aside0.mk hb1
 have BX2 := Aside0.mk (qbR BX1.out hg1 (by simp))
 clear ho1 hb1 hg1 hn1 HB1 BX1
 obtain ⟨go, co, ev, hgo, hgl, _⟩ := Kd.qce HO.out (by unfold noneW; simp)
 subst ev
 have HGO := Aside0.mk hgo
 have HGL0 := Aside0.mk hgl
 clear hgo hgl
 go_upto_region 3 with fail
 go_loopw [13] (fun v13 wr => ∃ (i : Nat) (o : List Bool), i ≤ l1.length ∧ v13 = .int .i64 (i : Int) ∧ Aside0 (o.length = 50) ∧ Aside0 (Kd.R Kd.bool 4 wr w.heap.size (fun _ => True) (.slice (some ⟨go, 0, none⟩) noneW.length co) o) ∧ Aside0 (Below w.heap.size w wr) ∧ Aside0 (wr.heap[w.heap.size]? = some (.cells #[.slice A0_0 l0_0.length c0_0] 29 (0, 0))) ∧ Aside0 (go < wr.heap.size) ∧ Aside0 ((l1.drop i).foldl (fun o r => orW o (walkR l0_0 r).2.1) o = r)) (fun v13 _ => l1.length - (intOf v13).toNat)
 case atStart => exact ⟨0, noneW, by omega, rfl, ⟨rfl⟩, HO, HB2, BX2, HGL0, ⟨HH.out⟩⟩
 case round =>
  clear HO HB2 BX2
  obtain ⟨i, o, hi, rfl, HOL, HO, HB, BX, HGL, HE⟩ := hrel
  by_cases hlt : i < l1.length
  ·have c5 : decide ((i : Int) < (l1.length : Int)) = true := decide_eq_true (by omega)
   have i0 : 0 ≤ (i : Int) := by omega
   have i1 : (i : Int) < (l1.length : Int) := by omega
   obtain ⟨ad1, e1, k1⟩ := Kd.qbS HR1.out (i : Int) i0 i1
   cases e1
   obtain ⟨rt, hrt⟩ : ∃ rt, rt = l1[i] := ⟨_, rfl⟩
   have hrd : rd l1 (i : Int) = rt := by
    rw [hrt]
    unfold rd
    simp [List.getD_eq_getElem?_getD, hlt]
   rw [Int.toNat_natCast, hrd] at k1
   replace k1 := (HB.out.cell (World.block_lt_of_cell? w _ k1)).trans k1
   have hd : l1.drop i = rt :: l1.drop (i + 1) := by rw [hrt]; exact List.drop_eq_getElem_cons hlt
   have hok := HBD.out.2 rt (by rw [hrt]; exact List.getElem_mem _)
   have hE := HE.out
   rw [hd, List.foldl_cons] at hE
   have HE2 := Aside0.mk hE
   have b0 := qae BX.out 0
   simp only [List.getElem?_toArray, List.getElem?_cons_zero] at b0
   have HOK := Aside0.mk hok
   clear hE hd hok hrd hrt HE
   obtain ⟨Sn, hSn⟩ : ∃ Sn, Sn = (walkR l0_0 rt).2.1 := ⟨_, rfl⟩
   have hsl : Sn.length = 50 := by rw [hSn]; exact qeo _ _
   go_wp2_with fail
   refine (qeV l0_0 rt A0_0 c0_0 _ (Kd.qav HR0.out HB.out) HBD.out.1 HOK.out).mono ?_
   rintro e w3 ⟨g, vs, vp, rfl, hw, hb⟩
   rw [← hSn] at hw HE2
   obtain ⟨sA, sc, ev, _, _⟩ := Kd.qbP hw.2.2.1
   subst ev
   obtain ⟨d0, d1, d2, _⟩ := cells3 hw.2.1
   have HSN := Aside0.mk (Kd.qby (Kd.qbv (Kd.qb4 hw.2.2.1) (fun k hk => (show wr.heap.size ≤ k from hk.2.1))) HB.out.size)
   have HO3 := Aside0.mk (Kd.qbj HO.out hb)
   have HB3 := Aside0.mk (qai HB.out hb)
   have BX3 := Aside0.mk (qar BX.out hb)
   have HSZ := Aside0.mk hb.size
   have HGN := HGL
   have HSL := Aside0.mk hsl
   clear hb hw b0 k1 hSn hsl HO HB BX
   obtain ⟨N0, hN0⟩ : ∃ N0, N0 = wr.heap.size := ⟨_, rfl⟩
   rw [← hN0] at HSN HSZ HGN
   go_upto_region 6 with fail
   clear d0 d1 d2 hN0 HGL
   go_loopw [24] (fun v24 wq => ∃ (j : Nat) (q : List Bool), j ≤ 50 ∧ v24 = .int .i64 (j : Int) ∧ q = orTo o Sn j ∧ Aside0 (Kd.R Kd.bool 4 wq w.heap.size (fun _ => True) (.slice (some ⟨go, 0, none⟩) noneW.length co) q) ∧ Aside0 (Below w.heap.size w wq) ∧ Aside0 (wq.heap[w.heap.size]? = some (.cells #[.slice A0_0 l0_0.length c0_0] 29 (0, 0))) ∧ Aside0 (N0 ≤ wq.heap.size) ∧ Aside0 (Kd.R Kd.bool 4 wq w.heap.size (fun k => N0 ≤ k) (.slice sA Sn.length sc) Sn)) (fun v24 _ => 50 - (intOf v24).toNat)
   case atStart => exact ⟨0, o, by omega, rfl, (qfT o Sn HOL.out).symm, HO3, HB3, BX3, HSZ, HSN⟩
   case round =>
    clear HO3 HB3 BX3 HSZ HSN
    obtain ⟨j, q, hj, rfl, hq, HQ, HBq, BXq, HSZ, HSN⟩ := hrel
    have hsl := HSL.out
    by_cases hjl : j < 50
    ·have c6 : decide ((j : Int) < (Sn.length : Int)) = true := decide_eq_true (by omega)
     have j0 : 0 ≤ (j : Int) := by omega
     have j1 : (j : Int) < (Sn.length : Int) := by omega
     have hnl : noneW.length = 50 := by unfold noneW; simp
     have j2 : (j : Int) < (noneW.length : Int) := by omega
     obtain ⟨gs2, cs2, ev, hgs2, _, _⟩ := Kd.qce HSN.out (by omega)
     injection ev with ev1 _ ev2
     subst ev1; subst ev2
     obtain ⟨x0, x1⟩ := Kd.qca false HSN.out (j : Int) j0 j1
     obtain ⟨y0, y1⟩ := Kd.qca false HQ.out (j : Int) j0 j2
     rw [Int.toNat_natCast] at x0 x1 y0 y1
     have hqj : rdOf false q (j : Int) = rdOf false o (j : Int) := by rw [hq, qdg o Sn j j hjl]; simp
     have hP := Kd.qgW HQ.out (j : Int) (rdOf false o (j : Int) || rdOf false Sn (j : Int))
     rw [Int.toNat_natCast, hq, qfU o Sn j hjl] at hP
     rw [hqj] at y0
     have HPP := Aside0.mk hP
     have HSF := Aside0.mk (Kd.qcB HSN.out (p := ⟨go, j, none⟩) (fun k hk => by have := HGN.out; show k ≠ go; omega) (.bool (rdOf false o (j : Int) || rdOf false Sn (j : Int))))
     have BXF := Aside0.mk (show (wr.setCell ⟨go, j, none⟩ (.bool (rdOf false o (j : Int) || rdOf false Sn (j : Int)))).heap[w.heap.size]? = some (.cells #[.slice A0_0 l0_0.length c0_0] 29 (0, 0)) from by
      obtain ⟨_, _, _, _, _, cc, hcc⟩ := Kd.qce HQ.out (by rw [hq, qck]; omega)
      rename_i ev3 _ _
      injection ev3 with e4 _ _
      injection e4 with e4
      injection e4 with e4
      subst e4
      exact qb8 BXq.out (qfm BXq.out hcc (by decide)) _)
     clear hP hqj hsl hnl
     generalize rdOf false o (j : Int) = bo at *
     generalize rdOf false Sn (j : Int) = bs at *
     cases bo with
     | true =>
      go_wp2_with fail
      go_roundw
      case rel => exact ⟨j + 1, _, by omega, by go_num, rfl, HPP, ⟨HBq.out.setCell (p := ⟨go, j, none⟩) HGO.out _⟩, BXF, ⟨Nat.le_trans HSZ.out ((Below.refl 0 wr).setCell (p := ⟨go, j, none⟩) (Nat.zero_le _) (.bool (true || bs))).size⟩, HSF⟩
      case measure => simp [intOf]; omega
     | false =>
      go_wp2_with fail
      go_roundw
      case rel => exact ⟨j + 1, _, by omega, by go_num, rfl, HPP, ⟨HBq.out.setCell (p := ⟨go, j, none⟩) HGO.out _⟩, BXF, ⟨Nat.le_trans HSZ.out ((Below.refl 0 wr).setCell (p := ⟨go, j, none⟩) (Nat.zero_le _) (.bool (false || bs))).size⟩, HSF⟩
      case measure => simp [intOf]; omega
    ·have hj5 : j = 50 := by omega
     have c6 : decide ((j : Int) < (Sn.length : Int)) = false := decide_eq_false (by omega)
     have c7 : ¬ j < Sn.length := by omega
     have HQ2 := Aside0.mk (show Kd.R Kd.bool 4 wr w.heap.size (fun _ => True) (.slice (some ⟨go, 0, none⟩) noneW.length co) (orW o Sn) from by have := HQ.out; rw [hq, hj5] at this; exact this)
     clear hq HQ hsl hj5
     go_wp2_with fail
     go_roundw
     case rel => exact ⟨i + 1, orW o Sn, by omega, by go_num, ⟨qck _ _ _⟩, HQ2, HBq, BXq, ⟨by have := HSZ.out; have := HGN.out; omega⟩, HE2⟩
     case measure => simp [intOf]; omega
  ·have he : i = l1.length := by omega
   have c5 : decide ((i : Int) < (l1.length : Int)) = false := decide_eq_false (by omega)
   have hE := HE.out
   rw [he, List.drop_length, List.foldl_nil] at hE
   have HE2 := Aside0.mk hE
   clear hE he HE
   go_wp2_with fail
   go_ret
   rw [← HE2.out]
   exact ⟨_, rfl, HO.out, HB.out⟩
end Go.Proofs.Ytenfomejccfkgaa.X
namespace Go.Proofs.Ytenfomejccfkgaa.X
open Go.RowKit Go.Proofs.YtenfomejccfkgaaW.PrintWords Go.Proofs.YtenfomejccfkgaaW.PrintLast Go.Proofs.YtenfomejccfkgaaW.PrintMore
attribute [local go_sem] qaC qaD qaE qay qaz qaO qaP qas qat qaA qaB
set_option linter.unusedVariables false
set_option linter.unusedSimpArgs false
def GoodS (ns : List S56) (s : List Bool) : Prop := ∀ i : Nat, rdOf false s (i : Int) = true → i < ns.length ∧ nbN (qaG ns (i : Int)) = true ∧ fbN (qaG ns (i : Int)) = false
theorem qgH {Q : List Bool → Prop} {f : Int → List Bool → List S99 → Bool × List Bool × List S99} (hf : ∀ k s p, Q s → Q (f k s p).2.1) : ∀ (ks : List Int) (ms : List ByteArray) (s : List Bool) (p : List S99), Q s → Q (kidsW f ks ms s p).2.1 := by
 intro ks
 induction ks with
 | nil => intro ms s p h; rw [qek]; exact h
 | cons k ks ih =>
  intro ms s p h
  cases ms with
  | nil => exact h
  | cons m ms =>
   rw [qdH]
   split
   ·exact ih _ _ _ (hf k s p h)
   ·exact hf k s p h
theorem qgI (ns : List S56) : ∀ (n : Nat) (k : Int) (s : List Bool) (p : List S99), GoodS ns s → GoodS ns (walkW ns n k s p).2.1 := by
 intro n
 induction n with
 | zero => intro k s p h; exact h
 | succ n ih =>
  intro k s p h
  unfold walkW
  split
  ·rename_i hg
   obtain ⟨g0, g1, _, g3, g4⟩ := hg
   refine qgH ih _ _ _ _ fun i hi => ?_
   by_cases e : i = k.toNat
   ·have ek : (i : Int) = k := by omega
    rw [ek]
    exact ⟨by omega, g3, g4⟩
   ·refine h i ?_
    unfold rdOf at hi ⊢
    rw [Int.toNat_natCast] at hi ⊢
    rw [List.getD_eq_getElem?_getD, List.getElem?_set_ne (fun h => e h.symm), ← List.getD_eq_getElem?_getD] at hi
    exact hi
  ·exact h
theorem none_off (i : Nat) : rdOf false noneW (i : Int) = false := by
 unfold rdOf noneW
 rw [Int.toNat_natCast, List.getD_eq_getElem?_getD, List.getElem?_replicate]
 split <;> rfl
theorem qdy (ns : List S56) : GoodS ns noneW := fun i hi => by rw [none_off] at hi; cases hi
theorem qgJ (ns : List S56) (root : Int) : GoodS ns (walkR ns root).2.1 := by
 show GoodS ns (lookW ns root).2.1
 unfold lookW
 split
 ·split
  ·exact qdy ns
  ·exact qgI ns 21 root noneW [] (qdy ns)
 ·exact qdy ns
theorem orTo_far (a b : List Bool) (j i : Nat) (h : 50 ≤ i) : rdOf false (orTo a b j) (i : Int) = false := by
 unfold rdOf
 rw [Int.toNat_natCast, List.getD_eq_getElem?_getD, List.getElem?_eq_none (by rw [qck]; exact h)]
 rfl
theorem good_or {ns : List S56} {a b : List Bool} (ha : GoodS ns a) (hb : GoodS ns b) : GoodS ns (orW a b) := fun i hi => by
 rcases Nat.lt_or_ge i 50 with h | h
 ·unfold orW at hi
  rw [qdg a b 50 i h, decide_eq_true h, Bool.true_and, Bool.or_eq_true] at hi
  exact hi.elim (ha i) (hb i)
 ·unfold orW at hi
  rw [orTo_far a b 50 i h] at hi
  cases hi
theorem qhn (ns : List S56) (rs : List Int) : ∀ o, GoodS ns o → GoodS ns (rs.foldl (fun o r => orW o (walkR ns r).2.1) o) := by
 induction rs with
 | nil => intro o h; exact h
 | cons r rs ih => intro o h; exact ih _ (good_or h (qgJ ns r))
theorem qdq (ns : List S56) (rs : List Int) : GoodS ns (qdR ns rs) := qhn ns rs noneW (qdy ns)
theorem fold_len (ns : List S56) (rs : List Int) : ∀ o : List Bool, o.length = 50 → (rs.foldl (fun o r => orW o (walkR ns r).2.1) o).length = 50 := by
 induction rs with
 | nil => intro o h; exact h
 | cons r rs ih => intro o h; exact ih _ (qck _ _ _)
theorem qeW (ns : List S56) (rs : List Int) : (qdR ns rs).length = 50 := fold_len ns rs noneW (by unfold noneW; exact List.length_replicate ..)
def incL (x : List Int) (js : List Int) : List Int := js.foldl (fun x j => x.set j.toNat (rd x j + 1)) x
def zeroL : List Int := List.replicate 50 (0 : Int)
def qcR (rs : List Int) : List Int := rs.filter fun r => decide (0 ≤ r)
def qb2 (ns : List S56) (s : List Bool) : Nat → Nat → List Int
 | _, 0 => []
 | i, d + 1 => (if rdOf false s (i : Int) = true then (qaG ns (i : Int)).f3 else []) ++ qb2 ns s (i + 1) d
structure Bnd (x : List Int) (b : Int) : Prop where
 len : x.length = 50
 rng : ∀ i : Nat, i < 50 → 0 ≤ rd x (i : Int) ∧ rd x (i : Int) ≤ b
def In50 (js : List Int) : Prop := ∀ j, j ∈ js → 0 ≤ j ∧ j < 50
theorem rd_set {x : List Int} {j : Int} {v : Int} (h0 : 0 ≤ j) (h1 : j < (x.length : Int)) (i : Nat) : rd (x.set j.toNat v) (i : Int) = if (i : Int) = j then v else rd x (i : Int) := by
 unfold rd
 rw [Int.toNat_natCast, List.getD_eq_getElem?_getD, List.getD_eq_getElem?_getD]
 by_cases e : (i : Int) = j
 ·rw [if_pos e, show j.toNat = i by omega, List.getElem?_set_self (by omega)]
  rfl
 ·rw [if_neg e, List.getElem?_set_ne (by omega)]
theorem Bnd.inc {x : List Int} {b : Int} (h : Bnd x b) {j : Int} (h0 : 0 ≤ j) (h1 : j < 50) : Bnd (x.set j.toNat (rd x j + 1)) (b + 1) := by
 refine ⟨by rw [List.length_set]; exact h.len, fun i hi => ?_⟩
 have hj := h.rng j.toNat (by omega)
 rw [show ((j.toNat : Nat) : Int) = j by omega] at hj
 have hi2 := h.rng i hi
 rw [rd_set h0 (by rw [h.len]; omega)]
 split <;> omega
theorem Bnd.incs {js : List Int} : ∀ {x : List Int} {b : Int}, Bnd x b → In50 js → Bnd (incL x js) (b + js.length) := by
 induction js with
 | nil => intro x b h _; simpa [incL] using h
 | cons j js ih =>
  intro x b h hj
  have h1 := hj j List.mem_cons_self
  have h2 := ih (h.inc h1.1 h1.2) fun y hy => hj y (List.mem_cons_of_mem _ hy)
  rw [List.length_cons, show b + ((js.length + 1 : Nat) : Int) = b + 1 + (js.length : Int) by omega]
  exact h2
theorem qgp {js : List Int} : ∀ {x : List Int}, x.length = 50 → In50 js → ∀ i : Nat, i < 50 → rd (incL x js) (i : Int) = rd x (i : Int) + (js.count (i : Int) : Int) := by
 induction js with
 | nil => intro x _ _ i _; simp [incL]
 | cons j js ih =>
  intro x hx hj i hi
  have h1 := hj j List.mem_cons_self
  have h2 := ih (x := x.set j.toNat (rd x j + 1)) (by rw [List.length_set]; exact hx) (fun y hy => hj y (List.mem_cons_of_mem _ hy)) i hi
  show rd (incL (x.set j.toNat (rd x j + 1)) js) (i : Int) = _
  rw [h2, rd_set h1.1 (by rw [hx]; omega), List.count_cons]
  by_cases e : (i : Int) = j
  ·rw [if_pos e, ← e]
   simp
   omega
  ·rw [if_neg e, if_neg (by simp; exact fun h => e h.symm)]
   simp
theorem qdh (js : List Int) : ∀ x : List Int, (incL x js).length = x.length := by
 induction js with
 | nil => intro x; rfl
 | cons j js ih => intro x; show (incL (x.set j.toNat (rd x j + 1)) js).length = _; rw [ih, List.length_set]
theorem qho {a b : List Int} (ha : In50 a) (hb : In50 b) : incL zeroL (a ++ b) = incL zeroL (b ++ a) := by
 have hz : zeroL.length = 50 := List.length_replicate ..
 have hab : In50 (a ++ b) := fun j hj => (List.mem_append.1 hj).elim (ha j) (hb j)
 have hba : In50 (b ++ a) := fun j hj => (List.mem_append.1 hj).elim (hb j) (ha j)
 refine List.ext_getElem (by rw [qdh, qdh]) fun i h1 h2 => ?_
 rw [qdh, hz] at h1
 have e1 := qgp hz hab i h1
 have e2 := qgp hz hba i h1
 have c : (a ++ b).count (i : Int) = (b ++ a).count (i : Int) := by rw [List.count_append, List.count_append, Nat.add_comm]
 rw [c, ← e2] at e1
 unfold rd at e1
 rw [Int.toNat_natCast, List.getD_eq_getElem?_getD, List.getD_eq_getElem?_getD, List.getElem?_eq_getElem (by rw [qdh, hz]; exact h1), List.getElem?_eq_getElem (by rw [qdh, hz]; exact h1)] at e1
 exact e1
theorem qfV (x : List Int) (j : Int) (js : List Int) : incL x (j :: js) = incL (x.set j.toNat (rd x j + 1)) js := rfl
theorem qgq (x a b : List Int) : incL x (a ++ b) = incL (incL x a) b := by unfold incL; rw [List.foldl_append]
theorem qdc {ns : List S56} {s : List Bool} (h : GoodS ns s) {i : Nat} (hi : rdOf false s (i : Int) = true) : (qaG ns (i : Int)).f3.length ≤ 4 ∧ In50 (qaG ns (i : Int)).f3 := by
 obtain ⟨_, h1, h2⟩ := h i hi
 cases hl : (qaG ns (i : Int)).f0 with
 | true => rw [(qdw h1 h2 hl).1]; exact ⟨by simp, (fun j hj => by cases hj)⟩
 | false =>
  obtain ⟨_, _, a, _, b⟩ := qda h1 h2 hl
  refine ⟨a, fun j hj => ?_⟩
  obtain ⟨q, hq, rfl⟩ := List.mem_iff_getElem.1 hj
  have := b q hq
  unfold rd at this
  rw [Int.toNat_natCast, List.getD_eq_getElem?_getD, List.getElem?_eq_getElem hq] at this
  simp only [Option.getD_some] at this
  omega
theorem qgf {ns : List S56} {s : List Bool} (h : GoodS ns s) : ∀ d i, In50 (qb2 ns s i d) ∧ (qb2 ns s i d).length ≤ 4 * d := by
 intro d
 induction d with
 | zero => intro i; exact ⟨(fun j hj => by cases hj), Nat.le_refl _⟩
 | succ d ih =>
  intro i
  obtain ⟨a, b⟩ := ih (i + 1)
  unfold qb2
  by_cases hi : rdOf false s (i : Int) = true
  ·rw [if_pos hi]
   obtain ⟨c, e⟩ := qdc h hi
   exact ⟨fun j hj => (List.mem_append.1 hj).elim (e j) (a j), by rw [List.length_append]; omega⟩
  ·rw [if_neg hi, List.nil_append]
   exact ⟨a, by omega⟩
theorem roots_in {rs : List Int} (h : ∀ r, r ∈ rs → r < 50) : In50 (qcR rs) ∧ (qcR rs).length ≤ rs.length := by
 refine ⟨fun j hj => ?_, List.length_filter_le _ _⟩
 obtain ⟨h1, h2⟩ := List.mem_filter.1 hj
 exact ⟨of_decide_eq_true h2, h j h1⟩
end Go.Proofs.Ytenfomejccfkgaa.X
namespace Go.Proofs.Ytenfomejccfkgaa.X
open Go.RowKit Go.Proofs.YtenfomejccfkgaaW.PrintWords Go.Proofs.YtenfomejccfkgaaW.PrintLast Go.Proofs.YtenfomejccfkgaaW.PrintMore
attribute [local go_sem] qaC qaD qaE qay qaz qaO qaP qas qat qaA qaB
set_option linter.unusedVariables false
set_option linter.unusedSimpArgs false
end Go.Proofs.Ytenfomejccfkgaa.X
namespace Go.Proofs.Ytenfomejccfkgaa.X
open Go.RowKit Go.Proofs.YtenfomejccfkgaaW.PrintWords Go.Proofs.YtenfomejccfkgaaW.PrintLast Go.Proofs.YtenfomejccfkgaaW.PrintMore
attribute [local go_sem] qaC qaD qaE qay qaz qaO qaP qas qat qaA qaB
set_option linter.unusedVariables false
set_option linter.unusedSimpArgs false
end Go.Proofs.Ytenfomejccfkgaa.X
namespace Go.Proofs.Ytenfomejccfkgaa.X
open Go.RowKit Go.Proofs.YtenfomejccfkgaaW.PrintWords Go.Proofs.YtenfomejccfkgaaW.PrintLast Go.Proofs.YtenfomejccfkgaaW.PrintMore
attribute [local go_sem] qaC qaD qaE qay qaz qaO qaP qas qat qaA qaB
set_option linter.unusedVariables false
set_option linter.unusedSimpArgs false
end Go.Proofs.Ytenfomejccfkgaa.X
namespace Go.Proofs.Ytenfomejccfkgaa.X
open Go.RowKit Go.Proofs.YtenfomejccfkgaaW.PrintWords Go.Proofs.YtenfomejccfkgaaW.PrintLast Go.Proofs.YtenfomejccfkgaaW.PrintMore
attribute [local go_sem] qaC qaD qaE qay qaz qaO qaP qas qat qaA qaB
set_option linter.unusedVariables false
set_option linter.unusedSimpArgs false
end Go.Proofs.Ytenfomejccfkgaa.X
namespace Go.Proofs.Ytenfomejccfkgaa.X
open Go.RowKit Go.Proofs.YtenfomejccfkgaaW.PrintWords Go.Proofs.YtenfomejccfkgaaW.PrintLast Go.Proofs.YtenfomejccfkgaaW.PrintMore
attribute [local go_sem] qaC qaD qaE qay qaz qaO qaP qas qat qaA qaB
set_option linter.unusedVariables false
set_option linter.unusedSimpArgs false
end Go.Proofs.Ytenfomejccfkgaa.X
