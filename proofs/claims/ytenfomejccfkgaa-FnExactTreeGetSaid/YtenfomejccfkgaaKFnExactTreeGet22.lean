import Derived.Test.YtenfomejccfkgaaKFnExactTreeGet4
import Derived.Test.YtenfomejccfkgaaKFnExactTreeGet11
import Derived.Test.YtenfomejccfkgaaKFnExactTreeGet12
import Derived.Test.YtenfomejccfkgaaKFnExactTreeGet17
import Derived.Test.YtenfomejccfkgaaKFnExactTreeGet18
import Derived.Test.YtenfomejccfkgaaKFnExactTreeGet20
import Derived.Test.YtenfomejccfkgaaKFnExactTreeGet21
import Derived.LoopTactic
import Derived.WalkSpells
import Derived.Lib.Bytealg
import Derived.Laws.Externs
import Derived.Laws.Strings
import Derived.Sort.Walk0
import Derived.BigQuiet
namespace Go.Proofs.Ytenfomejccfkgaa.X
open Go.RowKit Go.Proofs.YtenfomejccfkgaaW.PrintWords Go.Proofs.YtenfomejccfkgaaW.PrintLast Go.Proofs.YtenfomejccfkgaaW.PrintMore
attribute [local go_sem] qaN qaO qaP qaJ qaK qaZ qa0 qaE qaF qaL qaM
set_option linter.unusedVariables false
set_option linter.unusedSimpArgs false
def qcX.T3 : Bool × List (List Nat × List Nat) := (true, [([], []), ([], []), ([0, 1], [0, 1]), ([2], [2]), ([3, 0, 1, 2, 3], [3])])
def qcX.B3 : List Nat := [0, 0, 3, 7, 15]
theorem qcX.tab3 : rtab .any (opsOf Try.f63 3) = qcX.T3 := by kernel_rfl
theorem qcX.bits3 : qbO qcX.T3.2 qcX.B3 = true := by kernel_rfl
set_option maxHeartbeats 16000000 in
set_option maxRecDepth 100000 in
theorem qge (ns : List S56) (root : Int) (A : Option Addr) (c : Nat) (w : World) (hr : Kd.C k56 w A ns.length ns) (hbd : qcW ns) (hno : (walkR ns root).2.2 = false) : Calls Try.prog 63 #[.agg #[.slice A ns.length c], .int .i64 root] w fun e w' => e = .returned (.pointer none) ∧ Below w.heap.size w w' := by
 have hu := Try.underlying29
 have hu2 := Try.underlying155
 have hu3 := Try.underlying89
 have HR := Aside0.mk hr
 obtain ⟨w1, hw1⟩ : ∃ w1, w1 = w.alloc (.cells #[.slice A ns.length c] 29 (0, 0)) := ⟨_, rfl⟩
 have HB1 := Aside0.mk (show Below w.heap.size w w1 from hw1 ▸ qab (Below.refl _ w) _)
 have BX1 := Aside0.mk (show w1.heap[w.heap.size]? = some (.cells #[.slice A ns.length c] 29 (0, 0)) from hw1 ▸ qcF w _)
 by_cases hl : ns.length = 50
 ·have c1 : ((ns.length : Int) != 50) = false := by rw [hl]; rfl
  have hin := qej root (-1) 49
  cases hr : inB root (-1) 49 with
  | false =>
   rw [hr] at hin
   have HIN := Aside0.mk hin
   clear hno hl hbd hin hr
   go_enter Try.func63, Try.ntmps63
   go_wp2_with fail
   refine (qa9.calls _ _ _ _ _ HIN.out).mono ?_
   rintro e w2 ⟨rfl, hdr⟩
   rw [← hw1] at hdr
   have HB2 := Aside0.mk (qaj HB1.out hdr.below)
   clear hdr
   go_wp2_with fail
   go_ret
   exact ⟨rfl, HB2.out⟩
  | true =>
   have hrg : -1 ≤ root ∧ root ≤ 49 := by unfold inB at hr; simpa using hr
   rw [hr] at hin
   have HIN := Aside0.mk hin
   have HRG := Aside0.mk hrg
   have HL := Aside0.mk hl
   have HBD := Aside0.mk hbd
   have HNO := Aside0.mk hno
   clear hno hl hbd hin hr hrg
   go_enter Try.func63, Try.ntmps63
   go_wp2_with fail
   refine (qa9.calls _ _ _ _ _ HIN.out).mono ?_
   rintro e w2 ⟨rfl, hdr⟩
   rw [← hw1] at hdr
   have HB2 := Aside0.mk (qaj HB1.out hdr.below)
   have BX2 := Aside0.mk (qaw BX1.out hdr.below)
   clear hdr hw1 HB1 BX1
   go_upto_region 3 with fail
   have BX5 := Aside0.mk (qap BX2.out)
   have HB5 := Aside0.mk (qbq HB2.out)
   clear HB2 BX2 c1
   refine qce (n := 5) (S := fun w' => True) (ds := []) #[false, false, false, false, false] (by kernel_rfl) rfl rfl trivial (fun hHeld => ?_)
   refine qbF qcX.tab3 qcX.bits3 (fun HT_ HW_ => ?_)
   generalize w2.drew = wd at BX5 HB5 ⊢
   refine qcp [0, 1, 2, 3, 4] (fun a0_ b a w' => ∃ (As : Option Addr) (cs : Nat) (gw : Nat) (m1_ : Value) (m2_ : Value) (m3_ : Value) (m4_ : Value), a = qbe a0_ b [(0, 15, .agg #[.slice A ns.length c]), (1, 16, m1_), (2, 17, m2_), (3, 18, m3_), (4, 5, m4_)] ∧ (w'.heap[w.heap.size]? = some (.cells #[.slice A ns.length c] 29 (0, 0))) ∧ (Below w.heap.size w w') ∧ (b 1 = true → Kd.R Kd.bool 4 w' w.heap.size (fun _ => True) (.slice As noneW.length cs) noneW) ∧ (b 3 = true → w'.heap[gw]? = some (.cells #[.slice A ns.length c, .slice As noneW.length cs, .slice none 0 0] 155 (0, 0))) ∧ (b 3 = true → w.heap.size ≤ gw) ∧ (b 1 = true → (m1_ : Value) = .slice As noneW.length cs) ∧ (b 2 = true → (m2_ : Value) = .agg #[.slice A ns.length c, .slice As noneW.length cs, .slice none 0 0]) ∧ (b 3 = true → (m3_ : Value) = .pointer (some ⟨gw, 0, none⟩)) ∧ (b 4 = true → (m4_ : Value) = .pointer (some ⟨gw, 0, none⟩))) HT_.out HW_.out (by kernel_rfl) (by kernel_rfl) ?_ ?_ ?_
   ·exact ⟨none, 0, 0, .bool false, .bool false, .bool false, .bool false, by simp only [qbe, Bool.false_eq_true, if_false], BX5.out, HB5.out, fun h_ => absurd h_ (by decide), fun h_ => absurd h_ (by decide), fun h_ => absurd h_ (by decide), fun h_ => absurd h_ (by decide), fun h_ => absurd h_ (by decide), fun h_ => absurd h_ (by decide), fun h_ => absurd h_ (by decide)⟩
   ·skip
    clear BX5 HB5
    refine qaf ?_ ?_
    ·rintro b a w' ⟨As, cs, gw, m1_, m2_, m3_, m4_, ha, Q_BX5, Q_HB5, Q_HS5, Q_BW5, Q_GW5, Q_X1_, Q_X2_, Q_X3_, Q_X4_⟩ hb_ hon hoff
     refine ⟨_, rfl, fun K hK => ?_⟩
     have e2 : a.tmps[2]? = some (.pointer (some ⟨w.heap.size, 0, none⟩)) := by rw [ha]; exact (qaH rfl).trans rfl
     replace ha := Aside0.mk ha
     have BX5 := Aside0.mk Q_BX5
     have HB5 := Aside0.mk Q_HB5
     have hc_ : w'.cell? ⟨w.heap.size, 0, none⟩ = some (.slice A ns.length c) := qah BX5.out 0
     refine qaq (w1 := w') (v := .agg #[.slice A ns.length c]) (by rfl) rfl ?_ ?_
     ·go_simp
      (try simp only [qau])
      try rfl
     refine hK.out _ _ ⟨As, cs, gw, m1_, m2_, m3_, m4_, (by rw [ha.out]; exact qag 0 hb_ rfl rfl rfl), Q_BX5, Q_HB5, Q_HS5, fun h0_ => absurd ((hoff 3 (by kernel_rfl)).symm.trans h0_) (by decide), fun h0_ => absurd ((hoff 3 (by kernel_rfl)).symm.trans h0_) (by decide), Q_X1_, fun h0_ => absurd ((hoff 2 (by kernel_rfl)).symm.trans h0_) (by decide), fun h0_ => absurd ((hoff 3 (by kernel_rfl)).symm.trans h0_) (by decide), fun h0_ => absurd ((hoff 4 (by kernel_rfl)).symm.trans h0_) (by decide)⟩
    refine qaf ?_ ?_
    ·rintro b a w' ⟨As, cs, gw, m1_, m2_, m3_, m4_, ha, Q_BX5, Q_HB5, Q_HS5, Q_BW5, Q_GW5, Q_X1_, Q_X2_, Q_X3_, Q_X4_⟩ hb_ hon hoff
     refine ⟨_, rfl, fun K hK => ?_⟩
     replace ha := Aside0.mk ha
     have BX5 := Aside0.mk Q_BX5
     have HB5 := Aside0.mk Q_HB5
     refine Kd.qcZ Kd.bool (w0 := w) w.heap.size 4 (by rfl) (N := 16) (by rfl) 89 _ _ (by rfl) 50 (by rfl) (by rfl) Try.underlying89 (.bool false) 1 info4 rfl (by decide) (by omega) false (ok := fun _ => True) (okp := fun _ => True) rfl (fun _ hk => hk) trivial (by omega) (by decide) HB5.out HB5.out.size ?_
     intro v1 w1 ho1 hb1 hg1 hn1
     have ho2 : Kd.R Kd.bool 4 w1 w.heap.size (fun _ => True) v1 noneW := ho1
     obtain ⟨As_, cs_, ev_, _, _⟩ := Kd.qb8 ho2
     subst ev_
     refine hK.out _ _ ⟨As_, cs_, gw, (.slice As_ noneW.length cs_), m2_, m3_, m4_, (by rw [ha.out]; exact qag 1 hb_ rfl rfl rfl), qcg BX5.out hg1 (by simp), hb1, fun _ => ho2, fun h0_ => absurd ((hoff 3 (by kernel_rfl)).symm.trans h0_) (by decide), fun h0_ => absurd ((hoff 3 (by kernel_rfl)).symm.trans h0_) (by decide), fun _ => rfl, fun h0_ => absurd ((hoff 2 (by kernel_rfl)).symm.trans h0_) (by decide), fun h0_ => absurd ((hoff 3 (by kernel_rfl)).symm.trans h0_) (by decide), fun h0_ => absurd ((hoff 4 (by kernel_rfl)).symm.trans h0_) (by decide)⟩
    refine qaf ?_ ?_
    ·rintro b a w' ⟨As, cs, gw, m1_, m2_, m3_, m4_, ha, Q_BX5, Q_HB5, Q_HS5, Q_BW5, Q_GW5, Q_X1_, Q_X2_, Q_X3_, Q_X4_⟩ hb_ hon hoff
     refine ⟨_, rfl, fun K hK => ?_⟩
     have e15 : a.tmps[15]? = some (.agg #[.slice A ns.length c]) := by rw [ha]; exact qae (e := (0, 15, .agg #[.slice A ns.length c])) 0 rfl rfl (hon 0 (by kernel_rfl)) rfl
     have e16 : a.tmps[16]? = some (m1_) := by rw [ha]; exact qae (e := (1, 16, m1_)) 1 rfl rfl (hon 1 (by kernel_rfl)) rfl
     rw [Q_X1_ (hon 1 (by kernel_rfl))] at e16
     replace ha := Aside0.mk ha
     have BX5 := Aside0.mk Q_BX5
     have HB5 := Aside0.mk Q_HB5
     have HS5 := Aside0.mk (Q_HS5 (hon 1 (by kernel_rfl)))
     refine qaq (w1 := w') (v := .agg #[.slice A ns.length c, .slice As noneW.length cs, .slice none 0 0]) (by rfl) rfl ?_ ?_
     ·go_simp
      (try simp only [qau])
      try rfl
     refine hK.out _ _ ⟨As, cs, gw, m1_, (.agg #[.slice A ns.length c, .slice As noneW.length cs, .slice none 0 0]), m3_, m4_, (by rw [ha.out]; exact qag 2 hb_ rfl rfl rfl), Q_BX5, Q_HB5, Q_HS5, fun h0_ => absurd ((hoff 3 (by kernel_rfl)).symm.trans h0_) (by decide), fun h0_ => absurd ((hoff 3 (by kernel_rfl)).symm.trans h0_) (by decide), Q_X1_, fun _ => rfl, fun h0_ => absurd ((hoff 3 (by kernel_rfl)).symm.trans h0_) (by decide), fun h0_ => absurd ((hoff 4 (by kernel_rfl)).symm.trans h0_) (by decide)⟩
    refine qaf ?_ ?_
    ·rintro b a w' ⟨As, cs, gw, m1_, m2_, m3_, m4_, ha, Q_BX5, Q_HB5, Q_HS5, Q_BW5, Q_GW5, Q_X1_, Q_X2_, Q_X3_, Q_X4_⟩ hb_ hon hoff
     refine ⟨_, rfl, fun K hK => ?_⟩
     have e17 : a.tmps[17]? = some (m2_) := by rw [ha]; exact qae (e := (2, 17, m2_)) 2 rfl rfl (hon 2 (by kernel_rfl)) rfl
     rw [Q_X2_ (hon 2 (by kernel_rfl))] at e17
     replace ha := Aside0.mk ha
     have BX5 := Aside0.mk Q_BX5
     have HB5 := Aside0.mk Q_HB5
     have HS5 := Aside0.mk (Q_HS5 (hon 1 (by kernel_rfl)))
     refine qaq (w1 := w'.alloc (.cells #[.slice A ns.length c, .slice As noneW.length cs, .slice none 0 0] 155 (0, 0))) (v := .pointer (some ⟨w'.heap.size, 0, none⟩)) (by rfl) rfl ?_ ?_
     ·go_simp
      try rfl
     refine hK.out _ _ ⟨As, cs, w'.heap.size, m1_, m2_, (.pointer (some ⟨w'.heap.size, 0, none⟩)), m4_, (by rw [ha.out]; exact qag 3 hb_ rfl rfl rfl), qan BX5.out _, qab HB5.out _, fun _ => Kd.qbJ HS5.out _, fun _ => qcF w' _, fun _ => HB5.out.size, Q_X1_, Q_X2_, fun _ => rfl, fun h0_ => absurd ((hoff 4 (by kernel_rfl)).symm.trans h0_) (by decide)⟩
    refine qaf ?_ ?_
    ·rintro b a w' ⟨As, cs, gw, m1_, m2_, m3_, m4_, ha, Q_BX5, Q_HB5, Q_HS5, Q_BW5, Q_GW5, Q_X1_, Q_X2_, Q_X3_, Q_X4_⟩ hb_ hon hoff
     refine ⟨_, rfl, fun K hK => ?_⟩
     have e18 : a.tmps[18]? = some (m3_) := by rw [ha]; exact qae (e := (3, 18, m3_)) 3 rfl rfl (hon 3 (by kernel_rfl)) rfl
     rw [Q_X3_ (hon 3 (by kernel_rfl))] at e18
     replace ha := Aside0.mk ha
     have BX5 := Aside0.mk Q_BX5
     have HB5 := Aside0.mk Q_HB5
     have HS5 := Aside0.mk (Q_HS5 (hon 1 (by kernel_rfl)))
     have BW5 := Aside0.mk (Q_BW5 (hon 3 (by kernel_rfl)))
     have GW5 := Aside0.mk (Q_GW5 (hon 3 (by kernel_rfl)))
     refine qaq (w1 := w') (v := .pointer (some ⟨gw, 0, none⟩)) (by rfl) rfl ?_ ?_
     ·go_simp
      (try simp only [qau])
      try rfl
     refine hK.out _ _ ⟨As, cs, gw, m1_, m2_, m3_, (.pointer (some ⟨gw, 0, none⟩)), (by rw [ha.out]; exact qag 4 hb_ rfl rfl rfl), Q_BX5, Q_HB5, Q_HS5, Q_BW5, Q_GW5, Q_X1_, Q_X2_, Q_X3_, fun _ => rfl⟩
    exact qbI
   rintro b a wA hall ⟨As, cs, gw, m1_, m2_, m3_, m4_, ha, Q_BX5, Q_HB5, Q_HS5, Q_BW5, Q_GW5, Q_X1_, Q_X2_, Q_X3_, Q_X4_⟩
   clear BX5 HB5
   have hb0_ := hall 0 (by kernel_rfl)
   have hb1_ := hall 1 (by kernel_rfl)
   have hb2_ := hall 2 (by kernel_rfl)
   have hb3_ := hall 3 (by kernel_rfl)
   have hb4_ := hall 4 (by kernel_rfl)
   subst ha
   obtain rfl := Q_X1_ hb1_
   obtain rfl := Q_X2_ hb2_
   obtain rfl := Q_X3_ hb3_
   obtain rfl := Q_X4_ hb4_
   simp only [qbe, hb0_, hb1_, hb2_, hb3_, hb4_, if_true, Act.put, List.setIfInBounds_toArray, List.set_cons_zero, List.set_cons_succ]
   have BX5 := Aside0.mk Q_BX5
   clear Q_BX5
   have HB5 := Aside0.mk Q_HB5
   clear Q_HB5
   have HS5 := Aside0.mk (Q_HS5 hb1_)
   clear Q_HS5
   have BW5 := Aside0.mk (Q_BW5 hb3_)
   clear Q_BW5
   have GW5 := Aside0.mk (Q_GW5 hb3_)
   clear Q_GW5
   clear hall hb0_ hb1_ hb2_ hb3_ hb4_
   clear BX5
   have HW5 := Aside0.mk (show WkAt w wA gw (.slice A ns.length c) (.slice As noneW.length cs) (.slice none 0 0) noneW [] from ⟨GW5.out, BW5.out, HS5.out, Kd.qfJ _ _ _ _ _⟩)
   clear GW5 BW5 HS5
   by_cases h0 : 0 ≤ root
   ·obtain ⟨k, rfl⟩ : ∃ k : Nat, root = (k : Int) := ⟨root.toNat, by omega⟩
    have hk : k < 50 := by have := HRG.out; omega
    have c2 : decide (0 ≤ (k : Int)) = true := decide_eq_true h0
    have hres : lookW ns (k : Int) = walkW ns 21 (k : Int) noneW [] := by unfold lookW; rw [if_pos HL.out, if_neg (by omega)]
    have HRES := Aside0.mk hres
    obtain ⟨rb, S2, P2, hlk⟩ : ∃ rb S2 P2, walkW ns 21 (k : Int) noneW [] = (rb, S2, P2) := ⟨_, _, _, rfl⟩
    have hw := qeW ns w A c HR.out HL.out HBD.out 21 k 0 noneW [] wA gw _ _ hk (by omega) (by omega) qdl HB5.out HW5.out
    rw [hlk] at hw hres
    have HLK := Aside0.mk hres
    have HCW := Aside0.mk hw
    clear hlk hres hw h0
    go_wp2_with fail
    refine HCW.out.mono ?_
    rintro e w3 ⟨rfl, hb3, _, hst⟩
    cases rb with
    | false =>
     go_wp2_with fail
     go_ret
     exact ⟨rfl, hb3⟩
    | true =>
     obtain ⟨vs3, vp3, hw3⟩ := hst rfl
     obtain ⟨vpA, vpc, ev, hvc, _⟩ := Kd.qb8 hw3.2.2.2
     subst ev
     obtain ⟨d0, d1, d2, _⟩ := cells3 hw3.2.1
     obtain ⟨ko, hko⟩ := Ev.rounds (qcA P2)
     have hok : qcf P2 = false := by
      have h := HNO.out
      rw [qcy, HLK.out] at h
      simpa using h
     rw [hok] at hko
     have HKO := Aside0.mk hko
     clear hko hok hst
     go_wp2_with fail
     refine (qbh.calls (hr0 := (Kd.qbE hw3.2.2.2).2.2) (hc0 := (Kd.qbE hw3.2.2.2).2.1) (h := HKO.out)).mono ?_
     rintro e w4 ⟨rfl, hb4⟩
     have HB6 := Aside0.mk (qaj hb3 hb4)
     have HW6 := Aside0.mk (hw3.below hb4)
     clear hb3 hb4 hw3 d0 d1 d2
     go_wp2_with fail
     go_ret
     exact ⟨rfl, HB6.out⟩
   ·have e0 : root = -1 := by have := HRG.out; omega
    have h := HNO.out
    rw [qcy] at h
    unfold lookW at h
    rw [if_pos HL.out, if_pos e0] at h
    exact absurd h (by decide)
 ·have c1 : ((ns.length : Int) != 50) = true := bne_iff_ne.2 (by omega)
  clear hno hl hbd
  go_enter Try.func63, Try.ntmps63
  go_wp2_with fail
  go_ret
  rw [← hw1]
  exact ⟨rfl, HB1.out⟩
set_option maxHeartbeats 16000000 in
set_option maxRecDepth 100000 in
theorem qeb (ns : List S56) (root : Int) (A : Option Addr) (c : Nat) (w : World) (hr : Kd.C k56 w A ns.length ns) (hbd : qcW ns) (hno : (walkR ns root).2.2 = true) : Calls Try.prog 63 #[.agg #[.slice A ns.length c], .int .i64 root] w fun e w' => ∃ (g : Nat) (vs vp : Value), e = .returned (.pointer (some ⟨g, 0, none⟩)) ∧ WkAt w w' g (.slice A ns.length c) vs vp (walkR ns root).2.1 (walkR ns root).1 ∧ Below w.heap.size w w' := by
 have hu := Try.underlying29
 have hu2 := Try.underlying155
 have hu3 := Try.underlying89
 have HR := Aside0.mk hr
 obtain ⟨w1, hw1⟩ : ∃ w1, w1 = w.alloc (.cells #[.slice A ns.length c] 29 (0, 0)) := ⟨_, rfl⟩
 have HB1 := Aside0.mk (show Below w.heap.size w w1 from hw1 ▸ qab (Below.refl _ w) _)
 have BX1 := Aside0.mk (show w1.heap[w.heap.size]? = some (.cells #[.slice A ns.length c] 29 (0, 0)) from hw1 ▸ qcF w _)
 by_cases hl : ns.length = 50
 ·have c1 : ((ns.length : Int) != 50) = false := by rw [hl]; rfl
  have hin := qej root (-1) 49
  cases hr : inB root (-1) 49 with
  | false =>
   rw [qga hr] at hno
   cases hno
  | true =>
   have hrg : -1 ≤ root ∧ root ≤ 49 := by unfold inB at hr; simpa using hr
   rw [hr] at hin
   have HIN := Aside0.mk hin
   have HRG := Aside0.mk hrg
   have HL := Aside0.mk hl
   have HBD := Aside0.mk hbd
   have HNO := Aside0.mk hno
   clear hno hl hbd hin hr hrg
   go_enter Try.func63, Try.ntmps63
   go_wp2_with fail
   refine (qa9.calls _ _ _ _ _ HIN.out).mono ?_
   rintro e w2 ⟨rfl, hdr⟩
   rw [← hw1] at hdr
   have HB2 := Aside0.mk (qaj HB1.out hdr.below)
   have BX2 := Aside0.mk (qaw BX1.out hdr.below)
   clear hdr hw1 HB1 BX1
   go_upto_region 3 with fail
   have BX5 := Aside0.mk (qap BX2.out)
   have HB5 := Aside0.mk (qbq HB2.out)
   clear HB2 BX2 c1
   refine qce (n := 5) (S := fun w' => True) (ds := []) #[false, false, false, false, false] (by kernel_rfl) rfl rfl trivial (fun hHeld => ?_)
   refine qbF qcX.tab3 qcX.bits3 (fun HT_ HW_ => ?_)
   generalize w2.drew = wd at BX5 HB5 ⊢
   refine qcp [0, 1, 2, 3, 4] (fun a0_ b a w' => ∃ (As : Option Addr) (cs : Nat) (gw : Nat) (m1_ : Value) (m2_ : Value) (m3_ : Value) (m4_ : Value), a = qbe a0_ b [(0, 15, .agg #[.slice A ns.length c]), (1, 16, m1_), (2, 17, m2_), (3, 18, m3_), (4, 5, m4_)] ∧ (w'.heap[w.heap.size]? = some (.cells #[.slice A ns.length c] 29 (0, 0))) ∧ (Below w.heap.size w w') ∧ (b 1 = true → Kd.R Kd.bool 4 w' w.heap.size (fun _ => True) (.slice As noneW.length cs) noneW) ∧ (b 3 = true → w'.heap[gw]? = some (.cells #[.slice A ns.length c, .slice As noneW.length cs, .slice none 0 0] 155 (0, 0))) ∧ (b 3 = true → w.heap.size ≤ gw) ∧ (b 1 = true → (m1_ : Value) = .slice As noneW.length cs) ∧ (b 2 = true → (m2_ : Value) = .agg #[.slice A ns.length c, .slice As noneW.length cs, .slice none 0 0]) ∧ (b 3 = true → (m3_ : Value) = .pointer (some ⟨gw, 0, none⟩)) ∧ (b 4 = true → (m4_ : Value) = .pointer (some ⟨gw, 0, none⟩))) HT_.out HW_.out (by kernel_rfl) (by kernel_rfl) ?_ ?_ ?_
   ·exact ⟨none, 0, 0, .bool false, .bool false, .bool false, .bool false, by simp only [qbe, Bool.false_eq_true, if_false], BX5.out, HB5.out, fun h_ => absurd h_ (by decide), fun h_ => absurd h_ (by decide), fun h_ => absurd h_ (by decide), fun h_ => absurd h_ (by decide), fun h_ => absurd h_ (by decide), fun h_ => absurd h_ (by decide), fun h_ => absurd h_ (by decide)⟩
   ·skip
    clear BX5 HB5
    refine qaf ?_ ?_
    ·rintro b a w' ⟨As, cs, gw, m1_, m2_, m3_, m4_, ha, Q_BX5, Q_HB5, Q_HS5, Q_BW5, Q_GW5, Q_X1_, Q_X2_, Q_X3_, Q_X4_⟩ hb_ hon hoff
     refine ⟨_, rfl, fun K hK => ?_⟩
     have e2 : a.tmps[2]? = some (.pointer (some ⟨w.heap.size, 0, none⟩)) := by rw [ha]; exact (qaH rfl).trans rfl
     replace ha := Aside0.mk ha
     have BX5 := Aside0.mk Q_BX5
     have HB5 := Aside0.mk Q_HB5
     have hc_ : w'.cell? ⟨w.heap.size, 0, none⟩ = some (.slice A ns.length c) := qah BX5.out 0
     refine qaq (w1 := w') (v := .agg #[.slice A ns.length c]) (by rfl) rfl ?_ ?_
     ·go_simp
      (try simp only [qau])
      try rfl
     refine hK.out _ _ ⟨As, cs, gw, m1_, m2_, m3_, m4_, (by rw [ha.out]; exact qag 0 hb_ rfl rfl rfl), Q_BX5, Q_HB5, Q_HS5, fun h0_ => absurd ((hoff 3 (by kernel_rfl)).symm.trans h0_) (by decide), fun h0_ => absurd ((hoff 3 (by kernel_rfl)).symm.trans h0_) (by decide), Q_X1_, fun h0_ => absurd ((hoff 2 (by kernel_rfl)).symm.trans h0_) (by decide), fun h0_ => absurd ((hoff 3 (by kernel_rfl)).symm.trans h0_) (by decide), fun h0_ => absurd ((hoff 4 (by kernel_rfl)).symm.trans h0_) (by decide)⟩
    refine qaf ?_ ?_
    ·rintro b a w' ⟨As, cs, gw, m1_, m2_, m3_, m4_, ha, Q_BX5, Q_HB5, Q_HS5, Q_BW5, Q_GW5, Q_X1_, Q_X2_, Q_X3_, Q_X4_⟩ hb_ hon hoff
     refine ⟨_, rfl, fun K hK => ?_⟩
     replace ha := Aside0.mk ha
     have BX5 := Aside0.mk Q_BX5
     have HB5 := Aside0.mk Q_HB5
     refine Kd.qcZ Kd.bool (w0 := w) w.heap.size 4 (by rfl) (N := 16) (by rfl) 89 _ _ (by rfl) 50 (by rfl) (by rfl) Try.underlying89 (.bool false) 1 info4 rfl (by decide) (by omega) false (ok := fun _ => True) (okp := fun _ => True) rfl (fun _ hk => hk) trivial (by omega) (by decide) HB5.out HB5.out.size ?_
     intro v1 w1 ho1 hb1 hg1 hn1
     have ho2 : Kd.R Kd.bool 4 w1 w.heap.size (fun _ => True) v1 noneW := ho1
     obtain ⟨As_, cs_, ev_, _, _⟩ := Kd.qb8 ho2
     subst ev_
     refine hK.out _ _ ⟨As_, cs_, gw, (.slice As_ noneW.length cs_), m2_, m3_, m4_, (by rw [ha.out]; exact qag 1 hb_ rfl rfl rfl), qcg BX5.out hg1 (by simp), hb1, fun _ => ho2, fun h0_ => absurd ((hoff 3 (by kernel_rfl)).symm.trans h0_) (by decide), fun h0_ => absurd ((hoff 3 (by kernel_rfl)).symm.trans h0_) (by decide), fun _ => rfl, fun h0_ => absurd ((hoff 2 (by kernel_rfl)).symm.trans h0_) (by decide), fun h0_ => absurd ((hoff 3 (by kernel_rfl)).symm.trans h0_) (by decide), fun h0_ => absurd ((hoff 4 (by kernel_rfl)).symm.trans h0_) (by decide)⟩
    refine qaf ?_ ?_
    ·rintro b a w' ⟨As, cs, gw, m1_, m2_, m3_, m4_, ha, Q_BX5, Q_HB5, Q_HS5, Q_BW5, Q_GW5, Q_X1_, Q_X2_, Q_X3_, Q_X4_⟩ hb_ hon hoff
     refine ⟨_, rfl, fun K hK => ?_⟩
     have e15 : a.tmps[15]? = some (.agg #[.slice A ns.length c]) := by rw [ha]; exact qae (e := (0, 15, .agg #[.slice A ns.length c])) 0 rfl rfl (hon 0 (by kernel_rfl)) rfl
     have e16 : a.tmps[16]? = some (m1_) := by rw [ha]; exact qae (e := (1, 16, m1_)) 1 rfl rfl (hon 1 (by kernel_rfl)) rfl
     rw [Q_X1_ (hon 1 (by kernel_rfl))] at e16
     replace ha := Aside0.mk ha
     have BX5 := Aside0.mk Q_BX5
     have HB5 := Aside0.mk Q_HB5
     have HS5 := Aside0.mk (Q_HS5 (hon 1 (by kernel_rfl)))
     refine qaq (w1 := w') (v := .agg #[.slice A ns.length c, .slice As noneW.length cs, .slice none 0 0]) (by rfl) rfl ?_ ?_
     ·go_simp
      (try simp only [qau])
      try rfl
     refine hK.out _ _ ⟨As, cs, gw, m1_, (.agg #[.slice A ns.length c, .slice As noneW.length cs, .slice none 0 0]), m3_, m4_, (by rw [ha.out]; exact qag 2 hb_ rfl rfl rfl), Q_BX5, Q_HB5, Q_HS5, fun h0_ => absurd ((hoff 3 (by kernel_rfl)).symm.trans h0_) (by decide), fun h0_ => absurd ((hoff 3 (by kernel_rfl)).symm.trans h0_) (by decide), Q_X1_, fun _ => rfl, fun h0_ => absurd ((hoff 3 (by kernel_rfl)).symm.trans h0_) (by decide), fun h0_ => absurd ((hoff 4 (by kernel_rfl)).symm.trans h0_) (by decide)⟩
    refine qaf ?_ ?_
    ·rintro b a w' ⟨As, cs, gw, m1_, m2_, m3_, m4_, ha, Q_BX5, Q_HB5, Q_HS5, Q_BW5, Q_GW5, Q_X1_, Q_X2_, Q_X3_, Q_X4_⟩ hb_ hon hoff
     refine ⟨_, rfl, fun K hK => ?_⟩
     have e17 : a.tmps[17]? = some (m2_) := by rw [ha]; exact qae (e := (2, 17, m2_)) 2 rfl rfl (hon 2 (by kernel_rfl)) rfl
     rw [Q_X2_ (hon 2 (by kernel_rfl))] at e17
     replace ha := Aside0.mk ha
     have BX5 := Aside0.mk Q_BX5
     have HB5 := Aside0.mk Q_HB5
     have HS5 := Aside0.mk (Q_HS5 (hon 1 (by kernel_rfl)))
     refine qaq (w1 := w'.alloc (.cells #[.slice A ns.length c, .slice As noneW.length cs, .slice none 0 0] 155 (0, 0))) (v := .pointer (some ⟨w'.heap.size, 0, none⟩)) (by rfl) rfl ?_ ?_
     ·go_simp
      try rfl
     refine hK.out _ _ ⟨As, cs, w'.heap.size, m1_, m2_, (.pointer (some ⟨w'.heap.size, 0, none⟩)), m4_, (by rw [ha.out]; exact qag 3 hb_ rfl rfl rfl), qan BX5.out _, qab HB5.out _, fun _ => Kd.qbJ HS5.out _, fun _ => qcF w' _, fun _ => HB5.out.size, Q_X1_, Q_X2_, fun _ => rfl, fun h0_ => absurd ((hoff 4 (by kernel_rfl)).symm.trans h0_) (by decide)⟩
    refine qaf ?_ ?_
    ·rintro b a w' ⟨As, cs, gw, m1_, m2_, m3_, m4_, ha, Q_BX5, Q_HB5, Q_HS5, Q_BW5, Q_GW5, Q_X1_, Q_X2_, Q_X3_, Q_X4_⟩ hb_ hon hoff
     refine ⟨_, rfl, fun K hK => ?_⟩
     have e18 : a.tmps[18]? = some (m3_) := by rw [ha]; exact qae (e := (3, 18, m3_)) 3 rfl rfl (hon 3 (by kernel_rfl)) rfl
     rw [Q_X3_ (hon 3 (by kernel_rfl))] at e18
     replace ha := Aside0.mk ha
     have BX5 := Aside0.mk Q_BX5
     have HB5 := Aside0.mk Q_HB5
     have HS5 := Aside0.mk (Q_HS5 (hon 1 (by kernel_rfl)))
     have BW5 := Aside0.mk (Q_BW5 (hon 3 (by kernel_rfl)))
     have GW5 := Aside0.mk (Q_GW5 (hon 3 (by kernel_rfl)))
     refine qaq (w1 := w') (v := .pointer (some ⟨gw, 0, none⟩)) (by rfl) rfl ?_ ?_
     ·go_simp
      (try simp only [qau])
      try rfl
     refine hK.out _ _ ⟨As, cs, gw, m1_, m2_, m3_, (.pointer (some ⟨gw, 0, none⟩)), (by rw [ha.out]; exact qag 4 hb_ rfl rfl rfl), Q_BX5, Q_HB5, Q_HS5, Q_BW5, Q_GW5, Q_X1_, Q_X2_, Q_X3_, fun _ => rfl⟩
    exact qbI
   rintro b a wA hall ⟨As, cs, gw, m1_, m2_, m3_, m4_, ha, Q_BX5, Q_HB5, Q_HS5, Q_BW5, Q_GW5, Q_X1_, Q_X2_, Q_X3_, Q_X4_⟩
   clear BX5 HB5
   have hb0_ := hall 0 (by kernel_rfl)
   have hb1_ := hall 1 (by kernel_rfl)
   have hb2_ := hall 2 (by kernel_rfl)
   have hb3_ := hall 3 (by kernel_rfl)
   have hb4_ := hall 4 (by kernel_rfl)
   subst ha
   obtain rfl := Q_X1_ hb1_
   obtain rfl := Q_X2_ hb2_
   obtain rfl := Q_X3_ hb3_
   obtain rfl := Q_X4_ hb4_
   simp only [qbe, hb0_, hb1_, hb2_, hb3_, hb4_, if_true, Act.put, List.setIfInBounds_toArray, List.set_cons_zero, List.set_cons_succ]
   have BX5 := Aside0.mk Q_BX5
   clear Q_BX5
   have HB5 := Aside0.mk Q_HB5
   clear Q_HB5
   have HS5 := Aside0.mk (Q_HS5 hb1_)
   clear Q_HS5
   have BW5 := Aside0.mk (Q_BW5 hb3_)
   clear Q_BW5
   have GW5 := Aside0.mk (Q_GW5 hb3_)
   clear Q_GW5
   clear hall hb0_ hb1_ hb2_ hb3_ hb4_
   clear BX5
   have HW5 := Aside0.mk (show WkAt w wA gw (.slice A ns.length c) (.slice As noneW.length cs) (.slice none 0 0) noneW [] from ⟨GW5.out, BW5.out, HS5.out, Kd.qfJ _ _ _ _ _⟩)
   clear GW5 BW5 HS5
   by_cases h0 : 0 ≤ root
   ·obtain ⟨k, rfl⟩ : ∃ k : Nat, root = (k : Int) := ⟨root.toNat, by omega⟩
    have hk : k < 50 := by have := HRG.out; omega
    have c2 : decide (0 ≤ (k : Int)) = true := decide_eq_true h0
    have hres : lookW ns (k : Int) = walkW ns 21 (k : Int) noneW [] := by unfold lookW; rw [if_pos HL.out, if_neg (by omega)]
    have HRES := Aside0.mk hres
    obtain ⟨rb, S2, P2, hlk⟩ : ∃ rb S2 P2, walkW ns 21 (k : Int) noneW [] = (rb, S2, P2) := ⟨_, _, _, rfl⟩
    have hw := qeW ns w A c HR.out HL.out HBD.out 21 k 0 noneW [] wA gw _ _ hk (by omega) (by omega) qdl HB5.out HW5.out
    rw [hlk] at hw hres
    have HLK := Aside0.mk hres
    have HCW := Aside0.mk hw
    clear hlk hres hw h0
    go_wp2_with fail
    refine HCW.out.mono ?_
    rintro e w3 ⟨rfl, hb3, _, hst⟩
    cases rb with
    | false =>
     have h := HNO.out
     rw [qcy, HLK.out] at h
     cases h
    | true =>
     obtain ⟨vs3, vp3, hw3⟩ := hst rfl
     obtain ⟨vpA, vpc, ev, hvc, _⟩ := Kd.qb8 hw3.2.2.2
     subst ev
     obtain ⟨d0, d1, d2, _⟩ := cells3 hw3.2.1
     obtain ⟨ko, hko⟩ := Ev.rounds (qcA P2)
     have hok : qcf P2 = true := by
      have h := HNO.out
      rw [qcy, HLK.out] at h
      simpa using h
     rw [hok] at hko
     have HKO := Aside0.mk hko
     clear hko hok hst
     go_wp2_with fail
     refine (qbh.calls (hr0 := (Kd.qbE hw3.2.2.2).2.2) (hc0 := (Kd.qbE hw3.2.2.2).2.1) (h := HKO.out)).mono ?_
     rintro e w4 ⟨rfl, hb4⟩
     have HB6 := Aside0.mk (qaj hb3 hb4)
     have HW6 := Aside0.mk (hw3.below hb4)
     clear hb3 hb4 hw3 d0 d1 d2
     go_wp2_with fail
     go_ret
     have h1 : (walkR ns (k : Int)).2.1 = S2 := by unfold walkR; rw [HLK.out]
     have h2 : (walkR ns (k : Int)).1 = P2 := by unfold walkR; rw [HLK.out]
     rw [h1, h2]
     exact ⟨gw, _, _, rfl, HW6.out, HB6.out⟩
   ·have e0 : root = -1 := by have := HRG.out; omega
    subst e0
    have hlk : lookW ns (-1) = (true, noneW, []) := by unfold lookW; rw [if_pos HL.out, if_pos rfl]
    have HLK := Aside0.mk hlk
    obtain ⟨ko, hko⟩ := Ev.rounds (qcA ([] : List S99))
    rw [show qcf ([] : List S99) = true from rfl] at hko
    have HKO := Aside0.mk hko
    obtain ⟨d0, d1, d2, _⟩ := cells3 HW5.out.2.1
    clear hko hlk h0
    go_wp2_with fail
    have HN := Aside0.mk (show Kd.C k99 wA none ([] : List S99).length [] from (Kd.qbE HW5.out.2.2.2).2.2)
    refine (qbh.calls ko none 0 [] true wA HN.out (Nat.le_refl _) HKO.out).mono ?_
    rintro e w4 ⟨rfl, hb4⟩
    have HB6 := Aside0.mk (qaj HB5.out hb4)
    have HW6 := Aside0.mk (HW5.out.below hb4)
    clear hb4 d0 d1 d2
    go_wp2_with fail
    go_ret
    have h1 : (walkR ns (-1)).2.1 = noneW := by unfold walkR; rw [HLK.out]
    have h2 : (walkR ns (-1)).1 = [] := by unfold walkR; rw [HLK.out]
    rw [h1, h2]
    exact ⟨gw, _, _, rfl, HW6.out, HB6.out⟩
 ·rw [qdM hl] at hno
  cases hno
end Go.Proofs.Ytenfomejccfkgaa.X
namespace Go.Proofs.Ytenfomejccfkgaa.X
open Go.RowKit Go.Proofs.YtenfomejccfkgaaW.PrintWords Go.Proofs.YtenfomejccfkgaaW.PrintLast Go.Proofs.YtenfomejccfkgaaW.PrintMore
attribute [local go_sem] qaN qaO qaP qaJ qaK qaZ qa0 qaE qaF qaL qaM
set_option linter.unusedVariables false
set_option linter.unusedSimpArgs false
def qbW.f (l0_0 : List S56) (a1 : Int) : Option Bool := if qcv l0_0 = true then some (walkR l0_0 a1).2.2 else none
set_option maxHeartbeats 4000000 in
set_option maxRecDepth 100000 in
theorem qbW.calls (A0_0 : Option Addr) (c0_0 : Nat) (l0_0 : List S56) (a1 : Int) (r : Bool) (w : World) (hr0_0 : Kd.C k56 w A0_0 l0_0.length l0_0) (hc0_0 : l0_0.length ≤ c0_0) (h : qbW.f l0_0 a1 = some r) :
  Calls Try.prog 16 #[.agg #[.slice A0_0 l0_0.length c0_0], .int .i64 a1] w fun e w' => e = .returned (.bool r) ∧ Below w.heap.size w w' := by
 unfold qbW.f at h
 have hbd : qcW l0_0 := by
  by_cases hb : qcv l0_0 = true
  ·exact qcE.1 hb
  ·rw [if_neg hb] at h
   cases h
 rw [if_pos (qcE.2 hbd)] at h
 have hr := Option.some.inj h
 have hu := Try.underlying29
 have HR := Aside0.mk hr0_0
 have HBD := Aside0.mk hbd
 have HB1 := Aside0.mk (qab (Below.refl w.heap.size w) (.cells #[.slice A0_0 l0_0.length c0_0] 29 (0, 0)))
 clear h hr0_0 hbd
 cases r with
 | true =>
  have HO := Aside0.mk hr
  clear hr
  go_enter Try.func16, Try.ntmps16
  go_wp2_with fail
  refine (qeb l0_0 a1 A0_0 c0_0 _ (Kd.qaz HR.out HB1.out) HBD.out HO.out).mono ?_
  rintro e w2 ⟨g, vs, vp, rfl, _, hb⟩
  have HB2 := Aside0.mk (qaj HB1.out hb)
  clear hb
  go_wp2_with fail
  go_ret
  exact ⟨rfl, HB2.out⟩
 | false =>
  have HO := Aside0.mk hr
  clear hr
  go_enter Try.func16, Try.ntmps16
  go_wp2_with fail
  refine (qge l0_0 a1 A0_0 c0_0 _ (Kd.qaz HR.out HB1.out) HBD.out HO.out).mono ?_
  rintro e w2 ⟨rfl, hb⟩
  have HB2 := Aside0.mk (qaj HB1.out hb)
  clear hb
  go_wp2_with fail
  go_ret
  exact ⟨rfl, HB2.out⟩
def qby.f (l0_0 : List S56) (a1 : Int) : Option (List S99) := if qcv l0_0 = true ∧ (walkR l0_0 a1).2.2 = true then some (walkR l0_0 a1).1 else none
set_option maxHeartbeats 4000000 in
set_option maxRecDepth 100000 in
theorem qby.calls (A0_0 : Option Addr) (c0_0 : Nat) (l0_0 : List S56) (a1 : Int) (r : List S99) (w : World) (hr0_0 : Kd.C k56 w A0_0 l0_0.length l0_0) (hc0_0 : l0_0.length ≤ c0_0) (h : qby.f l0_0 a1 = some r) :
  Calls Try.prog 65 #[.agg #[.slice A0_0 l0_0.length c0_0], .int .i64 a1] w fun e w' => ∃ v0_ : Value, e = .returned (v0_) ∧ Kd.R k99 99 w' w.heap.size (fun _ => True) v0_ r ∧ Below w.heap.size w w' := by
 unfold qby.f at h
 have hbd : qcv l0_0 = true ∧ (walkR l0_0 a1).2.2 = true := by
  by_cases hb : qcv l0_0 = true ∧ (walkR l0_0 a1).2.2 = true
  ·exact hb
  ·rw [if_neg hb] at h
   cases h
 rw [if_pos hbd] at h
 have hr := Option.some.inj h
 have hu := Try.underlying29
 have hu2 := Try.underlying155
 have HR := Aside0.mk hr0_0
 have HBD := Aside0.mk (And.intro (qcE.1 hbd.1) hbd.2)
 have HB1 := Aside0.mk (qab (Below.refl w.heap.size w) (.cells #[.slice A0_0 l0_0.length c0_0] 29 (0, 0)))
 have HH := Aside0.mk hr
 clear h hr0_0 hbd hr
 go_enter Try.func65, Try.ntmps65
 go_wp2_with fail
 refine (qeb l0_0 a1 A0_0 c0_0 _ (Kd.qaz HR.out HB1.out) HBD.out.1 HBD.out.2).mono ?_
 rintro e w2 ⟨g, vs, vp, rfl, hw, hb⟩
 have HB2 := Aside0.mk (qaj HB1.out hb)
 rw [HH.out] at hw
 obtain ⟨d0, d1, d2, _⟩ := cells3 hw.2.1
 have HW := Aside0.mk hw.2.2.2
 clear hb hw
 go_wp2_with fail
 go_ret
 exact ⟨_, rfl, Kd.qbM HW.out HB1.out.size, HB2.out⟩
end Go.Proofs.Ytenfomejccfkgaa.X
namespace Go.Proofs.Ytenfomejccfkgaa.X
open Go.RowKit Go.Proofs.YtenfomejccfkgaaW.PrintWords Go.Proofs.YtenfomejccfkgaaW.PrintLast Go.Proofs.YtenfomejccfkgaaW.PrintMore
attribute [local go_sem] qaN qaO qaP qaJ qaK qaZ qa0 qaE qaF qaL qaM
set_option linter.unusedVariables false
set_option linter.unusedSimpArgs false
def cmpS (a b : ByteArray) : Int := if Op.bytesLess a.toList b.toList = true then -1 else if a.toList = b.toList then 0 else 1
theorem qdP (a b : List UInt8) : Lib.compareBytes a b = if Op.bytesLess a b = true then -1 else if a = b then 0 else 1 := by
 induction a generalizing b with
 | nil => cases b <;> simp [Lib.compareBytes, Op.bytesLess]
 | cons x a ih =>
  cases b with
  | nil => simp [Lib.compareBytes, Op.bytesLess]
  | cons y b =>
   simp only [Lib.compareBytes, Op.bytesLess]
   by_cases h1 : x < y
   ·simp [h1]
   ·by_cases h2 : y < x
    ·have h3 : ¬ x = y := by rintro rfl; exact h1 h2
     simp [h1, h2, h3]
    ·have h3 : x = y := by simp [UInt8.lt_iff_toNat_lt, ← UInt8.toNat_inj] at *; omega
     subst h3
     simp [h1, ih b]
theorem cmpS_is (a b : ByteArray) : Lib.compareBytes a.data.toList b.data.toList = cmpS a b := by
 unfold cmpS
 rw [qdP, ByteArray.toList_eq, ByteArray.toList_eq]
set_option maxHeartbeats 1000000 in
set_option maxRecDepth 100000 in
theorem bytealg_CompareString (a b : ByteArray) (w : World) :
  Calls Try.prog 151 #[.string a, .string b] w fun e w' => e = .returned (.int .i64 (cmpS a b)) ∧ w' = w := by
 rw [← cmpS_is]
 go_enter Try.func151, Try.ntmps151
 go_wp2
 rw [run_callFunc_extern Try.func183 (by kernel_rfl) (by kernel_rfl) (by kernel_rfl) (e := Extern.BytealgCompare.compare) (by kernel_rfl), Lib.run_compareString]
 simp only [Result.andThen]
 rw [Oper.upon_value]
 go_wp2
 go_ret
 exact ⟨rfl, rfl⟩
set_option maxHeartbeats 1000000 in
theorem qdq (a b : ByteArray) (w : World) :
  Calls Try.prog 108 #[.string a, .string b] w fun e w' => e = .returned (.int .i64 (cmpS a b)) ∧ w' = w := by
 go_enter Try.func108, Try.ntmps108
 go_wp2_with fail
 refine (bytealg_CompareString _ _ _).mono ?_
 rintro e w' ⟨rfl, rfl⟩
 go_wp2_with fail
 go_ret
 exact ⟨rfl, rfl⟩
end Go.Proofs.Ytenfomejccfkgaa.X
namespace Go.Proofs.Ytenfomejccfkgaa.X
open Go.RowKit Go.Proofs.YtenfomejccfkgaaW.PrintWords Go.Proofs.YtenfomejccfkgaaW.PrintLast Go.Proofs.YtenfomejccfkgaaW.PrintMore
attribute [local go_sem] qaN qaO qaP qaJ qaK qaZ qa0 qaE qaF qaL qaM
set_option linter.unusedVariables false
set_option linter.unusedSimpArgs false
def lowAt (l : List S99) (key : ByteArray) : Nat := l.findIdx fun p => !Op.bytesLess p.f0.toList key.toList
def hasAt (l : List S99) (key : ByteArray) : Bool := decide (lowAt l key < l.length) && decide ((qay l (lowAt l key)).f0.toList = key.toList)
theorem lowAt_is {l : List S99} {key : ByteArray} {i : Nat} (hi : i ≤ l.length) (h0 : ∀ j (hj : j < l.length), j < i → Op.bytesLess l[j].f0.toList key.toList = true) (h1 : ∀ (hj : i < l.length), Op.bytesLess l[i].f0.toList key.toList = false) : lowAt l key = i := by
 unfold lowAt
 rcases Nat.lt_or_ge i l.length with h | h
 ·exact (List.findIdx_eq h).2 ⟨by simp [h1 h], fun j hj => by simp [h0 j (by omega) hj]⟩
 ·have e : i = l.length := by omega
  rw [e]
  exact List.findIdx_eq_length.2 fun x hx => by
   obtain ⟨j, hj, rfl⟩ := List.getElem_of_mem hx
   simp [h0 j hj (by omega)]
def qbP.f (l0 : List S99) (a1 : ByteArray) : Option (Int × Bool) := if Rises l0 ∧ l0.length ≤ 1000000 then some ((lowAt l0 a1 : Int), hasAt l0 a1) else none
set_option maxHeartbeats 1000000 in
set_option maxRecDepth 100000 in
theorem qci (x : S99) (key : ByteArray) (w : World) : Calls Try.prog 148 #[.agg #[.string x.f0, .string x.f1], .string key] w fun e w' => e = .returned (.int .i64 (cmpS x.f0 key)) ∧ Below w.heap.size w w' := by
 have hu := Try.underlying99
 go_enter Try.func148, Try.ntmps148
 go_wp2_with fail
 refine (qdq _ _ _).mono ?_
 rintro e w' ⟨rfl, rfl⟩
 go_wp2_with fail
 go_ret
 exact ⟨rfl, (Below.refl _ _).alloc (Nat.le_refl _) _⟩
theorem cmpS_neg {a b : ByteArray} (h : Op.bytesLess a.toList b.toList = true) : cmpS a b = -1 := by unfold cmpS; rw [if_pos h]
theorem qfj {a b : ByteArray} (h : Op.bytesLess a.toList b.toList = false) : 0 ≤ cmpS a b := by unfold cmpS; rw [if_neg (by rw [h]; decide)]; split <;> omega
theorem qeX {a b : ByteArray} : cmpS a b = 0 ↔ a.toList = b.toList := by
 unfold cmpS
 by_cases h : Op.bytesLess a.toList b.toList = true
 ·rw [if_pos h]
  exact ⟨fun e => by omega, fun e => by rw [e, qeL] at h; cases h⟩
 ·rw [if_neg h]
  by_cases k : a.toList = b.toList
  ·simp [k]
  ·simp [k]
set_option maxHeartbeats 4000000 in
set_option maxRecDepth 100000 in
theorem qdg (A0 : Option Addr) (c0 : Nat) (l0 : List S99) (a1 : ByteArray) (w : World) (hr0 : Kd.C k99 w A0 l0.length l0) (hs : Rises l0) (hl : l0.length ≤ 1000000) :
  Calls Try.prog 147 #[.slice A0 l0.length c0, .string a1, .func (.func 148) #[] #[]] w
   fun e w' => e = .returned (.tuple #[.int .i64 (lowAt l0 a1), .bool (hasAt l0 a1)]) ∧ Below w.heap.size w w' := by
 have hu := Try.underlying99
 have HR0 := Aside0.mk hr0
 have HS := Aside0.mk hs
 clear hr0 hs
 go_enter Try.func147, Try.ntmps147
 go_wp2_with fail
 go_loopw [9, 10] (fun v9 v10 wr => ∃ i j : Nat, i ≤ j ∧ j ≤ l0.length ∧ v9 = .int .i64 i ∧ v10 = .int .i64 j ∧ Aside0 (∀ m (hm : m < l0.length), m < i → Op.bytesLess l0[m].f0.toList a1.toList = true) ∧ Aside0 (∀ m (hm : m < l0.length), j ≤ m → Op.bytesLess l0[m].f0.toList a1.toList = false) ∧ Aside0 (Below w.heap.size w wr)) (fun v9 v10 _ => (intOf v10).toNat - (intOf v9).toNat)
 case atStart => exact ⟨0, l0.length, Nat.zero_le _, Nat.le_refl _, rfl, rfl, ⟨fun m hm h => absurd h (by omega)⟩, ⟨fun m hm h => absurd h (by omega)⟩, ⟨Below.refl _ _⟩⟩
 case round =>
  obtain ⟨i, j, hij, hj, rfl, rfl, HL, HG, HB⟩ := hrel
  by_cases hlt : i < j
  ·obtain ⟨h, hh⟩ : ∃ h : Nat, h = (i + j) / 2 := ⟨_, rfl⟩
   have hh1 : i ≤ h := by omega
   have hh2 : h < j := by omega
   have hh3 : h < l0.length := by omega
   have p1 : 0 ≤ (h : Int) := by omega
   have q1 : (h : Int) < (l0.length : Int) := by omega
   obtain ⟨ad1, e1, hx0, hx1⟩ := qbS HR0.out (h : Int) p1 q1
   have hx : qay l0 (h : Int) = l0[h] := by unfold qay; rw [Int.toNat_natCast]; simp [List.getD_eq_getElem?_getD, hh3]
   rw [hx] at hx0 hx1
   cases e1
   replace hx0 := (HB.out.cell (World.block_lt_of_cell? w _ hx0)).trans hx0
   replace hx1 := (HB.out.cell (World.block_lt_of_cell? w _ hx1)).trans hx1
   rw [Int.toNat_natCast] at hx0 hx1
   clear hx
   obtain ⟨x, hx⟩ : ∃ x, x = l0[h] := ⟨_, rfl⟩
   rw [← hx] at hx0 hx1
   have HX := Aside0.mk hx
   clear hx
   subst hh
   cases hb : Op.bytesLess x.f0.toList a1.toList with
   | true =>
    have HC := Aside0.mk (cmpS_neg hb)
    have HX2 := Aside0.mk hb
    clear hb
    go_wp2_with fail
    refine (qci x a1 _).mono ?_
    rintro e w1 ⟨rfl, hb1⟩
    rw [HC.out]
    go_wp2_with fail
    go_roundw
    case rel => exact ⟨(i + j) / 2 + 1, j, by omega, by omega, by go_num, rfl, ⟨fun m hm h => by
     by_cases e : m = (i + j) / 2
     ·subst e; rw [← HX.out]; exact HX2.out
     ·have hm2 : m < (i + j) / 2 := by omega
      have := qek HS.out hh3 hm2
      rw [← HX.out] at this
      exact qcK this HX2.out⟩, HG, ⟨qaj HB.out hb1⟩⟩
    case measure => simp [intOf]; omega
   | false =>
    have hc := qfj hb
    obtain ⟨c, hcc⟩ : ∃ c, c = cmpS x.f0 a1 := ⟨_, rfl⟩
    rw [← hcc] at hc
    have HC := Aside0.mk hcc
    have hc2 : decide (c < 0) = false := decide_eq_false (by omega)
    have HX2 := Aside0.mk hb
    clear hb hcc hc
    go_wp2_with fail
    refine (qci x a1 _).mono ?_
    rintro e w1 ⟨rfl, hb1⟩
    rw [← HC.out]
    go_wp2_with fail
    go_roundw
    case rel => exact ⟨i, (i + j) / 2, by omega, by omega, rfl, by go_num, HL, ⟨fun m hm h => by
     by_cases e : m = (i + j) / 2
     ·subst e; rw [← HX.out]; exact HX2.out
     ·have hm2 : (i + j) / 2 < m := by omega
      have h2 := qek HS.out hm hm2
      rw [← HX.out] at h2
      cases h3 : Op.bytesLess l0[m].f0.toList a1.toList with
      | false => rfl
      | true => have := qcK h2 h3; rw [HX2.out] at this; cases this⟩, ⟨qaj HB.out hb1⟩⟩
    case measure => simp [intOf]; omega
  ·have hie : i = j := by omega
   subst hie
   have HI := Aside0.mk (lowAt_is hj HL.out (fun h => HG.out i h (Nat.le_refl _)))
   by_cases hn : i < l0.length
   ·have p1 : 0 ≤ (i : Int) := by omega
    have q1 : (i : Int) < (l0.length : Int) := by omega
    obtain ⟨ad1, e1, hx0, hx1⟩ := qbS HR0.out (i : Int) p1 q1
    cases e1
    replace hx0 := (HB.out.cell (World.block_lt_of_cell? w _ hx0)).trans hx0
    replace hx1 := (HB.out.cell (World.block_lt_of_cell? w _ hx1)).trans hx1
    rw [Int.toNat_natCast] at hx0 hx1
    obtain ⟨x, hx⟩ : ∃ x, x = qay l0 (i : Int) := ⟨_, rfl⟩
    rw [← hx] at hx0 hx1
    have HX := Aside0.mk hx
    clear hx
    obtain ⟨c, hcc⟩ : ∃ c, c = cmpS x.f0 a1 := ⟨_, rfl⟩
    have HC := Aside0.mk hcc
    clear hcc
    by_cases hz : c = 0
    ·have HZ : hasAt l0 a1 = true := by
      unfold hasAt
      rw [HI.out, ← HX.out, decide_eq_true hn, decide_eq_true (qeX.1 (HC.out ▸ hz))]
      rfl
     have HZ2 := Aside0.mk HZ
     clear HZ
     have hz2 : (c == 0) = true := beq_iff_eq.2 hz
     have HZ3 := Aside0.mk hz
     clear hz
     go_wp2_with fail
     refine (qci x a1 _).mono ?_
     rintro e w1 ⟨rfl, hb1⟩
     rw [← HC.out]
     go_wp2_with fail
     go_ret2
     exact ⟨by rw [HI.out, HZ2.out]; rfl, qaj HB.out hb1⟩
    ·have HZ : hasAt l0 a1 = false := by
      unfold hasAt
      rw [HI.out, ← HX.out, decide_eq_false (fun e => hz (HC.out.trans (qeX.2 e)))]
      simp
     have HZ2 := Aside0.mk HZ
     clear HZ
     have hz2 : (c == 0) = false := beq_eq_false_iff_ne.2 hz
     have HZ3 := Aside0.mk hz
     clear hz
     go_wp2_with fail
     refine (qci x a1 _).mono ?_
     rintro e w1 ⟨rfl, hb1⟩
     rw [← HC.out]
     go_wp2_with fail
     go_ret2
     exact ⟨by rw [HI.out, HZ2.out]; rfl, qaj HB.out hb1⟩
   ·have HZ : hasAt l0 a1 = false := by
     unfold hasAt
     rw [HI.out, decide_eq_false hn]
     rfl
    have HZ2 := Aside0.mk HZ
    clear HZ
    go_wp2_with fail
    go_ret2
    exact ⟨by rw [HI.out, HZ2.out]; rfl, HB.out⟩
set_option maxHeartbeats 1000000 in
set_option maxRecDepth 100000 in
theorem qbP.calls (A0 : Option Addr) (c0 : Nat) (l0 : List (S99)) (a1 : ByteArray) (r1 : Int) (r2 : Bool) (w : World) (hr0 : Kd.C k99 w A0 l0.length l0) (hc0 : l0.length ≤ c0) (h : qbP.f l0 a1 = some (r1, r2)) :
  Calls Try.prog 104 #[.slice A0 l0.length c0, .string a1] w fun e w' => e = .returned (.tuple #[.int .i64 r1, .bool r2]) ∧ Below w.heap.size w w' := by
 unfold qbP.f at h
 by_cases hs : Rises l0 ∧ l0.length ≤ 1000000
 ·rw [if_pos hs] at h
  have h' := Option.some.inj h
  clear h
  obtain ⟨rfl, rfl⟩ := Prod.mk.inj h'
  clear h'
  have HC := Aside0.mk (qdg A0 c0 l0 a1 w hr0 hs.1 hs.2)
  clear hr0 hs
  generalize hasAt l0 a1 = b at HC ⊢
  generalize lowAt l0 a1 = i at HC ⊢
  go_enter Try.func104, Try.ntmps104
  go_wp2_with fail
  refine HC.out.mono ?_
  rintro e w1 ⟨rfl, hb1⟩
  go_wp2_with fail
  go_ret2
  exact ⟨rfl, hb1⟩
 ·rw [if_neg hs] at h
  cases h
end Go.Proofs.Ytenfomejccfkgaa.X
