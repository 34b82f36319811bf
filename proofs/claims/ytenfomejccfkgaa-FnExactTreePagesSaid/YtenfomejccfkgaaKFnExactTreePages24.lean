import Derived.Test.YtenfomejccfkgaaKFnExactTreePages4
import Derived.Test.YtenfomejccfkgaaKFnExactTreePages6
import Derived.Test.YtenfomejccfkgaaKFnExactTreePages7
import Derived.Test.YtenfomejccfkgaaKFnExactTreePages12
import Derived.Test.YtenfomejccfkgaaKFnExactTreePages13
import Derived.Test.YtenfomejccfkgaaKFnExactTreePages15
import Derived.Test.YtenfomejccfkgaaKFnExactTreePages23
import Derived.LoopTactic
import Derived.WalkSpells
import Derived.Lib.Bytealg
import Derived.Laws.Externs
import Derived.Laws.Strings
import Derived.Sort.Walk0
namespace Go.Proofs.Ytenfomejccfkgaa.X
open Go.RowKit Go.Proofs.YtenfomejccfkgaaW.PrintWords Go.Proofs.YtenfomejccfkgaaW.PrintLast Go.Proofs.YtenfomejccfkgaaW.PrintMore
attribute [local go_sem] qaE qaF qaG qay qaz qaP qaQ qas qat qaA qaB
set_option linter.unusedVariables false
set_option linter.unusedSimpArgs false
def qdk.T3 : Bool × List (List Nat × List Nat) := (true, [([], []), ([], []), ([0, 1], [0, 1]), ([2], [2]), ([3, 0, 1, 2, 3], [3])])
def qdk.B3 : List Nat := [0, 0, 3, 7, 15]
theorem qdk.tab3 : rtab .any (opsOf Try.f63 3) = qdk.T3 := by kernel_rfl
theorem qdk.bits3 : qbW qdk.T3.2 qdk.B3 = true := by kernel_rfl
set_option maxHeartbeats 16000000 in
set_option maxRecDepth 100000 in
theorem qg5 (ns : List S56) (root : Int) (A : Option Addr) (c : Nat) (w : World) (hr : Kd.C k56 w A ns.length ns) (hbd : qdi ns) (hno : (walkR ns root).2.2 = false) : Calls Try.prog 63 #[.agg #[.slice A ns.length c], .int .i64 root] w fun e w' => e = .returned (.pointer none) ∧ Below w.heap.size w w' := by
 have hu := Try.underlying29
 have hu2 := Try.underlying155
 have hu3 := Try.underlying89
 have HR := Aside0.mk hr
 obtain ⟨w1, hw1⟩ : ∃ w1, w1 = w.alloc (.cells #[.slice A ns.length c] 29 (0, 0)) := ⟨_, rfl⟩
 have HB1 := Aside0.mk (show Below w.heap.size w w1 from hw1 ▸ qab (Below.refl _ w) _)
 have BX1 := Aside0.mk (show w1.heap[w.heap.size]? = some (.cells #[.slice A ns.length c] 29 (0, 0)) from hw1 ▸ qcs w _)
 by_cases hl : ns.length = 50
 ·have c1 : ((ns.length : Int) != 50) = false := by rw [hl]; rfl
  have hin := qe2 root (-1) 49
  cases hr : inB root (-1) 49 with
  | false =>
   rw [hr] at hin
   have HIN := Aside0.mk hin
   clear hno hl hbd hin hr
   go_enter Try.func63, Try.ntmps63
   go_wp2_with fail
   refine (qbc.calls _ _ _ _ _ HIN.out).mono ?_
   rintro e w2 ⟨rfl, hdr⟩
   rw [← hw1] at hdr
   have HB2 := Aside0.mk (qai HB1.out hdr.below)
   clear hdr
   go_wp2_with fail
   go_ret
   exact ⟨rfl, HB2.out⟩
  | true =>
   have hrg : -1 ≤ root ∧ root ≤ 49 := by unfold inB at hr; simpa using hr
   rw [hr] at hin
   have HIN := Aside0.mk hin
   have HRG := Aside0.mk hrg
   have HL := Aside0.mk hl
   have HBD := Aside0.mk hbd
   have HNO := Aside0.mk hno
   clear hno hl hbd hin hr hrg
   go_enter Try.func63, Try.ntmps63
   go_wp2_with fail
   refine (qbc.calls _ _ _ _ _ HIN.out).mono ?_
   rintro e w2 ⟨rfl, hdr⟩
   rw [← hw1] at hdr
   have HB2 := Aside0.mk (qai HB1.out hdr.below)
   have BX2 := Aside0.mk (qar BX1.out hdr.below)
   clear hdr hw1 HB1 BX1
   go_upto_region 3 with fail
   have BX5 := Aside0.mk (qao BX2.out)
   have HB5 := Aside0.mk (qby HB2.out)
   clear HB2 BX2 c1
   refine qcS (n := 5) (S := fun w' => True) (ds := []) #[false, false, false, false, false] (by kernel_rfl) rfl rfl trivial (fun hHeld => ?_)
   refine qbU qdk.tab3 qdk.bits3 (fun HT_ HW_ => ?_)
   generalize w2.drew = wd at BX5 HB5 ⊢
   refine qc8 [0, 1, 2, 3, 4] (fun a0_ b a w' => ∃ (As : Option Addr) (cs : Nat) (gw : Nat) (m1_ : Value) (m2_ : Value) (m3_ : Value) (m4_ : Value), a = qbt a0_ b [(0, 15, .agg #[.slice A ns.length c]), (1, 16, m1_), (2, 17, m2_), (3, 18, m3_), (4, 5, m4_)] ∧ (w'.heap[w.heap.size]? = some (.cells #[.slice A ns.length c] 29 (0, 0))) ∧ (Below w.heap.size w w') ∧ (b 1 = true → Kd.R Kd.bool 4 w' w.heap.size (fun _ => True) (.slice As noneW.length cs) noneW) ∧ (b 3 = true → w'.heap[gw]? = some (.cells #[.slice A ns.length c, .slice As noneW.length cs, .slice none 0 0] 155 (0, 0))) ∧ (b 3 = true → w.heap.size ≤ gw) ∧ (b 1 = true → (m1_ : Value) = .slice As noneW.length cs) ∧ (b 2 = true → (m2_ : Value) = .agg #[.slice A ns.length c, .slice As noneW.length cs, .slice none 0 0]) ∧ (b 3 = true → (m3_ : Value) = .pointer (some ⟨gw, 0, none⟩)) ∧ (b 4 = true → (m4_ : Value) = .pointer (some ⟨gw, 0, none⟩))) HT_.out HW_.out (by kernel_rfl) (by kernel_rfl) ?_ ?_ ?_
   ·exact ⟨none, 0, 0, .bool false, .bool false, .bool false, .bool false, by simp only [qbt, Bool.false_eq_true, if_false], BX5.out, HB5.out, fun h_ => absurd h_ (by decide), fun h_ => absurd h_ (by decide), fun h_ => absurd h_ (by decide), fun h_ => absurd h_ (by decide), fun h_ => absurd h_ (by decide), fun h_ => absurd h_ (by decide), fun h_ => absurd h_ (by decide)⟩
   ·skip
    clear BX5 HB5
    refine qag ?_ ?_
    ·rintro b a w' ⟨As, cs, gw, m1_, m2_, m3_, m4_, ha, Q_BX5, Q_HB5, Q_HS5, Q_BW5, Q_GW5, Q_X1_, Q_X2_, Q_X3_, Q_X4_⟩ hb_ hon hoff
     refine ⟨_, rfl, fun K hK => ?_⟩
     have e2 : a.tmps[2]? = some (.pointer (some ⟨w.heap.size, 0, none⟩)) := by rw [ha]; exact (qa4 rfl).trans rfl
     replace ha := Aside0.mk ha
     have BX5 := Aside0.mk Q_BX5
     have hc_ : w'.cell? ⟨w.heap.size, 0, none⟩ = some (.slice A ns.length c) := qae BX5.out 0
     refine qaH (w1 := w') (v := .agg #[.slice A ns.length c]) (by rfl) rfl ?_ ?_
     ·go_simp
      (try simp only [qaT])
      try rfl
     refine hK.out _ _ ⟨As, cs, gw, m1_, m2_, m3_, m4_, (by rw [ha.out]; exact qah 0 hb_ rfl rfl rfl), Q_BX5, Q_HB5, Q_HS5, fun h0_ => absurd ((hoff 3 (by kernel_rfl)).symm.trans h0_) (by decide), fun h0_ => absurd ((hoff 3 (by kernel_rfl)).symm.trans h0_) (by decide), Q_X1_, fun h0_ => absurd ((hoff 2 (by kernel_rfl)).symm.trans h0_) (by decide), fun h0_ => absurd ((hoff 3 (by kernel_rfl)).symm.trans h0_) (by decide), fun h0_ => absurd ((hoff 4 (by kernel_rfl)).symm.trans h0_) (by decide)⟩
    refine qag ?_ ?_
    ·rintro b a w' ⟨As, cs, gw, m1_, m2_, m3_, m4_, ha, Q_BX5, Q_HB5, Q_HS5, Q_BW5, Q_GW5, Q_X1_, Q_X2_, Q_X3_, Q_X4_⟩ hb_ hon hoff
     refine ⟨_, rfl, fun K hK => ?_⟩
     replace ha := Aside0.mk ha
     have BX5 := Aside0.mk Q_BX5
     have HB5 := Aside0.mk Q_HB5
     refine Kd.qdl Kd.bool (w0 := w) w.heap.size 4 (by rfl) (N := 16) (by rfl) 89 _ _ (by rfl) 50 (by rfl) (by rfl) Try.underlying89 (.bool false) 1 info4 rfl (by decide) (by omega) false (ok := fun _ => True) (okp := fun _ => True) rfl (fun _ hk => hk) trivial (by omega) (by decide) HB5.out HB5.out.size ?_
     intro v1 w1 ho1 hb1 hg1 hn1
     have ho2 : Kd.R Kd.bool 4 w1 w.heap.size (fun _ => True) v1 noneW := ho1
     obtain ⟨As_, cs_, ev_, _, _⟩ := Kd.qbV ho2
     subst ev_
     refine hK.out _ _ ⟨As_, cs_, gw, (.slice As_ noneW.length cs_), m2_, m3_, m4_, (by rw [ha.out]; exact qah 1 hb_ rfl rfl rfl), qb4 BX5.out hg1 (by simp), hb1, fun _ => ho2, fun h0_ => absurd ((hoff 3 (by kernel_rfl)).symm.trans h0_) (by decide), fun h0_ => absurd ((hoff 3 (by kernel_rfl)).symm.trans h0_) (by decide), fun _ => rfl, fun h0_ => absurd ((hoff 2 (by kernel_rfl)).symm.trans h0_) (by decide), fun h0_ => absurd ((hoff 3 (by kernel_rfl)).symm.trans h0_) (by decide), fun h0_ => absurd ((hoff 4 (by kernel_rfl)).symm.trans h0_) (by decide)⟩
    refine qag ?_ ?_
    ·rintro b a w' ⟨As, cs, gw, m1_, m2_, m3_, m4_, ha, Q_BX5, Q_HB5, Q_HS5, Q_BW5, Q_GW5, Q_X1_, Q_X2_, Q_X3_, Q_X4_⟩ hb_ hon hoff
     refine ⟨_, rfl, fun K hK => ?_⟩
     have e15 : a.tmps[15]? = some (.agg #[.slice A ns.length c]) := on_ ha 0 rfl rfl (hon 0 (by kernel_rfl)) rfl
     have e16 : a.tmps[16]? = some (m1_) := on_ ha 1 rfl rfl (hon 1 (by kernel_rfl)) rfl
     rw [Q_X1_ (hon 1 (by kernel_rfl))] at e16
     replace ha := Aside0.mk ha
     refine qaH (w1 := w') (v := .agg #[.slice A ns.length c, .slice As noneW.length cs, .slice none 0 0]) (by rfl) rfl ?_ ?_
     ·go_simp
      (try simp only [qaT])
      try rfl
     refine hK.out _ _ ⟨As, cs, gw, m1_, (.agg #[.slice A ns.length c, .slice As noneW.length cs, .slice none 0 0]), m3_, m4_, (by rw [ha.out]; exact qah 2 hb_ rfl rfl rfl), Q_BX5, Q_HB5, Q_HS5, fun h0_ => absurd ((hoff 3 (by kernel_rfl)).symm.trans h0_) (by decide), fun h0_ => absurd ((hoff 3 (by kernel_rfl)).symm.trans h0_) (by decide), Q_X1_, fun _ => rfl, fun h0_ => absurd ((hoff 3 (by kernel_rfl)).symm.trans h0_) (by decide), fun h0_ => absurd ((hoff 4 (by kernel_rfl)).symm.trans h0_) (by decide)⟩
    refine qag ?_ ?_
    ·rintro b a w' ⟨As, cs, gw, m1_, m2_, m3_, m4_, ha, Q_BX5, Q_HB5, Q_HS5, Q_BW5, Q_GW5, Q_X1_, Q_X2_, Q_X3_, Q_X4_⟩ hb_ hon hoff
     refine ⟨_, rfl, fun K hK => ?_⟩
     have e17 : a.tmps[17]? = some (m2_) := on_ ha 2 rfl rfl (hon 2 (by kernel_rfl)) rfl
     rw [Q_X2_ (hon 2 (by kernel_rfl))] at e17
     replace ha := Aside0.mk ha
     have BX5 := Aside0.mk Q_BX5
     have HB5 := Aside0.mk Q_HB5
     have HS5 := Aside0.mk (Q_HS5 (hon 1 (by kernel_rfl)))
     refine qaH (w1 := w'.alloc (.cells #[.slice A ns.length c, .slice As noneW.length cs, .slice none 0 0] 155 (0, 0))) (v := .pointer (some ⟨w'.heap.size, 0, none⟩)) (by rfl) rfl ?_ ?_
     ·go_simp
      try rfl
     refine hK.out _ _ ⟨As, cs, w'.heap.size, m1_, m2_, (.pointer (some ⟨w'.heap.size, 0, none⟩)), m4_, (by rw [ha.out]; exact qah 3 hb_ rfl rfl rfl), qam BX5.out _, qab HB5.out _, fun _ => Kd.qbg HS5.out _, fun _ => qcs w' _, fun _ => HB5.out.size, Q_X1_, Q_X2_, fun _ => rfl, fun h0_ => absurd ((hoff 4 (by kernel_rfl)).symm.trans h0_) (by decide)⟩
    refine qag ?_ ?_
    ·rintro b a w' ⟨As, cs, gw, m1_, m2_, m3_, m4_, ha, Q_BX5, Q_HB5, Q_HS5, Q_BW5, Q_GW5, Q_X1_, Q_X2_, Q_X3_, Q_X4_⟩ hb_ hon hoff
     refine ⟨_, rfl, fun K hK => ?_⟩
     have e18 : a.tmps[18]? = some (m3_) := on_ ha 3 rfl rfl (hon 3 (by kernel_rfl)) rfl
     rw [Q_X3_ (hon 3 (by kernel_rfl))] at e18
     replace ha := Aside0.mk ha
     refine qaH (w1 := w') (v := .pointer (some ⟨gw, 0, none⟩)) (by rfl) rfl ?_ ?_
     ·go_simp
      (try simp only [qaT])
      try rfl
     refine hK.out _ _ ⟨As, cs, gw, m1_, m2_, m3_, (.pointer (some ⟨gw, 0, none⟩)), (by rw [ha.out]; exact qah 4 hb_ rfl rfl rfl), Q_BX5, Q_HB5, Q_HS5, Q_BW5, Q_GW5, Q_X1_, Q_X2_, Q_X3_, fun _ => rfl⟩
    exact qb5
   rintro b a wA hall ⟨As, cs, gw, m1_, m2_, m3_, m4_, ha, Q_BX5, Q_HB5, Q_HS5, Q_BW5, Q_GW5, Q_X1_, Q_X2_, Q_X3_, Q_X4_⟩
   clear BX5 HB5
   have hb0_ := hall 0 (by kernel_rfl)
   have hb1_ := hall 1 (by kernel_rfl)
   have hb2_ := hall 2 (by kernel_rfl)
   have hb3_ := hall 3 (by kernel_rfl)
   have hb4_ := hall 4 (by kernel_rfl)
   subst ha
   obtain rfl := Q_X1_ hb1_
   obtain rfl := Q_X2_ hb2_
   obtain rfl := Q_X3_ hb3_
   obtain rfl := Q_X4_ hb4_
   simp only [qbt, hb0_, hb1_, hb2_, hb3_, hb4_, if_true, Act.put, List.setIfInBounds_toArray, List.set_cons_zero, List.set_cons_succ]
   have BX5 := Aside0.mk Q_BX5
   clear Q_BX5
   have HB5 := Aside0.mk Q_HB5
   clear Q_HB5
   have HS5 := Aside0.mk (Q_HS5 hb1_)
   clear Q_HS5
   have BW5 := Aside0.mk (Q_BW5 hb3_)
   clear Q_BW5
   have GW5 := Aside0.mk (Q_GW5 hb3_)
   clear Q_GW5
   clear hall hb0_ hb1_ hb2_ hb3_ hb4_
   clear BX5
   have HW5 := Aside0.mk (show WkAt w wA gw (.slice A ns.length c) (.slice As noneW.length cs) (.slice none 0 0) noneW [] from ⟨GW5.out, BW5.out, HS5.out, Kd.qeQ _ _ _ _ _⟩)
   clear GW5 BW5 HS5
   by_cases h0 : 0 ≤ root
   ·obtain ⟨k, rfl⟩ : ∃ k : Nat, root = (k : Int) := ⟨root.toNat, by omega⟩
    have hk : k < 50 := by have := HRG.out; omega
    have c2 : decide (0 ≤ (k : Int)) = true := decide_eq_true h0
    have hres : lookW ns (k : Int) = walkW ns 21 (k : Int) noneW [] := by unfold lookW; rw [if_pos HL.out, if_neg (by omega)]
    have HRES := Aside0.mk hres
    obtain ⟨rb, S2, P2, hlk⟩ : ∃ rb S2 P2, walkW ns 21 (k : Int) noneW [] = (rb, S2, P2) := ⟨_, _, _, rfl⟩
    have hw := qfK ns w A c HR.out HL.out HBD.out 21 k 0 noneW [] wA gw _ _ hk (by omega) (by omega) qdH HB5.out HW5.out
    rw [hlk] at hw hres
    have HLK := Aside0.mk hres
    have HCW := Aside0.mk hw
    clear hlk hres hw h0
    go_wp2_with fail
    refine HCW.out.mono ?_
    rintro e w3 ⟨rfl, hb3, _, hst⟩
    cases rb with
    | false =>
     go_wp2_with fail
     go_ret
     exact ⟨rfl, hb3⟩
    | true =>
     obtain ⟨vs3, vp3, hw3⟩ := hst rfl
     obtain ⟨vpA, vpc, ev, hvc, _⟩ := Kd.qbV hw3.2.2.2
     subst ev
     obtain ⟨d0, d1, d2, _⟩ := cells3 hw3.2.1
     obtain ⟨ko, hko⟩ := Ev.rounds (qdd P2)
     have hok : qcL P2 = false := by
      have h := HNO.out
      rw [qdg, HLK.out] at h
      simpa using h
     rw [hok] at hko
     have HKO := Aside0.mk hko
     clear hko hok hst
     go_wp2_with fail
     refine (qbp.calls (hr0 := (Kd.qbi hw3.2.2.2).2.2) (hc0 := (Kd.qbi hw3.2.2.2).2.1) (h := HKO.out)).mono ?_
     rintro e w4 ⟨rfl, hb4⟩
     have HB6 := Aside0.mk (qai hb3 hb4)
     have HW6 := Aside0.mk (hw3.below hb4)
     clear hb3 hb4 hw3 d0 d1 d2
     go_wp2_with fail
     go_ret
     exact ⟨rfl, HB6.out⟩
   ·have e0 : root = -1 := by have := HRG.out; omega
    have h := HNO.out
    rw [qdg] at h
    unfold lookW at h
    rw [if_pos HL.out, if_pos e0] at h
    exact absurd h (by decide)
 ·have c1 : ((ns.length : Int) != 50) = true := bne_iff_ne.2 (by omega)
  clear hno hl hbd
  go_enter Try.func63, Try.ntmps63
  go_wp2_with fail
  go_ret
  rw [← hw1]
  exact ⟨rfl, HB1.out⟩
set_option maxHeartbeats 16000000 in
set_option maxRecDepth 100000 in
theorem qdI (ns : List S56) (root : Int) (A : Option Addr) (c : Nat) (w : World) (hr : Kd.C k56 w A ns.length ns) (hbd : qdi ns) (hno : (walkR ns root).2.2 = true) : Calls Try.prog 63 #[.agg #[.slice A ns.length c], .int .i64 root] w fun e w' => ∃ (g : Nat) (vs vp : Value), e = .returned (.pointer (some ⟨g, 0, none⟩)) ∧ WkAt w w' g (.slice A ns.length c) vs vp (walkR ns root).2.1 (walkR ns root).1 ∧ Below w.heap.size w w' := by
 have hu := Try.underlying29
 have hu2 := Try.underlying155
 have hu3 := Try.underlying89
 have HR := Aside0.mk hr
 obtain ⟨w1, hw1⟩ : ∃ w1, w1 = w.alloc (.cells #[.slice A ns.length c] 29 (0, 0)) := ⟨_, rfl⟩
 have HB1 := Aside0.mk (show Below w.heap.size w w1 from hw1 ▸ qab (Below.refl _ w) _)
 have BX1 := Aside0.mk (show w1.heap[w.heap.size]? = some (.cells #[.slice A ns.length c] 29 (0, 0)) from hw1 ▸ qcs w _)
 by_cases hl : ns.length = 50
 ·have c1 : ((ns.length : Int) != 50) = false := by rw [hl]; rfl
  have hin := qe2 root (-1) 49
  cases hr : inB root (-1) 49 with
  | false =>
   rw [qg1 hr] at hno
   cases hno
  | true =>
   have hrg : -1 ≤ root ∧ root ≤ 49 := by unfold inB at hr; simpa using hr
   rw [hr] at hin
   have HIN := Aside0.mk hin
   have HRG := Aside0.mk hrg
   have HL := Aside0.mk hl
   have HBD := Aside0.mk hbd
   have HNO := Aside0.mk hno
   clear hno hl hbd hin hr hrg
   go_enter Try.func63, Try.ntmps63
   go_wp2_with fail
   refine (qbc.calls _ _ _ _ _ HIN.out).mono ?_
   rintro e w2 ⟨rfl, hdr⟩
   rw [← hw1] at hdr
   have HB2 := Aside0.mk (qai HB1.out hdr.below)
   have BX2 := Aside0.mk (qar BX1.out hdr.below)
   clear hdr hw1 HB1 BX1
   go_upto_region 3 with fail
   have BX5 := Aside0.mk (qao BX2.out)
   have HB5 := Aside0.mk (qby HB2.out)
   clear HB2 BX2 c1
   refine qcS (n := 5) (S := fun w' => True) (ds := []) #[false, false, false, false, false] (by kernel_rfl) rfl rfl trivial (fun hHeld => ?_)
   refine qbU qdk.tab3 qdk.bits3 (fun HT_ HW_ => ?_)
   generalize w2.drew = wd at BX5 HB5 ⊢
   refine qc8 [0, 1, 2, 3, 4] (fun a0_ b a w' => ∃ (As : Option Addr) (cs : Nat) (gw : Nat) (m1_ : Value) (m2_ : Value) (m3_ : Value) (m4_ : Value), a = qbt a0_ b [(0, 15, .agg #[.slice A ns.length c]), (1, 16, m1_), (2, 17, m2_), (3, 18, m3_), (4, 5, m4_)] ∧ (w'.heap[w.heap.size]? = some (.cells #[.slice A ns.length c] 29 (0, 0))) ∧ (Below w.heap.size w w') ∧ (b 1 = true → Kd.R Kd.bool 4 w' w.heap.size (fun _ => True) (.slice As noneW.length cs) noneW) ∧ (b 3 = true → w'.heap[gw]? = some (.cells #[.slice A ns.length c, .slice As noneW.length cs, .slice none 0 0] 155 (0, 0))) ∧ (b 3 = true → w.heap.size ≤ gw) ∧ (b 1 = true → (m1_ : Value) = .slice As noneW.length cs) ∧ (b 2 = true → (m2_ : Value) = .agg #[.slice A ns.length c, .slice As noneW.length cs, .slice none 0 0]) ∧ (b 3 = true → (m3_ : Value) = .pointer (some ⟨gw, 0, none⟩)) ∧ (b 4 = true → (m4_ : Value) = .pointer (some ⟨gw, 0, none⟩))) HT_.out HW_.out (by kernel_rfl) (by kernel_rfl) ?_ ?_ ?_
   ·exact ⟨none, 0, 0, .bool false, .bool false, .bool false, .bool false, by simp only [qbt, Bool.false_eq_true, if_false], BX5.out, HB5.out, fun h_ => absurd h_ (by decide), fun h_ => absurd h_ (by decide), fun h_ => absurd h_ (by decide), fun h_ => absurd h_ (by decide), fun h_ => absurd h_ (by decide), fun h_ => absurd h_ (by decide), fun h_ => absurd h_ (by decide)⟩
   ·skip
    clear BX5 HB5
    refine qag ?_ ?_
    ·rintro b a w' ⟨As, cs, gw, m1_, m2_, m3_, m4_, ha, Q_BX5, Q_HB5, Q_HS5, Q_BW5, Q_GW5, Q_X1_, Q_X2_, Q_X3_, Q_X4_⟩ hb_ hon hoff
     refine ⟨_, rfl, fun K hK => ?_⟩
     have e2 : a.tmps[2]? = some (.pointer (some ⟨w.heap.size, 0, none⟩)) := by rw [ha]; exact (qa4 rfl).trans rfl
     replace ha := Aside0.mk ha
     have BX5 := Aside0.mk Q_BX5
     have hc_ : w'.cell? ⟨w.heap.size, 0, none⟩ = some (.slice A ns.length c) := qae BX5.out 0
     refine qaH (w1 := w') (v := .agg #[.slice A ns.length c]) (by rfl) rfl ?_ ?_
     ·go_simp
      (try simp only [qaT])
      try rfl
     refine hK.out _ _ ⟨As, cs, gw, m1_, m2_, m3_, m4_, (by rw [ha.out]; exact qah 0 hb_ rfl rfl rfl), Q_BX5, Q_HB5, Q_HS5, fun h0_ => absurd ((hoff 3 (by kernel_rfl)).symm.trans h0_) (by decide), fun h0_ => absurd ((hoff 3 (by kernel_rfl)).symm.trans h0_) (by decide), Q_X1_, fun h0_ => absurd ((hoff 2 (by kernel_rfl)).symm.trans h0_) (by decide), fun h0_ => absurd ((hoff 3 (by kernel_rfl)).symm.trans h0_) (by decide), fun h0_ => absurd ((hoff 4 (by kernel_rfl)).symm.trans h0_) (by decide)⟩
    refine qag ?_ ?_
    ·rintro b a w' ⟨As, cs, gw, m1_, m2_, m3_, m4_, ha, Q_BX5, Q_HB5, Q_HS5, Q_BW5, Q_GW5, Q_X1_, Q_X2_, Q_X3_, Q_X4_⟩ hb_ hon hoff
     refine ⟨_, rfl, fun K hK => ?_⟩
     replace ha := Aside0.mk ha
     have BX5 := Aside0.mk Q_BX5
     have HB5 := Aside0.mk Q_HB5
     refine Kd.qdl Kd.bool (w0 := w) w.heap.size 4 (by rfl) (N := 16) (by rfl) 89 _ _ (by rfl) 50 (by rfl) (by rfl) Try.underlying89 (.bool false) 1 info4 rfl (by decide) (by omega) false (ok := fun _ => True) (okp := fun _ => True) rfl (fun _ hk => hk) trivial (by omega) (by decide) HB5.out HB5.out.size ?_
     intro v1 w1 ho1 hb1 hg1 hn1
     have ho2 : Kd.R Kd.bool 4 w1 w.heap.size (fun _ => True) v1 noneW := ho1
     obtain ⟨As_, cs_, ev_, _, _⟩ := Kd.qbV ho2
     subst ev_
     refine hK.out _ _ ⟨As_, cs_, gw, (.slice As_ noneW.length cs_), m2_, m3_, m4_, (by rw [ha.out]; exact qah 1 hb_ rfl rfl rfl), qb4 BX5.out hg1 (by simp), hb1, fun _ => ho2, fun h0_ => absurd ((hoff 3 (by kernel_rfl)).symm.trans h0_) (by decide), fun h0_ => absurd ((hoff 3 (by kernel_rfl)).symm.trans h0_) (by decide), fun _ => rfl, fun h0_ => absurd ((hoff 2 (by kernel_rfl)).symm.trans h0_) (by decide), fun h0_ => absurd ((hoff 3 (by kernel_rfl)).symm.trans h0_) (by decide), fun h0_ => absurd ((hoff 4 (by kernel_rfl)).symm.trans h0_) (by decide)⟩
    refine qag ?_ ?_
    ·rintro b a w' ⟨As, cs, gw, m1_, m2_, m3_, m4_, ha, Q_BX5, Q_HB5, Q_HS5, Q_BW5, Q_GW5, Q_X1_, Q_X2_, Q_X3_, Q_X4_⟩ hb_ hon hoff
     refine ⟨_, rfl, fun K hK => ?_⟩
     have e15 : a.tmps[15]? = some (.agg #[.slice A ns.length c]) := on_ ha 0 rfl rfl (hon 0 (by kernel_rfl)) rfl
     have e16 : a.tmps[16]? = some (m1_) := on_ ha 1 rfl rfl (hon 1 (by kernel_rfl)) rfl
     rw [Q_X1_ (hon 1 (by kernel_rfl))] at e16
     replace ha := Aside0.mk ha
     refine qaH (w1 := w') (v := .agg #[.slice A ns.length c, .slice As noneW.length cs, .slice none 0 0]) (by rfl) rfl ?_ ?_
     ·go_simp
      (try simp only [qaT])
      try rfl
     refine hK.out _ _ ⟨As, cs, gw, m1_, (.agg #[.slice A ns.length c, .slice As noneW.length cs, .slice none 0 0]), m3_, m4_, (by rw [ha.out]; exact qah 2 hb_ rfl rfl rfl), Q_BX5, Q_HB5, Q_HS5, fun h0_ => absurd ((hoff 3 (by kernel_rfl)).symm.trans h0_) (by decide), fun h0_ => absurd ((hoff 3 (by kernel_rfl)).symm.trans h0_) (by decide), Q_X1_, fun _ => rfl, fun h0_ => absurd ((hoff 3 (by kernel_rfl)).symm.trans h0_) (by decide), fun h0_ => absurd ((hoff 4 (by kernel_rfl)).symm.trans h0_) (by decide)⟩
    refine qag ?_ ?_
    ·rintro b a w' ⟨As, cs, gw, m1_, m2_, m3_, m4_, ha, Q_BX5, Q_HB5, Q_HS5, Q_BW5, Q_GW5, Q_X1_, Q_X2_, Q_X3_, Q_X4_⟩ hb_ hon hoff
     refine ⟨_, rfl, fun K hK => ?_⟩
     have e17 : a.tmps[17]? = some (m2_) := on_ ha 2 rfl rfl (hon 2 (by kernel_rfl)) rfl
     rw [Q_X2_ (hon 2 (by kernel_rfl))] at e17
     replace ha := Aside0.mk ha
     have BX5 := Aside0.mk Q_BX5
     have HB5 := Aside0.mk Q_HB5
     have HS5 := Aside0.mk (Q_HS5 (hon 1 (by kernel_rfl)))
     refine qaH (w1 := w'.alloc (.cells #[.slice A ns.length c, .slice As noneW.length cs, .slice none 0 0] 155 (0, 0))) (v := .pointer (some ⟨w'.heap.size, 0, none⟩)) (by rfl) rfl ?_ ?_
     ·go_simp
      try rfl
     refine hK.out _ _ ⟨As, cs, w'.heap.size, m1_, m2_, (.pointer (some ⟨w'.heap.size, 0, none⟩)), m4_, (by rw [ha.out]; exact qah 3 hb_ rfl rfl rfl), qam BX5.out _, qab HB5.out _, fun _ => Kd.qbg HS5.out _, fun _ => qcs w' _, fun _ => HB5.out.size, Q_X1_, Q_X2_, fun _ => rfl, fun h0_ => absurd ((hoff 4 (by kernel_rfl)).symm.trans h0_) (by decide)⟩
    refine qag ?_ ?_
    ·rintro b a w' ⟨As, cs, gw, m1_, m2_, m3_, m4_, ha, Q_BX5, Q_HB5, Q_HS5, Q_BW5, Q_GW5, Q_X1_, Q_X2_, Q_X3_, Q_X4_⟩ hb_ hon hoff
     refine ⟨_, rfl, fun K hK => ?_⟩
     have e18 : a.tmps[18]? = some (m3_) := on_ ha 3 rfl rfl (hon 3 (by kernel_rfl)) rfl
     rw [Q_X3_ (hon 3 (by kernel_rfl))] at e18
     replace ha := Aside0.mk ha
     refine qaH (w1 := w') (v := .pointer (some ⟨gw, 0, none⟩)) (by rfl) rfl ?_ ?_
     ·go_simp
      (try simp only [qaT])
      try rfl
     refine hK.out _ _ ⟨As, cs, gw, m1_, m2_, m3_, (.pointer (some ⟨gw, 0, none⟩)), (by rw [ha.out]; exact qah 4 hb_ rfl rfl rfl), Q_BX5, Q_HB5, Q_HS5, Q_BW5, Q_GW5, Q_X1_, Q_X2_, Q_X3_, fun _ => rfl⟩
    exact qb5
   rintro b a wA hall ⟨As, cs, gw, m1_, m2_, m3_, m4_, ha, Q_BX5, Q_HB5, Q_HS5, Q_BW5, Q_GW5, Q_X1_, Q_X2_, Q_X3_, Q_X4_⟩
   clear BX5 HB5
   have hb0_ := hall 0 (by kernel_rfl)
   have hb1_ := hall 1 (by kernel_rfl)
   have hb2_ := hall 2 (by kernel_rfl)
   have hb3_ := hall 3 (by kernel_rfl)
   have hb4_ := hall 4 (by kernel_rfl)
   subst ha
   obtain rfl := Q_X1_ hb1_
   obtain rfl := Q_X2_ hb2_
   obtain rfl := Q_X3_ hb3_
   obtain rfl := Q_X4_ hb4_
   simp only [qbt, hb0_, hb1_, hb2_, hb3_, hb4_, if_true, Act.put, List.setIfInBounds_toArray, List.set_cons_zero, List.set_cons_succ]
   have BX5 := Aside0.mk Q_BX5
   clear Q_BX5
   have HB5 := Aside0.mk Q_HB5
   clear Q_HB5
   have HS5 := Aside0.mk (Q_HS5 hb1_)
   clear Q_HS5
   have BW5 := Aside0.mk (Q_BW5 hb3_)
   clear Q_BW5
   have GW5 := Aside0.mk (Q_GW5 hb3_)
   clear Q_GW5
   clear hall hb0_ hb1_ hb2_ hb3_ hb4_
   clear BX5
   have HW5 := Aside0.mk (show WkAt w wA gw (.slice A ns.length c) (.slice As noneW.length cs) (.slice none 0 0) noneW [] from ⟨GW5.out, BW5.out, HS5.out, Kd.qeQ _ _ _ _ _⟩)
   clear GW5 BW5 HS5
   by_cases h0 : 0 ≤ root
   ·obtain ⟨k, rfl⟩ : ∃ k : Nat, root = (k : Int) := ⟨root.toNat, by omega⟩
    have hk : k < 50 := by have := HRG.out; omega
    have c2 : decide (0 ≤ (k : Int)) = true := decide_eq_true h0
    have hres : lookW ns (k : Int) = walkW ns 21 (k : Int) noneW [] := by unfold lookW; rw [if_pos HL.out, if_neg (by omega)]
    have HRES := Aside0.mk hres
    obtain ⟨rb, S2, P2, hlk⟩ : ∃ rb S2 P2, walkW ns 21 (k : Int) noneW [] = (rb, S2, P2) := ⟨_, _, _, rfl⟩
    have hw := qfK ns w A c HR.out HL.out HBD.out 21 k 0 noneW [] wA gw _ _ hk (by omega) (by omega) qdH HB5.out HW5.out
    rw [hlk] at hw hres
    have HLK := Aside0.mk hres
    have HCW := Aside0.mk hw
    clear hlk hres hw h0
    go_wp2_with fail
    refine HCW.out.mono ?_
    rintro e w3 ⟨rfl, hb3, _, hst⟩
    cases rb with
    | false =>
     have h := HNO.out
     rw [qdg, HLK.out] at h
     cases h
    | true =>
     obtain ⟨vs3, vp3, hw3⟩ := hst rfl
     obtain ⟨vpA, vpc, ev, hvc, _⟩ := Kd.qbV hw3.2.2.2
     subst ev
     obtain ⟨d0, d1, d2, _⟩ := cells3 hw3.2.1
     obtain ⟨ko, hko⟩ := Ev.rounds (qdd P2)
     have hok : qcL P2 = true := by
      have h := HNO.out
      rw [qdg, HLK.out] at h
      simpa using h
     rw [hok] at hko
     have HKO := Aside0.mk hko
     clear hko hok hst
     go_wp2_with fail
     refine (qbp.calls (hr0 := (Kd.qbi hw3.2.2.2).2.2) (hc0 := (Kd.qbi hw3.2.2.2).2.1) (h := HKO.out)).mono ?_
     rintro e w4 ⟨rfl, hb4⟩
     have HB6 := Aside0.mk (qai hb3 hb4)
     have HW6 := Aside0.mk (hw3.below hb4)
     clear hb3 hb4 hw3 d0 d1 d2
     go_wp2_with fail
     go_ret
     have h1 : (walkR ns (k : Int)).2.1 = S2 := by unfold walkR; rw [HLK.out]
     have h2 : (walkR ns (k : Int)).1 = P2 := by unfold walkR; rw [HLK.out]
     rw [h1, h2]
     exact ⟨gw, _, _, rfl, HW6.out, HB6.out⟩
   ·have e0 : root = -1 := by have := HRG.out; omega
    subst e0
    have hlk : lookW ns (-1) = (true, noneW, []) := by unfold lookW; rw [if_pos HL.out, if_pos rfl]
    have HLK := Aside0.mk hlk
    obtain ⟨ko, hko⟩ := Ev.rounds (qdd ([] : List S99))
    rw [show qcL ([] : List S99) = true from rfl] at hko
    have HKO := Aside0.mk hko
    obtain ⟨d0, d1, d2, _⟩ := cells3 HW5.out.2.1
    clear hko hlk h0
    go_wp2_with fail
    have HN := Aside0.mk (show Kd.C k99 wA none ([] : List S99).length [] from (Kd.qbi HW5.out.2.2.2).2.2)
    refine (qbp.calls ko none 0 [] true wA HN.out (Nat.le_refl _) HKO.out).mono ?_
    rintro e w4 ⟨rfl, hb4⟩
    have HB6 := Aside0.mk (qai HB5.out hb4)
    have HW6 := Aside0.mk (HW5.out.below hb4)
    clear hb4 d0 d1 d2
    go_wp2_with fail
    go_ret
    have h1 : (walkR ns (-1)).2.1 = noneW := by unfold walkR; rw [HLK.out]
    have h2 : (walkR ns (-1)).1 = [] := by unfold walkR; rw [HLK.out]
    rw [h1, h2]
    exact ⟨gw, _, _, rfl, HW6.out, HB6.out⟩
 ·rw [qej hl] at hno
  cases hno
end Go.Proofs.Ytenfomejccfkgaa.X
namespace Go.Proofs.Ytenfomejccfkgaa.X
open Go.RowKit Go.Proofs.YtenfomejccfkgaaW.PrintWords Go.Proofs.YtenfomejccfkgaaW.PrintLast Go.Proofs.YtenfomejccfkgaaW.PrintMore
attribute [local go_sem] qaE qaF qaG qay qaz qaP qaQ qas qat qaA qaB
set_option linter.unusedVariables false
set_option linter.unusedSimpArgs false
def orTo (a b : List Bool) (j : Nat) : List Bool := (List.range 50).map fun (i : Nat) => rdOf false a (i : Int) || (decide (i < j) && rdOf false b (i : Int))
def orW (a b : List Bool) : List Bool := orTo a b 50
def pagesW (ns : List S56) (rs : List Int) : List Bool := rs.foldl (fun o r => orW o (walkR ns r).2.1) noneW
theorem qcv (a b : List Bool) (j : Nat) : (orTo a b j).length = 50 := by unfold orTo; simp
theorem qdh {l : List Bool} {i : Nat} (h : i < l.length) : rdOf false l (i : Int) = l[i] := by
 unfold rdOf
 rw [Int.toNat_natCast]
 simp [List.getD_eq_getElem?_getD, h]
theorem qdw (a b : List Bool) (j i : Nat) (h : i < 50) : rdOf false (orTo a b j) (i : Int) = (rdOf false a (i : Int) || (decide (i < j) && rdOf false b (i : Int))) := by
 rw [qdh (by rw [qcv]; exact h)]
 unfold orTo
 simp
theorem qg6 (a b : List Bool) (h : a.length = 50) : orTo a b 0 = a := by
 refine List.ext_getElem (by rw [qcv, h]) fun i h1 h2 => ?_
 rw [← qdh h1, qdw a b 0 i (by omega), qdh (by omega)]
 simp
theorem qg7 (a b : List Bool) (j : Nat) (h : j < 50) : (orTo a b j).set j (rdOf false a (j : Int) || rdOf false b (j : Int)) = orTo a b (j + 1) := by
 refine List.ext_getElem (by rw [List.length_set, qcv, qcv]) fun i h1 h2 => ?_
 rw [qcv] at h2
 rw [← qdh (l := orTo a b (j + 1)) (by rw [qcv]; exact h2), qdw a b (j + 1) i h2]
 by_cases e : i = j
 ·subst e
  rw [List.getElem_set_self]
  simp
 ·rw [List.getElem_set_ne (fun h => e h.symm), ← qdh (l := orTo a b j) (by rw [qcv]; exact h2), qdw a b j i h2]
  congr 2
  by_cases h3 : i < j
  ·rw [decide_eq_true h3, decide_eq_true (by omega)]
  ·rw [decide_eq_false h3, decide_eq_false (by omega)]
def qbT.f (l0_0 : List S56) (l1 : List Int) : Option (List Bool) := if qcB l0_0 = true ∧ l1.length ≤ 1000000 ∧ ∀ r, r ∈ l1 → (walkR l0_0 r).2.2 = true then some (pagesW l0_0 l1) else none
set_option maxHeartbeats 16000000 in
set_option maxRecDepth 100000 in
theorem qbT.calls (A0_0 : Option Addr) (c0_0 : Nat) (l0_0 : List S56) (A1 : Option Addr) (c1 : Nat) (l1 : List Int) (r : List Bool) (w : World) (hr0_0 : Kd.C k56 w A0_0 l0_0.length l0_0) (hc0_0 : l0_0.length ≤ c0_0) (hr1 : Kd.C (Kd.int .i64) w A1 l1.length l1) (hc1 : l1.length ≤ c1) (h : qbT.f l0_0 l1 = some r) :
  Calls Try.prog 73 #[.agg #[.slice A0_0 l0_0.length c0_0], .slice A1 l1.length c1] w fun e w' => ∃ v0_ : Value, e = .returned (v0_) ∧ Kd.R Kd.bool 4 w' w.heap.size (fun _ => True) v0_ r ∧ Below w.heap.size w w' := by
 unfold qbT.f at h
 have hbd : qcB l0_0 = true ∧ l1.length ≤ 1000000 ∧ ∀ r, r ∈ l1 → (walkR l0_0 r).2.2 = true := by
  by_cases hb : qcB l0_0 = true ∧ l1.length ≤ 1000000 ∧ ∀ r, r ∈ l1 → (walkR l0_0 r).2.2 = true
  ·exact hb
  ·rw [if_neg hb] at h
   cases h
 rw [if_pos hbd] at h
 have hu := Try.underlying29
 have hu2 := Try.underlying155
 have hu3 := Try.underlying89
 have HR0 := Aside0.mk hr0_0
 have HR1 := Aside0.mk hr1
 have hl1 : l1.length ≤ 1000000 := hbd.2.1
 have HBD := Aside0.mk (And.intro (qcO.1 hbd.1) hbd.2.2)
 have HH := Aside0.mk (Option.some.inj h)
 obtain ⟨w1, hw1⟩ : ∃ w1, w1 = w.alloc (.cells #[.slice A0_0 l0_0.length c0_0] 29 (0, 0)) := ⟨_, rfl⟩
 have HB1 := Aside0.mk (show Below w.heap.size w w1 from hw1 ▸ qab (Below.refl _ w) _)
 have BX1 := Aside0.mk (show w1.heap[w.heap.size]? = some (.cells #[.slice A0_0 l0_0.length c0_0] 29 (0, 0)) from hw1 ▸ qcs w _)
 clear h hr0_0 hr1 hbd
 go_enter Try.func73, Try.ntmps73
 go_upto_region 1 with fail
 rw [← hw1]
 clear hw1
 go_wp2_with (first | ((with_reducible refine qaL (N := 10) rfl ?_); refine Kd.qfl Kd.bool (w0 := w) w.heap.size 4 rfl (N := 10) rfl 89 _ _ rfl 50 rfl rfl Try.underlying89 (.bool false) 1 info4 rfl (by decide) (by omega) false (ok := fun _ => True) (okp := fun _ => True) rfl (fun _ hk => hk) trivial (by omega) (by decide) HB1.out HB1.out.size ?_; intro v1 w2 ho1 hb1 hg1 hn1))
 have HO := Aside0.mk (show Kd.R Kd.bool 4 w2 w.heap.size (fun _ => True) v1 noneW from ho1)
 have HB2 := Aside0.mk hb1
 have BX2 := Aside0.mk (qb4 BX1.out hg1 (by simp))
 clear ho1 hb1 hg1 hn1 HB1 BX1
 obtain ⟨go, co, ev, hgo, hgl, _⟩ := Kd.qcy HO.out (by unfold noneW; simp)
 subst ev
 have HGO := Aside0.mk hgo
 have HGL0 := Aside0.mk hgl
 clear hgo hgl
 go_upto_region 3 with fail
 go_loopw [13] (fun v13 wr => ∃ (i : Nat) (o : List Bool), i ≤ l1.length ∧ v13 = .int .i64 (i : Int) ∧ Aside0 (o.length = 50) ∧ Aside0 (Kd.R Kd.bool 4 wr w.heap.size (fun _ => True) (.slice (some ⟨go, 0, none⟩) noneW.length co) o) ∧ Aside0 (Below w.heap.size w wr) ∧ Aside0 (wr.heap[w.heap.size]? = some (.cells #[.slice A0_0 l0_0.length c0_0] 29 (0, 0))) ∧ Aside0 (go < wr.heap.size) ∧ Aside0 ((l1.drop i).foldl (fun o r => orW o (walkR l0_0 r).2.1) o = r)) (fun v13 _ => l1.length - (intOf v13).toNat)
 case atStart => exact ⟨0, noneW, by omega, rfl, ⟨rfl⟩, HO, HB2, BX2, HGL0, ⟨HH.out⟩⟩
 case round =>
  clear HO HB2 BX2
  obtain ⟨i, o, hi, rfl, HOL, HO, HB, BX, HGL, HE⟩ := hrel
  by_cases hlt : i < l1.length
  ·have c5 : decide ((i : Int) < (l1.length : Int)) = true := decide_eq_true (by omega)
   have i0 : 0 ≤ (i : Int) := by omega
   have i1 : (i : Int) < (l1.length : Int) := by omega
   obtain ⟨ad1, e1, k1⟩ := Kd.qcp HR1.out (i : Int) i0 i1
   cases e1
   obtain ⟨rt, hrt⟩ : ∃ rt, rt = l1[i] := ⟨_, rfl⟩
   have hrd : rd l1 (i : Int) = rt := by
    rw [hrt]
    unfold rd
    simp [List.getD_eq_getElem?_getD, hlt]
   rw [Int.toNat_natCast, hrd] at k1
   replace k1 := (HB.out.cell (World.block_lt_of_cell? w _ k1)).trans k1
   have hd : l1.drop i = rt :: l1.drop (i + 1) := by rw [hrt]; exact List.drop_eq_getElem_cons hlt
   have hok := HBD.out.2 rt (by rw [hrt]; exact List.getElem_mem _)
   have hE := HE.out
   rw [hd, List.foldl_cons] at hE
   have HE2 := Aside0.mk hE
   have b0 := qae BX.out 0
   simp only [List.getElem?_toArray, List.getElem?_cons_zero] at b0
   have HOK := Aside0.mk hok
   clear hE hd hok hrd hrt HE
   obtain ⟨Sn, hSn⟩ : ∃ Sn, Sn = (walkR l0_0 rt).2.1 := ⟨_, rfl⟩
   have hsl : Sn.length = 50 := by rw [hSn]; exact qei _ _
   go_wp2_with fail
   refine (qdI l0_0 rt A0_0 c0_0 _ (Kd.qaw HR0.out HB.out) HBD.out.1 HOK.out).mono ?_
   rintro e w3 ⟨g, vs, vp, rfl, hw, hb⟩
   rw [← hSn] at hw HE2
   obtain ⟨sA, sc, ev, _, _⟩ := Kd.qbV hw.2.2.1
   subst ev
   obtain ⟨d0, d1, d2, _⟩ := cells3 hw.2.1
   have HSN := Aside0.mk (Kd.qbA (Kd.qbJ (Kd.qco hw.2.2.1) (fun k hk => (show wr.heap.size ≤ k from hk.2.1))) HB.out.size)
   have HO3 := Aside0.mk (Kd.qbr HO.out hb)
   have HB3 := Aside0.mk (qai HB.out hb)
   have BX3 := Aside0.mk (qar BX.out hb)
   have HSZ := Aside0.mk hb.size
   have HGN := HGL
   have HSL := Aside0.mk hsl
   clear hb hw b0 k1 hSn hsl HO HB BX
   obtain ⟨N0, hN0⟩ : ∃ N0, N0 = wr.heap.size := ⟨_, rfl⟩
   rw [← hN0] at HSN HSZ HGN
   go_upto_region 6 with fail
   clear d0 d1 d2 hN0 HGL
   go_loopw [24] (fun v24 wq => ∃ (j : Nat) (q : List Bool), j ≤ 50 ∧ v24 = .int .i64 (j : Int) ∧ q = orTo o Sn j ∧ Aside0 (Kd.R Kd.bool 4 wq w.heap.size (fun _ => True) (.slice (some ⟨go, 0, none⟩) noneW.length co) q) ∧ Aside0 (Below w.heap.size w wq) ∧ Aside0 (wq.heap[w.heap.size]? = some (.cells #[.slice A0_0 l0_0.length c0_0] 29 (0, 0))) ∧ Aside0 (N0 ≤ wq.heap.size) ∧ Aside0 (Kd.R Kd.bool 4 wq w.heap.size (fun k => N0 ≤ k) (.slice sA Sn.length sc) Sn)) (fun v24 _ => 50 - (intOf v24).toNat)
   case atStart => exact ⟨0, o, by omega, rfl, (qg6 o Sn HOL.out).symm, HO3, HB3, BX3, HSZ, HSN⟩
   case round =>
    clear HO3 HB3 BX3 HSZ HSN
    obtain ⟨j, q, hj, rfl, hq, HQ, HBq, BXq, HSZ, HSN⟩ := hrel
    have hsl := HSL.out
    by_cases hjl : j < 50
    ·have c6 : decide ((j : Int) < (Sn.length : Int)) = true := decide_eq_true (by omega)
     have j0 : 0 ≤ (j : Int) := by omega
     have j1 : (j : Int) < (Sn.length : Int) := by omega
     have hnl : noneW.length = 50 := by unfold noneW; simp
     have j2 : (j : Int) < (noneW.length : Int) := by omega
     obtain ⟨gs2, cs2, ev, hgs2, _, _⟩ := Kd.qcy HSN.out (by omega)
     injection ev with ev1 _ ev2
     subst ev1; subst ev2
     obtain ⟨x0, x1⟩ := Kd.qcC false HSN.out (j : Int) j0 j1
     obtain ⟨y0, y1⟩ := Kd.qcC false HQ.out (j : Int) j0 j2
     rw [Int.toNat_natCast] at x0 x1 y0 y1
     have hqj : rdOf false q (j : Int) = rdOf false o (j : Int) := by rw [hq, qdw o Sn j j hjl]; simp
     have hP := Kd.qgE HQ.out (j : Int) (rdOf false o (j : Int) || rdOf false Sn (j : Int))
     rw [Int.toNat_natCast, hq, qg7 o Sn j hjl] at hP
     rw [hqj] at y0
     have HPP := Aside0.mk hP
     have HSF := Aside0.mk (Kd.qcH HSN.out (p := ⟨go, j, none⟩) (fun k hk => by have := HGN.out; show k ≠ go; omega) (.bool (rdOf false o (j : Int) || rdOf false Sn (j : Int))))
     have BXF := Aside0.mk (show (wr.setCell ⟨go, j, none⟩ (.bool (rdOf false o (j : Int) || rdOf false Sn (j : Int)))).heap[w.heap.size]? = some (.cells #[.slice A0_0 l0_0.length c0_0] 29 (0, 0)) from by
      obtain ⟨_, _, _, _, _, cc, hcc⟩ := Kd.qcy HQ.out (by rw [hq, qcv]; omega)
      rename_i ev3 _ _
      injection ev3 with e4 _ _
      injection e4 with e4
      injection e4 with e4
      subst e4
      exact qb6 BXq.out (qfd BXq.out hcc (by decide)) _)
     clear hP hqj hsl hnl
     generalize rdOf false o (j : Int) = bo at *
     generalize rdOf false Sn (j : Int) = bs at *
     cases bo with
     | true =>
      go_wp2_with fail
      go_roundw
      case rel => exact ⟨j + 1, _, by omega, by go_num, rfl, HPP, ⟨HBq.out.setCell (p := ⟨go, j, none⟩) HGO.out _⟩, BXF, ⟨Nat.le_trans HSZ.out ((Below.refl 0 wr).setCell (p := ⟨go, j, none⟩) (Nat.zero_le _) (.bool (true || bs))).size⟩, HSF⟩
      case measure => simp [intOf]; omega
     | false =>
      go_wp2_with fail
      go_roundw
      case rel => exact ⟨j + 1, _, by omega, by go_num, rfl, HPP, ⟨HBq.out.setCell (p := ⟨go, j, none⟩) HGO.out _⟩, BXF, ⟨Nat.le_trans HSZ.out ((Below.refl 0 wr).setCell (p := ⟨go, j, none⟩) (Nat.zero_le _) (.bool (false || bs))).size⟩, HSF⟩
      case measure => simp [intOf]; omega
    ·have hj5 : j = 50 := by omega
     have c6 : decide ((j : Int) < (Sn.length : Int)) = false := decide_eq_false (by omega)
     have c7 : ¬ j < Sn.length := by omega
     have HQ2 := Aside0.mk (show Kd.R Kd.bool 4 wr w.heap.size (fun _ => True) (.slice (some ⟨go, 0, none⟩) noneW.length co) (orW o Sn) from by have := HQ.out; rw [hq, hj5] at this; exact this)
     clear hq HQ hsl hj5
     go_wp2_with fail
     go_roundw
     case rel => exact ⟨i + 1, orW o Sn, by omega, by go_num, ⟨qcv _ _ _⟩, HQ2, HBq, BXq, ⟨by have := HSZ.out; have := HGN.out; omega⟩, HE2⟩
     case measure => simp [intOf]; omega
  ·have he : i = l1.length := by omega
   have c5 : decide ((i : Int) < (l1.length : Int)) = false := decide_eq_false (by omega)
   have hE := HE.out
   rw [he, List.drop_length, List.foldl_nil] at hE
   have HE2 := Aside0.mk hE
   clear hE he HE
   go_wp2_with fail
   go_ret
   rw [← HE2.out]
   exact ⟨_, rfl, HO.out, HB.out⟩
end Go.Proofs.Ytenfomejccfkgaa.X
namespace Go.Proofs.Ytenfomejccfkgaa.X
open Go.RowKit Go.Proofs.YtenfomejccfkgaaW.PrintWords Go.Proofs.YtenfomejccfkgaaW.PrintLast Go.Proofs.YtenfomejccfkgaaW.PrintMore
attribute [local go_sem] qaE qaF qaG qay qaz qaP qaQ qas qat qaA qaB
set_option linter.unusedVariables false
set_option linter.unusedSimpArgs false
def cmpS (a b : ByteArray) : Int := if Op.bytesLess a.toList b.toList = true then -1 else if a.toList = b.toList then 0 else 1
theorem qeo (a b : List UInt8) : Lib.compareBytes a b = if Op.bytesLess a b = true then -1 else if a = b then 0 else 1 := by
 induction a generalizing b with
 | nil => cases b <;> simp [Lib.compareBytes, Op.bytesLess]
 | cons x a ih =>
  cases b with
  | nil => simp [Lib.compareBytes, Op.bytesLess]
  | cons y b =>
   simp only [Lib.compareBytes, Op.bytesLess]
   by_cases h1 : x < y
   ·simp [h1]
   ·by_cases h2 : y < x
    ·have h3 : ¬ x = y := by rintro rfl; exact h1 h2
     simp [h1, h2, h3]
    ·have h3 : x = y := by simp [UInt8.lt_iff_toNat_lt, ← UInt8.toNat_inj] at *; omega
     subst h3
     simp [h1, ih b]
theorem cmpS_is (a b : ByteArray) : Lib.compareBytes a.data.toList b.data.toList = cmpS a b := by
 unfold cmpS
 rw [qeo, ByteArray.toList_eq, ByteArray.toList_eq]
set_option maxHeartbeats 1000000 in
set_option maxRecDepth 100000 in
theorem bytealg_CompareString (a b : ByteArray) (w : World) :
  Calls Try.prog 151 #[.string a, .string b] w fun e w' => e = .returned (.int .i64 (cmpS a b)) ∧ w' = w := by
 rw [← cmpS_is]
 go_enter Try.func151, Try.ntmps151
 go_wp2
 rw [run_callFunc_extern Try.func183 (by kernel_rfl) (by kernel_rfl) (by kernel_rfl) (e := Extern.BytealgCompare.compare) (by kernel_rfl), Lib.run_compareString]
 simp only [Result.andThen]
 rw [Oper.upon_value]
 go_wp2
 go_ret
 exact ⟨rfl, rfl⟩
set_option maxHeartbeats 1000000 in
theorem qdR (a b : ByteArray) (w : World) :
  Calls Try.prog 108 #[.string a, .string b] w fun e w' => e = .returned (.int .i64 (cmpS a b)) ∧ w' = w := by
 go_enter Try.func108, Try.ntmps108
 go_wp2_with fail
 refine (bytealg_CompareString _ _ _).mono ?_
 rintro e w' ⟨rfl, rfl⟩
 go_wp2_with fail
 go_ret
 exact ⟨rfl, rfl⟩
end Go.Proofs.Ytenfomejccfkgaa.X
