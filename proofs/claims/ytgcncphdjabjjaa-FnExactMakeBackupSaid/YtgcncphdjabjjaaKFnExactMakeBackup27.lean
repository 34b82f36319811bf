import Derived.Test.YtgcncphdjabjjaaKFnExactMakeBackup3
import Derived.Test.YtgcncphdjabjjaaKFnExactMakeBackup13
import Derived.Test.YtgcncphdjabjjaaKFnExactMakeBackup15
import Derived.Test.YtgcncphdjabjjaaKFnExactMakeBackup16
import Derived.Test.YtgcncphdjabjjaaKFnExactMakeBackup18
import Derived.Test.YtgcncphdjabjjaaKFnExactMakeBackup20
import Derived.Test.YtgcncphdjabjjaaKFnExactMakeBackup21
import Derived.Test.YtgcncphdjabjjaaKFnExactMakeBackup25
import Derived.Test.YtgcncphdjabjjaaKFnExactMakeBackup26
import Derived.Test.YtgcncphdjabjjaaRows
import Derived.WalkKit
import Derived.ProofKit
import Derived.OpenShut
import Derived.ShutString
import Derived.ChangeOld
import Derived.Below
import Derived.SizedLaws
namespace Go.Proofs.Ytgcncphdjabjjaa.X
open Go.RowKit Go.Proofs.YtgcncphdjabjjaaW.PrintWords Go.Proofs.YtgcncphdjabjjaaW.PrintLast Go.Proofs.YtgcncphdjabjjaaW.PrintMore
attribute [local go_sem] qaT qaU qaV qaP qaQ qa3 qa4 qaJ qaK qaR qaS
set_option linter.unusedVariables false
set_option linter.unusedSimpArgs false
abbrev BakR := ByteArray × ByteArray × Int × (List S82) × Int × Int
def noBak (c : Int) : BakR := ((⟨#[]⟩ : ByteArray), (⟨#[]⟩ : ByteArray), 0, ([] : List S82), 0, c)
def longM (a b : ByteArray) (x y : List S76) : Bool := decide (65536 < a.size) || (decide (65536 < b.size) || (decide (4096 < x.length) || decide (4096 < y.length)))
def badM (a : ByteArray) (x y : List S76) : Bool := !(pairsB x && pairsB y) || (decide (a.toList = []) && decide (0 < x.length))
def makeR (a b : ByteArray) (n : Int) (x y : List S76) : BakR := if longM a b x y = true then noBak 2 else if badM a x y = true then noBak 1 else if headB a b n = true then (a, b, n, diffL x y, sumP y, 0) else noBak 4
theorem qeE (a b : ByteArray) (n : Int) (x y : List S76) : (makeR a b n x y).2.2.2.1.length ≤ x.length + y.length := by
 unfold makeR noBak
 split
 ·exact Nat.zero_le _
 ·split
  ·exact Nat.zero_le _
  ·split
   ·exact qeD _ x y (Nat.le_refl _)
   ·exact Nat.zero_le _
theorem qf2 (a b : ByteArray) (n : Int) (x y : List S76) : Ev (fun k => qat.f k a b n x y) (makeR a b n x y) := by
 have hj1 : ∀ c : Bool, longM a b x y = false → c = badM a x y → x.length ≤ 1000000 → y.length ≤ 1000000 → Ev (fun k => qat.j1 k a b n x y c) (makeR a b n x y) := by
  intro c hl hc hx hy
  refine Ev.succ ?_
  simp only [qat.j1]
  unfold makeR
  refine Ev.same ?_ (if_neg (by rw [hl]; decide)).symm
  cases hb : badM a x y with
  | true => rw [hc, hb]; exact Ev.pos rfl (Ev.is (by simp [noBak]))
  | false =>
   rw [hc, hb]
   refine Ev.neg (by simp) (Ev.bind (qf1 a b n) ?_)
   have hp : PairsFit y := qdc (by unfold badM at hb; simp at hb; exact hb.1.2)
   cases hh : headB a b n with
   | true =>
    refine Ev.pos rfl ?_
    unfold qbp.f
    exact Ev.bind (Ev.bind (qel x y hx hy) (Ev.bindk (impl_sum hp) (Ev.is rfl))) (Ev.is (by simp))
   | false => exact Ev.neg (by simp) (Ev.is (by simp [noBak]))
 have hj0 : ∀ c : Bool, c = longM a b x y → Ev (fun k => qat.j0 k a b n x y c) (makeR a b n x y) := by
  intro c hc
  refine Ev.succ ?_
  simp only [qat.j0]
  cases hl : longM a b x y with
  | true => rw [hc, hl]; exact Ev.pos rfl (Ev.is (by simp [makeR, hl, noBak]))
  | false =>
   rw [hc, hl]
   have hs : x.length ≤ 1000000 ∧ y.length ≤ 1000000 := by unfold longM at hl; simp at hl; omega
   refine Ev.neg (by simp) (Ev.bind (qdn x) ?_)
   cases h1 : pairsB x with
   | false => exact Ev.neg (by simp) (hj1 true hl (by simp [badM, h1]) hs.1 hs.2)
   | true =>
    refine Ev.pos rfl (Ev.bind (qdn y) ?_)
    cases h2 : pairsB y with
    | false => exact Ev.neg (by simp) (hj1 true hl (by simp [badM, h2]) hs.1 hs.2)
    | true =>
     refine Ev.pos rfl ?_
     by_cases h3 : a.toList = ([] : List UInt8)
     ·exact Ev.pos h3 (hj1 _ hl (by simp [badM, h1, h2, h3]) hs.1 hs.2)
     ·exact Ev.neg h3 (hj1 false hl (by simp [badM, h1, h2, h3]) hs.1 hs.2)
 unfold qat.f
 by_cases h1 : (a.size : Int) > 65536
 ·exact Ev.pos h1 (hj0 true (by simp [longM]; omega))
 refine Ev.neg h1 ?_
 by_cases h2 : (b.size : Int) > 65536
 ·exact Ev.pos h2 (hj0 true (by simp [longM]; omega))
 refine Ev.neg h2 ?_
 by_cases h3 : (x.length : Int) > 4096
 ·exact Ev.pos h3 (hj0 true (by simp [longM]; omega))
 refine Ev.neg h3 (hj0 _ ?_)
 unfold longM
 rw [decide_eq_false (show ¬ 65536 < a.size by omega), decide_eq_false (show ¬ 65536 < b.size by omega), decide_eq_false (show ¬ 4096 < x.length by omega)]
 simp only [Bool.false_or]
 exact decide_eq_decide.2 (by omega)
theorem qf3 (a b : ByteArray) (n : Int) (x y : List S76) : Ev (fun k => qav.f k a b n x y) (makeR a b n x y) := by
 have hj1 : ∀ c : Bool, longM a b x y = false → c = badM a x y → x.length ≤ 1000000 → y.length ≤ 1000000 → Ev (fun k => qav.j1 k a b n x y c) (makeR a b n x y) := by
  intro c hl hc hx hy
  refine Ev.succ ?_
  simp only [qav.j1]
  unfold makeR
  refine Ev.same ?_ (if_neg (by rw [hl]; decide)).symm
  cases hb : badM a x y with
  | true => rw [hc, hb]; exact Ev.pos rfl (Ev.is (by simp [noBak]))
  | false =>
   rw [hc, hb]
   refine Ev.neg (by simp) (Ev.same ?_ (if_neg (by simp)).symm)
   have hp : PairsFit y := qdc (by unfold badM at hb; simp at hb; exact hb.1.2)
   have hm : Ev (fun k => (qbg.f k a b n x y).bind fun bt => some (bt.1, bt.2.1, bt.2.2.1, bt.2.2.2.1, bt.2.2.2.2, (0 : Int))) ((a, b, n, diffL x y, sumP y, 0) : BakR) := by
    unfold qbg.f
    exact Ev.bind (Ev.bind (qfU x y hx hy) (Ev.bind (spec_sum hp) (Ev.is rfl))) (Ev.is (by simp))
   by_cases h3 : a.toList = ([] : List UInt8)
   ·refine Ev.pos h3 (Ev.bind (qdg b) ?_)
    cases h4 : shortB b with
    | false => exact Ev.neg (by simp) (Ev.is (by simp [headB, h3, h4, noBak]))
    | true =>
     refine Ev.pos rfl (Ev.bindk (qfQ n 0 4294967295) ?_)
     cases h5 : inB n 0 4294967295 with
     | false => exact Ev.neg (by simp) (Ev.is (by simp [headB, h3, h5, noBak]))
     | true =>
      refine Ev.pos rfl ?_
      by_cases h6 : n = 0
      ·exact Ev.pos h6 (Ev.same hm (by rw [if_pos (by simp [headB, h3, h4, h5, h6]; subst h6; exact h5)]))
      ·exact Ev.neg h6 (Ev.is (by simp [headB, h3, h6, noBak]))
   ·refine Ev.neg h3 (Ev.bind (qdg a) ?_)
    cases h4 : shortB a with
    | false => exact Ev.neg (by simp) (Ev.is (by simp [headB, h3, h4, noBak]))
    | true =>
     refine Ev.pos rfl (Ev.bind (qdg b) ?_)
     cases h5 : shortB b with
     | false => exact Ev.neg (by simp) (Ev.is (by simp [headB, h3, h5, noBak]))
     | true =>
      refine Ev.pos rfl (Ev.bindk (qfQ n 0 4294967295) ?_)
      cases h6 : inB n 0 4294967295 with
      | false => exact Ev.neg (by simp) (Ev.is (by simp [headB, h3, h6, noBak]))
      | true => exact Ev.pos rfl (Ev.same hm (by rw [if_pos (by simp [headB, h3, h4, h5, h6])]))
 have hj0 : ∀ c : Bool, c = longM a b x y → Ev (fun k => qav.j0 k a b n x y c) (makeR a b n x y) := by
  intro c hc
  refine Ev.succ ?_
  simp only [qav.j0]
  cases hl : longM a b x y with
  | true => rw [hc, hl]; exact Ev.pos rfl (Ev.is (by simp [makeR, hl, noBak]))
  | false =>
   rw [hc, hl]
   have hs : x.length ≤ 1000000 ∧ y.length ≤ 1000000 := by unfold longM at hl; simp at hl; omega
   refine Ev.neg (by simp) (Ev.bind (qdm x) ?_)
   cases h1 : pairsB x with
   | false => exact Ev.neg (by simp) (hj1 true hl (by simp [badM, h1]) hs.1 hs.2)
   | true =>
    refine Ev.pos rfl (Ev.bind (qdm y) ?_)
    cases h2 : pairsB y with
    | false => exact Ev.neg (by simp) (hj1 true hl (by simp [badM, h2]) hs.1 hs.2)
    | true =>
     refine Ev.pos rfl ?_
     by_cases h3 : a.toList = ([] : List UInt8)
     ·exact Ev.pos h3 (hj1 _ hl (by simp [badM, h1, h2, h3]) hs.1 hs.2)
     ·exact Ev.neg h3 (hj1 false hl (by simp [badM, h1, h2, h3]) hs.1 hs.2)
 unfold qav.f
 by_cases h1 : (a.size : Int) > 65536
 ·exact Ev.pos h1 (hj0 true (by simp [longM]; omega))
 refine Ev.neg h1 ?_
 by_cases h2 : (b.size : Int) > 65536
 ·exact Ev.pos h2 (hj0 true (by simp [longM]; omega))
 refine Ev.neg h2 ?_
 by_cases h3 : (x.length : Int) > 4096
 ·exact Ev.pos h3 (hj0 true (by simp [longM]; omega))
 refine Ev.neg h3 (hj0 _ ?_)
 unfold longM
 rw [decide_eq_false (show ¬ 65536 < a.size by omega), decide_eq_false (show ¬ 65536 < b.size by omega), decide_eq_false (show ¬ 4096 < x.length by omega)]
 simp only [Bool.false_or]
 exact decide_eq_decide.2 (by omega)
end Go.Proofs.Ytgcncphdjabjjaa.X
set_option linter.unusedSimpArgs false
set_option linter.unusedVariables false
namespace Go.Proofs.Ytgcncphdjabjjaa.X.Pure
open Go.RowKit Go.Proofs.Ytgcncphdjabjjaa.X Go.Proofs.YtgcncphdjabjjaaW.PrintWords Go.Proofs.YtgcncphdjabjjaaW.PrintLast
theorem FnExactMakeBackup : qae.Pure := by
 intro a b n l0 l1 _ ha _ hb _ hw0 hw1
 refine Ev.rounds (g := fun k => qae.f k a b n l0 l1) ?_
 unfold qae.f
 by_cases hk0 : (a.size : Int) > 1048576
 ·exact Ev.pos hk0 (Ev.is rfl)
 refine Ev.neg hk0 ?_
 by_cases hk1 : (b.size : Int) > 1048576
 ·exact Ev.pos hk1 (Ev.is rfl)
 refine Ev.neg hk1 ?_
 obtain ⟨r, hr, hq⟩ := qe7 l0 hw0 1048576 1048576 (by omega) (by omega) (by omega)
 refine Ev.bind hr ?_
 by_cases h : r < 0
 ·exact Ev.pos h (Ev.is rfl)
 refine Ev.neg h ?_
 obtain ⟨r1, hr1, hq1⟩ := qe7 l1 hw1 1048576 r (by omega) (hq (by omega)).1 (by omega)
 refine Ev.bind hr1 ?_
 by_cases h1 : r1 < 0
 ·exact Ev.pos h1 (Ev.is rfl)
 refine Ev.neg h1 ?_
 have hs0 := (hq (by omega)).2
 have hs1 := (hq1 (by omega)).2
 have t0 := qe6 l0 hs0
 have t1 := qe6 l1 hs1
 have n0 : (l0.map cv73).length ≤ 1048576 := by rw [List.length_map]; have := hs0.1; omega
 have n1 : (l1.map cv73).length ≤ 1048576 := by rw [List.length_map]; have := hs1.1; omega
 have hn := qeE a b n (l0.map cv73) (l1.map cv73)
 have e0 := qe8 (l0.map cv73) ⟨by omega, fun y _ => ⟨trivial, trivial⟩⟩
 have e1 := qe8 (l1.map cv73) ⟨by omega, fun y _ => ⟨trivial, trivial⟩⟩
 have iD := qf2 a b n (l0.map cv73) (l1.map cv73)
 have sD := qf3 a b n (l0.map cv73) (l1.map cv73)
 have m0 := qd7 (l0.map cv73) 1 (by omega) (by omega) (by omega)
 have m1 := qd7 (l1.map cv73) (1 + 2 * ((l0.map cv73).length : Int)) (by omega) (by omega) (by omega)
 generalize l0.map cv73 = x at *
 generalize l1.map cv73 = y at *
 generalize hR : makeR a b n x y = R at *
 obtain ⟨f0, f1, f2, f3, f4, c⟩ := R
 simp only at hn
 have eD := eq_DiffS f3 ⟨by omega, fun y _ => ⟨trivial, trivial, trivial, trivial, trivial⟩⟩
 have eR : Ev (fun k => qaO.f k f0 f1 f2 f3 f4 f0 f1 f2 f3 f4) true := by
  unfold qaO.f
  exact Ev.pos rfl (Ev.pos rfl (Ev.pos rfl (Ev.bind eD (Ev.pos rfl (Ev.pos rfl (Ev.is rfl))))))
 have mR : Ev (fun k => qbk.f k f0 f1 f2 f3 f4 1) (1 + 5 * (f3.length : Int), qbU f3 1) := by
  unfold qbk.f
  exact Ev.bind (qfm f3 1 (by omega) (by omega) (by omega)) (Ev.is rfl)
 have hH : Ev (fun k => qa9.f k f0 f1 f2 (qbU f3 1) f4 1) (1 + 5 * (f3.length : Int)) := by
  unfold qa9.f
  exact Ev.bind (qfn f3 1 (by omega) (by omega) (by omega)) (Ev.neg (by omega) (Ev.is rfl))
 have hj2 : Ev (fun k => qae.j2 k (1 + 5 * (f3.length : Int)) false f0 f1 f2 (qbU f3 1) f4) true := by
  refine Ev.succ ?_
  simp only [qae.j2]
  exact Ev.neg (by simp) (Ev.bind hH (Ev.neg (by omega) (Ev.pos rfl (Ev.is rfl))))
 have hj1 : Ev (fun k => qae.j1 k a b n l0 l1 c false f0 f1 f2 f3 f4 f0 f1 f2 f3 f4) true := by
  refine Ev.succ ?_
  simp only [qae.j1]
  refine Ev.neg (by simp) (Ev.bind mR (Ev.bind hH (Ev.neg (by omega) (Ev.pos rfl (Ev.bind t0 (Ev.bind t1 (Ev.bind iD (Ev.bind eR (Ev.pos rfl ?_)))))))))
  rw [bne_self_eq_false]
  exact hj2
 have hj0 : Ev (fun k => qae.j0 k a b n l0 l1 c x y c false f0 f1 f2 f3 f4 f0 f1 f2 f3 f4) true := by
  refine Ev.succ ?_
  simp only [qae.j0]
  refine Ev.neg (by simp) (Ev.bind t0 (Ev.bind e0 (Ev.pos rfl (Ev.bind t1 (Ev.bind e1 (Ev.pos rfl (Ev.bind m0 (Ev.bind m1 (Ev.neg (by simp only; omega) (Ev.bind eR (Ev.pos rfl ?_)))))))))))
  rw [bne_self_eq_false]
  exact hj1
 refine Ev.bind t0 (Ev.bind t1 (Ev.bind sD (Ev.bind t0 (Ev.bind t1 (Ev.bind iD (Ev.bind eR (Ev.pos rfl ?_)))))))
 simp only [bne_self_eq_false]
 exact hj0
end Go.Proofs.Ytgcncphdjabjjaa.X.Pure
namespace Go.Proofs.Ytgcncphdjabjjaa.fnExactMakeBackup
open Go.ChangeShapes Go.WideShapes Go.ChangeAt Go.RowKit Go.Proofs.Ytgcncphdjabjjaa.X Go.Proofs.YtgcncphdjabjjaaW.PrintWords
open Go.ChangeMaps (open_string shut_string)
set_option linter.unusedVariables false
theorem own : ownKnob Try.prog.godebug = none := by kernel_rfl
theorem laidOut : laidOutB Try.prog = true := by kernel_rfl
set_option maxRecDepth 100000 in
theorem lifted (os : Os) (started : os.Started) (H : Type) (enc : TypeId × Value → H) :
  ReturnsInHanded {} Try.checked os 8 .any (Rows.fnExactMakeBackupSpec.pre6 enc Try.prog Try.f8 Rows.fnExactMakeBackupRow.domain false) (Rows.fnExactMakeBackupSpec.post enc Try.prog Try.f8 false true false false) := by
 refine returnsInHanded_of_change_sized (C := Try.checked) own started (by kernel_rfl) Try.func8
  (ChangeSpec.witness6 (enc := enc) (C := Try.checked) false ⟨#[], #[.string ByteArray.empty, .string ByteArray.empty, .int .i64 0, .slice none 0 0, .slice none 0 0], []⟩ 8 (by kernel_rfl) (by kernel_rfl) (by kernel_rfl) (by kernel_rfl)) ?_
 intro W base args ds gs before hval0 hW hcnd hsz0 _
 have hsz : (DataW.weightsEach Try.prog (Try.f8.params.toList ++ Rows.fnExactMakeBackupSpec.plain.varTypes Try.prog) (ds ++ gs)).all (· ≤ reachBytes) = true := hsz0
 have hval : ∀ (j : Nat) t v, Try.f8.params[j]? = some t → args[j]? = some v → Value.okWide Try.prog W .any base t v := hval0
 have hW' := hW
 obtain ⟨p, q, hA0, hV, rfl, hfz, hnd⟩ := hW
 have hA : DataW.TrodAll enc Try.prog W 0 (fun _ => true) true Try.f8.params.toList args.toList ds p := hA0
 rw [Try.params8] at hA hval hsz
 obtain ⟨v0, vs0, d0, ds0, p0, q0, hargs, rfl, rfl, h0, r0⟩ := trodAll_cons hA
 obtain ⟨v1, vs1, d1, ds1, p1, q1, rfl, rfl, rfl, h1, r1⟩ := trodAll_cons r0
 obtain ⟨v2, vs2, d2, ds2, p2, q2, rfl, rfl, rfl, h2, r2⟩ := trodAll_cons r1
 obtain ⟨v3, vs3, d3, ds3, p3, q3, rfl, rfl, rfl, h3, r3⟩ := trodAll_cons r2
 obtain ⟨v4, vs4, d4, ds4, p4, q4, rfl, rfl, rfl, h4, r4⟩ := trodAll_cons r3
 obtain ⟨rfl, rfl, rfl⟩ := trodAll_nil r4
 obtain rfl : args = #[v0, v1, v2, v3, v4] := by cases args; simp_all
 obtain ⟨rfl, rfl⟩ := trodVars_none hV
 obtain ⟨a0, rfl, rfl, rfl, y0⟩ := open_string Try.underlying9 (hval 0 9 v0 rfl rfl) h0
 have w0 : a0.size ≤ 140737488351232 := by
  have z := sized_string hsz (j := 0) (t := 9) rfl rfl
  rw [Array.length_toList] at z
  exact z
 obtain ⟨a1, rfl, rfl, rfl, y1⟩ := open_string Try.underlying9 (hval 1 9 v1 rfl rfl) h1
 have w1 : a1.size ≤ 140737488351232 := by
  have z := sized_string hsz (j := 1) (t := 9) rfl rfl
  rw [Array.length_toList] at z
  exact z
 obtain ⟨a2, rfl, rfl, rfl, w2⟩ := open_int Try.underlying3 (hval 2 3 v2 rfl rfl) h2
 have k3 := h3
 have lt3 : ∀ x ∈ p3, x.block < W.heap.size := by obtain ⟨m, hm⟩ := k3; exact DataW.trod_lt m _ _ _ hm
 obtain ⟨A3, len3, c3, rfl⟩ := okWide_slice Try.underlying22 (hval 3 22 v3 rfl rfl)
 obtain ⟨l3, rfl, hc3, hr3, hw3⟩ := Opens.qew opens22 h3
 have k4 := h4
 have lt4 : ∀ x ∈ p4, x.block < W.heap.size := by obtain ⟨m, hm⟩ := k4; exact DataW.trod_lt m _ _ _ hm
 obtain ⟨A4, len4, c4, rfl⟩ := okWide_slice Try.underlying22 (hval 4 22 v4 rfl rfl)
 obtain ⟨l4, rfl, hc4, hr4, hw4⟩ := Opens.qew opens22 h4
 clear hA0 hval0 hsz0 hsz
 obtain ⟨k, hP⟩ := X.Pure.FnExactMakeBackup a0 a1 a2 l3 l4 y0 w0 y1 w1 w2 hw3 hw4
 refine (qae.calls k a0 a1 a2 A3 c3 l3 A4 c4 l4 true W hr3 hc3 hr4 hc4 hP).mono fun e W' hQ => ?_
 obtain ⟨he, bel0⟩ := hQ
 subst he
 have bel : Below W.heap.size W W' := bel0
 exact ⟨_, rfl, _, _, _, [], _, [], hW', trodAll_mk1 (shut_bool Try.underlying4 _), (trodAll_cons_mk (shut_string Try.underlying9 y0) (trodAll_cons_mk (shut_string Try.underlying9 y1) (trodAll_cons_mk (shut_int Try.underlying3 w2) (trodAll_cons_mk (Below.trod laidOut (by kernel_rfl) (of_decide_eq_true (by kernel_rfl)) k3 bel lt3) (trodAll_cons_mk (Below.trod laidOut (by kernel_rfl) (of_decide_eq_true (by kernel_rfl)) k4 bel lt4) trodAll_mk0))))), rfl, bel.frame _, fun h => by cases h⟩
theorem over : Rows.fnExactMakeBackupRow.holds Try.pinned (OpenSpec.ofChange Rows.fnExactMakeBackupSpec) :=
 OpenClaim.holds_of_wide 8 Try.f8 rfl rfl rfl rfl rfl rfl rfl ⟨rfl, rfl, rfl, rfl, rfl⟩ rfl rfl rfl rfl rfl (by kernel_rfl) Try.func8 (by kernel_rfl)
  (of_decide_eq_true (by kernel_rfl)) (by unfold Func.isWrapper; first | (rw [if_pos (by decide +kernel)]; kernel_rfl) | (rw [if_neg (by decide +kernel)]; exact ⟨rfl, rfl⟩))
  (fun os started H enc _ => lifted os started H enc)
theorem proved : Rows.FnExactMakeBackupSaid := over
end Go.Proofs.Ytgcncphdjabjjaa.fnExactMakeBackup
namespace Go.Proofs.Ytgcncphdjabjjaa
theorem fnExactMakeBackup_holds : Rows.FnExactMakeBackupSaid := fnExactMakeBackup.proved
end Go.Proofs.Ytgcncphdjabjjaa
