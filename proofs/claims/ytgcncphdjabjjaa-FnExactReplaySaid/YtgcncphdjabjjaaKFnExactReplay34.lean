import Derived.Test.YtgcncphdjabjjaaKFnExactReplay3
import Derived.Test.YtgcncphdjabjjaaKFnExactReplay33
import Derived.Test.YtgcncphdjabjjaaRows
import Derived.WalkKit
import Derived.ProofKit
import Derived.OpenShut
import Derived.ShutString
import Derived.ChangeOld
import Derived.Below
import Derived.SizedLaws
namespace Go.Proofs.Ytgcncphdjabjjaa.X
open Go.RowKit Go.Proofs.YtgcncphdjabjjaaW.PrintWords Go.Proofs.YtgcncphdjabjjaaW.PrintLast Go.Proofs.YtgcncphdjabjjaaW.PrintMore
attribute [local go_sem] qaC qaD qaE qay qaz qaN qaO qat qau qaA qaB
set_option linter.unusedVariables false
set_option linter.unusedSimpArgs false
theorem qeK : Opens Try.prog 9 Kd.string (fun x => x.size ≤ maxLen) := Opens.string_ Try.underlying9 (by kernel_rfl)
def wf73 (x : S73) : Prop := x.f0.size ≤ maxLen ∧ x.f1.size ≤ maxLen
set_option maxRecDepth 100000 in
theorem opens73 : Opens Try.prog 73 k73 wf73 := by
 refine ⟨by kernel_rfl, fun {H enc w base spare held fuel cs x} h => ?_⟩
 obtain ⟨xs, n, _, _, hl, hlen, hf⟩ := DataW.trod_struct Try.underlying73 h
 have hl' : cs.length = 2 := hl.trans (by kernel_rfl)
 match cs, hl', xs, hlen with
 | [c0, c1], _, [y0, y1], _ =>
  obtain ⟨v0, g0, w0⟩ := qeK.2 (by simpa [show Try.prog.cellsOf 9 = 1 from by kernel_rfl] using hf 0 _ rfl)
  obtain ⟨v1, g1, w1⟩ := qeK.2 (by simpa [show Try.prog.cellsOf 9 = 1 from by kernel_rfl] using hf 1 _ rfl)
  exact ⟨(⟨v0, v1⟩ : S73), ⟨[c0], [c1], rfl, g0, g1⟩, ⟨w0, w1⟩⟩
def wfL73 (xs : List (S73)) : Prop := xs.length ≤ maxLen ∧ ∀ x ∈ xs, wf73 x
theorem opens22 : Opens Try.prog 22 (Kd.slice 73 k73) wfL73 := Opens.qhf Try.underlying22 (by kernel_rfl) opens73
theorem opens3 : Opens Try.prog 3 (Kd.int .i64) (fun x => (Lit.int .i64 x).wf = true) := Opens.int_ Try.underlying3 (by kernel_rfl)
theorem opens4 : Opens Try.prog 4 Kd.bool (fun _ => True) := Opens.bool_ Try.underlying4 (by kernel_rfl)
def wf85 (x : S85) : Prop := x.f0.size ≤ maxLen ∧ x.f1.size ≤ maxLen ∧ x.f2.size ≤ maxLen ∧ True ∧ True
set_option maxRecDepth 100000 in
theorem opens85 : Opens Try.prog 85 k85 wf85 := by
 refine ⟨by kernel_rfl, fun {H enc w base spare held fuel cs x} h => ?_⟩
 obtain ⟨xs, n, _, _, hl, hlen, hf⟩ := DataW.trod_struct Try.underlying85 h
 have hl' : cs.length = 5 := hl.trans (by kernel_rfl)
 match cs, hl', xs, hlen with
 | [c0, c1, c2, c3, c4], _, [y0, y1, y2, y3, y4], _ =>
  obtain ⟨v0, g0, w0⟩ := qeK.2 (by simpa [show Try.prog.cellsOf 9 = 1 from by kernel_rfl] using hf 0 _ rfl)
  obtain ⟨v1, g1, w1⟩ := qeK.2 (by simpa [show Try.prog.cellsOf 9 = 1 from by kernel_rfl] using hf 1 _ rfl)
  obtain ⟨v2, g2, w2⟩ := qeK.2 (by simpa [show Try.prog.cellsOf 9 = 1 from by kernel_rfl] using hf 2 _ rfl)
  obtain ⟨v3, g3, w3⟩ := opens4.2 (by simpa [show Try.prog.cellsOf 4 = 1 from by kernel_rfl] using hf 3 _ rfl)
  obtain ⟨v4, g4, w4⟩ := opens4.2 (by simpa [show Try.prog.cellsOf 4 = 1 from by kernel_rfl] using hf 4 _ rfl)
  exact ⟨(⟨v0, v1, v2, v3, v4⟩ : S85), ⟨[c0], [c1, c2, c3, c4], rfl, g0, ⟨[c1], [c2, c3, c4], rfl, g1, ⟨[c2], [c3, c4], rfl, g2, ⟨[c3], [c4], rfl, g3, g4⟩⟩⟩⟩, ⟨w0, w1, w2, w3, w4⟩⟩
def wfL85 (xs : List (S85)) : Prop := xs.length ≤ maxLen ∧ ∀ x ∈ xs, wf85 x
theorem opens37 : Opens Try.prog 37 (Kd.slice 85 k85) wfL85 := Opens.qhf Try.underlying37 (by kernel_rfl) opens85
def wf44 (x : S44) : Prop := x.f0.size ≤ maxLen ∧ x.f1.size ≤ maxLen ∧ (Lit.int .i64 x.f2).wf = true ∧ wfL85 x.f3 ∧ (Lit.int .i64 x.f4).wf = true
set_option maxRecDepth 100000 in
theorem opens44 : Opens Try.prog 44 k44 wf44 := by
 refine ⟨by kernel_rfl, fun {H enc w base spare held fuel cs x} h => ?_⟩
 obtain ⟨xs, n, _, _, hl, hlen, hf⟩ := DataW.trod_struct Try.underlying44 h
 have hl' : cs.length = 5 := hl.trans (by kernel_rfl)
 match cs, hl', xs, hlen with
 | [c0, c1, c2, c3, c4], _, [y0, y1, y2, y3, y4], _ =>
  obtain ⟨v0, g0, w0⟩ := qeK.2 (by simpa [show Try.prog.cellsOf 9 = 1 from by kernel_rfl] using hf 0 _ rfl)
  obtain ⟨v1, g1, w1⟩ := qeK.2 (by simpa [show Try.prog.cellsOf 9 = 1 from by kernel_rfl] using hf 1 _ rfl)
  obtain ⟨v2, g2, w2⟩ := opens3.2 (by simpa [show Try.prog.cellsOf 3 = 1 from by kernel_rfl] using hf 2 _ rfl)
  obtain ⟨v3, g3, w3⟩ := opens37.2 (by simpa [show Try.prog.cellsOf 37 = 1 from by kernel_rfl] using hf 3 _ rfl)
  obtain ⟨v4, g4, w4⟩ := opens3.2 (by simpa [show Try.prog.cellsOf 3 = 1 from by kernel_rfl] using hf 4 _ rfl)
  exact ⟨(⟨v0, v1, v2, v3, v4⟩ : S44), ⟨[c0], [c1, c2, c3, c4], rfl, g0, ⟨[c1], [c2, c3, c4], rfl, g1, ⟨[c2], [c3, c4], rfl, g2, ⟨[c3], [c4], rfl, g3, g4⟩⟩⟩⟩, ⟨w0, w1, w2, w3, w4⟩⟩
def qbF.Pure : Prop := ∀ (l0 : List (S73)) (a1 : ByteArray) (a2 : Int) (a3_0 : ByteArray) (a3_1 : ByteArray) (a3_2 : Int) (l3_3 : List (S85)) (a3_4 : Int), (wfL73 l0) → (a1.size ≤ maxLen) → a1.size ≤ 140737488351232 → ((Lit.int .i64 a2).wf = true) → (a3_0.size ≤ maxLen) → (a3_1.size ≤ maxLen) → ((Lit.int .i64 a3_2).wf = true) → (wfL85 l3_3) → ((Lit.int .i64 a3_4).wf = true) → qbF.f l0 a1 a2 a3_0 a3_1 a3_2 l3_3 a3_4 = some true
end Go.Proofs.Ytgcncphdjabjjaa.X
set_option linter.unusedSimpArgs false
set_option linter.unusedVariables false
namespace Go.Proofs.Ytgcncphdjabjjaa.X.Pure
open Go.RowKit Go.Proofs.Ytgcncphdjabjjaa.X Go.Proofs.YtgcncphdjabjjaaW.PrintWords Go.Proofs.YtgcncphdjabjjaaW.PrintLast
theorem FnExactReplay : qbF.Pure := by
 intro l0 last chain a b n l3 s hw0 _ _ _ ha hb _ hw3 _
 unfold qbF.f
 rw [if_pos ⟨hw0, ha, hb, trivial, ⟨hw3.1, fun y hy => ⟨(hw3.2 y hy).1, (hw3.2 y hy).2.1, (hw3.2 y hy).2.2.1, trivial, trivial⟩⟩, trivial⟩]
end Go.Proofs.Ytgcncphdjabjjaa.X.Pure
namespace Go.Proofs.Ytgcncphdjabjjaa.fnExactReplay
open Go.ChangeShapes Go.WideShapes Go.ChangeAt Go.RowKit Go.Proofs.Ytgcncphdjabjjaa.X Go.Proofs.YtgcncphdjabjjaaW.PrintWords
open Go.ChangeMaps (open_string shut_string)
set_option linter.unusedVariables false
theorem own : ownKnob Try.prog.godebug = none := by kernel_rfl
theorem laidOut : laidOutB Try.prog = true := by kernel_rfl
set_option maxRecDepth 100000 in
theorem lifted (os : Os) (started : os.Started) (H : Type) (enc : TypeId × Value → H) :
  ReturnsInHanded {} Try.checked os 9 .any (Rows.fnExactReplaySpec.pre6 enc Try.prog Try.f9 Rows.fnExactReplayRow.domain false) (Rows.fnExactReplaySpec.post enc Try.prog Try.f9 false true false false) := by
 refine returnsInHanded_of_change_sized (C := Try.checked) own started (by kernel_rfl) Try.func9
  (ChangeSpec.witness6 (enc := enc) (C := Try.checked) false ⟨#[], #[.slice none 0 0, .string ByteArray.empty, .int .i64 0, .agg #[.string ByteArray.empty, .string ByteArray.empty, .int .i64 0, .slice none 0 0, .int .i64 0]], []⟩ 8 (by kernel_rfl) (by kernel_rfl) (by kernel_rfl) (by kernel_rfl)) ?_
 intro W base args ds gs before hval0 hW hcnd hsz0 _
 have hsz : (DataW.weightsEach Try.prog (Try.f9.params.toList ++ Rows.fnExactReplaySpec.plain.varTypes Try.prog) (ds ++ gs)).all (· ≤ reachBytes) = true := hsz0
 have hval : ∀ (j : Nat) t v, Try.f9.params[j]? = some t → args[j]? = some v → Value.okWide Try.prog W .any base t v := hval0
 have hW' := hW
 obtain ⟨p, q, hA0, hV, rfl, hfz, hnd⟩ := hW
 have hA : DataW.TrodAll enc Try.prog W 0 (fun _ => true) true Try.f9.params.toList args.toList ds p := hA0
 rw [Try.params9] at hA hval hsz
 obtain ⟨v0, vs0, d0, ds0, p0, q0, hargs, rfl, rfl, h0, r0⟩ := trodAll_cons hA
 obtain ⟨v1, vs1, d1, ds1, p1, q1, rfl, rfl, rfl, h1, r1⟩ := trodAll_cons r0
 obtain ⟨v2, vs2, d2, ds2, p2, q2, rfl, rfl, rfl, h2, r2⟩ := trodAll_cons r1
 obtain ⟨v3, vs3, d3, ds3, p3, q3, rfl, rfl, rfl, h3, r3⟩ := trodAll_cons r2
 obtain ⟨rfl, rfl, rfl⟩ := trodAll_nil r3
 obtain rfl : args = #[v0, v1, v2, v3] := by cases args; simp_all
 obtain ⟨rfl, rfl⟩ := trodVars_none hV
 have k0 := h0
 have lt0 : ∀ x ∈ p0, x.block < W.heap.size := by obtain ⟨m, hm⟩ := k0; exact DataW.trod_lt m _ _ _ hm
 obtain ⟨A0, len0, c0, rfl⟩ := okWide_slice Try.underlying22 (hval 0 22 v0 rfl rfl)
 obtain ⟨l0, rfl, hc0, hr0, hw0⟩ := Opens.qhA opens22 h0
 obtain ⟨a1, rfl, rfl, rfl, y1⟩ := open_string Try.underlying9 (hval 1 9 v1 rfl rfl) h1
 have w1 : a1.size ≤ 140737488351232 := by
  have z := sized_string hsz (j := 1) (t := 9) rfl rfl
  rw [Array.length_toList] at z
  exact z
 obtain ⟨a2, rfl, rfl, rfl, w2⟩ := open_int Try.underlying3 (hval 2 3 v2 rfl rfl) h2
 have k3 := h3
 have lt3 : ∀ x ∈ p3, x.block < W.heap.size := by obtain ⟨m, hm⟩ := k3; exact DataW.trod_lt m _ _ _ hm
 obtain ⟨x3, cs3, rfl, hK3, hw3⟩ := Opens.agg_arg opens44 Try.underlying44 (hval 3 44 v3 rfl rfl) h3
 obtain ⟨A3_3, c3_3, rfl, hc3_3, hr3_3⟩ := k44_open hK3
 obtain ⟨a3_0, a3_1, a3_2, l3_3, a3_4⟩ := x3
 clear hA0 hval0 hsz0 hsz
 have hP := X.Pure.FnExactReplay l0 a1 a2 a3_0 a3_1 a3_2 l3_3 a3_4 hw0 y1 w1 w2 hw3.1 hw3.2.1 hw3.2.2.1 hw3.2.2.2.1 hw3.2.2.2.2
 refine (qbF.calls A0 c0 l0 a1 a2 a3_0 a3_1 a3_2 A3_3 c3_3 l3_3 a3_4 true W hr0 hc0 hr3_3 hc3_3 hP).mono fun e W' hQ => ?_
 obtain ⟨he, bel0⟩ := hQ
 subst he
 have bel : Below W.heap.size W W' := bel0
 exact ⟨_, rfl, _, _, _, [], _, [], hW', trodAll_mk1 (shut_bool Try.underlying4 _), (trodAll_cons_mk (Below.trod laidOut (by kernel_rfl) (of_decide_eq_true (by kernel_rfl)) k0 bel lt0) (trodAll_cons_mk (shut_string Try.underlying9 y1) (trodAll_cons_mk (shut_int Try.underlying3 w2) (trodAll_cons_mk (Below.trod laidOut (by kernel_rfl) (of_decide_eq_true (by kernel_rfl)) k3 bel lt3) trodAll_mk0)))), rfl, bel.frame _, fun h => by cases h⟩
theorem over : Rows.fnExactReplayRow.holds Try.pinned (OpenSpec.ofChange Rows.fnExactReplaySpec) :=
 OpenClaim.holds_of_wide 9 Try.f9 rfl rfl rfl rfl rfl rfl rfl ⟨rfl, rfl, rfl, rfl, rfl⟩ rfl rfl rfl rfl rfl (by kernel_rfl) Try.func9 (by kernel_rfl)
  (of_decide_eq_true (by kernel_rfl)) (by unfold Func.isWrapper; first | (rw [if_pos (by decide +kernel)]; kernel_rfl) | (rw [if_neg (by decide +kernel)]; exact ⟨rfl, rfl⟩))
  (fun os started H enc _ => lifted os started H enc)
theorem proved : Rows.FnExactReplaySaid := over
end Go.Proofs.Ytgcncphdjabjjaa.fnExactReplay
namespace Go.Proofs.Ytgcncphdjabjjaa
theorem fnExactReplay_holds : Rows.FnExactReplaySaid := fnExactReplay.proved
end Go.Proofs.Ytgcncphdjabjjaa
