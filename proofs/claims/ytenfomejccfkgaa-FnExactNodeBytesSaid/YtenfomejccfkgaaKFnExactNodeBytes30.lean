import Derived.Test.YtenfomejccfkgaaKFnExactNodeBytes3
import Derived.Test.YtenfomejccfkgaaKFnExactNodeBytes29
import Derived.Test.YtenfomejccfkgaaRows
import Derived.WalkKit
import Derived.ProofKit
import Derived.OpenShut
import Derived.ShutString
import Derived.ChangeOld
import Derived.Below
import Derived.SizedLaws
namespace Go.Proofs.Ytenfomejccfkgaa.X
open Go.RowKit Go.Proofs.YtenfomejccfkgaaW.PrintWords Go.Proofs.YtenfomejccfkgaaW.PrintLast Go.Proofs.YtenfomejccfkgaaW.PrintMore
attribute [local go_sem] qaE qaF qaG qaz qaA qaS qaT qau qav qaB qaC
set_option linter.unusedVariables false
set_option linter.unusedSimpArgs false
theorem opens4 : Opens Try.prog 4 Kd.bool (fun _ => True) := Opens.bool_ Try.underlying4 (by kernel_rfl)
theorem qgM : Opens Try.prog 9 Kd.string (fun x => x.size ≤ maxLen) := Opens.string_ Try.underlying9 (by kernel_rfl)
def wf159 (x : S159) : Prop := x.f0.size ≤ maxLen ∧ x.f1.size ≤ maxLen
set_option maxRecDepth 100000 in
theorem opens159 : Opens Try.prog 159 k159 wf159 := by
 refine ⟨by kernel_rfl, fun {H enc w base spare held fuel cs x} h => ?_⟩
 obtain ⟨xs, n, _, _, hl, hlen, hf⟩ := DataW.trod_struct Try.underlying159 h
 have hl' : cs.length = 2 := hl.trans (by kernel_rfl)
 match cs, hl', xs, hlen with
 | [c0, c1], _, [y0, y1], _ =>
  obtain ⟨v0, g0, w0⟩ := qgM.2 (by simpa [show Try.prog.cellsOf 9 = 1 from by kernel_rfl] using hf 0 _ rfl)
  obtain ⟨v1, g1, w1⟩ := qgM.2 (by simpa [show Try.prog.cellsOf 9 = 1 from by kernel_rfl] using hf 1 _ rfl)
  exact ⟨(⟨v0, v1⟩ : S159), ⟨[c0], [c1], rfl, g0, g1⟩, ⟨w0, w1⟩⟩
def qgN (xs : List (S159)) : Prop := xs.length ≤ maxLen ∧ ∀ x ∈ xs, wf159 x
theorem opens47 : Opens Try.prog 47 (Kd.slice 159 k159) qgN := Opens.qfu Try.underlying47 (by kernel_rfl) opens159
def wfL9 (xs : List ByteArray) : Prop := xs.length ≤ maxLen ∧ ∀ x ∈ xs, x.size ≤ maxLen
theorem opens48 : Opens Try.prog 48 (Kd.slice 9 Kd.string) wfL9 := Opens.qfu Try.underlying48 (by kernel_rfl) qgM
theorem opens3 : Opens Try.prog 3 (Kd.int .i64) (fun x => (Lit.int .i64 x).wf = true) := Opens.int_ Try.underlying3 (by kernel_rfl)
def wfL3 (xs : List Int) : Prop := xs.length ≤ maxLen ∧ ∀ x ∈ xs, (Lit.int .i64 x).wf = true
theorem opens42 : Opens Try.prog 42 (Kd.slice 3 (Kd.int .i64)) wfL3 := Opens.qfu Try.underlying42 (by kernel_rfl) opens3
def wf50 (x : S50) : Prop := True ∧ qgN x.f1 ∧ wfL9 x.f2 ∧ wfL3 x.f3
set_option maxRecDepth 100000 in
theorem opens50 : Opens Try.prog 50 k50 wf50 := by
 refine ⟨by kernel_rfl, fun {H enc w base spare held fuel cs x} h => ?_⟩
 obtain ⟨xs, n, _, _, hl, hlen, hf⟩ := DataW.trod_struct Try.underlying50 h
 have hl' : cs.length = 4 := hl.trans (by kernel_rfl)
 match cs, hl', xs, hlen with
 | [c0, c1, c2, c3], _, [y0, y1, y2, y3], _ =>
  obtain ⟨v0, g0, w0⟩ := opens4.2 (by simpa [show Try.prog.cellsOf 4 = 1 from by kernel_rfl] using hf 0 _ rfl)
  obtain ⟨v1, g1, w1⟩ := opens47.2 (by simpa [show Try.prog.cellsOf 47 = 1 from by kernel_rfl] using hf 1 _ rfl)
  obtain ⟨v2, g2, w2⟩ := opens48.2 (by simpa [show Try.prog.cellsOf 48 = 1 from by kernel_rfl] using hf 2 _ rfl)
  obtain ⟨v3, g3, w3⟩ := opens42.2 (by simpa [show Try.prog.cellsOf 42 = 1 from by kernel_rfl] using hf 3 _ rfl)
  exact ⟨(⟨v0, v1, v2, v3⟩ : S50), ⟨[c0], [c1, c2, c3], rfl, g0, ⟨[c1], [c2, c3], rfl, g1, ⟨[c2], [c3], rfl, g2, g3⟩⟩⟩, ⟨w0, w1, w2, w3⟩⟩
def qbo.Pure : Prop := ∀ (a0_0 : Bool) (l0_1 : List (S159)) (l0_2 : List ByteArray) (l0_3 : List Int), (True) → (qgN l0_1) → (wfL9 l0_2) → (wfL3 l0_3) → qbo.f a0_0 l0_1 l0_2 l0_3 = some true
end Go.Proofs.Ytenfomejccfkgaa.X
set_option linter.unusedSimpArgs false
set_option linter.unusedVariables false
namespace Go.Proofs.Ytenfomejccfkgaa.X.Pure
open Go.RowKit Go.Proofs.Ytenfomejccfkgaa.X Go.Proofs.YtenfomejccfkgaaW.PrintWords Go.Proofs.YtenfomejccfkgaaW.PrintLast
theorem FnExactNodeBytes : qbo.Pure := by
 intro b l1 l2 l3 _ h1 h2 h3
 unfold qbo.f
 exact if_pos ⟨trivial, h1, h2, h3.1⟩
end Go.Proofs.Ytenfomejccfkgaa.X.Pure
namespace Go.Proofs.Ytenfomejccfkgaa.fnExactNodeBytes
open Go.ChangeShapes Go.WideShapes Go.ChangeAt Go.RowKit Go.Proofs.Ytenfomejccfkgaa.X Go.Proofs.YtenfomejccfkgaaW.PrintWords
open Go.ChangeMaps (open_string shut_string)
set_option linter.unusedVariables false
theorem own : ownKnob Try.prog.godebug = none := by kernel_rfl
theorem laidOut : laidOutB Try.prog = true := by kernel_rfl
set_option maxRecDepth 100000 in
theorem lifted (os : Os) (started : os.Started) (H : Type) (enc : TypeId × Value → H) :
  ReturnsInHanded {} Try.checked os 7 .any (Rows.fnExactNodeBytesSpec.pre6 enc Try.prog Try.f7 Rows.fnExactNodeBytesRow.domain false) (Rows.fnExactNodeBytesSpec.post enc Try.prog Try.f7 false true false false) := by
 refine returnsInHanded_of_change_sized (C := Try.checked) own started (by kernel_rfl) Try.func7
  (ChangeSpec.witness6 (enc := enc) (C := Try.checked) false ⟨#[], #[.agg #[.bool false, .slice none 0 0, .slice none 0 0, .slice none 0 0]], []⟩ 8 (by kernel_rfl) (by kernel_rfl) (by kernel_rfl) (by kernel_rfl)) ?_
 intro W base args ds gs before hval0 hW hcnd hsz0 _
 have hsz : (DataW.weightsEach Try.prog (Try.f7.params.toList ++ Rows.fnExactNodeBytesSpec.plain.varTypes Try.prog) (ds ++ gs)).all (· ≤ reachBytes) = true := hsz0
 have hval : ∀ (j : Nat) t v, Try.f7.params[j]? = some t → args[j]? = some v → Value.okWide Try.prog W .any base t v := hval0
 have hW' := hW
 obtain ⟨p, q, hA0, hV, rfl, hfz, hnd⟩ := hW
 have hA : DataW.TrodAll enc Try.prog W 0 (fun _ => true) true Try.f7.params.toList args.toList ds p := hA0
 rw [Try.params7] at hA hval hsz
 obtain ⟨v0, vs0, d0, ds0, p0, q0, hargs, rfl, rfl, h0, r0⟩ := trodAll_cons hA
 obtain ⟨rfl, rfl, rfl⟩ := trodAll_nil r0
 obtain rfl : args = #[v0] := by cases args; simp_all
 obtain ⟨rfl, rfl⟩ := trodVars_none hV
 have k0 := h0
 have lt0 : ∀ x ∈ p0, x.block < W.heap.size := by obtain ⟨m, hm⟩ := k0; exact DataW.trod_lt m _ _ _ hm
 obtain ⟨x0, cs0, rfl, hK0, hw0⟩ := Opens.agg_arg opens50 Try.underlying50 (hval 0 50 v0 rfl rfl) h0
 obtain ⟨A0_1, c0_1, A0_2, c0_2, A0_3, c0_3, rfl, hc0_1, hr0_1, hc0_2, hr0_2, hc0_3, hr0_3⟩ := k50_open hK0
 obtain ⟨a0_0, l0_1, l0_2, l0_3⟩ := x0
 clear hA0 hval0 hsz0 hsz
 have hP := X.Pure.FnExactNodeBytes a0_0 l0_1 l0_2 l0_3 hw0.1 hw0.2.1 hw0.2.2.1 hw0.2.2.2
 refine (qbo.calls a0_0 A0_1 c0_1 l0_1 A0_2 c0_2 l0_2 A0_3 c0_3 l0_3 true W hr0_1 hc0_1 hr0_2 hc0_2 hr0_3 hc0_3 hP).mono fun e W' hQ => ?_
 obtain ⟨he, bel0⟩ := hQ
 subst he
 have bel : Below W.heap.size W W' := bel0
 exact ⟨_, rfl, _, _, _, [], _, [], hW', trodAll_mk1 (shut_bool Try.underlying4 _), (trodAll_cons_mk (Below.trod laidOut (by kernel_rfl) (of_decide_eq_true (by kernel_rfl)) k0 bel lt0) trodAll_mk0), rfl, bel.frame _, fun h => by cases h⟩
theorem over : Rows.fnExactNodeBytesRow.holds Try.pinned (OpenSpec.ofChange Rows.fnExactNodeBytesSpec) :=
 OpenClaim.holds_of_wide 7 Try.f7 rfl rfl rfl rfl rfl rfl rfl ⟨rfl, rfl, rfl, rfl, rfl⟩ rfl rfl rfl rfl rfl (by kernel_rfl) Try.func7 (by kernel_rfl)
  (of_decide_eq_true (by kernel_rfl)) (by unfold Func.isWrapper; first | (rw [if_pos (by decide +kernel)]; kernel_rfl) | (rw [if_neg (by decide +kernel)]; exact ⟨rfl, rfl⟩))
  (fun os started H enc _ => lifted os started H enc)
theorem proved : Rows.FnExactNodeBytesSaid := over
end Go.Proofs.Ytenfomejccfkgaa.fnExactNodeBytes
namespace Go.Proofs.Ytenfomejccfkgaa
theorem fnExactNodeBytes_holds : Rows.FnExactNodeBytesSaid := fnExactNodeBytes.proved
end Go.Proofs.Ytenfomejccfkgaa
