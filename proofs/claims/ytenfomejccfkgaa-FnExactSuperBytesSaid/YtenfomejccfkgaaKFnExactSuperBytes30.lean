import Derived.Test.YtenfomejccfkgaaKFnExactSuperBytes4
import Derived.Test.YtenfomejccfkgaaKFnExactSuperBytes29
import Derived.Test.YtenfomejccfkgaaRows
import Derived.WalkKit
import Derived.ProofKit
import Derived.OpenShut
import Derived.ShutString
import Derived.ChangeOld
import Derived.Below
import Derived.SizedLaws
namespace Go.Proofs.Ytenfomejccfkgaa.X
open Go.RowKit Go.Proofs.YtenfomejccfkgaaW.PrintWords Go.Proofs.YtenfomejccfkgaaW.PrintLast Go.Proofs.YtenfomejccfkgaaW.PrintMore
attribute [local go_sem] xbin_geq xbin_leq xbin_gtr max2_int min2_int max_two min_two max_three min_three max_four min_four
set_option linter.unusedVariables false
set_option linter.unusedSimpArgs false
theorem opens3 : Opens Try.prog 3 (Kd.int .i64) (fun x => (Lit.int .i64 x).wf = true) := Opens.int_ Try.underlying3 (by kernel_rfl)
theorem opens9 : Opens Try.prog 9 Kd.string (fun x => x.size ≤ maxLen) := Opens.string_ Try.underlying9 (by kernel_rfl)
def wf191 (x : S191) : Prop := x.f0.size ≤ maxLen ∧ (Lit.int .i64 x.f1).wf = true ∧ (Lit.int .i64 x.f2).wf = true
set_option maxRecDepth 100000 in
theorem opens191 : Opens Try.prog 191 k191 wf191 := by
  refine ⟨by kernel_rfl, fun {H enc w base spare held fuel cs x} h => ?_⟩
  obtain ⟨xs, n, _, _, hl, hlen, hf⟩ := DataW.trod_struct Try.underlying191 h
  have hl' : cs.length = 3 := hl.trans (by kernel_rfl)
  match cs, hl', xs, hlen with
  | [c0, c1, c2], _, [y0, y1, y2], _ =>
    obtain ⟨v0, g0, w0⟩ := opens9.2 (by simpa [show Try.prog.cellsOf 9 = 1 from by kernel_rfl] using hf 0 _ rfl)
    obtain ⟨v1, g1, w1⟩ := opens3.2 (by simpa [show Try.prog.cellsOf 3 = 1 from by kernel_rfl] using hf 1 _ rfl)
    obtain ⟨v2, g2, w2⟩ := opens3.2 (by simpa [show Try.prog.cellsOf 3 = 1 from by kernel_rfl] using hf 2 _ rfl)
    exact ⟨(⟨v0, v1, v2⟩ : S191), ⟨[c0], [c1, c2], rfl, g0, ⟨[c1], [c2], rfl, g1, g2⟩⟩, ⟨w0, w1, w2⟩⟩
def wfL191 (xs : List (S191)) : Prop := xs.length ≤ maxLen ∧ ∀ x ∈ xs, wf191 x
theorem opens76 : Opens Try.prog 76 (Kd.slice 191 k191) wfL191 := Opens.slice_ Try.underlying76 (by kernel_rfl) opens191
def wf78 (x : S78) : Prop := (Lit.int .i64 x.f0).wf = true ∧ (Lit.int .i64 x.f1).wf = true ∧ wfL191 x.f2
set_option maxRecDepth 100000 in
theorem opens78 : Opens Try.prog 78 k78 wf78 := by
  refine ⟨by kernel_rfl, fun {H enc w base spare held fuel cs x} h => ?_⟩
  obtain ⟨xs, n, _, _, hl, hlen, hf⟩ := DataW.trod_struct Try.underlying78 h
  have hl' : cs.length = 3 := hl.trans (by kernel_rfl)
  match cs, hl', xs, hlen with
  | [c0, c1, c2], _, [y0, y1, y2], _ =>
    obtain ⟨v0, g0, w0⟩ := opens3.2 (by simpa [show Try.prog.cellsOf 3 = 1 from by kernel_rfl] using hf 0 _ rfl)
    obtain ⟨v1, g1, w1⟩ := opens3.2 (by simpa [show Try.prog.cellsOf 3 = 1 from by kernel_rfl] using hf 1 _ rfl)
    obtain ⟨v2, g2, w2⟩ := opens76.2 (by simpa [show Try.prog.cellsOf 76 = 1 from by kernel_rfl] using hf 2 _ rfl)
    exact ⟨(⟨v0, v1, v2⟩ : S78), ⟨[c0], [c1, c2], rfl, g0, ⟨[c1], [c2], rfl, g1, g2⟩⟩, ⟨w0, w1, w2⟩⟩
def laws_FnExactSuperBytes.Pure : Prop := ∀ (a0_0 : Int) (a0_1 : Int) (l0_2 : List (S191)), ((Lit.int .i64 a0_0).wf = true) → ((Lit.int .i64 a0_1).wf = true) → (wfL191 l0_2) → laws_FnExactSuperBytes.f a0_0 a0_1 l0_2 = some true
end Go.Proofs.Ytenfomejccfkgaa.X
set_option linter.unusedSimpArgs false
set_option linter.unusedVariables false
namespace Go.Proofs.Ytenfomejccfkgaa.X.Pure
open Go.RowKit Go.Proofs.Ytenfomejccfkgaa.X Go.Proofs.YtenfomejccfkgaaW.PrintWords Go.Proofs.YtenfomejccfkgaaW.PrintLast
theorem FnExactSuperBytes : laws_FnExactSuperBytes.Pure := by
  intro a b l _ hb hl
  unfold laws_FnExactSuperBytes.f
  exact if_pos ⟨⟨trivial, trivial, hl.1, fun y hy => ⟨(hl.2 y hy).1, trivial, trivial⟩⟩, wf_i64 hb⟩
end Go.Proofs.Ytenfomejccfkgaa.X.Pure
namespace Go.Proofs.Ytenfomejccfkgaa.fnExactSuperBytes
open Go.ChangeShapes Go.WideShapes Go.ChangeAt Go.RowKit Go.Proofs.Ytenfomejccfkgaa.X Go.Proofs.YtenfomejccfkgaaW.PrintWords
open Go.ChangeMaps (open_string shut_string)
set_option linter.unusedVariables false
theorem own : ownKnob Try.prog.godebug = none := by kernel_rfl
theorem laidOut : laidOutB Try.prog = true := by kernel_rfl
set_option maxRecDepth 100000 in
theorem lifted (os : Os) (started : os.Started) (H : Type) (enc : TypeId × Value → H) :
    ReturnsInHanded {} Try.checked os 12 .any (Rows.fnExactSuperBytesSpec.pre6 enc Try.prog Try.f12 Rows.fnExactSuperBytesRow.domain false) (Rows.fnExactSuperBytesSpec.post enc Try.prog Try.f12 false true false false) := by
  refine returnsInHanded_of_change_sized (C := Try.checked) own started (by kernel_rfl) Try.func12
    (ChangeSpec.witness6 (enc := enc) (C := Try.checked) false ⟨#[], #[.agg #[.int .i64 0, .int .i64 0, .slice none 0 0]], []⟩ 8 (by kernel_rfl) (by kernel_rfl) (by kernel_rfl) (by kernel_rfl)) ?_
  intro W base args ds gs before hval0 hW hcnd hsz0 _
  have hsz : (DataW.weightsEach Try.prog (Try.f12.params.toList ++ Rows.fnExactSuperBytesSpec.plain.varTypes Try.prog) (ds ++ gs)).all (· ≤ reachBytes) = true := hsz0
  have hval : ∀ (j : Nat) t v, Try.f12.params[j]? = some t → args[j]? = some v → Value.okWide Try.prog W .any base t v := hval0
  have hW' := hW
  obtain ⟨p, q, hA0, hV, rfl, hfz, hnd⟩ := hW
  have hA : DataW.TrodAll enc Try.prog W 0 (fun _ => true) true Try.f12.params.toList args.toList ds p := hA0
  rw [Try.params12] at hA hval hsz
  obtain ⟨v0, vs0, d0, ds0, p0, q0, hargs, rfl, rfl, h0, r0⟩ := trodAll_cons hA
  obtain ⟨rfl, rfl, rfl⟩ := trodAll_nil r0
  obtain rfl : args = #[v0] := by cases args; simp_all
  obtain ⟨rfl, rfl⟩ := trodVars_none hV
  have k0 := h0
  have lt0 : ∀ x ∈ p0, x.block < W.heap.size := by obtain ⟨m, hm⟩ := k0; exact DataW.trod_lt m _ _ _ hm
  obtain ⟨x0, cs0, rfl, hK0, hw0⟩ := Opens.agg_arg opens78 Try.underlying78 (hval 0 78 v0 rfl rfl) h0
  obtain ⟨A0_2, c0_2, rfl, hc0_2, hr0_2⟩ := k78_open hK0
  obtain ⟨a0_0, a0_1, l0_2⟩ := x0
  clear hA0 hval0 hsz0 hsz
  have hP := X.Pure.FnExactSuperBytes a0_0 a0_1 l0_2 hw0.1 hw0.2.1 hw0.2.2
  refine (laws_FnExactSuperBytes.calls a0_0 a0_1 A0_2 c0_2 l0_2 true W hr0_2 hc0_2 hP).mono fun e W' hQ => ?_
  obtain ⟨he, bel0⟩ := hQ
  subst he
  have bel : Below W.heap.size W W' := bel0
  exact ⟨_, rfl, _, _, _, [], _, [], hW', trodAll_mk1 (shut_bool Try.underlying4 _), (trodAll_cons_mk (Below.trod laidOut (by kernel_rfl) (of_decide_eq_true (by kernel_rfl)) k0 bel lt0) trodAll_mk0), rfl, bel.frame _, fun h => by cases h⟩
theorem over : Rows.fnExactSuperBytesRow.holds Try.pinned (OpenSpec.ofChange Rows.fnExactSuperBytesSpec) :=
  OpenClaim.holds_of_wide 12 Try.f12 rfl rfl rfl rfl rfl rfl rfl ⟨rfl, rfl, rfl, rfl, rfl⟩ rfl rfl rfl rfl rfl (by kernel_rfl) Try.func12 (by kernel_rfl)
    (of_decide_eq_true (by kernel_rfl)) (by unfold Func.isWrapper; first | (rw [if_pos (by decide +kernel)]; kernel_rfl) | (rw [if_neg (by decide +kernel)]; exact ⟨rfl, rfl⟩))
    (fun os started H enc _ => lifted os started H enc)
theorem proved : Rows.FnExactSuperBytesSaid := over
end Go.Proofs.Ytenfomejccfkgaa.fnExactSuperBytes
namespace Go.Proofs.Ytenfomejccfkgaa
theorem fnExactSuperBytes_holds : Rows.FnExactSuperBytesSaid := fnExactSuperBytes.proved
end Go.Proofs.Ytenfomejccfkgaa
