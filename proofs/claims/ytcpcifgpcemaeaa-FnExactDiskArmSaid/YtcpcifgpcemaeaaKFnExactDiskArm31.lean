import Derived.Test.YtcpcifgpcemaeaaKFnExactDiskArm3
import Derived.Test.YtcpcifgpcemaeaaKFnExactDiskArm30
import Derived.Test.YtcpcifgpcemaeaaRows
import Derived.WalkKit
import Derived.ProofKit
import Derived.OpenShut
import Derived.ShutString
import Derived.ChangeOld
import Derived.Below
import Derived.SizedLaws
namespace Go.Proofs.Ytcpcifgpcemaeaa.X
open Go.RowKit Go.Proofs.YtcpcifgpcemaeaaW.PrintWords Go.Proofs.YtcpcifgpcemaeaaW.PrintLast Go.Proofs.YtcpcifgpcemaeaaW.PrintMore
attribute [local go_sem] xbin_geq xbin_leq xbin_gtr max2_int min2_int max_two min_two max_three min_three max_four min_four
set_option linter.unusedVariables false
set_option linter.unusedSimpArgs false
theorem opens9 : Opens Try.prog 9 Kd.string (fun x => x.size ≤ maxLen) := Opens.string_ Try.underlying9 (by kernel_rfl)
def wfL9 (xs : List ByteArray) : Prop := xs.length ≤ maxLen ∧ ∀ x ∈ xs, x.size ≤ maxLen
theorem opens22 : Opens Try.prog 22 (Kd.slice 9 Kd.string) wfL9 := Opens.slice_ Try.underlying22 (by kernel_rfl) opens9
theorem opens3 : Opens Try.prog 3 (Kd.int .i64) (fun x => (Lit.int .i64 x).wf = true) := Opens.int_ Try.underlying3 (by kernel_rfl)
def wf131 (x : S131) : Prop := (Lit.int .i64 x.f0).wf = true ∧ x.f1.size ≤ maxLen
set_option maxRecDepth 100000 in
theorem opens131 : Opens Try.prog 131 k131 wf131 := by
  refine ⟨by kernel_rfl, fun {H enc w base spare held fuel cs x} h => ?_⟩
  obtain ⟨xs, n, _, _, hl, hlen, hf⟩ := DataW.trod_struct Try.underlying131 h
  have hl' : cs.length = 2 := hl.trans (by kernel_rfl)
  match cs, hl', xs, hlen with
  | [c0, c1], _, [y0, y1], _ =>
    obtain ⟨v0, g0, w0⟩ := opens3.2 (by simpa [show Try.prog.cellsOf 3 = 1 from by kernel_rfl] using hf 0 _ rfl)
    obtain ⟨v1, g1, w1⟩ := opens9.2 (by simpa [show Try.prog.cellsOf 9 = 1 from by kernel_rfl] using hf 1 _ rfl)
    exact ⟨(⟨v0, v1⟩ : S131), ⟨[c0], [c1], rfl, g0, g1⟩, ⟨w0, w1⟩⟩
def wfL131 (xs : List (S131)) : Prop := xs.length ≤ maxLen ∧ ∀ x ∈ xs, wf131 x
theorem opens32 : Opens Try.prog 32 (Kd.slice 131 k131) wfL131 := Opens.slice_ Try.underlying32 (by kernel_rfl) opens131
theorem opens4 : Opens Try.prog 4 Kd.bool (fun _ => True) := Opens.bool_ Try.underlying4 (by kernel_rfl)
def wfL3 (xs : List Int) : Prop := xs.length ≤ maxLen ∧ ∀ x ∈ xs, (Lit.int .i64 x).wf = true
theorem opens24 : Opens Try.prog 24 (Kd.slice 3 (Kd.int .i64)) wfL3 := Opens.slice_ Try.underlying24 (by kernel_rfl) opens3
def wf34 (x : S34) : Prop := wfL9 x.f0 ∧ wfL131 x.f1 ∧ True ∧ wfL3 x.f3
set_option maxRecDepth 100000 in
theorem opens34 : Opens Try.prog 34 k34 wf34 := by
  refine ⟨by kernel_rfl, fun {H enc w base spare held fuel cs x} h => ?_⟩
  obtain ⟨xs, n, _, _, hl, hlen, hf⟩ := DataW.trod_struct Try.underlying34 h
  have hl' : cs.length = 4 := hl.trans (by kernel_rfl)
  match cs, hl', xs, hlen with
  | [c0, c1, c2, c3], _, [y0, y1, y2, y3], _ =>
    obtain ⟨v0, g0, w0⟩ := opens22.2 (by simpa [show Try.prog.cellsOf 22 = 1 from by kernel_rfl] using hf 0 _ rfl)
    obtain ⟨v1, g1, w1⟩ := opens32.2 (by simpa [show Try.prog.cellsOf 32 = 1 from by kernel_rfl] using hf 1 _ rfl)
    obtain ⟨v2, g2, w2⟩ := opens4.2 (by simpa [show Try.prog.cellsOf 4 = 1 from by kernel_rfl] using hf 2 _ rfl)
    obtain ⟨v3, g3, w3⟩ := opens24.2 (by simpa [show Try.prog.cellsOf 24 = 1 from by kernel_rfl] using hf 3 _ rfl)
    exact ⟨(⟨v0, v1, v2, v3⟩ : S34), ⟨[c0], [c1, c2, c3], rfl, g0, ⟨[c1], [c2, c3], rfl, g1, ⟨[c2], [c3], rfl, g2, g3⟩⟩⟩, ⟨w0, w1, w2, w3⟩⟩
def laws_FnExactDiskArm.Pure : Prop := ∀ (l0_0 : List ByteArray) (l0_1 : List (S131)) (a0_2 : Bool) (l0_3 : List Int) (l1 : List Int), (wfL9 l0_0) → (wfL131 l0_1) → (True) → (wfL3 l0_3) → (wfL3 l1) → laws_FnExactDiskArm.f l0_0 l0_1 a0_2 l0_3 l1 = some true
end Go.Proofs.Ytcpcifgpcemaeaa.X
set_option linter.unusedSimpArgs false
set_option linter.unusedVariables false
namespace Go.Proofs.Ytcpcifgpcemaeaa.X.Pure
open Go.RowKit Go.Proofs.Ytcpcifgpcemaeaa.X Go.Proofs.YtcpcifgpcemaeaaW.PrintWords Go.Proofs.YtcpcifgpcemaeaaW.PrintLast
theorem FnExactDiskArm : laws_FnExactDiskArm.Pure := by
  intro s c a q l hs0 hc0 _ hq0 _
  unfold laws_FnExactDiskArm.f
  rw [if_pos ⟨hs0, ⟨hc0.1, fun y hy => ⟨trivial, (hc0.2 y hy).2⟩⟩, trivial, hq0.1⟩]
end Go.Proofs.Ytcpcifgpcemaeaa.X.Pure
namespace Go.Proofs.Ytcpcifgpcemaeaa.fnExactDiskArm
open Go.ChangeShapes Go.WideShapes Go.ChangeAt Go.RowKit Go.Proofs.Ytcpcifgpcemaeaa.X Go.Proofs.YtcpcifgpcemaeaaW.PrintWords
open Go.ChangeMaps (open_string shut_string)
set_option linter.unusedVariables false
theorem own : ownKnob Try.prog.godebug = none := by kernel_rfl
theorem laidOut : laidOutB Try.prog = true := by kernel_rfl
set_option maxRecDepth 100000 in
theorem lifted (os : Os) (started : os.Started) (H : Type) (enc : TypeId × Value → H) :
    ReturnsInHanded {} Try.checked os 7 .any (Rows.fnExactDiskArmSpec.pre6 enc Try.prog Try.f7 Rows.fnExactDiskArmRow.domain false) (Rows.fnExactDiskArmSpec.post enc Try.prog Try.f7 false true false false) := by
  refine returnsInHanded_of_change_sized (C := Try.checked) own started (by kernel_rfl) Try.func7
    (ChangeSpec.witness6 (enc := enc) (C := Try.checked) false ⟨#[], #[.agg #[.slice none 0 0, .slice none 0 0, .bool false, .slice none 0 0], .slice none 0 0], []⟩ 8 (by kernel_rfl) (by kernel_rfl) (by kernel_rfl) (by kernel_rfl)) ?_
  intro W base args ds gs before hval0 hW hcnd hsz0 _
  have hsz : (DataW.weightsEach Try.prog (Try.f7.params.toList ++ Rows.fnExactDiskArmSpec.plain.varTypes Try.prog) (ds ++ gs)).all (· ≤ reachBytes) = true := hsz0
  have hval : ∀ (j : Nat) t v, Try.f7.params[j]? = some t → args[j]? = some v → Value.okWide Try.prog W .any base t v := hval0
  have hW' := hW
  obtain ⟨p, q, hA0, hV, rfl, hfz, hnd⟩ := hW
  have hA : DataW.TrodAll enc Try.prog W 0 (fun _ => true) true Try.f7.params.toList args.toList ds p := hA0
  rw [Try.params7] at hA hval hsz
  obtain ⟨v0, vs0, d0, ds0, p0, q0, hargs, rfl, rfl, h0, r0⟩ := trodAll_cons hA
  obtain ⟨v1, vs1, d1, ds1, p1, q1, rfl, rfl, rfl, h1, r1⟩ := trodAll_cons r0
  obtain ⟨rfl, rfl, rfl⟩ := trodAll_nil r1
  obtain rfl : args = #[v0, v1] := by cases args; simp_all
  obtain ⟨rfl, rfl⟩ := trodVars_none hV
  have k0 := h0
  have lt0 : ∀ x ∈ p0, x.block < W.heap.size := by obtain ⟨m, hm⟩ := k0; exact DataW.trod_lt m _ _ _ hm
  obtain ⟨x0, cs0, rfl, hK0, hw0⟩ := Opens.agg_arg opens34 Try.underlying34 (hval 0 34 v0 rfl rfl) h0
  obtain ⟨A0_0, c0_0, A0_1, c0_1, A0_3, c0_3, rfl, hc0_0, hr0_0, hc0_1, hr0_1, hc0_3, hr0_3⟩ := k34_open hK0
  obtain ⟨l0_0, l0_1, a0_2, l0_3⟩ := x0
  have k1 := h1
  have lt1 : ∀ x ∈ p1, x.block < W.heap.size := by obtain ⟨m, hm⟩ := k1; exact DataW.trod_lt m _ _ _ hm
  obtain ⟨A1, len1, c1, rfl⟩ := okWide_slice Try.underlying24 (hval 1 24 v1 rfl rfl)
  obtain ⟨l1, rfl, hc1, hr1, hw1⟩ := Opens.slice_arg opens24 h1
  clear hA0 hval0 hsz0 hsz
  have hP := X.Pure.FnExactDiskArm l0_0 l0_1 a0_2 l0_3 l1 hw0.1 hw0.2.1 hw0.2.2.1 hw0.2.2.2 hw1
  refine (laws_FnExactDiskArm.calls A0_0 c0_0 l0_0 A0_1 c0_1 l0_1 a0_2 A0_3 c0_3 l0_3 A1 c1 l1 true W hr0_0 hc0_0 hr0_1 hc0_1 hr0_3 hc0_3 hr1 hc1 hP).mono fun e W' hQ => ?_
  obtain ⟨he, bel0⟩ := hQ
  subst he
  have bel : Below W.heap.size W W' := bel0
  exact ⟨_, rfl, _, _, _, [], _, [], hW', trodAll_mk1 (shut_bool Try.underlying4 _), (trodAll_cons_mk (Below.trod laidOut (by kernel_rfl) (of_decide_eq_true (by kernel_rfl)) k0 bel lt0) (trodAll_cons_mk (Below.trod laidOut (by kernel_rfl) (of_decide_eq_true (by kernel_rfl)) k1 bel lt1) trodAll_mk0)), rfl, bel.frame _, fun h => by cases h⟩
theorem over : Rows.fnExactDiskArmRow.holds Try.pinned (OpenSpec.ofChange Rows.fnExactDiskArmSpec) :=
  OpenClaim.holds_of_wide 7 Try.f7 rfl rfl rfl rfl rfl rfl rfl ⟨rfl, rfl, rfl, rfl, rfl⟩ rfl rfl rfl rfl rfl (by kernel_rfl) Try.func7 (by kernel_rfl)
    (of_decide_eq_true (by kernel_rfl)) (by unfold Func.isWrapper; first | (rw [if_pos (by decide +kernel)]; kernel_rfl) | (rw [if_neg (by decide +kernel)]; exact ⟨rfl, rfl⟩))
    (fun os started H enc _ => lifted os started H enc)
theorem proved : Rows.FnExactDiskArmSaid := over
end Go.Proofs.Ytcpcifgpcemaeaa.fnExactDiskArm
namespace Go.Proofs.Ytcpcifgpcemaeaa
theorem fnExactDiskArm_holds : Rows.FnExactDiskArmSaid := fnExactDiskArm.proved
end Go.Proofs.Ytcpcifgpcemaeaa
