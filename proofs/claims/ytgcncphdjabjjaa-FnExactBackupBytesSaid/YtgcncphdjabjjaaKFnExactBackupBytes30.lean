import Derived.Test.YtgcncphdjabjjaaKFnExactBackupBytes4
import Derived.Test.YtgcncphdjabjjaaKFnExactBackupBytes29
import Derived.Test.YtgcncphdjabjjaaRows
import Derived.WalkKit
import Derived.ProofKit
import Derived.OpenShut
import Derived.ShutString
import Derived.ChangeOld
import Derived.Below
import Derived.SizedLaws
namespace Go.Proofs.Ytgcncphdjabjjaa.X
open Go.RowKit Go.Proofs.YtgcncphdjabjjaaW.PrintWords Go.Proofs.YtgcncphdjabjjaaW.PrintLast Go.Proofs.YtgcncphdjabjjaaW.PrintMore
attribute [local go_sem] xbin_geq xbin_leq xbin_gtr max2_int min2_int max_two min_two max_three min_three max_four min_four
set_option linter.unusedVariables false
set_option linter.unusedSimpArgs false
theorem opens9 : Opens Try.prog 9 Kd.string (fun x => x.size ≤ maxLen) := Opens.string_ Try.underlying9 (by kernel_rfl)
theorem opens3 : Opens Try.prog 3 (Kd.int .i64) (fun x => (Lit.int .i64 x).wf = true) := Opens.int_ Try.underlying3 (by kernel_rfl)
theorem opens4 : Opens Try.prog 4 Kd.bool (fun _ => True) := Opens.bool_ Try.underlying4 (by kernel_rfl)
def wf85 (x : S85) : Prop := x.f0.size ≤ maxLen ∧ x.f1.size ≤ maxLen ∧ x.f2.size ≤ maxLen ∧ True ∧ True
set_option maxRecDepth 100000 in
theorem opens85 : Opens Try.prog 85 k85 wf85 := by
  refine ⟨by kernel_rfl, fun {H enc w base spare held fuel cs x} h => ?_⟩
  obtain ⟨xs, n, _, _, hl, hlen, hf⟩ := DataW.trod_struct Try.underlying85 h
  have hl' : cs.length = 5 := hl.trans (by kernel_rfl)
  match cs, hl', xs, hlen with
  | [c0, c1, c2, c3, c4], _, [y0, y1, y2, y3, y4], _ =>
    obtain ⟨v0, g0, w0⟩ := opens9.2 (by simpa [show Try.prog.cellsOf 9 = 1 from by kernel_rfl] using hf 0 _ rfl)
    obtain ⟨v1, g1, w1⟩ := opens9.2 (by simpa [show Try.prog.cellsOf 9 = 1 from by kernel_rfl] using hf 1 _ rfl)
    obtain ⟨v2, g2, w2⟩ := opens9.2 (by simpa [show Try.prog.cellsOf 9 = 1 from by kernel_rfl] using hf 2 _ rfl)
    obtain ⟨v3, g3, w3⟩ := opens4.2 (by simpa [show Try.prog.cellsOf 4 = 1 from by kernel_rfl] using hf 3 _ rfl)
    obtain ⟨v4, g4, w4⟩ := opens4.2 (by simpa [show Try.prog.cellsOf 4 = 1 from by kernel_rfl] using hf 4 _ rfl)
    exact ⟨(⟨v0, v1, v2, v3, v4⟩ : S85), ⟨[c0], [c1, c2, c3, c4], rfl, g0, ⟨[c1], [c2, c3, c4], rfl, g1, ⟨[c2], [c3, c4], rfl, g2, ⟨[c3], [c4], rfl, g3, g4⟩⟩⟩⟩, ⟨w0, w1, w2, w3, w4⟩⟩
def wfL85 (xs : List (S85)) : Prop := xs.length ≤ maxLen ∧ ∀ x ∈ xs, wf85 x
theorem opens37 : Opens Try.prog 37 (Kd.slice 85 k85) wfL85 := Opens.slice_ Try.underlying37 (by kernel_rfl) opens85
def wf44 (x : S44) : Prop := x.f0.size ≤ maxLen ∧ x.f1.size ≤ maxLen ∧ (Lit.int .i64 x.f2).wf = true ∧ wfL85 x.f3 ∧ (Lit.int .i64 x.f4).wf = true
set_option maxRecDepth 100000 in
theorem opens44 : Opens Try.prog 44 k44 wf44 := by
  refine ⟨by kernel_rfl, fun {H enc w base spare held fuel cs x} h => ?_⟩
  obtain ⟨xs, n, _, _, hl, hlen, hf⟩ := DataW.trod_struct Try.underlying44 h
  have hl' : cs.length = 5 := hl.trans (by kernel_rfl)
  match cs, hl', xs, hlen with
  | [c0, c1, c2, c3, c4], _, [y0, y1, y2, y3, y4], _ =>
    obtain ⟨v0, g0, w0⟩ := opens9.2 (by simpa [show Try.prog.cellsOf 9 = 1 from by kernel_rfl] using hf 0 _ rfl)
    obtain ⟨v1, g1, w1⟩ := opens9.2 (by simpa [show Try.prog.cellsOf 9 = 1 from by kernel_rfl] using hf 1 _ rfl)
    obtain ⟨v2, g2, w2⟩ := opens3.2 (by simpa [show Try.prog.cellsOf 3 = 1 from by kernel_rfl] using hf 2 _ rfl)
    obtain ⟨v3, g3, w3⟩ := opens37.2 (by simpa [show Try.prog.cellsOf 37 = 1 from by kernel_rfl] using hf 3 _ rfl)
    obtain ⟨v4, g4, w4⟩ := opens3.2 (by simpa [show Try.prog.cellsOf 3 = 1 from by kernel_rfl] using hf 4 _ rfl)
    exact ⟨(⟨v0, v1, v2, v3, v4⟩ : S44), ⟨[c0], [c1, c2, c3, c4], rfl, g0, ⟨[c1], [c2, c3, c4], rfl, g1, ⟨[c2], [c3, c4], rfl, g2, ⟨[c3], [c4], rfl, g3, g4⟩⟩⟩⟩, ⟨w0, w1, w2, w3, w4⟩⟩
def laws_FnExactBackupBytes.Pure : Prop := ∀ (a0_0 : ByteArray) (a0_1 : ByteArray) (a0_2 : Int) (l0_3 : List (S85)) (a0_4 : Int), (a0_0.size ≤ maxLen) → (a0_1.size ≤ maxLen) → ((Lit.int .i64 a0_2).wf = true) → (wfL85 l0_3) → ((Lit.int .i64 a0_4).wf = true) → laws_FnExactBackupBytes.f a0_0 a0_1 a0_2 l0_3 a0_4 = some true
end Go.Proofs.Ytgcncphdjabjjaa.X
set_option linter.unusedSimpArgs false
set_option linter.unusedVariables false
namespace Go.Proofs.Ytgcncphdjabjjaa.X.Pure
open Go.RowKit Go.Proofs.Ytgcncphdjabjjaa.X Go.Proofs.YtgcncphdjabjjaaW.PrintWords Go.Proofs.YtgcncphdjabjjaaW.PrintLast
theorem FnExactBackupBytes : laws_FnExactBackupBytes.Pure := by
  intro a b n l3 s ha hb _ hw3 _
  unfold laws_FnExactBackupBytes.f
  rw [if_pos ⟨ha, hb, trivial, ⟨hw3.1, fun y hy => ⟨(hw3.2 y hy).1, (hw3.2 y hy).2.1, (hw3.2 y hy).2.2.1, trivial, trivial⟩⟩, trivial⟩]
end Go.Proofs.Ytgcncphdjabjjaa.X.Pure
namespace Go.Proofs.Ytgcncphdjabjjaa.fnExactBackupBytes
open Go.ChangeShapes Go.WideShapes Go.ChangeAt Go.RowKit Go.Proofs.Ytgcncphdjabjjaa.X Go.Proofs.YtgcncphdjabjjaaW.PrintWords
open Go.ChangeMaps (open_string shut_string)
set_option linter.unusedVariables false
theorem own : ownKnob Try.prog.godebug = none := by kernel_rfl
theorem laidOut : laidOutB Try.prog = true := by kernel_rfl
set_option maxRecDepth 100000 in
theorem lifted (os : Os) (started : os.Started) (H : Type) (enc : TypeId × Value → H) :
    ReturnsInHanded {} Try.checked os 7 .any (Rows.fnExactBackupBytesSpec.pre6 enc Try.prog Try.f7 Rows.fnExactBackupBytesRow.domain false) (Rows.fnExactBackupBytesSpec.post enc Try.prog Try.f7 false true false false) := by
  refine returnsInHanded_of_change_sized (C := Try.checked) own started (by kernel_rfl) Try.func7
    (ChangeSpec.witness6 (enc := enc) (C := Try.checked) false ⟨#[], #[.agg #[.string ByteArray.empty, .string ByteArray.empty, .int .i64 0, .slice none 0 0, .int .i64 0]], []⟩ 8 (by kernel_rfl) (by kernel_rfl) (by kernel_rfl) (by kernel_rfl)) ?_
  intro W base args ds gs before hval0 hW hcnd hsz0 _
  have hsz : (DataW.weightsEach Try.prog (Try.f7.params.toList ++ Rows.fnExactBackupBytesSpec.plain.varTypes Try.prog) (ds ++ gs)).all (· ≤ reachBytes) = true := hsz0
  have hval : ∀ (j : Nat) t v, Try.f7.params[j]? = some t → args[j]? = some v → Value.okWide Try.prog W .any base t v := hval0
  have hW' := hW
  obtain ⟨p, q, hA0, hV, rfl, hfz, hnd⟩ := hW
  have hA : DataW.TrodAll enc Try.prog W 0 (fun _ => true) true Try.f7.params.toList args.toList ds p := hA0
  rw [Try.params7] at hA hval hsz
  obtain ⟨v0, vs0, d0, ds0, p0, q0, hargs, rfl, rfl, h0, r0⟩ := trodAll_cons hA
  obtain ⟨rfl, rfl, rfl⟩ := trodAll_nil r0
  obtain rfl : args = #[v0] := by cases args; simp_all
  obtain ⟨rfl, rfl⟩ := trodVars_none hV
  have k0 := h0
  have lt0 : ∀ x ∈ p0, x.block < W.heap.size := by obtain ⟨m, hm⟩ := k0; exact DataW.trod_lt m _ _ _ hm
  obtain ⟨x0, cs0, rfl, hK0, hw0⟩ := Opens.agg_arg opens44 Try.underlying44 (hval 0 44 v0 rfl rfl) h0
  obtain ⟨A0_3, c0_3, rfl, hc0_3, hr0_3⟩ := k44_open hK0
  obtain ⟨a0_0, a0_1, a0_2, l0_3, a0_4⟩ := x0
  clear hA0 hval0 hsz0 hsz
  have hP := X.Pure.FnExactBackupBytes a0_0 a0_1 a0_2 l0_3 a0_4 hw0.1 hw0.2.1 hw0.2.2.1 hw0.2.2.2.1 hw0.2.2.2.2
  refine (laws_FnExactBackupBytes.calls a0_0 a0_1 a0_2 A0_3 c0_3 l0_3 a0_4 true W hr0_3 hc0_3 hP).mono fun e W' hQ => ?_
  obtain ⟨he, bel0⟩ := hQ
  subst he
  have bel : Below W.heap.size W W' := bel0
  exact ⟨_, rfl, _, _, _, [], _, [], hW', trodAll_mk1 (shut_bool Try.underlying4 _), (trodAll_cons_mk (Below.trod laidOut (by kernel_rfl) (of_decide_eq_true (by kernel_rfl)) k0 bel lt0) trodAll_mk0), rfl, bel.frame _, fun h => by cases h⟩
theorem over : Rows.fnExactBackupBytesRow.holds Try.pinned (OpenSpec.ofChange Rows.fnExactBackupBytesSpec) :=
  OpenClaim.holds_of_wide 7 Try.f7 rfl rfl rfl rfl rfl rfl rfl ⟨rfl, rfl, rfl, rfl, rfl⟩ rfl rfl rfl rfl rfl (by kernel_rfl) Try.func7 (by kernel_rfl)
    (of_decide_eq_true (by kernel_rfl)) (by unfold Func.isWrapper; first | (rw [if_pos (by decide +kernel)]; kernel_rfl) | (rw [if_neg (by decide +kernel)]; exact ⟨rfl, rfl⟩))
    (fun os started H enc _ => lifted os started H enc)
theorem proved : Rows.FnExactBackupBytesSaid := over
end Go.Proofs.Ytgcncphdjabjjaa.fnExactBackupBytes
namespace Go.Proofs.Ytgcncphdjabjjaa
theorem fnExactBackupBytes_holds : Rows.FnExactBackupBytesSaid := fnExactBackupBytes.proved
end Go.Proofs.Ytgcncphdjabjjaa
