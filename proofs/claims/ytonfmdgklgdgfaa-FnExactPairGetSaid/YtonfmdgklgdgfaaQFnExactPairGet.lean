import Derived.Test.YtonfmdgklgdgfaaHOpen
import Derived.Test.YtonfmdgklgdgfaaX12
namespace Go.Proofs.Ytonfmdgklgdgfaa.X
open Go.RowKit Go.Proofs.YtonfmdgklgdgfaaW.PrintWords Go.Proofs.YtonfmdgklgdgfaaW.PrintLast Go.Proofs.YtonfmdgklgdgfaaW.PrintMore
attribute [local go_sem] xbin_geq xbin_leq xbin_gtr max2_int min2_int max_two min_two max_three min_three max_four min_four   -- for this text's walks alone
set_option linter.unusedVariables false
set_option linter.unusedSimpArgs false

theorem opens9 : Opens Try.prog 9 Kd.string (fun x => x.size ≤ maxLen) := Opens.string_ Try.underlying9 (by kernel_rfl)
def wf63 (x : S63) : Prop := x.f0.size ≤ maxLen ∧ x.f1.size ≤ maxLen
set_option maxRecDepth 100000 in
theorem opens63 : Opens Try.prog 63 k63 wf63 := by
  refine ⟨by kernel_rfl, fun {H enc w base spare held fuel cs x} h => ?_⟩
  obtain ⟨xs, n, _, _, hl, hlen, hf⟩ := DataW.trod_struct Try.underlying63 h
  have hl' : cs.length = 2 := hl.trans (by kernel_rfl)
  match cs, hl', xs, hlen with
  | [c0, c1], _, [y0, y1], _ =>
    obtain ⟨v0, g0, w0⟩ := opens9.2 (by simpa [show Try.prog.cellsOf 9 = 1 from by kernel_rfl] using hf 0 _ rfl)
    obtain ⟨v1, g1, w1⟩ := opens9.2 (by simpa [show Try.prog.cellsOf 9 = 1 from by kernel_rfl] using hf 1 _ rfl)
    exact ⟨(⟨v0, v1⟩ : S63), ⟨[c0], [c1], rfl, g0, g1⟩, ⟨w0, w1⟩⟩
def wfL63 (xs : List (S63)) : Prop := xs.length ≤ maxLen ∧ ∀ x ∈ xs, wf63 x
theorem opens34 : Opens Try.prog 34 (Kd.slice 63 k63) wfL63 := Opens.slice_ Try.underlying34 (by kernel_rfl) opens63
/-- THE ONE PURE STATEMENT of laws_FnExactPairGet. -/
def laws_FnExactPairGet.Pure : Prop := ∀ (l0 : List (S63)) (a1 : ByteArray), (wfL63 l0) → (a1.size ≤ maxLen) → a1.size ≤ 140737488351232 → ∃ k, laws_FnExactPairGet.f k l0 a1 = some true
end Go.Proofs.Ytonfmdgklgdgfaa.X
