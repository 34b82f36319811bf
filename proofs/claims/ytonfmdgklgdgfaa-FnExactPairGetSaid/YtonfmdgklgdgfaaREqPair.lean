import Derived.Test.YtonfmdgklgdgfaaX0
import Derived.Test.YtonfmdgklgdgfaaHEv
import Derived.Test.YtonfmdgklgdgfaaX8
namespace Go.Proofs.Ytonfmdgklgdgfaa.X
open Go.RowKit Go.Proofs.YtonfmdgklgdgfaaW.PrintWords Go.Proofs.YtonfmdgklgdgfaaW.PrintLast Go.Proofs.YtonfmdgklgdgfaaW.PrintMore
attribute [local go_sem] xbin_geq xbin_leq xbin_gtr max2_int min2_int max_two min_two max_three min_three max_four min_four   -- for this text's walks alone
set_option linter.unusedVariables false
set_option linter.unusedSimpArgs false

def len65 (x : S65) : Prop := True ∧ True
theorem eq_Pair (x : S65) (h : len65 x) : Ev (fun k => laws_eqPair.f (x.f0) (x.f1) (x.f0) (x.f1)) true := by
  unfold laws_eqPair.f
  exact Ev.pos rfl (Ev.pos rfl (Ev.is rfl))

end Go.Proofs.Ytonfmdgklgdgfaa.X
