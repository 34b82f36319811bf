import Derived.Test.YtonfmdgklgdgfaaX0
import Derived.Test.YtonfmdgklgdgfaaX6
namespace Go.Proofs.Ytonfmdgklgdgfaa.X
open Go.RowKit Go.Proofs.YtonfmdgklgdgfaaW.PrintWords Go.Proofs.YtonfmdgklgdgfaaW.PrintLast Go.Proofs.YtonfmdgklgdgfaaW.PrintMore
attribute [local go_sem] xbin_geq xbin_leq xbin_gtr max2_int min2_int max_two min_two max_three min_three max_four min_four   -- for this text's walks alone
set_option linter.unusedVariables false
set_option linter.unusedSimpArgs false

def cv63 (x : S63) : S65 := ⟨x.f0, x.f1⟩
def sm63 (B : Int) (x : S63) : Prop := (x.f0.size : Int) ≤ B ∧ (x.f1.size : Int) ≤ B
def wl63 (x : S63) : Prop := x.f0.size ≤ maxLen ∧ x.f1.size ≤ maxLen
theorem to_Pair (x : S63) : laws_toPair.f (x.f0) (x.f1) = some (x.f0, x.f1) := rfl

end Go.Proofs.Ytonfmdgklgdgfaa.X
