/- The law FnExactPairsOK returns true for every list of pairs: the program's PairsOK answers as the reference, and writes into no argument. No conditions. -/
import Derived.Test.YtonfmdgklgdgfaaQFnExactPairsOK
import Derived.Test.YtonfmdgklgdgfaaRToPairS
import Derived.Test.YtonfmdgklgdgfaaRSzPairS
import Derived.Test.YtonfmdgklgdgfaaREqPairS
import Derived.Test.YtonfmdgklgdgfaaHSemPairs
set_option linter.unusedSimpArgs false
set_option linter.unusedVariables false
namespace Go.Proofs.Ytonfmdgklgdgfaa.X.Pure
open Go.RowKit Go.Proofs.Ytonfmdgklgdgfaa.X Go.Proofs.YtonfmdgklgdgfaaW.PrintWords Go.Proofs.YtonfmdgklgdgfaaW.PrintLast

theorem FnExactPairsOK : laws_FnExactPairsOK.Pure := by
  intro l hw
  refine Ev.rounds (g := fun k => laws_FnExactPairsOK.f k l) ?_
  unfold laws_FnExactPairsOK.f
  obtain ⟨r, hr, hq⟩ := sz_PairS l hw 1048576 1048576 (by omega) (by omega) (by omega)
  refine Ev.bind hr ?_
  by_cases h : r < 0
  · exact Ev.pos h (Ev.is rfl)
  refine Ev.neg h ?_
  have hs := (hq (by omega)).2
  have ht := to_PairS l hs
  have hlen : (l.map cv63).length ≤ 9223372036854775807 := by rw [List.length_map]; have := hs.1; omega
  refine Ev.bind ht (Ev.bind (spec_pairsOK _) (Ev.bind ht (Ev.bind (impl_pairsOK _) (Ev.neg (by simp) (Ev.bind ht (Ev.bind (eq_PairS _ ⟨hlen, fun y _ => ⟨trivial, trivial⟩⟩) (Ev.pos rfl (Ev.is rfl))))))))

end Go.Proofs.Ytonfmdgklgdgfaa.X.Pure
