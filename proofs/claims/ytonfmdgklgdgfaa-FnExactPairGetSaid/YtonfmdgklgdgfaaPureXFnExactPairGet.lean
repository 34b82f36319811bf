/- The law FnExactPairGet returns true for every list of pairs and every key: the program's PairGet answers as the reference, and writes into no argument. No conditions. -/
import Derived.Test.YtonfmdgklgdgfaaQFnExactPairGet
import Derived.Test.YtonfmdgklgdgfaaRToPairS
import Derived.Test.YtonfmdgklgdgfaaRSzPairS
import Derived.Test.YtonfmdgklgdgfaaREqPairS
import Derived.Test.YtonfmdgklgdgfaaHSemGet
set_option linter.unusedSimpArgs false
set_option linter.unusedVariables false
namespace Go.Proofs.Ytonfmdgklgdgfaa.X.Pure
open Go.RowKit Go.Proofs.Ytonfmdgklgdgfaa.X Go.Proofs.YtonfmdgklgdgfaaW.PrintWords Go.Proofs.YtonfmdgklgdgfaaW.PrintLast

theorem FnExactPairGet : laws_FnExactPairGet.Pure := by
  intro l key hw hk1 hk2
  refine Ev.rounds (g := fun k => laws_FnExactPairGet.f k l key) ?_
  unfold laws_FnExactPairGet.f
  by_cases hk : (key.size : Int) > 1048576
  · exact Ev.pos hk (Ev.is rfl)
  refine Ev.neg hk ?_
  obtain ⟨r, hr, hq⟩ := sz_PairS l hw 1048576 1048576 (by omega) (by omega) (by omega)
  refine Ev.bind hr ?_
  by_cases h : r < 0
  · exact Ev.pos h (Ev.is rfl)
  refine Ev.neg h ?_
  have hs := (hq (by omega)).2
  have ht := to_PairS l hs
  have hlen : (l.map cv63).length ≤ 9223372036854775807 := by rw [List.length_map]; have := hs.1; omega
  have hj : Ev (fun k => laws_FnExactPairGet.j0 k l (l.map cv63) false) true := by
    refine Ev.succ ?_
    simp only [laws_FnExactPairGet.j0]
    exact Ev.neg (by simp) (Ev.bind ht (Ev.bind (eq_PairS _ ⟨hlen, fun y _ => ⟨trivial, trivial⟩⟩) (Ev.pos rfl (Ev.is rfl))))
  refine Ev.bind ht (Ev.bind (spec_pairGet _ key) (Ev.bind ht (Ev.bind (impl_pairGet _ key) (Ev.pos rfl ?_))))
  rw [bne_self_eq_false]
  exact hj

end Go.Proofs.Ytonfmdgklgdgfaa.X.Pure
