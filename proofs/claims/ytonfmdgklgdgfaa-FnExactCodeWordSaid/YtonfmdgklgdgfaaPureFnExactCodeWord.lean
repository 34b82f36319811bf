/- The law FnExactCodeWord returns true for every int: the program's CodeWord answers as the reference. No conditions. -/
import Derived.Test.YtonfmdgklgdgfaaPFnExactCodeWordx1
set_option linter.unusedSimpArgs false
namespace Go.Proofs.Ytonfmdgklgdgfaa.Pure
open Go.RowKit Go.Proofs.Ytonfmdgklgdgfaa.PFnExactCodeWord Go.Proofs.YtonfmdgklgdgfaaW.PrintWords Go.Proofs.YtonfmdgklgdgfaaW.PrintLast

theorem FnExactCodeWord : laws_FnExactCodeWord.Pure := by
  intro a0 _
  unfold laws_FnExactCodeWord.f spec_CodeWord.f impl_CodeWord.f impl_codeWords.f impl_within.f
  simp only [Option.bind_some, List.length_cons, List.length_nil]
  by_cases h0 : a0 < 0
  · rw [if_pos h0, if_neg (show ¬ (a0 ≥ 0) by omega)]
    simp
  · rw [if_neg h0]
    by_cases h1 : a0 ≥ ((20 : Nat) : Int)
    · have h2 : decide (a0 ≤ wrap64 (((20 : Nat) : Int) - 1)) = false := decide_eq_false (by unfold wrap64; omega)
      rw [if_pos (by omega), if_pos (show a0 ≥ 0 by omega)]
      simp only [Nat.zero_add, Nat.reduceAdd, h2, Option.bind_some]
      simp
    · have h2 : decide (a0 ≤ wrap64 (((20 : Nat) : Int) - 1)) = true := decide_eq_true (by unfold wrap64; omega)
      rw [if_neg (by omega), if_pos (show a0 ≥ 0 by omega)]
      simp only [Nat.zero_add, Nat.reduceAdd, h2, Option.bind_some, if_true]
      rw [if_pos (show 0 ≤ a0 by omega), if_pos (show a0 < ((20 : Nat) : Int) by omega)]
      simp only [Option.bind_some, if_true]

end Go.Proofs.Ytonfmdgklgdgfaa.Pure
