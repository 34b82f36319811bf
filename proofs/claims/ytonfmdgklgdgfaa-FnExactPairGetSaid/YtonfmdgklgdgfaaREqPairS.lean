import Derived.Test.YtonfmdgklgdgfaaX0
import Derived.Test.YtonfmdgklgdgfaaHEv
import Derived.Test.YtonfmdgklgdgfaaREqPair
import Derived.Test.YtonfmdgklgdgfaaX8
namespace Go.Proofs.Ytonfmdgklgdgfaa.X
open Go.RowKit Go.Proofs.YtonfmdgklgdgfaaW.PrintWords Go.Proofs.YtonfmdgklgdgfaaW.PrintLast Go.Proofs.YtonfmdgklgdgfaaW.PrintMore
attribute [local go_sem] xbin_geq xbin_leq xbin_gtr max2_int min2_int max_two min_two max_three min_three max_four min_four   -- for this text's walks alone
set_option linter.unusedVariables false
set_option linter.unusedSimpArgs false

theorem eq_PairS_loop (rest : List S65) : ∀ (pre : List S65), (pre ++ rest).length ≤ 9223372036854775807 → (∀ y ∈ rest, len65 y) → Ev (fun k => laws_eqPairS.l0 k (pre ++ rest) (pre ++ rest) ((pre.length : Nat) : Int)) true := by
  induction rest with
  | nil =>
    intro pre hl hs
    refine Ev.succ ?_
    simp only [laws_eqPairS.l0]
    exact Ev.neg (by simp) (Ev.is rfl)
  | cons x rest ih =>
    intro pre hl hs
    have hx : rd_T65 (pre ++ x :: rest) ((pre.length : Nat) : Int) = x := by simp [rd_T65, List.getD_eq_getElem?_getD]
    have hlt : ((pre.length : Nat) : Int) < ((pre ++ x :: rest).length : Int) := by simp; omega
    have hwp : wrap64 (((pre.length : Nat) : Int) + 1) = (((pre ++ [x]).length : Nat) : Int) := by rw [← len_snoc]; exact wrap_at (by simp at hl; omega)
    have e1 : pre ++ x :: rest = (pre ++ [x]) ++ rest := by simp
    have hi := ih (pre ++ [x]) (by rw [← e1]; exact hl) (fun y hy => hs y (List.mem_cons_of_mem _ hy))
    rw [← e1] at hi
    refine Ev.succ ?_
    simp only [laws_eqPairS.l0, hx, hwp]
    exact Ev.pos hlt (Ev.pos (by omega) (Ev.pos hlt (Ev.bind (eq_Pair x (hs x List.mem_cons_self)) (Ev.pos rfl hi))))
theorem eq_PairS (l : List S65) (h : l.length ≤ 9223372036854775807 ∧ ∀ y ∈ l, len65 y) : Ev (fun k => laws_eqPairS.f k l l) true := by
  unfold laws_eqPairS.f
  have hh := eq_PairS_loop l [] (by simpa using h.1) h.2
  exact Ev.pos rfl (by simpa using hh)

end Go.Proofs.Ytonfmdgklgdgfaa.X
