import Derived.Test.YtonfmdgklgdgfaaX0
import Derived.Test.YtonfmdgklgdgfaaHEv
import Derived.Test.YtonfmdgklgdgfaaRToPair
import Derived.Test.YtonfmdgklgdgfaaX6
namespace Go.Proofs.Ytonfmdgklgdgfaa.X
open Go.RowKit Go.Proofs.YtonfmdgklgdgfaaW.PrintWords Go.Proofs.YtonfmdgklgdgfaaW.PrintLast Go.Proofs.YtonfmdgklgdgfaaW.PrintMore
attribute [local go_sem] xbin_geq xbin_leq xbin_gtr max2_int min2_int max_two min_two max_three min_three max_four min_four   -- for this text's walks alone
set_option linter.unusedVariables false
set_option linter.unusedSimpArgs false

theorem to_PairS_loop (rest : List S63) : ∀ (pre : List S63), ((pre ++ rest).length : Int) ≤ 1048576 → (∀ y ∈ rest, sm63 1048576 y) →
    Ev (fun k => laws_toPairS.l0 k (pre ++ rest) (pre.map cv63 ++ List.replicate rest.length z65) ((pre.length : Nat) : Int)) ((pre ++ rest).map cv63) := by
  induction rest with
  | nil =>
    intro pre hl hs
    refine Ev.succ ?_
    simp only [laws_toPairS.l0]
    exact Ev.neg (by simp) (Ev.is (by simp))
  | cons x rest ih =>
    intro pre hl hs
    have hx : rd_T63 (pre ++ x :: rest) ((pre.length : Nat) : Int) = x := by simp [rd_T63, List.getD_eq_getElem?_getD]
    have hlt : ((pre.length : Nat) : Int) < ((pre ++ x :: rest).length : Int) := by simp; omega
    have hw : wrap64 (((pre.length : Nat) : Int) + 1) = (((pre ++ [x]).length : Nat) : Int) := by rw [← len_snoc]; exact wrap_at (by omega)
    have hset : ∀ v : S65, ((pre.map cv63 ++ List.replicate (x :: rest).length z65).set ((pre.length : Nat) : Int).toNat v) = (pre.map cv63 ++ [v]) ++ List.replicate rest.length z65 := fun v => by rw [Int.toNat_natCast, List.length_cons, List.replicate_succ]; simp
    have hi := ih (pre ++ [x]) (by simpa using hl) (fun y hy => hs y (List.mem_cons_of_mem _ hy))
    refine Ev.succ ?_
    simp only [laws_toPairS.l0, hx]
    refine Ev.pos hlt (Ev.pos (by omega) ?_)
    refine Ev.bindk (to_Pair x) ?_
    refine Ev.pos (by simp; omega) ?_
    simp only [hset, hw]
    have e1 : pre ++ x :: rest = (pre ++ [x]) ++ rest := by simp
    have e2 : (pre ++ [x]).map cv63 = pre.map cv63 ++ [cv63 x] := by simp
    rw [e1]
    rw [e2] at hi
    exact hi
theorem to_PairS (l : List S63) (hs : ((l.length : Int) ≤ 1048576 ∧ ∀ y ∈ l, sm63 1048576 y)) : Ev (fun k => laws_toPairS.f k l) (l.map cv63) := by
  have hl : (l.length : Int) ≤ 1048576 := hs.1
  unfold laws_toPairS.f
  refine Ev.pos (by omega) (Ev.pos (by omega) ?_)
  have h := to_PairS_loop l [] (by simpa using hl) hs.2
  simpa using h

end Go.Proofs.Ytonfmdgklgdgfaa.X
