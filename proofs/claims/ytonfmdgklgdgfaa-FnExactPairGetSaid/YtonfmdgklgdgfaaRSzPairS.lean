import Derived.Test.YtonfmdgklgdgfaaX0
import Derived.Test.YtonfmdgklgdgfaaHEv
import Derived.Test.YtonfmdgklgdgfaaRSzPair
import Derived.Test.YtonfmdgklgdgfaaRToPair
import Derived.Test.YtonfmdgklgdgfaaX4
namespace Go.Proofs.Ytonfmdgklgdgfaa.X
open Go.RowKit Go.Proofs.YtonfmdgklgdgfaaW.PrintWords Go.Proofs.YtonfmdgklgdgfaaW.PrintLast Go.Proofs.YtonfmdgklgdgfaaW.PrintMore
attribute [local go_sem] xbin_geq xbin_leq xbin_gtr max2_int min2_int max_two min_two max_three min_three max_four min_four   -- for this text's walks alone
set_option linter.unusedVariables false
set_option linter.unusedSimpArgs false

theorem sz_PairS_loop (B : Int) (hB : B ≤ 1048576) (rest : List S63) : ∀ (pre : List S63) (left : Int), (pre ++ rest).length ≤ 9223372036854775807 → (∀ y ∈ rest, wl63 y) → 0 ≤ left → left ≤ B →
    ∃ r, Ev (fun k => laws_szPairS.l0 k (pre ++ rest) left ((pre.length : Nat) : Int)) r ∧ (0 ≤ r → r ≤ left ∧ ∀ y ∈ rest, sm63 B y) := by
  induction rest with
  | nil =>
    intro pre left hl hw h0 h1
    refine ⟨left, Ev.succ ?_, fun _ => ⟨Int.le_refl _, fun y hy => by cases hy⟩⟩
    simp only [laws_szPairS.l0]
    exact Ev.neg (by simp) (Ev.is rfl)
  | cons x rest ih =>
    intro pre left hl hw h0 h1
    have hx : rd_T63 (pre ++ x :: rest) ((pre.length : Nat) : Int) = x := by simp [rd_T63, List.getD_eq_getElem?_getD]
    have hlt : ((pre.length : Nat) : Int) < ((pre ++ x :: rest).length : Int) := by simp; omega
    have hwp : wrap64 (((pre.length : Nat) : Int) + 1) = (((pre ++ [x]).length : Nat) : Int) := by rw [← len_snoc]; exact wrap_at (by omega)
    have e1 : pre ++ x :: rest = (pre ++ [x]) ++ rest := by simp
    have hl2 : ((pre ++ [x]) ++ rest).length ≤ 9223372036854775807 := by rw [← e1]; exact hl
    obtain ⟨r, hr, hq⟩ := sz_Pair x (hw x List.mem_cons_self) B left h0 h1 hB
    by_cases c : r < 0
    · refine ⟨-1, Ev.succ ?_, fun h => by omega⟩
      simp only [laws_szPairS.l0, hx]
      exact Ev.pos hlt (Ev.pos (by omega) (Ev.bind hr (Ev.pos c (Ev.is rfl))))
    · have hq' := hq (by omega)
      obtain ⟨r2, hr2, hq2⟩ := ih (pre ++ [x]) r hl2 (fun y hy => hw y (List.mem_cons_of_mem _ hy)) (by omega) (by omega)
      refine ⟨r2, Ev.succ ?_, fun h => ?_⟩
      · simp only [laws_szPairS.l0, hx, hwp]
        rw [← e1] at hr2
        exact Ev.pos hlt (Ev.pos (by omega) (Ev.bind hr (Ev.neg c hr2)))
      · have h3 := hq2 h
        refine ⟨by omega, fun y hy => ?_⟩
        rcases List.mem_cons.1 hy with rfl | hy
        · exact hq'.2
        · exact h3.2 y hy
theorem sz_PairS (l : List S63) (hw : (l.length ≤ maxLen ∧ ∀ y ∈ l, wl63 y)) (B left : Int) (h0 : 0 ≤ left) (h1 : left ≤ B) (hB : B ≤ 1048576) : ∃ r, Ev (fun k => laws_szPairS.f k l left) r ∧ (0 ≤ r → r ≤ left ∧ ((l.length : Int) ≤ B ∧ ∀ y ∈ l, sm63 B y)) := by
  have hl := Nat.le_trans hw.1 maxLen_le
  unfold laws_szPairS.f
  have e : wrap64 (left - (l.length : Int)) = left - (l.length : Int) := wrap_id (by omega) (by omega)
  simp only [e]
  by_cases c : left - (l.length : Int) < 0
  · exact ⟨-1, Ev.pos c (Ev.is rfl), fun h => by omega⟩
  · obtain ⟨r, hr, hq⟩ := sz_PairS_loop B hB l [] (left - (l.length : Int)) (by simpa using hl) hw.2 (by omega) (by omega)
    exact ⟨r, Ev.neg c (by simpa using hr), fun h => ⟨by have := (hq h).1; omega, by omega, (hq h).2⟩⟩

end Go.Proofs.Ytonfmdgklgdgfaa.X
