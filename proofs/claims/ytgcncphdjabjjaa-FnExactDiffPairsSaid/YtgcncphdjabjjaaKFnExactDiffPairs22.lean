import Derived.Test.YtgcncphdjabjjaaKFnExactDiffPairs3
import Derived.Test.YtgcncphdjabjjaaKFnExactDiffPairs5
import Derived.Test.YtgcncphdjabjjaaKFnExactDiffPairs6
import Derived.Test.YtgcncphdjabjjaaKFnExactDiffPairs7
import Derived.Test.YtgcncphdjabjjaaKFnExactDiffPairs8
import Derived.Test.YtgcncphdjabjjaaKFnExactDiffPairs9
import Derived.Test.YtgcncphdjabjjaaKFnExactDiffPairs10
import Derived.Test.YtgcncphdjabjjaaKFnExactDiffPairs11
import Derived.Test.YtgcncphdjabjjaaKFnExactDiffPairs12
import Derived.Test.YtgcncphdjabjjaaKFnExactDiffPairs13
import Derived.Test.YtgcncphdjabjjaaKFnExactDiffPairs21
import Derived.Test.YtgcncphdjabjjaaRows
import Derived.WalkKit
import Derived.ProofKit
import Derived.OpenShut
import Derived.ShutString
import Derived.ChangeOld
import Derived.Below
import Derived.SizedLaws
namespace Go.Proofs.Ytgcncphdjabjjaa.X
open Go.RowKit Go.Proofs.YtgcncphdjabjjaaW.PrintWords Go.Proofs.YtgcncphdjabjjaaW.PrintLast Go.Proofs.YtgcncphdjabjjaaW.PrintMore
attribute [local go_sem] xbin_geq xbin_leq xbin_gtr max2_int min2_int max_two min_two max_three min_three max_four min_four
set_option linter.unusedVariables false
set_option linter.unusedSimpArgs false
def Rises (l : List S76) : Prop := l.Pairwise fun a b => Op.bytesLess a.f0.toList b.f0.toList = true
instance risesDec (l : List S76) : Decidable (Rises l) := by unfold Rises; infer_instance
def okP (p : S76) : Bool := keyB p.f0 && decide (p.f1.size ≤ 90)
def chainB : Option S76 → List S76 → Bool
  | _, [] => true
  | none, p :: r => okP p && chainB (some p) r
  | some q, p :: r => okP p && (Op.bytesLess q.f0.toList p.f0.toList && chainB (some p) r)
def pairsB (l : List S76) : Bool := decide (l.length ≤ 60) && chainB none l
theorem rd_at (l : List S76) (pre rest : List S76) (x : S76) (h : l = pre ++ x :: rest) : rd_T76 l ((pre.length : Nat) : Int) = x := by
  subst h
  simp [rd_T76, List.getD_eq_getElem?_getD]
theorem spec_pair (p : S76) : spec_l01Pair.f p.f0 p.f1 = some (okP p) := by
  unfold spec_l01Pair.f okP
  have e : ((p.f1.size : Int) ≤ 90) = (p.f1.size ≤ 90) := propext (by omega)
  rw [spec_key, Option.bind_some]
  cases keyB p.f0 <;> simp [e]
theorem impl_pair (p : S76) : impl_pairOK.f p.f0 p.f1 = some (okP p) := by
  unfold impl_pairOK.f okP
  have e : ((p.f1.size : Int) ≤ 90) = (p.f1.size ≤ 90) := propext (by omega)
  rw [impl_key, Option.bind_some]
  cases keyB p.f0 <;> simp [e]
theorem spec_rise_more (l : List S76) (hl : l.length ≤ 60) (rest : List S76) : ∀ (pre : List S76) (q : S76), l = (pre ++ [q]) ++ rest →
    Ev (fun k => spec_PairsOK.l0 k l (((pre ++ [q]).length : Nat) : Int)) (chainB (some q) rest) := by
  induction rest with
  | nil =>
    intro pre q h
    refine Ev.succ ?_
    simp only [spec_PairsOK.l0]
    exact Ev.neg (by rw [h]; simp) (Ev.is rfl)
  | cons p r ih =>
    intro pre q h
    have hx := rd_at l (pre ++ [q]) r p h
    have hq := rd_at l pre (p :: r) q (by rw [h]; simp)
    have hlen : (pre ++ [q]).length < l.length := by rw [h]; simp
    have hw := wrap_at (n := (pre ++ [q]).length) (by omega)
    have hp : wrap64 ((((pre ++ [q]).length : Nat) : Int) - 1) = ((pre.length : Nat) : Int) := by rw [← len_snoc]; exact wrap_pred (by simp at hlen <;> omega)
    have hi := ih (pre ++ [q]) p (by rw [h]; simp)
    rw [← len_snoc] at hi
    refine Ev.succ ?_
    simp only [spec_PairsOK.l0, hx, hp, hq, hw]
    refine Ev.pos (by omega) (Ev.pos (by omega) (Ev.bindk (spec_pair p) ?_))
    cases ho : okP p with
    | false => exact Ev.neg (by simp) (Ev.is (by simp [chainB, ho]))
    | true =>
      refine Ev.pos rfl (Ev.pos (by simp <;> omega) (Ev.pos (by omega) (Ev.pos (by simp at hlen <;> omega) ?_)))
      cases hb : Op.bytesLess q.f0.toList p.f0.toList with
      | false => exact Ev.neg (by simp) (Ev.is (by simp [chainB, ho, hb]))
      | true => exact Ev.pos rfl (Ev.same hi (by simp [chainB, ho, hb]))
theorem spec_rise (l : List S76) (hl : l.length ≤ 60) : Ev (fun k => spec_PairsOK.l0 k l 0) (chainB none l) := by
  cases l with
  | nil =>
    refine Ev.succ ?_
    simp only [spec_PairsOK.l0]
    exact Ev.neg (by simp) (Ev.is rfl)
  | cons p r =>
    have hx := rd_at (p :: r) [] r p rfl
    simp only [List.length_nil, Int.natCast_zero] at hx
    have hi := spec_rise_more (p :: r) hl r [] p rfl
    refine Ev.succ ?_
    simp only [spec_PairsOK.l0, hx]
    refine Ev.pos (by simp <;> omega) (Ev.pos (by omega) (Ev.bindk (spec_pair p) ?_))
    cases ho : okP p with
    | false => exact Ev.neg (by simp) (Ev.is (by simp [chainB, ho]))
    | true =>
      have e0 : ((([] ++ [p] : List S76).length : Nat) : Int) = wrap64 (0 + 1) := by unfold wrap64; simp
      rw [e0] at hi
      exact Ev.pos rfl (Ev.neg (by omega) (Ev.same hi (by simp [chainB, ho])))
theorem spec_pairsOK (l : List S76) : Ev (fun k => spec_PairsOK.f k l) (pairsB l) := by
  unfold spec_PairsOK.f pairsB
  by_cases h1 : (l.length : Int) > 4096
  · exact Ev.pos h1 (Ev.is (by simp [show ¬ l.length ≤ 60 by omega]))
  · by_cases h2 : (l.length : Int) > 60
    · exact Ev.neg h1 (Ev.pos h2 (Ev.is (by simp [show ¬ l.length ≤ 60 by omega])))
    · exact Ev.neg h1 (Ev.neg h2 (Ev.same (spec_rise l (by omega)) (by simp [show l.length ≤ 60 by omega])))
theorem impl_rise_more (l : List S76) (hl : l.length < 9223372036854775807) (rest : List S76) : ∀ (pre : List S76) (q : S76), l = (pre ++ [q]) ++ rest →
    Ev (fun k => impl_risingPairs.l0 k l l (l.length : Int) (((pre ++ [q]).length : Nat) : Int)) (chainB (some q) rest) := by
  induction rest with
  | nil =>
    intro pre q h
    refine Ev.succ ?_
    simp only [impl_risingPairs.l0]
    exact Ev.neg (by rw [h]; simp) (Ev.is rfl)
  | cons p r ih =>
    intro pre q h
    have hx := rd_at l (pre ++ [q]) r p h
    have hq := rd_at l pre (p :: r) q (by rw [h]; simp)
    have hlen : (pre ++ [q]).length < l.length := by rw [h]; simp
    have hw := wrap_at (n := (pre ++ [q]).length) (by omega)
    have hp : wrap64 ((((pre ++ [q]).length : Nat) : Int) - 1) = ((pre.length : Nat) : Int) := by rw [← len_snoc]; exact wrap_pred (by simp at hlen <;> omega)
    have hi := ih (pre ++ [q]) p (by rw [h]; simp)
    rw [← len_snoc] at hi
    refine Ev.succ ?_
    simp only [impl_risingPairs.l0, hx, hp, hq, hw]
    refine Ev.pos (by omega) (Ev.pos (by omega) (Ev.pos (by omega) (Ev.bindk (impl_pair p) ?_)))
    cases ho : okP p with
    | false => exact Ev.neg (by simp) (Ev.is (by simp [chainB, ho]))
    | true =>
      refine Ev.pos rfl (Ev.pos (by simp <;> omega) (Ev.pos (by omega) (Ev.pos (by simp at hlen <;> omega) ?_)))
      cases hb : Op.bytesLess q.f0.toList p.f0.toList with
      | false => exact Ev.neg (by simp) (Ev.is (by simp [chainB, ho, hb]))
      | true => exact Ev.pos rfl (Ev.same hi (by simp [chainB, ho, hb]))
theorem impl_rising (l : List S76) (hl : l.length < 9223372036854775807) : Ev (fun k => impl_risingPairs.f k l) (chainB none l) := by
  unfold impl_risingPairs.f
  cases l with
  | nil =>
    refine Ev.succ ?_
    simp only [impl_risingPairs.l0]
    exact Ev.neg (by simp) (Ev.is rfl)
  | cons p r =>
    have hx := rd_at (p :: r) [] r p rfl
    simp only [List.length_nil, Int.natCast_zero] at hx
    have hi := impl_rise_more (p :: r) hl r [] p rfl
    refine Ev.succ ?_
    simp only [impl_risingPairs.l0, hx]
    refine Ev.pos (by simp <;> omega) (Ev.pos (by omega) (Ev.pos (by simp <;> omega) (Ev.bindk (impl_pair p) ?_)))
    cases ho : okP p with
    | false => exact Ev.neg (by simp) (Ev.is (by simp [chainB, ho]))
    | true =>
      have e0 : ((([] ++ [p] : List S76).length : Nat) : Int) = wrap64 (0 + 1) := by unfold wrap64; simp
      rw [e0] at hi
      exact Ev.pos rfl (Ev.neg (by omega) (Ev.same hi (by simp [chainB, ho])))
end Go.Proofs.Ytgcncphdjabjjaa.X
namespace Go.Proofs.Ytgcncphdjabjjaa.X
open Go.RowKit Go.Proofs.YtgcncphdjabjjaaW.PrintWords Go.Proofs.YtgcncphdjabjjaaW.PrintLast Go.Proofs.YtgcncphdjabjjaaW.PrintMore
attribute [local go_sem] xbin_geq xbin_leq xbin_gtr max2_int min2_int max_two min_two max_three min_three max_four min_four
set_option linter.unusedVariables false
set_option linter.unusedSimpArgs false
def dDel (a : S76) : S82 := ⟨a.f0, a.f1, (⟨#[]⟩ : ByteArray), true, false⟩
def dNew (b : S76) : S82 := ⟨b.f0, (⟨#[]⟩ : ByteArray), b.f1, false, true⟩
def dBoth (a b : S76) : S82 := ⟨a.f0, a.f1, b.f1, true, true⟩
def diffL : List S76 → List S76 → List S82
  | [], [] => []
  | a :: x, [] => dDel a :: diffL x []
  | [], b :: y => dNew b :: diffL [] y
  | a :: x, b :: y => if Op.bytesLess a.f0.toList b.f0.toList = true then dDel a :: diffL x (b :: y) else if Op.bytesLess b.f0.toList a.f0.toList = true then dNew b :: diffL (a :: x) y else if a.f1.toList = b.f1.toList then diffL x y else dBoth a b :: diffL x y
termination_by x y => x.length + y.length
theorem diffL_length (n : Nat) : ∀ x y : List S76, x.length + y.length ≤ n → (diffL x y).length ≤ x.length + y.length := by
  induction n with
  | zero =>
    intro x y h
    cases x with
    | nil =>
      cases y with
      | nil => simp [diffL]
      | cons b y => simp at h
    | cons a x => simp at h <;> omega
  | succ n ih =>
    intro x y h
    cases x with
    | nil =>
      cases y with
      | nil => simp [diffL]
      | cons b y =>
        have := ih [] y (by simp at * <;> omega)
        simp [diffL] at * <;> omega
    | cons a x =>
      cases y with
      | nil =>
        have := ih x [] (by simp at * <;> omega)
        simp [diffL] at * <;> omega
      | cons b y =>
        have h1 := ih x (b :: y) (by simp at * <;> omega)
        have h2 := ih (a :: x) y (by simp at * <;> omega)
        have h3 := ih x y (by simp at * <;> omega)
        rw [diffL]
        simp only [List.length_cons] at *
        split
        · simp only [List.length_cons]; omega
        · split
          · simp only [List.length_cons]; omega
          · split
            · omega
            · simp only [List.length_cons]; omega
theorem pair_drop {l : List S76} {i : Nat} (h : i < l.length) : l.drop i = rd_T76 l (i : Int) :: l.drop (i + 1) := by
  rw [List.drop_eq_getElem_cons h]
  simp [rd_T76, List.getD_eq_getElem?_getD, h]
theorem spec_diff_loop (l0 l1 : List S76) (h0 : l0.length ≤ 1000000) (h1 : l1.length ≤ 1000000) (n : Nat) : ∀ (i j : Nat) (acc : List S82), i ≤ l0.length → j ≤ l1.length → (l0.length - i) + (l1.length - j) ≤ n → acc.length + n ≤ 4000000 → Ev (fun k => spec_l05Diff.l0 k l0 l1 acc (i : Int) (j : Int)) (acc ++ diffL (l0.drop i) (l1.drop j)) := by
  induction n with
  | zero =>
    intro i j acc hi hj hn _
    refine Ev.succ ?_
    simp only [spec_l05Diff.l0]
    refine Ev.neg (by omega) ?_
    refine Ev.succ ?_
    simp only [spec_l05Diff.j1]
    exact Ev.neg (by simp <;> omega) (Ev.is (by rw [List.drop_eq_nil_of_le (by omega), List.drop_eq_nil_of_le (by omega)]; simp [diffL]))
  | succ n ih =>
    intro i j acc hi hj hn hacc
    have eDel : i < l0.length → ∀ R, Ev (fun k => spec_l05Diff.l0 k l0 l1 (acc ++ [dDel (rd_T76 l0 (i : Int))]) ((i + 1 : Nat) : Int) (j : Int)) R → Ev (fun k => spec_l05Diff.j2 k l0 l1 acc (i : Int) (j : Int) true) R := by
      intro h R hR
      refine Ev.succ ?_
      simp only [spec_l05Diff.j2, wrap_at (n := i) (by omega)]
      exact Ev.pos (by trivial) (Ev.pos (by omega) (Ev.pos (by omega) (Ev.pos (by omega) hR)))
    have eNew : j < l1.length → ∀ R, Ev (fun k => spec_l05Diff.l0 k l0 l1 (acc ++ [dNew (rd_T76 l1 (j : Int))]) (i : Int) ((j + 1 : Nat) : Int)) R → Ev (fun k => spec_l05Diff.j3 k l0 l1 acc (i : Int) (j : Int) true) R := by
      intro h R hR
      refine Ev.succ ?_
      simp only [spec_l05Diff.j3, wrap_at (n := j) (by omega)]
      exact Ev.pos (by trivial) (Ev.pos (by omega) (Ev.pos (by omega) (Ev.pos (by omega) hR)))
    refine Ev.succ ?_
    simp only [spec_l05Diff.l0]
    by_cases hi2 : i < l0.length
    · refine Ev.pos (by omega) ?_
      refine Ev.succ ?_
      simp only [spec_l05Diff.j1]
      refine Ev.pos (by trivial) ?_
      have i1 := pair_drop hi2
      by_cases hj2 : j < l1.length
      · have i2 := pair_drop hj2
        refine Ev.neg (by omega) (Ev.pos (by omega) (Ev.pos (by omega) (Ev.pos (by omega) (Ev.pos (by omega) ?_))))
        rw [i1, i2, diffL]
        cases hb : Op.bytesLess (rd_T76 l0 (i : Int)).f0.toList (rd_T76 l1 (j : Int)).f0.toList with
        | true =>
          refine Ev.same (eDel hi2 _ (ih (i + 1) j _ (by omega) (by omega) (by omega) (by simp <;> omega))) ?_
          rw [if_pos rfl, i2]
          simp
        | false =>
          refine Ev.same (r := acc ++ (if Op.bytesLess (rd_T76 l1 (j : Int)).f0.toList (rd_T76 l0 (i : Int)).f0.toList = true then _ else _)) ?_ (by rw [if_neg Bool.false_ne_true])
          refine Ev.succ ?_
          simp only [spec_l05Diff.j2]
          refine Ev.neg (by simp) (Ev.neg (by omega) (Ev.pos (by omega) (Ev.pos (by omega) (Ev.pos (by omega) (Ev.pos (by omega) ?_)))))
          cases hc : Op.bytesLess (rd_T76 l1 (j : Int)).f0.toList (rd_T76 l0 (i : Int)).f0.toList with
          | true =>
            refine Ev.same (eNew hj2 _ (ih i (j + 1) _ (by omega) (by omega) (by omega) (by simp <;> omega))) ?_
            rw [if_pos rfl, i1]
            simp
          | false =>
            refine Ev.same (r := acc ++ (if (rd_T76 l0 (i : Int)).f1.toList = (rd_T76 l1 (j : Int)).f1.toList then _ else _)) ?_ (by rw [if_neg Bool.false_ne_true])
            refine Ev.succ ?_
            simp only [spec_l05Diff.j3, wrap_at (n := i) (by omega), wrap_at (n := j) (by omega)]
            refine Ev.neg (by simp) (Ev.pos (by omega) (Ev.pos (by omega) (Ev.pos (by omega) (Ev.pos (by omega) ?_))))
            by_cases hd : (rd_T76 l0 (i : Int)).f1.toList = (rd_T76 l1 (j : Int)).f1.toList
            · exact Ev.pos hd (Ev.same (ih (i + 1) (j + 1) acc (by omega) (by omega) (by omega) (by omega)) (by rw [if_pos hd]))
            · exact Ev.neg hd (Ev.pos (by omega) (Ev.same (ih (i + 1) (j + 1) _ (by omega) (by omega) (by omega) (by simp <;> omega)) (by rw [if_neg hd]; simp [dBoth])))
      · have e2 : l1.drop j = [] := List.drop_eq_nil_of_le (by omega)
        refine Ev.pos (by omega) ?_
        rw [i1, e2, diffL]
        refine Ev.same (eDel hi2 _ (ih (i + 1) j _ (by omega) (by omega) (by omega) (by simp <;> omega))) ?_
        rw [e2]
        simp
    · refine Ev.neg (by omega) ?_
      have e1 : l0.drop i = [] := List.drop_eq_nil_of_le (by omega)
      refine Ev.succ ?_
      simp only [spec_l05Diff.j1]
      by_cases hj2 : j < l1.length
      · have i2 := pair_drop hj2
        refine Ev.pos (by simp <;> omega) (Ev.neg (by omega) (Ev.neg (by omega) ?_))
        refine Ev.succ ?_
        simp only [spec_l05Diff.j2]
        refine Ev.neg (by simp) (Ev.pos (by omega) ?_)
        rw [e1, i2, diffL]
        refine Ev.same (eNew hj2 _ (ih i (j + 1) _ (by omega) (by omega) (by omega) (by simp <;> omega))) ?_
        rw [e1]
        simp
      · exact Ev.neg (by simp <;> omega) (Ev.is (by rw [e1, List.drop_eq_nil_of_le (by omega)]; simp [diffL]))
theorem spec_diff (l0 l1 : List S76) (h0 : l0.length ≤ 1000000) (h1 : l1.length ≤ 1000000) : Ev (fun k => spec_l05Diff.f k l0 l1) (diffL l0 l1) := by
  have := spec_diff_loop l0 l1 h0 h1 _ 0 0 [] (by omega) (by omega) (Nat.le_refl _) (by simp <;> omega)
  simpa [spec_l05Diff.f] using this
theorem impl_diff_loop (n : Nat) : ∀ (x y : List S76) (acc : List S82), x.length + y.length ≤ n → acc.length + n ≤ 4000000 → Ev (fun k => impl_diffs.l0 k x y acc) (acc ++ diffL x y) := by
  induction n with
  | zero =>
    intro x y acc hn _
    have ex : x = [] := List.eq_nil_of_length_eq_zero (by omega)
    have ey : y = [] := List.eq_nil_of_length_eq_zero (by omega)
    subst ex ey
    refine Ev.succ ?_
    simp only [impl_diffs.l0]
    refine Ev.neg (by simp) ?_
    refine Ev.succ ?_
    simp only [impl_diffs.j1]
    exact Ev.neg (by simp) (Ev.is (by simp [diffL]))
  | succ n ih =>
    intro x y acc hn hacc
    cases x with
    | nil =>
      refine Ev.succ ?_
      simp only [impl_diffs.l0]
      refine Ev.neg (by simp) ?_
      refine Ev.succ ?_
      simp only [impl_diffs.j1]
      cases y with
      | nil => exact Ev.neg (by simp) (Ev.is (by simp [diffL]))
      | cons b y =>
        refine Ev.pos (by simp <;> omega) (Ev.neg (by simp <;> omega) (Ev.neg (by simp) ?_))
        refine Ev.succ ?_
        simp only [impl_diffs.j2]
        refine Ev.neg (by simp) (Ev.pos (by simp <;> omega) ?_)
        refine Ev.succ ?_
        simp only [impl_diffs.j3]
        refine Ev.pos (by trivial) (Ev.pos (by simp <;> omega) (Ev.pos (by omega) (Ev.pos (by simp <;> omega) ?_)))
        refine Ev.same (ih [] y _ (by simp at hn ⊢ <;> omega) (by simp <;> omega)) ?_
        rw [diffL]
        simp [dNew, rd_T76]
    | cons a x =>
      have ra : rd_T76 (a :: x) 0 = a := rfl
      refine Ev.succ ?_
      simp only [impl_diffs.l0]
      refine Ev.pos (by simp <;> omega) ?_
      refine Ev.succ ?_
      simp only [impl_diffs.j1]
      refine Ev.pos (by trivial) ?_
      have eDel : ∀ y R, Ev (fun k => impl_diffs.l0 k x y (acc ++ [dDel a])) R → Ev (fun k => impl_diffs.j2 k (a :: x) y acc true) R := by
        intro y R hR
        refine Ev.succ ?_
        simp only [impl_diffs.j2, ra]
        exact Ev.pos (by trivial) (Ev.pos (by simp <;> omega) (Ev.pos (by omega) (Ev.pos (by simp <;> omega) hR)))
      cases y with
      | nil =>
        refine Ev.pos (by simp <;> omega) (Ev.same (eDel [] _ (ih x [] _ (by simp at hn ⊢ <;> omega) (by simp <;> omega))) ?_)
        rw [diffL]
        simp
      | cons b y =>
        have rb : rd_T76 (b :: y) 0 = b := rfl
        simp only [ra, rb]
        refine Ev.neg (by simp <;> omega) (Ev.pos (by simp <;> omega) (Ev.pos (by simp <;> omega) (Ev.pos (by simp <;> omega) ?_)))
        rw [diffL]
        cases hb : Op.bytesLess a.f0.toList b.f0.toList with
        | true =>
          refine Ev.same (eDel (b :: y) _ (ih x (b :: y) _ (by simp at hn ⊢ <;> omega) (by simp <;> omega))) ?_
          rw [if_pos rfl]
          simp
        | false =>
          refine Ev.same (r := acc ++ (if Op.bytesLess b.f0.toList a.f0.toList = true then _ else _)) ?_ (by rw [if_neg Bool.false_ne_true])
          refine Ev.succ ?_
          simp only [impl_diffs.j2, ra, rb]
          refine Ev.neg (by simp) (Ev.neg (by simp <;> omega) (Ev.pos (by simp <;> omega) (Ev.pos (by simp <;> omega) ?_)))
          cases hc : Op.bytesLess b.f0.toList a.f0.toList with
          | true =>
            refine Ev.succ ?_
            simp only [impl_diffs.j3, ra, rb]
            refine Ev.pos (by trivial) (Ev.pos (by simp <;> omega) (Ev.pos (by omega) (Ev.pos (by simp <;> omega) ?_)))
            refine Ev.same (ih (a :: x) y _ (by simp at hn ⊢ <;> omega) (by simp <;> omega)) ?_
            rw [if_pos (by trivial)]
            simp [dNew]
          | false =>
            refine Ev.same (r := acc ++ (if a.f1.toList = b.f1.toList then _ else _)) ?_ (by rw [if_neg Bool.false_ne_true])
            refine Ev.succ ?_
            simp only [impl_diffs.j3, ra, rb]
            refine Ev.neg (by simp) (Ev.pos (by simp <;> omega) (Ev.pos (by simp <;> omega) ?_))
            by_cases hd : a.f1.toList = b.f1.toList
            · exact Ev.pos hd (Ev.pos (by simp <;> omega) (Ev.pos (by simp <;> omega) (Ev.same (ih x y acc (by simp at hn ⊢ <;> omega) (by omega)) (by rw [if_pos hd]))))
            · exact Ev.neg hd (Ev.pos (by omega) (Ev.pos (by simp <;> omega) (Ev.pos (by simp <;> omega) (Ev.same (ih x y _ (by simp at hn ⊢ <;> omega) (by simp <;> omega)) (by rw [if_neg hd]; simp [dBoth])))))
theorem impl_diff_all (l0 l1 : List S76) (h0 : l0.length ≤ 1000000) (h1 : l1.length ≤ 1000000) : Ev (fun k => impl_diffs.f k l0 l1) (diffL l0 l1) := by
  have := impl_diff_loop (l0.length + l1.length) l0 l1 [] (Nat.le_refl _) (by simp <;> omega)
  simpa [impl_diffs.f] using this
end Go.Proofs.Ytgcncphdjabjjaa.X
namespace Go.Proofs.Ytgcncphdjabjjaa.X
open Go.RowKit Go.Proofs.YtgcncphdjabjjaaW.PrintWords Go.Proofs.YtgcncphdjabjjaaW.PrintLast Go.Proofs.YtgcncphdjabjjaaW.PrintMore
attribute [local go_sem] xbin_geq xbin_leq xbin_gtr max2_int min2_int max_two min_two max_three min_three max_four min_four
set_option linter.unusedVariables false
set_option linter.unusedSimpArgs false
theorem impl_pairsOK (l : List S76) : Ev (fun k => impl_PairsOK.f k l) (pairsB l) := by
  unfold impl_PairsOK.f pairsB
  by_cases h : (l.length : Int) ≤ 60
  · exact Ev.pos h (Ev.bind (impl_rising l (by omega)) (Ev.is (by simp [show l.length ≤ 60 by omega])))
  · exact Ev.neg h (Ev.is (by simp [show ¬ l.length ≤ 60 by omega]))
end Go.Proofs.Ytgcncphdjabjjaa.X
namespace Go.Proofs.Ytgcncphdjabjjaa.X
open Go.RowKit Go.Proofs.YtgcncphdjabjjaaW.PrintWords Go.Proofs.YtgcncphdjabjjaaW.PrintLast Go.Proofs.YtgcncphdjabjjaaW.PrintMore
attribute [local go_sem] xbin_geq xbin_leq xbin_gtr max2_int min2_int max_two min_two max_three min_three max_four min_four
set_option linter.unusedVariables false
set_option linter.unusedSimpArgs false
def diffP (x y : List S76) : List S82 × Int := if 4096 < x.length ∨ 4096 < y.length then ([], 2) else if pairsB x = true then (if pairsB y = true then (diffL x y, 0) else ([], 1)) else ([], 1)
theorem diffP_length (x y : List S76) : (diffP x y).1.length ≤ x.length + y.length := by
  unfold diffP
  split
  · simp
  · split
    · split
      · exact diffL_length _ x y (Nat.le_refl _)
      · simp
    · simp
theorem spec_diffPairs (x y : List S76) : Ev (fun k => spec_DiffPairs.f k x y) (diffP x y) := by
  have hj : ∀ b : Bool, (b = true ↔ (4096 < x.length ∨ 4096 < y.length)) → Ev (fun k => spec_DiffPairs.j0 k x y b) (diffP x y) := by
    intro b hb
    refine Ev.succ ?_
    simp only [spec_DiffPairs.j0]
    cases b with
    | true => exact Ev.pos rfl (Ev.is (by simp [diffP, hb.1 rfl]))
    | false =>
      have hn : ¬ (4096 < x.length ∨ 4096 < y.length) := fun h => by have := hb.2 h; cases this
      refine Ev.neg (by simp) (Ev.bind (spec_pairsOK x) ?_)
      cases h1 : pairsB x with
      | false => exact Ev.neg (by simp) (Ev.is (by simp [diffP, hn, h1]))
      | true =>
        refine Ev.pos rfl (Ev.bind (spec_pairsOK y) ?_)
        cases h2 : pairsB y with
        | false => exact Ev.neg (by simp) (Ev.is (by simp [diffP, hn, h1, h2]))
        | true => exact Ev.pos rfl (Ev.bind (spec_diff x y (by omega) (by omega)) (Ev.is (by simp [diffP, hn, h1, h2])))
  unfold spec_DiffPairs.f
  by_cases h : (x.length : Int) > 4096
  · exact Ev.pos h (hj true (by simp; omega))
  · refine Ev.neg h (hj _ ?_)
    simp only [decide_eq_true_eq]
    omega
theorem impl_diffPairs (x y : List S76) : Ev (fun k => impl_DiffPairs.f k x y) (diffP x y) := by
  have hj : ∀ b : Bool, (b = true ↔ (4096 < x.length ∨ 4096 < y.length)) → Ev (fun k => impl_DiffPairs.j0 k x y b) (diffP x y) := by
    intro b hb
    refine Ev.succ ?_
    simp only [impl_DiffPairs.j0]
    cases b with
    | true => exact Ev.pos rfl (Ev.is (by simp [diffP, hb.1 rfl]))
    | false =>
      have hn : ¬ (4096 < x.length ∨ 4096 < y.length) := fun h => by have := hb.2 h; cases this
      refine Ev.neg (by simp) (Ev.bind (impl_pairsOK x) ?_)
      cases h1 : pairsB x with
      | false => exact Ev.neg (by simp) (Ev.is (by simp [diffP, hn, h1]))
      | true =>
        refine Ev.pos rfl (Ev.bind (impl_pairsOK y) ?_)
        cases h2 : pairsB y with
        | false => exact Ev.neg (by simp) (Ev.is (by simp [diffP, hn, h1, h2]))
        | true => exact Ev.pos rfl (Ev.bind (impl_diff_all x y (by omega) (by omega)) (Ev.is (by simp [diffP, hn, h1, h2])))
  unfold impl_DiffPairs.f
  by_cases h : (x.length : Int) > 4096
  · exact Ev.pos h (hj true (by simp; omega))
  · refine Ev.neg h (hj _ ?_)
    simp only [decide_eq_true_eq]
    omega
end Go.Proofs.Ytgcncphdjabjjaa.X
set_option linter.unusedSimpArgs false
set_option linter.unusedVariables false
namespace Go.Proofs.Ytgcncphdjabjjaa.X.Pure
open Go.RowKit Go.Proofs.Ytgcncphdjabjjaa.X Go.Proofs.YtgcncphdjabjjaaW.PrintWords Go.Proofs.YtgcncphdjabjjaaW.PrintLast
theorem FnExactDiffPairs : laws_FnExactDiffPairs.Pure := by
  intro l0 l1 hw0 hw1
  refine Ev.rounds (g := fun k => laws_FnExactDiffPairs.f k l0 l1) ?_
  unfold laws_FnExactDiffPairs.f
  obtain ⟨r, hr, hq⟩ := sz_PairS l0 hw0 1048576 1048576 (by omega) (by omega) (by omega)
  refine Ev.bind hr ?_
  by_cases h : r < 0
  · exact Ev.pos h (Ev.is rfl)
  refine Ev.neg h ?_
  obtain ⟨r1, hr1, hq1⟩ := sz_PairS l1 hw1 1048576 r (by omega) (hq (by omega)).1 (by omega)
  refine Ev.bind hr1 ?_
  by_cases h1 : r1 < 0
  · exact Ev.pos h1 (Ev.is rfl)
  refine Ev.neg h1 ?_
  have hs0 := (hq (by omega)).2
  have hs1 := (hq1 (by omega)).2
  have t0 := to_PairS l0 hs0
  have t1 := to_PairS l1 hs1
  have n0 : (l0.map cv73).length ≤ 1048576 := by rw [List.length_map]; have := hs0.1; omega
  have n1 : (l1.map cv73).length ≤ 1048576 := by rw [List.length_map]; have := hs1.1; omega
  have hn := diffP_length (l0.map cv73) (l1.map cv73)
  have e0 := eq_PairS (l0.map cv73) ⟨by omega, fun y _ => ⟨trivial, trivial⟩⟩
  have e1 := eq_PairS (l1.map cv73) ⟨by omega, fun y _ => ⟨trivial, trivial⟩⟩
  have iD := impl_diffPairs (l0.map cv73) (l1.map cv73)
  have sD := spec_diffPairs (l0.map cv73) (l1.map cv73)
  have m0 := mark_PairS (l0.map cv73) 1 (by omega) (by omega) (by omega)
  have m1 := mark_PairS (l1.map cv73) (1 + 2 * ((l0.map cv73).length : Int)) (by omega) (by omega) (by omega)
  generalize l0.map cv73 = x at *
  generalize l1.map cv73 = y at *
  generalize hR : diffP x y = R at *
  have eR := eq_DiffS R.1 ⟨by omega, fun y _ => ⟨trivial, trivial, trivial, trivial, trivial⟩⟩
  have mR := mark_DiffS R.1 1 (by omega) (by omega) (by omega)
  have hH := held_DiffS R.1 1 (by omega) (by omega) (by omega)
  have hj2 : Ev (fun k => laws_FnExactDiffPairs.j2 k (mk_DiffS R.1 1) (1 + 5 * (R.1.length : Int)) false) true := by
    refine Ev.succ ?_
    simp only [laws_FnExactDiffPairs.j2]
    exact Ev.neg (by simp) (Ev.bind hH (Ev.neg (by omega) (Ev.pos rfl (Ev.is rfl))))
  have hj1 : Ev (fun k => laws_FnExactDiffPairs.j1 k l0 l1 R.1 R.2 R.1 false) true := by
    refine Ev.succ ?_
    simp only [laws_FnExactDiffPairs.j1]
    refine Ev.neg (by simp) (Ev.bind mR (Ev.bind hH (Ev.neg (by omega) (Ev.pos rfl (Ev.bind t0 (Ev.bind t1 (Ev.bind iD (Ev.bind eR (Ev.pos rfl ?_)))))))))
    rw [bne_self_eq_false]
    exact hj2
  have hj0 : Ev (fun k => laws_FnExactDiffPairs.j0 k l0 l1 R.1 R.2 x y R.1 R.2 false) true := by
    refine Ev.succ ?_
    simp only [laws_FnExactDiffPairs.j0]
    refine Ev.neg (by simp) (Ev.bind t0 (Ev.bind e0 (Ev.pos rfl (Ev.bind t1 (Ev.bind e1 (Ev.pos rfl (Ev.bind m0 (Ev.bind m1 (Ev.neg (by simp only; omega) (Ev.bind eR (Ev.pos rfl ?_)))))))))))
    rw [bne_self_eq_false]
    exact hj1
  refine Ev.bind t0 (Ev.bind t1 (Ev.bind sD (Ev.bind t0 (Ev.bind t1 (Ev.bind iD (Ev.bind eR (Ev.pos rfl ?_)))))))
  rw [bne_self_eq_false]
  exact hj0
end Go.Proofs.Ytgcncphdjabjjaa.X.Pure
namespace Go.Proofs.Ytgcncphdjabjjaa.fnExactDiffPairs
open Go.ChangeShapes Go.WideShapes Go.ChangeAt Go.RowKit Go.Proofs.Ytgcncphdjabjjaa.X Go.Proofs.YtgcncphdjabjjaaW.PrintWords
open Go.ChangeMaps (open_string shut_string)
set_option linter.unusedVariables false
theorem own : ownKnob Try.prog.godebug = none := by kernel_rfl
theorem laidOut : laidOutB Try.prog = true := by kernel_rfl
set_option maxRecDepth 100000 in
theorem lifted (os : Os) (started : os.Started) (H : Type) (enc : TypeId × Value → H) :
    ReturnsInHanded {} Try.checked os 4 .any (Rows.fnExactDiffPairsSpec.pre6 enc Try.prog Try.f4 Rows.fnExactDiffPairsRow.domain false) (Rows.fnExactDiffPairsSpec.post enc Try.prog Try.f4 false true false false) := by
  refine returnsInHanded_of_change_sized (C := Try.checked) own started (by kernel_rfl) Try.func4
    (ChangeSpec.witness6 (enc := enc) (C := Try.checked) false ⟨#[], #[.slice none 0 0, .slice none 0 0], []⟩ 8 (by kernel_rfl) (by kernel_rfl) (by kernel_rfl) (by kernel_rfl)) ?_
  intro W base args ds gs before hval0 hW hcnd hsz0 _
  have hsz : (DataW.weightsEach Try.prog (Try.f4.params.toList ++ Rows.fnExactDiffPairsSpec.plain.varTypes Try.prog) (ds ++ gs)).all (· ≤ reachBytes) = true := hsz0
  have hval : ∀ (j : Nat) t v, Try.f4.params[j]? = some t → args[j]? = some v → Value.okWide Try.prog W .any base t v := hval0
  have hW' := hW
  obtain ⟨p, q, hA0, hV, rfl, hfz, hnd⟩ := hW
  have hA : DataW.TrodAll enc Try.prog W 0 (fun _ => true) true Try.f4.params.toList args.toList ds p := hA0
  rw [Try.params4] at hA hval hsz
  obtain ⟨v0, vs0, d0, ds0, p0, q0, hargs, rfl, rfl, h0, r0⟩ := trodAll_cons hA
  obtain ⟨v1, vs1, d1, ds1, p1, q1, rfl, rfl, rfl, h1, r1⟩ := trodAll_cons r0
  obtain ⟨rfl, rfl, rfl⟩ := trodAll_nil r1
  obtain rfl : args = #[v0, v1] := by cases args; simp_all
  obtain ⟨rfl, rfl⟩ := trodVars_none hV
  have k0 := h0
  have lt0 : ∀ x ∈ p0, x.block < W.heap.size := by obtain ⟨m, hm⟩ := k0; exact DataW.trod_lt m _ _ _ hm
  obtain ⟨A0, len0, c0, rfl⟩ := okWide_slice Try.underlying22 (hval 0 22 v0 rfl rfl)
  obtain ⟨l0, rfl, hc0, hr0, hw0⟩ := Opens.slice_arg opens22 h0
  have k1 := h1
  have lt1 : ∀ x ∈ p1, x.block < W.heap.size := by obtain ⟨m, hm⟩ := k1; exact DataW.trod_lt m _ _ _ hm
  obtain ⟨A1, len1, c1, rfl⟩ := okWide_slice Try.underlying22 (hval 1 22 v1 rfl rfl)
  obtain ⟨l1, rfl, hc1, hr1, hw1⟩ := Opens.slice_arg opens22 h1
  clear hA0 hval0 hsz0 hsz
  obtain ⟨k, hP⟩ := X.Pure.FnExactDiffPairs l0 l1 hw0 hw1
  refine (laws_FnExactDiffPairs.calls k A0 c0 l0 A1 c1 l1 true W hr0 hc0 hr1 hc1 hP).mono fun e W' hQ => ?_
  obtain ⟨he, bel0⟩ := hQ
  subst he
  have bel : Below W.heap.size W W' := bel0
  exact ⟨_, rfl, _, _, _, [], _, [], hW', trodAll_mk1 (shut_bool Try.underlying4 _), (trodAll_cons_mk (Below.trod laidOut (by kernel_rfl) (of_decide_eq_true (by kernel_rfl)) k0 bel lt0) (trodAll_cons_mk (Below.trod laidOut (by kernel_rfl) (of_decide_eq_true (by kernel_rfl)) k1 bel lt1) trodAll_mk0)), rfl, bel.frame _, fun h => by cases h⟩
theorem over : Rows.fnExactDiffPairsRow.holds Try.pinned (OpenSpec.ofChange Rows.fnExactDiffPairsSpec) :=
  OpenClaim.holds_of_wide 4 Try.f4 rfl rfl rfl rfl rfl rfl rfl ⟨rfl, rfl, rfl, rfl, rfl⟩ rfl rfl rfl rfl rfl (by kernel_rfl) Try.func4 (by kernel_rfl)
    (of_decide_eq_true (by kernel_rfl)) (by unfold Func.isWrapper; first | (rw [if_pos (by decide +kernel)]; kernel_rfl) | (rw [if_neg (by decide +kernel)]; exact ⟨rfl, rfl⟩))
    (fun os started H enc _ => lifted os started H enc)
theorem proved : Rows.FnExactDiffPairsSaid := over
end Go.Proofs.Ytgcncphdjabjjaa.fnExactDiffPairs
namespace Go.Proofs.Ytgcncphdjabjjaa
theorem fnExactDiffPairs_holds : Rows.FnExactDiffPairsSaid := fnExactDiffPairs.proved
end Go.Proofs.Ytgcncphdjabjjaa
