import Derived.Test.YtgcncphdjabjjaaKFnExactMakeBackup3
import Derived.Test.YtgcncphdjabjjaaKFnExactMakeBackup10
import Derived.Test.YtgcncphdjabjjaaKFnExactMakeBackup11
import Derived.Test.YtgcncphdjabjjaaKFnExactMakeBackup12
import Derived.Test.YtgcncphdjabjjaaKFnExactMakeBackup13
import Derived.Test.YtgcncphdjabjjaaKFnExactMakeBackup14
import Derived.Test.YtgcncphdjabjjaaKFnExactMakeBackup15
import Derived.Test.YtgcncphdjabjjaaKFnExactMakeBackup17
import Derived.Test.YtgcncphdjabjjaaKFnExactMakeBackup18
import Derived.Test.YtgcncphdjabjjaaKFnExactMakeBackup19
import Derived.Test.YtgcncphdjabjjaaKFnExactMakeBackup25
namespace Go.Proofs.Ytgcncphdjabjjaa.X
open Go.RowKit Go.Proofs.YtgcncphdjabjjaaW.PrintWords Go.Proofs.YtgcncphdjabjjaaW.PrintLast Go.Proofs.YtgcncphdjabjjaaW.PrintMore
attribute [local go_sem] qaT qaU qaV qaP qaQ qa3 qa4 qaJ qaK qaR qaS
set_option linter.unusedVariables false
set_option linter.unusedSimpArgs false
def Rises (l : List S76) : Prop := l.Pairwise fun a b => Op.bytesLess a.f0.toList b.f0.toList = true
instance risesDec (l : List S76) : Decidable (Rises l) := by unfold Rises; infer_instance
def okP (p : S76) : Bool := keyB p.f0 && decide (p.f1.size ≤ 90)
def chainB : Option S76 → List S76 → Bool
 | _, [] => true
 | none, p :: r => okP p && chainB (some p) r
 | some q, p :: r => okP p && (Op.bytesLess q.f0.toList p.f0.toList && chainB (some p) r)
def pairsB (l : List S76) : Bool := decide (l.length ≤ 60) && chainB none l
theorem qeA (l : List S76) : ∀ q, chainB (some q) l = true → (∀ p ∈ l, okP p = true) ∧ (q :: l).Pairwise fun a b => Op.bytesLess a.f0.toList b.f0.toList = true := by
 induction l with
 | nil => intro q _; exact ⟨fun p hp => (by cases hp), List.pairwise_singleton _ _⟩
 | cons p r ih =>
  intro q h
  simp only [chainB, Bool.and_eq_true] at h
  obtain ⟨h1, h2, h3⟩ := h
  obtain ⟨i1, i2⟩ := ih p h3
  refine ⟨fun x hx => ?_, List.pairwise_cons.2 ⟨fun x hx => ?_, i2⟩⟩
  ·rcases List.mem_cons.1 hx with rfl | hx
   ·exact h1
   ·exact i1 x hx
  ·rcases List.mem_cons.1 hx with rfl | hx
   ·exact h2
   ·exact qeS h2 ((List.pairwise_cons.1 i2).1 x hx)
theorem qeT {l : List S76} (h : chainB none l = true) : (∀ p ∈ l, okP p = true) ∧ Rises l := by
 cases l with
 | nil => exact ⟨fun p hp => (by cases hp), List.Pairwise.nil⟩
 | cons p r =>
  simp only [chainB, Bool.and_eq_true] at h
  obtain ⟨i1, i2⟩ := qeA r p h.2
  refine ⟨fun x hx => ?_, i2⟩
  rcases List.mem_cons.1 hx with rfl | hx
  ·exact h.1
  ·exact i1 x hx
theorem qfR (l : List S76) : ∀ q, (∀ p ∈ l, okP p = true) → ((q :: l).Pairwise fun a b => Op.bytesLess a.f0.toList b.f0.toList = true) → chainB (some q) l = true := by
 induction l with
 | nil => intro q _ _; rfl
 | cons p r ih =>
  intro q h1 h2
  simp only [chainB, Bool.and_eq_true]
  exact ⟨h1 p List.mem_cons_self, (List.pairwise_cons.1 h2).1 p List.mem_cons_self, ih p (fun x hx => h1 x (List.mem_cons_of_mem _ hx)) (List.pairwise_cons.1 h2).2⟩
theorem qdR {l : List S76} (h1 : ∀ p ∈ l, okP p = true) (h2 : Rises l) : chainB none l = true := by
 cases l with
 | nil => rfl
 | cons p r =>
  simp only [chainB, Bool.and_eq_true]
  exact ⟨h1 p List.mem_cons_self, qfR r p (fun x hx => h1 x (List.mem_cons_of_mem _ hx)) h2⟩
theorem qfS {l : List S76} : pairsB l = true ↔ l.length ≤ 60 ∧ (∀ p ∈ l, okP p = true) ∧ Rises l := by
 unfold pairsB
 rw [Bool.and_eq_true, decide_eq_true_eq]
 exact ⟨fun h => ⟨h.1, qeT h.2⟩, fun h => ⟨h.1, qdR h.2.1 h.2.2⟩⟩
theorem qeU (l : List S76) (pre rest : List S76) (x : S76) (h : l = pre ++ x :: rest) : qal l ((pre.length : Nat) : Int) = x := by
 subst h
 simp [qal, List.getD_eq_getElem?_getD]
theorem qeB (p : S76) : qbK.f p.f0 p.f1 = some (okP p) := by
 unfold qbK.f okP
 have e : ((p.f1.size : Int) ≤ 90) = (p.f1.size ≤ 90) := propext (by omega)
 rw [spec_key, Option.bind_some]
 cases keyB p.f0 <;> simp [e]
theorem qeC (p : S76) : qbP.f p.f0 p.f1 = some (okP p) := by
 unfold qbP.f okP
 have e : ((p.f1.size : Int) ≤ 90) = (p.f1.size ≤ 90) := propext (by omega)
 rw [impl_key, Option.bind_some]
 cases keyB p.f0 <;> simp [e]
theorem qdS (l : List S76) (hl : l.length ≤ 60) (rest : List S76) : ∀ (pre : List S76) (q : S76), l = (pre ++ [q]) ++ rest →
  Ev (fun k => qaG.l0 k l (((pre ++ [q]).length : Nat) : Int)) (chainB (some q) rest) := by
 induction rest with
 | nil =>
  intro pre q h
  refine Ev.succ ?_
  simp only [qaG.l0]
  exact Ev.neg (by rw [h]; simp) (Ev.is rfl)
 | cons p r ih =>
  intro pre q h
  have hx := qeU l (pre ++ [q]) r p h
  have hq := qeU l pre (p :: r) q (by rw [h]; simp)
  have hlen : (pre ++ [q]).length < l.length := by rw [h]; simp
  have hw := qcd (n := (pre ++ [q]).length) (by omega)
  have hp : wrap64 ((((pre ++ [q]).length : Nat) : Int) - 1) = ((pre.length : Nat) : Int) := by rw [← qb8]; exact qez (by simp at hlen <;> omega)
  have hi := ih (pre ++ [q]) p (by rw [h]; simp)
  rw [← qb8] at hi
  refine Ev.succ ?_
  simp only [qaG.l0, hx, hp, hq, hw]
  refine Ev.pos (by omega) (Ev.pos (by omega) (Ev.bindk (qeB p) ?_))
  cases ho : okP p with
  | false => exact Ev.neg (by simp) (Ev.is (by simp [chainB, ho]))
  | true =>
   refine Ev.pos rfl (Ev.pos (by simp <;> omega) (Ev.pos (by omega) (Ev.pos (by simp at hlen <;> omega) ?_)))
   cases hb : Op.bytesLess q.f0.toList p.f0.toList with
   | false => exact Ev.neg (by simp) (Ev.is (by simp [chainB, ho, hb]))
   | true => exact Ev.pos rfl (Ev.same hi (by simp [chainB, ho, hb]))
theorem qfT (l : List S76) (hl : l.length ≤ 60) : Ev (fun k => qaG.l0 k l 0) (chainB none l) := by
 cases l with
 | nil =>
  refine Ev.succ ?_
  simp only [qaG.l0]
  exact Ev.neg (by simp) (Ev.is rfl)
 | cons p r =>
  have hx := qeU (p :: r) [] r p rfl
  simp only [List.length_nil, Int.natCast_zero] at hx
  have hi := qdS (p :: r) hl r [] p rfl
  refine Ev.succ ?_
  simp only [qaG.l0, hx]
  refine Ev.pos (by simp <;> omega) (Ev.pos (by omega) (Ev.bindk (qeB p) ?_))
  cases ho : okP p with
  | false => exact Ev.neg (by simp) (Ev.is (by simp [chainB, ho]))
  | true =>
   have e0 : ((([] ++ [p] : List S76).length : Nat) : Int) = wrap64 (0 + 1) := by unfold wrap64; simp
   rw [e0] at hi
   exact Ev.pos rfl (Ev.neg (by omega) (Ev.same hi (by simp [chainB, ho])))
theorem qdm (l : List S76) : Ev (fun k => qaG.f k l) (pairsB l) := by
 unfold qaG.f pairsB
 by_cases h1 : (l.length : Int) > 4096
 ·exact Ev.pos h1 (Ev.is (by simp [show ¬ l.length ≤ 60 by omega]))
 ·by_cases h2 : (l.length : Int) > 60
  ·exact Ev.neg h1 (Ev.pos h2 (Ev.is (by simp [show ¬ l.length ≤ 60 by omega])))
  ·exact Ev.neg h1 (Ev.neg h2 (Ev.same (qfT l (by omega)) (by simp [show l.length ≤ 60 by omega])))
theorem qdT (l : List S76) (hl : l.length < 9223372036854775807) (rest : List S76) : ∀ (pre : List S76) (q : S76), l = (pre ++ [q]) ++ rest →
  Ev (fun k => qaE.l0 k l l (l.length : Int) (((pre ++ [q]).length : Nat) : Int)) (chainB (some q) rest) := by
 induction rest with
 | nil =>
  intro pre q h
  refine Ev.succ ?_
  simp only [qaE.l0]
  exact Ev.neg (by rw [h]; simp) (Ev.is rfl)
 | cons p r ih =>
  intro pre q h
  have hx := qeU l (pre ++ [q]) r p h
  have hq := qeU l pre (p :: r) q (by rw [h]; simp)
  have hlen : (pre ++ [q]).length < l.length := by rw [h]; simp
  have hw := qcd (n := (pre ++ [q]).length) (by omega)
  have hp : wrap64 ((((pre ++ [q]).length : Nat) : Int) - 1) = ((pre.length : Nat) : Int) := by rw [← qb8]; exact qez (by simp at hlen <;> omega)
  have hi := ih (pre ++ [q]) p (by rw [h]; simp)
  rw [← qb8] at hi
  refine Ev.succ ?_
  simp only [qaE.l0, hx, hp, hq, hw]
  refine Ev.pos (by omega) (Ev.pos (by omega) (Ev.pos (by omega) (Ev.bindk (qeC p) ?_)))
  cases ho : okP p with
  | false => exact Ev.neg (by simp) (Ev.is (by simp [chainB, ho]))
  | true =>
   refine Ev.pos rfl (Ev.pos (by simp <;> omega) (Ev.pos (by omega) (Ev.pos (by simp at hlen <;> omega) ?_)))
   cases hb : Op.bytesLess q.f0.toList p.f0.toList with
   | false => exact Ev.neg (by simp) (Ev.is (by simp [chainB, ho, hb]))
   | true => exact Ev.pos rfl (Ev.same hi (by simp [chainB, ho, hb]))
theorem qeV (l : List S76) (hl : l.length < 9223372036854775807) : Ev (fun k => qaE.f k l) (chainB none l) := by
 unfold qaE.f
 cases l with
 | nil =>
  refine Ev.succ ?_
  simp only [qaE.l0]
  exact Ev.neg (by simp) (Ev.is rfl)
 | cons p r =>
  have hx := qeU (p :: r) [] r p rfl
  simp only [List.length_nil, Int.natCast_zero] at hx
  have hi := qdT (p :: r) hl r [] p rfl
  refine Ev.succ ?_
  simp only [qaE.l0, hx]
  refine Ev.pos (by simp <;> omega) (Ev.pos (by omega) (Ev.pos (by simp <;> omega) (Ev.bindk (qeC p) ?_)))
  cases ho : okP p with
  | false => exact Ev.neg (by simp) (Ev.is (by simp [chainB, ho]))
  | true =>
   have e0 : ((([] ++ [p] : List S76).length : Nat) : Int) = wrap64 (0 + 1) := by unfold wrap64; simp
   rw [e0] at hi
   exact Ev.pos rfl (Ev.neg (by omega) (Ev.same hi (by simp [chainB, ho])))
end Go.Proofs.Ytgcncphdjabjjaa.X
namespace Go.Proofs.Ytgcncphdjabjjaa.X
open Go.RowKit Go.Proofs.YtgcncphdjabjjaaW.PrintWords Go.Proofs.YtgcncphdjabjjaaW.PrintLast Go.Proofs.YtgcncphdjabjjaaW.PrintMore
attribute [local go_sem] qaT qaU qaV qaP qaQ qa3 qa4 qaJ qaK qaR qaS
set_option linter.unusedVariables false
set_option linter.unusedSimpArgs false
def dDel (a : S76) : S82 := ⟨a.f0, a.f1, (⟨#[]⟩ : ByteArray), true, false⟩
def dNew (b : S76) : S82 := ⟨b.f0, (⟨#[]⟩ : ByteArray), b.f1, false, true⟩
def dBoth (a b : S76) : S82 := ⟨a.f0, a.f1, b.f1, true, true⟩
def diffL : List S76 → List S76 → List S82
 | [], [] => []
 | a :: x, [] => dDel a :: diffL x []
 | [], b :: y => dNew b :: diffL [] y
 | a :: x, b :: y => if Op.bytesLess a.f0.toList b.f0.toList = true then dDel a :: diffL x (b :: y) else if Op.bytesLess b.f0.toList a.f0.toList = true then dNew b :: diffL (a :: x) y else if a.f1.toList = b.f1.toList then diffL x y else dBoth a b :: diffL x y
termination_by x y => x.length + y.length
theorem qeD (n : Nat) : ∀ x y : List S76, x.length + y.length ≤ n → (diffL x y).length ≤ x.length + y.length := by
 induction n with
 | zero =>
  intro x y h
  cases x with
  | nil =>
   cases y with
   | nil => simp [diffL]
   | cons b y => simp at h
  | cons a x => simp at h <;> omega
 | succ n ih =>
  intro x y h
  cases x with
  | nil =>
   cases y with
   | nil => simp [diffL]
   | cons b y =>
    have := ih [] y (by simp at * <;> omega)
    simp [diffL] at * <;> omega
  | cons a x =>
   cases y with
   | nil =>
    have := ih x [] (by simp at * <;> omega)
    simp [diffL] at * <;> omega
   | cons b y =>
    have h1 := ih x (b :: y) (by simp at * <;> omega)
    have h2 := ih (a :: x) y (by simp at * <;> omega)
    have h3 := ih x y (by simp at * <;> omega)
    rw [diffL]
    simp only [List.length_cons] at *
    split
    ·simp only [List.length_cons]; omega
    ·split
     ·simp only [List.length_cons]; omega
     ·split
      ·omega
      ·simp only [List.length_cons]; omega
theorem qdL {l : List S76} {i : Nat} (h : i < l.length) : l.drop i = qal l (i : Int) :: l.drop (i + 1) := by
 rw [List.drop_eq_getElem_cons h]
 simp [qal, List.getD_eq_getElem?_getD, h]
theorem qdU (l0 l1 : List S76) (h0 : l0.length ≤ 1000000) (h1 : l1.length ≤ 1000000) (n : Nat) : ∀ (i j : Nat) (acc : List S82), i ≤ l0.length → j ≤ l1.length → (l0.length - i) + (l1.length - j) ≤ n → acc.length + n ≤ 4000000 → Ev (fun k => qaq.l0 k l0 l1 acc (i : Int) (j : Int)) (acc ++ diffL (l0.drop i) (l1.drop j)) := by
 induction n with
 | zero =>
  intro i j acc hi hj hn _
  refine Ev.succ ?_
  simp only [qaq.l0]
  refine Ev.neg (by omega) ?_
  refine Ev.succ ?_
  simp only [qaq.j1]
  exact Ev.neg (by simp <;> omega) (Ev.is (by rw [List.drop_eq_nil_of_le (by omega), List.drop_eq_nil_of_le (by omega)]; simp [diffL]))
 | succ n ih =>
  intro i j acc hi hj hn hacc
  have eDel : i < l0.length → ∀ R, Ev (fun k => qaq.l0 k l0 l1 (acc ++ [dDel (qal l0 (i : Int))]) ((i + 1 : Nat) : Int) (j : Int)) R → Ev (fun k => qaq.j2 k l0 l1 acc (i : Int) (j : Int) true) R := by
   intro h R hR
   refine Ev.succ ?_
   simp only [qaq.j2, qcd (n := i) (by omega)]
   exact Ev.pos (by trivial) (Ev.pos (by omega) (Ev.pos (by omega) (Ev.pos (by omega) hR)))
  have eNew : j < l1.length → ∀ R, Ev (fun k => qaq.l0 k l0 l1 (acc ++ [dNew (qal l1 (j : Int))]) (i : Int) ((j + 1 : Nat) : Int)) R → Ev (fun k => qaq.j3 k l0 l1 acc (i : Int) (j : Int) true) R := by
   intro h R hR
   refine Ev.succ ?_
   simp only [qaq.j3, qcd (n := j) (by omega)]
   exact Ev.pos (by trivial) (Ev.pos (by omega) (Ev.pos (by omega) (Ev.pos (by omega) hR)))
  refine Ev.succ ?_
  simp only [qaq.l0]
  by_cases hi2 : i < l0.length
  ·refine Ev.pos (by omega) ?_
   refine Ev.succ ?_
   simp only [qaq.j1]
   refine Ev.pos (by trivial) ?_
   have i1 := qdL hi2
   by_cases hj2 : j < l1.length
   ·have i2 := qdL hj2
    refine Ev.neg (by omega) (Ev.pos (by omega) (Ev.pos (by omega) (Ev.pos (by omega) (Ev.pos (by omega) ?_))))
    rw [i1, i2, diffL]
    cases hb : Op.bytesLess (qal l0 (i : Int)).f0.toList (qal l1 (j : Int)).f0.toList with
    | true =>
     refine Ev.same (eDel hi2 _ (ih (i + 1) j _ (by omega) (by omega) (by omega) (by simp <;> omega))) ?_
     rw [if_pos rfl, i2]
     simp
    | false =>
     refine Ev.same (r := acc ++ (if Op.bytesLess (qal l1 (j : Int)).f0.toList (qal l0 (i : Int)).f0.toList = true then _ else _)) ?_ (by rw [if_neg Bool.false_ne_true])
     refine Ev.succ ?_
     simp only [qaq.j2]
     refine Ev.neg (by simp) (Ev.neg (by omega) (Ev.pos (by omega) (Ev.pos (by omega) (Ev.pos (by omega) (Ev.pos (by omega) ?_)))))
     cases hc : Op.bytesLess (qal l1 (j : Int)).f0.toList (qal l0 (i : Int)).f0.toList with
     | true =>
      refine Ev.same (eNew hj2 _ (ih i (j + 1) _ (by omega) (by omega) (by omega) (by simp <;> omega))) ?_
      rw [if_pos rfl, i1]
      simp
     | false =>
      refine Ev.same (r := acc ++ (if (qal l0 (i : Int)).f1.toList = (qal l1 (j : Int)).f1.toList then _ else _)) ?_ (by rw [if_neg Bool.false_ne_true])
      refine Ev.succ ?_
      simp only [qaq.j3, qcd (n := i) (by omega), qcd (n := j) (by omega)]
      refine Ev.neg (by simp) (Ev.pos (by omega) (Ev.pos (by omega) (Ev.pos (by omega) (Ev.pos (by omega) ?_))))
      by_cases hd : (qal l0 (i : Int)).f1.toList = (qal l1 (j : Int)).f1.toList
      ·exact Ev.pos hd (Ev.same (ih (i + 1) (j + 1) acc (by omega) (by omega) (by omega) (by omega)) (by rw [if_pos hd]))
      ·exact Ev.neg hd (Ev.pos (by omega) (Ev.same (ih (i + 1) (j + 1) _ (by omega) (by omega) (by omega) (by simp <;> omega)) (by rw [if_neg hd]; simp [dBoth])))
   ·have e2 : l1.drop j = [] := List.drop_eq_nil_of_le (by omega)
    refine Ev.pos (by omega) ?_
    rw [i1, e2, diffL]
    refine Ev.same (eDel hi2 _ (ih (i + 1) j _ (by omega) (by omega) (by omega) (by simp <;> omega))) ?_
    rw [e2]
    simp
  ·refine Ev.neg (by omega) ?_
   have e1 : l0.drop i = [] := List.drop_eq_nil_of_le (by omega)
   refine Ev.succ ?_
   simp only [qaq.j1]
   by_cases hj2 : j < l1.length
   ·have i2 := qdL hj2
    refine Ev.pos (by simp <;> omega) (Ev.neg (by omega) (Ev.neg (by omega) ?_))
    refine Ev.succ ?_
    simp only [qaq.j2]
    refine Ev.neg (by simp) (Ev.pos (by omega) ?_)
    rw [e1, i2, diffL]
    refine Ev.same (eNew hj2 _ (ih i (j + 1) _ (by omega) (by omega) (by omega) (by simp <;> omega))) ?_
    rw [e1]
    simp
   ·exact Ev.neg (by simp <;> omega) (Ev.is (by rw [e1, List.drop_eq_nil_of_le (by omega)]; simp [diffL]))
theorem qfU (l0 l1 : List S76) (h0 : l0.length ≤ 1000000) (h1 : l1.length ≤ 1000000) : Ev (fun k => qaq.f k l0 l1) (diffL l0 l1) := by
 have := qdU l0 l1 h0 h1 _ 0 0 [] (by omega) (by omega) (Nat.le_refl _) (by simp <;> omega)
 simpa [qaq.f] using this
theorem qdV (n : Nat) : ∀ (x y : List S76) (acc : List S82), x.length + y.length ≤ n → acc.length + n ≤ 4000000 → Ev (fun k => qaw.l0 k x y acc) (acc ++ diffL x y) := by
 induction n with
 | zero =>
  intro x y acc hn _
  have ex : x = [] := List.eq_nil_of_length_eq_zero (by omega)
  have ey : y = [] := List.eq_nil_of_length_eq_zero (by omega)
  subst ex ey
  refine Ev.succ ?_
  simp only [qaw.l0]
  refine Ev.neg (by simp) ?_
  refine Ev.succ ?_
  simp only [qaw.j1]
  exact Ev.neg (by simp) (Ev.is (by simp [diffL]))
 | succ n ih =>
  intro x y acc hn hacc
  cases x with
  | nil =>
   refine Ev.succ ?_
   simp only [qaw.l0]
   refine Ev.neg (by simp) ?_
   refine Ev.succ ?_
   simp only [qaw.j1]
   cases y with
   | nil => exact Ev.neg (by simp) (Ev.is (by simp [diffL]))
   | cons b y =>
    refine Ev.pos (by simp <;> omega) (Ev.neg (by simp <;> omega) (Ev.neg (by simp) ?_))
    refine Ev.succ ?_
    simp only [qaw.j2]
    refine Ev.neg (by simp) (Ev.pos (by simp <;> omega) ?_)
    refine Ev.succ ?_
    simp only [qaw.j3]
    refine Ev.pos (by trivial) (Ev.pos (by simp <;> omega) (Ev.pos (by omega) (Ev.pos (by simp <;> omega) ?_)))
    refine Ev.same (ih [] y _ (by simp at hn ⊢ <;> omega) (by simp <;> omega)) ?_
    rw [diffL]
    simp [dNew, qal]
  | cons a x =>
   have ra : qal (a :: x) 0 = a := rfl
   refine Ev.succ ?_
   simp only [qaw.l0]
   refine Ev.pos (by simp <;> omega) ?_
   refine Ev.succ ?_
   simp only [qaw.j1]
   refine Ev.pos (by trivial) ?_
   have eDel : ∀ y R, Ev (fun k => qaw.l0 k x y (acc ++ [dDel a])) R → Ev (fun k => qaw.j2 k (a :: x) y acc true) R := by
    intro y R hR
    refine Ev.succ ?_
    simp only [qaw.j2, ra]
    exact Ev.pos (by trivial) (Ev.pos (by simp <;> omega) (Ev.pos (by omega) (Ev.pos (by simp <;> omega) hR)))
   cases y with
   | nil =>
    refine Ev.pos (by simp <;> omega) (Ev.same (eDel [] _ (ih x [] _ (by simp at hn ⊢ <;> omega) (by simp <;> omega))) ?_)
    rw [diffL]
    simp
   | cons b y =>
    have rb : qal (b :: y) 0 = b := rfl
    simp only [ra, rb]
    refine Ev.neg (by simp <;> omega) (Ev.pos (by simp <;> omega) (Ev.pos (by simp <;> omega) (Ev.pos (by simp <;> omega) ?_)))
    rw [diffL]
    cases hb : Op.bytesLess a.f0.toList b.f0.toList with
    | true =>
     refine Ev.same (eDel (b :: y) _ (ih x (b :: y) _ (by simp at hn ⊢ <;> omega) (by simp <;> omega))) ?_
     rw [if_pos rfl]
     simp
    | false =>
     refine Ev.same (r := acc ++ (if Op.bytesLess b.f0.toList a.f0.toList = true then _ else _)) ?_ (by rw [if_neg Bool.false_ne_true])
     refine Ev.succ ?_
     simp only [qaw.j2, ra, rb]
     refine Ev.neg (by simp) (Ev.neg (by simp <;> omega) (Ev.pos (by simp <;> omega) (Ev.pos (by simp <;> omega) ?_)))
     cases hc : Op.bytesLess b.f0.toList a.f0.toList with
     | true =>
      refine Ev.succ ?_
      simp only [qaw.j3, ra, rb]
      refine Ev.pos (by trivial) (Ev.pos (by simp <;> omega) (Ev.pos (by omega) (Ev.pos (by simp <;> omega) ?_)))
      refine Ev.same (ih (a :: x) y _ (by simp at hn ⊢ <;> omega) (by simp <;> omega)) ?_
      rw [if_pos (by trivial)]
      simp [dNew]
     | false =>
      refine Ev.same (r := acc ++ (if a.f1.toList = b.f1.toList then _ else _)) ?_ (by rw [if_neg Bool.false_ne_true])
      refine Ev.succ ?_
      simp only [qaw.j3, ra, rb]
      refine Ev.neg (by simp) (Ev.pos (by simp <;> omega) (Ev.pos (by simp <;> omega) ?_))
      by_cases hd : a.f1.toList = b.f1.toList
      ·exact Ev.pos hd (Ev.pos (by simp <;> omega) (Ev.pos (by simp <;> omega) (Ev.same (ih x y acc (by simp at hn ⊢ <;> omega) (by omega)) (by rw [if_pos hd]))))
      ·exact Ev.neg hd (Ev.pos (by omega) (Ev.pos (by simp <;> omega) (Ev.pos (by simp <;> omega) (Ev.same (ih x y _ (by simp at hn ⊢ <;> omega) (by simp <;> omega)) (by rw [if_neg hd]; simp [dBoth])))))
theorem qel (l0 l1 : List S76) (h0 : l0.length ≤ 1000000) (h1 : l1.length ≤ 1000000) : Ev (fun k => qaw.f k l0 l1) (diffL l0 l1) := by
 have := qdV (l0.length + l1.length) l0 l1 [] (Nat.le_refl _) (by simp <;> omega)
 simpa [qaw.f] using this
end Go.Proofs.Ytgcncphdjabjjaa.X
namespace Go.Proofs.Ytgcncphdjabjjaa.X
open Go.RowKit Go.Proofs.YtgcncphdjabjjaaW.PrintWords Go.Proofs.YtgcncphdjabjjaaW.PrintLast Go.Proofs.YtgcncphdjabjjaaW.PrintMore
attribute [local go_sem] qaT qaU qaV qaP qaQ qa3 qa4 qaJ qaK qaR qaS
set_option linter.unusedVariables false
set_option linter.unusedSimpArgs false
def letter (c : Int) : Bool := decide (97 ≤ c ∧ c ≤ 122) || (decide (65 ≤ c ∧ c ≤ 90) || c == 95)
theorem letter1 (c : Int) : qbJ.f c = some (letter c) := by
 unfold qbJ.f letter
 by_cases h1 : c ≥ 97 <;> by_cases h2 : c ≤ 122 <;> by_cases h3 : c ≥ 65 <;> by_cases h4 : c ≤ 90 <;> simp [*] <;> omega
theorem letter2 (c : Int) : qbW.f c = some (letter c) := by
 unfold qbW.f letter
 by_cases h1 : c ≥ 97 <;> by_cases h2 : c ≤ 122 <;> by_cases h3 : c ≥ 65 <;> by_cases h4 : c ≤ 90 <;> simp [*] <;> omega
end Go.Proofs.Ytgcncphdjabjjaa.X
namespace Go.Proofs.Ytgcncphdjabjjaa.X
open Go.RowKit Go.Proofs.YtgcncphdjabjjaaW.PrintWords Go.Proofs.YtgcncphdjabjjaaW.PrintLast Go.Proofs.YtgcncphdjabjjaaW.PrintMore
attribute [local go_sem] qaT qaU qaV qaP qaQ qa3 qa4 qaJ qaK qaR qaS
set_option linter.unusedVariables false
set_option linter.unusedSimpArgs false
def digit (c : Int) : Bool := decide (48 ≤ c ∧ c ≤ 57)
def wordy (s : ByteArray) : Nat → Nat → Bool
 | 0, _ => true
 | d + 1, i => (letter (bt s i) || digit (bt s i)) && wordy s d (i + 1)
def nameOK (s : ByteArray) : Bool := decide (1 ≤ s.size ∧ s.size ≤ 40) && (letter (bt s 0) && wordy s (s.size - 1) 1)
theorem qdr {i : Nat} (h : i < 1048576) : wrap64 ((i : Int) + 1) = ((i + 1 : Nat) : Int) := by unfold wrap64; omega
theorem digit1 (c : Int) : qbS.f c = some (digit c) := by
 unfold qbS.f digit
 by_cases h1 : c ≥ 48 <;> by_cases h2 : c ≤ 57 <;> simp [*] <;> omega
theorem digit2 (c : Int) : qbF.f c = some (digit c) := by
 unfold qbF.f digit
 by_cases h1 : c ≥ 48 <;> by_cases h2 : c ≤ 57 <;> simp [*] <;> omega
theorem not_both (c : Int) : digit c = true → letter c = false := by
 unfold digit letter
 intro h
 simp at h ⊢
 omega
theorem qfV (s : ByteArray) (hs : s.size ≤ 1048576) (d : Nat) : ∀ i : Nat, i + d = s.size → Ev (fun k => qaH.l0 k s (i : Int)) (wordy s d i) := by
 induction d with
 | zero =>
  intro i hi
  refine Ev.step (f := fun _ => some true) (fun k => ?_) (Ev.now _)
  simp only [qaH.l0]
  rw [if_neg (by omega)]
 | succ d ih =>
  intro i hi
  have hrec := ih (i + 1) (by omega)
  by_cases hl : letter (bt s i) = true
  ·refine Ev.step (f := fun k => qaH.l0 k s ((i + 1 : Nat) : Int)) (fun k => ?_) ?_
   ·simp only [qaH.l0]
    rw [if_pos (by omega), if_pos (by omega), letter1, Option.bind_some, if_pos hl, qdr (by omega)]
   ·simpa [wordy, hl] using hrec
  ·by_cases hd : digit (bt s i) = true
   ·refine Ev.step (f := fun k => qaH.l0 k s ((i + 1 : Nat) : Int)) (fun k => ?_) ?_
    ·simp only [qaH.l0]
     rw [if_pos (by omega), if_pos (by omega), letter1, Option.bind_some, if_neg hl, digit1, Option.bind_some, if_pos hd, qdr (by omega)]
    ·simpa [wordy, hl, hd] using hrec
   ·refine Ev.step (f := fun _ => some false) (fun k => ?_) ?_
    ·simp only [qaH.l0]
     rw [if_pos (by omega), if_pos (by omega), letter1, Option.bind_some, if_neg hl, digit1, Option.bind_some, if_neg hd]
    ·simp [wordy, hl, hd]; exact Ev.now false
theorem qfW (s : ByteArray) (hs : s.size ≤ 1048576) (d : Nat) : ∀ i : Nat, i + d = s.size → Ev (fun k => qaN.l0 k s ((s.size : Nat) : Int) (i : Int)) (wordy s d i) := by
 induction d with
 | zero =>
  intro i hi
  refine Ev.step (f := fun _ => some true) (fun k => ?_) (Ev.now _)
  simp only [qaN.l0]
  rw [if_neg (by omega)]
 | succ d ih =>
  intro i hi
  have hrec := ih (i + 1) (by omega)
  by_cases hl : letter (bt s i) = true
  ·refine Ev.step (f := fun k => qaN.l0 k s ((s.size : Nat) : Int) ((i + 1 : Nat) : Int)) (fun k => ?_) ?_
   ·simp only [qaN.l0]
    rw [if_pos (by omega), if_pos (by omega), if_pos (by omega), letter2, Option.bind_some, if_pos hl, qdr (by omega)]
   ·simpa [wordy, hl] using hrec
  ·by_cases hd : digit (bt s i) = true
   ·refine Ev.step (f := fun k => qaN.l0 k s ((s.size : Nat) : Int) ((i + 1 : Nat) : Int)) (fun k => ?_) ?_
    ·simp only [qaN.l0]
     rw [if_pos (by omega), if_pos (by omega), if_pos (by omega), letter2, Option.bind_some, if_neg hl, digit2, Option.bind_some, if_pos hd, qdr (by omega)]
    ·simpa [wordy, hl, hd] using hrec
   ·refine Ev.step (f := fun _ => some false) (fun k => ?_) ?_
    ·simp only [qaN.l0]
     rw [if_pos (by omega), if_pos (by omega), if_pos (by omega), letter2, Option.bind_some, if_neg hl, digit2, Option.bind_some, if_neg hd]
    ·simp [wordy, hl, hd]; exact Ev.now false
theorem qfX (s : ByteArray) (b : Bool) (hs : s.size ≤ 1048576) (h1 : 1 ≤ s.size ∨ b = true) : Ev (fun k => qaH.j0 k s b) (!b && wordy s (s.size - 1) 1) := by
 cases b with
 | true =>
  refine Ev.step (f := fun _ => some false) (fun k => ?_) (Ev.now _)
  simp [qaH.j0]
 | false =>
  refine Ev.step (f := fun k => qaH.l0 k s ((1 : Nat) : Int)) (fun k => ?_) ?_
  ·simp [qaH.j0]
  ·simpa using qfV s hs (s.size - 1) 1 (by rcases h1 with h1 | h1 <;> first | omega | cases h1)
theorem qfY (s : ByteArray) (b : Bool) (hs : s.size ≤ 1048576) : Ev (fun k => qaN.j0 k s b) (!b && wordy s s.size 0) := by
 cases b with
 | true =>
  refine Ev.step (f := fun _ => some false) (fun k => ?_) (Ev.now _)
  simp [qaN.j0]
 | false =>
  refine Ev.step (f := fun k => qaN.l0 k s ((s.size : Nat) : Int) ((0 : Nat) : Int)) (fun k => ?_) ?_
  ·simp [qaN.j0]
  ·simpa using qfW s hs s.size 0 (by omega)
theorem qfZ (s : ByteArray) (hs : s.size ≤ 1048576) : Ev (fun k => qbO.f k s) (nameOK s) := by
 unfold qbO.f qaH.f
 refine Ev.bind ?_ (Ev.now _)
 by_cases h1 : (s.size : Int) < 1
 ·simp only [if_pos h1]
  have := qfX s true hs (.inr rfl)
  simpa [nameOK, show ¬ (1 ≤ s.size) by omega] using this
 simp only [if_neg h1]
 by_cases h2 : (s.size : Int) > 40
 ·simp only [if_pos h2]
  have := qfX s true hs (.inr rfl)
  simpa [nameOK, show ¬ (s.size ≤ 40) by omega] using this
 simp only [if_neg h2, if_pos (show 0 < (s.size : Int) by omega), letter1, Option.bind_some]
 have := qfX s (!letter (bt s 0)) hs (.inl (by omega))
 simpa [nameOK, show s.size ≤ 40 by omega, show 1 ≤ s.size by omega] using this
theorem qf0 (s : ByteArray) (hs : s.size ≤ 1048576) : Ev (fun k => qaN.f k s) (nameOK s) := by
 unfold qaN.f qbq.f
 by_cases h1 : (s.size : Int) < 1
 ·simp only [if_neg (show ¬ (s.size : Int) ≥ 1 by omega), Option.bind_some, Bool.false_eq_true, if_false]
  have := qfY s true hs
  simpa [nameOK, show ¬ (1 ≤ s.size) by omega] using this
 simp only [if_pos (show (s.size : Int) ≥ 1 by omega), Option.bind_some]
 by_cases h2 : (s.size : Int) > 40
 ·simp only [show decide ((s.size : Int) ≤ 40) = false from decide_eq_false (by omega), Bool.false_eq_true, if_false]
  have := qfY s true hs
  simpa [nameOK, show ¬ (s.size ≤ 40) by omega] using this
 simp only [show decide ((s.size : Int) ≤ 40) = true from decide_eq_true (by omega), if_true, if_pos (show 0 < (s.size : Int) by omega), digit2, Option.bind_some]
 have h := qfY s (digit (bt s 0)) hs
 have e : (!digit (bt s 0) && wordy s s.size 0) = nameOK s := by
  obtain ⟨m, hm⟩ : ∃ m, s.size = m + 1 := ⟨s.size - 1, by omega⟩
  have hz : bt s ((0 : Nat) : Int) = bt s 0 := rfl
  unfold nameOK
  rw [hm]
  simp only [wordy, Nat.zero_add, Nat.add_sub_cancel, hz]
  rw [show decide (1 ≤ m + 1 ∧ m + 1 ≤ 40) = true from decide_eq_true (by omega), Bool.true_and]
  cases hd : digit (bt s 0) with
  | true => simp [not_both _ hd]
  | false => simp
 rw [← e]; exact h
end Go.Proofs.Ytgcncphdjabjjaa.X
namespace Go.Proofs.Ytgcncphdjabjjaa.X
open Go.RowKit Go.Proofs.YtgcncphdjabjjaaW.PrintWords Go.Proofs.YtgcncphdjabjjaaW.PrintLast Go.Proofs.YtgcncphdjabjjaaW.PrintMore
attribute [local go_sem] qaT qaU qaV qaP qaQ qa3 qa4 qaJ qaK qaR qaS
set_option linter.unusedVariables false
set_option linter.unusedSimpArgs false
def shortB (s : ByteArray) : Bool := decide (s.size ≤ 8) && nameOK s
theorem qdg (s : ByteArray) : Ev (fun k => qbd.f k s) (shortB s) := by
 unfold qbd.f shortB
 by_cases h : s.size ≤ 8
 ·exact Ev.pos (by omega) (Ev.bind (qfZ s (by omega)) (Ev.is (by simp [h])))
 ·exact Ev.neg (by omega) (Ev.is (by simp [h]))
theorem qdh (s : ByteArray) : Ev (fun k => qa6.f k s) (shortB s) := by
 unfold qa6.f shortB
 by_cases h : s.size ≤ 8
 ·exact Ev.pos (by omega) (Ev.bind (qf0 s (by omega)) (Ev.is (by simp [h])))
 ·exact Ev.neg (by omega) (Ev.is (by simp [h]))
end Go.Proofs.Ytgcncphdjabjjaa.X
namespace Go.Proofs.Ytgcncphdjabjjaa.X
open Go.RowKit Go.Proofs.YtgcncphdjabjjaaW.PrintWords Go.Proofs.YtgcncphdjabjjaaW.PrintLast Go.Proofs.YtgcncphdjabjjaaW.PrintMore
attribute [local go_sem] qaT qaU qaV qaP qaQ qa3 qa4 qaJ qaK qaR qaS
set_option linter.unusedVariables false
set_option linter.unusedSimpArgs false
theorem qfo {a : ByteArray} (h : a.toList = []) : shortB a = false := by
 have : a.size = 0 := by
  have h2 : a.data.toList.length = 0 := by rw [← ByteArray.toList_eq, h]; rfl
  rw [Array.length_toList] at h2
  exact h2
 simp [shortB, nameOK, this]
def headB (a b : ByteArray) (n : Int) : Bool := if a.toList = [] then (shortB b && (inB n 0 4294967295 && decide (n = 0))) else (shortB a && (shortB b && inB n 0 4294967295))
theorem qf1 (a b : ByteArray) (n : Int) : Ev (fun k => qbC.f k a b n) (headB a b n) := by
 unfold qbC.f headB
 simp only [impl_in, Option.bind_some]
 refine Ev.bind (qdh a) ?_
 cases h1 : shortB a with
 | true =>
  have h2 : ¬ a.toList = [] := fun h => by rw [qfo h] at h1; cases h1
  refine Ev.pos rfl (Ev.bind (qdh b) ?_)
  cases h3 : shortB b with
  | true => exact Ev.pos rfl (Ev.is (by simp [h2]))
  | false => exact Ev.neg (by simp) (Ev.is (by simp [h2]))
 | false =>
  refine Ev.neg (by simp) ?_
  by_cases h2 : a.toList = []
  ·refine Ev.pos h2 ?_
   by_cases h4 : n = 0
   ·refine Ev.pos h4 (Ev.bind (qdh b) ?_)
    cases h3 : shortB b with
    | true => exact Ev.pos rfl (Ev.is (by simp [h2, h4]))
    | false => exact Ev.neg (by simp) (Ev.is (by simp [h2]))
   ·exact Ev.neg h4 (Ev.is (by simp [h2, h4]))
  ·exact Ev.neg h2 (Ev.is (by simp [h2]))
end Go.Proofs.Ytgcncphdjabjjaa.X
namespace Go.Proofs.Ytgcncphdjabjjaa.X
open Go.RowKit Go.Proofs.YtgcncphdjabjjaaW.PrintWords Go.Proofs.YtgcncphdjabjjaaW.PrintLast Go.Proofs.YtgcncphdjabjjaaW.PrintMore
attribute [local go_sem] qaT qaU qaV qaP qaQ qa3 qa4 qaJ qaK qaR qaS
set_option linter.unusedVariables false
set_option linter.unusedSimpArgs false
theorem qdn (l : List S76) : Ev (fun k => qbe.f k l) (pairsB l) := by
 unfold qbe.f pairsB
 by_cases h : (l.length : Int) ≤ 60
 ·exact Ev.pos h (Ev.bind (qeV l (by omega)) (Ev.is (by simp [show l.length ≤ 60 by omega])))
 ·exact Ev.neg h (Ev.is (by simp [show ¬ l.length ≤ 60 by omega]))
end Go.Proofs.Ytgcncphdjabjjaa.X
namespace Go.Proofs.Ytgcncphdjabjjaa.X
open Go.RowKit Go.Proofs.YtgcncphdjabjjaaW.PrintWords Go.Proofs.YtgcncphdjabjjaaW.PrintLast Go.Proofs.YtgcncphdjabjjaaW.PrintMore
attribute [local go_sem] qaT qaU qaV qaP qaQ qa3 qa4 qaJ qaK qaR qaS
set_option linter.unusedVariables false
set_option linter.unusedSimpArgs false
def qca.f (k : Nat) (l0 : List (S76)) : Option (Int × Int) := if (l0.length : Int) > 4096 then (some (0, 2)) else ((qbe.f k l0).bind fun t156 => (if t156 = true then ((qbD.f l0).bind fun t157 => (some (t157, 0))) else (some (0, 1))))
theorem qca.mono : ∀ a0 k, LeO (qca.f k a0) (qca.f (k + 1) a0) := by
 intro a0 k
 unfold qca.f
 repeat' first
   | (with_reducible exact qbe.mono _ _)
   | (with_reducible exact LeO.refl _)
   | (with_reducible exact LeO.none _)
   | (with_reducible refine LeO.ite ?_ ?_)
   | (with_reducible refine LeO.bind ?_ (fun _ => ?_))
   | exact qbe.mono _ _
   | exact LeO.none _
   | refine LeO.ite ?_ ?_
   | refine LeO.bind ?_ (fun _ => ?_)
set_option maxHeartbeats 8000000 in
set_option maxRecDepth 100000 in
theorem qca.calls (k : Nat) (A0 : Option Addr) (c0 : Nat) (l0 : List (S76)) (r1 : Int) (r2 : Int) (w : World) (hr0 : Kd.C k76 w A0 l0.length l0) (hc0 : l0.length ≤ c0) (h : qca.f k l0 = some (r1, r2)) :
  Calls Try.prog 14 #[.slice A0 l0.length c0] w fun e w' => e = .returned (.tuple #[.int .i64 r1, .int .i64 r2]) ∧ Below w.heap.size w w' := by
 have HR0 := Aside0.mk hr0
 have HC0 := Aside0.mk hc0
 clear hr0 hc0
 have HB := Aside0.mk (Below.refl w.heap.size w)
 have H : (if (l0.length : Int) > 4096 then (some (0, 2)) else ((qbe.f k l0).bind fun t156 => (if t156 = true then ((qbD.f l0).bind fun t157 => (some (t157, 0))) else (some (0, 1))))) = some (r1, r2) := h
 clear h
 by_cases c2 : (l0.length : Int) > 4096
 ·rw [if_pos c2] at H
  have c2b0 : decide (4096 < (l0.length : Int)) = true := decide_eq_true c2
  have c2b1 : decide (4096 < l0.length) = true := decide_eq_true (by omega)
  clear c2
  simp only [Option.some.injEq, Prod.mk.injEq] at H
  obtain ⟨rfl, rfl⟩ := H
  go_enter Try.func14, Try.ntmps14
  go_wp2
  go_ret2
  exact ⟨by first | rfl | (simp [qam, qan] <;> rfl) | (simp [*, qam, qan] <;> rfl), by repeat (first | (with_reducible first | exact HB.out | apply qac | apply qaa | apply qab) | exact HB.out)⟩
 ·rw [if_neg c2] at H
  have c2b0 : decide (4096 < (l0.length : Int)) = false := decide_eq_false c2
  have c2b1 : decide (4096 < l0.length) = false := decide_eq_false (by omega)
  clear c2
  replace H := Option.bind_eq_some_iff.mp H
  obtain ⟨t156, A30, H⟩ := H
  replace H : (if t156 = true then ((qbD.f l0).bind fun t157 => (some (t157, 0))) else (some (0, 1))) = some (r1, r2) := H
  have A3 := Aside0.mk A30
  clear A30
  by_cases c4 : t156 = true
  ·subst c4
   have H1 : ((qbD.f l0).bind fun t157 => (some (t157, 0))) = some (r1, r2) := by rw [if_pos rfl] at H; exact H
   clear H
   have H := H1
   clear H1
   replace H := Option.bind_eq_some_iff.mp H
   obtain ⟨t157, A50, H⟩ := H
   replace H : (some (t157, 0)) = some (r1, r2) := H
   have A5 := Aside0.mk A50
   clear A50
   simp only [Option.some.injEq, Prod.mk.injEq] at H
   obtain ⟨rfl, rfl⟩ := H
   go_enter Try.func14, Try.ntmps14
   go_wp2_with (first | ((with_reducible refine qaz (f := 53) rfl ?_); refine qbf (some 10) rfl rfl Try.func53 (by kernel_rfl) rfl #[.slice A0 l0.length c0] rfl (by (try simp only [List.map_toArray, List.map_cons, List.map_nil]); first | done | rfl | (simp only [List.length_drop, List.length_take]; rfl)) ?_; (with_reducible refine (qbe.calls k _ _ l0 true _ ?side1 ?side2 A3.out).mono ?_); (case side1 => repeat (first | exact HR0.out | (with_reducible refine Kd.qa7 ?_ _) | (with_reducible refine Kd.qa8 ?_ _) | (with_reducible refine Kd.qbm ?_))); (case side2 => exact HC0.out); rintro e w6 ⟨rfl, hb⟩; refine ⟨_, rfl, ?_⟩; have n0_ := Aside0.mk (qak (by repeat (first | (with_reducible first | exact HB.out | apply qac | apply qaa | apply qab) | exact HB.out)) hb); clear HB; have HB := n0_; clear n0_; (try clear hb); (try clear hb2); (try clear hk); (try clear hi)) | ((with_reducible refine qaz (f := 54) rfl ?_); refine qbf (some 13) rfl rfl Try.func54 (by kernel_rfl) rfl #[.slice A0 l0.length c0] rfl (by (try simp only [List.map_toArray, List.map_cons, List.map_nil]); first | done | rfl | (simp only [List.length_drop, List.length_take]; rfl)) ?_; (with_reducible refine (qbD.calls _ _ l0 t157 _ ?side1 ?side2 A5.out).mono ?_); (case side1 => repeat (first | exact (Kd.qa2 HR0.out HB.out) | (with_reducible refine Kd.qa7 ?_ _) | (with_reducible refine Kd.qa8 ?_ _) | (with_reducible refine Kd.qbm ?_))); (case side2 => exact HC0.out); rintro e w7 ⟨rfl, hb⟩; refine ⟨_, rfl, ?_⟩; have n0_ := Aside0.mk (qak (by repeat (first | (with_reducible first | exact HB.out | apply qac | apply qaa | apply qab) | exact HB.out)) hb); clear HB; have HB := n0_; clear n0_; (try clear hb); (try clear hb2); (try clear hk); (try clear hi)))
   go_ret2
   exact ⟨by first | rfl | (simp [qam, qan] <;> rfl) | (simp [*, qam, qan] <;> rfl), by repeat (first | (with_reducible first | exact HB.out | apply qac | apply qaa | apply qab) | exact HB.out)⟩
  ·replace c4 := Bool.eq_false_iff.mpr c4
   subst c4
   have H1 : (some (0, 1)) = some (r1, r2) := by rw [if_neg (show ¬ (false = true) by decide)] at H; exact H
   clear H
   have H := H1
   clear H1
   simp only [Option.some.injEq, Prod.mk.injEq] at H
   obtain ⟨rfl, rfl⟩ := H
   go_enter Try.func14, Try.ntmps14
   go_wp2_with (first | ((with_reducible refine qaz (f := 53) rfl ?_); refine qbf (some 10) rfl rfl Try.func53 (by kernel_rfl) rfl #[.slice A0 l0.length c0] rfl (by (try simp only [List.map_toArray, List.map_cons, List.map_nil]); first | done | rfl | (simp only [List.length_drop, List.length_take]; rfl)) ?_; (with_reducible refine (qbe.calls k _ _ l0 false _ ?side1 ?side2 A3.out).mono ?_); (case side1 => repeat (first | exact HR0.out | (with_reducible refine Kd.qa7 ?_ _) | (with_reducible refine Kd.qa8 ?_ _) | (with_reducible refine Kd.qbm ?_))); (case side2 => exact HC0.out); rintro e w8 ⟨rfl, hb⟩; refine ⟨_, rfl, ?_⟩; have n0_ := Aside0.mk (qak (by repeat (first | (with_reducible first | exact HB.out | apply qac | apply qaa | apply qab) | exact HB.out)) hb); clear HB; have HB := n0_; clear n0_; (try clear hb); (try clear hb2); (try clear hk); (try clear hi)))
   go_ret2
   exact ⟨by first | rfl | (simp [qam, qan] <;> rfl) | (simp [*, qam, qan] <;> rfl), by repeat (first | (with_reducible first | exact HB.out | apply qac | apply qaa | apply qab) | exact HB.out)⟩
end Go.Proofs.Ytgcncphdjabjjaa.X
namespace Go.Proofs.Ytgcncphdjabjjaa.X
open Go.RowKit Go.Proofs.YtgcncphdjabjjaaW.PrintWords Go.Proofs.YtgcncphdjabjjaaW.PrintLast Go.Proofs.YtgcncphdjabjjaaW.PrintMore
attribute [local go_sem] qaT qaU qaV qaP qaQ qa3 qa4 qaJ qaK qaR qaS
set_option linter.unusedVariables false
set_option linter.unusedSimpArgs false
def qcb.f (k : Nat) (l0 : List (S76)) : Option (Int × Int) := if (l0.length : Int) > 4096 then (some (0, 2)) else ((qaG.f k l0).bind fun t131 => (if t131 = true then ((qaX.f k l0).bind fun t132 => (some (t132, 0))) else (some (0, 1))))
theorem qcb.mono : ∀ a0 k, LeO (qcb.f k a0) (qcb.f (k + 1) a0) := by
 intro a0 k
 unfold qcb.f
 repeat' first
   | (with_reducible exact qaG.mono _ _)
   | (with_reducible exact qaX.mono _ _)
   | (with_reducible exact LeO.refl _)
   | (with_reducible exact LeO.none _)
   | (with_reducible refine LeO.ite ?_ ?_)
   | (with_reducible refine LeO.bind ?_ (fun _ => ?_))
   | exact qaG.mono _ _
   | exact qaX.mono _ _
   | exact LeO.none _
   | refine LeO.ite ?_ ?_
   | refine LeO.bind ?_ (fun _ => ?_)
set_option maxHeartbeats 8000000 in
set_option maxRecDepth 100000 in
theorem qcb.calls (k : Nat) (A0 : Option Addr) (c0 : Nat) (l0 : List (S76)) (r1 : Int) (r2 : Int) (w : World) (hr0 : Kd.C k76 w A0 l0.length l0) (hc0 : l0.length ≤ c0) (h : qcb.f k l0 = some (r1, r2)) :
  Calls Try.prog 12 #[.slice A0 l0.length c0] w fun e w' => e = .returned (.tuple #[.int .i64 r1, .int .i64 r2]) ∧ Below w.heap.size w w' := by
 have HR0 := Aside0.mk hr0
 have HC0 := Aside0.mk hc0
 clear hr0 hc0
 have HB := Aside0.mk (Below.refl w.heap.size w)
 have H : (if (l0.length : Int) > 4096 then (some (0, 2)) else ((qaG.f k l0).bind fun t131 => (if t131 = true then ((qaX.f k l0).bind fun t132 => (some (t132, 0))) else (some (0, 1))))) = some (r1, r2) := h
 clear h
 by_cases c2 : (l0.length : Int) > 4096
 ·rw [if_pos c2] at H
  have c2b0 : decide (4096 < (l0.length : Int)) = true := decide_eq_true c2
  have c2b1 : decide (4096 < l0.length) = true := decide_eq_true (by omega)
  clear c2
  simp only [Option.some.injEq, Prod.mk.injEq] at H
  obtain ⟨rfl, rfl⟩ := H
  go_enter Try.func12, Try.ntmps12
  go_wp2
  go_ret2
  exact ⟨by first | rfl | (simp [qam, qan] <;> rfl) | (simp [*, qam, qan] <;> rfl), by repeat (first | (with_reducible first | exact HB.out | apply qac | apply qaa | apply qab) | exact HB.out)⟩
 ·rw [if_neg c2] at H
  have c2b0 : decide (4096 < (l0.length : Int)) = false := decide_eq_false c2
  have c2b1 : decide (4096 < l0.length) = false := decide_eq_false (by omega)
  clear c2
  replace H := Option.bind_eq_some_iff.mp H
  obtain ⟨t131, A30, H⟩ := H
  replace H : (if t131 = true then ((qaX.f k l0).bind fun t132 => (some (t132, 0))) else (some (0, 1))) = some (r1, r2) := H
  have A3 := Aside0.mk A30
  clear A30
  by_cases c4 : t131 = true
  ·subst c4
   have H1 : ((qaX.f k l0).bind fun t132 => (some (t132, 0))) = some (r1, r2) := by rw [if_pos rfl] at H; exact H
   clear H
   have H := H1
   clear H1
   replace H := Option.bind_eq_some_iff.mp H
   obtain ⟨t132, A50, H⟩ := H
   replace H : (some (t132, 0)) = some (r1, r2) := H
   have A5 := Aside0.mk A50
   clear A50
   simp only [Option.some.injEq, Prod.mk.injEq] at H
   obtain ⟨rfl, rfl⟩ := H
   go_enter Try.func12, Try.ntmps12
   go_wp2_with (first | ((with_reducible refine qaz (f := 50) rfl ?_); refine qbf (some 8) rfl rfl Try.func50 (by kernel_rfl) rfl #[.slice A0 l0.length c0] rfl (by (try simp only [List.map_toArray, List.map_cons, List.map_nil]); first | done | rfl | (simp only [List.length_drop, List.length_take]; rfl)) ?_; (with_reducible refine (qaG.calls k _ _ l0 true _ ?side1 ?side2 A3.out).mono ?_); (case side1 => repeat (first | exact HR0.out | (with_reducible refine Kd.qa7 ?_ _) | (with_reducible refine Kd.qa8 ?_ _) | (with_reducible refine Kd.qbm ?_))); (case side2 => exact HC0.out); rintro e w6 ⟨rfl, hb⟩; refine ⟨_, rfl, ?_⟩; have n0_ := Aside0.mk (qak (by repeat (first | (with_reducible first | exact HB.out | apply qac | apply qaa | apply qab) | exact HB.out)) hb); clear HB; have HB := n0_; clear n0_; (try clear hb); (try clear hb2); (try clear hk); (try clear hi)) | ((with_reducible refine qaz (f := 51) rfl ?_); refine qbf (some 11) rfl rfl Try.func51 (by kernel_rfl) rfl #[.slice A0 l0.length c0] rfl (by (try simp only [List.map_toArray, List.map_cons, List.map_nil]); first | done | rfl | (simp only [List.length_drop, List.length_take]; rfl)) ?_; (with_reducible refine (qaX.calls k _ _ l0 t132 _ ?side1 ?side2 A5.out).mono ?_); (case side1 => repeat (first | exact (Kd.qa2 HR0.out HB.out) | (with_reducible refine Kd.qa7 ?_ _) | (with_reducible refine Kd.qa8 ?_ _) | (with_reducible refine Kd.qbm ?_))); (case side2 => exact HC0.out); rintro e w7 ⟨rfl, hb⟩; refine ⟨_, rfl, ?_⟩; have n0_ := Aside0.mk (qak (by repeat (first | (with_reducible first | exact HB.out | apply qac | apply qaa | apply qab) | exact HB.out)) hb); clear HB; have HB := n0_; clear n0_; (try clear hb); (try clear hb2); (try clear hk); (try clear hi)))
   go_ret2
   exact ⟨by first | rfl | (simp [qam, qan] <;> rfl) | (simp [*, qam, qan] <;> rfl), by repeat (first | (with_reducible first | exact HB.out | apply qac | apply qaa | apply qab) | exact HB.out)⟩
  ·replace c4 := Bool.eq_false_iff.mpr c4
   subst c4
   have H1 : (some (0, 1)) = some (r1, r2) := by rw [if_neg (show ¬ (false = true) by decide)] at H; exact H
   clear H
   have H := H1
   clear H1
   simp only [Option.some.injEq, Prod.mk.injEq] at H
   obtain ⟨rfl, rfl⟩ := H
   go_enter Try.func12, Try.ntmps12
   go_wp2_with (first | ((with_reducible refine qaz (f := 50) rfl ?_); refine qbf (some 8) rfl rfl Try.func50 (by kernel_rfl) rfl #[.slice A0 l0.length c0] rfl (by (try simp only [List.map_toArray, List.map_cons, List.map_nil]); first | done | rfl | (simp only [List.length_drop, List.length_take]; rfl)) ?_; (with_reducible refine (qaG.calls k _ _ l0 false _ ?side1 ?side2 A3.out).mono ?_); (case side1 => repeat (first | exact HR0.out | (with_reducible refine Kd.qa7 ?_ _) | (with_reducible refine Kd.qa8 ?_ _) | (with_reducible refine Kd.qbm ?_))); (case side2 => exact HC0.out); rintro e w8 ⟨rfl, hb⟩; refine ⟨_, rfl, ?_⟩; have n0_ := Aside0.mk (qak (by repeat (first | (with_reducible first | exact HB.out | apply qac | apply qaa | apply qab) | exact HB.out)) hb); clear HB; have HB := n0_; clear n0_; (try clear hb); (try clear hb2); (try clear hk); (try clear hi)))
   go_ret2
   exact ⟨by first | rfl | (simp [qam, qan] <;> rfl) | (simp [*, qam, qan] <;> rfl), by repeat (first | (with_reducible first | exact HB.out | apply qac | apply qaa | apply qab) | exact HB.out)⟩
end Go.Proofs.Ytgcncphdjabjjaa.X
namespace Go.Proofs.Ytgcncphdjabjjaa.X
open Go.RowKit Go.Proofs.YtgcncphdjabjjaaW.PrintWords Go.Proofs.YtgcncphdjabjjaaW.PrintLast Go.Proofs.YtgcncphdjabjjaaW.PrintMore
attribute [local go_sem] qaT qaU qaV qaP qaQ qa3 qa4 qaJ qaK qaR qaS
set_option linter.unusedVariables false
set_option linter.unusedSimpArgs false
theorem qeW {l : List S76} (hl : l.length ≤ 1000) (h : ∀ p ∈ l, okP p = true) : PairsFit l := by
 refine ⟨hl, fun p hp => ?_⟩
 have h1 := h p hp
 unfold okP keyB at h1
 simp only [Bool.and_eq_true, decide_eq_true_eq] at h1
 omega
def sumP (l : List S76) : Int := sumOf32 (bytesOf (pairsFrom ByteArray.empty l))
theorem impl_sum {l : List S76} (h : PairsFit l) : qbD.f l = some (sumP l) := by
 unfold qbD.f
 rw [if_pos h]
 rfl
theorem qem (l : List S76) (rest : List S76) : ∀ pre : List S76, l = pre ++ rest → PairsFit l →
  Ev (fun k => qaX.l0 k l (bytesOf (pairsFrom ByteArray.empty pre)) ((pre.length : Nat) : Int)) (sumP l) := by
 induction rest with
 | nil =>
  intro pre h hf
  refine Ev.succ ?_
  simp only [qaX.l0]
  rw [List.append_nil] at h
  subst h
  refine Ev.neg (by omega) (Ev.bindk ?_ (Ev.is rfl))
  unfold qb9.f
  rw [if_pos (show ∀ c, c ∈ bytesOf (pairsFrom ByteArray.empty l) → 0 ≤ c ∧ c < 256 from qdl _)]
  rfl
 | cons x r ih =>
  intro pre h hf
  have hx := qeU l pre r x h
  have hlen : pre.length < l.length := by rw [h]; simp
  have hl := hf.1
  have hi := ih (pre ++ [x]) (by rw [h]; simp) hf
  rw [← qb8, qcR, qcw] at hi
  have hxm := hf.2 x (by rw [h]; simp)
  have hb := qcY x.f0 x.f1 hxm.1 hxm.2
  have hs := qcS pre ByteArray.empty fun t ht => hf.2 t (by rw [h]; exact List.mem_append_left _ ht)
  have h0 : ByteArray.empty.size = 0 := rfl
  refine Ev.succ ?_
  simp only [qaX.l0, hx, qcd (n := pre.length) (by omega)]
  refine Ev.pos (by omega) (Ev.pos (by omega) (Ev.bindk (a := bytesOf (fieldsT [x.f0, x.f1])) ?_ (Ev.pos (by rw [bytesOf_length, bytesOf_length]; omega) hi)))
  unfold qbX.f
  rw [if_pos ⟨by show 2 ≤ _; omega, fun y hy => by
   rcases List.mem_cons.1 hy with rfl | hy
   ·omega
   ·rcases List.mem_cons.1 hy with rfl | hy
    ·omega
    ·cases hy⟩]
theorem spec_sum {l : List S76} (h : PairsFit l) : Ev (fun k => qaX.f k l) (sumP l) := by
 unfold qaX.f
 exact qem l l [] rfl h
theorem qdc {l : List S76} (h : pairsB l = true) : PairsFit l := by
 have := qfS.1 h
 exact qeW (by omega) this.2.1
end Go.Proofs.Ytgcncphdjabjjaa.X
