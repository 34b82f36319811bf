import Derived.Test.YtenfomejccfkgaaKFnExactTreeGet4
import Derived.Test.YtenfomejccfkgaaKFnExactTreeGet5
import Derived.Test.YtenfomejccfkgaaKFnExactTreeGet6
import Derived.Test.YtenfomejccfkgaaKFnExactTreeGet7
import Derived.Test.YtenfomejccfkgaaKFnExactTreeGet8
import Derived.Test.YtenfomejccfkgaaKFnExactTreeGet9
import Derived.Test.YtenfomejccfkgaaKFnExactTreeGet10
import Derived.Test.YtenfomejccfkgaaKFnExactTreeGet11
import Derived.Test.YtenfomejccfkgaaKFnExactTreeGet12
import Derived.Test.YtenfomejccfkgaaKFnExactTreeGet17
import Derived.Test.YtenfomejccfkgaaKFnExactTreeGet20
import Derived.Test.YtenfomejccfkgaaKFnExactTreeGet21
import Derived.Test.YtenfomejccfkgaaKFnExactTreeGet22
import Derived.Test.YtenfomejccfkgaaKFnExactTreeGet23
import Derived.Test.YtenfomejccfkgaaKFnExactTreeGet24
import Derived.Test.YtenfomejccfkgaaKFnExactTreeGet25
namespace Go.Proofs.Ytenfomejccfkgaa.X
open Go.RowKit Go.Proofs.YtenfomejccfkgaaW.PrintWords Go.Proofs.YtenfomejccfkgaaW.PrintLast Go.Proofs.YtenfomejccfkgaaW.PrintMore
attribute [local go_sem] qaN qaO qaP qaJ qaK qaZ qa0 qaE qaF qaL qaM
set_option linter.unusedVariables false
set_option linter.unusedSimpArgs false
theorem qeY (rest : List Int) : ∀ (pre : List Int), ((pre ++ rest).length : Int) ≤ 1048576 → (∀ y ∈ rest, True) →
  Ev (fun k => qa7.l0 k (pre ++ rest) (pre ++ List.replicate rest.length 0) ((pre.length : Nat) : Int)) ((pre ++ rest)) := by
 induction rest with
 | nil =>
  intro pre hl hs
  refine Ev.succ ?_
  simp only [qa7.l0]
  exact Ev.neg (by simp) (Ev.is (by simp))
 | cons x rest ih =>
  intro pre hl hs
  have hx : rd (pre ++ x :: rest) ((pre.length : Nat) : Int) = x := by simp [rd, List.getD_eq_getElem?_getD]
  have hlt : ((pre.length : Nat) : Int) < ((pre ++ x :: rest).length : Int) := by simp; omega
  have hw : wrap64 (((pre.length : Nat) : Int) + 1) = (((pre ++ [x]).length : Nat) : Int) := by rw [← qbR]; exact qb9 (by omega)
  have hset : ∀ v : Int, ((pre ++ List.replicate (x :: rest).length 0).set ((pre.length : Nat) : Int).toNat v) = (pre ++ [v]) ++ List.replicate rest.length 0 := fun v => by rw [Int.toNat_natCast, List.length_cons, List.replicate_succ]; simp
  have hi := ih (pre ++ [x]) (by simpa using hl) (fun y hy => hs y (List.mem_cons_of_mem _ hy))
  refine Ev.succ ?_
  simp only [qa7.l0, hx]
  refine Ev.pos hlt (Ev.pos (by omega) ?_)
  refine Ev.pos (by simp; omega) ?_
  simp only [hset, hw]
  have e1 : pre ++ x :: rest = (pre ++ [x]) ++ rest := by simp
  rw [e1]
  exact hi
theorem to_IntS (l : List Int) (hs : (l.length : Int) ≤ 1048576) : Ev (fun k => qa7.f k l) (l) := by
 have hl : (l.length : Int) ≤ 1048576 := hs
 unfold qa7.f
 refine Ev.pos (by omega) (Ev.pos (by omega) ?_)
 have h := qeY l [] (by simpa using hl) (fun _ _ => trivial)
 simpa using h
end Go.Proofs.Ytenfomejccfkgaa.X
namespace Go.Proofs.Ytenfomejccfkgaa.X
open Go.RowKit Go.Proofs.YtenfomejccfkgaaW.PrintWords Go.Proofs.YtenfomejccfkgaaW.PrintLast Go.Proofs.YtenfomejccfkgaaW.PrintMore
attribute [local go_sem] qaN qaO qaP qaJ qaK qaZ qa0 qaE qaF qaL qaM
set_option linter.unusedVariables false
set_option linter.unusedSimpArgs false
def cv159 (x : S159) : S99 := ⟨x.f0, x.f1⟩
def sm159 (B : Int) (x : S159) : Prop := (x.f0.size : Int) ≤ B ∧ (x.f1.size : Int) ≤ B
def wl159 (x : S159) : Prop := x.f0.size ≤ maxLen ∧ x.f1.size ≤ maxLen
theorem to_Pair (x : S159) : qct.f (x.f0) (x.f1) = some (x.f0, x.f1) := rfl
end Go.Proofs.Ytenfomejccfkgaa.X
namespace Go.Proofs.Ytenfomejccfkgaa.X
open Go.RowKit Go.Proofs.YtenfomejccfkgaaW.PrintWords Go.Proofs.YtenfomejccfkgaaW.PrintLast Go.Proofs.YtenfomejccfkgaaW.PrintMore
attribute [local go_sem] qaN qaO qaP qaJ qaK qaZ qa0 qaE qaF qaL qaM
set_option linter.unusedVariables false
set_option linter.unusedSimpArgs false
theorem qen (rest : List S159) : ∀ (pre : List S159), ((pre ++ rest).length : Int) ≤ 1048576 → (∀ y ∈ rest, sm159 1048576 y) →
  Ev (fun k => qa2.l0 k (pre ++ rest) (pre.map cv159 ++ List.replicate rest.length z99) ((pre.length : Nat) : Int)) ((pre ++ rest).map cv159) := by
 induction rest with
 | nil =>
  intro pre hl hs
  refine Ev.succ ?_
  simp only [qa2.l0]
  exact Ev.neg (by simp) (Ev.is (by simp))
 | cons x rest ih =>
  intro pre hl hs
  have hx : qbN (pre ++ x :: rest) ((pre.length : Nat) : Int) = x := by simp [qbN, List.getD_eq_getElem?_getD]
  have hlt : ((pre.length : Nat) : Int) < ((pre ++ x :: rest).length : Int) := by simp; omega
  have hw : wrap64 (((pre.length : Nat) : Int) + 1) = (((pre ++ [x]).length : Nat) : Int) := by rw [← qbR]; exact qb9 (by omega)
  have hset : ∀ v : S99, ((pre.map cv159 ++ List.replicate (x :: rest).length z99).set ((pre.length : Nat) : Int).toNat v) = (pre.map cv159 ++ [v]) ++ List.replicate rest.length z99 := fun v => by rw [Int.toNat_natCast, List.length_cons, List.replicate_succ]; simp
  have hi := ih (pre ++ [x]) (by simpa using hl) (fun y hy => hs y (List.mem_cons_of_mem _ hy))
  refine Ev.succ ?_
  simp only [qa2.l0, hx]
  refine Ev.pos hlt (Ev.pos (by omega) ?_)
  refine Ev.bindk (to_Pair x) ?_
  refine Ev.pos (by simp; omega) ?_
  simp only [hset, hw]
  have e1 : pre ++ x :: rest = (pre ++ [x]) ++ rest := by simp
  have e2 : (pre ++ [x]).map cv159 = pre.map cv159 ++ [cv159 x] := by simp
  rw [e1]
  rw [e2] at hi
  exact hi
theorem to_PairS (l : List S159) (hs : ((l.length : Int) ≤ 1048576 ∧ ∀ y ∈ l, sm159 1048576 y)) : Ev (fun k => qa2.f k l) (l.map cv159) := by
 have hl : (l.length : Int) ≤ 1048576 := hs.1
 unfold qa2.f
 refine Ev.pos (by omega) (Ev.pos (by omega) ?_)
 have h := qen l [] (by simpa using hl) hs.2
 simpa using h
end Go.Proofs.Ytenfomejccfkgaa.X
namespace Go.Proofs.Ytenfomejccfkgaa.X
open Go.RowKit Go.Proofs.YtenfomejccfkgaaW.PrintWords Go.Proofs.YtenfomejccfkgaaW.PrintLast Go.Proofs.YtenfomejccfkgaaW.PrintMore
attribute [local go_sem] qaN qaO qaP qaJ qaK qaZ qa0 qaE qaF qaL qaM
set_option linter.unusedVariables false
set_option linter.unusedSimpArgs false
theorem qdQ (rest : List ByteArray) : ∀ (pre : List ByteArray), ((pre ++ rest).length : Int) ≤ 1048576 → (∀ y ∈ rest, True) →
  Ev (fun k => qaY.l0 k (pre ++ rest) (pre ++ List.replicate rest.length (⟨#[]⟩ : ByteArray)) ((pre.length : Nat) : Int)) ((pre ++ rest)) := by
 induction rest with
 | nil =>
  intro pre hl hs
  refine Ev.succ ?_
  simp only [qaY.l0]
  exact Ev.neg (by simp) (Ev.is (by simp))
 | cons x rest ih =>
  intro pre hl hs
  have hx : rdOf ByteArray.empty (pre ++ x :: rest) ((pre.length : Nat) : Int) = x := by simp [rdOf, List.getD_eq_getElem?_getD]
  have hlt : ((pre.length : Nat) : Int) < ((pre ++ x :: rest).length : Int) := by simp; omega
  have hw : wrap64 (((pre.length : Nat) : Int) + 1) = (((pre ++ [x]).length : Nat) : Int) := by rw [← qbR]; exact qb9 (by omega)
  have hset : ∀ v : ByteArray, ((pre ++ List.replicate (x :: rest).length (⟨#[]⟩ : ByteArray)).set ((pre.length : Nat) : Int).toNat v) = (pre ++ [v]) ++ List.replicate rest.length (⟨#[]⟩ : ByteArray) := fun v => by rw [Int.toNat_natCast, List.length_cons, List.replicate_succ]; simp
  have hi := ih (pre ++ [x]) (by simpa using hl) (fun y hy => hs y (List.mem_cons_of_mem _ hy))
  refine Ev.succ ?_
  simp only [qaY.l0, hx]
  refine Ev.pos hlt (Ev.pos (by omega) ?_)
  refine Ev.pos (by simp; omega) ?_
  simp only [hset, hw]
  have e1 : pre ++ x :: rest = (pre ++ [x]) ++ rest := by simp
  rw [e1]
  exact hi
theorem qfD (l : List ByteArray) (hs : ((l.length : Int) ≤ 1048576 ∧ ∀ y ∈ l, (y.size : Int) ≤ 1048576)) : Ev (fun k => qaY.f k l) (l) := by
 have hl : (l.length : Int) ≤ 1048576 := hs.1
 unfold qaY.f
 refine Ev.pos (by omega) (Ev.pos (by omega) ?_)
 have h := qdQ l [] (by simpa using hl) (fun _ _ => trivial)
 simpa using h
end Go.Proofs.Ytenfomejccfkgaa.X
namespace Go.Proofs.Ytenfomejccfkgaa.X
open Go.RowKit Go.Proofs.YtenfomejccfkgaaW.PrintWords Go.Proofs.YtenfomejccfkgaaW.PrintLast Go.Proofs.YtenfomejccfkgaaW.PrintMore
attribute [local go_sem] qaN qaO qaP qaJ qaK qaZ qa0 qaE qaF qaL qaM
set_option linter.unusedVariables false
set_option linter.unusedSimpArgs false
def cv50 (x : S50) : S56 := ⟨x.f0, (x.f1).map cv159, x.f2, x.f3⟩
def sm50 (B : Int) (x : S50) : Prop := True ∧ ((x.f1.length : Int) ≤ B ∧ ∀ y ∈ x.f1, sm159 B y) ∧ ((x.f2.length : Int) ≤ B ∧ ∀ y ∈ x.f2, (y.size : Int) ≤ B) ∧ (x.f3.length : Int) ≤ B
def wl50 (x : S50) : Prop := True ∧ (x.f1.length ≤ maxLen ∧ ∀ y ∈ x.f1, wl159 y) ∧ (x.f2.length ≤ maxLen ∧ ∀ y ∈ x.f2, y.size ≤ maxLen) ∧ x.f3.length ≤ maxLen
theorem to_Node (x : S50) (hs : sm50 1048576 x) : Ev (fun k => qbD.f k (x.f0) (x.f1) (x.f2) (x.f3)) (x.f0, (x.f1).map cv159, x.f2, x.f3) := by
 unfold qbD.f
 exact Ev.bind (to_PairS _ hs.2.1) (Ev.bind (qfD _ hs.2.2.1) (Ev.bind (to_IntS _ hs.2.2.2) (Ev.is rfl)))
end Go.Proofs.Ytenfomejccfkgaa.X
namespace Go.Proofs.Ytenfomejccfkgaa.X
open Go.RowKit Go.Proofs.YtenfomejccfkgaaW.PrintWords Go.Proofs.YtenfomejccfkgaaW.PrintLast Go.Proofs.YtenfomejccfkgaaW.PrintMore
attribute [local go_sem] qaN qaO qaP qaJ qaK qaZ qa0 qaE qaF qaL qaM
set_option linter.unusedVariables false
set_option linter.unusedSimpArgs false
theorem qeo (rest : List S50) : ∀ (pre : List S50), ((pre ++ rest).length : Int) ≤ 1048576 → (∀ y ∈ rest, sm50 1048576 y) →
  Ev (fun k => qa3.l0 k (pre ++ rest) (pre.map cv50 ++ List.replicate rest.length z56) ((pre.length : Nat) : Int)) ((pre ++ rest).map cv50) := by
 induction rest with
 | nil =>
  intro pre hl hs
  refine Ev.succ ?_
  simp only [qa3.l0]
  exact Ev.neg (by simp) (Ev.is (by simp))
 | cons x rest ih =>
  intro pre hl hs
  have hx : qbt (pre ++ x :: rest) ((pre.length : Nat) : Int) = x := by simp [qbt, List.getD_eq_getElem?_getD]
  have hlt : ((pre.length : Nat) : Int) < ((pre ++ x :: rest).length : Int) := by simp; omega
  have hw : wrap64 (((pre.length : Nat) : Int) + 1) = (((pre ++ [x]).length : Nat) : Int) := by rw [← qbR]; exact qb9 (by omega)
  have hset : ∀ v : S56, ((pre.map cv50 ++ List.replicate (x :: rest).length z56).set ((pre.length : Nat) : Int).toNat v) = (pre.map cv50 ++ [v]) ++ List.replicate rest.length z56 := fun v => by rw [Int.toNat_natCast, List.length_cons, List.replicate_succ]; simp
  have hi := ih (pre ++ [x]) (by simpa using hl) (fun y hy => hs y (List.mem_cons_of_mem _ hy))
  refine Ev.succ ?_
  simp only [qa3.l0, hx]
  refine Ev.pos hlt (Ev.pos (by omega) ?_)
  refine Ev.bind (to_Node x (hs x List.mem_cons_self)) ?_
  refine Ev.pos (by simp; omega) ?_
  simp only [hset, hw]
  have e1 : pre ++ x :: rest = (pre ++ [x]) ++ rest := by simp
  have e2 : (pre ++ [x]).map cv50 = pre.map cv50 ++ [cv50 x] := by simp
  rw [e1]
  rw [e2] at hi
  exact hi
theorem to_NodeS (l : List S50) (hs : ((l.length : Int) ≤ 1048576 ∧ ∀ y ∈ l, sm50 1048576 y)) : Ev (fun k => qa3.f k l) (l.map cv50) := by
 have hl : (l.length : Int) ≤ 1048576 := hs.1
 unfold qa3.f
 refine Ev.pos (by omega) (Ev.pos (by omega) ?_)
 have h := qeo l [] (by simpa using hl) hs.2
 simpa using h
end Go.Proofs.Ytenfomejccfkgaa.X
namespace Go.Proofs.Ytenfomejccfkgaa.X
open Go.RowKit Go.Proofs.YtenfomejccfkgaaW.PrintWords Go.Proofs.YtenfomejccfkgaaW.PrintLast Go.Proofs.YtenfomejccfkgaaW.PrintMore
attribute [local go_sem] qaN qaO qaP qaJ qaK qaZ qa0 qaE qaF qaL qaM
set_option linter.unusedVariables false
set_option linter.unusedSimpArgs false
def sm24 (B : Int) (x : S24) : Prop := ((x.f0.length : Int) ≤ B ∧ ∀ y ∈ x.f0, sm50 B y)
def wl24 (x : S24) : Prop := (x.f0.length ≤ maxLen ∧ ∀ y ∈ x.f0, wl50 y)
theorem to_Heap (x : S24) (hs : sm24 1048576 x) : Ev (fun k => qbd.f k (x.f0)) ((x.f0).map cv50) := by
 unfold qbd.f
 exact Ev.bind (to_NodeS _ hs) (Ev.is rfl)
end Go.Proofs.Ytenfomejccfkgaa.X
namespace Go.Proofs.Ytenfomejccfkgaa.X
open Go.RowKit Go.Proofs.YtenfomejccfkgaaW.PrintWords Go.Proofs.YtenfomejccfkgaaW.PrintLast Go.Proofs.YtenfomejccfkgaaW.PrintMore
attribute [local go_sem] qaN qaO qaP qaJ qaK qaZ qa0 qaE qaF qaL qaM
set_option linter.unusedVariables false
set_option linter.unusedSimpArgs false
theorem sz_IntS (l : List Int) (hw : l.length ≤ maxLen) (B left : Int) (h0 : 0 ≤ left) (h1 : left ≤ B) (hB : B ≤ 1048576) : ∃ r, Ev (fun k => qbQ.f l left) r ∧ (0 ≤ r → r ≤ left ∧ (l.length : Int) ≤ B) := by
 have hl := Nat.le_trans hw qcu
 unfold qbQ.f
 have e : wrap64 (left - (l.length : Int)) = left - (l.length : Int) := qc8 (by omega) (by omega)
 simp only [e]
 by_cases c : left - (l.length : Int) < 0
 ·exact ⟨-1, Ev.pos c (Ev.is rfl), fun h => by omega⟩
 ·exact ⟨left - (l.length : Int), Ev.neg c (Ev.is rfl), fun _ => ⟨by omega, by omega⟩⟩
end Go.Proofs.Ytenfomejccfkgaa.X
namespace Go.Proofs.Ytenfomejccfkgaa.X
open Go.RowKit Go.Proofs.YtenfomejccfkgaaW.PrintWords Go.Proofs.YtenfomejccfkgaaW.PrintLast Go.Proofs.YtenfomejccfkgaaW.PrintMore
attribute [local go_sem] qaN qaO qaP qaJ qaK qaZ qa0 qaE qaF qaL qaM
set_option linter.unusedVariables false
set_option linter.unusedSimpArgs false
theorem sz_Pair (x : S159) (hw : wl159 x) (B left : Int) (h0 : 0 ≤ left) (h1 : left ≤ B) (hB : B ≤ 1048576) : ∃ r, Ev (fun k => qcd.f (x.f0) (x.f1) left) r ∧ (0 ≤ r → r ≤ left ∧ sm159 B x) := by
 unfold qcd.f
 have hs0 : x.f0.size ≤ 9223372036854775807 := Nat.le_trans hw.1 qcu
 have e0 : wrap64 (left - (x.f0.size : Int)) = left - (x.f0.size : Int) := qc8 (by omega) (by omega)
 simp only [e0]
 by_cases c0 : left - (x.f0.size : Int) < 0
 ·exact ⟨-1, Ev.pos c0 (Ev.is rfl), fun h => by omega⟩
 suffices hh : ∃ r, Ev _ r ∧ (0 ≤ r → r ≤ left ∧ sm159 B x) from (let ⟨r, hr, hq⟩ := hh; ⟨r, Ev.neg c0 hr, hq⟩)
 have hs1 : x.f1.size ≤ 9223372036854775807 := Nat.le_trans hw.2 qcu
 have e1 : wrap64 ((left - (x.f0.size : Int)) - (x.f1.size : Int)) = (left - (x.f0.size : Int)) - (x.f1.size : Int) := qc8 (by omega) (by omega)
 simp only [e1]
 by_cases c1 : (left - (x.f0.size : Int)) - (x.f1.size : Int) < 0
 ·exact ⟨-1, Ev.pos c1 (Ev.is rfl), fun h => by omega⟩
 suffices hh : ∃ r, Ev _ r ∧ (0 ≤ r → r ≤ left ∧ sm159 B x) from (let ⟨r, hr, hq⟩ := hh; ⟨r, Ev.neg c1 hr, hq⟩)
 exact ⟨((left - (x.f0.size : Int)) - (x.f1.size : Int)), Ev.is rfl, fun _ => ⟨by omega, ⟨(by omega), (by omega)⟩⟩⟩
end Go.Proofs.Ytenfomejccfkgaa.X
namespace Go.Proofs.Ytenfomejccfkgaa.X
open Go.RowKit Go.Proofs.YtenfomejccfkgaaW.PrintWords Go.Proofs.YtenfomejccfkgaaW.PrintLast Go.Proofs.YtenfomejccfkgaaW.PrintMore
attribute [local go_sem] qaN qaO qaP qaJ qaK qaZ qa0 qaE qaF qaL qaM
set_option linter.unusedVariables false
set_option linter.unusedSimpArgs false
theorem qep (B : Int) (hB : B ≤ 1048576) (rest : List S159) : ∀ (pre : List S159) (left : Int), (pre ++ rest).length ≤ 9223372036854775807 → (∀ y ∈ rest, wl159 y) → 0 ≤ left → left ≤ B →
  ∃ r, Ev (fun k => qa1.l0 k (pre ++ rest) left ((pre.length : Nat) : Int)) r ∧ (0 ≤ r → r ≤ left ∧ ∀ y ∈ rest, sm159 B y) := by
 induction rest with
 | nil =>
  intro pre left hl hw h0 h1
  refine ⟨left, Ev.succ ?_, fun _ => ⟨Int.le_refl _, fun y hy => by cases hy⟩⟩
  simp only [qa1.l0]
  exact Ev.neg (by simp) (Ev.is rfl)
 | cons x rest ih =>
  intro pre left hl hw h0 h1
  have hx : qbN (pre ++ x :: rest) ((pre.length : Nat) : Int) = x := by simp [qbN, List.getD_eq_getElem?_getD]
  have hlt : ((pre.length : Nat) : Int) < ((pre ++ x :: rest).length : Int) := by simp; omega
  have hwp : wrap64 (((pre.length : Nat) : Int) + 1) = (((pre ++ [x]).length : Nat) : Int) := by rw [← qbR]; exact qb9 (by omega)
  have e1 : pre ++ x :: rest = (pre ++ [x]) ++ rest := by simp
  have hl2 : ((pre ++ [x]) ++ rest).length ≤ 9223372036854775807 := by rw [← e1]; exact hl
  obtain ⟨r, hr, hq⟩ := sz_Pair x (hw x List.mem_cons_self) B left h0 h1 hB
  by_cases c : r < 0
  ·refine ⟨-1, Ev.succ ?_, fun h => by omega⟩
   simp only [qa1.l0, hx]
   exact Ev.pos hlt (Ev.pos (by omega) (Ev.bind hr (Ev.pos c (Ev.is rfl))))
  ·have hq' := hq (by omega)
   obtain ⟨r2, hr2, hq2⟩ := ih (pre ++ [x]) r hl2 (fun y hy => hw y (List.mem_cons_of_mem _ hy)) (by omega) (by omega)
   refine ⟨r2, Ev.succ ?_, fun h => ?_⟩
   ·simp only [qa1.l0, hx, hwp]
    rw [← e1] at hr2
    exact Ev.pos hlt (Ev.pos (by omega) (Ev.bind hr (Ev.neg c hr2)))
   ·have h3 := hq2 h
    refine ⟨by omega, fun y hy => ?_⟩
    rcases List.mem_cons.1 hy with rfl | hy
    ·exact hq'.2
    ·exact h3.2 y hy
theorem sz_PairS (l : List S159) (hw : (l.length ≤ maxLen ∧ ∀ y ∈ l, wl159 y)) (B left : Int) (h0 : 0 ≤ left) (h1 : left ≤ B) (hB : B ≤ 1048576) : ∃ r, Ev (fun k => qa1.f k l left) r ∧ (0 ≤ r → r ≤ left ∧ ((l.length : Int) ≤ B ∧ ∀ y ∈ l, sm159 B y)) := by
 have hl := Nat.le_trans hw.1 qcu
 unfold qa1.f
 have e : wrap64 (left - (l.length : Int)) = left - (l.length : Int) := qc8 (by omega) (by omega)
 simp only [e]
 by_cases c : left - (l.length : Int) < 0
 ·exact ⟨-1, Ev.pos c (Ev.is rfl), fun h => by omega⟩
 ·obtain ⟨r, hr, hq⟩ := qep B hB l [] (left - (l.length : Int)) (by simpa using hl) hw.2 (by omega) (by omega)
  exact ⟨r, Ev.neg c (by simpa using hr), fun h => ⟨by have := (hq h).1; omega, by omega, (hq h).2⟩⟩
end Go.Proofs.Ytenfomejccfkgaa.X
namespace Go.Proofs.Ytenfomejccfkgaa.X
open Go.RowKit Go.Proofs.YtenfomejccfkgaaW.PrintWords Go.Proofs.YtenfomejccfkgaaW.PrintLast Go.Proofs.YtenfomejccfkgaaW.PrintMore
attribute [local go_sem] qaN qaO qaP qaJ qaK qaZ qa0 qaE qaF qaL qaM
set_option linter.unusedVariables false
set_option linter.unusedSimpArgs false
theorem qdR (B : Int) (hB : B ≤ 1048576) (rest : List ByteArray) : ∀ (pre : List ByteArray) (left : Int), (pre ++ rest).length ≤ 9223372036854775807 → (∀ y ∈ rest, y.size ≤ maxLen) → 0 ≤ left → left ≤ B →
  ∃ r, Ev (fun k => qaX.l0 k (pre ++ rest) left ((pre.length : Nat) : Int)) r ∧ (0 ≤ r → r ≤ left ∧ ∀ y ∈ rest, (y.size : Int) ≤ B) := by
 induction rest with
 | nil =>
  intro pre left hl hw h0 h1
  refine ⟨left, Ev.succ ?_, fun _ => ⟨Int.le_refl _, fun y hy => by cases hy⟩⟩
  simp only [qaX.l0]
  exact Ev.neg (by simp) (Ev.is rfl)
 | cons x rest ih =>
  intro pre left hl hw h0 h1
  have hx : rdOf ByteArray.empty (pre ++ x :: rest) ((pre.length : Nat) : Int) = x := by simp [rdOf, List.getD_eq_getElem?_getD]
  have hlt : ((pre.length : Nat) : Int) < ((pre ++ x :: rest).length : Int) := by simp; omega
  have hwp : wrap64 (((pre.length : Nat) : Int) + 1) = (((pre ++ [x]).length : Nat) : Int) := by rw [← qbR]; exact qb9 (by omega)
  have e1 : pre ++ x :: rest = (pre ++ [x]) ++ rest := by simp
  have hl2 : ((pre ++ [x]) ++ rest).length ≤ 9223372036854775807 := by rw [← e1]; exact hl
  have hs : x.size ≤ 9223372036854775807 := Nat.le_trans (hw x List.mem_cons_self) qcu
  have e : wrap64 (left - (x.size : Int)) = left - (x.size : Int) := qc8 (by omega) (by omega)
  by_cases c : left - (x.size : Int) < 0
  ·refine ⟨-1, Ev.succ ?_, fun h => by omega⟩
   simp only [qaX.l0, hx, e]
   exact Ev.pos hlt (Ev.pos (by omega) (Ev.pos c (Ev.is rfl)))
  ·obtain ⟨r2, hr2, hq2⟩ := ih (pre ++ [x]) (left - (x.size : Int)) hl2 (fun y hy => hw y (List.mem_cons_of_mem _ hy)) (by omega) (by omega)
   refine ⟨r2, Ev.succ ?_, fun h => ?_⟩
   ·simp only [qaX.l0, hx, hwp, e]
    rw [← e1] at hr2
    exact Ev.pos hlt (Ev.pos (by omega) (Ev.neg c hr2))
   ·have h3 := hq2 h
    refine ⟨by omega, fun y hy => ?_⟩
    rcases List.mem_cons.1 hy with rfl | hy
    ·omega
    ·exact h3.2 y hy
theorem qfE (l : List ByteArray) (hw : (l.length ≤ maxLen ∧ ∀ y ∈ l, y.size ≤ maxLen)) (B left : Int) (h0 : 0 ≤ left) (h1 : left ≤ B) (hB : B ≤ 1048576) : ∃ r, Ev (fun k => qaX.f k l left) r ∧ (0 ≤ r → r ≤ left ∧ ((l.length : Int) ≤ B ∧ ∀ y ∈ l, (y.size : Int) ≤ B)) := by
 have hl := Nat.le_trans hw.1 qcu
 unfold qaX.f
 have e : wrap64 (left - (l.length : Int)) = left - (l.length : Int) := qc8 (by omega) (by omega)
 simp only [e]
 by_cases c : left - (l.length : Int) < 0
 ·exact ⟨-1, Ev.pos c (Ev.is rfl), fun h => by omega⟩
 ·obtain ⟨r, hr, hq⟩ := qdR B hB l [] (left - (l.length : Int)) (by simpa using hl) hw.2 (by omega) (by omega)
  exact ⟨r, Ev.neg c (by simpa using hr), fun h => ⟨by have := (hq h).1; omega, by omega, (hq h).2⟩⟩
end Go.Proofs.Ytenfomejccfkgaa.X
namespace Go.Proofs.Ytenfomejccfkgaa.X
open Go.RowKit Go.Proofs.YtenfomejccfkgaaW.PrintWords Go.Proofs.YtenfomejccfkgaaW.PrintLast Go.Proofs.YtenfomejccfkgaaW.PrintMore
attribute [local go_sem] qaN qaO qaP qaJ qaK qaZ qa0 qaE qaF qaL qaM
set_option linter.unusedVariables false
set_option linter.unusedSimpArgs false
theorem sz_Node (x : S50) (hw : wl50 x) (B left : Int) (h0 : 0 ≤ left) (h1 : left ≤ B) (hB : B ≤ 1048576) : ∃ r, Ev (fun k => qbA.f k (x.f0) (x.f1) (x.f2) (x.f3) left) r ∧ (0 ≤ r → r ≤ left ∧ sm50 B x) := by
 unfold qbA.f
 obtain ⟨r1, hr1, hq1⟩ := sz_PairS x.f1 hw.2.1 B left (by omega) (by omega) hB
 by_cases c1 : r1 < 0
 ·exact ⟨-1, Ev.bind hr1 (Ev.pos c1 (Ev.is rfl)), fun h => by omega⟩
 have hq1' := hq1 (by omega)
 suffices hh : ∃ r, Ev _ r ∧ (0 ≤ r → r ≤ left ∧ sm50 B x) from (let ⟨r, hr, hq⟩ := hh; ⟨r, Ev.bind hr1 (Ev.neg c1 hr), hq⟩)
 have hz1 := hq1'.1
 obtain ⟨r2, hr2, hq2⟩ := qfE x.f2 hw.2.2.1 B r1 (by omega) (by omega) hB
 by_cases c2 : r2 < 0
 ·exact ⟨-1, Ev.bind hr2 (Ev.pos c2 (Ev.is rfl)), fun h => by omega⟩
 have hq2' := hq2 (by omega)
 suffices hh : ∃ r, Ev _ r ∧ (0 ≤ r → r ≤ left ∧ sm50 B x) from (let ⟨r, hr, hq⟩ := hh; ⟨r, Ev.bind hr2 (Ev.neg c2 hr), hq⟩)
 have hz2 := hq2'.1
 obtain ⟨r3, hr3, hq3⟩ := sz_IntS x.f3 hw.2.2.2 B r2 (by omega) (by omega) hB
 by_cases c3 : r3 < 0
 ·exact ⟨-1, Ev.bind hr3 (Ev.pos c3 (Ev.is rfl)), fun h => by omega⟩
 have hq3' := hq3 (by omega)
 suffices hh : ∃ r, Ev _ r ∧ (0 ≤ r → r ≤ left ∧ sm50 B x) from (let ⟨r, hr, hq⟩ := hh; ⟨r, Ev.bind hr3 (Ev.neg c3 hr), hq⟩)
 have hz3 := hq3'.1
 exact ⟨r3, Ev.is rfl, fun _ => ⟨by omega, ⟨trivial, hq1'.2, hq2'.2, hq3'.2⟩⟩⟩
end Go.Proofs.Ytenfomejccfkgaa.X
namespace Go.Proofs.Ytenfomejccfkgaa.X
open Go.RowKit Go.Proofs.YtenfomejccfkgaaW.PrintWords Go.Proofs.YtenfomejccfkgaaW.PrintLast Go.Proofs.YtenfomejccfkgaaW.PrintMore
attribute [local go_sem] qaN qaO qaP qaJ qaK qaZ qa0 qaE qaF qaL qaM
set_option linter.unusedVariables false
set_option linter.unusedSimpArgs false
theorem qeq (B : Int) (hB : B ≤ 1048576) (rest : List S50) : ∀ (pre : List S50) (left : Int), (pre ++ rest).length ≤ 9223372036854775807 → (∀ y ∈ rest, wl50 y) → 0 ≤ left → left ≤ B →
  ∃ r, Ev (fun k => qa4.l0 k (pre ++ rest) left ((pre.length : Nat) : Int)) r ∧ (0 ≤ r → r ≤ left ∧ ∀ y ∈ rest, sm50 B y) := by
 induction rest with
 | nil =>
  intro pre left hl hw h0 h1
  refine ⟨left, Ev.succ ?_, fun _ => ⟨Int.le_refl _, fun y hy => by cases hy⟩⟩
  simp only [qa4.l0]
  exact Ev.neg (by simp) (Ev.is rfl)
 | cons x rest ih =>
  intro pre left hl hw h0 h1
  have hx : qbt (pre ++ x :: rest) ((pre.length : Nat) : Int) = x := by simp [qbt, List.getD_eq_getElem?_getD]
  have hlt : ((pre.length : Nat) : Int) < ((pre ++ x :: rest).length : Int) := by simp; omega
  have hwp : wrap64 (((pre.length : Nat) : Int) + 1) = (((pre ++ [x]).length : Nat) : Int) := by rw [← qbR]; exact qb9 (by omega)
  have e1 : pre ++ x :: rest = (pre ++ [x]) ++ rest := by simp
  have hl2 : ((pre ++ [x]) ++ rest).length ≤ 9223372036854775807 := by rw [← e1]; exact hl
  obtain ⟨r, hr, hq⟩ := sz_Node x (hw x List.mem_cons_self) B left h0 h1 hB
  by_cases c : r < 0
  ·refine ⟨-1, Ev.succ ?_, fun h => by omega⟩
   simp only [qa4.l0, hx]
   exact Ev.pos hlt (Ev.pos (by omega) (Ev.bind hr (Ev.pos c (Ev.is rfl))))
  ·have hq' := hq (by omega)
   obtain ⟨r2, hr2, hq2⟩ := ih (pre ++ [x]) r hl2 (fun y hy => hw y (List.mem_cons_of_mem _ hy)) (by omega) (by omega)
   refine ⟨r2, Ev.succ ?_, fun h => ?_⟩
   ·simp only [qa4.l0, hx, hwp]
    rw [← e1] at hr2
    exact Ev.pos hlt (Ev.pos (by omega) (Ev.bind hr (Ev.neg c hr2)))
   ·have h3 := hq2 h
    refine ⟨by omega, fun y hy => ?_⟩
    rcases List.mem_cons.1 hy with rfl | hy
    ·exact hq'.2
    ·exact h3.2 y hy
theorem sz_NodeS (l : List S50) (hw : (l.length ≤ maxLen ∧ ∀ y ∈ l, wl50 y)) (B left : Int) (h0 : 0 ≤ left) (h1 : left ≤ B) (hB : B ≤ 1048576) : ∃ r, Ev (fun k => qa4.f k l left) r ∧ (0 ≤ r → r ≤ left ∧ ((l.length : Int) ≤ B ∧ ∀ y ∈ l, sm50 B y)) := by
 have hl := Nat.le_trans hw.1 qcu
 unfold qa4.f
 have e : wrap64 (left - (l.length : Int)) = left - (l.length : Int) := qc8 (by omega) (by omega)
 simp only [e]
 by_cases c : left - (l.length : Int) < 0
 ·exact ⟨-1, Ev.pos c (Ev.is rfl), fun h => by omega⟩
 ·obtain ⟨r, hr, hq⟩ := qeq B hB l [] (left - (l.length : Int)) (by simpa using hl) hw.2 (by omega) (by omega)
  exact ⟨r, Ev.neg c (by simpa using hr), fun h => ⟨by have := (hq h).1; omega, by omega, (hq h).2⟩⟩
end Go.Proofs.Ytenfomejccfkgaa.X
namespace Go.Proofs.Ytenfomejccfkgaa.X
open Go.RowKit Go.Proofs.YtenfomejccfkgaaW.PrintWords Go.Proofs.YtenfomejccfkgaaW.PrintLast Go.Proofs.YtenfomejccfkgaaW.PrintMore
attribute [local go_sem] qaN qaO qaP qaJ qaK qaZ qa0 qaE qaF qaL qaM
set_option linter.unusedVariables false
set_option linter.unusedSimpArgs false
theorem sz_Heap (x : S24) (hw : wl24 x) (B left : Int) (h0 : 0 ≤ left) (h1 : left ≤ B) (hB : B ≤ 1048576) : ∃ r, Ev (fun k => qbw.f k (x.f0) left) r ∧ (0 ≤ r → r ≤ left ∧ sm24 B x) := by
 unfold qbw.f
 obtain ⟨r0, hr0, hq0⟩ := sz_NodeS x.f0 hw B left (by omega) (by omega) hB
 by_cases c0 : r0 < 0
 ·exact ⟨-1, Ev.bind hr0 (Ev.pos c0 (Ev.is rfl)), fun h => by omega⟩
 have hq0' := hq0 (by omega)
 suffices hh : ∃ r, Ev _ r ∧ (0 ≤ r → r ≤ left ∧ sm24 B x) from (let ⟨r, hr, hq⟩ := hh; ⟨r, Ev.bind hr0 (Ev.neg c0 hr), hq⟩)
 have hz0 := hq0'.1
 exact ⟨r0, Ev.is rfl, fun _ => ⟨by omega, hq0'.2⟩⟩
end Go.Proofs.Ytenfomejccfkgaa.X
namespace Go.Proofs.Ytenfomejccfkgaa.X
open Go.RowKit Go.Proofs.YtenfomejccfkgaaW.PrintWords Go.Proofs.YtenfomejccfkgaaW.PrintLast Go.Proofs.YtenfomejccfkgaaW.PrintMore
attribute [local go_sem] qaN qaO qaP qaJ qaK qaZ qa0 qaE qaF qaL qaM
set_option linter.unusedVariables false
set_option linter.unusedSimpArgs false
theorem qeZ (rest : List Int) : ∀ (pre : List Int), (pre ++ rest).length ≤ 9223372036854775807 → (True) → Ev (fun k => qa6.l0 k (pre ++ rest) (pre ++ rest) ((pre.length : Nat) : Int)) true := by
 induction rest with
 | nil =>
  intro pre hl hs
  refine Ev.succ ?_
  simp only [qa6.l0]
  exact Ev.neg (by simp) (Ev.is rfl)
 | cons x rest ih =>
  intro pre hl hs
  have hx : rd (pre ++ x :: rest) ((pre.length : Nat) : Int) = x := by simp [rd, List.getD_eq_getElem?_getD]
  have hlt : ((pre.length : Nat) : Int) < ((pre ++ x :: rest).length : Int) := by simp; omega
  have hwp : wrap64 (((pre.length : Nat) : Int) + 1) = (((pre ++ [x]).length : Nat) : Int) := by rw [← qbR]; exact qb9 (by simp at hl; omega)
  have e1 : pre ++ x :: rest = (pre ++ [x]) ++ rest := by simp
  have hi := ih (pre ++ [x]) (by rw [← e1]; exact hl) trivial
  rw [← e1] at hi
  refine Ev.succ ?_
  simp only [qa6.l0, hx, hwp]
  exact Ev.pos hlt (Ev.pos (by omega) (Ev.pos hlt (Ev.pos (by first | trivial | rfl) hi)))
theorem eq_IntS (l : List Int) (h : l.length ≤ 9223372036854775807) : Ev (fun k => qa6.f k l l) true := by
 unfold qa6.f
 have hh := qeZ l [] (by simpa using h) trivial
 exact Ev.pos rfl (by simpa using hh)
end Go.Proofs.Ytenfomejccfkgaa.X
namespace Go.Proofs.Ytenfomejccfkgaa.X
open Go.RowKit Go.Proofs.YtenfomejccfkgaaW.PrintWords Go.Proofs.YtenfomejccfkgaaW.PrintLast Go.Proofs.YtenfomejccfkgaaW.PrintMore
attribute [local go_sem] qaN qaO qaP qaJ qaK qaZ qa0 qaE qaF qaL qaM
set_option linter.unusedVariables false
set_option linter.unusedSimpArgs false
def len99 (x : S99) : Prop := True ∧ True
theorem eq_Pair (x : S99) (h : len99 x) : Ev (fun k => qbV.f (x.f0) (x.f1) (x.f0) (x.f1)) true := by
 unfold qbV.f
 exact Ev.pos rfl (Ev.pos rfl (Ev.is rfl))
end Go.Proofs.Ytenfomejccfkgaa.X
namespace Go.Proofs.Ytenfomejccfkgaa.X
open Go.RowKit Go.Proofs.YtenfomejccfkgaaW.PrintWords Go.Proofs.YtenfomejccfkgaaW.PrintLast Go.Proofs.YtenfomejccfkgaaW.PrintMore
attribute [local go_sem] qaN qaO qaP qaJ qaK qaZ qa0 qaE qaF qaL qaM
set_option linter.unusedVariables false
set_option linter.unusedSimpArgs false
theorem qer (rest : List S99) : ∀ (pre : List S99), (pre ++ rest).length ≤ 9223372036854775807 → (∀ y ∈ rest, len99 y) → Ev (fun k => qaV.l0 k (pre ++ rest) (pre ++ rest) ((pre.length : Nat) : Int)) true := by
 induction rest with
 | nil =>
  intro pre hl hs
  refine Ev.succ ?_
  simp only [qaV.l0]
  exact Ev.neg (by simp) (Ev.is rfl)
 | cons x rest ih =>
  intro pre hl hs
  have hx : qay (pre ++ x :: rest) ((pre.length : Nat) : Int) = x := by simp [qay, List.getD_eq_getElem?_getD]
  have hlt : ((pre.length : Nat) : Int) < ((pre ++ x :: rest).length : Int) := by simp; omega
  have hwp : wrap64 (((pre.length : Nat) : Int) + 1) = (((pre ++ [x]).length : Nat) : Int) := by rw [← qbR]; exact qb9 (by simp at hl; omega)
  have e1 : pre ++ x :: rest = (pre ++ [x]) ++ rest := by simp
  have hi := ih (pre ++ [x]) (by rw [← e1]; exact hl) (fun y hy => hs y (List.mem_cons_of_mem _ hy))
  rw [← e1] at hi
  refine Ev.succ ?_
  simp only [qaV.l0, hx, hwp]
  exact Ev.pos hlt (Ev.pos (by omega) (Ev.pos hlt (Ev.bind (eq_Pair x (hs x List.mem_cons_self)) (Ev.pos rfl hi))))
theorem eq_PairS (l : List S99) (h : l.length ≤ 9223372036854775807 ∧ ∀ y ∈ l, len99 y) : Ev (fun k => qaV.f k l l) true := by
 unfold qaV.f
 have hh := qer l [] (by simpa using h.1) h.2
 exact Ev.pos rfl (by simpa using hh)
end Go.Proofs.Ytenfomejccfkgaa.X
namespace Go.Proofs.Ytenfomejccfkgaa.X
open Go.RowKit Go.Proofs.YtenfomejccfkgaaW.PrintWords Go.Proofs.YtenfomejccfkgaaW.PrintLast Go.Proofs.YtenfomejccfkgaaW.PrintMore
attribute [local go_sem] qaN qaO qaP qaJ qaK qaZ qa0 qaE qaF qaL qaM
set_option linter.unusedVariables false
set_option linter.unusedSimpArgs false
theorem qdS (rest : List ByteArray) : ∀ (pre : List ByteArray), (pre ++ rest).length ≤ 9223372036854775807 → (True) → Ev (fun k => qaW.l0 k (pre ++ rest) (pre ++ rest) ((pre.length : Nat) : Int)) true := by
 induction rest with
 | nil =>
  intro pre hl hs
  refine Ev.succ ?_
  simp only [qaW.l0]
  exact Ev.neg (by simp) (Ev.is rfl)
 | cons x rest ih =>
  intro pre hl hs
  have hx : rdOf ByteArray.empty (pre ++ x :: rest) ((pre.length : Nat) : Int) = x := by simp [rdOf, List.getD_eq_getElem?_getD]
  have hlt : ((pre.length : Nat) : Int) < ((pre ++ x :: rest).length : Int) := by simp; omega
  have hwp : wrap64 (((pre.length : Nat) : Int) + 1) = (((pre ++ [x]).length : Nat) : Int) := by rw [← qbR]; exact qb9 (by simp at hl; omega)
  have e1 : pre ++ x :: rest = (pre ++ [x]) ++ rest := by simp
  have hi := ih (pre ++ [x]) (by rw [← e1]; exact hl) trivial
  rw [← e1] at hi
  refine Ev.succ ?_
  simp only [qaW.l0, hx, hwp]
  exact Ev.pos hlt (Ev.pos (by omega) (Ev.pos hlt (Ev.pos (by first | trivial | rfl) hi)))
theorem qfF (l : List ByteArray) (h : l.length ≤ 9223372036854775807) : Ev (fun k => qaW.f k l l) true := by
 unfold qaW.f
 have hh := qdS l [] (by simpa using h) trivial
 exact Ev.pos rfl (by simpa using hh)
end Go.Proofs.Ytenfomejccfkgaa.X
namespace Go.Proofs.Ytenfomejccfkgaa.X
open Go.RowKit Go.Proofs.YtenfomejccfkgaaW.PrintWords Go.Proofs.YtenfomejccfkgaaW.PrintLast Go.Proofs.YtenfomejccfkgaaW.PrintMore
attribute [local go_sem] qaN qaO qaP qaJ qaK qaZ qa0 qaE qaF qaL qaM
set_option linter.unusedVariables false
set_option linter.unusedSimpArgs false
def len56 (x : S56) : Prop := True ∧ (x.f1.length ≤ 9223372036854775807 ∧ ∀ y ∈ x.f1, len99 y) ∧ (x.f2.length ≤ 9223372036854775807) ∧ (x.f3.length ≤ 9223372036854775807)
theorem eq_Node (x : S56) (h : len56 x) : Ev (fun k => qbz.f k (x.f0) (x.f1) (x.f2) (x.f3) (x.f0) (x.f1) (x.f2) (x.f3)) true := by
 unfold qbz.f
 exact Ev.neg (by simp) (Ev.bind (eq_PairS _ h.2.1) (Ev.pos rfl (Ev.bind (qfF _ h.2.2.1) (Ev.pos rfl (Ev.bind (eq_IntS _ h.2.2.2) (Ev.pos rfl (Ev.is rfl)))))))
end Go.Proofs.Ytenfomejccfkgaa.X
namespace Go.Proofs.Ytenfomejccfkgaa.X
open Go.RowKit Go.Proofs.YtenfomejccfkgaaW.PrintWords Go.Proofs.YtenfomejccfkgaaW.PrintLast Go.Proofs.YtenfomejccfkgaaW.PrintMore
attribute [local go_sem] qaN qaO qaP qaJ qaK qaZ qa0 qaE qaF qaL qaM
set_option linter.unusedVariables false
set_option linter.unusedSimpArgs false
theorem qes (rest : List S56) : ∀ (pre : List S56), (pre ++ rest).length ≤ 9223372036854775807 → (∀ y ∈ rest, len56 y) → Ev (fun k => qaS.l0 k (pre ++ rest) (pre ++ rest) ((pre.length : Nat) : Int)) true := by
 induction rest with
 | nil =>
  intro pre hl hs
  refine Ev.succ ?_
  simp only [qaS.l0]
  exact Ev.neg (by simp) (Ev.is rfl)
 | cons x rest ih =>
  intro pre hl hs
  have hx : qba (pre ++ x :: rest) ((pre.length : Nat) : Int) = x := by simp [qba, List.getD_eq_getElem?_getD]
  have hlt : ((pre.length : Nat) : Int) < ((pre ++ x :: rest).length : Int) := by simp; omega
  have hwp : wrap64 (((pre.length : Nat) : Int) + 1) = (((pre ++ [x]).length : Nat) : Int) := by rw [← qbR]; exact qb9 (by simp at hl; omega)
  have e1 : pre ++ x :: rest = (pre ++ [x]) ++ rest := by simp
  have hi := ih (pre ++ [x]) (by rw [← e1]; exact hl) (fun y hy => hs y (List.mem_cons_of_mem _ hy))
  rw [← e1] at hi
  refine Ev.succ ?_
  simp only [qaS.l0, hx, hwp]
  exact Ev.pos hlt (Ev.pos (by omega) (Ev.pos hlt (Ev.bind (eq_Node x (hs x List.mem_cons_self)) (Ev.pos rfl hi))))
theorem eq_NodeS (l : List S56) (h : l.length ≤ 9223372036854775807 ∧ ∀ y ∈ l, len56 y) : Ev (fun k => qaS.f k l l) true := by
 unfold qaS.f
 have hh := qes l [] (by simpa using h.1) h.2
 exact Ev.pos rfl (by simpa using hh)
end Go.Proofs.Ytenfomejccfkgaa.X
namespace Go.Proofs.Ytenfomejccfkgaa.X
open Go.RowKit Go.Proofs.YtenfomejccfkgaaW.PrintWords Go.Proofs.YtenfomejccfkgaaW.PrintLast Go.Proofs.YtenfomejccfkgaaW.PrintMore
attribute [local go_sem] qaN qaO qaP qaJ qaK qaZ qa0 qaE qaF qaL qaM
set_option linter.unusedVariables false
set_option linter.unusedSimpArgs false
def len29 (x : S29) : Prop := (x.f0.length ≤ 9223372036854775807 ∧ ∀ y ∈ x.f0, len56 y)
theorem eq_Heap (x : S29) (h : len29 x) : Ev (fun k => qbv.f k (x.f0) (x.f0)) true := by
 unfold qbv.f
 exact Ev.bind (eq_NodeS _ h) (Ev.pos rfl (Ev.is rfl))
end Go.Proofs.Ytenfomejccfkgaa.X
namespace Go.Proofs.Ytenfomejccfkgaa.X
open Go.RowKit Go.Proofs.YtenfomejccfkgaaW.PrintWords Go.Proofs.YtenfomejccfkgaaW.PrintLast Go.Proofs.YtenfomejccfkgaaW.PrintMore
attribute [local go_sem] qaN qaO qaP qaJ qaK qaZ qa0 qaE qaF qaL qaM
set_option linter.unusedVariables false
set_option linter.unusedSimpArgs false
theorem qe0 (l : List S99) (key : ByteArray) (hl : l.length < 9223372036854775807) (rest : List S99) : ∀ pre : List S99, l = pre ++ rest →
  Ev (fun k => qbc.l0 k l key ((pre.length : Nat) : Int)) ((pre.length : Int) + (rest.findIdx fun p => !Op.bytesLess p.f0.toList key.toList : Nat)) := by
 induction rest with
 | nil =>
  intro pre h
  refine Ev.succ ?_
  simp only [qbc.l0]
  exact Ev.neg (by rw [h]; simp) (Ev.is (by simp))
 | cons x r ih =>
  intro pre h
  have hx := qfe l pre r x h
  have hlen : pre.length < l.length := by rw [h]; simp
  have hi := ih (pre ++ [x]) (by rw [h]; simp)
  rw [← qbR] at hi
  refine Ev.succ ?_
  simp only [qbc.l0, hx, qb9 (n := pre.length) (by omega)]
  refine Ev.pos (by omega) (Ev.pos (by omega) ?_)
  cases hb : Op.bytesLess x.f0.toList key.toList with
  | true =>
   refine Ev.pos rfl (Ev.same hi ?_)
   rw [List.findIdx_cons, hb]
   simp
   omega
  | false =>
   refine Ev.neg (by simp) (Ev.is ?_)
   rw [List.findIdx_cons, hb]
   simp
theorem spec_at (l : List S99) (key : ByteArray) (hl : l.length < 9223372036854775807) : Ev (fun k => qbc.f k l key) (lowAt l key : Int) := by
 unfold qbc.f
 have h := qe0 l key hl l [] rfl
 simpa [lowAt] using h
def getV (l : List S99) (key : ByteArray) : ByteArray := if hasAt l key = true then (qay l (lowAt l key)).f1 else ⟨#[]⟩
theorem spec_get (l : List S99) (key : ByteArray) (hl : l.length < 9223372036854775807) : Ev (fun k => qbr.f k l key) (getV l key, hasAt l key) := by
 unfold qbr.f
 refine Ev.bind (spec_at l key hl) ?_
 unfold getV hasAt
 by_cases h : lowAt l key < l.length
 ·refine Ev.pos (by omega) (Ev.pos (by omega) ?_)
  by_cases h2 : (qay l (lowAt l key)).f0.toList = key.toList
  ·exact Ev.pos h2 (Ev.is (by simp [h, h2]))
  ·exact Ev.neg h2 (Ev.is (by simp [h, h2]))
 ·exact Ev.neg (by omega) (Ev.is (by simp [h]))
theorem impl_at {l : List S99} (key : ByteArray) (h : Rises l) (hl : l.length ≤ 1000000) : qbP.f l key = some ((lowAt l key : Int), hasAt l key) := by
 unfold qbP.f
 rw [if_pos ⟨h, hl⟩]
theorem hasAt_lt {l : List S99} {key : ByteArray} (h : hasAt l key = true) : lowAt l key < l.length := by
 unfold hasAt at h
 simp only [Bool.and_eq_true, decide_eq_true_eq] at h
 exact h.1
end Go.Proofs.Ytenfomejccfkgaa.X
namespace Go.Proofs.Ytenfomejccfkgaa.X
open Go.RowKit Go.Proofs.YtenfomejccfkgaaW.PrintWords Go.Proofs.YtenfomejccfkgaaW.PrintLast Go.Proofs.YtenfomejccfkgaaW.PrintMore
attribute [local go_sem] qaN qaO qaP qaJ qaK qaZ qa0 qaE qaF qaL qaM
set_option linter.unusedVariables false
set_option linter.unusedSimpArgs false
def askP (l : List S99) (key : ByteArray) : Int := if 4096 < l.length ∨ 65536 < key.size then 2 else if qcf l = true then (if keyB key = true then 0 else 4) else 1
theorem qfG (l : List S99) (key : ByteArray) : Ev (fun k => qaU.f k l key) (askP l key) := by
 have hj : ∀ b : Bool, Ev (fun k => qaU.j0 k l key b) (if b = true then 2 else if qcf l = true then (if keyB key = true then 0 else 4) else 1) := by
  intro b
  refine Ev.succ ?_
  simp only [qaU.j0]
  cases b with
  | true => exact Ev.pos rfl (Ev.is rfl)
  | false =>
   refine Ev.neg (by simp) (Ev.bind (qcA l) ?_)
   cases hp : qcf l with
   | false => exact Ev.neg (by simp) (Ev.is (by simp))
   | true =>
    refine Ev.pos rfl (Ev.bindk (qdt key) ?_)
    cases hk : keyB key with
    | false => exact Ev.neg (by simp) (Ev.is (by simp))
    | true => exact Ev.pos rfl (Ev.is (by simp))
 unfold qaU.f askP
 by_cases h : (l.length : Int) > 4096
 ·exact Ev.pos h (Ev.same (hj true) (by rw [if_pos rfl, if_pos (by omega)]))
 ·refine Ev.neg h (Ev.same (hj _) ?_)
  by_cases h2 : (key.size : Int) > 65536
  ·have h3 : 4096 < l.length ∨ 65536 < key.size := by omega
   have h4 : decide ((key.size : Int) > 65536) = true := decide_eq_true h2
   rw [h4, if_pos rfl, if_pos h3]
  ·have h3 : ¬(4096 < l.length ∨ 65536 < key.size) := by omega
   have h4 : decide ((key.size : Int) > 65536) = false := decide_eq_false h2
   rw [h4, if_neg Bool.false_ne_true, if_neg h3]
theorem qgg {l : List S99} {key : ByteArray} (h : askP l key = 0) : l.length ≤ 60 ∧ key.size ≤ 65536 ∧ (∀ p ∈ l, okP p = true) ∧ Rises l ∧ keyB key = true := by
 unfold askP at h
 by_cases h1 : 4096 < l.length ∨ 65536 < key.size
 ·rw [if_pos h1] at h; omega
 ·rw [if_neg h1] at h
  cases hp : qcf l with
  | false => rw [if_neg (by rw [hp]; decide)] at h; omega
  | true =>
   rw [if_pos hp] at h
   cases hk : keyB key with
   | false => rw [if_neg (by rw [hk]; decide)] at h; omega
   | true => have := qde.1 hp; exact ⟨this.1, by omega, this.2.1, this.2.2, rfl⟩
def getP (l : List S99) (key : ByteArray) : ByteArray × Int := if askP l key = 0 then (if hasAt l key = true then (getV l key, 0) else (⟨#[]⟩, 5)) else (⟨#[]⟩, askP l key)
theorem qe1 (l : List S99) (key : ByteArray) : Ev (fun k => qbl.f k l key) (getP l key) := by
 unfold qbl.f getP
 refine Ev.bind (qfG l key) ?_
 by_cases h : askP l key = 0
 ·obtain ⟨h1, _, _, h4, _⟩ := qgg h
  refine Ev.same ?_ (if_pos h).symm
  refine Ev.pos h (Ev.bindk (impl_at key h4 (by omega)) ?_)
  cases hh : hasAt l key with
  | false => exact Ev.neg (by simp) (Ev.is (by simp))
  | true =>
   have := hasAt_lt hh
   exact Ev.pos rfl (Ev.pos (by simp) (Ev.pos (by simp; omega) (Ev.is (by simp [getV, hh]))))
 ·refine Ev.same ?_ (if_neg h).symm
  exact Ev.neg h (Ev.is rfl)
end Go.Proofs.Ytenfomejccfkgaa.X
namespace Go.Proofs.Ytenfomejccfkgaa.X
open Go.RowKit Go.Proofs.YtenfomejccfkgaaW.PrintWords Go.Proofs.YtenfomejccfkgaaW.PrintLast Go.Proofs.YtenfomejccfkgaaW.PrintMore
attribute [local go_sem] qaN qaO qaP qaJ qaK qaZ qa0 qaE qaF qaL qaM
set_option linter.unusedVariables false
set_option linter.unusedSimpArgs false
def qdT.f (l0_0 : List (S56)) (a1 : Int) : Option (Bool) := (qbC.f l0_0 a1).bind fun bt138 => (some bt138.2.2)
set_option maxHeartbeats 8000000 in
set_option maxRecDepth 100000 in
theorem qdT.calls (A0_0 : Option Addr) (c0_0 : Nat) (l0_0 : List (S56)) (a1 : Int) (r : Bool) (w : World) (hr0_0 : Kd.C k56 w A0_0 l0_0.length l0_0) (hc0_0 : l0_0.length ≤ c0_0) (h : qdT.f l0_0 a1 = some r) :
  Calls Try.prog 14 #[.agg #[.slice A0_0 l0_0.length c0_0], .int .i64 a1] w fun e w' => e = .returned (.bool r) ∧ Below w.heap.size w w' := by
 have hu29 := Try.underlying29
 have HR0_0 := Aside0.mk hr0_0
 have HC0_0 := Aside0.mk hc0_0
 clear hr0_0 hc0_0
 have HB := Aside0.mk (Below.refl w.heap.size w)
 have H : ((qbC.f l0_0 a1).bind fun bt138 => (some bt138.2.2)) = some r := h
 clear h
 replace H := Option.bind_eq_some_iff.mp H
 obtain ⟨⟨t138, t141, t144⟩, A30, H⟩ := H
 replace H : (some t144) = some r := H
 have A3 := Aside0.mk A30
 clear A30
 obtain rfl := Option.some.inj H
 go_enter Try.func14, Try.ntmps14
 go_wp2_with (first | ((with_reducible refine qaQ (N := 2) rfl ?_); refine qaI ?hg (N := 2) ?hd (cs := #[.slice A0_0 l0_0.length c0_0]) (t := 29) ?hr ?_; (case hd => rfl); (case hg => rfl); (case hr => first | (go_simp; done) | (go_simp; rfl)); intro gb137 hg w4 hbox hb; have n0_ := Aside0.mk (qaj (by repeat (first | (with_reducible first | exact HB.out | apply qab | apply qaa | apply qac) | exact HB.out)) hb); have n1_ := Aside0.mk (hbox); have n2_ := Aside0.mk ((by rw [hg]; exact (qak (by repeat (first | (with_reducible first | exact HB.out | apply qab | apply qaa | apply qac) | exact HB.out))) : w.heap.size ≤ gb137)); have n3_ := Aside0.mk ((by rw [hg]; exact (qak (by repeat (first | (with_reducible first | exact HB.out | apply qab | apply qaa | apply qac) | exact HB.out))) : w.heap.size ≤ gb137)); clear HB; have HB := n0_; have BK137 := n1_; have GW137 := n2_; have GE137 := n3_; clear n0_ n1_ n2_ n3_; clear hb hbox hg; have hcz5_0 : w4.cell? ⟨gb137, 0, none⟩ = some (.slice A0_0 l0_0.length c0_0) := (qah BK137.out 0).trans rfl; have hfz5_0 := qad BK137.out 0) | ((with_reducible refine qas (f := 61) rfl ?_); refine qa5 (some 11) rfl rfl Try.func61 (by kernel_rfl) rfl #[.agg #[.slice A0_0 l0_0.length c0_0], .int .i64 a1] rfl (by (try simp only [List.map_toArray, List.map_cons, List.map_nil]); first | done | rfl | (simp only [List.length_drop, List.length_take]; rfl)) ?_; (with_reducible refine (qbC.calls _ _ l0_0 a1 t138 t141 t144 _ ?side1 ?side2 A3.out).mono ?_); (case side1 => repeat (first | exact (Kd.qaz HR0_0.out HB.out) | (with_reducible refine Kd.qaB ?_ _) | (with_reducible refine Kd.qaC ?_ _) | (with_reducible refine Kd.qaT ?_))); (case side2 => exact HC0_0.out); rintro e w6 ⟨v139, v142, rfl, ho0, ho1, hb⟩; refine ⟨_, rfl, ?_⟩; have n0_ := Aside0.mk (Kd.qbM ho0 (qak (by repeat (first | (with_reducible first | exact HB.out | apply qab | apply qaa | apply qac | refine qai ?_ GE137.out) | exact HB.out)))); have n1_ := Aside0.mk (Kd.qbM ho1 (qak (by repeat (first | (with_reducible first | exact HB.out | apply qab | apply qaa | apply qac | refine qai ?_ GE137.out) | exact HB.out)))); have n2_ := Aside0.mk (qaw (g := gb137) (o := .cells #[.slice A0_0 l0_0.length c0_0] 29 (0, 0)) (by (with_reducible repeat (first | refine qao ?_ _ | refine qap ?_ | refine qan ?_ _)); exact BK137.out) hb); have n3_ := Aside0.mk (qaj (by repeat (first | (with_reducible first | exact HB.out | apply qab | apply qaa | apply qac | refine qai ?_ GE137.out) | exact HB.out)) hb); clear BK137; clear HB; have HO140 := n0_; have HO143 := n1_; have BK137 := n2_; have HB := n3_; clear n0_ n1_ n2_ n3_; (try clear hb); (try clear hb2); (try clear hk); (try clear hi); (try clear ho0); (try clear ho1)))
 go_ret
 exact ⟨by first | rfl | (simp [qal, qam] <;> rfl) | (simp [*, qal, qam] <;> rfl), by repeat (first | (with_reducible first | exact HB.out | apply qab | apply qaa | apply qac | refine qai ?_ GE137.out) | exact HB.out)⟩
end Go.Proofs.Ytenfomejccfkgaa.X
namespace Go.Proofs.Ytenfomejccfkgaa.X
open Go.RowKit Go.Proofs.YtenfomejccfkgaaW.PrintWords Go.Proofs.YtenfomejccfkgaaW.PrintLast Go.Proofs.YtenfomejccfkgaaW.PrintMore
attribute [local go_sem] qaN qaO qaP qaJ qaK qaZ qa0 qaE qaF qaL qaM
set_option linter.unusedVariables false
set_option linter.unusedSimpArgs false
theorem qgh {ns : List S56} (root : Int) (h : qcv ns = true) : qbC.f ns root = some (walkR ns root) := if_pos h
theorem qfk {ns : List S56} (root : Int) (h : qcv ns = true) : qbW.f ns root = some (walkR ns root).2.2 := if_pos h
theorem qet {ns : List S56} {root : Int} (h : qcv ns = true) (hk : (walkR ns root).2.2 = true) : qby.f ns root = some (walkR ns root).1 := if_pos ⟨h, hk⟩
def getT (ns : List S56) (root : Int) (key : ByteArray) : ByteArray × Int := if 65536 < key.size then (⟨#[]⟩, 2) else if (walkR ns root).2.2 = true then (if keyB key = true then (if hasAt (walkR ns root).1 key = true then (getV (walkR ns root).1 key, 0) else (⟨#[]⟩, 5)) else (⟨#[]⟩, 4)) else (⟨#[]⟩, 1)
theorem qe2 {ns : List S56} (root : Int) (key : ByteArray) (h : qcv ns = true) : Ev (fun k => qbp.f k ns root key) (getT ns root key) := by
 unfold qbp.f
 by_cases h1 : (key.size : Int) > 65536
 ·have h2 : 65536 < key.size := by omega
  exact Ev.pos h1 (Ev.is (by simp [getT, h2]))
 ·have h2 : ¬ 65536 < key.size := by omega
  refine Ev.neg h1 (Ev.bindk (qgh root h) ?_)
  cases hk : (walkR ns root).2.2 with
  | false => exact Ev.neg (by simp) (Ev.is (by simp [getT, h2, hk]))
  | true =>
   refine Ev.pos rfl ?_
   simp only [qft, Option.bind_some]
   cases hy : keyB key with
   | false => exact Ev.neg (by simp) (Ev.is (by simp [getT, h2, hk, hy]))
   | true =>
    have hl := qeV hk
    refine Ev.pos rfl ?_
    refine Ev.bind (spec_get _ key (by omega)) ?_
    cases hh : hasAt (walkR ns root).1 key with
    | false => exact Ev.neg (by simp) (Ev.is (by simp [getT, h2, hk, hy, hh]))
    | true => exact Ev.pos rfl (Ev.is (by simp [getT, h2, hk, hy, hh]))
theorem qe3 {ns : List S56} (root : Int) (key : ByteArray) (h : qcv ns = true) : Ev (fun k => qbj.f k ns root key) (getT ns root key) := by
 unfold qbj.f
 by_cases h1 : (key.size : Int) > 65536
 ·have h2 : 65536 < key.size := by omega
  exact Ev.pos h1 (Ev.is (by simp [getT, h2]))
 ·have h2 : ¬ 65536 < key.size := by omega
  refine Ev.neg h1 (Ev.bindk (qfk root h) ?_)
  cases hk : (walkR ns root).2.2 with
  | false => exact Ev.neg (by simp) (Ev.is (by simp [getT, h2, hk]))
  | true =>
   refine Ev.pos rfl (Ev.bindk (qdt key) ?_)
   cases hy : keyB key with
   | false => exact Ev.neg (by simp) (Ev.is (by simp [getT, h2, hk, hy]))
   | true =>
    have hl := qeV hk
    refine Ev.pos rfl (Ev.bindk (qet h hk) ?_)
    have ha : askP (walkR ns root).1 key = 0 := by
     unfold askP
     rw [if_neg (by omega), qfi hk, if_pos rfl, hy, if_pos rfl]
    have hg : getP (walkR ns root).1 key = getT ns root key := by
     unfold getP
     rw [if_pos ha]
     simp [getT, h2, hk, hy]
    rw [← hg]
    exact Ev.bind (qe1 _ key) (Ev.is rfl)
end Go.Proofs.Ytenfomejccfkgaa.X
