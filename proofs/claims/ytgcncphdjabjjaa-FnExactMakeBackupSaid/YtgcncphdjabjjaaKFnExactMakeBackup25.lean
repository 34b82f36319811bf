import Derived.Test.YtgcncphdjabjjaaKFnExactMakeBackup3
import Derived.Test.YtgcncphdjabjjaaKFnExactMakeBackup4
import Derived.Test.YtgcncphdjabjjaaKFnExactMakeBackup5
import Derived.Test.YtgcncphdjabjjaaKFnExactMakeBackup6
import Derived.Test.YtgcncphdjabjjaaKFnExactMakeBackup7
import Derived.Test.YtgcncphdjabjjaaKFnExactMakeBackup9
import Derived.Test.YtgcncphdjabjjaaKFnExactMakeBackup10
import Derived.Test.YtgcncphdjabjjaaKFnExactMakeBackup13
import Derived.Test.YtgcncphdjabjjaaKFnExactMakeBackup17
import Derived.Test.YtgcncphdjabjjaaKFnExactMakeBackup22
import Derived.Test.YtgcncphdjabjjaaKFnExactMakeBackup24
import Derived.Lib.Bytealg
import Derived.Laws.Externs
import Derived.Laws.Strings
import Derived.Sort.Walk0
namespace Go.Proofs.Ytgcncphdjabjjaa.X
open Go.RowKit Go.Proofs.YtgcncphdjabjjaaW.PrintWords Go.Proofs.YtgcncphdjabjjaaW.PrintLast Go.Proofs.YtgcncphdjabjjaaW.PrintMore
attribute [local go_sem] qaT qaU qaV qaP qaQ qa3 qa4 qaJ qaK qaR qaS
set_option linter.unusedVariables false
set_option linter.unusedSimpArgs false
theorem opens9 : Opens Try.prog 9 Kd.string (fun x => x.size ≤ maxLen) := Opens.string_ Try.underlying9 (by kernel_rfl)
def wf73 (x : S73) : Prop := x.f0.size ≤ maxLen ∧ x.f1.size ≤ maxLen
set_option maxRecDepth 100000 in
theorem opens73 : Opens Try.prog 73 k73 wf73 := by
 refine ⟨by kernel_rfl, fun {H enc w base spare held fuel cs x} h => ?_⟩
 obtain ⟨xs, n, _, _, hl, hlen, hf⟩ := DataW.trod_struct Try.underlying73 h
 have hl' : cs.length = 2 := hl.trans (by kernel_rfl)
 match cs, hl', xs, hlen with
 | [c0, c1], _, [y0, y1], _ =>
  obtain ⟨v0, g0, w0⟩ := opens9.2 (by simpa [show Try.prog.cellsOf 9 = 1 from by kernel_rfl] using hf 0 _ rfl)
  obtain ⟨v1, g1, w1⟩ := opens9.2 (by simpa [show Try.prog.cellsOf 9 = 1 from by kernel_rfl] using hf 1 _ rfl)
  exact ⟨(⟨v0, v1⟩ : S73), ⟨[c0], [c1], rfl, g0, g1⟩, ⟨w0, w1⟩⟩
def wfL73 (xs : List (S73)) : Prop := xs.length ≤ maxLen ∧ ∀ x ∈ xs, wf73 x
theorem opens22 : Opens Try.prog 22 (Kd.slice 73 k73) wfL73 := Opens.slice_ Try.underlying22 (by kernel_rfl) opens73
def qae.Pure : Prop := ∀ (a0 : ByteArray) (a1 : ByteArray) (a2 : Int) (l3 : List (S73)) (l4 : List (S73)), (a0.size ≤ maxLen) → a0.size ≤ 140737488351232 → (a1.size ≤ maxLen) → a1.size ≤ 140737488351232 → ((Lit.int .i64 a2).wf = true) → (wfL73 l3) → (wfL73 l4) → ∃ k, qae.f k a0 a1 a2 l3 l4 = some true
end Go.Proofs.Ytgcncphdjabjjaa.X
namespace Go.Proofs.Ytgcncphdjabjjaa.X
open Go.RowKit Go.Proofs.YtgcncphdjabjjaaW.PrintWords Go.Proofs.YtgcncphdjabjjaaW.PrintLast Go.Proofs.YtgcncphdjabjjaaW.PrintMore
attribute [local go_sem] qaT qaU qaV qaP qaQ qa3 qa4 qaJ qaK qaR qaS
set_option linter.unusedVariables false
set_option linter.unusedSimpArgs false
def cv73 (x : S73) : S76 := ⟨x.f0, x.f1⟩
def sm73 (B : Int) (x : S73) : Prop := (x.f0.size : Int) ≤ B ∧ (x.f1.size : Int) ≤ B
def wl73 (x : S73) : Prop := x.f0.size ≤ maxLen ∧ x.f1.size ≤ maxLen
theorem to_Pair (x : S73) : qcs.f (x.f0) (x.f1) = some (x.f0, x.f1) := rfl
end Go.Proofs.Ytgcncphdjabjjaa.X
namespace Go.Proofs.Ytgcncphdjabjjaa.X
open Go.RowKit Go.Proofs.YtgcncphdjabjjaaW.PrintWords Go.Proofs.YtgcncphdjabjjaaW.PrintLast Go.Proofs.YtgcncphdjabjjaaW.PrintMore
attribute [local go_sem] qaT qaU qaV qaP qaQ qa3 qa4 qaJ qaK qaR qaS
set_option linter.unusedVariables false
set_option linter.unusedSimpArgs false
theorem qeh (rest : List S73) : ∀ (pre : List S73), ((pre ++ rest).length : Int) ≤ 1048576 → (∀ y ∈ rest, sm73 1048576 y) →
  Ev (fun k => qay.l0 k (pre ++ rest) (pre.map cv73 ++ List.replicate rest.length z76) ((pre.length : Nat) : Int)) ((pre ++ rest).map cv73) := by
 induction rest with
 | nil =>
  intro pre hl hs
  refine Ev.succ ?_
  simp only [qay.l0]
  exact Ev.neg (by simp) (Ev.is (by simp))
 | cons x rest ih =>
  intro pre hl hs
  have hx : qcc (pre ++ x :: rest) ((pre.length : Nat) : Int) = x := by simp [qcc, List.getD_eq_getElem?_getD]
  have hlt : ((pre.length : Nat) : Int) < ((pre ++ x :: rest).length : Int) := by simp; omega
  have hw : wrap64 (((pre.length : Nat) : Int) + 1) = (((pre ++ [x]).length : Nat) : Int) := by rw [← qb8]; exact qcd (by omega)
  have hset : ∀ v : S76, ((pre.map cv73 ++ List.replicate (x :: rest).length z76).set ((pre.length : Nat) : Int).toNat v) = (pre.map cv73 ++ [v]) ++ List.replicate rest.length z76 := fun v => by rw [Int.toNat_natCast, List.length_cons, List.replicate_succ]; simp
  have hi := ih (pre ++ [x]) (by simpa using hl) (fun y hy => hs y (List.mem_cons_of_mem _ hy))
  refine Ev.succ ?_
  simp only [qay.l0, hx]
  refine Ev.pos hlt (Ev.pos (by omega) ?_)
  refine Ev.bindk (to_Pair x) ?_
  refine Ev.pos (by simp; omega) ?_
  simp only [hset, hw]
  have e1 : pre ++ x :: rest = (pre ++ [x]) ++ rest := by simp
  have e2 : (pre ++ [x]).map cv73 = pre.map cv73 ++ [cv73 x] := by simp
  rw [e1]
  rw [e2] at hi
  exact hi
theorem qe6 (l : List S73) (hs : ((l.length : Int) ≤ 1048576 ∧ ∀ y ∈ l, sm73 1048576 y)) : Ev (fun k => qay.f k l) (l.map cv73) := by
 have hl : (l.length : Int) ≤ 1048576 := hs.1
 unfold qay.f
 refine Ev.pos (by omega) (Ev.pos (by omega) ?_)
 have h := qeh l [] (by simpa using hl) hs.2
 simpa using h
end Go.Proofs.Ytgcncphdjabjjaa.X
namespace Go.Proofs.Ytgcncphdjabjjaa.X
open Go.RowKit Go.Proofs.YtgcncphdjabjjaaW.PrintWords Go.Proofs.YtgcncphdjabjjaaW.PrintLast Go.Proofs.YtgcncphdjabjjaaW.PrintMore
attribute [local go_sem] qaT qaU qaV qaP qaQ qa3 qa4 qaJ qaK qaR qaS
set_option linter.unusedVariables false
set_option linter.unusedSimpArgs false
theorem sz_Pair (x : S73) (hw : wl73 x) (B left : Int) (h0 : 0 ≤ left) (h1 : left ≤ B) (hB : B ≤ 1048576) : ∃ r, Ev (fun k => qcf.f (x.f0) (x.f1) left) r ∧ (0 ≤ r → r ≤ left ∧ sm73 B x) := by
 unfold qcf.f
 have hs0 : x.f0.size ≤ 9223372036854775807 := Nat.le_trans hw.1 qdF
 have e0 : wrap64 (left - (x.f0.size : Int)) = left - (x.f0.size : Int) := qbT (by omega) (by omega)
 simp only [e0]
 by_cases c0 : left - (x.f0.size : Int) < 0
 ·exact ⟨-1, Ev.pos c0 (Ev.is rfl), fun h => by omega⟩
 suffices hh : ∃ r, Ev _ r ∧ (0 ≤ r → r ≤ left ∧ sm73 B x) from (let ⟨r, hr, hq⟩ := hh; ⟨r, Ev.neg c0 hr, hq⟩)
 have hs1 : x.f1.size ≤ 9223372036854775807 := Nat.le_trans hw.2 qdF
 have e1 : wrap64 ((left - (x.f0.size : Int)) - (x.f1.size : Int)) = (left - (x.f0.size : Int)) - (x.f1.size : Int) := qbT (by omega) (by omega)
 simp only [e1]
 by_cases c1 : (left - (x.f0.size : Int)) - (x.f1.size : Int) < 0
 ·exact ⟨-1, Ev.pos c1 (Ev.is rfl), fun h => by omega⟩
 suffices hh : ∃ r, Ev _ r ∧ (0 ≤ r → r ≤ left ∧ sm73 B x) from (let ⟨r, hr, hq⟩ := hh; ⟨r, Ev.neg c1 hr, hq⟩)
 exact ⟨((left - (x.f0.size : Int)) - (x.f1.size : Int)), Ev.is rfl, fun _ => ⟨by omega, ⟨(by omega), (by omega)⟩⟩⟩
end Go.Proofs.Ytgcncphdjabjjaa.X
namespace Go.Proofs.Ytgcncphdjabjjaa.X
open Go.RowKit Go.Proofs.YtgcncphdjabjjaaW.PrintWords Go.Proofs.YtgcncphdjabjjaaW.PrintLast Go.Proofs.YtgcncphdjabjjaaW.PrintMore
attribute [local go_sem] qaT qaU qaV qaP qaQ qa3 qa4 qaJ qaK qaR qaS
set_option linter.unusedVariables false
set_option linter.unusedSimpArgs false
theorem qei (B : Int) (hB : B ≤ 1048576) (rest : List S73) : ∀ (pre : List S73) (left : Int), (pre ++ rest).length ≤ 9223372036854775807 → (∀ y ∈ rest, wl73 y) → 0 ≤ left → left ≤ B →
  ∃ r, Ev (fun k => qaY.l0 k (pre ++ rest) left ((pre.length : Nat) : Int)) r ∧ (0 ≤ r → r ≤ left ∧ ∀ y ∈ rest, sm73 B y) := by
 induction rest with
 | nil =>
  intro pre left hl hw h0 h1
  refine ⟨left, Ev.succ ?_, fun _ => ⟨Int.le_refl _, fun y hy => by cases hy⟩⟩
  simp only [qaY.l0]
  exact Ev.neg (by simp) (Ev.is rfl)
 | cons x rest ih =>
  intro pre left hl hw h0 h1
  have hx : qcc (pre ++ x :: rest) ((pre.length : Nat) : Int) = x := by simp [qcc, List.getD_eq_getElem?_getD]
  have hlt : ((pre.length : Nat) : Int) < ((pre ++ x :: rest).length : Int) := by simp; omega
  have hwp : wrap64 (((pre.length : Nat) : Int) + 1) = (((pre ++ [x]).length : Nat) : Int) := by rw [← qb8]; exact qcd (by omega)
  have e1 : pre ++ x :: rest = (pre ++ [x]) ++ rest := by simp
  have hl2 : ((pre ++ [x]) ++ rest).length ≤ 9223372036854775807 := by rw [← e1]; exact hl
  obtain ⟨r, hr, hq⟩ := sz_Pair x (hw x List.mem_cons_self) B left h0 h1 hB
  by_cases c : r < 0
  ·refine ⟨-1, Ev.succ ?_, fun h => by omega⟩
   simp only [qaY.l0, hx]
   exact Ev.pos hlt (Ev.pos (by omega) (Ev.bind hr (Ev.pos c (Ev.is rfl))))
  ·have hq' := hq (by omega)
   obtain ⟨r2, hr2, hq2⟩ := ih (pre ++ [x]) r hl2 (fun y hy => hw y (List.mem_cons_of_mem _ hy)) (by omega) (by omega)
   refine ⟨r2, Ev.succ ?_, fun h => ?_⟩
   ·simp only [qaY.l0, hx, hwp]
    rw [← e1] at hr2
    exact Ev.pos hlt (Ev.pos (by omega) (Ev.bind hr (Ev.neg c hr2)))
   ·have h3 := hq2 h
    refine ⟨by omega, fun y hy => ?_⟩
    rcases List.mem_cons.1 hy with rfl | hy
    ·exact hq'.2
    ·exact h3.2 y hy
theorem qe7 (l : List S73) (hw : (l.length ≤ maxLen ∧ ∀ y ∈ l, wl73 y)) (B left : Int) (h0 : 0 ≤ left) (h1 : left ≤ B) (hB : B ≤ 1048576) : ∃ r, Ev (fun k => qaY.f k l left) r ∧ (0 ≤ r → r ≤ left ∧ ((l.length : Int) ≤ B ∧ ∀ y ∈ l, sm73 B y)) := by
 have hl := Nat.le_trans hw.1 qdF
 unfold qaY.f
 have e : wrap64 (left - (l.length : Int)) = left - (l.length : Int) := qbT (by omega) (by omega)
 simp only [e]
 by_cases c : left - (l.length : Int) < 0
 ·exact ⟨-1, Ev.pos c (Ev.is rfl), fun h => by omega⟩
 ·obtain ⟨r, hr, hq⟩ := qei B hB l [] (left - (l.length : Int)) (by simpa using hl) hw.2 (by omega) (by omega)
  exact ⟨r, Ev.neg c (by simpa using hr), fun h => ⟨by have := (hq h).1; omega, by omega, (hq h).2⟩⟩
end Go.Proofs.Ytgcncphdjabjjaa.X
namespace Go.Proofs.Ytgcncphdjabjjaa.X
open Go.RowKit Go.Proofs.YtgcncphdjabjjaaW.PrintWords Go.Proofs.YtgcncphdjabjjaaW.PrintLast Go.Proofs.YtgcncphdjabjjaaW.PrintMore
attribute [local go_sem] qaT qaU qaV qaP qaQ qa3 qa4 qaJ qaK qaR qaS
set_option linter.unusedVariables false
set_option linter.unusedSimpArgs false
def len76 (x : S76) : Prop := True ∧ True
theorem eq_Pair (x : S76) (h : len76 x) : Ev (fun k => qb0.f (x.f0) (x.f1) (x.f0) (x.f1)) true := by
 unfold qb0.f
 exact Ev.pos rfl (Ev.pos rfl (Ev.is rfl))
end Go.Proofs.Ytgcncphdjabjjaa.X
namespace Go.Proofs.Ytgcncphdjabjjaa.X
open Go.RowKit Go.Proofs.YtgcncphdjabjjaaW.PrintWords Go.Proofs.YtgcncphdjabjjaaW.PrintLast Go.Proofs.YtgcncphdjabjjaaW.PrintMore
attribute [local go_sem] qaT qaU qaV qaP qaQ qa3 qa4 qaJ qaK qaR qaS
set_option linter.unusedVariables false
set_option linter.unusedSimpArgs false
theorem qej (rest : List S76) : ∀ (pre : List S76), (pre ++ rest).length ≤ 9223372036854775807 → (∀ y ∈ rest, len76 y) → Ev (fun k => qaL.l0 k (pre ++ rest) (pre ++ rest) ((pre.length : Nat) : Int)) true := by
 induction rest with
 | nil =>
  intro pre hl hs
  refine Ev.succ ?_
  simp only [qaL.l0]
  exact Ev.neg (by simp) (Ev.is rfl)
 | cons x rest ih =>
  intro pre hl hs
  have hx : qal (pre ++ x :: rest) ((pre.length : Nat) : Int) = x := by simp [qal, List.getD_eq_getElem?_getD]
  have hlt : ((pre.length : Nat) : Int) < ((pre ++ x :: rest).length : Int) := by simp; omega
  have hwp : wrap64 (((pre.length : Nat) : Int) + 1) = (((pre ++ [x]).length : Nat) : Int) := by rw [← qb8]; exact qcd (by simp at hl; omega)
  have e1 : pre ++ x :: rest = (pre ++ [x]) ++ rest := by simp
  have hi := ih (pre ++ [x]) (by rw [← e1]; exact hl) (fun y hy => hs y (List.mem_cons_of_mem _ hy))
  rw [← e1] at hi
  refine Ev.succ ?_
  simp only [qaL.l0, hx, hwp]
  exact Ev.pos hlt (Ev.pos (by omega) (Ev.pos hlt (Ev.bind (eq_Pair x (hs x List.mem_cons_self)) (Ev.pos rfl hi))))
theorem qe8 (l : List S76) (h : l.length ≤ 9223372036854775807 ∧ ∀ y ∈ l, len76 y) : Ev (fun k => qaL.f k l l) true := by
 unfold qaL.f
 have hh := qej l [] (by simpa using h.1) h.2
 exact Ev.pos rfl (by simpa using hh)
end Go.Proofs.Ytgcncphdjabjjaa.X
namespace Go.Proofs.Ytgcncphdjabjjaa.X
open Go.RowKit Go.Proofs.YtgcncphdjabjjaaW.PrintWords Go.Proofs.YtgcncphdjabjjaaW.PrintLast Go.Proofs.YtgcncphdjabjjaaW.PrintMore
attribute [local go_sem] qaT qaU qaV qaP qaQ qa3 qa4 qaJ qaK qaR qaS
set_option linter.unusedVariables false
set_option linter.unusedSimpArgs false
def len82 (x : S82) : Prop := True ∧ True ∧ True ∧ True ∧ True
theorem eq_Diff (x : S82) (h : len82 x) : Ev (fun k => qb1.f (x.f0) (x.f1) (x.f2) (x.f3) (x.f4) (x.f0) (x.f1) (x.f2) (x.f3) (x.f4)) true := by
 unfold qb1.f
 exact Ev.pos rfl (Ev.pos rfl (Ev.pos rfl (Ev.neg (by simp) (Ev.neg (by simp) (Ev.is rfl)))))
end Go.Proofs.Ytgcncphdjabjjaa.X
namespace Go.Proofs.Ytgcncphdjabjjaa.X
open Go.RowKit Go.Proofs.YtgcncphdjabjjaaW.PrintWords Go.Proofs.YtgcncphdjabjjaaW.PrintLast Go.Proofs.YtgcncphdjabjjaaW.PrintMore
attribute [local go_sem] qaT qaU qaV qaP qaQ qa3 qa4 qaJ qaK qaR qaS
set_option linter.unusedVariables false
set_option linter.unusedSimpArgs false
theorem qek (rest : List S82) : ∀ (pre : List S82), (pre ++ rest).length ≤ 9223372036854775807 → (∀ y ∈ rest, len82 y) → Ev (fun k => qa1.l0 k (pre ++ rest) (pre ++ rest) ((pre.length : Nat) : Int)) true := by
 induction rest with
 | nil =>
  intro pre hl hs
  refine Ev.succ ?_
  simp only [qa1.l0]
  exact Ev.neg (by simp) (Ev.is rfl)
 | cons x rest ih =>
  intro pre hl hs
  have hx : qao (pre ++ x :: rest) ((pre.length : Nat) : Int) = x := by simp [qao, List.getD_eq_getElem?_getD]
  have hlt : ((pre.length : Nat) : Int) < ((pre ++ x :: rest).length : Int) := by simp; omega
  have hwp : wrap64 (((pre.length : Nat) : Int) + 1) = (((pre ++ [x]).length : Nat) : Int) := by rw [← qb8]; exact qcd (by simp at hl; omega)
  have e1 : pre ++ x :: rest = (pre ++ [x]) ++ rest := by simp
  have hi := ih (pre ++ [x]) (by rw [← e1]; exact hl) (fun y hy => hs y (List.mem_cons_of_mem _ hy))
  rw [← e1] at hi
  refine Ev.succ ?_
  simp only [qa1.l0, hx, hwp]
  exact Ev.pos hlt (Ev.pos (by omega) (Ev.pos hlt (Ev.bind (eq_Diff x (hs x List.mem_cons_self)) (Ev.pos rfl hi))))
theorem eq_DiffS (l : List S82) (h : l.length ≤ 9223372036854775807 ∧ ∀ y ∈ l, len82 y) : Ev (fun k => qa1.f k l l) true := by
 unfold qa1.f
 have hh := qek l [] (by simpa using h.1) h.2
 exact Ev.pos rfl (by simpa using hh)
end Go.Proofs.Ytgcncphdjabjjaa.X
namespace Go.Proofs.Ytgcncphdjabjjaa.X
open Go.RowKit Go.Proofs.YtgcncphdjabjjaaW.PrintWords Go.Proofs.YtgcncphdjabjjaaW.PrintLast Go.Proofs.YtgcncphdjabjjaaW.PrintMore
attribute [local go_sem] qaT qaU qaV qaP qaQ qa3 qa4 qaJ qaK qaR qaS
set_option linter.unusedVariables false
set_option linter.unusedSimpArgs false
theorem qey (n : Nat) : ∀ (a : Int) (acc : ByteArray), a.toNat ≤ n → 0 ≤ a → a ≤ 4611686018427387904 → acc.size + n ≤ 4611686018427387905 → ∃ s, Ev (fun k => qap.l0 k a acc) s := by
 induction n with
 | zero =>
  intro a acc h h0 h1 h2
  refine ⟨(⟨#[109]⟩ : ByteArray) ++ acc, Ev.succ ?_⟩
  simp only [qap.l0]
  exact Ev.neg (by omega) (Ev.pos (by omega) (Ev.is rfl))
 | succ n ih =>
  intro a acc h h0 h1 h2
  by_cases hz : a > 0
  ·have e : wrap64 (Int.tdiv a 10) = a / 10 := by
    rw [Int.tdiv_eq_ediv_of_nonneg h0]
    exact qbT (by omega) (by omega)
   have hsz : ∀ b : Int, (strOfNums [b]).size = 1 := fun b => by simp [strOfNums, ByteArray.size]
   obtain ⟨s, hs⟩ := ih (a / 10) (strOfNums [(wrap64 (48 + Int.tmod a 10)) % 256] ++ acc) (by omega) (by omega) (by omega) (by rw [ByteArray.size_append, hsz]; omega)
   refine ⟨s, Ev.succ ?_⟩
   simp only [qap.l0, Option.bind_some]
   refine Ev.pos hz (Ev.pos (by rw [hsz]; omega) ?_)
   rw [e]
   exact hs
  ·refine ⟨(⟨#[109]⟩ : ByteArray) ++ acc, Ev.succ ?_⟩
   simp only [qap.l0]
   exact Ev.neg hz (Ev.pos (by omega) (Ev.is rfl))
theorem qdH (a : Int) (h : a ≤ 4611686018427387904) : ∃ s, Ev (fun k => qap.f k a) s := by
 unfold qap.f
 by_cases hz : a ≤ 0
 ·exact ⟨_, Ev.pos hz (Ev.is rfl)⟩
 ·obtain ⟨s, hs⟩ := qey a.toNat a (⟨#[]⟩ : ByteArray) (Nat.le_refl _) (by omega) h (by simp [ByteArray.size]; omega)
  exact ⟨s, Ev.neg hz hs⟩
noncomputable def mt (a : Int) : ByteArray := if h : a ≤ 4611686018427387904 then (qdH a h).choose else ByteArray.empty
theorem qfl {a : Int} (h : a ≤ 4611686018427387904) : Ev (fun k => qap.f k a) (mt a) := by
 unfold mt
 rw [dif_pos h]
 exact (qdH a h).choose_spec
end Go.Proofs.Ytgcncphdjabjjaa.X
namespace Go.Proofs.Ytgcncphdjabjjaa.X
open Go.RowKit Go.Proofs.YtgcncphdjabjjaaW.PrintWords Go.Proofs.YtgcncphdjabjjaaW.PrintLast Go.Proofs.YtgcncphdjabjjaaW.PrintMore
attribute [local go_sem] qaT qaU qaV qaP qaQ qa3 qa4 qaJ qaK qaR qaS
set_option linter.unusedVariables false
set_option linter.unusedSimpArgs false
noncomputable def qcB : List S76 → Int → List S76
 | [], _ => []
 | _ :: xs, m => ⟨mt m, mt (m + 1)⟩ :: qcB xs (m + 2)
theorem qdI (rest : List S76) : ∀ (pre : List S76) (m : Int), 0 ≤ m → m + 2 * (rest.length : Int) ≤ 4611686018427387904 → (pre ++ rest).length ≤ 9223372036854775807 →
  Ev (fun k => qaC.l0 k (pre ++ rest) m ((pre.length : Nat) : Int)) (m + 2 * (rest.length : Int), pre ++ qcB rest m) := by
 induction rest with
 | nil =>
  intro pre m h0 h1 hl
  refine Ev.succ ?_
  simp only [qaC.l0]
  exact Ev.neg (by simp) (Ev.is (by simp [qcB]))
 | cons x rest ih =>
  intro pre m h0 h1 hl
  have hlt : ((pre.length : Nat) : Int) < ((pre ++ x :: rest).length : Int) := by simp; omega
  have hwp : ∀ v : S76, wrap64 (((pre.length : Nat) : Int) + 1) = (((pre ++ [v]).length : Nat) : Int) := fun v => by rw [← qb8]; exact qcd (by simp at hl; omega)
  have hset : ∀ v u : S76, (pre ++ u :: rest).set ((pre.length : Nat) : Int).toNat v = pre ++ v :: rest := fun v u => by rw [Int.toNat_natCast]; exact set_mid pre u v rest
  have hrd : ∀ u : S76, qal (pre ++ u :: rest) ((pre.length : Nat) : Int) = u := fun u => by simp [qal, List.getD_eq_getElem?_getD]
  simp only [List.length_cons] at h1
  have w1 : wrap64 (m + 1) = m + 1 := (qbT (by omega) (by omega)).trans (by omega)
  have w2 : wrap64 ((m + 1) + 1) = m + 2 := (qbT (by omega) (by omega)).trans (by omega)
  have hi := ih (pre ++ [⟨mt m, mt (m + 1)⟩]) (m + 2) (by omega) (by omega) (by simpa using hl)
  refine Ev.succ ?_
  simp only [qaC.l0, w1, w2]
  refine Ev.pos hlt ?_
  refine Ev.bind (qfl (by omega)) ?_
  refine Ev.pos (show (0 : Int) ≤ ((pre.length : Nat) : Int) by omega) ?_
  refine Ev.bindk rfl ?_
  refine Ev.bind (qfl (by omega)) ?_
  simp only [hset, hrd]
  rw [hwp (⟨mt m, mt (m + 1)⟩)]
  have e3 : pre ++ (⟨mt m, mt (m + 1)⟩ : S76) :: rest = (pre ++ [⟨mt m, mt (m + 1)⟩]) ++ rest := by simp
  have e4 : (m + 2 + 2 * (rest.length : Int), (pre ++ [⟨mt m, mt (m + 1)⟩]) ++ qcB rest (m + 2)) = (m + 2 * (((x :: rest).length : Nat) : Int), pre ++ qcB (x :: rest) m) := by
   refine Prod.ext ?_ ?_
   ·simp only [List.length_cons]; omega
   ·simp [qcB]
  rw [← e4, e3]
  exact hi
theorem qd7 (l : List S76) (m : Int) (h0 : 0 ≤ m) (h1 : m + 2 * (l.length : Int) ≤ 4611686018427387904) (hl : l.length ≤ 9223372036854775807) : Ev (fun k => qaC.f k l m) (m + 2 * (l.length : Int), qcB l m) := by
 unfold qaC.f
 have h := qdI l [] m h0 h1 (by simpa using hl)
 simpa using h
end Go.Proofs.Ytgcncphdjabjjaa.X
namespace Go.Proofs.Ytgcncphdjabjjaa.X
open Go.RowKit Go.Proofs.YtgcncphdjabjjaaW.PrintWords Go.Proofs.YtgcncphdjabjjaaW.PrintLast Go.Proofs.YtgcncphdjabjjaaW.PrintMore
attribute [local go_sem] qaT qaU qaV qaP qaQ qa3 qa4 qaJ qaK qaR qaS
set_option linter.unusedVariables false
set_option linter.unusedSimpArgs false
def qaZ.l0 : Nat → List (S76) → Int → Int → Option (Int)
 | 0, _, _, _ => none
 | k + 1, x0, x1, x5 => if x5 < (x0.length : Int) then (if 0 ≤ x5 then ((qap.f k x1).bind fun t516 => (if ((qal x0 x5).f0).toList = t516.toList then ((qap.f k (wrap64 (x1 + 1))).bind fun t518 => (if ((qal x0 x5).f1).toList = t518.toList then (qaZ.l0 k x0 (wrap64 ((wrap64 (x1 + 1)) + 1)) (wrap64 (x5 + 1))) else (some (-1)))) else (some (-1)))) else (none)) else (some x1)
def qaZ.f (k : Nat) (l0 : List (S76)) (a1 : Int) : Option (Int) := qaZ.l0 k l0 a1 0
theorem qaZ.qbs : ∀ k, (∀ y0 y1 y2, LeO (qaZ.l0 k y0 y1 y2) (qaZ.l0 (k + 1) y0 y1 y2))
 | 0 => fun _ _ _ r h => by simp [qaZ.l0] at h
 | k + 1 => by
  have ih0 := qaZ.qbs k
  ·intro y0 y1 y2
   unfold qaZ.l0
   repeat' first
   | (with_reducible exact ih0 _ _ _)
   | (with_reducible exact qap.mono _ _)
   | (with_reducible exact LeO.refl _)
   | (with_reducible exact LeO.none _)
   | (with_reducible refine LeO.ite ?_ ?_)
   | (with_reducible refine LeO.bind ?_ (fun _ => ?_))
   | exact ih0 _ _ _
   | exact qap.mono _ _
   | exact LeO.none _
   | refine LeO.ite ?_ ?_
   | refine LeO.bind ?_ (fun _ => ?_)
theorem qaZ.mono : ∀ a0 a1 k, LeO (qaZ.f k a0 a1) (qaZ.f (k + 1) a0 a1) := by
 intro a0 a1 k
 have ih0 := qaZ.qbs k
 unfold qaZ.f
 repeat' first
   | (with_reducible exact ih0 _ _ _)
   | (with_reducible exact qap.mono _ _)
   | (with_reducible exact LeO.refl _)
   | (with_reducible exact LeO.none _)
   | (with_reducible refine LeO.ite ?_ ?_)
   | (with_reducible refine LeO.bind ?_ (fun _ => ?_))
   | exact ih0 _ _ _
   | exact qap.mono _ _
   | exact LeO.none _
   | refine LeO.ite ?_ ?_
   | refine LeO.bind ?_ (fun _ => ?_)
def qaZ.T4 : Bool × List (List Nat × List Nat) := (true, [([], []), ([], []), ([0, 1], [0, 1]), ([2], [2]), ([3], [3]), ([], []), ([5], [5]), ([4, 6], [4, 6])])
def qaZ.B4 : List Nat := [0, 0, 3, 7, 15, 0, 32, 127]
theorem qaZ.tab4 : rtab .any (opsOf Try.f26 4) = qaZ.T4 := by kernel_rfl
theorem qaZ.bits4 : waitsOk qaZ.T4.2 qaZ.B4 = true := by kernel_rfl
def qaZ.T7 : Bool × List (List Nat × List Nat) := (true, [([], []), ([], []), ([0, 1], [0, 1]), ([2], [2]), ([3], [3]), ([], []), ([5], [5]), ([4, 6], [4, 6])])
def qaZ.B7 : List Nat := [0, 0, 3, 7, 15, 0, 32, 127]
theorem qaZ.tab7 : rtab .any (opsOf Try.f26 7) = qaZ.T7 := by kernel_rfl
theorem qaZ.bits7 : waitsOk qaZ.T7.2 qaZ.B7 = true := by kernel_rfl
set_option maxHeartbeats 8000000 in
set_option maxRecDepth 100000 in
theorem qaZ.calls (k : Nat) (A0 : Option Addr) (c0 : Nat) (l0 : List (S76)) (a1 : Int) (r : Int) (w : World) (hr0 : Kd.C k76 w A0 l0.length l0) (hc0 : l0.length ≤ c0) (h : qaZ.f k l0 a1 = some r) :
  Calls Try.prog 26 #[.slice A0 l0.length c0, .int .i64 a1] w fun e w' => e = .returned (.int .i64 r) ∧ Below w.heap.size w w' := by
 have HR0 := Aside0.mk hr0
 have HC0 := Aside0.mk hc0
 clear hr0 hc0
 have HB := Aside0.mk (Below.refl w.heap.size w)
 have H : (qaZ.l0 k l0 a1 0) = some r := h
 clear h
 have H' := Aside0.mk H
 clear H
 go_enter Try.func26, Try.ntmps26
 go_wp2
 go_loopg [1, 5] k (fun kq v1 v5 w' => ∃ (x1_1 : Int) (x5_1 : Int), v1 = .int .i64 x1_1 ∧ v5 = .int .i64 x5_1 ∧ Aside0 (qaZ.l0 kq l0 x1_1 x5_1 = some r) ∧ Aside0 (kq ≤ k) ∧ Aside0 (Below w.heap.size w w'))
 case atStart => exact ⟨(a1), (0), (by first | rfl | (simp; done) | (simp [*]; done)), (by first | rfl | (simp; done) | (simp [*]; done)), H', ⟨Nat.le_refl _⟩, ⟨by repeat (first | (with_reducible first | exact HB.out | apply qac | apply qaa | apply qab) | exact HB.out)⟩⟩
 case round =>
  clear H'
  try clear c2
  try clear p2
  obtain ⟨x1_1, x5_1, rfl, rfl, HA, HK1, HB⟩ := hrel
  cases gk with
  | zero => exact absurd HA.out (by simp [qaZ.l0])
  | succ k1 =>
   have H := HA.out
   clear HA
   simp only [qaZ.l0] at H
   by_cases c3 : x5_1 < (l0.length : Int)
   ·rw [if_pos c3] at H
    have c3b0 : decide (x5_1 < (l0.length : Int)) = true := decide_eq_true c3
    clear c3
    by_cases c4 : 0 ≤ x5_1
    ·rw [if_pos c4] at H
     have c4b0 : decide (0 ≤ x5_1) = true := decide_eq_true c4
     clear c4
     replace H := Option.bind_eq_some_iff.mp H
     obtain ⟨t516, A50, H⟩ := H
     replace H : (if ((qal l0 x5_1).f0).toList = t516.toList then ((qap.f k1 (wrap64 (x1_1 + 1))).bind fun t518 => (if ((qal l0 x5_1).f1).toList = t518.toList then (qaZ.l0 k1 l0 (wrap64 ((wrap64 (x1_1 + 1)) + 1)) (wrap64 (x5_1 + 1))) else (some (-1)))) else (some (-1))) = some r := H
     have A5 := Aside0.mk A50
     clear A50
     by_cases c6 : ((qal l0 x5_1).f0).toList = t516.toList
     ·rw [if_pos c6] at H
      have c6b0 : (((qal l0 x5_1).f0).toList == t516.toList) = true := beq_iff_eq.mpr c6
      have c6b1 : (((qal l0 x5_1).f0).toList != t516.toList) = false := bne_eq_false_iff_eq.mpr c6
      clear c6
      replace H := Option.bind_eq_some_iff.mp H
      obtain ⟨t518, A70, H⟩ := H
      replace H : (if ((qal l0 x5_1).f1).toList = t518.toList then (qaZ.l0 k1 l0 (wrap64 ((wrap64 (x1_1 + 1)) + 1)) (wrap64 (x5_1 + 1))) else (some (-1))) = some r := H
      have A7 := Aside0.mk A70
      clear A70
      by_cases c8 : ((qal l0 x5_1).f1).toList = t518.toList
      ·rw [if_pos c8] at H
       have c8b0 : (((qal l0 x5_1).f1).toList == t518.toList) = true := beq_iff_eq.mpr c8
       have c8b1 : (((qal l0 x5_1).f1).toList != t518.toList) = false := bne_eq_false_iff_eq.mpr c8
       clear c8
       have H' := Aside0.mk H
       clear H
       try go_wp2
       have n0_ := Aside0.mk (qab HB.out)
       clear HB
       have HB := n0_
       clear n0_
       have p515 : 0 ≤ (x5_1 : Int) := of_decide_eq_true (by first | (with_reducible assumption) | assumption)
       have q515 : x5_1 < (l0.length : Int) := of_decide_eq_true (by first | (with_reducible assumption) | assumption)
       obtain ⟨ad515, e515, hx515_0, hx515_1⟩ := qbv HR0.out x5_1 p515 q515
       have hw515_1 := hx515_1
       have hw515_0 := hx515_0
       cases e515
       replace hx515_0 := (HB.out.cell (World.block_lt_of_cell? w _ hx515_0)).trans hx515_0
       replace hx515_1 := (HB.out.cell (World.block_lt_of_cell? w _ hx515_1)).trans hx515_1
       replace p515 := eq_true p515
       replace q515 := eq_true q515
       refine qaF (by kernel_rfl) (by kernel_rfl) ?_
       have hL0_ := Aside0.mk (show wr.drew.cell? (ad515.add ((x5_1).toNat * 2)) = some (.string ((qal l0 x5_1).f0)) from ((HB.out.cell (World.block_lt_of_cell? w _ hw515_0)).trans hw515_0))
       have hL1_ := Aside0.mk (show wr.drew.cell? ⟨(ad515.add ((x5_1).toNat * 2)).block, (ad515.add ((x5_1).toNat * 2)).off + 1, none⟩ = some (.string ((qal l0 x5_1).f1)) from ((HB.out.cell (World.block_lt_of_cell? w _ hw515_1)).trans hw515_1))
       generalize wr.drew = w9 at HB hx515_0 hx515_1 hL0_ hL1_ ⊢
       clear hx515_0 hx515_1
       have hL0 := fun (p_ : Later w9) => Later.cell p_ hL0_.out
       have hL1 := fun (p_ : Later w9) => Later.cell p_ hL1_.out
       clear hL0_ hL1_
       repeat (first | go_big_quiet_step ((first | (go_at_call 59; exact Calls.qbb (qap.calls k1 x1_1 t516 _ A5.out)))) | quiet_step ((first | (go_at_call 59; exact Calls.qbb (qap.calls k1 x1_1 t516 _ A5.out)))))
       refine wpQuiet_nil ?_
       rintro w10 ⟨⟨wq_, hbL⟩, hq_⟩
       have hq2_ : w10 = wq_ := hq_
       clear hq_
       subst hq2_
       clear hL0 hL1
       have nHB_ := Aside0.mk (qak HB.out hbL)
       clear HB
       have HB := nHB_
       clear nHB_
       clear hbL
       try go_wp2
       have n0_ := Aside0.mk (qab HB.out)
       clear HB
       have HB := n0_
       clear n0_
       have p517 : 0 ≤ (x5_1 : Int) := of_decide_eq_true (by first | (with_reducible assumption) | assumption)
       have q517 : x5_1 < (l0.length : Int) := of_decide_eq_true (by first | (with_reducible assumption) | assumption)
       obtain ⟨ad517, e517, hx517_0, hx517_1⟩ := qbv HR0.out x5_1 p517 q517
       have hw517_1 := hx517_1
       have hw517_0 := hx517_0
       obtain rfl : ad515 = ad517 := (by injection e517)
       replace hx517_0 := (HB.out.cell (World.block_lt_of_cell? w _ hx517_0)).trans hx517_0
       replace hx517_1 := (HB.out.cell (World.block_lt_of_cell? w _ hx517_1)).trans hx517_1
       replace p517 := eq_true p517
       replace q517 := eq_true q517
       refine qaF (by kernel_rfl) (by kernel_rfl) ?_
       have hL0_ := Aside0.mk (show w10.drew.cell? (ad515.add ((x5_1).toNat * 2)) = some (.string ((qal l0 x5_1).f0)) from ((HB.out.cell (World.block_lt_of_cell? w _ hw517_0)).trans hw517_0))
       have hL1_ := Aside0.mk (show w10.drew.cell? ⟨(ad515.add ((x5_1).toNat * 2)).block, (ad515.add ((x5_1).toNat * 2)).off + 1, none⟩ = some (.string ((qal l0 x5_1).f1)) from ((HB.out.cell (World.block_lt_of_cell? w _ hw517_1)).trans hw517_1))
       generalize w10.drew = w11 at HB hx517_0 hx517_1 hL0_ hL1_ ⊢
       clear hx517_0 hx517_1
       have hL0 := fun (p_ : Later w11) => Later.cell p_ hL0_.out
       have hL1 := fun (p_ : Later w11) => Later.cell p_ hL1_.out
       clear hL0_ hL1_
       repeat (first | go_big_quiet_step ((first | (go_at_call 59; exact Calls.qbb (qap.calls k1 (wrap64 (x1_1 + 1)) t518 _ A7.out)))) | quiet_step ((first | (go_at_call 59; exact Calls.qbb (qap.calls k1 (wrap64 (x1_1 + 1)) t518 _ A7.out)))))
       refine wpQuiet_nil ?_
       rintro w12 ⟨⟨wq_, hbL⟩, hq_⟩
       have hq2_ : w12 = wq_ := hq_
       clear hq_
       subst hq2_
       clear hL0 hL1
       have nHB_ := Aside0.mk (qak HB.out hbL)
       clear HB
       have HB := nHB_
       clear nHB_
       clear hbL
       try go_wp2
       go_roundg k1
       case measure => have := HK1.out; omega
       case rel => exact ⟨(wrap64 ((wrap64 (x1_1 + 1)) + 1)), (wrap64 (x5_1 + 1)), (by first | rfl | (simp; done) | (simp [*]; done)), (by first | rfl | (simp; done) | (simp [*]; done)), H', ⟨by have := HK1.out; omega⟩, ⟨by repeat (first | (with_reducible first | exact HB.out | apply qac | apply qaa | apply qab) | exact HB.out)⟩⟩
      ·rw [if_neg c8] at H
       have c8b0 : (((qal l0 x5_1).f1).toList == t518.toList) = false := beq_eq_false_iff_ne.mpr c8
       have c8b1 : (((qal l0 x5_1).f1).toList != t518.toList) = true := bne_iff_ne.mpr c8
       obtain rfl := Option.some.inj H
       try go_wp2
       have n0_ := Aside0.mk (qab HB.out)
       clear HB
       have HB := n0_
       clear n0_
       have p515 : 0 ≤ (x5_1 : Int) := of_decide_eq_true (by first | (with_reducible assumption) | assumption)
       have q515 : x5_1 < (l0.length : Int) := of_decide_eq_true (by first | (with_reducible assumption) | assumption)
       obtain ⟨ad515, e515, hx515_0, hx515_1⟩ := qbv HR0.out x5_1 p515 q515
       have hw515_1 := hx515_1
       have hw515_0 := hx515_0
       cases e515
       replace hx515_0 := (HB.out.cell (World.block_lt_of_cell? w _ hx515_0)).trans hx515_0
       replace hx515_1 := (HB.out.cell (World.block_lt_of_cell? w _ hx515_1)).trans hx515_1
       replace p515 := eq_true p515
       replace q515 := eq_true q515
       refine qaF (by kernel_rfl) (by kernel_rfl) ?_
       have hL0_ := Aside0.mk (show wr.drew.cell? (ad515.add ((x5_1).toNat * 2)) = some (.string ((qal l0 x5_1).f0)) from ((HB.out.cell (World.block_lt_of_cell? w _ hw515_0)).trans hw515_0))
       have hL1_ := Aside0.mk (show wr.drew.cell? ⟨(ad515.add ((x5_1).toNat * 2)).block, (ad515.add ((x5_1).toNat * 2)).off + 1, none⟩ = some (.string ((qal l0 x5_1).f1)) from ((HB.out.cell (World.block_lt_of_cell? w _ hw515_1)).trans hw515_1))
       generalize wr.drew = w13 at HB hx515_0 hx515_1 hL0_ hL1_ ⊢
       clear hx515_0 hx515_1
       have hL0 := fun (p_ : Later w13) => Later.cell p_ hL0_.out
       have hL1 := fun (p_ : Later w13) => Later.cell p_ hL1_.out
       clear hL0_ hL1_
       repeat (first | go_big_quiet_step ((first | (go_at_call 59; exact Calls.qbb (qap.calls k1 x1_1 t516 _ A5.out)))) | quiet_step ((first | (go_at_call 59; exact Calls.qbb (qap.calls k1 x1_1 t516 _ A5.out)))))
       refine wpQuiet_nil ?_
       rintro w14 ⟨⟨wq_, hbL⟩, hq_⟩
       have hq2_ : w14 = wq_ := hq_
       clear hq_
       subst hq2_
       clear hL0 hL1
       have nHB_ := Aside0.mk (qak HB.out hbL)
       clear HB
       have HB := nHB_
       clear nHB_
       clear hbL
       try go_wp2
       have n0_ := Aside0.mk (qab HB.out)
       clear HB
       have HB := n0_
       clear n0_
       have p517 : 0 ≤ (x5_1 : Int) := of_decide_eq_true (by first | (with_reducible assumption) | assumption)
       have q517 : x5_1 < (l0.length : Int) := of_decide_eq_true (by first | (with_reducible assumption) | assumption)
       obtain ⟨ad517, e517, hx517_0, hx517_1⟩ := qbv HR0.out x5_1 p517 q517
       have hw517_1 := hx517_1
       have hw517_0 := hx517_0
       obtain rfl : ad515 = ad517 := (by injection e517)
       replace hx517_0 := (HB.out.cell (World.block_lt_of_cell? w _ hx517_0)).trans hx517_0
       replace hx517_1 := (HB.out.cell (World.block_lt_of_cell? w _ hx517_1)).trans hx517_1
       replace p517 := eq_true p517
       replace q517 := eq_true q517
       refine qaF (by kernel_rfl) (by kernel_rfl) ?_
       have hL0_ := Aside0.mk (show w14.drew.cell? (ad515.add ((x5_1).toNat * 2)) = some (.string ((qal l0 x5_1).f0)) from ((HB.out.cell (World.block_lt_of_cell? w _ hw517_0)).trans hw517_0))
       have hL1_ := Aside0.mk (show w14.drew.cell? ⟨(ad515.add ((x5_1).toNat * 2)).block, (ad515.add ((x5_1).toNat * 2)).off + 1, none⟩ = some (.string ((qal l0 x5_1).f1)) from ((HB.out.cell (World.block_lt_of_cell? w _ hw517_1)).trans hw517_1))
       generalize w14.drew = w15 at HB hx517_0 hx517_1 hL0_ hL1_ ⊢
       clear hx517_0 hx517_1
       have hL0 := fun (p_ : Later w15) => Later.cell p_ hL0_.out
       have hL1 := fun (p_ : Later w15) => Later.cell p_ hL1_.out
       clear hL0_ hL1_
       repeat (first | go_big_quiet_step ((first | (go_at_call 59; exact Calls.qbb (qap.calls k1 (wrap64 (x1_1 + 1)) t518 _ A7.out)))) | quiet_step ((first | (go_at_call 59; exact Calls.qbb (qap.calls k1 (wrap64 (x1_1 + 1)) t518 _ A7.out)))))
       refine wpQuiet_nil ?_
       rintro w16 ⟨⟨wq_, hbL⟩, hq_⟩
       have hq2_ : w16 = wq_ := hq_
       clear hq_
       subst hq2_
       clear hL0 hL1
       have nHB_ := Aside0.mk (qak HB.out hbL)
       clear HB
       have HB := nHB_
       clear nHB_
       clear hbL
       try go_wp2
       go_ret
       exact ⟨by first | rfl | (simp [qam, qan] <;> rfl) | (simp [*, qam, qan] <;> rfl), by repeat (first | (with_reducible first | exact HB.out | apply qac | apply qaa | apply qab) | exact HB.out)⟩
     ·rw [if_neg c6] at H
      have c6b0 : (((qal l0 x5_1).f0).toList == t516.toList) = false := beq_eq_false_iff_ne.mpr c6
      have c6b1 : (((qal l0 x5_1).f0).toList != t516.toList) = true := bne_iff_ne.mpr c6
      obtain rfl := Option.some.inj H
      try go_wp2
      have n0_ := Aside0.mk (qab HB.out)
      clear HB
      have HB := n0_
      clear n0_
      have p515 : 0 ≤ (x5_1 : Int) := of_decide_eq_true (by first | (with_reducible assumption) | assumption)
      have q515 : x5_1 < (l0.length : Int) := of_decide_eq_true (by first | (with_reducible assumption) | assumption)
      obtain ⟨ad515, e515, hx515_0, hx515_1⟩ := qbv HR0.out x5_1 p515 q515
      have hw515_1 := hx515_1
      have hw515_0 := hx515_0
      cases e515
      replace hx515_0 := (HB.out.cell (World.block_lt_of_cell? w _ hx515_0)).trans hx515_0
      replace hx515_1 := (HB.out.cell (World.block_lt_of_cell? w _ hx515_1)).trans hx515_1
      replace p515 := eq_true p515
      replace q515 := eq_true q515
      refine qaF (by kernel_rfl) (by kernel_rfl) ?_
      have hL0_ := Aside0.mk (show wr.drew.cell? (ad515.add ((x5_1).toNat * 2)) = some (.string ((qal l0 x5_1).f0)) from ((HB.out.cell (World.block_lt_of_cell? w _ hw515_0)).trans hw515_0))
      have hL1_ := Aside0.mk (show wr.drew.cell? ⟨(ad515.add ((x5_1).toNat * 2)).block, (ad515.add ((x5_1).toNat * 2)).off + 1, none⟩ = some (.string ((qal l0 x5_1).f1)) from ((HB.out.cell (World.block_lt_of_cell? w _ hw515_1)).trans hw515_1))
      generalize wr.drew = w17 at HB hx515_0 hx515_1 hL0_ hL1_ ⊢
      clear hx515_0 hx515_1
      have hL0 := fun (p_ : Later w17) => Later.cell p_ hL0_.out
      have hL1 := fun (p_ : Later w17) => Later.cell p_ hL1_.out
      clear hL0_ hL1_
      repeat (first | go_big_quiet_step ((first | (go_at_call 59; exact Calls.qbb (qap.calls k1 x1_1 t516 _ A5.out)))) | quiet_step ((first | (go_at_call 59; exact Calls.qbb (qap.calls k1 x1_1 t516 _ A5.out)))))
      refine wpQuiet_nil ?_
      rintro w18 ⟨⟨wq_, hbL⟩, hq_⟩
      have hq2_ : w18 = wq_ := hq_
      clear hq_
      subst hq2_
      clear hL0 hL1
      have nHB_ := Aside0.mk (qak HB.out hbL)
      clear HB
      have HB := nHB_
      clear nHB_
      clear hbL
      try go_wp2
      go_ret
      exact ⟨by first | rfl | (simp [qam, qan] <;> rfl) | (simp [*, qam, qan] <;> rfl), by repeat (first | (with_reducible first | exact HB.out | apply qac | apply qaa | apply qab) | exact HB.out)⟩
    ·rw [if_neg c4] at H
     exact absurd H (by simp)
   ·rw [if_neg c3] at H
    have c3b0 : decide (x5_1 < (l0.length : Int)) = false := decide_eq_false c3
    clear c3
    obtain rfl := Option.some.inj H
    go_wp2
    go_ret
    exact ⟨by first | rfl | (simp [qam, qan] <;> rfl) | (simp [*, qam, qan] <;> rfl), by repeat (first | (with_reducible first | exact HB.out | apply qac | apply qaa | apply qab) | exact HB.out)⟩
end Go.Proofs.Ytgcncphdjabjjaa.X
namespace Go.Proofs.Ytgcncphdjabjjaa.X
open Go.RowKit Go.Proofs.YtgcncphdjabjjaaW.PrintWords Go.Proofs.YtgcncphdjabjjaaW.PrintLast Go.Proofs.YtgcncphdjabjjaaW.PrintMore
attribute [local go_sem] qaT qaU qaV qaP qaQ qa3 qa4 qaJ qaK qaR qaS
set_option linter.unusedVariables false
set_option linter.unusedSimpArgs false
end Go.Proofs.Ytgcncphdjabjjaa.X
namespace Go.Proofs.Ytgcncphdjabjjaa.X
open Go.RowKit Go.Proofs.YtgcncphdjabjjaaW.PrintWords Go.Proofs.YtgcncphdjabjjaaW.PrintLast Go.Proofs.YtgcncphdjabjjaaW.PrintMore
attribute [local go_sem] qaT qaU qaV qaP qaQ qa3 qa4 qaJ qaK qaR qaS
set_option linter.unusedVariables false
set_option linter.unusedSimpArgs false
noncomputable def qbU : List S82 → Int → List S82
 | [], _ => []
 | _ :: xs, m => ⟨mt m, mt (m + 1), mt (m + 2), (Int.tmod ((m + 3)) 3 == 0), (Int.tmod ((m + 4)) 3 == 0)⟩ :: qbU xs (m + 5)
theorem qdJ (rest : List S82) : ∀ (pre : List S82) (m : Int), 0 ≤ m → m + 5 * (rest.length : Int) ≤ 4611686018427387904 → (pre ++ rest).length ≤ 9223372036854775807 →
  Ev (fun k => qaW.l0 k (pre ++ rest) m ((pre.length : Nat) : Int)) (m + 5 * (rest.length : Int), pre ++ qbU rest m) := by
 induction rest with
 | nil =>
  intro pre m h0 h1 hl
  refine Ev.succ ?_
  simp only [qaW.l0]
  exact Ev.neg (by simp) (Ev.is (by simp [qbU]))
 | cons x rest ih =>
  intro pre m h0 h1 hl
  have hlt : ((pre.length : Nat) : Int) < ((pre ++ x :: rest).length : Int) := by simp; omega
  have hwp : ∀ v : S82, wrap64 (((pre.length : Nat) : Int) + 1) = (((pre ++ [v]).length : Nat) : Int) := fun v => by rw [← qb8]; exact qcd (by simp at hl; omega)
  have hset : ∀ v u : S82, (pre ++ u :: rest).set ((pre.length : Nat) : Int).toNat v = pre ++ v :: rest := fun v u => by rw [Int.toNat_natCast]; exact set_mid pre u v rest
  have hrd : ∀ u : S82, qao (pre ++ u :: rest) ((pre.length : Nat) : Int) = u := fun u => by simp [qao, List.getD_eq_getElem?_getD]
  simp only [List.length_cons] at h1
  have w1 : wrap64 (m + 1) = m + 1 := (qbT (by omega) (by omega)).trans (by omega)
  have w2 : wrap64 ((m + 1) + 1) = m + 2 := (qbT (by omega) (by omega)).trans (by omega)
  have w3 : wrap64 ((m + 2) + 1) = m + 3 := (qbT (by omega) (by omega)).trans (by omega)
  have w4 : wrap64 ((m + 3) + 1) = m + 4 := (qbT (by omega) (by omega)).trans (by omega)
  have w5 : wrap64 ((m + 4) + 1) = m + 5 := (qbT (by omega) (by omega)).trans (by omega)
  have hi := ih (pre ++ [⟨mt m, mt (m + 1), mt (m + 2), (Int.tmod ((m + 3)) 3 == 0), (Int.tmod ((m + 4)) 3 == 0)⟩]) (m + 5) (by omega) (by omega) (by simpa using hl)
  refine Ev.succ ?_
  simp only [qaW.l0, w1, w2, w3, w4, w5]
  refine Ev.pos hlt ?_
  refine Ev.bind (qfl (by omega)) ?_
  refine Ev.pos (show (0 : Int) ≤ ((pre.length : Nat) : Int) by omega) ?_
  refine Ev.bindk rfl ?_
  refine Ev.bind (qfl (by omega)) ?_
  refine Ev.bindk rfl ?_
  refine Ev.bind (qfl (by omega)) ?_
  refine Ev.bindk rfl ?_
  refine Ev.bindk rfl ?_
  simp only [hset, hrd]
  rw [hwp (⟨mt m, mt (m + 1), mt (m + 2), (Int.tmod ((m + 3)) 3 == 0), (Int.tmod ((m + 4)) 3 == 0)⟩)]
  have e3 : pre ++ (⟨mt m, mt (m + 1), mt (m + 2), (Int.tmod ((m + 3)) 3 == 0), (Int.tmod ((m + 4)) 3 == 0)⟩ : S82) :: rest = (pre ++ [⟨mt m, mt (m + 1), mt (m + 2), (Int.tmod ((m + 3)) 3 == 0), (Int.tmod ((m + 4)) 3 == 0)⟩]) ++ rest := by simp
  have e4 : (m + 5 + 5 * (rest.length : Int), (pre ++ [⟨mt m, mt (m + 1), mt (m + 2), (Int.tmod ((m + 3)) 3 == 0), (Int.tmod ((m + 4)) 3 == 0)⟩]) ++ qbU rest (m + 5)) = (m + 5 * (((x :: rest).length : Nat) : Int), pre ++ qbU (x :: rest) m) := by
   refine Prod.ext ?_ ?_
   ·simp only [List.length_cons]; omega
   ·simp [qbU]
  rw [← e4, e3]
  exact hi
theorem qfm (l : List S82) (m : Int) (h0 : 0 ≤ m) (h1 : m + 5 * (l.length : Int) ≤ 4611686018427387904) (hl : l.length ≤ 9223372036854775807) : Ev (fun k => qaW.f k l m) (m + 5 * (l.length : Int), qbU l m) := by
 unfold qaW.f
 have h := qdJ l [] m h0 h1 (by simpa using hl)
 simpa using h
end Go.Proofs.Ytgcncphdjabjjaa.X
namespace Go.Proofs.Ytgcncphdjabjjaa.X
open Go.RowKit Go.Proofs.YtgcncphdjabjjaaW.PrintWords Go.Proofs.YtgcncphdjabjjaaW.PrintLast Go.Proofs.YtgcncphdjabjjaaW.PrintMore
attribute [local go_sem] qaT qaU qaV qaP qaQ qa3 qa4 qaJ qaK qaR qaS
set_option linter.unusedVariables false
set_option linter.unusedSimpArgs false
theorem qdK (rest : List S82) : ∀ (pre : List S82) (m : Int), 0 ≤ m → m + 5 * (rest.length : Int) ≤ 4611686018427387904 → (pre ++ rest).length ≤ 9223372036854775807 →
  Ev (fun k => qaD.l0 k (pre ++ qbU rest m) m ((pre.length : Nat) : Int)) (m + 5 * (rest.length : Int)) := by
 induction rest with
 | nil =>
  intro pre m h0 h1 hl
  refine Ev.succ ?_
  simp only [qaD.l0]
  exact Ev.neg (by simp [qbU]) (Ev.is (by simp))
 | cons x rest ih =>
  intro pre m h0 h1 hl
  simp only [qbU, List.length_cons] at h1 ⊢
  have hlt : ((pre.length : Nat) : Int) < ((pre ++ (⟨mt m, mt (m + 1), mt (m + 2), (Int.tmod ((m + 3)) 3 == 0), (Int.tmod ((m + 4)) 3 == 0)⟩ : S82) :: qbU rest (m + 5)).length : Int) := by simp; omega
  have hwp : wrap64 (((pre.length : Nat) : Int) + 1) = (((pre ++ [(⟨mt m, mt (m + 1), mt (m + 2), (Int.tmod ((m + 3)) 3 == 0), (Int.tmod ((m + 4)) 3 == 0)⟩ : S82)]).length : Nat) : Int) := by rw [← qb8]; exact qcd (by simp at hl; omega)
  have hrd : qao (pre ++ (⟨mt m, mt (m + 1), mt (m + 2), (Int.tmod ((m + 3)) 3 == 0), (Int.tmod ((m + 4)) 3 == 0)⟩ : S82) :: qbU rest (m + 5)) ((pre.length : Nat) : Int) = (⟨mt m, mt (m + 1), mt (m + 2), (Int.tmod ((m + 3)) 3 == 0), (Int.tmod ((m + 4)) 3 == 0)⟩ : S82) := by simp [qao, List.getD_eq_getElem?_getD]
  have w1 : wrap64 (m + 1) = m + 1 := (qbT (by omega) (by omega)).trans (by omega)
  have w2 : wrap64 ((m + 1) + 1) = m + 2 := (qbT (by omega) (by omega)).trans (by omega)
  have w3 : wrap64 ((m + 2) + 1) = m + 3 := (qbT (by omega) (by omega)).trans (by omega)
  have w4 : wrap64 ((m + 3) + 1) = m + 4 := (qbT (by omega) (by omega)).trans (by omega)
  have w5 : wrap64 ((m + 4) + 1) = m + 5 := (qbT (by omega) (by omega)).trans (by omega)
  have hi := ih (pre ++ [(⟨mt m, mt (m + 1), mt (m + 2), (Int.tmod ((m + 3)) 3 == 0), (Int.tmod ((m + 4)) 3 == 0)⟩ : S82)]) (m + 5) (by omega) (by omega) (by simpa using hl)
  have e3 : pre ++ (⟨mt m, mt (m + 1), mt (m + 2), (Int.tmod ((m + 3)) 3 == 0), (Int.tmod ((m + 4)) 3 == 0)⟩ : S82) :: qbU rest (m + 5) = (pre ++ [(⟨mt m, mt (m + 1), mt (m + 2), (Int.tmod ((m + 3)) 3 == 0), (Int.tmod ((m + 4)) 3 == 0)⟩ : S82)]) ++ qbU rest (m + 5) := by simp
  rw [← e3] at hi
  refine Ev.succ ?_
  simp only [qaD.l0, hrd, hwp, w1, w2, w3, w4, w5]
  refine Ev.pos hlt (Ev.pos (by omega) ?_)
  repeat (first | refine Ev.bind (qfl (by omega)) ?_ | refine Ev.pos trivial ?_ | refine Ev.pos rfl ?_ | refine Ev.neg (by simp) ?_)
  exact Ev.same hi (by omega)
theorem qfn (l : List S82) (m : Int) (h0 : 0 ≤ m) (h1 : m + 5 * (l.length : Int) ≤ 4611686018427387904) (hl : l.length ≤ 9223372036854775807) : Ev (fun k => qaD.f k (qbU l m) m) (m + 5 * (l.length : Int)) := by
 unfold qaD.f
 have h := qdK l [] m h0 h1 (by simpa using hl)
 simpa using h
end Go.Proofs.Ytgcncphdjabjjaa.X
namespace Go.Proofs.Ytgcncphdjabjjaa.X
open Go.RowKit Go.Proofs.YtgcncphdjabjjaaW.PrintWords Go.Proofs.YtgcncphdjabjjaaW.PrintLast Go.Proofs.YtgcncphdjabjjaaW.PrintMore
attribute [local go_sem] qaT qaU qaV qaP qaQ qa3 qa4 qaJ qaK qaR qaS
set_option linter.unusedVariables false
set_option linter.unusedSimpArgs false
def inB (x a b : Int) : Bool := decide (a ≤ x) && decide (x ≤ b)
theorem qfQ (x a b : Int) : qbt.f x a b = some (inB x a b) := by
 unfold qbt.f inB
 by_cases h : a ≤ x <;> simp [h]
theorem impl_in (x a b : Int) : qbq.f x a b = some (inB x a b) := by
 unfold qbq.f inB
 by_cases h : a ≤ x
 ·rw [if_pos (by omega)]; simp [h]
 ·rw [if_neg (by omega)]; simp [h]
end Go.Proofs.Ytgcncphdjabjjaa.X
namespace Go.Proofs.Ytgcncphdjabjjaa.X
open Go.RowKit Go.Proofs.YtgcncphdjabjjaaW.PrintWords Go.Proofs.YtgcncphdjabjjaaW.PrintLast Go.Proofs.YtgcncphdjabjjaaW.PrintMore
attribute [local go_sem] qaT qaU qaV qaP qaQ qa3 qa4 qaJ qaK qaR qaS
set_option linter.unusedVariables false
set_option linter.unusedSimpArgs false
theorem qeS {a b c : List UInt8} (h : Op.bytesLess a b = true) (k : Op.bytesLess b c = true) : Op.bytesLess a c = true := by
 rw [bytesLess_eq] at *
 simp only [decide_eq_true_eq] at *
 exact List.lt_trans h k
end Go.Proofs.Ytgcncphdjabjjaa.X
namespace Go.Proofs.Ytgcncphdjabjjaa.X
open Go.RowKit Go.Proofs.YtgcncphdjabjjaaW.PrintWords Go.Proofs.YtgcncphdjabjjaaW.PrintLast Go.Proofs.YtgcncphdjabjjaaW.PrintMore
attribute [local go_sem] qaT qaU qaV qaP qaQ qa3 qa4 qaJ qaK qaR qaS
set_option linter.unusedVariables false
set_option linter.unusedSimpArgs false
def allFrom (f : Nat → Bool) : Nat → Nat → Bool
 | _, 0 => true
 | i, d + 1 => f i && allFrom f (i + 1) d
def allB (f : Nat → Bool) (n : Nat) : Bool := allFrom f 0 n
theorem Ev.allFrom {g : Nat → Int → Option Bool} (f : Nat → Bool) (fin : Bool) (n : Nat) (hend : Ev (fun k => g k (n : Int)) fin) (hstep : ∀ i : Nat, i < n → ∀ r, Ev (fun k => g k ((i + 1 : Nat) : Int)) r → Ev (fun k => g k (i : Int)) (f i && r)) (d : Nat) : ∀ i : Nat, i + d = n → Ev (fun k => g k (i : Int)) (allFrom f i d && fin) := by
 induction d with
 | zero => intro i hi; rw [show i = n by omega]; simpa [X.allFrom] using hend
 | succ d ih =>
  intro i hi
  have := hstep i (by omega) _ (ih (i + 1) (by omega))
  simpa [X.allFrom, Bool.and_assoc] using this
theorem Ev.all {g : Nat → Int → Option Bool} (f : Nat → Bool) (fin : Bool) (n : Nat) (hend : Ev (fun k => g k (n : Int)) fin) (hstep : ∀ i : Nat, i < n → ∀ r, Ev (fun k => g k ((i + 1 : Nat) : Int)) r → Ev (fun k => g k (i : Int)) (f i && r)) : Ev (fun k => g k 0) (allB f n && fin) := Ev.allFrom f fin n hend hstep n 0 (by omega)
theorem qez {n : Nat} (h : n < 9223372036854775807) : wrap64 (((n + 1 : Nat) : Int) - 1) = ((n : Nat) : Int) := by unfold wrap64; omega
end Go.Proofs.Ytgcncphdjabjjaa.X
namespace Go.Proofs.Ytgcncphdjabjjaa.X
open Go.RowKit Go.Proofs.YtgcncphdjabjjaaW.PrintWords Go.Proofs.YtgcncphdjabjjaaW.PrintLast Go.Proofs.YtgcncphdjabjjaaW.PrintMore
attribute [local go_sem] qaT qaU qaV qaP qaQ qa3 qa4 qaJ qaK qaR qaS
set_option linter.unusedVariables false
set_option linter.unusedSimpArgs false
def keyB (s : ByteArray) : Bool := decide (1 ≤ s.size) && decide (s.size ≤ 30)
theorem spec_key (s : ByteArray) : qbt.f (s.size : Int) 1 30 = some (keyB s) := by
 unfold qbt.f keyB
 by_cases h : 1 ≤ s.size
 ·rw [if_pos (by omega), decide_eq_true h]
  have e : ((s.size : Int) ≤ 30) = (s.size ≤ 30) := propext (by omega)
  simp [e]
 ·rw [if_neg (by omega), decide_eq_false h]
  rfl
theorem impl_key (s : ByteArray) : qch.f s = some (keyB s) := by
 unfold qch.f qbq.f keyB
 by_cases h : 1 ≤ s.size
 ·rw [if_pos (by omega), decide_eq_true h]
  have e : ((s.size : Int) ≤ 30) = (s.size ≤ 30) := propext (by omega)
  simp [e]
 ·rw [if_neg (by omega), decide_eq_false h]
  rfl
end Go.Proofs.Ytgcncphdjabjjaa.X
