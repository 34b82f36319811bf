import Derived.Test.YtenfomejccfkgaaKFnExactTreeOK4
import Derived.Test.YtenfomejccfkgaaKFnExactTreeOK16
import Derived.Test.YtenfomejccfkgaaKFnExactTreeOK17
import Derived.Test.YtenfomejccfkgaaKFnExactTreeOK18
import Derived.Test.YtenfomejccfkgaaKFnExactTreeOK19
import Derived.Test.YtenfomejccfkgaaKFnExactTreeOK20
import Derived.Test.YtenfomejccfkgaaKFnExactTreeOK21
import Derived.Test.YtenfomejccfkgaaKFnExactTreeOK22
import Derived.Test.YtenfomejccfkgaaKFnExactTreeOK23
import Derived.Test.YtenfomejccfkgaaKFnExactTreeOK24
import Derived.Lib.Bytealg
import Derived.Laws.Externs
import Derived.Laws.Strings
import Derived.Sort.Walk0
namespace Go.Proofs.Ytenfomejccfkgaa.X
open Go.RowKit Go.Proofs.YtenfomejccfkgaaW.PrintWords Go.Proofs.YtenfomejccfkgaaW.PrintLast Go.Proofs.YtenfomejccfkgaaW.PrintMore
attribute [local go_sem] qaN qaO qaP qaJ qaK qaX qaY qaD qaE qaL qaM
set_option linter.unusedVariables false
set_option linter.unusedSimpArgs false
theorem opens4 : Opens Try.prog 4 Kd.bool (fun _ => True) := Opens.bool_ Try.underlying4 (by kernel_rfl)
theorem qf7 : Opens Try.prog 9 Kd.string (fun x => x.size ≤ maxLen) := Opens.string_ Try.underlying9 (by kernel_rfl)
def wf159 (x : S159) : Prop := x.f0.size ≤ maxLen ∧ x.f1.size ≤ maxLen
set_option maxRecDepth 100000 in
theorem opens159 : Opens Try.prog 159 k159 wf159 := by
 refine ⟨by kernel_rfl, fun {H enc w base spare held fuel cs x} h => ?_⟩
 obtain ⟨xs, n, _, _, hl, hlen, hf⟩ := DataW.trod_struct Try.underlying159 h
 have hl' : cs.length = 2 := hl.trans (by kernel_rfl)
 match cs, hl', xs, hlen with
 | [c0, c1], _, [y0, y1], _ =>
  obtain ⟨v0, g0, w0⟩ := qf7.2 (by simpa [show Try.prog.cellsOf 9 = 1 from by kernel_rfl] using hf 0 _ rfl)
  obtain ⟨v1, g1, w1⟩ := qf7.2 (by simpa [show Try.prog.cellsOf 9 = 1 from by kernel_rfl] using hf 1 _ rfl)
  exact ⟨(⟨v0, v1⟩ : S159), ⟨[c0], [c1], rfl, g0, g1⟩, ⟨w0, w1⟩⟩
def wfL159 (xs : List (S159)) : Prop := xs.length ≤ maxLen ∧ ∀ x ∈ xs, wf159 x
theorem opens47 : Opens Try.prog 47 (Kd.slice 159 k159) wfL159 := Opens.qew Try.underlying47 (by kernel_rfl) opens159
def wfL9 (xs : List ByteArray) : Prop := xs.length ≤ maxLen ∧ ∀ x ∈ xs, x.size ≤ maxLen
theorem opens48 : Opens Try.prog 48 (Kd.slice 9 Kd.string) wfL9 := Opens.qew Try.underlying48 (by kernel_rfl) qf7
theorem opens3 : Opens Try.prog 3 (Kd.int .i64) (fun x => (Lit.int .i64 x).wf = true) := Opens.int_ Try.underlying3 (by kernel_rfl)
def wfL3 (xs : List Int) : Prop := xs.length ≤ maxLen ∧ ∀ x ∈ xs, (Lit.int .i64 x).wf = true
theorem opens42 : Opens Try.prog 42 (Kd.slice 3 (Kd.int .i64)) wfL3 := Opens.qew Try.underlying42 (by kernel_rfl) opens3
def wf50 (x : S50) : Prop := True ∧ wfL159 x.f1 ∧ wfL9 x.f2 ∧ wfL3 x.f3
set_option maxRecDepth 100000 in
theorem opens50 : Opens Try.prog 50 k50 wf50 := by
 refine ⟨by kernel_rfl, fun {H enc w base spare held fuel cs x} h => ?_⟩
 obtain ⟨xs, n, _, _, hl, hlen, hf⟩ := DataW.trod_struct Try.underlying50 h
 have hl' : cs.length = 4 := hl.trans (by kernel_rfl)
 match cs, hl', xs, hlen with
 | [c0, c1, c2, c3], _, [y0, y1, y2, y3], _ =>
  obtain ⟨v0, g0, w0⟩ := opens4.2 (by simpa [show Try.prog.cellsOf 4 = 1 from by kernel_rfl] using hf 0 _ rfl)
  obtain ⟨v1, g1, w1⟩ := opens47.2 (by simpa [show Try.prog.cellsOf 47 = 1 from by kernel_rfl] using hf 1 _ rfl)
  obtain ⟨v2, g2, w2⟩ := opens48.2 (by simpa [show Try.prog.cellsOf 48 = 1 from by kernel_rfl] using hf 2 _ rfl)
  obtain ⟨v3, g3, w3⟩ := opens42.2 (by simpa [show Try.prog.cellsOf 42 = 1 from by kernel_rfl] using hf 3 _ rfl)
  exact ⟨(⟨v0, v1, v2, v3⟩ : S50), ⟨[c0], [c1, c2, c3], rfl, g0, ⟨[c1], [c2, c3], rfl, g1, ⟨[c2], [c3], rfl, g2, g3⟩⟩⟩, ⟨w0, w1, w2, w3⟩⟩
def wfL50 (xs : List (S50)) : Prop := xs.length ≤ maxLen ∧ ∀ x ∈ xs, wf50 x
theorem opens22 : Opens Try.prog 22 (Kd.slice 50 k50) wfL50 := Opens.qew Try.underlying22 (by kernel_rfl) opens50
def wf24 (x : S24) : Prop := wfL50 x.f0
set_option maxRecDepth 100000 in
theorem opens24 : Opens Try.prog 24 k24 wf24 := by
 refine ⟨by kernel_rfl, fun {H enc w base spare held fuel cs x} h => ?_⟩
 obtain ⟨xs, n, _, _, hl, hlen, hf⟩ := DataW.trod_struct Try.underlying24 h
 have hl' : cs.length = 1 := hl.trans (by kernel_rfl)
 match cs, hl', xs, hlen with
 | [c0], _, [y0], _ =>
  obtain ⟨v0, g0, w0⟩ := opens22.2 (by simpa [show Try.prog.cellsOf 22 = 1 from by kernel_rfl] using hf 0 _ rfl)
  exact ⟨(⟨v0⟩ : S24), g0, w0⟩
def qbe.Pure : Prop := ∀ (l0_0 : List (S50)) (a1 : Int), (wfL50 l0_0) → ((Lit.int .i64 a1).wf = true) → ∃ k, qbe.f k l0_0 a1 = some true
end Go.Proofs.Ytenfomejccfkgaa.X
namespace Go.Proofs.Ytenfomejccfkgaa.X
open Go.RowKit Go.Proofs.YtenfomejccfkgaaW.PrintWords Go.Proofs.YtenfomejccfkgaaW.PrintLast Go.Proofs.YtenfomejccfkgaaW.PrintMore
attribute [local go_sem] qaN qaO qaP qaJ qaK qaX qaY qaD qaE qaL qaM
set_option linter.unusedVariables false
set_option linter.unusedSimpArgs false
theorem qeX (rest : List Int) : ∀ (pre : List Int), ((pre ++ rest).length : Int) ≤ 1048576 → (∀ y ∈ rest, True) →
  Ev (fun k => qa8.l0 k (pre ++ rest) (pre ++ List.replicate rest.length 0) ((pre.length : Nat) : Int)) ((pre ++ rest)) := by
 induction rest with
 | nil =>
  intro pre hl hs
  refine Ev.succ ?_
  simp only [qa8.l0]
  exact Ev.neg (by simp) (Ev.is (by simp))
 | cons x rest ih =>
  intro pre hl hs
  have hx : rd (pre ++ x :: rest) ((pre.length : Nat) : Int) = x := by simp [rd, List.getD_eq_getElem?_getD]
  have hlt : ((pre.length : Nat) : Int) < ((pre ++ x :: rest).length : Int) := by simp; omega
  have hw : wrap64 (((pre.length : Nat) : Int) + 1) = (((pre ++ [x]).length : Nat) : Int) := by rw [← qbW]; exact qcc (by omega)
  have hset : ∀ v : Int, ((pre ++ List.replicate (x :: rest).length 0).set ((pre.length : Nat) : Int).toNat v) = (pre ++ [v]) ++ List.replicate rest.length 0 := fun v => by rw [Int.toNat_natCast, List.length_cons, List.replicate_succ]; simp
  have hi := ih (pre ++ [x]) (by simpa using hl) (fun y hy => hs y (List.mem_cons_of_mem _ hy))
  refine Ev.succ ?_
  simp only [qa8.l0, hx]
  refine Ev.pos hlt (Ev.pos (by omega) ?_)
  refine Ev.pos (by simp; omega) ?_
  simp only [hset, hw]
  have e1 : pre ++ x :: rest = (pre ++ [x]) ++ rest := by simp
  rw [e1]
  exact hi
theorem to_IntS (l : List Int) (hs : (l.length : Int) ≤ 1048576) : Ev (fun k => qa8.f k l) (l) := by
 have hl : (l.length : Int) ≤ 1048576 := hs
 unfold qa8.f
 refine Ev.pos (by omega) (Ev.pos (by omega) ?_)
 have h := qeX l [] (by simpa using hl) (fun _ _ => trivial)
 simpa using h
end Go.Proofs.Ytenfomejccfkgaa.X
namespace Go.Proofs.Ytenfomejccfkgaa.X
open Go.RowKit Go.Proofs.YtenfomejccfkgaaW.PrintWords Go.Proofs.YtenfomejccfkgaaW.PrintLast Go.Proofs.YtenfomejccfkgaaW.PrintMore
attribute [local go_sem] qaN qaO qaP qaJ qaK qaX qaY qaD qaE qaL qaM
set_option linter.unusedVariables false
set_option linter.unusedSimpArgs false
def cv159 (x : S159) : S99 := ⟨x.f0, x.f1⟩
def sm159 (B : Int) (x : S159) : Prop := (x.f0.size : Int) ≤ B ∧ (x.f1.size : Int) ≤ B
def wl159 (x : S159) : Prop := x.f0.size ≤ maxLen ∧ x.f1.size ≤ maxLen
theorem to_Pair (x : S159) : qcx.f (x.f0) (x.f1) = some (x.f0, x.f1) := rfl
end Go.Proofs.Ytenfomejccfkgaa.X
namespace Go.Proofs.Ytenfomejccfkgaa.X
open Go.RowKit Go.Proofs.YtenfomejccfkgaaW.PrintWords Go.Proofs.YtenfomejccfkgaaW.PrintLast Go.Proofs.YtenfomejccfkgaaW.PrintMore
attribute [local go_sem] qaN qaO qaP qaJ qaK qaX qaY qaD qaE qaL qaM
set_option linter.unusedVariables false
set_option linter.unusedSimpArgs false
theorem qeo (rest : List S159) : ∀ (pre : List S159), ((pre ++ rest).length : Int) ≤ 1048576 → (∀ y ∈ rest, sm159 1048576 y) →
  Ev (fun k => qa2.l0 k (pre ++ rest) (pre.map cv159 ++ List.replicate rest.length z99) ((pre.length : Nat) : Int)) ((pre ++ rest).map cv159) := by
 induction rest with
 | nil =>
  intro pre hl hs
  refine Ev.succ ?_
  simp only [qa2.l0]
  exact Ev.neg (by simp) (Ev.is (by simp))
 | cons x rest ih =>
  intro pre hl hs
  have hx : qbQ (pre ++ x :: rest) ((pre.length : Nat) : Int) = x := by simp [qbQ, List.getD_eq_getElem?_getD]
  have hlt : ((pre.length : Nat) : Int) < ((pre ++ x :: rest).length : Int) := by simp; omega
  have hw : wrap64 (((pre.length : Nat) : Int) + 1) = (((pre ++ [x]).length : Nat) : Int) := by rw [← qbW]; exact qcc (by omega)
  have hset : ∀ v : S99, ((pre.map cv159 ++ List.replicate (x :: rest).length z99).set ((pre.length : Nat) : Int).toNat v) = (pre.map cv159 ++ [v]) ++ List.replicate rest.length z99 := fun v => by rw [Int.toNat_natCast, List.length_cons, List.replicate_succ]; simp
  have hi := ih (pre ++ [x]) (by simpa using hl) (fun y hy => hs y (List.mem_cons_of_mem _ hy))
  refine Ev.succ ?_
  simp only [qa2.l0, hx]
  refine Ev.pos hlt (Ev.pos (by omega) ?_)
  refine Ev.bindk (to_Pair x) ?_
  refine Ev.pos (by simp; omega) ?_
  simp only [hset, hw]
  have e1 : pre ++ x :: rest = (pre ++ [x]) ++ rest := by simp
  have e2 : (pre ++ [x]).map cv159 = pre.map cv159 ++ [cv159 x] := by simp
  rw [e1]
  rw [e2] at hi
  exact hi
theorem to_PairS (l : List S159) (hs : ((l.length : Int) ≤ 1048576 ∧ ∀ y ∈ l, sm159 1048576 y)) : Ev (fun k => qa2.f k l) (l.map cv159) := by
 have hl : (l.length : Int) ≤ 1048576 := hs.1
 unfold qa2.f
 refine Ev.pos (by omega) (Ev.pos (by omega) ?_)
 have h := qeo l [] (by simpa using hl) hs.2
 simpa using h
end Go.Proofs.Ytenfomejccfkgaa.X
namespace Go.Proofs.Ytenfomejccfkgaa.X
open Go.RowKit Go.Proofs.YtenfomejccfkgaaW.PrintWords Go.Proofs.YtenfomejccfkgaaW.PrintLast Go.Proofs.YtenfomejccfkgaaW.PrintMore
attribute [local go_sem] qaN qaO qaP qaJ qaK qaX qaY qaD qaE qaL qaM
set_option linter.unusedVariables false
set_option linter.unusedSimpArgs false
theorem qdS (rest : List ByteArray) : ∀ (pre : List ByteArray), ((pre ++ rest).length : Int) ≤ 1048576 → (∀ y ∈ rest, True) →
  Ev (fun k => qaW.l0 k (pre ++ rest) (pre ++ List.replicate rest.length (⟨#[]⟩ : ByteArray)) ((pre.length : Nat) : Int)) ((pre ++ rest)) := by
 induction rest with
 | nil =>
  intro pre hl hs
  refine Ev.succ ?_
  simp only [qaW.l0]
  exact Ev.neg (by simp) (Ev.is (by simp))
 | cons x rest ih =>
  intro pre hl hs
  have hx : rdOf ByteArray.empty (pre ++ x :: rest) ((pre.length : Nat) : Int) = x := by simp [rdOf, List.getD_eq_getElem?_getD]
  have hlt : ((pre.length : Nat) : Int) < ((pre ++ x :: rest).length : Int) := by simp; omega
  have hw : wrap64 (((pre.length : Nat) : Int) + 1) = (((pre ++ [x]).length : Nat) : Int) := by rw [← qbW]; exact qcc (by omega)
  have hset : ∀ v : ByteArray, ((pre ++ List.replicate (x :: rest).length (⟨#[]⟩ : ByteArray)).set ((pre.length : Nat) : Int).toNat v) = (pre ++ [v]) ++ List.replicate rest.length (⟨#[]⟩ : ByteArray) := fun v => by rw [Int.toNat_natCast, List.length_cons, List.replicate_succ]; simp
  have hi := ih (pre ++ [x]) (by simpa using hl) (fun y hy => hs y (List.mem_cons_of_mem _ hy))
  refine Ev.succ ?_
  simp only [qaW.l0, hx]
  refine Ev.pos hlt (Ev.pos (by omega) ?_)
  refine Ev.pos (by simp; omega) ?_
  simp only [hset, hw]
  have e1 : pre ++ x :: rest = (pre ++ [x]) ++ rest := by simp
  rw [e1]
  exact hi
theorem qfz (l : List ByteArray) (hs : ((l.length : Int) ≤ 1048576 ∧ ∀ y ∈ l, (y.size : Int) ≤ 1048576)) : Ev (fun k => qaW.f k l) (l) := by
 have hl : (l.length : Int) ≤ 1048576 := hs.1
 unfold qaW.f
 refine Ev.pos (by omega) (Ev.pos (by omega) ?_)
 have h := qdS l [] (by simpa using hl) (fun _ _ => trivial)
 simpa using h
end Go.Proofs.Ytenfomejccfkgaa.X
namespace Go.Proofs.Ytenfomejccfkgaa.X
open Go.RowKit Go.Proofs.YtenfomejccfkgaaW.PrintWords Go.Proofs.YtenfomejccfkgaaW.PrintLast Go.Proofs.YtenfomejccfkgaaW.PrintMore
attribute [local go_sem] qaN qaO qaP qaJ qaK qaX qaY qaD qaE qaL qaM
set_option linter.unusedVariables false
set_option linter.unusedSimpArgs false
def cv50 (x : S50) : S56 := ⟨x.f0, (x.f1).map cv159, x.f2, x.f3⟩
def sm50 (B : Int) (x : S50) : Prop := True ∧ ((x.f1.length : Int) ≤ B ∧ ∀ y ∈ x.f1, sm159 B y) ∧ ((x.f2.length : Int) ≤ B ∧ ∀ y ∈ x.f2, (y.size : Int) ≤ B) ∧ (x.f3.length : Int) ≤ B
def wl50 (x : S50) : Prop := True ∧ (x.f1.length ≤ maxLen ∧ ∀ y ∈ x.f1, wl159 y) ∧ (x.f2.length ≤ maxLen ∧ ∀ y ∈ x.f2, y.size ≤ maxLen) ∧ x.f3.length ≤ maxLen
theorem to_Node (x : S50) (hs : sm50 1048576 x) : Ev (fun k => qbF.f k (x.f0) (x.f1) (x.f2) (x.f3)) (x.f0, (x.f1).map cv159, x.f2, x.f3) := by
 unfold qbF.f
 exact Ev.bind (to_PairS _ hs.2.1) (Ev.bind (qfz _ hs.2.2.1) (Ev.bind (to_IntS _ hs.2.2.2) (Ev.is rfl)))
end Go.Proofs.Ytenfomejccfkgaa.X
namespace Go.Proofs.Ytenfomejccfkgaa.X
open Go.RowKit Go.Proofs.YtenfomejccfkgaaW.PrintWords Go.Proofs.YtenfomejccfkgaaW.PrintLast Go.Proofs.YtenfomejccfkgaaW.PrintMore
attribute [local go_sem] qaN qaO qaP qaJ qaK qaX qaY qaD qaE qaL qaM
set_option linter.unusedVariables false
set_option linter.unusedSimpArgs false
theorem qep (rest : List S50) : ∀ (pre : List S50), ((pre ++ rest).length : Int) ≤ 1048576 → (∀ y ∈ rest, sm50 1048576 y) →
  Ev (fun k => qa3.l0 k (pre ++ rest) (pre.map cv50 ++ List.replicate rest.length z56) ((pre.length : Nat) : Int)) ((pre ++ rest).map cv50) := by
 induction rest with
 | nil =>
  intro pre hl hs
  refine Ev.succ ?_
  simp only [qa3.l0]
  exact Ev.neg (by simp) (Ev.is (by simp))
 | cons x rest ih =>
  intro pre hl hs
  have hx : qbu (pre ++ x :: rest) ((pre.length : Nat) : Int) = x := by simp [qbu, List.getD_eq_getElem?_getD]
  have hlt : ((pre.length : Nat) : Int) < ((pre ++ x :: rest).length : Int) := by simp; omega
  have hw : wrap64 (((pre.length : Nat) : Int) + 1) = (((pre ++ [x]).length : Nat) : Int) := by rw [← qbW]; exact qcc (by omega)
  have hset : ∀ v : S56, ((pre.map cv50 ++ List.replicate (x :: rest).length z56).set ((pre.length : Nat) : Int).toNat v) = (pre.map cv50 ++ [v]) ++ List.replicate rest.length z56 := fun v => by rw [Int.toNat_natCast, List.length_cons, List.replicate_succ]; simp
  have hi := ih (pre ++ [x]) (by simpa using hl) (fun y hy => hs y (List.mem_cons_of_mem _ hy))
  refine Ev.succ ?_
  simp only [qa3.l0, hx]
  refine Ev.pos hlt (Ev.pos (by omega) ?_)
  refine Ev.bind (to_Node x (hs x List.mem_cons_self)) ?_
  refine Ev.pos (by simp; omega) ?_
  simp only [hset, hw]
  have e1 : pre ++ x :: rest = (pre ++ [x]) ++ rest := by simp
  have e2 : (pre ++ [x]).map cv50 = pre.map cv50 ++ [cv50 x] := by simp
  rw [e1]
  rw [e2] at hi
  exact hi
theorem to_NodeS (l : List S50) (hs : ((l.length : Int) ≤ 1048576 ∧ ∀ y ∈ l, sm50 1048576 y)) : Ev (fun k => qa3.f k l) (l.map cv50) := by
 have hl : (l.length : Int) ≤ 1048576 := hs.1
 unfold qa3.f
 refine Ev.pos (by omega) (Ev.pos (by omega) ?_)
 have h := qep l [] (by simpa using hl) hs.2
 simpa using h
end Go.Proofs.Ytenfomejccfkgaa.X
namespace Go.Proofs.Ytenfomejccfkgaa.X
open Go.RowKit Go.Proofs.YtenfomejccfkgaaW.PrintWords Go.Proofs.YtenfomejccfkgaaW.PrintLast Go.Proofs.YtenfomejccfkgaaW.PrintMore
attribute [local go_sem] qaN qaO qaP qaJ qaK qaX qaY qaD qaE qaL qaM
set_option linter.unusedVariables false
set_option linter.unusedSimpArgs false
def sm24 (B : Int) (x : S24) : Prop := ((x.f0.length : Int) ≤ B ∧ ∀ y ∈ x.f0, sm50 B y)
def wl24 (x : S24) : Prop := (x.f0.length ≤ maxLen ∧ ∀ y ∈ x.f0, wl50 y)
theorem to_Heap (x : S24) (hs : sm24 1048576 x) : Ev (fun k => qa9.f k (x.f0)) ((x.f0).map cv50) := by
 unfold qa9.f
 exact Ev.bind (to_NodeS _ hs) (Ev.is rfl)
end Go.Proofs.Ytenfomejccfkgaa.X
namespace Go.Proofs.Ytenfomejccfkgaa.X
open Go.RowKit Go.Proofs.YtenfomejccfkgaaW.PrintWords Go.Proofs.YtenfomejccfkgaaW.PrintLast Go.Proofs.YtenfomejccfkgaaW.PrintMore
attribute [local go_sem] qaN qaO qaP qaJ qaK qaX qaY qaD qaE qaL qaM
set_option linter.unusedVariables false
set_option linter.unusedSimpArgs false
theorem sz_IntS (l : List Int) (hw : l.length ≤ maxLen) (B left : Int) (h0 : 0 ≤ left) (h1 : left ≤ B) (hB : B ≤ 1048576) : ∃ r, Ev (fun k => qbT.f l left) r ∧ (0 ≤ r → r ≤ left ∧ (l.length : Int) ≤ B) := by
 have hl := Nat.le_trans hw qcv
 unfold qbT.f
 have e : wrap64 (left - (l.length : Int)) = left - (l.length : Int) := qdd (by omega) (by omega)
 simp only [e]
 by_cases c : left - (l.length : Int) < 0
 ·exact ⟨-1, Ev.pos c (Ev.is rfl), fun h => by omega⟩
 ·exact ⟨left - (l.length : Int), Ev.neg c (Ev.is rfl), fun _ => ⟨by omega, by omega⟩⟩
end Go.Proofs.Ytenfomejccfkgaa.X
namespace Go.Proofs.Ytenfomejccfkgaa.X
open Go.RowKit Go.Proofs.YtenfomejccfkgaaW.PrintWords Go.Proofs.YtenfomejccfkgaaW.PrintLast Go.Proofs.YtenfomejccfkgaaW.PrintMore
attribute [local go_sem] qaN qaO qaP qaJ qaK qaX qaY qaD qaE qaL qaM
set_option linter.unusedVariables false
set_option linter.unusedSimpArgs false
theorem sz_Pair (x : S159) (hw : wl159 x) (B left : Int) (h0 : 0 ≤ left) (h1 : left ≤ B) (hB : B ≤ 1048576) : ∃ r, Ev (fun k => qcd.f (x.f0) (x.f1) left) r ∧ (0 ≤ r → r ≤ left ∧ sm159 B x) := by
 unfold qcd.f
 have hs0 : x.f0.size ≤ 9223372036854775807 := Nat.le_trans hw.1 qcv
 have e0 : wrap64 (left - (x.f0.size : Int)) = left - (x.f0.size : Int) := qdd (by omega) (by omega)
 simp only [e0]
 by_cases c0 : left - (x.f0.size : Int) < 0
 ·exact ⟨-1, Ev.pos c0 (Ev.is rfl), fun h => by omega⟩
 suffices hh : ∃ r, Ev _ r ∧ (0 ≤ r → r ≤ left ∧ sm159 B x) from (let ⟨r, hr, hq⟩ := hh; ⟨r, Ev.neg c0 hr, hq⟩)
 have hs1 : x.f1.size ≤ 9223372036854775807 := Nat.le_trans hw.2 qcv
 have e1 : wrap64 ((left - (x.f0.size : Int)) - (x.f1.size : Int)) = (left - (x.f0.size : Int)) - (x.f1.size : Int) := qdd (by omega) (by omega)
 simp only [e1]
 by_cases c1 : (left - (x.f0.size : Int)) - (x.f1.size : Int) < 0
 ·exact ⟨-1, Ev.pos c1 (Ev.is rfl), fun h => by omega⟩
 suffices hh : ∃ r, Ev _ r ∧ (0 ≤ r → r ≤ left ∧ sm159 B x) from (let ⟨r, hr, hq⟩ := hh; ⟨r, Ev.neg c1 hr, hq⟩)
 exact ⟨((left - (x.f0.size : Int)) - (x.f1.size : Int)), Ev.is rfl, fun _ => ⟨by omega, ⟨(by omega), (by omega)⟩⟩⟩
end Go.Proofs.Ytenfomejccfkgaa.X
namespace Go.Proofs.Ytenfomejccfkgaa.X
open Go.RowKit Go.Proofs.YtenfomejccfkgaaW.PrintWords Go.Proofs.YtenfomejccfkgaaW.PrintLast Go.Proofs.YtenfomejccfkgaaW.PrintMore
attribute [local go_sem] qaN qaO qaP qaJ qaK qaX qaY qaD qaE qaL qaM
set_option linter.unusedVariables false
set_option linter.unusedSimpArgs false
theorem qeq (B : Int) (hB : B ≤ 1048576) (rest : List S159) : ∀ (pre : List S159) (left : Int), (pre ++ rest).length ≤ 9223372036854775807 → (∀ y ∈ rest, wl159 y) → 0 ≤ left → left ≤ B →
  ∃ r, Ev (fun k => qa1.l0 k (pre ++ rest) left ((pre.length : Nat) : Int)) r ∧ (0 ≤ r → r ≤ left ∧ ∀ y ∈ rest, sm159 B y) := by
 induction rest with
 | nil =>
  intro pre left hl hw h0 h1
  refine ⟨left, Ev.succ ?_, fun _ => ⟨Int.le_refl _, fun y hy => by cases hy⟩⟩
  simp only [qa1.l0]
  exact Ev.neg (by simp) (Ev.is rfl)
 | cons x rest ih =>
  intro pre left hl hw h0 h1
  have hx : qbQ (pre ++ x :: rest) ((pre.length : Nat) : Int) = x := by simp [qbQ, List.getD_eq_getElem?_getD]
  have hlt : ((pre.length : Nat) : Int) < ((pre ++ x :: rest).length : Int) := by simp; omega
  have hwp : wrap64 (((pre.length : Nat) : Int) + 1) = (((pre ++ [x]).length : Nat) : Int) := by rw [← qbW]; exact qcc (by omega)
  have e1 : pre ++ x :: rest = (pre ++ [x]) ++ rest := by simp
  have hl2 : ((pre ++ [x]) ++ rest).length ≤ 9223372036854775807 := by rw [← e1]; exact hl
  obtain ⟨r, hr, hq⟩ := sz_Pair x (hw x List.mem_cons_self) B left h0 h1 hB
  by_cases c : r < 0
  ·refine ⟨-1, Ev.succ ?_, fun h => by omega⟩
   simp only [qa1.l0, hx]
   exact Ev.pos hlt (Ev.pos (by omega) (Ev.bind hr (Ev.pos c (Ev.is rfl))))
  ·have hq' := hq (by omega)
   obtain ⟨r2, hr2, hq2⟩ := ih (pre ++ [x]) r hl2 (fun y hy => hw y (List.mem_cons_of_mem _ hy)) (by omega) (by omega)
   refine ⟨r2, Ev.succ ?_, fun h => ?_⟩
   ·simp only [qa1.l0, hx, hwp]
    rw [← e1] at hr2
    exact Ev.pos hlt (Ev.pos (by omega) (Ev.bind hr (Ev.neg c hr2)))
   ·have h3 := hq2 h
    refine ⟨by omega, fun y hy => ?_⟩
    rcases List.mem_cons.1 hy with rfl | hy
    ·exact hq'.2
    ·exact h3.2 y hy
theorem sz_PairS (l : List S159) (hw : (l.length ≤ maxLen ∧ ∀ y ∈ l, wl159 y)) (B left : Int) (h0 : 0 ≤ left) (h1 : left ≤ B) (hB : B ≤ 1048576) : ∃ r, Ev (fun k => qa1.f k l left) r ∧ (0 ≤ r → r ≤ left ∧ ((l.length : Int) ≤ B ∧ ∀ y ∈ l, sm159 B y)) := by
 have hl := Nat.le_trans hw.1 qcv
 unfold qa1.f
 have e : wrap64 (left - (l.length : Int)) = left - (l.length : Int) := qdd (by omega) (by omega)
 simp only [e]
 by_cases c : left - (l.length : Int) < 0
 ·exact ⟨-1, Ev.pos c (Ev.is rfl), fun h => by omega⟩
 ·obtain ⟨r, hr, hq⟩ := qeq B hB l [] (left - (l.length : Int)) (by simpa using hl) hw.2 (by omega) (by omega)
  exact ⟨r, Ev.neg c (by simpa using hr), fun h => ⟨by have := (hq h).1; omega, by omega, (hq h).2⟩⟩
end Go.Proofs.Ytenfomejccfkgaa.X
namespace Go.Proofs.Ytenfomejccfkgaa.X
open Go.RowKit Go.Proofs.YtenfomejccfkgaaW.PrintWords Go.Proofs.YtenfomejccfkgaaW.PrintLast Go.Proofs.YtenfomejccfkgaaW.PrintMore
attribute [local go_sem] qaN qaO qaP qaJ qaK qaX qaY qaD qaE qaL qaM
set_option linter.unusedVariables false
set_option linter.unusedSimpArgs false
theorem qdT (B : Int) (hB : B ≤ 1048576) (rest : List ByteArray) : ∀ (pre : List ByteArray) (left : Int), (pre ++ rest).length ≤ 9223372036854775807 → (∀ y ∈ rest, y.size ≤ maxLen) → 0 ≤ left → left ≤ B →
  ∃ r, Ev (fun k => qaV.l0 k (pre ++ rest) left ((pre.length : Nat) : Int)) r ∧ (0 ≤ r → r ≤ left ∧ ∀ y ∈ rest, (y.size : Int) ≤ B) := by
 induction rest with
 | nil =>
  intro pre left hl hw h0 h1
  refine ⟨left, Ev.succ ?_, fun _ => ⟨Int.le_refl _, fun y hy => by cases hy⟩⟩
  simp only [qaV.l0]
  exact Ev.neg (by simp) (Ev.is rfl)
 | cons x rest ih =>
  intro pre left hl hw h0 h1
  have hx : rdOf ByteArray.empty (pre ++ x :: rest) ((pre.length : Nat) : Int) = x := by simp [rdOf, List.getD_eq_getElem?_getD]
  have hlt : ((pre.length : Nat) : Int) < ((pre ++ x :: rest).length : Int) := by simp; omega
  have hwp : wrap64 (((pre.length : Nat) : Int) + 1) = (((pre ++ [x]).length : Nat) : Int) := by rw [← qbW]; exact qcc (by omega)
  have e1 : pre ++ x :: rest = (pre ++ [x]) ++ rest := by simp
  have hl2 : ((pre ++ [x]) ++ rest).length ≤ 9223372036854775807 := by rw [← e1]; exact hl
  have hs : x.size ≤ 9223372036854775807 := Nat.le_trans (hw x List.mem_cons_self) qcv
  have e : wrap64 (left - (x.size : Int)) = left - (x.size : Int) := qdd (by omega) (by omega)
  by_cases c : left - (x.size : Int) < 0
  ·refine ⟨-1, Ev.succ ?_, fun h => by omega⟩
   simp only [qaV.l0, hx, e]
   exact Ev.pos hlt (Ev.pos (by omega) (Ev.pos c (Ev.is rfl)))
  ·obtain ⟨r2, hr2, hq2⟩ := ih (pre ++ [x]) (left - (x.size : Int)) hl2 (fun y hy => hw y (List.mem_cons_of_mem _ hy)) (by omega) (by omega)
   refine ⟨r2, Ev.succ ?_, fun h => ?_⟩
   ·simp only [qaV.l0, hx, hwp, e]
    rw [← e1] at hr2
    exact Ev.pos hlt (Ev.pos (by omega) (Ev.neg c hr2))
   ·have h3 := hq2 h
    refine ⟨by omega, fun y hy => ?_⟩
    rcases List.mem_cons.1 hy with rfl | hy
    ·omega
    ·exact h3.2 y hy
theorem qfA (l : List ByteArray) (hw : (l.length ≤ maxLen ∧ ∀ y ∈ l, y.size ≤ maxLen)) (B left : Int) (h0 : 0 ≤ left) (h1 : left ≤ B) (hB : B ≤ 1048576) : ∃ r, Ev (fun k => qaV.f k l left) r ∧ (0 ≤ r → r ≤ left ∧ ((l.length : Int) ≤ B ∧ ∀ y ∈ l, (y.size : Int) ≤ B)) := by
 have hl := Nat.le_trans hw.1 qcv
 unfold qaV.f
 have e : wrap64 (left - (l.length : Int)) = left - (l.length : Int) := qdd (by omega) (by omega)
 simp only [e]
 by_cases c : left - (l.length : Int) < 0
 ·exact ⟨-1, Ev.pos c (Ev.is rfl), fun h => by omega⟩
 ·obtain ⟨r, hr, hq⟩ := qdT B hB l [] (left - (l.length : Int)) (by simpa using hl) hw.2 (by omega) (by omega)
  exact ⟨r, Ev.neg c (by simpa using hr), fun h => ⟨by have := (hq h).1; omega, by omega, (hq h).2⟩⟩
end Go.Proofs.Ytenfomejccfkgaa.X
namespace Go.Proofs.Ytenfomejccfkgaa.X
open Go.RowKit Go.Proofs.YtenfomejccfkgaaW.PrintWords Go.Proofs.YtenfomejccfkgaaW.PrintLast Go.Proofs.YtenfomejccfkgaaW.PrintMore
attribute [local go_sem] qaN qaO qaP qaJ qaK qaX qaY qaD qaE qaL qaM
set_option linter.unusedVariables false
set_option linter.unusedSimpArgs false
theorem sz_Node (x : S50) (hw : wl50 x) (B left : Int) (h0 : 0 ≤ left) (h1 : left ≤ B) (hB : B ≤ 1048576) : ∃ r, Ev (fun k => qbB.f k (x.f0) (x.f1) (x.f2) (x.f3) left) r ∧ (0 ≤ r → r ≤ left ∧ sm50 B x) := by
 unfold qbB.f
 obtain ⟨r1, hr1, hq1⟩ := sz_PairS x.f1 hw.2.1 B left (by omega) (by omega) hB
 by_cases c1 : r1 < 0
 ·exact ⟨-1, Ev.bind hr1 (Ev.pos c1 (Ev.is rfl)), fun h => by omega⟩
 have hq1' := hq1 (by omega)
 suffices hh : ∃ r, Ev _ r ∧ (0 ≤ r → r ≤ left ∧ sm50 B x) from (let ⟨r, hr, hq⟩ := hh; ⟨r, Ev.bind hr1 (Ev.neg c1 hr), hq⟩)
 have hz1 := hq1'.1
 obtain ⟨r2, hr2, hq2⟩ := qfA x.f2 hw.2.2.1 B r1 (by omega) (by omega) hB
 by_cases c2 : r2 < 0
 ·exact ⟨-1, Ev.bind hr2 (Ev.pos c2 (Ev.is rfl)), fun h => by omega⟩
 have hq2' := hq2 (by omega)
 suffices hh : ∃ r, Ev _ r ∧ (0 ≤ r → r ≤ left ∧ sm50 B x) from (let ⟨r, hr, hq⟩ := hh; ⟨r, Ev.bind hr2 (Ev.neg c2 hr), hq⟩)
 have hz2 := hq2'.1
 obtain ⟨r3, hr3, hq3⟩ := sz_IntS x.f3 hw.2.2.2 B r2 (by omega) (by omega) hB
 by_cases c3 : r3 < 0
 ·exact ⟨-1, Ev.bind hr3 (Ev.pos c3 (Ev.is rfl)), fun h => by omega⟩
 have hq3' := hq3 (by omega)
 suffices hh : ∃ r, Ev _ r ∧ (0 ≤ r → r ≤ left ∧ sm50 B x) from (let ⟨r, hr, hq⟩ := hh; ⟨r, Ev.bind hr3 (Ev.neg c3 hr), hq⟩)
 have hz3 := hq3'.1
 exact ⟨r3, Ev.is rfl, fun _ => ⟨by omega, ⟨trivial, hq1'.2, hq2'.2, hq3'.2⟩⟩⟩
end Go.Proofs.Ytenfomejccfkgaa.X
namespace Go.Proofs.Ytenfomejccfkgaa.X
open Go.RowKit Go.Proofs.YtenfomejccfkgaaW.PrintWords Go.Proofs.YtenfomejccfkgaaW.PrintLast Go.Proofs.YtenfomejccfkgaaW.PrintMore
attribute [local go_sem] qaN qaO qaP qaJ qaK qaX qaY qaD qaE qaL qaM
set_option linter.unusedVariables false
set_option linter.unusedSimpArgs false
theorem qer (B : Int) (hB : B ≤ 1048576) (rest : List S50) : ∀ (pre : List S50) (left : Int), (pre ++ rest).length ≤ 9223372036854775807 → (∀ y ∈ rest, wl50 y) → 0 ≤ left → left ≤ B →
  ∃ r, Ev (fun k => qa4.l0 k (pre ++ rest) left ((pre.length : Nat) : Int)) r ∧ (0 ≤ r → r ≤ left ∧ ∀ y ∈ rest, sm50 B y) := by
 induction rest with
 | nil =>
  intro pre left hl hw h0 h1
  refine ⟨left, Ev.succ ?_, fun _ => ⟨Int.le_refl _, fun y hy => by cases hy⟩⟩
  simp only [qa4.l0]
  exact Ev.neg (by simp) (Ev.is rfl)
 | cons x rest ih =>
  intro pre left hl hw h0 h1
  have hx : qbu (pre ++ x :: rest) ((pre.length : Nat) : Int) = x := by simp [qbu, List.getD_eq_getElem?_getD]
  have hlt : ((pre.length : Nat) : Int) < ((pre ++ x :: rest).length : Int) := by simp; omega
  have hwp : wrap64 (((pre.length : Nat) : Int) + 1) = (((pre ++ [x]).length : Nat) : Int) := by rw [← qbW]; exact qcc (by omega)
  have e1 : pre ++ x :: rest = (pre ++ [x]) ++ rest := by simp
  have hl2 : ((pre ++ [x]) ++ rest).length ≤ 9223372036854775807 := by rw [← e1]; exact hl
  obtain ⟨r, hr, hq⟩ := sz_Node x (hw x List.mem_cons_self) B left h0 h1 hB
  by_cases c : r < 0
  ·refine ⟨-1, Ev.succ ?_, fun h => by omega⟩
   simp only [qa4.l0, hx]
   exact Ev.pos hlt (Ev.pos (by omega) (Ev.bind hr (Ev.pos c (Ev.is rfl))))
  ·have hq' := hq (by omega)
   obtain ⟨r2, hr2, hq2⟩ := ih (pre ++ [x]) r hl2 (fun y hy => hw y (List.mem_cons_of_mem _ hy)) (by omega) (by omega)
   refine ⟨r2, Ev.succ ?_, fun h => ?_⟩
   ·simp only [qa4.l0, hx, hwp]
    rw [← e1] at hr2
    exact Ev.pos hlt (Ev.pos (by omega) (Ev.bind hr (Ev.neg c hr2)))
   ·have h3 := hq2 h
    refine ⟨by omega, fun y hy => ?_⟩
    rcases List.mem_cons.1 hy with rfl | hy
    ·exact hq'.2
    ·exact h3.2 y hy
theorem sz_NodeS (l : List S50) (hw : (l.length ≤ maxLen ∧ ∀ y ∈ l, wl50 y)) (B left : Int) (h0 : 0 ≤ left) (h1 : left ≤ B) (hB : B ≤ 1048576) : ∃ r, Ev (fun k => qa4.f k l left) r ∧ (0 ≤ r → r ≤ left ∧ ((l.length : Int) ≤ B ∧ ∀ y ∈ l, sm50 B y)) := by
 have hl := Nat.le_trans hw.1 qcv
 unfold qa4.f
 have e : wrap64 (left - (l.length : Int)) = left - (l.length : Int) := qdd (by omega) (by omega)
 simp only [e]
 by_cases c : left - (l.length : Int) < 0
 ·exact ⟨-1, Ev.pos c (Ev.is rfl), fun h => by omega⟩
 ·obtain ⟨r, hr, hq⟩ := qer B hB l [] (left - (l.length : Int)) (by simpa using hl) hw.2 (by omega) (by omega)
  exact ⟨r, Ev.neg c (by simpa using hr), fun h => ⟨by have := (hq h).1; omega, by omega, (hq h).2⟩⟩
end Go.Proofs.Ytenfomejccfkgaa.X
namespace Go.Proofs.Ytenfomejccfkgaa.X
open Go.RowKit Go.Proofs.YtenfomejccfkgaaW.PrintWords Go.Proofs.YtenfomejccfkgaaW.PrintLast Go.Proofs.YtenfomejccfkgaaW.PrintMore
attribute [local go_sem] qaN qaO qaP qaJ qaK qaX qaY qaD qaE qaL qaM
set_option linter.unusedVariables false
set_option linter.unusedSimpArgs false
theorem sz_Heap (x : S24) (hw : wl24 x) (B left : Int) (h0 : 0 ≤ left) (h1 : left ≤ B) (hB : B ≤ 1048576) : ∃ r, Ev (fun k => qbx.f k (x.f0) left) r ∧ (0 ≤ r → r ≤ left ∧ sm24 B x) := by
 unfold qbx.f
 obtain ⟨r0, hr0, hq0⟩ := sz_NodeS x.f0 hw B left (by omega) (by omega) hB
 by_cases c0 : r0 < 0
 ·exact ⟨-1, Ev.bind hr0 (Ev.pos c0 (Ev.is rfl)), fun h => by omega⟩
 have hq0' := hq0 (by omega)
 suffices hh : ∃ r, Ev _ r ∧ (0 ≤ r → r ≤ left ∧ sm24 B x) from (let ⟨r, hr, hq⟩ := hh; ⟨r, Ev.bind hr0 (Ev.neg c0 hr), hq⟩)
 have hz0 := hq0'.1
 exact ⟨r0, Ev.is rfl, fun _ => ⟨by omega, hq0'.2⟩⟩
end Go.Proofs.Ytenfomejccfkgaa.X
namespace Go.Proofs.Ytenfomejccfkgaa.X
open Go.RowKit Go.Proofs.YtenfomejccfkgaaW.PrintWords Go.Proofs.YtenfomejccfkgaaW.PrintLast Go.Proofs.YtenfomejccfkgaaW.PrintMore
attribute [local go_sem] qaN qaO qaP qaJ qaK qaX qaY qaD qaE qaL qaM
set_option linter.unusedVariables false
set_option linter.unusedSimpArgs false
theorem qeY (rest : List Int) : ∀ (pre : List Int), (pre ++ rest).length ≤ 9223372036854775807 → (True) → Ev (fun k => qa5.l0 k (pre ++ rest) (pre ++ rest) ((pre.length : Nat) : Int)) true := by
 induction rest with
 | nil =>
  intro pre hl hs
  refine Ev.succ ?_
  simp only [qa5.l0]
  exact Ev.neg (by simp) (Ev.is rfl)
 | cons x rest ih =>
  intro pre hl hs
  have hx : rd (pre ++ x :: rest) ((pre.length : Nat) : Int) = x := by simp [rd, List.getD_eq_getElem?_getD]
  have hlt : ((pre.length : Nat) : Int) < ((pre ++ x :: rest).length : Int) := by simp; omega
  have hwp : wrap64 (((pre.length : Nat) : Int) + 1) = (((pre ++ [x]).length : Nat) : Int) := by rw [← qbW]; exact qcc (by simp at hl; omega)
  have e1 : pre ++ x :: rest = (pre ++ [x]) ++ rest := by simp
  have hi := ih (pre ++ [x]) (by rw [← e1]; exact hl) trivial
  rw [← e1] at hi
  refine Ev.succ ?_
  simp only [qa5.l0, hx, hwp]
  exact Ev.pos hlt (Ev.pos (by omega) (Ev.pos hlt (Ev.pos (by first | trivial | rfl) hi)))
theorem eq_IntS (l : List Int) (h : l.length ≤ 9223372036854775807) : Ev (fun k => qa5.f k l l) true := by
 unfold qa5.f
 have hh := qeY l [] (by simpa using h) trivial
 exact Ev.pos rfl (by simpa using hh)
end Go.Proofs.Ytenfomejccfkgaa.X
namespace Go.Proofs.Ytenfomejccfkgaa.X
open Go.RowKit Go.Proofs.YtenfomejccfkgaaW.PrintWords Go.Proofs.YtenfomejccfkgaaW.PrintLast Go.Proofs.YtenfomejccfkgaaW.PrintMore
attribute [local go_sem] qaN qaO qaP qaJ qaK qaX qaY qaD qaE qaL qaM
set_option linter.unusedVariables false
set_option linter.unusedSimpArgs false
def len99 (x : S99) : Prop := True ∧ True
theorem eq_Pair (x : S99) (h : len99 x) : Ev (fun k => qbX.f (x.f0) (x.f1) (x.f0) (x.f1)) true := by
 unfold qbX.f
 exact Ev.pos rfl (Ev.pos rfl (Ev.is rfl))
end Go.Proofs.Ytenfomejccfkgaa.X
namespace Go.Proofs.Ytenfomejccfkgaa.X
open Go.RowKit Go.Proofs.YtenfomejccfkgaaW.PrintWords Go.Proofs.YtenfomejccfkgaaW.PrintLast Go.Proofs.YtenfomejccfkgaaW.PrintMore
attribute [local go_sem] qaN qaO qaP qaJ qaK qaX qaY qaD qaE qaL qaM
set_option linter.unusedVariables false
set_option linter.unusedSimpArgs false
theorem qes (rest : List S99) : ∀ (pre : List S99), (pre ++ rest).length ≤ 9223372036854775807 → (∀ y ∈ rest, len99 y) → Ev (fun k => qaT.l0 k (pre ++ rest) (pre ++ rest) ((pre.length : Nat) : Int)) true := by
 induction rest with
 | nil =>
  intro pre hl hs
  refine Ev.succ ?_
  simp only [qaT.l0]
  exact Ev.neg (by simp) (Ev.is rfl)
 | cons x rest ih =>
  intro pre hl hs
  have hx : qay (pre ++ x :: rest) ((pre.length : Nat) : Int) = x := by simp [qay, List.getD_eq_getElem?_getD]
  have hlt : ((pre.length : Nat) : Int) < ((pre ++ x :: rest).length : Int) := by simp; omega
  have hwp : wrap64 (((pre.length : Nat) : Int) + 1) = (((pre ++ [x]).length : Nat) : Int) := by rw [← qbW]; exact qcc (by simp at hl; omega)
  have e1 : pre ++ x :: rest = (pre ++ [x]) ++ rest := by simp
  have hi := ih (pre ++ [x]) (by rw [← e1]; exact hl) (fun y hy => hs y (List.mem_cons_of_mem _ hy))
  rw [← e1] at hi
  refine Ev.succ ?_
  simp only [qaT.l0, hx, hwp]
  exact Ev.pos hlt (Ev.pos (by omega) (Ev.pos hlt (Ev.bind (eq_Pair x (hs x List.mem_cons_self)) (Ev.pos rfl hi))))
theorem eq_PairS (l : List S99) (h : l.length ≤ 9223372036854775807 ∧ ∀ y ∈ l, len99 y) : Ev (fun k => qaT.f k l l) true := by
 unfold qaT.f
 have hh := qes l [] (by simpa using h.1) h.2
 exact Ev.pos rfl (by simpa using hh)
end Go.Proofs.Ytenfomejccfkgaa.X
namespace Go.Proofs.Ytenfomejccfkgaa.X
open Go.RowKit Go.Proofs.YtenfomejccfkgaaW.PrintWords Go.Proofs.YtenfomejccfkgaaW.PrintLast Go.Proofs.YtenfomejccfkgaaW.PrintMore
attribute [local go_sem] qaN qaO qaP qaJ qaK qaX qaY qaD qaE qaL qaM
set_option linter.unusedVariables false
set_option linter.unusedSimpArgs false
theorem qdU (rest : List ByteArray) : ∀ (pre : List ByteArray), (pre ++ rest).length ≤ 9223372036854775807 → (True) → Ev (fun k => qaU.l0 k (pre ++ rest) (pre ++ rest) ((pre.length : Nat) : Int)) true := by
 induction rest with
 | nil =>
  intro pre hl hs
  refine Ev.succ ?_
  simp only [qaU.l0]
  exact Ev.neg (by simp) (Ev.is rfl)
 | cons x rest ih =>
  intro pre hl hs
  have hx : rdOf ByteArray.empty (pre ++ x :: rest) ((pre.length : Nat) : Int) = x := by simp [rdOf, List.getD_eq_getElem?_getD]
  have hlt : ((pre.length : Nat) : Int) < ((pre ++ x :: rest).length : Int) := by simp; omega
  have hwp : wrap64 (((pre.length : Nat) : Int) + 1) = (((pre ++ [x]).length : Nat) : Int) := by rw [← qbW]; exact qcc (by simp at hl; omega)
  have e1 : pre ++ x :: rest = (pre ++ [x]) ++ rest := by simp
  have hi := ih (pre ++ [x]) (by rw [← e1]; exact hl) trivial
  rw [← e1] at hi
  refine Ev.succ ?_
  simp only [qaU.l0, hx, hwp]
  exact Ev.pos hlt (Ev.pos (by omega) (Ev.pos hlt (Ev.pos (by first | trivial | rfl) hi)))
theorem qfB (l : List ByteArray) (h : l.length ≤ 9223372036854775807) : Ev (fun k => qaU.f k l l) true := by
 unfold qaU.f
 have hh := qdU l [] (by simpa using h) trivial
 exact Ev.pos rfl (by simpa using hh)
end Go.Proofs.Ytenfomejccfkgaa.X
namespace Go.Proofs.Ytenfomejccfkgaa.X
open Go.RowKit Go.Proofs.YtenfomejccfkgaaW.PrintWords Go.Proofs.YtenfomejccfkgaaW.PrintLast Go.Proofs.YtenfomejccfkgaaW.PrintMore
attribute [local go_sem] qaN qaO qaP qaJ qaK qaX qaY qaD qaE qaL qaM
set_option linter.unusedVariables false
set_option linter.unusedSimpArgs false
def len56 (x : S56) : Prop := True ∧ (x.f1.length ≤ 9223372036854775807 ∧ ∀ y ∈ x.f1, len99 y) ∧ (x.f2.length ≤ 9223372036854775807) ∧ (x.f3.length ≤ 9223372036854775807)
theorem eq_Node (x : S56) (h : len56 x) : Ev (fun k => qbA.f k (x.f0) (x.f1) (x.f2) (x.f3) (x.f0) (x.f1) (x.f2) (x.f3)) true := by
 unfold qbA.f
 exact Ev.neg (by simp) (Ev.bind (eq_PairS _ h.2.1) (Ev.pos rfl (Ev.bind (qfB _ h.2.2.1) (Ev.pos rfl (Ev.bind (eq_IntS _ h.2.2.2) (Ev.pos rfl (Ev.is rfl)))))))
end Go.Proofs.Ytenfomejccfkgaa.X
namespace Go.Proofs.Ytenfomejccfkgaa.X
open Go.RowKit Go.Proofs.YtenfomejccfkgaaW.PrintWords Go.Proofs.YtenfomejccfkgaaW.PrintLast Go.Proofs.YtenfomejccfkgaaW.PrintMore
attribute [local go_sem] qaN qaO qaP qaJ qaK qaX qaY qaD qaE qaL qaM
set_option linter.unusedVariables false
set_option linter.unusedSimpArgs false
theorem qet (rest : List S56) : ∀ (pre : List S56), (pre ++ rest).length ≤ 9223372036854775807 → (∀ y ∈ rest, len56 y) → Ev (fun k => qaS.l0 k (pre ++ rest) (pre ++ rest) ((pre.length : Nat) : Int)) true := by
 induction rest with
 | nil =>
  intro pre hl hs
  refine Ev.succ ?_
  simp only [qaS.l0]
  exact Ev.neg (by simp) (Ev.is rfl)
 | cons x rest ih =>
  intro pre hl hs
  have hx : qba (pre ++ x :: rest) ((pre.length : Nat) : Int) = x := by simp [qba, List.getD_eq_getElem?_getD]
  have hlt : ((pre.length : Nat) : Int) < ((pre ++ x :: rest).length : Int) := by simp; omega
  have hwp : wrap64 (((pre.length : Nat) : Int) + 1) = (((pre ++ [x]).length : Nat) : Int) := by rw [← qbW]; exact qcc (by simp at hl; omega)
  have e1 : pre ++ x :: rest = (pre ++ [x]) ++ rest := by simp
  have hi := ih (pre ++ [x]) (by rw [← e1]; exact hl) (fun y hy => hs y (List.mem_cons_of_mem _ hy))
  rw [← e1] at hi
  refine Ev.succ ?_
  simp only [qaS.l0, hx, hwp]
  exact Ev.pos hlt (Ev.pos (by omega) (Ev.pos hlt (Ev.bind (eq_Node x (hs x List.mem_cons_self)) (Ev.pos rfl hi))))
theorem eq_NodeS (l : List S56) (h : l.length ≤ 9223372036854775807 ∧ ∀ y ∈ l, len56 y) : Ev (fun k => qaS.f k l l) true := by
 unfold qaS.f
 have hh := qet l [] (by simpa using h.1) h.2
 exact Ev.pos rfl (by simpa using hh)
end Go.Proofs.Ytenfomejccfkgaa.X
namespace Go.Proofs.Ytenfomejccfkgaa.X
open Go.RowKit Go.Proofs.YtenfomejccfkgaaW.PrintWords Go.Proofs.YtenfomejccfkgaaW.PrintLast Go.Proofs.YtenfomejccfkgaaW.PrintMore
attribute [local go_sem] qaN qaO qaP qaJ qaK qaX qaY qaD qaE qaL qaM
set_option linter.unusedVariables false
set_option linter.unusedSimpArgs false
def len29 (x : S29) : Prop := (x.f0.length ≤ 9223372036854775807 ∧ ∀ y ∈ x.f0, len56 y)
theorem eq_Heap (x : S29) (h : len29 x) : Ev (fun k => qbn.f k (x.f0) (x.f0)) true := by
 unfold qbn.f
 exact Ev.bind (eq_NodeS _ h) (Ev.pos rfl (Ev.is rfl))
end Go.Proofs.Ytenfomejccfkgaa.X
namespace Go.Proofs.Ytenfomejccfkgaa.X
open Go.RowKit Go.Proofs.YtenfomejccfkgaaW.PrintWords Go.Proofs.YtenfomejccfkgaaW.PrintLast Go.Proofs.YtenfomejccfkgaaW.PrintMore
attribute [local go_sem] qaN qaO qaP qaJ qaK qaX qaY qaD qaE qaL qaM
set_option linter.unusedVariables false
set_option linter.unusedSimpArgs false
def cmpS (a b : ByteArray) : Int := if Op.bytesLess a.toList b.toList = true then -1 else if a.toList = b.toList then 0 else 1
theorem qdV (a b : List UInt8) : Lib.compareBytes a b = if Op.bytesLess a b = true then -1 else if a = b then 0 else 1 := by
 induction a generalizing b with
 | nil => cases b <;> simp [Lib.compareBytes, Op.bytesLess]
 | cons x a ih =>
  cases b with
  | nil => simp [Lib.compareBytes, Op.bytesLess]
  | cons y b =>
   simp only [Lib.compareBytes, Op.bytesLess]
   by_cases h1 : x < y
   ·simp [h1]
   ·by_cases h2 : y < x
    ·have h3 : ¬ x = y := by rintro rfl; exact h1 h2
     simp [h1, h2, h3]
    ·have h3 : x = y := by simp [UInt8.lt_iff_toNat_lt, ← UInt8.toNat_inj] at *; omega
     subst h3
     simp [h1, ih b]
theorem cmpS_is (a b : ByteArray) : Lib.compareBytes a.data.toList b.data.toList = cmpS a b := by
 unfold cmpS
 rw [qdV, ByteArray.toList_eq, ByteArray.toList_eq]
set_option maxHeartbeats 1000000 in
set_option maxRecDepth 100000 in
theorem bytealg_CompareString (a b : ByteArray) (w : World) :
  Calls Try.prog 151 #[.string a, .string b] w fun e w' => e = .returned (.int .i64 (cmpS a b)) ∧ w' = w := by
 rw [← cmpS_is]
 go_enter Try.func151, Try.ntmps151
 go_wp2
 rw [run_callFunc_extern Try.func183 (by kernel_rfl) (by kernel_rfl) (by kernel_rfl) (e := Extern.BytealgCompare.compare) (by kernel_rfl), Lib.run_compareString]
 simp only [Result.andThen]
 rw [Oper.upon_value]
 go_wp2
 go_ret
 exact ⟨rfl, rfl⟩
set_option maxHeartbeats 1000000 in
theorem qdt (a b : ByteArray) (w : World) :
  Calls Try.prog 108 #[.string a, .string b] w fun e w' => e = .returned (.int .i64 (cmpS a b)) ∧ w' = w := by
 go_enter Try.func108, Try.ntmps108
 go_wp2_with fail
 refine (bytealg_CompareString _ _ _).mono ?_
 rintro e w' ⟨rfl, rfl⟩
 go_wp2_with fail
 go_ret
 exact ⟨rfl, rfl⟩
end Go.Proofs.Ytenfomejccfkgaa.X
