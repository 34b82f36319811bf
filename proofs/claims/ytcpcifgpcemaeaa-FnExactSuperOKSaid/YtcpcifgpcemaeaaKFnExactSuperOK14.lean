import Derived.Test.YtcpcifgpcemaeaaKFnExactSuperOK0
import Derived.Test.YtcpcifgpcemaeaaKFnExactSuperOK1
import Derived.Test.YtcpcifgpcemaeaaKFnExactSuperOK2
import Derived.Test.YtcpcifgpcemaeaaKFnExactSuperOK3
import Derived.Test.YtcpcifgpcemaeaaKFnExactSuperOK7
import Derived.Test.YtcpcifgpcemaeaaKFnExactSuperOK8
import Derived.Test.YtcpcifgpcemaeaaKFnExactSuperOK9
import Derived.Test.YtcpcifgpcemaeaaKFnExactSuperOK10
import Derived.Test.YtcpcifgpcemaeaaKFnExactSuperOK13
namespace Go.Proofs.Ytcpcifgpcemaeaa.X
open Go.RowKit Go.Proofs.YtcpcifgpcemaeaaW.PrintWords Go.Proofs.YtcpcifgpcemaeaaW.PrintLast Go.Proofs.YtcpcifgpcemaeaaW.PrintMore
attribute [local go_sem] xbin_geq xbin_leq xbin_gtr max2_int min2_int max_two min_two max_three min_three max_four min_four   -- for this text's walks alone
set_option linter.unusedVariables false
set_option linter.unusedSimpArgs false

theorem opens3 : Opens Try.prog 3 (Kd.int .i64) (fun x => (Lit.int .i64 x).wf = true) := Opens.int_ Try.underlying3 (by kernel_rfl)
theorem opens9 : Opens Try.prog 9 Kd.string (fun x => x.size ≤ maxLen) := Opens.string_ Try.underlying9 (by kernel_rfl)
def wf154 (x : S154) : Prop := x.f0.size ≤ maxLen ∧ (Lit.int .i64 x.f1).wf = true ∧ (Lit.int .i64 x.f2).wf = true
set_option maxRecDepth 100000 in
theorem opens154 : Opens Try.prog 154 k154 wf154 := by
  refine ⟨by kernel_rfl, fun {H enc w base spare held fuel cs x} h => ?_⟩
  obtain ⟨xs, n, _, _, hl, hlen, hf⟩ := DataW.trod_struct Try.underlying154 h
  have hl' : cs.length = 3 := hl.trans (by kernel_rfl)
  match cs, hl', xs, hlen with
  | [c0, c1, c2], _, [y0, y1, y2], _ =>
    obtain ⟨v0, g0, w0⟩ := opens9.2 (by simpa [show Try.prog.cellsOf 9 = 1 from by kernel_rfl] using hf 0 _ rfl)
    obtain ⟨v1, g1, w1⟩ := opens3.2 (by simpa [show Try.prog.cellsOf 3 = 1 from by kernel_rfl] using hf 1 _ rfl)
    obtain ⟨v2, g2, w2⟩ := opens3.2 (by simpa [show Try.prog.cellsOf 3 = 1 from by kernel_rfl] using hf 2 _ rfl)
    exact ⟨(⟨v0, v1, v2⟩ : S154), ⟨[c0], [c1, c2], rfl, g0, ⟨[c1], [c2], rfl, g1, g2⟩⟩, ⟨w0, w1, w2⟩⟩
def wfL154 (xs : List (S154)) : Prop := xs.length ≤ maxLen ∧ ∀ x ∈ xs, wf154 x
theorem opens76 : Opens Try.prog 76 (Kd.slice 154 k154) wfL154 := Opens.slice_ Try.underlying76 (by kernel_rfl) opens154
def wf78 (x : S78) : Prop := (Lit.int .i64 x.f0).wf = true ∧ (Lit.int .i64 x.f1).wf = true ∧ wfL154 x.f2
set_option maxRecDepth 100000 in
theorem opens78 : Opens Try.prog 78 k78 wf78 := by
  refine ⟨by kernel_rfl, fun {H enc w base spare held fuel cs x} h => ?_⟩
  obtain ⟨xs, n, _, _, hl, hlen, hf⟩ := DataW.trod_struct Try.underlying78 h
  have hl' : cs.length = 3 := hl.trans (by kernel_rfl)
  match cs, hl', xs, hlen with
  | [c0, c1, c2], _, [y0, y1, y2], _ =>
    obtain ⟨v0, g0, w0⟩ := opens3.2 (by simpa [show Try.prog.cellsOf 3 = 1 from by kernel_rfl] using hf 0 _ rfl)
    obtain ⟨v1, g1, w1⟩ := opens3.2 (by simpa [show Try.prog.cellsOf 3 = 1 from by kernel_rfl] using hf 1 _ rfl)
    obtain ⟨v2, g2, w2⟩ := opens76.2 (by simpa [show Try.prog.cellsOf 76 = 1 from by kernel_rfl] using hf 2 _ rfl)
    exact ⟨(⟨v0, v1, v2⟩ : S78), ⟨[c0], [c1, c2], rfl, g0, ⟨[c1], [c2], rfl, g1, g2⟩⟩, ⟨w0, w1, w2⟩⟩
/-- THE ONE PURE STATEMENT of laws_FnExactSuperOK. -/
def laws_FnExactSuperOK.Pure : Prop := ∀ (a0_0 : Int) (a0_1 : Int) (l0_2 : List (S154)), ((Lit.int .i64 a0_0).wf = true) → ((Lit.int .i64 a0_1).wf = true) → (wfL154 l0_2) → ∃ k, laws_FnExactSuperOK.f k a0_0 a0_1 l0_2 = some true
end Go.Proofs.Ytcpcifgpcemaeaa.X

namespace Go.Proofs.Ytcpcifgpcemaeaa.X
open Go.RowKit Go.Proofs.YtcpcifgpcemaeaaW.PrintWords Go.Proofs.YtcpcifgpcemaeaaW.PrintLast Go.Proofs.YtcpcifgpcemaeaaW.PrintMore
attribute [local go_sem] xbin_geq xbin_leq xbin_gtr max2_int min2_int max_two min_two max_three min_three max_four min_four   -- for this text's walks alone
set_option linter.unusedVariables false
set_option linter.unusedSimpArgs false

theorem Ev.succ {α : Type} {g : Nat → Option α} {r : α} (h : Ev (fun k => g (k + 1)) r) : Ev g r := Ev.step (fun _ => rfl) h
theorem Ev.pos {α : Type} {c : Prop} [Decidable c] {g f : Nat → Option α} {r : α} (hc : c) (h : Ev g r) : Ev (fun k => if c then g k else f k) r := Ev.congr (fun _ => if_pos hc) h
theorem Ev.neg {α : Type} {c : Prop} [Decidable c] {g f : Nat → Option α} {r : α} (hc : ¬ c) (h : Ev f r) : Ev (fun k => if c then g k else f k) r := Ev.congr (fun _ => if_neg hc) h
theorem Ev.is {α : Type} {o : Option α} {r : α} (h : o = some r) : Ev (fun _ => o) r := ⟨0, fun _ _ => h⟩
theorem Ev.isk {α : Type} {g : Nat → Option α} {r : α} (h : ∀ k, g k = some r) : Ev g r := ⟨0, fun k _ => h k⟩
theorem Ev.bindk {α β : Type} {o : Option α} {f : Nat → α → Option β} {a : α} {r : β} (h : o = some a) (k : Ev (fun n => f n a) r) : Ev (fun n => o.bind (f n)) r := Ev.bind (g := fun _ => o) (Ev.is h) k
theorem Ev.same {α : Type} {g : Nat → Option α} {r r' : α} (h : Ev g r) (e : r = r') : Ev g r' := e ▸ h
/-- An index that goes up. -/
theorem wrap_at {n : Nat} (h : n < 9223372036854775807) : wrap64 ((n : Int) + 1) = ((n + 1 : Nat) : Int) := by unfold wrap64; omega
theorem wrap_id {x : Int} (h0 : -9223372036854775808 ≤ x) (h1 : x ≤ 9223372036854775807) : wrap64 x = x := by unfold wrap64; omega
theorem getD_mid {α : Type} (pre : List α) (x : α) (rest : List α) (d : α) : (pre ++ x :: rest).getD pre.length d = x := by simp [List.getD_eq_getElem?_getD]
theorem set_mid {α : Type} (pre : List α) (x y : α) (rest : List α) : (pre ++ x :: rest).set pre.length y = pre ++ y :: rest := by simp
theorem snoc_mid {α : Type} (pre : List α) (x : α) (rest : List α) : pre ++ x :: rest = (pre ++ [x]) ++ rest := by simp
theorem len_snoc {α : Type} (pre : List α) (x : α) : pre.length + 1 = (pre ++ [x]).length := by simp
theorem maxLen_le : maxLen ≤ 9223372036854775807 := by unfold maxLen; decide
theorem wf_i64 {x : Int} (h : (Lit.int .i64 x).wf = true) : -9223372036854775808 ≤ x ∧ x ≤ 9223372036854775807 := by
  simp only [Lit.wf, Bool.and_eq_true, decide_eq_true_eq] at h
  have e1 : IntKind.i64.min = -9223372036854775808 := rfl
  have e2 : IntKind.i64.max = 9223372036854775807 := rfl
  rw [e1, e2] at h
  exact h

end Go.Proofs.Ytcpcifgpcemaeaa.X

namespace Go.Proofs.Ytcpcifgpcemaeaa.X
open Go.RowKit Go.Proofs.YtcpcifgpcemaeaaW.PrintWords Go.Proofs.YtcpcifgpcemaeaaW.PrintLast Go.Proofs.YtcpcifgpcemaeaaW.PrintMore
attribute [local go_sem] xbin_geq xbin_leq xbin_gtr max2_int min2_int max_two min_two max_three min_three max_four min_four   -- for this text's walks alone
set_option linter.unusedVariables false
set_option linter.unusedSimpArgs false

structure S26 where
  f0 : List ByteArray
  f1 : List (S95)
  f2 : Bool
  f3 : List Int
structure S83 where
  f0 : Int
  f1 : Int
  f2 : List (S124)
structure S60 where
  f0 : List (S72)
end Go.Proofs.Ytcpcifgpcemaeaa.X

namespace Go.Proofs.Ytcpcifgpcemaeaa.X
open Go.RowKit Go.Proofs.YtcpcifgpcemaeaaW.PrintWords Go.Proofs.YtcpcifgpcemaeaaW.PrintLast Go.Proofs.YtcpcifgpcemaeaaW.PrintMore
attribute [local go_sem] xbin_geq xbin_leq xbin_gtr max2_int min2_int max_two min_two max_three min_three max_four min_four   -- for this text's walks alone
set_option linter.unusedVariables false
set_option linter.unusedSimpArgs false

def cv154 (x : S154) : S124 := ⟨x.f0, x.f1, x.f2⟩
def sm154 (B : Int) (x : S154) : Prop := (x.f0.size : Int) ≤ B ∧ True ∧ True
def wl154 (x : S154) : Prop := x.f0.size ≤ maxLen ∧ True ∧ True
theorem to_Snap (x : S154) : laws_toSnap.f (x.f0) (x.f1) (x.f2) = some (x.f0, x.f1, x.f2) := rfl

end Go.Proofs.Ytcpcifgpcemaeaa.X

namespace Go.Proofs.Ytcpcifgpcemaeaa.X
open Go.RowKit Go.Proofs.YtcpcifgpcemaeaaW.PrintWords Go.Proofs.YtcpcifgpcemaeaaW.PrintLast Go.Proofs.YtcpcifgpcemaeaaW.PrintMore
attribute [local go_sem] xbin_geq xbin_leq xbin_gtr max2_int min2_int max_two min_two max_three min_three max_four min_four   -- for this text's walks alone
set_option linter.unusedVariables false
set_option linter.unusedSimpArgs false

theorem to_SnapS_loop (rest : List S154) : ∀ (pre : List S154), ((pre ++ rest).length : Int) ≤ 1048576 → (∀ y ∈ rest, sm154 1048576 y) →
    Ev (fun k => laws_toSnapS.l0 k (pre ++ rest) (pre.map cv154 ++ List.replicate rest.length z124) ((pre.length : Nat) : Int)) ((pre ++ rest).map cv154) := by
  induction rest with
  | nil =>
    intro pre hl hs
    refine Ev.succ ?_
    simp only [laws_toSnapS.l0]
    exact Ev.neg (by simp) (Ev.is (by simp))
  | cons x rest ih =>
    intro pre hl hs
    have hx : rd_T154 (pre ++ x :: rest) ((pre.length : Nat) : Int) = x := by simp [rd_T154, List.getD_eq_getElem?_getD]
    have hlt : ((pre.length : Nat) : Int) < ((pre ++ x :: rest).length : Int) := by simp; omega
    have hw : wrap64 (((pre.length : Nat) : Int) + 1) = (((pre ++ [x]).length : Nat) : Int) := by rw [← len_snoc]; exact wrap_at (by omega)
    have hset : ∀ v : S124, ((pre.map cv154 ++ List.replicate (x :: rest).length z124).set ((pre.length : Nat) : Int).toNat v) = (pre.map cv154 ++ [v]) ++ List.replicate rest.length z124 := fun v => by rw [Int.toNat_natCast, List.length_cons, List.replicate_succ]; simp
    have hi := ih (pre ++ [x]) (by simpa using hl) (fun y hy => hs y (List.mem_cons_of_mem _ hy))
    refine Ev.succ ?_
    simp only [laws_toSnapS.l0, hx]
    refine Ev.pos hlt (Ev.pos (by omega) ?_)
    refine Ev.bindk (to_Snap x) ?_
    refine Ev.pos (by simp; omega) ?_
    simp only [hset, hw]
    have e1 : pre ++ x :: rest = (pre ++ [x]) ++ rest := by simp
    have e2 : (pre ++ [x]).map cv154 = pre.map cv154 ++ [cv154 x] := by simp
    rw [e1]
    rw [e2] at hi
    exact hi
theorem to_SnapS (l : List S154) (hs : ((l.length : Int) ≤ 1048576 ∧ ∀ y ∈ l, sm154 1048576 y)) : Ev (fun k => laws_toSnapS.f k l) (l.map cv154) := by
  have hl : (l.length : Int) ≤ 1048576 := hs.1
  unfold laws_toSnapS.f
  refine Ev.pos (by omega) (Ev.pos (by omega) ?_)
  have h := to_SnapS_loop l [] (by simpa using hl) hs.2
  simpa using h

end Go.Proofs.Ytcpcifgpcemaeaa.X

namespace Go.Proofs.Ytcpcifgpcemaeaa.X
open Go.RowKit Go.Proofs.YtcpcifgpcemaeaaW.PrintWords Go.Proofs.YtcpcifgpcemaeaaW.PrintLast Go.Proofs.YtcpcifgpcemaeaaW.PrintMore
attribute [local go_sem] xbin_geq xbin_leq xbin_gtr max2_int min2_int max_two min_two max_three min_three max_four min_four   -- for this text's walks alone
set_option linter.unusedVariables false
set_option linter.unusedSimpArgs false

def cv78 (x : S78) : S83 := ⟨x.f0, x.f1, (x.f2).map cv154⟩
def sm78 (B : Int) (x : S78) : Prop := True ∧ True ∧ ((x.f2.length : Int) ≤ B ∧ ∀ y ∈ x.f2, sm154 B y)
def wl78 (x : S78) : Prop := True ∧ True ∧ (x.f2.length ≤ maxLen ∧ ∀ y ∈ x.f2, wl154 y)
theorem to_Super (x : S78) (hs : sm78 1048576 x) : Ev (fun k => laws_toSuper.f k (x.f0) (x.f1) (x.f2)) (x.f0, x.f1, (x.f2).map cv154) := by
  unfold laws_toSuper.f
  exact Ev.bind (to_SnapS _ hs.2.2) (Ev.is rfl)

end Go.Proofs.Ytcpcifgpcemaeaa.X

namespace Go.Proofs.Ytcpcifgpcemaeaa.X
open Go.RowKit Go.Proofs.YtcpcifgpcemaeaaW.PrintWords Go.Proofs.YtcpcifgpcemaeaaW.PrintLast Go.Proofs.YtcpcifgpcemaeaaW.PrintMore
attribute [local go_sem] xbin_geq xbin_leq xbin_gtr max2_int min2_int max_two min_two max_three min_three max_four min_four   -- for this text's walks alone
set_option linter.unusedVariables false
set_option linter.unusedSimpArgs false

theorem sz_Snap (x : S154) (hw : wl154 x) (B left : Int) (h0 : 0 ≤ left) (h1 : left ≤ B) (hB : B ≤ 1048576) : ∃ r, Ev (fun k => laws_szSnap.f (x.f0) (x.f1) (x.f2) left) r ∧ (0 ≤ r → r ≤ left ∧ sm154 B x) := by
  unfold laws_szSnap.f
  have hs0 : x.f0.size ≤ 9223372036854775807 := Nat.le_trans hw.1 maxLen_le
  have e0 : wrap64 (left - (x.f0.size : Int)) = left - (x.f0.size : Int) := wrap_id (by omega) (by omega)
  simp only [e0]
  by_cases c0 : left - (x.f0.size : Int) < 0
  · exact ⟨-1, Ev.pos c0 (Ev.is rfl), fun h => by omega⟩
  suffices hh : ∃ r, Ev _ r ∧ (0 ≤ r → r ≤ left ∧ sm154 B x) from (let ⟨r, hr, hq⟩ := hh; ⟨r, Ev.neg c0 hr, hq⟩)
  exact ⟨(left - (x.f0.size : Int)), Ev.is rfl, fun _ => ⟨by omega, ⟨(by omega), trivial, trivial⟩⟩⟩

end Go.Proofs.Ytcpcifgpcemaeaa.X

namespace Go.Proofs.Ytcpcifgpcemaeaa.X
open Go.RowKit Go.Proofs.YtcpcifgpcemaeaaW.PrintWords Go.Proofs.YtcpcifgpcemaeaaW.PrintLast Go.Proofs.YtcpcifgpcemaeaaW.PrintMore
attribute [local go_sem] xbin_geq xbin_leq xbin_gtr max2_int min2_int max_two min_two max_three min_three max_four min_four   -- for this text's walks alone
set_option linter.unusedVariables false
set_option linter.unusedSimpArgs false

theorem sz_SnapS_loop (B : Int) (hB : B ≤ 1048576) (rest : List S154) : ∀ (pre : List S154) (left : Int), (pre ++ rest).length ≤ 9223372036854775807 → (∀ y ∈ rest, wl154 y) → 0 ≤ left → left ≤ B →
    ∃ r, Ev (fun k => laws_szSnapS.l0 k (pre ++ rest) left ((pre.length : Nat) : Int)) r ∧ (0 ≤ r → r ≤ left ∧ ∀ y ∈ rest, sm154 B y) := by
  induction rest with
  | nil =>
    intro pre left hl hw h0 h1
    refine ⟨left, Ev.succ ?_, fun _ => ⟨Int.le_refl _, fun y hy => by cases hy⟩⟩
    simp only [laws_szSnapS.l0]
    exact Ev.neg (by simp) (Ev.is rfl)
  | cons x rest ih =>
    intro pre left hl hw h0 h1
    have hx : rd_T154 (pre ++ x :: rest) ((pre.length : Nat) : Int) = x := by simp [rd_T154, List.getD_eq_getElem?_getD]
    have hlt : ((pre.length : Nat) : Int) < ((pre ++ x :: rest).length : Int) := by simp; omega
    have hwp : wrap64 (((pre.length : Nat) : Int) + 1) = (((pre ++ [x]).length : Nat) : Int) := by rw [← len_snoc]; exact wrap_at (by omega)
    have e1 : pre ++ x :: rest = (pre ++ [x]) ++ rest := by simp
    have hl2 : ((pre ++ [x]) ++ rest).length ≤ 9223372036854775807 := by rw [← e1]; exact hl
    obtain ⟨r, hr, hq⟩ := sz_Snap x (hw x List.mem_cons_self) B left h0 h1 hB
    by_cases c : r < 0
    · refine ⟨-1, Ev.succ ?_, fun h => by omega⟩
      simp only [laws_szSnapS.l0, hx]
      exact Ev.pos hlt (Ev.pos (by omega) (Ev.bind hr (Ev.pos c (Ev.is rfl))))
    · have hq' := hq (by omega)
      obtain ⟨r2, hr2, hq2⟩ := ih (pre ++ [x]) r hl2 (fun y hy => hw y (List.mem_cons_of_mem _ hy)) (by omega) (by omega)
      refine ⟨r2, Ev.succ ?_, fun h => ?_⟩
      · simp only [laws_szSnapS.l0, hx, hwp]
        rw [← e1] at hr2
        exact Ev.pos hlt (Ev.pos (by omega) (Ev.bind hr (Ev.neg c hr2)))
      · have h3 := hq2 h
        refine ⟨by omega, fun y hy => ?_⟩
        rcases List.mem_cons.1 hy with rfl | hy
        · exact hq'.2
        · exact h3.2 y hy
theorem sz_SnapS (l : List S154) (hw : (l.length ≤ maxLen ∧ ∀ y ∈ l, wl154 y)) (B left : Int) (h0 : 0 ≤ left) (h1 : left ≤ B) (hB : B ≤ 1048576) : ∃ r, Ev (fun k => laws_szSnapS.f k l left) r ∧ (0 ≤ r → r ≤ left ∧ ((l.length : Int) ≤ B ∧ ∀ y ∈ l, sm154 B y)) := by
  have hl := Nat.le_trans hw.1 maxLen_le
  unfold laws_szSnapS.f
  have e : wrap64 (left - (l.length : Int)) = left - (l.length : Int) := wrap_id (by omega) (by omega)
  simp only [e]
  by_cases c : left - (l.length : Int) < 0
  · exact ⟨-1, Ev.pos c (Ev.is rfl), fun h => by omega⟩
  · obtain ⟨r, hr, hq⟩ := sz_SnapS_loop B hB l [] (left - (l.length : Int)) (by simpa using hl) hw.2 (by omega) (by omega)
    exact ⟨r, Ev.neg c (by simpa using hr), fun h => ⟨by have := (hq h).1; omega, by omega, (hq h).2⟩⟩

end Go.Proofs.Ytcpcifgpcemaeaa.X

namespace Go.Proofs.Ytcpcifgpcemaeaa.X
open Go.RowKit Go.Proofs.YtcpcifgpcemaeaaW.PrintWords Go.Proofs.YtcpcifgpcemaeaaW.PrintLast Go.Proofs.YtcpcifgpcemaeaaW.PrintMore
attribute [local go_sem] xbin_geq xbin_leq xbin_gtr max2_int min2_int max_two min_two max_three min_three max_four min_four   -- for this text's walks alone
set_option linter.unusedVariables false
set_option linter.unusedSimpArgs false

theorem sz_Super (x : S78) (hw : wl78 x) (B left : Int) (h0 : 0 ≤ left) (h1 : left ≤ B) (hB : B ≤ 1048576) : ∃ r, Ev (fun k => laws_szSuper.f k (x.f0) (x.f1) (x.f2) left) r ∧ (0 ≤ r → r ≤ left ∧ sm78 B x) := by
  unfold laws_szSuper.f
  obtain ⟨r2, hr2, hq2⟩ := sz_SnapS x.f2 hw.2.2 B left (by omega) (by omega) hB
  by_cases c2 : r2 < 0
  · exact ⟨-1, Ev.bind hr2 (Ev.pos c2 (Ev.is rfl)), fun h => by omega⟩
  have hq2' := hq2 (by omega)
  suffices hh : ∃ r, Ev _ r ∧ (0 ≤ r → r ≤ left ∧ sm78 B x) from (let ⟨r, hr, hq⟩ := hh; ⟨r, Ev.bind hr2 (Ev.neg c2 hr), hq⟩)
  have hz2 := hq2'.1
  exact ⟨r2, Ev.is rfl, fun _ => ⟨by omega, ⟨trivial, trivial, hq2'.2⟩⟩⟩

end Go.Proofs.Ytcpcifgpcemaeaa.X

namespace Go.Proofs.Ytcpcifgpcemaeaa.X
open Go.RowKit Go.Proofs.YtcpcifgpcemaeaaW.PrintWords Go.Proofs.YtcpcifgpcemaeaaW.PrintLast Go.Proofs.YtcpcifgpcemaeaaW.PrintMore
attribute [local go_sem] xbin_geq xbin_leq xbin_gtr max2_int min2_int max_two min_two max_three min_three max_four min_four   -- for this text's walks alone
set_option linter.unusedVariables false
set_option linter.unusedSimpArgs false

def len124 (x : S124) : Prop := True ∧ True ∧ True
theorem eq_Snap (x : S124) (h : len124 x) : Ev (fun k => laws_eqSnap.f (x.f0) (x.f1) (x.f2) (x.f0) (x.f1) (x.f2)) true := by
  unfold laws_eqSnap.f
  exact Ev.pos rfl (Ev.pos rfl (Ev.pos rfl (Ev.is rfl)))

end Go.Proofs.Ytcpcifgpcemaeaa.X

namespace Go.Proofs.Ytcpcifgpcemaeaa.X
open Go.RowKit Go.Proofs.YtcpcifgpcemaeaaW.PrintWords Go.Proofs.YtcpcifgpcemaeaaW.PrintLast Go.Proofs.YtcpcifgpcemaeaaW.PrintMore
attribute [local go_sem] xbin_geq xbin_leq xbin_gtr max2_int min2_int max_two min_two max_three min_three max_four min_four   -- for this text's walks alone
set_option linter.unusedVariables false
set_option linter.unusedSimpArgs false

theorem eq_SnapS_loop (rest : List S124) : ∀ (pre : List S124), (pre ++ rest).length ≤ 9223372036854775807 → (∀ y ∈ rest, len124 y) → Ev (fun k => laws_eqSnapS.l0 k (pre ++ rest) (pre ++ rest) ((pre.length : Nat) : Int)) true := by
  induction rest with
  | nil =>
    intro pre hl hs
    refine Ev.succ ?_
    simp only [laws_eqSnapS.l0]
    exact Ev.neg (by simp) (Ev.is rfl)
  | cons x rest ih =>
    intro pre hl hs
    have hx : rd_T124 (pre ++ x :: rest) ((pre.length : Nat) : Int) = x := by simp [rd_T124, List.getD_eq_getElem?_getD]
    have hlt : ((pre.length : Nat) : Int) < ((pre ++ x :: rest).length : Int) := by simp; omega
    have hwp : wrap64 (((pre.length : Nat) : Int) + 1) = (((pre ++ [x]).length : Nat) : Int) := by rw [← len_snoc]; exact wrap_at (by simp at hl; omega)
    have e1 : pre ++ x :: rest = (pre ++ [x]) ++ rest := by simp
    have hi := ih (pre ++ [x]) (by rw [← e1]; exact hl) (fun y hy => hs y (List.mem_cons_of_mem _ hy))
    rw [← e1] at hi
    refine Ev.succ ?_
    simp only [laws_eqSnapS.l0, hx, hwp]
    exact Ev.pos hlt (Ev.pos (by omega) (Ev.pos hlt (Ev.bind (eq_Snap x (hs x List.mem_cons_self)) (Ev.pos rfl hi))))
theorem eq_SnapS (l : List S124) (h : l.length ≤ 9223372036854775807 ∧ ∀ y ∈ l, len124 y) : Ev (fun k => laws_eqSnapS.f k l l) true := by
  unfold laws_eqSnapS.f
  have hh := eq_SnapS_loop l [] (by simpa using h.1) h.2
  exact Ev.pos rfl (by simpa using hh)

end Go.Proofs.Ytcpcifgpcemaeaa.X

namespace Go.Proofs.Ytcpcifgpcemaeaa.X
open Go.RowKit Go.Proofs.YtcpcifgpcemaeaaW.PrintWords Go.Proofs.YtcpcifgpcemaeaaW.PrintLast Go.Proofs.YtcpcifgpcemaeaaW.PrintMore
attribute [local go_sem] xbin_geq xbin_leq xbin_gtr max2_int min2_int max_two min_two max_three min_three max_four min_four   -- for this text's walks alone
set_option linter.unusedVariables false
set_option linter.unusedSimpArgs false

def len83 (x : S83) : Prop := True ∧ True ∧ (x.f2.length ≤ 9223372036854775807 ∧ ∀ y ∈ x.f2, len124 y)
theorem eq_Super (x : S83) (h : len83 x) : Ev (fun k => laws_eqSuper.f k (x.f0) (x.f1) (x.f2) (x.f0) (x.f1) (x.f2)) true := by
  unfold laws_eqSuper.f
  exact Ev.pos rfl (Ev.pos rfl (Ev.bind (eq_SnapS _ h.2.2) (Ev.pos rfl (Ev.is rfl))))

end Go.Proofs.Ytcpcifgpcemaeaa.X

namespace Go.Proofs.Ytcpcifgpcemaeaa.X
open Go.RowKit Go.Proofs.YtcpcifgpcemaeaaW.PrintWords Go.Proofs.YtcpcifgpcemaeaaW.PrintLast Go.Proofs.YtcpcifgpcemaeaaW.PrintMore
attribute [local go_sem] xbin_geq xbin_leq xbin_gtr max2_int min2_int max_two min_two max_three min_three max_four min_four   -- for this text's walks alone
set_option linter.unusedVariables false
set_option linter.unusedSimpArgs false

/-- From i on, d of them: all. -/
def allFrom (f : Nat → Bool) : Nat → Nat → Bool
  | _, 0 => true
  | i, d + 1 => f i && allFrom f (i + 1) d
def allB (f : Nat → Bool) (n : Nat) : Bool := allFrom f 0 n
theorem allFrom_iff (f : Nat → Bool) (d : Nat) : ∀ i, allFrom f i d = true ↔ ∀ j, i ≤ j → j < i + d → f j = true := by
  induction d with
  | zero => intro i; simp only [allFrom, true_iff]; intro j h1 h2; omega
  | succ d ih =>
    intro i
    simp only [allFrom, Bool.and_eq_true, ih]
    refine ⟨fun h j h1 h2 => ?_, fun h => ⟨h i (by omega) (by omega), fun j h1 h2 => h j (by omega) (by omega)⟩⟩
    rcases Nat.lt_or_ge i j with h3 | h3
    · exact h.2 j h3 (by omega)
    · rw [show j = i by omega]; exact h.1
theorem allB_iff {f : Nat → Bool} {n : Nat} : allB f n = true ↔ ∀ j, j < n → f j = true := by
  unfold allB
  rw [allFrom_iff]
  exact ⟨fun h j hj => h j (by omega) (by omega), fun h j _ hj => h j (by omega)⟩
theorem allB_congr {f g : Nat → Bool} {n : Nat} (h : ∀ j, j < n → f j = g j) : allB f n = allB g n := by
  rw [Bool.eq_iff_iff, allB_iff, allB_iff]
  exact ⟨fun k j hj => (h j hj) ▸ k j hj, fun k j hj => (h j hj).symm ▸ k j hj⟩
/-- A loop that leaves with false where f is false, and goes on where it is true. -/
theorem Ev.allFrom {g : Nat → Int → Option Bool} (f : Nat → Bool) (fin : Bool) (n : Nat) (hend : Ev (fun k => g k (n : Int)) fin) (hstep : ∀ i : Nat, i < n → ∀ r, Ev (fun k => g k ((i + 1 : Nat) : Int)) r → Ev (fun k => g k (i : Int)) (f i && r)) (d : Nat) : ∀ i : Nat, i + d = n → Ev (fun k => g k (i : Int)) (allFrom f i d && fin) := by
  induction d with
  | zero => intro i hi; rw [show i = n by omega]; simpa [X.allFrom] using hend
  | succ d ih =>
    intro i hi
    have := hstep i (by omega) _ (ih (i + 1) (by omega))
    simpa [X.allFrom, Bool.and_assoc] using this
theorem Ev.all {g : Nat → Int → Option Bool} (f : Nat → Bool) (fin : Bool) (n : Nat) (hend : Ev (fun k => g k (n : Int)) fin) (hstep : ∀ i : Nat, i < n → ∀ r, Ev (fun k => g k ((i + 1 : Nat) : Int)) r → Ev (fun k => g k (i : Int)) (f i && r)) : Ev (fun k => g k 0) (allB f n && fin) := Ev.allFrom f fin n hend hstep n 0 (by omega)
/-- A loop over what holds from each place on. -/
theorem down {P : Nat → Prop} (n : Nat) (h0 : P n) (hs : ∀ i, i < n → P (i + 1) → P i) : P 0 := by
  have : ∀ d i, i + d = n → P i := by
    intro d
    induction d with
    | zero => intro i hi; rw [show i = n by omega]; exact h0
    | succ d ih => intro i hi; exact hs i (by omega) (ih (i + 1) (by omega))
  exact this n 0 (by omega)
theorem wrap_less {n : Nat} (h : n < 9223372036854775807) (h0 : 0 < n) : wrap64 ((n : Int) - 1) = ((n - 1 : Nat) : Int) := by unfold wrap64; omega
theorem wrap_pred {n : Nat} (h : n < 9223372036854775807) : wrap64 (((n + 1 : Nat) : Int) - 1) = ((n : Nat) : Int) := by unfold wrap64; omega
/-- A Bool that is asked. -/
theorem Ev.ask {α : Type} {b : Bool} {g f : Nat → Option α} {x y : α} (h1 : b = true → Ev g x) (h2 : b = false → Ev f y) : Ev (fun k => if b = true then g k else f k) (if b = true then x else y) := by
  cases b with
  | true => exact Ev.pos rfl (Ev.same (h1 rfl) (by simp))
  | false => exact Ev.neg (by simp) (Ev.same (h2 rfl) (by simp))
theorem Ev.dec {α : Type} {c : Prop} [Decidable c] {g f : Nat → Option α} {x y : α} (h1 : c → Ev g x) (h2 : ¬ c → Ev f y) : Ev (fun k => if c then g k else f k) (if c then x else y) := by
  by_cases h : c
  · exact Ev.pos h (Ev.same (h1 h) (by simp [h]))
  · exact Ev.neg h (Ev.same (h2 h) (by simp [h]))

end Go.Proofs.Ytcpcifgpcemaeaa.X

namespace Go.Proofs.Ytcpcifgpcemaeaa.X
open Go.RowKit Go.Proofs.YtcpcifgpcemaeaaW.PrintWords Go.Proofs.YtcpcifgpcemaeaaW.PrintLast Go.Proofs.YtcpcifgpcemaeaaW.PrintMore
attribute [local go_sem] xbin_geq xbin_leq xbin_gtr max2_int min2_int max_two min_two max_three min_three max_four min_four   -- for this text's walks alone
set_option linter.unusedVariables false
set_option linter.unusedSimpArgs false

def inB (x a b : Int) : Bool := decide (a ≤ x) && decide (x ≤ b)
theorem spec_in (x a b : Int) : spec_l01In.f x a b = some (inB x a b) := by
  unfold spec_l01In.f inB
  by_cases h : a ≤ x <;> simp [h]
theorem impl_in (x a b : Int) : impl_within.f x a b = some (inB x a b) := by
  unfold impl_within.f inB
  by_cases h : a ≤ x
  · rw [if_pos (by omega)]; simp [h]
  · rw [if_neg (by omega)]; simp [h]

end Go.Proofs.Ytcpcifgpcemaeaa.X
