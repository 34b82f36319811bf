import Derived.Test.YtdcfmhhfbnffgaaKFnExactDiskPending3
import Derived.Test.YtdcfmhhfbnffgaaKFnExactDiskPending4
import Derived.Test.YtdcfmhhfbnffgaaKFnExactDiskPending5
import Derived.Test.YtdcfmhhfbnffgaaKFnExactDiskPending6
import Derived.Test.YtdcfmhhfbnffgaaKFnExactDiskPending12
import Derived.Test.YtdcfmhhfbnffgaaKFnExactDiskPending13
import Derived.Test.YtdcfmhhfbnffgaaKFnExactDiskPending17
import Derived.Test.YtdcfmhhfbnffgaaKFnExactDiskPending18
import Derived.Test.YtdcfmhhfbnffgaaKFnExactDiskPending19
import Derived.Test.YtdcfmhhfbnffgaaKFnExactDiskPending22
namespace Go.Proofs.Ytdcfmhhfbnffgaa.X
open Go.RowKit Go.Proofs.YtdcfmhhfbnffgaaW.PrintWords Go.Proofs.YtdcfmhhfbnffgaaW.PrintLast Go.Proofs.YtdcfmhhfbnffgaaW.PrintMore
attribute [local go_sem] xbin_geq xbin_leq xbin_gtr max2_int min2_int max_two min_two max_three min_three max_four min_four
set_option linter.unusedVariables false
set_option linter.unusedSimpArgs false
theorem opens9 : Opens Try.prog 9 Kd.string (fun x => x.size ≤ maxLen) := Opens.string_ Try.underlying9 (by kernel_rfl)
def wfL9 (xs : List ByteArray) : Prop := xs.length ≤ maxLen ∧ ∀ x ∈ xs, x.size ≤ maxLen
theorem opens22 : Opens Try.prog 22 (Kd.slice 9 Kd.string) wfL9 := Opens.slice_ Try.underlying22 (by kernel_rfl) opens9
theorem opens3 : Opens Try.prog 3 (Kd.int .i64) (fun x => (Lit.int .i64 x).wf = true) := Opens.int_ Try.underlying3 (by kernel_rfl)
def wf52 (x : S52) : Prop := (Lit.int .i64 x.f0).wf = true ∧ x.f1.size ≤ maxLen
set_option maxRecDepth 100000 in
theorem opens52 : Opens Try.prog 52 k52 wf52 := by
  refine ⟨by kernel_rfl, fun {H enc w base spare held fuel cs x} h => ?_⟩
  obtain ⟨xs, n, _, _, hl, hlen, hf⟩ := DataW.trod_struct Try.underlying52 h
  have hl' : cs.length = 2 := hl.trans (by kernel_rfl)
  match cs, hl', xs, hlen with
  | [c0, c1], _, [y0, y1], _ =>
    obtain ⟨v0, g0, w0⟩ := opens3.2 (by simpa [show Try.prog.cellsOf 3 = 1 from by kernel_rfl] using hf 0 _ rfl)
    obtain ⟨v1, g1, w1⟩ := opens9.2 (by simpa [show Try.prog.cellsOf 9 = 1 from by kernel_rfl] using hf 1 _ rfl)
    exact ⟨(⟨v0, v1⟩ : S52), ⟨[c0], [c1], rfl, g0, g1⟩, ⟨w0, w1⟩⟩
def wfL52 (xs : List (S52)) : Prop := xs.length ≤ maxLen ∧ ∀ x ∈ xs, wf52 x
theorem opens23 : Opens Try.prog 23 (Kd.slice 52 k52) wfL52 := Opens.slice_ Try.underlying23 (by kernel_rfl) opens52
theorem opens4 : Opens Try.prog 4 Kd.bool (fun _ => True) := Opens.bool_ Try.underlying4 (by kernel_rfl)
def wfL3 (xs : List Int) : Prop := xs.length ≤ maxLen ∧ ∀ x ∈ xs, (Lit.int .i64 x).wf = true
theorem opens24 : Opens Try.prog 24 (Kd.slice 3 (Kd.int .i64)) wfL3 := Opens.slice_ Try.underlying24 (by kernel_rfl) opens3
def wf26 (x : S26) : Prop := wfL9 x.f0 ∧ wfL52 x.f1 ∧ True ∧ wfL3 x.f3
set_option maxRecDepth 100000 in
theorem opens26 : Opens Try.prog 26 k26 wf26 := by
  refine ⟨by kernel_rfl, fun {H enc w base spare held fuel cs x} h => ?_⟩
  obtain ⟨xs, n, _, _, hl, hlen, hf⟩ := DataW.trod_struct Try.underlying26 h
  have hl' : cs.length = 4 := hl.trans (by kernel_rfl)
  match cs, hl', xs, hlen with
  | [c0, c1, c2, c3], _, [y0, y1, y2, y3], _ =>
    obtain ⟨v0, g0, w0⟩ := opens22.2 (by simpa [show Try.prog.cellsOf 22 = 1 from by kernel_rfl] using hf 0 _ rfl)
    obtain ⟨v1, g1, w1⟩ := opens23.2 (by simpa [show Try.prog.cellsOf 23 = 1 from by kernel_rfl] using hf 1 _ rfl)
    obtain ⟨v2, g2, w2⟩ := opens4.2 (by simpa [show Try.prog.cellsOf 4 = 1 from by kernel_rfl] using hf 2 _ rfl)
    obtain ⟨v3, g3, w3⟩ := opens24.2 (by simpa [show Try.prog.cellsOf 24 = 1 from by kernel_rfl] using hf 3 _ rfl)
    exact ⟨(⟨v0, v1, v2, v3⟩ : S26), ⟨[c0], [c1, c2, c3], rfl, g0, ⟨[c1], [c2, c3], rfl, g1, ⟨[c2], [c3], rfl, g2, g3⟩⟩⟩, ⟨w0, w1, w2, w3⟩⟩
def laws_FnExactDiskPending.Pure : Prop := ∀ (l0_0 : List ByteArray) (l0_1 : List (S52)) (a0_2 : Bool) (l0_3 : List Int), (wfL9 l0_0) → (wfL52 l0_1) → (True) → (wfL3 l0_3) → ∃ k, laws_FnExactDiskPending.f k l0_0 l0_1 a0_2 l0_3 = some true
end Go.Proofs.Ytdcfmhhfbnffgaa.X
namespace Go.Proofs.Ytdcfmhhfbnffgaa.X
open Go.RowKit Go.Proofs.YtdcfmhhfbnffgaaW.PrintWords Go.Proofs.YtdcfmhhfbnffgaaW.PrintLast Go.Proofs.YtdcfmhhfbnffgaaW.PrintMore
attribute [local go_sem] xbin_geq xbin_leq xbin_gtr max2_int min2_int max_two min_two max_three min_three max_four min_four
set_option linter.unusedVariables false
set_option linter.unusedSimpArgs false
theorem Ev.succ {α : Type} {g : Nat → Option α} {r : α} (h : Ev (fun k => g (k + 1)) r) : Ev g r := Ev.step (fun _ => rfl) h
theorem Ev.pos {α : Type} {c : Prop} [Decidable c] {g f : Nat → Option α} {r : α} (hc : c) (h : Ev g r) : Ev (fun k => if c then g k else f k) r := Ev.congr (fun _ => if_pos hc) h
theorem Ev.neg {α : Type} {c : Prop} [Decidable c] {g f : Nat → Option α} {r : α} (hc : ¬ c) (h : Ev f r) : Ev (fun k => if c then g k else f k) r := Ev.congr (fun _ => if_neg hc) h
theorem Ev.is {α : Type} {o : Option α} {r : α} (h : o = some r) : Ev (fun _ => o) r := ⟨0, fun _ _ => h⟩
theorem Ev.bindk {α β : Type} {o : Option α} {f : Nat → α → Option β} {a : α} {r : β} (h : o = some a) (k : Ev (fun n => f n a) r) : Ev (fun n => o.bind (f n)) r := Ev.bind (g := fun _ => o) (Ev.is h) k
theorem Ev.same {α : Type} {g : Nat → Option α} {r r' : α} (h : Ev g r) (e : r = r') : Ev g r' := e ▸ h
theorem wrap_at {n : Nat} (h : n < 9223372036854775807) : wrap64 ((n : Int) + 1) = ((n + 1 : Nat) : Int) := by unfold wrap64; omega
theorem wrap_id {x : Int} (h0 : -9223372036854775808 ≤ x) (h1 : x ≤ 9223372036854775807) : wrap64 x = x := by unfold wrap64; omega
theorem getD_mid {α : Type} (pre : List α) (x : α) (rest : List α) (d : α) : (pre ++ x :: rest).getD pre.length d = x := by simp [List.getD_eq_getElem?_getD]
theorem set_mid {α : Type} (pre : List α) (x y : α) (rest : List α) : (pre ++ x :: rest).set pre.length y = pre ++ y :: rest := by simp
theorem len_snoc {α : Type} (pre : List α) (x : α) : pre.length + 1 = (pre ++ [x]).length := by simp
theorem maxLen_le : maxLen ≤ 9223372036854775807 := by unfold maxLen; decide
end Go.Proofs.Ytdcfmhhfbnffgaa.X
namespace Go.Proofs.Ytdcfmhhfbnffgaa.X
open Go.RowKit Go.Proofs.YtdcfmhhfbnffgaaW.PrintWords Go.Proofs.YtdcfmhhfbnffgaaW.PrintLast Go.Proofs.YtdcfmhhfbnffgaaW.PrintMore
attribute [local go_sem] xbin_geq xbin_leq xbin_gtr max2_int min2_int max_two min_two max_three min_three max_four min_four
set_option linter.unusedVariables false
set_option linter.unusedSimpArgs false
theorem to_IntS_loop (rest : List Int) : ∀ (pre : List Int), ((pre ++ rest).length : Int) ≤ 1048576 → (∀ y ∈ rest, True) →
    Ev (fun k => laws_toIntS.l0 k (pre ++ rest) (pre ++ List.replicate rest.length 0) ((pre.length : Nat) : Int)) ((pre ++ rest)) := by
  induction rest with
  | nil =>
    intro pre hl hs
    refine Ev.succ ?_
    simp only [laws_toIntS.l0]
    exact Ev.neg (by simp) (Ev.is (by simp))
  | cons x rest ih =>
    intro pre hl hs
    have hx : rd (pre ++ x :: rest) ((pre.length : Nat) : Int) = x := by simp [rd, List.getD_eq_getElem?_getD]
    have hlt : ((pre.length : Nat) : Int) < ((pre ++ x :: rest).length : Int) := by simp; omega
    have hw : wrap64 (((pre.length : Nat) : Int) + 1) = (((pre ++ [x]).length : Nat) : Int) := by rw [← len_snoc]; exact wrap_at (by omega)
    have hset : ∀ v : Int, ((pre ++ List.replicate (x :: rest).length 0).set ((pre.length : Nat) : Int).toNat v) = (pre ++ [v]) ++ List.replicate rest.length 0 := fun v => by rw [Int.toNat_natCast, List.length_cons, List.replicate_succ]; simp
    have hi := ih (pre ++ [x]) (by simpa using hl) (fun y hy => hs y (List.mem_cons_of_mem _ hy))
    refine Ev.succ ?_
    simp only [laws_toIntS.l0, hx]
    refine Ev.pos hlt (Ev.pos (by omega) ?_)
    refine Ev.pos (by simp; omega) ?_
    simp only [hset, hw]
    have e1 : pre ++ x :: rest = (pre ++ [x]) ++ rest := by simp
    rw [e1]
    exact hi
theorem to_IntS (l : List Int) (hs : (l.length : Int) ≤ 1048576) : Ev (fun k => laws_toIntS.f k l) (l) := by
  have hl : (l.length : Int) ≤ 1048576 := hs
  unfold laws_toIntS.f
  refine Ev.pos (by omega) (Ev.pos (by omega) ?_)
  have h := to_IntS_loop l [] (by simpa using hl) (fun _ _ => trivial)
  simpa using h
end Go.Proofs.Ytdcfmhhfbnffgaa.X
namespace Go.Proofs.Ytdcfmhhfbnffgaa.X
open Go.RowKit Go.Proofs.YtdcfmhhfbnffgaaW.PrintWords Go.Proofs.YtdcfmhhfbnffgaaW.PrintLast Go.Proofs.YtdcfmhhfbnffgaaW.PrintMore
attribute [local go_sem] xbin_geq xbin_leq xbin_gtr max2_int min2_int max_two min_two max_three min_three max_four min_four
set_option linter.unusedVariables false
set_option linter.unusedSimpArgs false
def cv52 (x : S52) : S43 := ⟨x.f0, x.f1⟩
def sm52 (B : Int) (x : S52) : Prop := True ∧ (x.f1.size : Int) ≤ B
def wl52 (x : S52) : Prop := True ∧ x.f1.size ≤ maxLen
theorem to_Pending (x : S52) : laws_toPending.f (x.f0) (x.f1) = some (x.f0, x.f1) := rfl
end Go.Proofs.Ytdcfmhhfbnffgaa.X
namespace Go.Proofs.Ytdcfmhhfbnffgaa.X
open Go.RowKit Go.Proofs.YtdcfmhhfbnffgaaW.PrintWords Go.Proofs.YtdcfmhhfbnffgaaW.PrintLast Go.Proofs.YtdcfmhhfbnffgaaW.PrintMore
attribute [local go_sem] xbin_geq xbin_leq xbin_gtr max2_int min2_int max_two min_two max_three min_three max_four min_four
set_option linter.unusedVariables false
set_option linter.unusedSimpArgs false
theorem to_PendingS_loop (rest : List S52) : ∀ (pre : List S52), ((pre ++ rest).length : Int) ≤ 1048576 → (∀ y ∈ rest, sm52 1048576 y) →
    Ev (fun k => laws_toPendingS.l0 k (pre ++ rest) (pre.map cv52 ++ List.replicate rest.length z43) ((pre.length : Nat) : Int)) ((pre ++ rest).map cv52) := by
  induction rest with
  | nil =>
    intro pre hl hs
    refine Ev.succ ?_
    simp only [laws_toPendingS.l0]
    exact Ev.neg (by simp) (Ev.is (by simp))
  | cons x rest ih =>
    intro pre hl hs
    have hx : rd_T52 (pre ++ x :: rest) ((pre.length : Nat) : Int) = x := by simp [rd_T52, List.getD_eq_getElem?_getD]
    have hlt : ((pre.length : Nat) : Int) < ((pre ++ x :: rest).length : Int) := by simp; omega
    have hw : wrap64 (((pre.length : Nat) : Int) + 1) = (((pre ++ [x]).length : Nat) : Int) := by rw [← len_snoc]; exact wrap_at (by omega)
    have hset : ∀ v : S43, ((pre.map cv52 ++ List.replicate (x :: rest).length z43).set ((pre.length : Nat) : Int).toNat v) = (pre.map cv52 ++ [v]) ++ List.replicate rest.length z43 := fun v => by rw [Int.toNat_natCast, List.length_cons, List.replicate_succ]; simp
    have hi := ih (pre ++ [x]) (by simpa using hl) (fun y hy => hs y (List.mem_cons_of_mem _ hy))
    refine Ev.succ ?_
    simp only [laws_toPendingS.l0, hx]
    refine Ev.pos hlt (Ev.pos (by omega) ?_)
    refine Ev.bindk (to_Pending x) ?_
    refine Ev.pos (by simp; omega) ?_
    simp only [hset, hw]
    have e1 : pre ++ x :: rest = (pre ++ [x]) ++ rest := by simp
    have e2 : (pre ++ [x]).map cv52 = pre.map cv52 ++ [cv52 x] := by simp
    rw [e1]
    rw [e2] at hi
    exact hi
theorem to_PendingS (l : List S52) (hs : ((l.length : Int) ≤ 1048576 ∧ ∀ y ∈ l, sm52 1048576 y)) : Ev (fun k => laws_toPendingS.f k l) (l.map cv52) := by
  have hl : (l.length : Int) ≤ 1048576 := hs.1
  unfold laws_toPendingS.f
  refine Ev.pos (by omega) (Ev.pos (by omega) ?_)
  have h := to_PendingS_loop l [] (by simpa using hl) hs.2
  simpa using h
end Go.Proofs.Ytdcfmhhfbnffgaa.X
namespace Go.Proofs.Ytdcfmhhfbnffgaa.X
open Go.RowKit Go.Proofs.YtdcfmhhfbnffgaaW.PrintWords Go.Proofs.YtdcfmhhfbnffgaaW.PrintLast Go.Proofs.YtdcfmhhfbnffgaaW.PrintMore
attribute [local go_sem] xbin_geq xbin_leq xbin_gtr max2_int min2_int max_two min_two max_three min_three max_four min_four
set_option linter.unusedVariables false
set_option linter.unusedSimpArgs false
theorem to_StringS_loop (rest : List ByteArray) : ∀ (pre : List ByteArray), ((pre ++ rest).length : Int) ≤ 1048576 → (∀ y ∈ rest, True) →
    Ev (fun k => laws_toStringS.l0 k (pre ++ rest) (pre ++ List.replicate rest.length (⟨#[]⟩ : ByteArray)) ((pre.length : Nat) : Int)) ((pre ++ rest)) := by
  induction rest with
  | nil =>
    intro pre hl hs
    refine Ev.succ ?_
    simp only [laws_toStringS.l0]
    exact Ev.neg (by simp) (Ev.is (by simp))
  | cons x rest ih =>
    intro pre hl hs
    have hx : rdOf ByteArray.empty (pre ++ x :: rest) ((pre.length : Nat) : Int) = x := by simp [rdOf, List.getD_eq_getElem?_getD]
    have hlt : ((pre.length : Nat) : Int) < ((pre ++ x :: rest).length : Int) := by simp; omega
    have hw : wrap64 (((pre.length : Nat) : Int) + 1) = (((pre ++ [x]).length : Nat) : Int) := by rw [← len_snoc]; exact wrap_at (by omega)
    have hset : ∀ v : ByteArray, ((pre ++ List.replicate (x :: rest).length (⟨#[]⟩ : ByteArray)).set ((pre.length : Nat) : Int).toNat v) = (pre ++ [v]) ++ List.replicate rest.length (⟨#[]⟩ : ByteArray) := fun v => by rw [Int.toNat_natCast, List.length_cons, List.replicate_succ]; simp
    have hi := ih (pre ++ [x]) (by simpa using hl) (fun y hy => hs y (List.mem_cons_of_mem _ hy))
    refine Ev.succ ?_
    simp only [laws_toStringS.l0, hx]
    refine Ev.pos hlt (Ev.pos (by omega) ?_)
    refine Ev.pos (by simp; omega) ?_
    simp only [hset, hw]
    have e1 : pre ++ x :: rest = (pre ++ [x]) ++ rest := by simp
    rw [e1]
    exact hi
theorem to_StringS (l : List ByteArray) (hs : ((l.length : Int) ≤ 1048576 ∧ ∀ y ∈ l, (y.size : Int) ≤ 1048576)) : Ev (fun k => laws_toStringS.f k l) (l) := by
  have hl : (l.length : Int) ≤ 1048576 := hs.1
  unfold laws_toStringS.f
  refine Ev.pos (by omega) (Ev.pos (by omega) ?_)
  have h := to_StringS_loop l [] (by simpa using hl) (fun _ _ => trivial)
  simpa using h
end Go.Proofs.Ytdcfmhhfbnffgaa.X
namespace Go.Proofs.Ytdcfmhhfbnffgaa.X
open Go.RowKit Go.Proofs.YtdcfmhhfbnffgaaW.PrintWords Go.Proofs.YtdcfmhhfbnffgaaW.PrintLast Go.Proofs.YtdcfmhhfbnffgaaW.PrintMore
attribute [local go_sem] xbin_geq xbin_leq xbin_gtr max2_int min2_int max_two min_two max_three min_three max_four min_four
set_option linter.unusedVariables false
set_option linter.unusedSimpArgs false
def sm26 (B : Int) (x : S26) : Prop := ((x.f0.length : Int) ≤ B ∧ ∀ y ∈ x.f0, (y.size : Int) ≤ B) ∧ ((x.f1.length : Int) ≤ B ∧ ∀ y ∈ x.f1, sm52 B y) ∧ True ∧ (x.f3.length : Int) ≤ B
def wl26 (x : S26) : Prop := (x.f0.length ≤ maxLen ∧ ∀ y ∈ x.f0, y.size ≤ maxLen) ∧ (x.f1.length ≤ maxLen ∧ ∀ y ∈ x.f1, wl52 y) ∧ True ∧ x.f3.length ≤ maxLen
theorem to_Disk (x : S26) (hs : sm26 1048576 x) : Ev (fun k => laws_toDisk.f k (x.f0) (x.f1) (x.f2) (x.f3)) (x.f0, (x.f1).map cv52, x.f2, x.f3) := by
  unfold laws_toDisk.f
  exact Ev.bind (to_StringS _ hs.1) (Ev.bind (to_PendingS _ hs.2.1) (Ev.bind (to_IntS _ hs.2.2.2) (Ev.is rfl)))
end Go.Proofs.Ytdcfmhhfbnffgaa.X
namespace Go.Proofs.Ytdcfmhhfbnffgaa.X
open Go.RowKit Go.Proofs.YtdcfmhhfbnffgaaW.PrintWords Go.Proofs.YtdcfmhhfbnffgaaW.PrintLast Go.Proofs.YtdcfmhhfbnffgaaW.PrintMore
attribute [local go_sem] xbin_geq xbin_leq xbin_gtr max2_int min2_int max_two min_two max_three min_three max_four min_four
set_option linter.unusedVariables false
set_option linter.unusedSimpArgs false
theorem sz_IntS (l : List Int) (hw : l.length ≤ maxLen) (B left : Int) (h0 : 0 ≤ left) (h1 : left ≤ B) (hB : B ≤ 1048576) : ∃ r, Ev (fun k => laws_szIntS.f l left) r ∧ (0 ≤ r → r ≤ left ∧ (l.length : Int) ≤ B) := by
  have hl := Nat.le_trans hw maxLen_le
  unfold laws_szIntS.f
  have e : wrap64 (left - (l.length : Int)) = left - (l.length : Int) := wrap_id (by omega) (by omega)
  simp only [e]
  by_cases c : left - (l.length : Int) < 0
  · exact ⟨-1, Ev.pos c (Ev.is rfl), fun h => by omega⟩
  · exact ⟨left - (l.length : Int), Ev.neg c (Ev.is rfl), fun _ => ⟨by omega, by omega⟩⟩
end Go.Proofs.Ytdcfmhhfbnffgaa.X
namespace Go.Proofs.Ytdcfmhhfbnffgaa.X
open Go.RowKit Go.Proofs.YtdcfmhhfbnffgaaW.PrintWords Go.Proofs.YtdcfmhhfbnffgaaW.PrintLast Go.Proofs.YtdcfmhhfbnffgaaW.PrintMore
attribute [local go_sem] xbin_geq xbin_leq xbin_gtr max2_int min2_int max_two min_two max_three min_three max_four min_four
set_option linter.unusedVariables false
set_option linter.unusedSimpArgs false
theorem sz_Pending (x : S52) (hw : wl52 x) (B left : Int) (h0 : 0 ≤ left) (h1 : left ≤ B) (hB : B ≤ 1048576) : ∃ r, Ev (fun k => laws_szPending.f (x.f0) (x.f1) left) r ∧ (0 ≤ r → r ≤ left ∧ sm52 B x) := by
  unfold laws_szPending.f
  have hs1 : x.f1.size ≤ 9223372036854775807 := Nat.le_trans hw.2 maxLen_le
  have e1 : wrap64 (left - (x.f1.size : Int)) = left - (x.f1.size : Int) := wrap_id (by omega) (by omega)
  simp only [e1]
  by_cases c1 : left - (x.f1.size : Int) < 0
  · exact ⟨-1, Ev.pos c1 (Ev.is rfl), fun h => by omega⟩
  suffices hh : ∃ r, Ev _ r ∧ (0 ≤ r → r ≤ left ∧ sm52 B x) from (let ⟨r, hr, hq⟩ := hh; ⟨r, Ev.neg c1 hr, hq⟩)
  exact ⟨(left - (x.f1.size : Int)), Ev.is rfl, fun _ => ⟨by omega, ⟨trivial, (by omega)⟩⟩⟩
end Go.Proofs.Ytdcfmhhfbnffgaa.X
namespace Go.Proofs.Ytdcfmhhfbnffgaa.X
open Go.RowKit Go.Proofs.YtdcfmhhfbnffgaaW.PrintWords Go.Proofs.YtdcfmhhfbnffgaaW.PrintLast Go.Proofs.YtdcfmhhfbnffgaaW.PrintMore
attribute [local go_sem] xbin_geq xbin_leq xbin_gtr max2_int min2_int max_two min_two max_three min_three max_four min_four
set_option linter.unusedVariables false
set_option linter.unusedSimpArgs false
theorem sz_PendingS_loop (B : Int) (hB : B ≤ 1048576) (rest : List S52) : ∀ (pre : List S52) (left : Int), (pre ++ rest).length ≤ 9223372036854775807 → (∀ y ∈ rest, wl52 y) → 0 ≤ left → left ≤ B →
    ∃ r, Ev (fun k => laws_szPendingS.l0 k (pre ++ rest) left ((pre.length : Nat) : Int)) r ∧ (0 ≤ r → r ≤ left ∧ ∀ y ∈ rest, sm52 B y) := by
  induction rest with
  | nil =>
    intro pre left hl hw h0 h1
    refine ⟨left, Ev.succ ?_, fun _ => ⟨Int.le_refl _, fun y hy => by cases hy⟩⟩
    simp only [laws_szPendingS.l0]
    exact Ev.neg (by simp) (Ev.is rfl)
  | cons x rest ih =>
    intro pre left hl hw h0 h1
    have hx : rd_T52 (pre ++ x :: rest) ((pre.length : Nat) : Int) = x := by simp [rd_T52, List.getD_eq_getElem?_getD]
    have hlt : ((pre.length : Nat) : Int) < ((pre ++ x :: rest).length : Int) := by simp; omega
    have hwp : wrap64 (((pre.length : Nat) : Int) + 1) = (((pre ++ [x]).length : Nat) : Int) := by rw [← len_snoc]; exact wrap_at (by omega)
    have e1 : pre ++ x :: rest = (pre ++ [x]) ++ rest := by simp
    have hl2 : ((pre ++ [x]) ++ rest).length ≤ 9223372036854775807 := by rw [← e1]; exact hl
    obtain ⟨r, hr, hq⟩ := sz_Pending x (hw x List.mem_cons_self) B left h0 h1 hB
    by_cases c : r < 0
    · refine ⟨-1, Ev.succ ?_, fun h => by omega⟩
      simp only [laws_szPendingS.l0, hx]
      exact Ev.pos hlt (Ev.pos (by omega) (Ev.bind hr (Ev.pos c (Ev.is rfl))))
    · have hq' := hq (by omega)
      obtain ⟨r2, hr2, hq2⟩ := ih (pre ++ [x]) r hl2 (fun y hy => hw y (List.mem_cons_of_mem _ hy)) (by omega) (by omega)
      refine ⟨r2, Ev.succ ?_, fun h => ?_⟩
      · simp only [laws_szPendingS.l0, hx, hwp]
        rw [← e1] at hr2
        exact Ev.pos hlt (Ev.pos (by omega) (Ev.bind hr (Ev.neg c hr2)))
      · have h3 := hq2 h
        refine ⟨by omega, fun y hy => ?_⟩
        rcases List.mem_cons.1 hy with rfl | hy
        · exact hq'.2
        · exact h3.2 y hy
theorem sz_PendingS (l : List S52) (hw : (l.length ≤ maxLen ∧ ∀ y ∈ l, wl52 y)) (B left : Int) (h0 : 0 ≤ left) (h1 : left ≤ B) (hB : B ≤ 1048576) : ∃ r, Ev (fun k => laws_szPendingS.f k l left) r ∧ (0 ≤ r → r ≤ left ∧ ((l.length : Int) ≤ B ∧ ∀ y ∈ l, sm52 B y)) := by
  have hl := Nat.le_trans hw.1 maxLen_le
  unfold laws_szPendingS.f
  have e : wrap64 (left - (l.length : Int)) = left - (l.length : Int) := wrap_id (by omega) (by omega)
  simp only [e]
  by_cases c : left - (l.length : Int) < 0
  · exact ⟨-1, Ev.pos c (Ev.is rfl), fun h => by omega⟩
  · obtain ⟨r, hr, hq⟩ := sz_PendingS_loop B hB l [] (left - (l.length : Int)) (by simpa using hl) hw.2 (by omega) (by omega)
    exact ⟨r, Ev.neg c (by simpa using hr), fun h => ⟨by have := (hq h).1; omega, by omega, (hq h).2⟩⟩
end Go.Proofs.Ytdcfmhhfbnffgaa.X
namespace Go.Proofs.Ytdcfmhhfbnffgaa.X
open Go.RowKit Go.Proofs.YtdcfmhhfbnffgaaW.PrintWords Go.Proofs.YtdcfmhhfbnffgaaW.PrintLast Go.Proofs.YtdcfmhhfbnffgaaW.PrintMore
attribute [local go_sem] xbin_geq xbin_leq xbin_gtr max2_int min2_int max_two min_two max_three min_three max_four min_four
set_option linter.unusedVariables false
set_option linter.unusedSimpArgs false
theorem sz_StringS_loop (B : Int) (hB : B ≤ 1048576) (rest : List ByteArray) : ∀ (pre : List ByteArray) (left : Int), (pre ++ rest).length ≤ 9223372036854775807 → (∀ y ∈ rest, y.size ≤ maxLen) → 0 ≤ left → left ≤ B →
    ∃ r, Ev (fun k => laws_szStringS.l0 k (pre ++ rest) left ((pre.length : Nat) : Int)) r ∧ (0 ≤ r → r ≤ left ∧ ∀ y ∈ rest, (y.size : Int) ≤ B) := by
  induction rest with
  | nil =>
    intro pre left hl hw h0 h1
    refine ⟨left, Ev.succ ?_, fun _ => ⟨Int.le_refl _, fun y hy => by cases hy⟩⟩
    simp only [laws_szStringS.l0]
    exact Ev.neg (by simp) (Ev.is rfl)
  | cons x rest ih =>
    intro pre left hl hw h0 h1
    have hx : rdOf ByteArray.empty (pre ++ x :: rest) ((pre.length : Nat) : Int) = x := by simp [rdOf, List.getD_eq_getElem?_getD]
    have hlt : ((pre.length : Nat) : Int) < ((pre ++ x :: rest).length : Int) := by simp; omega
    have hwp : wrap64 (((pre.length : Nat) : Int) + 1) = (((pre ++ [x]).length : Nat) : Int) := by rw [← len_snoc]; exact wrap_at (by omega)
    have e1 : pre ++ x :: rest = (pre ++ [x]) ++ rest := by simp
    have hl2 : ((pre ++ [x]) ++ rest).length ≤ 9223372036854775807 := by rw [← e1]; exact hl
    have hs : x.size ≤ 9223372036854775807 := Nat.le_trans (hw x List.mem_cons_self) maxLen_le
    have e : wrap64 (left - (x.size : Int)) = left - (x.size : Int) := wrap_id (by omega) (by omega)
    by_cases c : left - (x.size : Int) < 0
    · refine ⟨-1, Ev.succ ?_, fun h => by omega⟩
      simp only [laws_szStringS.l0, hx, e]
      exact Ev.pos hlt (Ev.pos (by omega) (Ev.pos c (Ev.is rfl)))
    · obtain ⟨r2, hr2, hq2⟩ := ih (pre ++ [x]) (left - (x.size : Int)) hl2 (fun y hy => hw y (List.mem_cons_of_mem _ hy)) (by omega) (by omega)
      refine ⟨r2, Ev.succ ?_, fun h => ?_⟩
      · simp only [laws_szStringS.l0, hx, hwp, e]
        rw [← e1] at hr2
        exact Ev.pos hlt (Ev.pos (by omega) (Ev.neg c hr2))
      · have h3 := hq2 h
        refine ⟨by omega, fun y hy => ?_⟩
        rcases List.mem_cons.1 hy with rfl | hy
        · omega
        · exact h3.2 y hy
theorem sz_StringS (l : List ByteArray) (hw : (l.length ≤ maxLen ∧ ∀ y ∈ l, y.size ≤ maxLen)) (B left : Int) (h0 : 0 ≤ left) (h1 : left ≤ B) (hB : B ≤ 1048576) : ∃ r, Ev (fun k => laws_szStringS.f k l left) r ∧ (0 ≤ r → r ≤ left ∧ ((l.length : Int) ≤ B ∧ ∀ y ∈ l, (y.size : Int) ≤ B)) := by
  have hl := Nat.le_trans hw.1 maxLen_le
  unfold laws_szStringS.f
  have e : wrap64 (left - (l.length : Int)) = left - (l.length : Int) := wrap_id (by omega) (by omega)
  simp only [e]
  by_cases c : left - (l.length : Int) < 0
  · exact ⟨-1, Ev.pos c (Ev.is rfl), fun h => by omega⟩
  · obtain ⟨r, hr, hq⟩ := sz_StringS_loop B hB l [] (left - (l.length : Int)) (by simpa using hl) hw.2 (by omega) (by omega)
    exact ⟨r, Ev.neg c (by simpa using hr), fun h => ⟨by have := (hq h).1; omega, by omega, (hq h).2⟩⟩
end Go.Proofs.Ytdcfmhhfbnffgaa.X
namespace Go.Proofs.Ytdcfmhhfbnffgaa.X
open Go.RowKit Go.Proofs.YtdcfmhhfbnffgaaW.PrintWords Go.Proofs.YtdcfmhhfbnffgaaW.PrintLast Go.Proofs.YtdcfmhhfbnffgaaW.PrintMore
attribute [local go_sem] xbin_geq xbin_leq xbin_gtr max2_int min2_int max_two min_two max_three min_three max_four min_four
set_option linter.unusedVariables false
set_option linter.unusedSimpArgs false
theorem sz_Disk (x : S26) (hw : wl26 x) (B left : Int) (h0 : 0 ≤ left) (h1 : left ≤ B) (hB : B ≤ 1048576) : ∃ r, Ev (fun k => laws_szDisk.f k (x.f0) (x.f1) (x.f2) (x.f3) left) r ∧ (0 ≤ r → r ≤ left ∧ sm26 B x) := by
  unfold laws_szDisk.f
  obtain ⟨r0, hr0, hq0⟩ := sz_StringS x.f0 hw.1 B left (by omega) (by omega) hB
  by_cases c0 : r0 < 0
  · exact ⟨-1, Ev.bind hr0 (Ev.pos c0 (Ev.is rfl)), fun h => by omega⟩
  have hq0' := hq0 (by omega)
  suffices hh : ∃ r, Ev _ r ∧ (0 ≤ r → r ≤ left ∧ sm26 B x) from (let ⟨r, hr, hq⟩ := hh; ⟨r, Ev.bind hr0 (Ev.neg c0 hr), hq⟩)
  have hz0 := hq0'.1
  obtain ⟨r1, hr1, hq1⟩ := sz_PendingS x.f1 hw.2.1 B r0 (by omega) (by omega) hB
  by_cases c1 : r1 < 0
  · exact ⟨-1, Ev.bind hr1 (Ev.pos c1 (Ev.is rfl)), fun h => by omega⟩
  have hq1' := hq1 (by omega)
  suffices hh : ∃ r, Ev _ r ∧ (0 ≤ r → r ≤ left ∧ sm26 B x) from (let ⟨r, hr, hq⟩ := hh; ⟨r, Ev.bind hr1 (Ev.neg c1 hr), hq⟩)
  have hz1 := hq1'.1
  obtain ⟨r3, hr3, hq3⟩ := sz_IntS x.f3 hw.2.2.2 B r1 (by omega) (by omega) hB
  by_cases c3 : r3 < 0
  · exact ⟨-1, Ev.bind hr3 (Ev.pos c3 (Ev.is rfl)), fun h => by omega⟩
  have hq3' := hq3 (by omega)
  suffices hh : ∃ r, Ev _ r ∧ (0 ≤ r → r ≤ left ∧ sm26 B x) from (let ⟨r, hr, hq⟩ := hh; ⟨r, Ev.bind hr3 (Ev.neg c3 hr), hq⟩)
  have hz3 := hq3'.1
  exact ⟨r3, Ev.is rfl, fun _ => ⟨by omega, ⟨hq0'.2, hq1'.2, trivial, hq3'.2⟩⟩⟩
end Go.Proofs.Ytdcfmhhfbnffgaa.X
namespace Go.Proofs.Ytdcfmhhfbnffgaa.X
open Go.RowKit Go.Proofs.YtdcfmhhfbnffgaaW.PrintWords Go.Proofs.YtdcfmhhfbnffgaaW.PrintLast Go.Proofs.YtdcfmhhfbnffgaaW.PrintMore
attribute [local go_sem] xbin_geq xbin_leq xbin_gtr max2_int min2_int max_two min_two max_three min_three max_four min_four
set_option linter.unusedVariables false
set_option linter.unusedSimpArgs false
theorem eq_IntS_loop (rest : List Int) : ∀ (pre : List Int), (pre ++ rest).length ≤ 9223372036854775807 → (True) → Ev (fun k => laws_eqIntS.l0 k (pre ++ rest) (pre ++ rest) ((pre.length : Nat) : Int)) true := by
  induction rest with
  | nil =>
    intro pre hl hs
    refine Ev.succ ?_
    simp only [laws_eqIntS.l0]
    exact Ev.neg (by simp) (Ev.is rfl)
  | cons x rest ih =>
    intro pre hl hs
    have hx : rd (pre ++ x :: rest) ((pre.length : Nat) : Int) = x := by simp [rd, List.getD_eq_getElem?_getD]
    have hlt : ((pre.length : Nat) : Int) < ((pre ++ x :: rest).length : Int) := by simp; omega
    have hwp : wrap64 (((pre.length : Nat) : Int) + 1) = (((pre ++ [x]).length : Nat) : Int) := by rw [← len_snoc]; exact wrap_at (by simp at hl; omega)
    have e1 : pre ++ x :: rest = (pre ++ [x]) ++ rest := by simp
    have hi := ih (pre ++ [x]) (by rw [← e1]; exact hl) trivial
    rw [← e1] at hi
    refine Ev.succ ?_
    simp only [laws_eqIntS.l0, hx, hwp]
    exact Ev.pos hlt (Ev.pos (by omega) (Ev.pos hlt (Ev.pos (by first | trivial | rfl) hi)))
theorem eq_IntS (l : List Int) (h : l.length ≤ 9223372036854775807) : Ev (fun k => laws_eqIntS.f k l l) true := by
  unfold laws_eqIntS.f
  have hh := eq_IntS_loop l [] (by simpa using h) trivial
  exact Ev.pos rfl (by simpa using hh)
end Go.Proofs.Ytdcfmhhfbnffgaa.X
namespace Go.Proofs.Ytdcfmhhfbnffgaa.X
open Go.RowKit Go.Proofs.YtdcfmhhfbnffgaaW.PrintWords Go.Proofs.YtdcfmhhfbnffgaaW.PrintLast Go.Proofs.YtdcfmhhfbnffgaaW.PrintMore
attribute [local go_sem] xbin_geq xbin_leq xbin_gtr max2_int min2_int max_two min_two max_three min_three max_four min_four
set_option linter.unusedVariables false
set_option linter.unusedSimpArgs false
def len43 (x : S43) : Prop := True ∧ True
theorem eq_Pending (x : S43) (h : len43 x) : Ev (fun k => laws_eqPending.f (x.f0) (x.f1) (x.f0) (x.f1)) true := by
  unfold laws_eqPending.f
  exact Ev.pos rfl (Ev.pos rfl (Ev.is rfl))
end Go.Proofs.Ytdcfmhhfbnffgaa.X
namespace Go.Proofs.Ytdcfmhhfbnffgaa.X
open Go.RowKit Go.Proofs.YtdcfmhhfbnffgaaW.PrintWords Go.Proofs.YtdcfmhhfbnffgaaW.PrintLast Go.Proofs.YtdcfmhhfbnffgaaW.PrintMore
attribute [local go_sem] xbin_geq xbin_leq xbin_gtr max2_int min2_int max_two min_two max_three min_three max_four min_four
set_option linter.unusedVariables false
set_option linter.unusedSimpArgs false
theorem eq_PendingS_loop (rest : List S43) : ∀ (pre : List S43), (pre ++ rest).length ≤ 9223372036854775807 → (∀ y ∈ rest, len43 y) → Ev (fun k => laws_eqPendingS.l0 k (pre ++ rest) (pre ++ rest) ((pre.length : Nat) : Int)) true := by
  induction rest with
  | nil =>
    intro pre hl hs
    refine Ev.succ ?_
    simp only [laws_eqPendingS.l0]
    exact Ev.neg (by simp) (Ev.is rfl)
  | cons x rest ih =>
    intro pre hl hs
    have hx : rd_T43 (pre ++ x :: rest) ((pre.length : Nat) : Int) = x := by simp [rd_T43, List.getD_eq_getElem?_getD]
    have hlt : ((pre.length : Nat) : Int) < ((pre ++ x :: rest).length : Int) := by simp; omega
    have hwp : wrap64 (((pre.length : Nat) : Int) + 1) = (((pre ++ [x]).length : Nat) : Int) := by rw [← len_snoc]; exact wrap_at (by simp at hl; omega)
    have e1 : pre ++ x :: rest = (pre ++ [x]) ++ rest := by simp
    have hi := ih (pre ++ [x]) (by rw [← e1]; exact hl) (fun y hy => hs y (List.mem_cons_of_mem _ hy))
    rw [← e1] at hi
    refine Ev.succ ?_
    simp only [laws_eqPendingS.l0, hx, hwp]
    exact Ev.pos hlt (Ev.pos (by omega) (Ev.pos hlt (Ev.bind (eq_Pending x (hs x List.mem_cons_self)) (Ev.pos rfl hi))))
theorem eq_PendingS (l : List S43) (h : l.length ≤ 9223372036854775807 ∧ ∀ y ∈ l, len43 y) : Ev (fun k => laws_eqPendingS.f k l l) true := by
  unfold laws_eqPendingS.f
  have hh := eq_PendingS_loop l [] (by simpa using h.1) h.2
  exact Ev.pos rfl (by simpa using hh)
end Go.Proofs.Ytdcfmhhfbnffgaa.X
