import Derived.Test.YtgcncphdjabjjaaDoorKFnExactMessageText3
import Derived.Test.YtgcncphdjabjjaaDoorKFnExactMessageText5
import Derived.Test.YtgcncphdjabjjaaDoorKFnExactMessageText6
import Derived.Test.YtgcncphdjabjjaaDoorKFnExactMessageText7
import Derived.Test.YtgcncphdjabjjaaDoorKFnExactMessageText8
import Derived.Test.YtgcncphdjabjjaaDoorKFnExactMessageText12
import Derived.Test.YtgcncphdjabjjaaDoorKFnExactMessageText13
import Derived.Test.YtgcncphdjabjjaaDoorKFnExactMessageText14
import Derived.Test.YtgcncphdjabjjaaDoorKFnExactMessageText16
import Derived.Test.YtgcncphdjabjjaaDoorRows
import Derived.WalkKit
import Derived.ProofKit
import Derived.OpenShut
import Derived.ShutString
import Derived.ChangeOld
import Derived.Below
import Derived.SizedLaws
import Derived.Test.YtgcncphdjabjjaaDoorCards
import Derived.Test.YtgcncphdjabjjaaDoorTie
import Derived.SevenTiedAt
import Derived.Lay
import Derived.LaidLaws
import Derived.MakeChecks
import Derived.Handed
namespace Go.Proofs.YtgcncphdjabjjaaDoor.X
open Go.RowKit Go.Proofs.YtgcncphdjabjjaaDoorW.PrintWords Go.Proofs.YtgcncphdjabjjaaDoorW.PrintLast Go.Proofs.YtgcncphdjabjjaaDoorW.PrintMore
attribute [local go_sem] xbin_geq xbin_leq xbin_gtr max2_int min2_int max_two min_two max_three min_three max_four min_four
set_option linter.unusedVariables false
set_option linter.unusedSimpArgs false
def lineNameB (s : ByteArray) : Bool := inB (s.size : Int) 1 12 && allB (fun i => letter (bt s i) || bt s i == 45) s.size
def plainB (s : ByteArray) : Bool := allB (fun i => decide (32 ≤ bt s i) && decide (bt s i ≤ 126)) s.size
def endsB (s : ByteArray) : Bool := decide (s.size = 0) || (bt s 0 != 32 && bt s ((s.size - 1 : Nat) : Int) != 32)
def fieldB (f : S37) : Bool := lineNameB f.f0 && (decide (f.f1.size ≤ 85) && (plainB f.f1 && endsB f.f1))
theorem spec_lineName (s : ByteArray) : Ev (fun k => spec_l08Name.f k s) (lineNameB s) := by
  have hl : s.size ≤ 12 → Ev (fun k => spec_l08Name.l0 k s 0) (allB (fun i => letter (bt s i) || bt s i == 45) s.size) := by
    intro hs
    refine Ev.same (Ev.all (g := fun k x => spec_l08Name.l0 k s x) (fun i => letter (bt s i) || bt s i == 45) true s.size ?_ ?_) (by simp)
    · refine Ev.succ ?_
      simp only [spec_l08Name.l0]
      exact Ev.neg (by omega) (Ev.is rfl)
    · intro i hi r h
      refine Ev.succ ?_
      simp only [spec_l08Name.l0, letter1, Option.bind_some, wrap_at (n := i) (by omega)]
      refine Ev.pos (by omega) (Ev.pos (by omega) ?_)
      cases h1 : letter (bt s i) with
      | true => exact Ev.pos rfl (Ev.same h (by simp))
      | false =>
        refine Ev.neg (by simp) ?_
        by_cases h2 : bt s i = 45
        · exact Ev.pos h2 (Ev.same h (by simp [h2]))
        · exact Ev.neg h2 (Ev.is (by simp [h2]))
  unfold spec_l08Name.f lineNameB
  by_cases h1 : (s.size : Int) < 1
  · refine Ev.pos h1 (Ev.succ ?_)
    simp only [spec_l08Name.j0]
    exact Ev.pos (by trivial) (Ev.is (by simp [inB, show ¬ 1 ≤ (s.size : Int) by omega]))
  · refine Ev.neg h1 (Ev.succ ?_)
    simp only [spec_l08Name.j0]
    by_cases h2 : (s.size : Int) > 12
    · exact Ev.pos (decide_eq_true h2) (Ev.is (by simp [inB, show ¬ (s.size : Int) ≤ 12 by omega]))
    · exact Ev.neg (by simp; omega) (Ev.same (hl (by omega)) (by simp [inB, show (s.size : Int) ≤ 12 by omega, show 1 ≤ (s.size : Int) by omega]))
theorem impl_lineName (s : ByteArray) (hs : s.size < 9223372036854775807) : Ev (fun k => impl_lineNameOK.f k s) (lineNameB s) := by
  unfold impl_lineNameOK.f lineNameB
  refine Ev.same (Ev.all (g := fun k x => impl_lineNameOK.l0 k s (s.size : Int) x) (fun i => letter (bt s i) || bt s i == 45) (inB (s.size : Int) 1 12) s.size ?_ ?_) (by rw [Bool.and_comm])
  · refine Ev.succ ?_
    simp only [impl_lineNameOK.l0, impl_in]
    exact Ev.neg (by omega) (Ev.is rfl)
  · intro i hi r h
    refine Ev.succ ?_
    simp only [impl_lineNameOK.l0, letter2, Option.bind_some, wrap_at (n := i) (by omega)]
    refine Ev.pos (by omega) (Ev.pos (by omega) (Ev.pos (by omega) ?_))
    cases h1 : letter (bt s i) with
    | true => exact Ev.pos rfl (Ev.same h (by simp))
    | false =>
      refine Ev.neg (by simp) ?_
      by_cases h2 : bt s i = 45
      · exact Ev.pos h2 (Ev.same h (by simp [h2]))
      · exact Ev.neg h2 (Ev.is (by simp [h2]))
theorem toList_nil_iff {a : ByteArray} : a.toList = [] ↔ a.size = 0 := by
  rw [ByteArray.toList_eq]
  refine ⟨fun h => ?_, fun h => List.eq_nil_of_length_eq_zero ?_⟩
  · have h2 : a.data.toList.length = 0 := by rw [h]; rfl
    rw [Array.length_toList] at h2
    exact h2
  · rw [Array.length_toList]; exact h
theorem spec_value (s : ByteArray) (hs : s.size < 9223372036854775807) : Ev (fun k => spec_l08Value.f k s) (plainB s && endsB s) := by
  unfold spec_l08Value.f plainB
  refine Ev.all (g := fun k x => spec_l08Value.l0 k s x) (fun i => decide (32 ≤ bt s i) && decide (bt s i ≤ 126)) (endsB s) s.size ?_ ?_
  · refine Ev.succ ?_
    simp only [spec_l08Value.l0]
    refine Ev.neg (by omega) ?_
    unfold endsB
    by_cases h0 : s.size = 0
    · exact Ev.pos (toList_nil_iff.2 h0) (Ev.is (by simp [h0]))
    · rw [wrap_less (n := s.size) (by omega) (by omega)]
      refine Ev.neg (fun h => h0 (toList_nil_iff.1 h)) (Ev.pos (by omega) ?_)
      by_cases h1 : bt s 0 = 32
      · exact Ev.pos h1 (Ev.is (by simp [h0, h1]))
      · exact Ev.neg h1 (Ev.pos (by omega) (Ev.pos (by omega) (Ev.is (by simp [h0, h1]))))
  · intro i hi r h
    have hb := bt_range s i
    refine Ev.succ ?_
    simp only [spec_l08Value.l0, spec_in, Option.bind_some, wrap_at (n := i) (by omega), wrap_id (x := bt s i) (by omega) (by omega)]
    refine Ev.pos (by omega) (Ev.pos (by omega) ?_)
    cases h1 : inB (bt s i) 32 126 with
    | true => exact Ev.pos rfl (Ev.same h (by simp only [inB] at h1; rw [h1, Bool.true_and]))
    | false => exact Ev.neg (by simp) (Ev.is (by simp only [inB] at h1; rw [h1, Bool.false_and]))
theorem trimRight (c : Int) (n : Nat) : ∀ s : ByteArray, s.size ≤ n → s.size < 9223372036854775807 → ∃ r, Ev (fun k => strings_trimRightByte.l0 k s c) r ∧ r.size ≤ s.size ∧ ((0 < s.size ∧ bt s ((s.size - 1 : Nat) : Int) = c → r.size < s.size) ∧ (¬ (0 < s.size ∧ bt s ((s.size - 1 : Nat) : Int) = c) → r = s)) := by
  induction n with
  | zero =>
    intro s hs _
    refine ⟨s, Ev.succ ?_, Nat.le_refl _, fun h => by omega, fun _ => rfl⟩
    simp only [strings_trimRightByte.l0]
    exact Ev.neg (by omega) (Ev.is rfl)
  | succ n ih =>
    intro s hs hm
    by_cases h0 : s.size = 0
    · refine ⟨s, Ev.succ ?_, Nat.le_refl _, fun h => by omega, fun _ => rfl⟩
      simp only [strings_trimRightByte.l0]
      exact Ev.neg (by omega) (Ev.is rfl)
    · by_cases h1 : bt s ((s.size - 1 : Nat) : Int) = c
      · have hz : (s.extract 0 (s.size - 1)).size = s.size - 1 := by simp
        obtain ⟨r, hr, h2, _⟩ := ih (s.extract 0 (s.size - 1)) (by omega) (by omega)
        refine ⟨r, Ev.succ ?_, by omega, fun _ => by omega, fun h => absurd ⟨by omega, h1⟩ h⟩
        simp only [strings_trimRightByte.l0, wrap_less (n := s.size) (by omega) (by omega)]
        exact Ev.pos (by omega) (Ev.pos (by omega) (Ev.pos (by omega) (Ev.pos h1 (Ev.pos (by omega) (by simpa using hr)))))
      · refine ⟨s, Ev.succ ?_, Nat.le_refl _, fun h => absurd h.2 h1, fun _ => rfl⟩
        simp only [strings_trimRightByte.l0, wrap_less (n := s.size) (by omega) (by omega)]
        exact Ev.pos (by omega) (Ev.pos (by omega) (Ev.pos (by omega) (Ev.neg h1 (Ev.is rfl))))
theorem trimLeft (c : Int) (n : Nat) : ∀ s : ByteArray, s.size ≤ n → ∃ r, Ev (fun k => strings_trimLeftByte.l0 k s c) r ∧ r.size ≤ s.size ∧ ((0 < s.size ∧ bt s 0 = c → r.size < s.size) ∧ (¬ (0 < s.size ∧ bt s 0 = c) → r = s)) := by
  induction n with
  | zero =>
    intro s hs
    refine ⟨s, Ev.succ ?_, Nat.le_refl _, fun h => by omega, fun _ => rfl⟩
    simp only [strings_trimLeftByte.l0]
    exact Ev.neg (by omega) (Ev.is rfl)
  | succ n ih =>
    intro s hs
    by_cases h0 : s.size = 0
    · refine ⟨s, Ev.succ ?_, Nat.le_refl _, fun h => by omega, fun _ => rfl⟩
      simp only [strings_trimLeftByte.l0]
      exact Ev.neg (by omega) (Ev.is rfl)
    · by_cases h1 : bt s 0 = c
      · have hz : (s.extract 1 s.size).size = s.size - 1 := by simp
        obtain ⟨r, hr, h2, _⟩ := ih (s.extract 1 s.size) (by omega)
        refine ⟨r, Ev.succ ?_, by omega, fun _ => by omega, fun h => absurd ⟨by omega, h1⟩ h⟩
        simp only [strings_trimLeftByte.l0]
        exact Ev.pos (by omega) (Ev.pos (by omega) (Ev.pos h1 (Ev.pos (by omega) hr)))
      · refine ⟨s, Ev.succ ?_, Nat.le_refl _, fun h => absurd h.2 h1, fun _ => rfl⟩
        simp only [strings_trimLeftByte.l0]
        exact Ev.pos (by omega) (Ev.pos (by omega) (Ev.neg h1 (Ev.is rfl)))
theorem impl_trim (s : ByteArray) (hs : s.size < 9223372036854775807) : ∃ r, Ev (fun k => strings_Trim.f k s ⟨#[32]⟩) r ∧ ((r.toList == s.toList) = endsB s) := by
  have hc : (⟨#[32]⟩ : ByteArray).size = 1 ∧ bt (⟨#[32]⟩ : ByteArray) 0 < 128 := ⟨rfl, by decide⟩
  have hb : bt (⟨#[32]⟩ : ByteArray) 0 = 32 := by decide
  unfold strings_Trim.f strings_trimRightByte.f strings_trimLeftByte.f
  rw [hb]
  by_cases h0 : s.size = 0
  · exact ⟨s, Ev.pos hc (Ev.pos (toList_nil_iff.2 h0) (Ev.is rfl)), by simp [endsB, h0]⟩
  · obtain ⟨x, hx, x1, x2, x3⟩ := trimRight 32 s.size s (Nat.le_refl _) hs
    obtain ⟨r, hr, r1, r2, r3⟩ := trimLeft 32 x.size x (Nat.le_refl _)
    refine ⟨r, Ev.pos hc (Ev.neg (fun h => h0 (toList_nil_iff.1 h)) (Ev.bind hx hr)), ?_⟩
    have hne : r.size < s.size → (r.toList == s.toList) = false := by
      intro h
      refine beq_eq_false_iff_ne.mpr fun e => ?_
      rw [ByteArray.toList_eq, ByteArray.toList_eq] at e
      have h2 : r.data.toList.length = s.data.toList.length := by rw [e]
      rw [Array.length_toList, Array.length_toList] at h2
      have h3 : r.size = r.data.size := rfl
      have h4 : s.size = s.data.size := rfl
      omega
    unfold endsB
    by_cases h1 : bt s ((s.size - 1 : Nat) : Int) = 32
    · rw [hne (by have := x2 ⟨by omega, h1⟩; omega)]
      simp [h0, h1]
    · have e := x3 fun h => h1 h.2
      subst e
      by_cases h2 : bt x 0 = 32
      · rw [hne (r2 ⟨by omega, h2⟩)]
        simp [h0, h2]
      · have e := r3 fun h => h2 h.2
        subst e
        simp [h0, h1, h2]
theorem impl_value (s : ByteArray) (hs : s.size < 9223372036854775807) : Ev (fun k => impl_lineValueOK.f k s) (decide (s.size ≤ 85) && (plainB s && endsB s)) := by
  unfold impl_lineValueOK.f plainB
  refine Ev.same (Ev.all (g := fun k x => impl_lineValueOK.l0 k s (s.size : Int) x) (fun i => decide (32 ≤ bt s i) && decide (bt s i ≤ 126)) (decide (s.size ≤ 85) && endsB s) s.size ?_ ?_) (by rw [← Bool.and_assoc, ← Bool.and_assoc, Bool.and_comm (decide (s.size ≤ 85))])
  · refine Ev.succ ?_
    simp only [impl_lineValueOK.l0]
    refine Ev.neg (by omega) ?_
    by_cases h0 : s.size ≤ 85
    · obtain ⟨r, hr, e⟩ := impl_trim s hs
      exact Ev.pos (by omega) (Ev.bind hr (Ev.is (by rw [e]; simp [h0])))
    · exact Ev.neg (by omega) (Ev.is (by simp [h0]))
  · intro i hi r h
    refine Ev.succ ?_
    simp only [impl_lineValueOK.l0, wrap_at (n := i) (by omega)]
    refine Ev.pos (by omega) (Ev.pos (by omega) (Ev.pos (by omega) ?_))
    by_cases h1 : bt s i < 32
    · exact Ev.pos h1 (Ev.is (by simp [show ¬ 32 ≤ bt s i by omega]))
    · by_cases h2 : bt s i > 126
      · exact Ev.neg h1 (Ev.pos h2 (Ev.is (by simp [show ¬ bt s i ≤ 126 by omega])))
      · exact Ev.neg h1 (Ev.neg h2 (Ev.same h (by simp [show 32 ≤ bt s i by omega, show bt s i ≤ 126 by omega])))
theorem impl_line (f : S37) (h0 : f.f0.size < 9223372036854775807) (h1 : f.f1.size < 9223372036854775807) : Ev (fun k => impl_MessageText_1.f k f.f0 f.f1) (!fieldB f) := by
  unfold impl_MessageText_1.f impl_lineOK.f fieldB
  refine Ev.bind (?_ : Ev _ (lineNameB f.f0 && (decide (f.f1.size ≤ 85) && (plainB f.f1 && endsB f.f1)))) (Ev.is rfl)
  refine Ev.bind (impl_lineName _ h0) ?_
  cases lineNameB f.f0 with
  | true => exact Ev.pos rfl (Ev.bind (impl_value _ h1) (Ev.is (by simp)))
  | false => exact Ev.neg (by simp) (Ev.is (by simp))
def lineT (f : S37) : ByteArray := ((f.f0 ++ (⟨#[58, 32]⟩ : ByteArray)) ++ f.f1) ++ (⟨#[10]⟩ : ByteArray)
def linesT (a : ByteArray) (l : List S37) : ByteArray := l.foldl (fun a f => a ++ lineT f) a
def fullT (l : List S37) (body : ByteArray) : ByteArray := (linesT ⟨#[]⟩ l ++ (⟨#[10]⟩ : ByteArray)) ++ body
def messageT (l : List S37) (body : ByteArray) : ByteArray × Int := if 8 < l.length ∨ 85 < body.size then (⟨#[]⟩, 1) else if l.all fieldB = true then (if 85 < (fullT l body).size then (⟨#[]⟩, 7) else (fullT l body, 0)) else (⟨#[]⟩, 1)
theorem fld_at (l : List S37) (pre rest : List S37) (x : S37) (h : l = pre ++ x :: rest) : rd_T37 l ((pre.length : Nat) : Int) = x := by
  subst h
  simp [rd_T37, List.getD_eq_getElem?_getD]
theorem fieldB_size {f : S37} (h : fieldB f = true) : f.f0.size ≤ 12 ∧ f.f1.size ≤ 85 := by
  simp only [fieldB, lineNameB, inB, Bool.and_eq_true, decide_eq_true_eq] at h
  omega
theorem lineT_size (f : S37) : (lineT f).size = f.f0.size + f.f1.size + 3 := by
  unfold lineT
  simp only [ByteArray.size_append]
  have e1 : (⟨#[58, 32]⟩ : ByteArray).size = 2 := rfl
  have e2 : (⟨#[10]⟩ : ByteArray).size = 1 := rfl
  rw [e1, e2]
  omega
theorem spec_text_loop (l : List S37) (body : ByteArray) (hl : l.length ≤ 8) (hb : body.size ≤ 85) (rest : List S37) : ∀ (pre : List S37) (acc : ByteArray), l = pre ++ rest → (∀ f, f ∈ rest → fieldB f = true) → acc.size + 100 * rest.length ≤ 100000 →
    Ev (fun k => spec_l08Text.l0 k acc ((pre.length : Nat) : Int) l body) ((linesT acc rest ++ (⟨#[10]⟩ : ByteArray)) ++ body) := by
  have e1 : (⟨#[58, 32]⟩ : ByteArray).size = 2 := rfl
  have e2 : (⟨#[10]⟩ : ByteArray).size = 1 := rfl
  induction rest with
  | nil =>
    intro pre acc h _ hz
    refine Ev.succ ?_
    simp only [spec_l08Text.l0, ByteArray.size_append, e2]
    exact Ev.neg (by rw [h]; simp) (Ev.pos (by simp at hz <;> omega) (Ev.pos (by simp at hz <;> omega) (Ev.is rfl)))
  | cons x r ih =>
    intro pre acc h hf hz
    have hx := fld_at l pre r x h
    have hlen : pre.length < l.length := by rw [h]; simp
    have hs := fieldB_size (hf x List.mem_cons_self)
    have hw := lineT_size x
    have hi := ih (pre ++ [x]) (acc ++ lineT x) (by rw [h]; simp) (fun f hf2 => hf f (List.mem_cons_of_mem _ hf2)) (by rw [ByteArray.size_append]; simp at hz ⊢ <;> omega)
    rw [← len_snoc] at hi
    simp only [List.length_cons] at hz
    refine Ev.succ ?_
    simp only [spec_l08Text.l0, hx, wrap_at (n := pre.length) (by omega)]
    exact Ev.pos (by omega) (Ev.pos (by omega) (Ev.pos (by omega) (Ev.pos (by simp only [ByteArray.size_append, e1]; omega) (Ev.pos (by simp only [ByteArray.size_append, e1]; omega) (Ev.pos (by simp only [ByteArray.size_append, e1, e2]; omega) hi)))))
theorem spec_text (l : List S37) (body : ByteArray) (hl : l.length ≤ 8) (hb : body.size ≤ 85) (hf : l.all fieldB = true) : Ev (fun k => spec_l08Text.f k l body) (fullT l body) := by
  unfold spec_l08Text.f fullT
  exact spec_text_loop l body hl hb l [] ⟨#[]⟩ rfl (List.all_eq_true.1 hf) (by simp only [show (⟨#[]⟩ : ByteArray).size = 0 from rfl]; omega)
theorem spec_mess_loop (l : List S37) (body : ByteArray) (hl : l.length ≤ 8) (hb : body.size ≤ 85) (hz : ∀ f, f ∈ l → f.f0.size < 9223372036854775807 ∧ f.f1.size < 9223372036854775807) (rest : List S37) : ∀ (pre : List S37), l = pre ++ rest → pre.all fieldB = true →
    Ev (fun k => spec_MessageText.l0 k ((pre.length : Nat) : Int) l body) (if rest.all fieldB = true then (if 85 < (fullT l body).size then (⟨#[]⟩, 7) else (fullT l body, 0)) else (⟨#[]⟩, 1)) := by
  induction rest with
  | nil =>
    intro pre h hp
    refine Ev.succ ?_
    simp only [spec_MessageText.l0]
    refine Ev.neg (by rw [h]; simp) (Ev.bind (spec_text l body hl hb (by rw [h]; simpa using hp)) ?_)
    by_cases h2 : 85 < (fullT l body).size
    · exact Ev.pos (by omega) (Ev.is (by simp [h2]))
    · exact Ev.neg (by omega) (Ev.is (by simp [h2]))
  | cons x r ih =>
    intro pre h hp
    have hx := fld_at l pre r x h
    have hlen : pre.length < l.length := by rw [h]; simp
    have hm := hz x (by rw [h]; simp)
    refine Ev.succ ?_
    simp only [spec_MessageText.l0, hx, wrap_at (n := pre.length) (by omega), List.all_cons]
    refine Ev.pos (by omega) (Ev.pos (by omega) (Ev.bind (spec_lineName _) ?_))
    cases h1 : lineNameB x.f0 with
    | false => exact Ev.neg (by simp) (Ev.is (by simp [fieldB, h1]))
    | true =>
      refine Ev.pos rfl ?_
      by_cases h2 : 85 < x.f1.size
      · exact Ev.pos (by omega) (Ev.is (by simp [fieldB, show ¬ x.f1.size ≤ 85 by omega]))
      · refine Ev.neg (by omega) (Ev.bind (spec_value _ hm.2) ?_)
        cases h3 : plainB x.f1 && endsB x.f1 with
        | false => exact Ev.neg (by simp) (Ev.is (by simp [fieldB, h3]))
        | true =>
          have hfx : fieldB x = true := by simp [fieldB, h1, h3, show x.f1.size ≤ 85 by omega]
          have hi := ih (pre ++ [x]) (by rw [h]; simp) (by simp [hfx]; simpa using hp)
          rw [← len_snoc] at hi
          exact Ev.pos rfl (Ev.same hi (by simp [hfx]))
theorem spec_message (l : List S37) (body : ByteArray) (hz : ∀ f, f ∈ l → f.f0.size < 9223372036854775807 ∧ f.f1.size < 9223372036854775807) : Ev (fun k => spec_MessageText.f k l body) (messageT l body) := by
  have hj : ∀ b : Bool, (b = true ↔ (8 < l.length ∨ 85 < body.size)) → Ev (fun k => spec_MessageText.j0 k b l body) (messageT l body) := by
    intro b hb
    refine Ev.succ ?_
    simp only [spec_MessageText.j0]
    unfold messageT
    cases b with
    | true => exact Ev.pos (by trivial) (Ev.is (by rw [if_pos (hb.1 rfl)]))
    | false =>
      have hn : ¬ (8 < l.length ∨ 85 < body.size) := fun h => by have := hb.2 h; cases this
      refine Ev.neg (by simp) (Ev.same (spec_mess_loop l body (by omega) (by omega) hz l [] rfl rfl) (by rw [if_neg hn]))
  unfold spec_MessageText.f
  by_cases h : (l.length : Int) > 8
  · exact Ev.pos h (hj true (by simp; omega))
  · refine Ev.neg h (hj _ ?_)
    simp only [decide_eq_true_eq]
    omega
theorem impl_mess_loop (l : List S37) (body : ByteArray) (hl : l.length ≤ 8) (hb : body.size ≤ 85) (rest : List S37) : ∀ (pre : List S37) (acc : ByteArray), l = pre ++ rest → (∀ f, f ∈ rest → fieldB f = true) → acc.size + 100 * rest.length ≤ 100000 →
    Ev (fun k => impl_MessageText.l0 k acc l (l.length : Int) ((pre.length : Nat) : Int) l body) (if 85 < ((linesT acc rest ++ (⟨#[10]⟩ : ByteArray)) ++ body).size then (⟨#[]⟩, 7) else ((linesT acc rest ++ (⟨#[10]⟩ : ByteArray)) ++ body, 0)) := by
  have e1 : (⟨#[58, 32]⟩ : ByteArray).size = 2 := rfl
  have e2 : (⟨#[10]⟩ : ByteArray).size = 1 := rfl
  induction rest with
  | nil =>
    intro pre acc h _ hz
    have e3 : (linesT acc [] ++ (⟨#[10]⟩ : ByteArray)) ++ body = acc ++ ((⟨#[10]⟩ : ByteArray) ++ body) := ByteArray.append_assoc
    rw [e3]
    refine Ev.succ ?_
    simp only [impl_MessageText.l0]
    refine Ev.neg (by rw [h]; simp) (Ev.pos (by omega) (Ev.pos (by simp only [ByteArray.size_append, e2]; simp at hz; omega) ?_))
    by_cases h2 : 85 < (acc ++ ((⟨#[10]⟩ : ByteArray) ++ body)).size
    · exact Ev.pos (by omega) (Ev.is (by rw [if_pos h2]))
    · exact Ev.neg (by omega) (Ev.is (by rw [if_neg h2]))
  | cons x r ih =>
    intro pre acc h hf hz
    have hx := fld_at l pre r x h
    have hlen : pre.length < l.length := by rw [h]; simp
    have hs := fieldB_size (hf x List.mem_cons_self)
    have hw := lineT_size x
    have hi := ih (pre ++ [x]) (acc ++ lineT x) (by rw [h]; simp) (fun f hf2 => hf f (List.mem_cons_of_mem _ hf2)) (by rw [ByteArray.size_append]; simp at hz ⊢ <;> omega)
    rw [← len_snoc] at hi
    simp only [List.length_cons] at hz
    refine Ev.succ ?_
    simp only [impl_MessageText.l0, hx, wrap_at (n := pre.length) (by omega)]
    exact Ev.pos (by omega) (Ev.pos (by omega) (Ev.pos (by omega) (Ev.pos (by omega) (Ev.pos (by simp only [ByteArray.size_append, e1]; omega) (Ev.pos (by simp only [ByteArray.size_append, e1]; omega) (Ev.pos (by simp only [ByteArray.size_append, e1, e2]; omega) hi))))))
theorem impl_message (l : List S37) (body : ByteArray) (hz : ∀ f, f ∈ l → f.f0.size < 9223372036854775807 ∧ f.f1.size < 9223372036854775807) : Ev (fun k => impl_MessageText.f k l body) (messageT l body) := by
  have hbad : (8 < l.length ∨ 85 < body.size) → Ev (fun k => impl_MessageText.j0 k true l body) (messageT l body) := by
    intro hb
    refine Ev.succ ?_
    simp only [impl_MessageText.j0]
    unfold messageT
    exact Ev.pos (by trivial) (Ev.is (by rw [if_pos hb]))
  unfold impl_MessageText.f
  by_cases h : (l.length : Int) > 8
  · exact Ev.pos h (hbad (by omega))
  · refine Ev.neg h ?_
    by_cases h2 : (body.size : Int) > 85
    · exact Ev.pos h2 (hbad (by omega))
    · refine Ev.neg h2 ?_
      have hn : ¬ (8 < l.length ∨ 85 < body.size) := by omega
      have hany := Ev.any (l := l) (g := fun k x => impl_MessageText_1.f k x.f0 x.f1) (v := fun x => !fieldB x) fun x hx => impl_line x (hz x hx).1 (hz x hx).2
      rw [any_not] at hany
      unfold slices_ContainsFunc_15.f
      refine Ev.bind hany ?_
      refine Ev.succ ?_
      simp only [impl_MessageText.j0]
      unfold messageT
      cases ha : l.all fieldB with
      | false => exact Ev.pos rfl (Ev.is (by rw [if_neg hn]; simp))
      | true => exact Ev.neg (by simp) (Ev.same (impl_mess_loop l body (by omega) (by omega) l [] ⟨#[]⟩ rfl (List.all_eq_true.1 ha) (by simp only [show (⟨#[]⟩ : ByteArray).size = 0 from rfl]; omega)) (by rw [if_neg hn, if_pos rfl]; rfl))
end Go.Proofs.YtgcncphdjabjjaaDoor.X
set_option linter.unusedSimpArgs false
set_option linter.unusedVariables false
namespace Go.Proofs.YtgcncphdjabjjaaDoor.X.Pure
open Go.RowKit Go.Proofs.YtgcncphdjabjjaaDoor.X Go.Proofs.YtgcncphdjabjjaaDoorW.PrintWords Go.Proofs.YtgcncphdjabjjaaDoorW.PrintLast
theorem FnExactMessageText : laws_FnExactMessageText.Pure := by
  intro l b hw hb
  refine Ev.rounds (g := fun k => laws_FnExactMessageText.f k l b) ?_
  unfold laws_FnExactMessageText.f
  obtain ⟨r, hr, hq⟩ := sz_Message ⟨l, b⟩ ⟨⟨hw.1, fun y hy => hw.2 y hy⟩, hb⟩ 1048576 1048576 (by omega) (by omega) (by omega)
  refine Ev.bind hr ?_
  by_cases h : r < 0
  · exact Ev.pos h (Ev.is rfl)
  refine Ev.neg h ?_
  have hs := (hq (by omega)).2
  have ht := to_Message ⟨l, b⟩ hs
  have hlen : (l.map cv44).length ≤ 1048576 := by rw [List.length_map]; have := hs.1.1; simp only at this; omega
  have hz : ∀ f, f ∈ l.map cv44 → f.f0.size < 9223372036854775807 ∧ f.f1.size < 9223372036854775807 := by
    intro f hf
    obtain ⟨y, hy, rfl⟩ := List.mem_map.1 hf
    have := hs.1.2 y hy
    simp only [sm44] at this
    simp only [cv44]
    omega
  have hj : Ev (fun k => laws_FnExactMessageText.j0 k false l b (l.map cv44) b) true := by
    refine Ev.succ ?_
    simp only [laws_FnExactMessageText.j0]
    exact Ev.neg (by simp) (Ev.bind ht (Ev.bind (eq_Message ⟨l.map cv44, b⟩ ⟨⟨by simp only; omega, fun y _ => ⟨trivial, trivial⟩⟩, trivial⟩) (Ev.pos rfl (Ev.is rfl))))
  refine Ev.bind ht (Ev.bind (spec_message _ b hz) (Ev.bind ht (Ev.bind (impl_message _ b hz) (Ev.pos rfl ?_))))
  simp only [bne_self_eq_false]
  exact hj
end Go.Proofs.YtgcncphdjabjjaaDoor.X.Pure
namespace Go.Proofs.YtgcncphdjabjjaaDoor.fnExactMessageText
open Go.ChangeShapes Go.WideShapes Go.ChangeAt Go.RowKit Go.Proofs.YtgcncphdjabjjaaDoor.X Go.Proofs.YtgcncphdjabjjaaDoorW.PrintWords
open Go.ChangeMaps (open_string shut_string)
set_option linter.unusedVariables false
theorem own : ownKnob Tryd.prog.godebug = none := by kernel_rfl
theorem laidOut : laidOutB Tryd.prog = true := by kernel_rfl
set_option maxRecDepth 100000 in
theorem lifted (os : Os) (started : os.Started) (H : Type) (enc : TypeId × Value → H) :
    ReturnsInHanded {} Tryd.checked os 3 .any (fun w args => (Rows.fnExactMessageTextSpec.pre enc Tryd.prog Tryd.f3 Rows.fnExactMessageTextRow.domain false w args ∧ laidMetH Tryd.prog Rows.fnExactMessageTextRow.laid w) ∧ sizedMet enc Tryd.prog Tryd.f3 (OpenSpec.ofChange Rows.fnExactMessageTextSpec) false w args) (Rows.fnExactMessageTextSpec.post enc Tryd.prog Tryd.f3 false true false false) := by
  refine returnsInHanded_of_change_and (C := Tryd.checked) (X := fun w _ => laidMetH Tryd.prog Rows.fnExactMessageTextRow.laid w) (fun _ _ _ hh h => h.of_heap hh) own started (by kernel_rfl) Tryd.func3
    (ChangeSpec.witness_shaped (enc := enc) (C := Tryd.checked) (os := os) (X := fun w _ => laidMetH Tryd.prog Rows.fnExactMessageTextRow.laid w) false (World.laidAll Tryd.prog os Rows.fnExactMessageTextRow.laid) #[.agg #[.slice none 0 0, .string ByteArray.empty]] 8 (World.laidAll_os _ _ _)
      (World.shaped_of_ZipB (by kernel_rfl) (by kernel_rfl)) (by kernel_rfl) (by kernel_rfl) (by kernel_rfl)
      (by rw [MakeChecks.laidMetH_plain _ _ _ (by kernel_rfl)]; exact laidMet_laidAll _ (by kernel_rfl) (by kernel_rfl))) ?_
  intro W base args ds gs before hval0 hW hcnd hsz0 hL0 _
  have hsz : (DataW.weightsEach Tryd.prog (Tryd.f3.params.toList ++ Rows.fnExactMessageTextSpec.plain.varTypes Tryd.prog) (ds ++ gs)).all (· ≤ reachBytes) = true := hsz0
  have hval : ∀ (j : Nat) t v, Tryd.f3.params[j]? = some t → args[j]? = some v → Value.okWide Tryd.prog W .any base t v := hval0
  have hW' := hW
  obtain ⟨p, q, hA0, hV, rfl, hfz, hnd⟩ := hW
  have hA : DataW.TrodAll enc Tryd.prog W 0 (fun _ => true) true Tryd.f3.params.toList args.toList ds p := hA0
  rw [Tryd.params3] at hA hval hsz
  obtain ⟨v0, vs0, d0, ds0, p0, q0, hargs, rfl, rfl, h0, r0⟩ := trodAll_cons hA
  obtain ⟨rfl, rfl, rfl⟩ := trodAll_nil r0
  obtain rfl : args = #[v0] := by cases args; simp_all
  obtain ⟨rfl, rfl⟩ := trodVars_none hV
  have k0 := h0
  have lt0 : ∀ x ∈ p0, x.block < W.heap.size := by obtain ⟨m, hm⟩ := k0; exact DataW.trod_lt m _ _ _ hm
  obtain ⟨x0, cs0, rfl, hK0, hw0⟩ := Opens.agg_arg opens24 Tryd.underlying24 (hval 0 24 v0 rfl rfl) h0
  obtain ⟨A0_0, c0_0, rfl, hc0_0, hr0_0⟩ := k24_open hK0
  obtain ⟨l0_0, a0_1⟩ := x0
  clear hA0 hval0 hsz0 hsz
  obtain ⟨k, hP⟩ := X.Pure.FnExactMessageText l0_0 a0_1 hw0.1 hw0.2
  refine (laws_FnExactMessageText.calls k A0_0 c0_0 l0_0 a0_1 true W hr0_0 hc0_0 hP).mono fun e W' hQ => ?_
  obtain ⟨he, bel0⟩ := hQ
  subst he
  have bel : Below W.heap.size W W' := bel0
  exact ⟨_, rfl, _, _, _, [], _, [], hW', trodAll_mk1 (shut_bool Tryd.underlying4 _), (trodAll_cons_mk (Below.trod laidOut (by kernel_rfl) (of_decide_eq_true (by kernel_rfl)) k0 bel lt0) trodAll_mk0), rfl, bel.frame _, fun h => by cases h⟩
theorem over : Rows.fnExactMessageTextRow.holds Tryd.pinned (OpenSpec.ofChange Rows.fnExactMessageTextSpec) :=
  OpenClaim.holds_of_wide 3 Tryd.f3 rfl rfl rfl rfl rfl rfl rfl ⟨rfl, rfl, rfl, rfl, rfl⟩ rfl rfl rfl rfl rfl (by kernel_rfl) Tryd.func3 (by kernel_rfl)
    (of_decide_eq_true (by kernel_rfl)) (by unfold Func.isWrapper; first | (rw [if_pos (by decide +kernel)]; kernel_rfl) | (rw [if_neg (by decide +kernel)]; exact ⟨rfl, rfl⟩))
    (fun os started H enc _ => lifted os started H enc)
theorem proved : Rows.FnExactMessageTextSaid := over
theorem card : Rows.FnExactMessageTextCardSaid :=
  Claim7.holds_tied_plain_at .later [] [.data, .pinned] true (true, "90b142e5987c0f3ff987836c2215b6e379401ddc8844b7bdbf6a1e97051d8cce") false proved (fun _ h => by cases h) (by kernel_rfl) (fun _ h => by cases h) fnExactMessageText_row_tie rfl ⟨rfl, rfl⟩ (by kernel_rfl) rfl
    (fun f fn hf hfn => by
      obtain rfl : f = 3 := Option.some.inj ((show Tryd.prog.funcNamed "loop.example/g00340/laws.FnExactMessageText" = some 3 by kernel_rfl).symm.trans hf) |>.symm
      obtain rfl : fn = Tryd.f3 := (Option.some.inj (Tryd.func3.symm.trans hfn)).symm
      exact ⟨by kernel_rfl, fun j t ht => by
        rw [Tryd.params3] at ht
        have hm : t ∈ [24] := by simpa using Array.mem_of_getElem? ht
        have hall : ([24].all fun u => !Tryd.prog.wantsStandIn u) = true := by kernel_rfl
        exact (show Tryd.prog.wantsStandIn t = false by simpa using List.all_eq_true.1 hall t hm)⟩)
    (by kernel_rfl)
end Go.Proofs.YtgcncphdjabjjaaDoor.fnExactMessageText
namespace Go.Proofs.YtgcncphdjabjjaaDoor
theorem fnExactMessageText_holds : Rows.FnExactMessageTextCardSaid := fnExactMessageText.card
end Go.Proofs.YtgcncphdjabjjaaDoor
