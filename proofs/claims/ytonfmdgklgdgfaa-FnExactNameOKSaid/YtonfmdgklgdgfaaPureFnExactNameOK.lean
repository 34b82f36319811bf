/- The law FnExactNameOK returns true for every string: the program's NameOK answers as the reference. No conditions. -/
import Derived.Test.YtonfmdgklgdgfaaPFnExactNameOKx2
set_option linter.unusedSimpArgs false
namespace Go.Proofs.Ytonfmdgklgdgfaa.Pure
open Go.RowKit Go.Proofs.Ytonfmdgklgdgfaa.PFnExactNameOK Go.Proofs.YtonfmdgklgdgfaaW.PrintWords Go.Proofs.YtonfmdgklgdgfaaW.PrintLast

def letter (c : Int) : Bool := decide (97 ≤ c ∧ c ≤ 122) || (decide (65 ≤ c ∧ c ≤ 90) || c == 95)
def digit (c : Int) : Bool := decide (48 ≤ c ∧ c ≤ 57)
/-- From byte i on, d bytes being left: letters and digits alone. -/
def wordy (s : ByteArray) : Nat → Nat → Bool
  | 0, _ => true
  | d + 1, i => (letter (bt s i) || digit (bt s i)) && wordy s d (i + 1)
def nameOK (s : ByteArray) : Bool := decide (1 ≤ s.size ∧ s.size ≤ 40) && (letter (bt s 0) && wordy s (s.size - 1) 1)
theorem wrap_up {i : Nat} (h : i < 1048576) : wrap64 ((i : Int) + 1) = ((i + 1 : Nat) : Int) := by unfold wrap64; omega
theorem letter1 (c : Int) : spec_l00Letter.f c = some (letter c) := by
  unfold spec_l00Letter.f letter
  by_cases h1 : c ≥ 97 <;> by_cases h2 : c ≤ 122 <;> by_cases h3 : c ≥ 65 <;> by_cases h4 : c ≤ 90 <;> simp [*] <;> omega
theorem letter2 (c : Int) : impl_isLetter.f c = some (letter c) := by
  unfold impl_isLetter.f letter
  by_cases h1 : c ≥ 97 <;> by_cases h2 : c ≤ 122 <;> by_cases h3 : c ≥ 65 <;> by_cases h4 : c ≤ 90 <;> simp [*] <;> omega
theorem digit1 (c : Int) : spec_l00Digit.f c = some (digit c) := by
  unfold spec_l00Digit.f digit
  by_cases h1 : c ≥ 48 <;> by_cases h2 : c ≤ 57 <;> simp [*] <;> omega
theorem digit2 (c : Int) : impl_isDigit.f c = some (digit c) := by
  unfold impl_isDigit.f digit
  by_cases h1 : c ≥ 48 <;> by_cases h2 : c ≤ 57 <;> simp [*] <;> omega
theorem not_both (c : Int) : digit c = true → letter c = false := by
  unfold digit letter
  intro h
  simp at h ⊢
  omega
theorem spec_loop (s : ByteArray) (hs : s.size ≤ 1048576) (d : Nat) : ∀ i : Nat, i + d = s.size → Ev (fun k => spec_l00Word.l0 k s (i : Int)) (wordy s d i) := by
  induction d with
  | zero =>
    intro i hi
    refine Ev.step (f := fun _ => some true) (fun k => ?_) (Ev.now _)
    simp only [spec_l00Word.l0]
    rw [if_neg (by omega)]
  | succ d ih =>
    intro i hi
    have hrec := ih (i + 1) (by omega)
    by_cases hl : letter (bt s i) = true
    · refine Ev.step (f := fun k => spec_l00Word.l0 k s ((i + 1 : Nat) : Int)) (fun k => ?_) ?_
      · simp only [spec_l00Word.l0]
        rw [if_pos (by omega), if_pos (by omega), letter1, Option.bind_some, if_pos hl, wrap_up (by omega)]
      · simpa [wordy, hl] using hrec
    · by_cases hd : digit (bt s i) = true
      · refine Ev.step (f := fun k => spec_l00Word.l0 k s ((i + 1 : Nat) : Int)) (fun k => ?_) ?_
        · simp only [spec_l00Word.l0]
          rw [if_pos (by omega), if_pos (by omega), letter1, Option.bind_some, if_neg hl, digit1, Option.bind_some, if_pos hd, wrap_up (by omega)]
        · simpa [wordy, hl, hd] using hrec
      · refine Ev.step (f := fun _ => some false) (fun k => ?_) ?_
        · simp only [spec_l00Word.l0]
          rw [if_pos (by omega), if_pos (by omega), letter1, Option.bind_some, if_neg hl, digit1, Option.bind_some, if_neg hd]
        · simp [wordy, hl, hd]; exact Ev.now false
theorem impl_loop (s : ByteArray) (hs : s.size ≤ 1048576) (d : Nat) : ∀ i : Nat, i + d = s.size → Ev (fun k => impl_NameOK.l0 k s ((s.size : Nat) : Int) (i : Int)) (wordy s d i) := by
  induction d with
  | zero =>
    intro i hi
    refine Ev.step (f := fun _ => some true) (fun k => ?_) (Ev.now _)
    simp only [impl_NameOK.l0]
    rw [if_neg (by omega)]
  | succ d ih =>
    intro i hi
    have hrec := ih (i + 1) (by omega)
    by_cases hl : letter (bt s i) = true
    · refine Ev.step (f := fun k => impl_NameOK.l0 k s ((s.size : Nat) : Int) ((i + 1 : Nat) : Int)) (fun k => ?_) ?_
      · simp only [impl_NameOK.l0]
        rw [if_pos (by omega), if_pos (by omega), if_pos (by omega), letter2, Option.bind_some, if_pos hl, wrap_up (by omega)]
      · simpa [wordy, hl] using hrec
    · by_cases hd : digit (bt s i) = true
      · refine Ev.step (f := fun k => impl_NameOK.l0 k s ((s.size : Nat) : Int) ((i + 1 : Nat) : Int)) (fun k => ?_) ?_
        · simp only [impl_NameOK.l0]
          rw [if_pos (by omega), if_pos (by omega), if_pos (by omega), letter2, Option.bind_some, if_neg hl, digit2, Option.bind_some, if_pos hd, wrap_up (by omega)]
        · simpa [wordy, hl, hd] using hrec
      · refine Ev.step (f := fun _ => some false) (fun k => ?_) ?_
        · simp only [impl_NameOK.l0]
          rw [if_pos (by omega), if_pos (by omega), if_pos (by omega), letter2, Option.bind_some, if_neg hl, digit2, Option.bind_some, if_neg hd]
        · simp [wordy, hl, hd]; exact Ev.now false
theorem spec_j (s : ByteArray) (b : Bool) (hs : s.size ≤ 1048576) (h1 : 1 ≤ s.size ∨ b = true) : Ev (fun k => spec_l00Word.j0 k s b) (!b && wordy s (s.size - 1) 1) := by
  cases b with
  | true =>
    refine Ev.step (f := fun _ => some false) (fun k => ?_) (Ev.now _)
    simp [spec_l00Word.j0]
  | false =>
    refine Ev.step (f := fun k => spec_l00Word.l0 k s ((1 : Nat) : Int)) (fun k => ?_) ?_
    · simp [spec_l00Word.j0]
    · simpa using spec_loop s hs (s.size - 1) 1 (by rcases h1 with h1 | h1 <;> first | omega | cases h1)
theorem impl_j (s : ByteArray) (b : Bool) (hs : s.size ≤ 1048576) : Ev (fun k => impl_NameOK.j0 k s b) (!b && wordy s s.size 0) := by
  cases b with
  | true =>
    refine Ev.step (f := fun _ => some false) (fun k => ?_) (Ev.now _)
    simp [impl_NameOK.j0]
  | false =>
    refine Ev.step (f := fun k => impl_NameOK.l0 k s ((s.size : Nat) : Int) ((0 : Nat) : Int)) (fun k => ?_) ?_
    · simp [impl_NameOK.j0]
    · simpa using impl_loop s hs s.size 0 (by omega)
theorem spec_name (s : ByteArray) (hs : s.size ≤ 1048576) : Ev (fun k => spec_NameOK.f k s) (nameOK s) := by
  unfold spec_NameOK.f spec_l00Word.f
  refine Ev.bind ?_ (Ev.now _)
  by_cases h1 : (s.size : Int) < 1
  · simp only [if_pos h1]
    have := spec_j s true hs (.inr rfl)
    simpa [nameOK, show ¬ (1 ≤ s.size) by omega] using this
  simp only [if_neg h1]
  by_cases h2 : (s.size : Int) > 40
  · simp only [if_pos h2]
    have := spec_j s true hs (.inr rfl)
    simpa [nameOK, show ¬ (s.size ≤ 40) by omega] using this
  simp only [if_neg h2, if_pos (show 0 < (s.size : Int) by omega), letter1, Option.bind_some]
  have := spec_j s (!letter (bt s 0)) hs (.inl (by omega))
  simpa [nameOK, show s.size ≤ 40 by omega, show 1 ≤ s.size by omega] using this
theorem impl_name (s : ByteArray) (hs : s.size ≤ 1048576) : Ev (fun k => impl_NameOK.f k s) (nameOK s) := by
  unfold impl_NameOK.f impl_within.f
  by_cases h1 : (s.size : Int) < 1
  · simp only [if_neg (show ¬ (s.size : Int) ≥ 1 by omega), Option.bind_some, Bool.false_eq_true, if_false]
    have := impl_j s true hs
    simpa [nameOK, show ¬ (1 ≤ s.size) by omega] using this
  simp only [if_pos (show (s.size : Int) ≥ 1 by omega), Option.bind_some]
  by_cases h2 : (s.size : Int) > 40
  · simp only [show decide ((s.size : Int) ≤ 40) = false from decide_eq_false (by omega), Bool.false_eq_true, if_false]
    have := impl_j s true hs
    simpa [nameOK, show ¬ (s.size ≤ 40) by omega] using this
  simp only [show decide ((s.size : Int) ≤ 40) = true from decide_eq_true (by omega), if_true, if_pos (show 0 < (s.size : Int) by omega), digit2, Option.bind_some]
  have h := impl_j s (digit (bt s 0)) hs
  have e : (!digit (bt s 0) && wordy s s.size 0) = nameOK s := by
    obtain ⟨m, hm⟩ : ∃ m, s.size = m + 1 := ⟨s.size - 1, by omega⟩
    have hz : bt s ((0 : Nat) : Int) = bt s 0 := rfl
    unfold nameOK
    rw [hm]
    simp only [wordy, Nat.zero_add, Nat.add_sub_cancel, hz]
    rw [show decide (1 ≤ m + 1 ∧ m + 1 ≤ 40) = true from decide_eq_true (by omega), Bool.true_and]
    cases hd : digit (bt s 0) with
    | true => simp [not_both _ hd]
    | false => simp
  rw [← e]; exact h

theorem FnExactNameOK : laws_FnExactNameOK.Pure := by
  intro s _
  refine Ev.rounds (g := fun k => laws_FnExactNameOK.f k s) ?_
  unfold laws_FnExactNameOK.f
  by_cases hbig : (s.size : Int) > 1048576
  · simp only [if_pos hbig]
    exact Ev.now true
  simp only [if_neg hbig]
  refine Ev.bind (spec_name s (by omega)) (Ev.bind (impl_name s (by omega)) ?_)
  simp only [bne_self_eq_false, Bool.false_eq_true, if_false]
  exact Ev.now true

end Go.Proofs.Ytonfmdgklgdgfaa.Pure
