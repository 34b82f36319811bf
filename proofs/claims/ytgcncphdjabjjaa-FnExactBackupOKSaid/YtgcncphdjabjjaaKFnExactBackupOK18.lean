import Derived.Test.YtgcncphdjabjjaaKFnExactBackupOK3
import Derived.Test.YtgcncphdjabjjaaKFnExactBackupOK5
import Derived.Test.YtgcncphdjabjjaaKFnExactBackupOK6
import Derived.Test.YtgcncphdjabjjaaKFnExactBackupOK8
import Derived.Test.YtgcncphdjabjjaaKFnExactBackupOK9
import Derived.Test.YtgcncphdjabjjaaKFnExactBackupOK10
import Derived.Test.YtgcncphdjabjjaaKFnExactBackupOK11
import Derived.Test.YtgcncphdjabjjaaKFnExactBackupOK12
import Derived.Test.YtgcncphdjabjjaaKFnExactBackupOK17
import Derived.Test.YtgcncphdjabjjaaRows
import Derived.WalkKit
import Derived.ProofKit
import Derived.OpenShut
import Derived.ShutString
import Derived.ChangeOld
import Derived.Below
import Derived.SizedLaws
namespace Go.Proofs.Ytgcncphdjabjjaa.X
open Go.RowKit Go.Proofs.YtgcncphdjabjjaaW.PrintWords Go.Proofs.YtgcncphdjabjjaaW.PrintLast Go.Proofs.YtgcncphdjabjjaaW.PrintMore
attribute [local go_sem] xbin_geq xbin_leq xbin_gtr max2_int min2_int max_two min_two max_three min_three max_four min_four
set_option linter.unusedVariables false
set_option linter.unusedSimpArgs false
def letter (c : Int) : Bool := decide (97 ≤ c ∧ c ≤ 122) || (decide (65 ≤ c ∧ c ≤ 90) || c == 95)
def digit (c : Int) : Bool := decide (48 ≤ c ∧ c ≤ 57)
def wordy (s : ByteArray) : Nat → Nat → Bool
  | 0, _ => true
  | d + 1, i => (letter (bt s i) || digit (bt s i)) && wordy s d (i + 1)
def nameOK (s : ByteArray) : Bool := decide (1 ≤ s.size ∧ s.size ≤ 40) && (letter (bt s 0) && wordy s (s.size - 1) 1)
theorem wrap_up_ {i : Nat} (h : i < 1048576) : wrap64 ((i : Int) + 1) = ((i + 1 : Nat) : Int) := by unfold wrap64; omega
theorem letter1 (c : Int) : spec_l00Letter.f c = some (letter c) := by
  unfold spec_l00Letter.f letter
  by_cases h1 : c ≥ 97 <;> by_cases h2 : c ≤ 122 <;> by_cases h3 : c ≥ 65 <;> by_cases h4 : c ≤ 90 <;> simp [*] <;> omega
theorem letter2 (c : Int) : impl_isLetter.f c = some (letter c) := by
  unfold impl_isLetter.f letter
  by_cases h1 : c ≥ 97 <;> by_cases h2 : c ≤ 122 <;> by_cases h3 : c ≥ 65 <;> by_cases h4 : c ≤ 90 <;> simp [*] <;> omega
theorem digit1 (c : Int) : spec_l00Digit.f c = some (digit c) := by
  unfold spec_l00Digit.f digit
  by_cases h1 : c ≥ 48 <;> by_cases h2 : c ≤ 57 <;> simp [*] <;> omega
theorem digit2 (c : Int) : impl_isDigit.f c = some (digit c) := by
  unfold impl_isDigit.f digit
  by_cases h1 : c ≥ 48 <;> by_cases h2 : c ≤ 57 <;> simp [*] <;> omega
theorem not_both (c : Int) : digit c = true → letter c = false := by
  unfold digit letter
  intro h
  simp at h ⊢
  omega
theorem spec_loop (s : ByteArray) (hs : s.size ≤ 1048576) (d : Nat) : ∀ i : Nat, i + d = s.size → Ev (fun k => spec_l00Word.l0 k s (i : Int)) (wordy s d i) := by
  induction d with
  | zero =>
    intro i hi
    refine Ev.step (f := fun _ => some true) (fun k => ?_) (Ev.now _)
    simp only [spec_l00Word.l0]
    rw [if_neg (by omega)]
  | succ d ih =>
    intro i hi
    have hrec := ih (i + 1) (by omega)
    by_cases hl : letter (bt s i) = true
    · refine Ev.step (f := fun k => spec_l00Word.l0 k s ((i + 1 : Nat) : Int)) (fun k => ?_) ?_
      · simp only [spec_l00Word.l0]
        rw [if_pos (by omega), if_pos (by omega), letter1, Option.bind_some, if_pos hl, wrap_up_ (by omega)]
      · simpa [wordy, hl] using hrec
    · by_cases hd : digit (bt s i) = true
      · refine Ev.step (f := fun k => spec_l00Word.l0 k s ((i + 1 : Nat) : Int)) (fun k => ?_) ?_
        · simp only [spec_l00Word.l0]
          rw [if_pos (by omega), if_pos (by omega), letter1, Option.bind_some, if_neg hl, digit1, Option.bind_some, if_pos hd, wrap_up_ (by omega)]
        · simpa [wordy, hl, hd] using hrec
      · refine Ev.step (f := fun _ => some false) (fun k => ?_) ?_
        · simp only [spec_l00Word.l0]
          rw [if_pos (by omega), if_pos (by omega), letter1, Option.bind_some, if_neg hl, digit1, Option.bind_some, if_neg hd]
        · simp [wordy, hl, hd]; exact Ev.now false
theorem impl_loop (s : ByteArray) (hs : s.size ≤ 1048576) (d : Nat) : ∀ i : Nat, i + d = s.size → Ev (fun k => impl_NameOK.l0 k s ((s.size : Nat) : Int) (i : Int)) (wordy s d i) := by
  induction d with
  | zero =>
    intro i hi
    refine Ev.step (f := fun _ => some true) (fun k => ?_) (Ev.now _)
    simp only [impl_NameOK.l0]
    rw [if_neg (by omega)]
  | succ d ih =>
    intro i hi
    have hrec := ih (i + 1) (by omega)
    by_cases hl : letter (bt s i) = true
    · refine Ev.step (f := fun k => impl_NameOK.l0 k s ((s.size : Nat) : Int) ((i + 1 : Nat) : Int)) (fun k => ?_) ?_
      · simp only [impl_NameOK.l0]
        rw [if_pos (by omega), if_pos (by omega), if_pos (by omega), letter2, Option.bind_some, if_pos hl, wrap_up_ (by omega)]
      · simpa [wordy, hl] using hrec
    · by_cases hd : digit (bt s i) = true
      · refine Ev.step (f := fun k => impl_NameOK.l0 k s ((s.size : Nat) : Int) ((i + 1 : Nat) : Int)) (fun k => ?_) ?_
        · simp only [impl_NameOK.l0]
          rw [if_pos (by omega), if_pos (by omega), if_pos (by omega), letter2, Option.bind_some, if_neg hl, digit2, Option.bind_some, if_pos hd, wrap_up_ (by omega)]
        · simpa [wordy, hl, hd] using hrec
      · refine Ev.step (f := fun _ => some false) (fun k => ?_) ?_
        · simp only [impl_NameOK.l0]
          rw [if_pos (by omega), if_pos (by omega), if_pos (by omega), letter2, Option.bind_some, if_neg hl, digit2, Option.bind_some, if_neg hd]
        · simp [wordy, hl, hd]; exact Ev.now false
theorem spec_j (s : ByteArray) (b : Bool) (hs : s.size ≤ 1048576) (h1 : 1 ≤ s.size ∨ b = true) : Ev (fun k => spec_l00Word.j0 k s b) (!b && wordy s (s.size - 1) 1) := by
  cases b with
  | true =>
    refine Ev.step (f := fun _ => some false) (fun k => ?_) (Ev.now _)
    simp [spec_l00Word.j0]
  | false =>
    refine Ev.step (f := fun k => spec_l00Word.l0 k s ((1 : Nat) : Int)) (fun k => ?_) ?_
    · simp [spec_l00Word.j0]
    · simpa using spec_loop s hs (s.size - 1) 1 (by rcases h1 with h1 | h1 <;> first | omega | cases h1)
theorem impl_j (s : ByteArray) (b : Bool) (hs : s.size ≤ 1048576) : Ev (fun k => impl_NameOK.j0 k s b) (!b && wordy s s.size 0) := by
  cases b with
  | true =>
    refine Ev.step (f := fun _ => some false) (fun k => ?_) (Ev.now _)
    simp [impl_NameOK.j0]
  | false =>
    refine Ev.step (f := fun k => impl_NameOK.l0 k s ((s.size : Nat) : Int) ((0 : Nat) : Int)) (fun k => ?_) ?_
    · simp [impl_NameOK.j0]
    · simpa using impl_loop s hs s.size 0 (by omega)
theorem spec_name (s : ByteArray) (hs : s.size ≤ 1048576) : Ev (fun k => spec_NameOK.f k s) (nameOK s) := by
  unfold spec_NameOK.f spec_l00Word.f
  refine Ev.bind ?_ (Ev.now _)
  by_cases h1 : (s.size : Int) < 1
  · simp only [if_pos h1]
    have := spec_j s true hs (.inr rfl)
    simpa [nameOK, show ¬ (1 ≤ s.size) by omega] using this
  simp only [if_neg h1]
  by_cases h2 : (s.size : Int) > 40
  · simp only [if_pos h2]
    have := spec_j s true hs (.inr rfl)
    simpa [nameOK, show ¬ (s.size ≤ 40) by omega] using this
  simp only [if_neg h2, if_pos (show 0 < (s.size : Int) by omega), letter1, Option.bind_some]
  have := spec_j s (!letter (bt s 0)) hs (.inl (by omega))
  simpa [nameOK, show s.size ≤ 40 by omega, show 1 ≤ s.size by omega] using this
theorem impl_name (s : ByteArray) (hs : s.size ≤ 1048576) : Ev (fun k => impl_NameOK.f k s) (nameOK s) := by
  unfold impl_NameOK.f impl_within.f
  by_cases h1 : (s.size : Int) < 1
  · simp only [if_neg (show ¬ (s.size : Int) ≥ 1 by omega), Option.bind_some, Bool.false_eq_true, if_false]
    have := impl_j s true hs
    simpa [nameOK, show ¬ (1 ≤ s.size) by omega] using this
  simp only [if_pos (show (s.size : Int) ≥ 1 by omega), Option.bind_some]
  by_cases h2 : (s.size : Int) > 40
  · simp only [show decide ((s.size : Int) ≤ 40) = false from decide_eq_false (by omega), Bool.false_eq_true, if_false]
    have := impl_j s true hs
    simpa [nameOK, show ¬ (s.size ≤ 40) by omega] using this
  simp only [show decide ((s.size : Int) ≤ 40) = true from decide_eq_true (by omega), if_true, if_pos (show 0 < (s.size : Int) by omega), digit2, Option.bind_some]
  have h := impl_j s (digit (bt s 0)) hs
  have e : (!digit (bt s 0) && wordy s s.size 0) = nameOK s := by
    obtain ⟨m, hm⟩ : ∃ m, s.size = m + 1 := ⟨s.size - 1, by omega⟩
    have hz : bt s ((0 : Nat) : Int) = bt s 0 := rfl
    unfold nameOK
    rw [hm]
    simp only [wordy, Nat.zero_add, Nat.add_sub_cancel, hz]
    rw [show decide (1 ≤ m + 1 ∧ m + 1 ≤ 40) = true from decide_eq_true (by omega), Bool.true_and]
    cases hd : digit (bt s 0) with
    | true => simp [not_both _ hd]
    | false => simp
  rw [← e]; exact h
end Go.Proofs.Ytgcncphdjabjjaa.X
namespace Go.Proofs.Ytgcncphdjabjjaa.X
open Go.RowKit Go.Proofs.YtgcncphdjabjjaaW.PrintWords Go.Proofs.YtgcncphdjabjjaaW.PrintLast Go.Proofs.YtgcncphdjabjjaaW.PrintMore
attribute [local go_sem] xbin_geq xbin_leq xbin_gtr max2_int min2_int max_two min_two max_three min_three max_four min_four
set_option linter.unusedVariables false
set_option linter.unusedSimpArgs false
def shortB (s : ByteArray) : Bool := decide (s.size ≤ 8) && nameOK s
theorem spec_short (s : ByteArray) : Ev (fun k => spec_l04Name.f k s) (shortB s) := by
  unfold spec_l04Name.f shortB
  by_cases h : s.size ≤ 8
  · exact Ev.pos (by omega) (Ev.bind (spec_name s (by omega)) (Ev.is (by simp [h])))
  · exact Ev.neg (by omega) (Ev.is (by simp [h]))
theorem impl_short (s : ByteArray) : Ev (fun k => impl_shortName.f k s) (shortB s) := by
  unfold impl_shortName.f shortB
  by_cases h : s.size ≤ 8
  · exact Ev.pos (by omega) (Ev.bind (impl_name s (by omega)) (Ev.is (by simp [h])))
  · exact Ev.neg (by omega) (Ev.is (by simp [h]))
end Go.Proofs.Ytgcncphdjabjjaa.X
namespace Go.Proofs.Ytgcncphdjabjjaa.X
open Go.RowKit Go.Proofs.YtgcncphdjabjjaaW.PrintWords Go.Proofs.YtgcncphdjabjjaaW.PrintLast Go.Proofs.YtgcncphdjabjjaaW.PrintMore
attribute [local go_sem] xbin_geq xbin_leq xbin_gtr max2_int min2_int max_two min_two max_three min_three max_four min_four
set_option linter.unusedVariables false
set_option linter.unusedSimpArgs false
def diffOne (d : S82) : Bool := keyB d.f0 && (decide (d.f1.size ≤ 90) && (decide (d.f2.size ≤ 90) && (if d.f3 = true then (d.f4 || d.f2.toList == ([] : List UInt8)) else (d.f4 && d.f1.toList == ([] : List UInt8)))))
def diffAt (l : List S82) (i : Nat) : Bool := diffOne (rd_T82 l i) && (decide (i = 0) || Op.bytesLess (rd_T82 l ((i - 1 : Nat) : Int)).f0.toList (rd_T82 l i).f0.toList)
def headB (a b : ByteArray) (n : Int) : Bool := if a.toList = [] then (shortB b && (inB n 0 4294967295 && decide (n = 0))) else (shortB a && (shortB b && inB n 0 4294967295))
def backupB (a b : ByteArray) (n : Int) (l : List S82) (s : Int) : Bool := headB a b n && (inB s 0 4294967295 && (decide (l.length ≤ 120) && allB (diffAt l) l.length))
theorem impl_diff (d : S82) : impl_diffOK.f d.f0 d.f1 d.f2 d.f3 d.f4 = some (diffOne d) := by
  unfold impl_diffOK.f diffOne
  rw [impl_key, Option.bind_some]
  have e1 : ((d.f1.size : Int) ≤ 90) = (d.f1.size ≤ 90) := propext (by omega)
  have e2 : ((d.f2.size : Int) ≤ 90) = (d.f2.size ≤ 90) := propext (by omega)
  simp only [e1, e2]
  by_cases h1 : d.f1.size ≤ 90 <;> by_cases h2 : d.f2.size ≤ 90 <;> cases h0 : keyB d.f0 <;> cases h3 : d.f3 <;> cases h4 : d.f4 <;> simp [h1, h2] <;> (by_cases h5 : d.f1.toList = ([] : List UInt8) <;> simp [h5])
theorem impl_backup_loop (a b : ByteArray) (n : Int) (l : List S82) (s : Int) (hl : l.length < 9223372036854775807) : Ev (fun k => impl_BackupOK.l0 k l (l.length : Int) 0 a b n l s) (allB (diffAt l) l.length) := by
  refine Ev.same (Ev.all (g := fun k x => impl_BackupOK.l0 k l (l.length : Int) x a b n l s) (diffAt l) true l.length ?_ ?_) (by simp)
  · refine Ev.succ ?_
    simp only [impl_BackupOK.l0]
    exact Ev.neg (by omega) (Ev.is rfl)
  · intro i hi r h
    refine Ev.succ ?_
    simp only [impl_BackupOK.l0, impl_diff, Option.bind_some, wrap_at (n := i) (by omega)]
    refine Ev.pos (by omega) (Ev.pos (by omega) (Ev.pos (by omega) ?_))
    cases h1 : diffOne (rd_T82 l i) with
    | false => exact Ev.neg (by simp) (Ev.is (by simp [diffAt, h1]))
    | true =>
      refine Ev.pos rfl ?_
      by_cases h0 : i = 0
      · subst h0
        exact Ev.neg (by omega) (Ev.same h (by simp [diffAt] at *; simp [h1]))
      · simp only [wrap_less (n := i) (by omega) (by omega)]
        refine Ev.pos (by omega) (Ev.pos (by omega) (Ev.pos (by omega) ?_))
        cases h4 : Op.bytesLess (rd_T82 l ((i - 1 : Nat) : Int)).f0.toList (rd_T82 l i).f0.toList with
        | false => exact Ev.neg (by simp) (Ev.is (by simp [diffAt, h4, h0]))
        | true => exact Ev.pos rfl (Ev.same h (by simp [diffAt, h1, h4, h0]))
theorem spec_backup_loop (a b : ByteArray) (n : Int) (l : List S82) (s : Int) (hl : l.length < 9223372036854775807) : Ev (fun k => spec_BackupOK.l0 k 0 a b n l s) (allB (diffAt l) l.length) := by
  refine Ev.same (Ev.all (g := fun k x => spec_BackupOK.l0 k x a b n l s) (diffAt l) true l.length ?_ ?_) (by simp)
  · refine Ev.succ ?_
    simp only [spec_BackupOK.l0]
    exact Ev.neg (by omega) (Ev.is rfl)
  · intro i hi r h
    have hlast : ∀ c : Bool, diffOne (rd_T82 l i) = true → Ev (fun k => if (i : Int) > 0 then (if 0 ≤ wrap64 ((i : Int) - 1) then (if wrap64 ((i : Int) - 1) < (l.length : Int) then (if Op.bytesLess ((rd_T82 l (wrap64 ((i : Int) - 1))).f0.toList) ((rd_T82 l i).f0.toList) = true then spec_BackupOK.l0 k ((i + 1 : Nat) : Int) a b n l s else some false) else none) else none) else spec_BackupOK.l0 k ((i + 1 : Nat) : Int) a b n l s) (diffAt l i && r) := by
      intro _ h1
      by_cases h0 : i = 0
      · subst h0
        exact Ev.neg (by omega) (Ev.same h (by simp [diffAt] at *; simp [h1]))
      · simp only [wrap_less (n := i) (by omega) (by omega)]
        refine Ev.pos (by omega) (Ev.pos (by omega) (Ev.pos (by omega) ?_))
        cases h4 : Op.bytesLess (rd_T82 l ((i - 1 : Nat) : Int)).f0.toList (rd_T82 l i).f0.toList with
        | false => exact Ev.neg (by simp) (Ev.is (by simp [diffAt, h4, h0]))
        | true => exact Ev.pos rfl (Ev.same h (by simp [diffAt, h1, h4, h0]))
    refine Ev.succ ?_
    simp only [spec_BackupOK.l0, spec_key, Option.bind_some, wrap_at (n := i) (by omega)]
    refine Ev.pos (by omega) (Ev.pos (by omega) ?_)
    cases h1 : keyB (rd_T82 l i).f0 with
    | false => exact Ev.neg (by simp) (Ev.is (by simp [diffAt, diffOne, h1]))
    | true =>
      refine Ev.pos rfl ?_
      by_cases h2 : 90 < (rd_T82 l i).f1.size
      · exact Ev.pos (by omega) (Ev.is (by simp [diffAt, diffOne, show ¬ (rd_T82 l i).f1.size ≤ 90 by omega]))
      refine Ev.neg (by omega) ?_
      by_cases h3 : 90 < (rd_T82 l i).f2.size
      · exact Ev.pos (by omega) (Ev.is (by simp [diffAt, diffOne, show ¬ (rd_T82 l i).f2.size ≤ 90 by omega]))
      refine Ev.neg (by omega) ?_
      have h2' : (rd_T82 l i).f1.size ≤ 90 := by omega
      have h3' : (rd_T82 l i).f2.size ≤ 90 := by omega
      cases h4 : (rd_T82 l i).f3 with
      | true =>
        refine Ev.pos rfl ?_
        cases h5 : (rd_T82 l i).f4 with
        | true => exact Ev.pos rfl (hlast true (by simp [diffOne, h1, h2', h3', h4, h5]))
        | false =>
          refine Ev.neg (by simp) ?_
          by_cases h6 : (rd_T82 l i).f2.toList = ([] : List UInt8)
          · exact Ev.pos h6 (hlast true (by simp [diffOne, h1, h2', h3', h4, h5, h6]))
          · exact Ev.neg h6 (Ev.is (by simp [diffAt, diffOne, h4, h5, h6]))
      | false =>
        refine Ev.neg (by simp) ?_
        cases h5 : (rd_T82 l i).f4 with
        | false => exact Ev.neg (by simp) (Ev.is (by simp [diffAt, diffOne, h4, h5]))
        | true =>
          refine Ev.pos rfl ?_
          by_cases h6 : (rd_T82 l i).f1.toList = ([] : List UInt8)
          · exact Ev.pos h6 (hlast true (by simp [diffOne, h1, h2', h3', h4, h5, h6]))
          · exact Ev.neg h6 (Ev.is (by simp [diffAt, diffOne, h4, h5, h6]))
theorem shortB_nil {a : ByteArray} (h : a.toList = []) : shortB a = false := by
  have : a.size = 0 := by
    have h2 : a.data.toList.length = 0 := by rw [← ByteArray.toList_eq, h]; rfl
    rw [Array.length_toList] at h2
    exact h2
  simp [shortB, nameOK, this]
theorem impl_head (a b : ByteArray) (n : Int) : Ev (fun k => impl_headOK.f k a b n) (headB a b n) := by
  unfold impl_headOK.f headB
  simp only [impl_in, Option.bind_some]
  refine Ev.bind (impl_short a) ?_
  cases h1 : shortB a with
  | true =>
    have h2 : ¬ a.toList = [] := fun h => by rw [shortB_nil h] at h1; cases h1
    refine Ev.pos rfl (Ev.bind (impl_short b) ?_)
    cases h3 : shortB b with
    | true => exact Ev.pos rfl (Ev.is (by simp [h2]))
    | false => exact Ev.neg (by simp) (Ev.is (by simp [h2]))
  | false =>
    refine Ev.neg (by simp) ?_
    by_cases h2 : a.toList = []
    · refine Ev.pos h2 ?_
      by_cases h4 : n = 0
      · refine Ev.pos h4 (Ev.bind (impl_short b) ?_)
        cases h3 : shortB b with
        | true => exact Ev.pos rfl (Ev.is (by simp [h2, h4]))
        | false => exact Ev.neg (by simp) (Ev.is (by simp [h2]))
      · exact Ev.neg h4 (Ev.is (by simp [h2, h4]))
    · exact Ev.neg h2 (Ev.is (by simp [h2]))
theorem impl_backupOK (a b : ByteArray) (n : Int) (l : List S82) (s : Int) (hl : l.length < 9223372036854775807) : Ev (fun k => impl_BackupOK.f k a b n l s) (backupB a b n l s) := by
  have hj : ∀ c : Bool, Ev (fun k => impl_BackupOK.j0 k c a b n l s) (!c && allB (diffAt l) l.length) := by
    intro c
    refine Ev.succ ?_
    simp only [impl_BackupOK.j0]
    cases c with
    | true => exact Ev.pos rfl (Ev.is rfl)
    | false => exact Ev.neg (by simp) (Ev.same (impl_backup_loop a b n l s hl) (by simp))
  unfold impl_BackupOK.f backupB
  simp only [impl_in, Option.bind_some]
  refine Ev.bind (impl_head a b n) ?_
  cases h1 : headB a b n with
  | false => exact Ev.neg (by simp) (Ev.same (hj true) (by simp))
  | true =>
    refine Ev.pos rfl ?_
    cases h2 : inB s 0 4294967295 with
    | false => exact Ev.neg (by simp) (Ev.same (hj true) (by simp))
    | true =>
      refine Ev.pos rfl (Ev.same (hj _) ?_)
      by_cases h3 : l.length ≤ 120
      · simp [h3, show ¬ 120 < (l.length : Int) by omega]
      · simp [h3, show 120 < (l.length : Int) by omega]
theorem spec_backupOK (a b : ByteArray) (n : Int) (l : List S82) (s : Int) (hl : l.length < 9223372036854775807) : Ev (fun k => spec_BackupOK.f k a b n l s) (backupB a b n l s) := by
  have hj : ∀ c : Bool, Ev (fun k => spec_BackupOK.j0 k c a b n l s) (!c && allB (diffAt l) l.length) := by
    intro c
    refine Ev.succ ?_
    simp only [spec_BackupOK.j0]
    cases c with
    | true => exact Ev.pos rfl (Ev.is rfl)
    | false => exact Ev.neg (by simp) (Ev.same (spec_backup_loop a b n l s hl) (by simp))
  have e3 : decide ((l.length : Int) > 120) = !decide (l.length ≤ 120) := by
    by_cases h3 : l.length ≤ 120
    · simp [h3, show ¬ 120 < (l.length : Int) by omega]
    · simp [h3, show 120 < (l.length : Int) by omega]
  unfold spec_BackupOK.f backupB headB
  simp only [spec_in, Option.bind_some]
  by_cases h0 : a.toList = []
  · refine Ev.pos h0 (Ev.bind (spec_short b) ?_)
    cases h1 : shortB b with
    | false => exact Ev.neg (by simp) (Ev.same (hj true) (by simp [h0]))
    | true =>
      refine Ev.pos rfl ?_
      cases h2 : inB n 0 4294967295 with
      | false => exact Ev.neg (by simp) (Ev.same (hj true) (by simp [h0]))
      | true =>
        refine Ev.pos rfl ?_
        by_cases h3 : n = 0
        · refine Ev.pos h3 ?_
          cases h4 : inB s 0 4294967295 with
          | false => exact Ev.neg (by simp) (Ev.same (hj true) (by simp))
          | true => exact Ev.pos rfl (Ev.same (hj _) (by rw [e3]; simp [h0, h3]))
        · exact Ev.neg h3 (Ev.same (hj true) (by simp [h0, h3]))
  · refine Ev.neg h0 (Ev.bind (spec_short a) ?_)
    cases h1 : shortB a with
    | false => exact Ev.neg (by simp) (Ev.same (hj true) (by simp [h0]))
    | true =>
      refine Ev.pos rfl (Ev.bind (spec_short b) ?_)
      cases h2 : shortB b with
      | false => exact Ev.neg (by simp) (Ev.same (hj true) (by simp [h0]))
      | true =>
        refine Ev.pos rfl ?_
        cases h3 : inB n 0 4294967295 with
        | false => exact Ev.neg (by simp) (Ev.same (hj true) (by simp [h0]))
        | true =>
          refine Ev.pos rfl ?_
          cases h4 : inB s 0 4294967295 with
          | false => exact Ev.neg (by simp) (Ev.same (hj true) (by simp))
          | true => exact Ev.pos rfl (Ev.same (hj _) (by rw [e3]; simp [h0]))
end Go.Proofs.Ytgcncphdjabjjaa.X
set_option linter.unusedSimpArgs false
set_option linter.unusedVariables false
namespace Go.Proofs.Ytgcncphdjabjjaa.X.Pure
open Go.RowKit Go.Proofs.Ytgcncphdjabjjaa.X Go.Proofs.YtgcncphdjabjjaaW.PrintWords Go.Proofs.YtgcncphdjabjjaaW.PrintLast
theorem FnExactBackupOK : laws_FnExactBackupOK.Pure := by
  intro a b n l s ha hb _ hw _
  refine Ev.rounds (g := fun k => laws_FnExactBackupOK.f k a b n l s) ?_
  unfold laws_FnExactBackupOK.f
  obtain ⟨r, hr, hq⟩ := sz_Backup ⟨a, b, n, l, s⟩ ⟨ha, hb, trivial, ⟨hw.1, fun y hy => ⟨(hw.2 y hy).1, (hw.2 y hy).2.1, (hw.2 y hy).2.2.1, trivial, trivial⟩⟩, trivial⟩ 1048576 1048576 (by omega) (by omega) (by omega)
  refine Ev.bind hr ?_
  by_cases h : r < 0
  · exact Ev.pos h (Ev.is rfl)
  refine Ev.neg h ?_
  have hs := (hq (by omega)).2
  have ht := to_Backup ⟨a, b, n, l, s⟩ hs
  have hlen : (l.map cv85).length ≤ 1048576 := by rw [List.length_map]; have := hs.2.2.2.1.1; simp only at this; omega
  refine Ev.bind ht (Ev.bind (spec_backupOK _ _ _ _ _ (by simp only; omega)) (Ev.bind ht (Ev.bind (impl_backupOK _ _ _ _ _ (by simp only; omega)) (Ev.neg (by simp) (Ev.bind ht (Ev.bind (eq_Backup ⟨a, b, n, l.map cv85, s⟩ ⟨trivial, trivial, trivial, ⟨by simp only; omega, fun y _ => ⟨trivial, trivial, trivial, trivial, trivial⟩⟩, trivial⟩) (Ev.pos rfl (Ev.is rfl))))))))
end Go.Proofs.Ytgcncphdjabjjaa.X.Pure
namespace Go.Proofs.Ytgcncphdjabjjaa.fnExactBackupOK
open Go.ChangeShapes Go.WideShapes Go.ChangeAt Go.RowKit Go.Proofs.Ytgcncphdjabjjaa.X Go.Proofs.YtgcncphdjabjjaaW.PrintWords
open Go.ChangeMaps (open_string shut_string)
set_option linter.unusedVariables false
theorem own : ownKnob Try.prog.godebug = none := by kernel_rfl
theorem laidOut : laidOutB Try.prog = true := by kernel_rfl
set_option maxRecDepth 100000 in
theorem lifted (os : Os) (started : os.Started) (H : Type) (enc : TypeId × Value → H) :
    ReturnsInHanded {} Try.checked os 6 .any (Rows.fnExactBackupOKSpec.pre6 enc Try.prog Try.f6 Rows.fnExactBackupOKRow.domain false) (Rows.fnExactBackupOKSpec.post enc Try.prog Try.f6 false true false false) := by
  refine returnsInHanded_of_change_sized (C := Try.checked) own started (by kernel_rfl) Try.func6
    (ChangeSpec.witness6 (enc := enc) (C := Try.checked) false ⟨#[], #[.agg #[.string ByteArray.empty, .string ByteArray.empty, .int .i64 0, .slice none 0 0, .int .i64 0]], []⟩ 8 (by kernel_rfl) (by kernel_rfl) (by kernel_rfl) (by kernel_rfl)) ?_
  intro W base args ds gs before hval0 hW hcnd hsz0 _
  have hsz : (DataW.weightsEach Try.prog (Try.f6.params.toList ++ Rows.fnExactBackupOKSpec.plain.varTypes Try.prog) (ds ++ gs)).all (· ≤ reachBytes) = true := hsz0
  have hval : ∀ (j : Nat) t v, Try.f6.params[j]? = some t → args[j]? = some v → Value.okWide Try.prog W .any base t v := hval0
  have hW' := hW
  obtain ⟨p, q, hA0, hV, rfl, hfz, hnd⟩ := hW
  have hA : DataW.TrodAll enc Try.prog W 0 (fun _ => true) true Try.f6.params.toList args.toList ds p := hA0
  rw [Try.params6] at hA hval hsz
  obtain ⟨v0, vs0, d0, ds0, p0, q0, hargs, rfl, rfl, h0, r0⟩ := trodAll_cons hA
  obtain ⟨rfl, rfl, rfl⟩ := trodAll_nil r0
  obtain rfl : args = #[v0] := by cases args; simp_all
  obtain ⟨rfl, rfl⟩ := trodVars_none hV
  have k0 := h0
  have lt0 : ∀ x ∈ p0, x.block < W.heap.size := by obtain ⟨m, hm⟩ := k0; exact DataW.trod_lt m _ _ _ hm
  obtain ⟨x0, cs0, rfl, hK0, hw0⟩ := Opens.agg_arg opens44 Try.underlying44 (hval 0 44 v0 rfl rfl) h0
  obtain ⟨A0_3, c0_3, rfl, hc0_3, hr0_3⟩ := k44_open hK0
  obtain ⟨a0_0, a0_1, a0_2, l0_3, a0_4⟩ := x0
  clear hA0 hval0 hsz0 hsz
  obtain ⟨k, hP⟩ := X.Pure.FnExactBackupOK a0_0 a0_1 a0_2 l0_3 a0_4 hw0.1 hw0.2.1 hw0.2.2.1 hw0.2.2.2.1 hw0.2.2.2.2
  refine (laws_FnExactBackupOK.calls k a0_0 a0_1 a0_2 A0_3 c0_3 l0_3 a0_4 true W hr0_3 hc0_3 hP).mono fun e W' hQ => ?_
  obtain ⟨he, bel0⟩ := hQ
  subst he
  have bel : Below W.heap.size W W' := bel0
  exact ⟨_, rfl, _, _, _, [], _, [], hW', trodAll_mk1 (shut_bool Try.underlying4 _), (trodAll_cons_mk (Below.trod laidOut (by kernel_rfl) (of_decide_eq_true (by kernel_rfl)) k0 bel lt0) trodAll_mk0), rfl, bel.frame _, fun h => by cases h⟩
theorem over : Rows.fnExactBackupOKRow.holds Try.pinned (OpenSpec.ofChange Rows.fnExactBackupOKSpec) :=
  OpenClaim.holds_of_wide 6 Try.f6 rfl rfl rfl rfl rfl rfl rfl ⟨rfl, rfl, rfl, rfl, rfl⟩ rfl rfl rfl rfl rfl (by kernel_rfl) Try.func6 (by kernel_rfl)
    (of_decide_eq_true (by kernel_rfl)) (by unfold Func.isWrapper; first | (rw [if_pos (by decide +kernel)]; kernel_rfl) | (rw [if_neg (by decide +kernel)]; exact ⟨rfl, rfl⟩))
    (fun os started H enc _ => lifted os started H enc)
theorem proved : Rows.FnExactBackupOKSaid := over
end Go.Proofs.Ytgcncphdjabjjaa.fnExactBackupOK
namespace Go.Proofs.Ytgcncphdjabjjaa
theorem fnExactBackupOK_holds : Rows.FnExactBackupOKSaid := fnExactBackupOK.proved
end Go.Proofs.Ytgcncphdjabjjaa
