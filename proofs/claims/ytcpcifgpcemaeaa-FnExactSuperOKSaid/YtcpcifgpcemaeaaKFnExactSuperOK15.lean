import Derived.Test.YtcpcifgpcemaeaaKFnExactSuperOK0
import Derived.Test.YtcpcifgpcemaeaaKFnExactSuperOK3
import Derived.Test.YtcpcifgpcemaeaaKFnExactSuperOK4
import Derived.Test.YtcpcifgpcemaeaaKFnExactSuperOK5
import Derived.Test.YtcpcifgpcemaeaaKFnExactSuperOK6
import Derived.Test.YtcpcifgpcemaeaaKFnExactSuperOK11
import Derived.Test.YtcpcifgpcemaeaaKFnExactSuperOK12
import Derived.Test.YtcpcifgpcemaeaaKFnExactSuperOK14
import Derived.Test.YtcpcifgpcemaeaaRows
import Derived.WalkKit
import Derived.ProofKit
import Derived.OpenShut
import Derived.ShutString
import Derived.ChangeOld
import Derived.Below
import Derived.SizedLaws
namespace Go.Proofs.Ytcpcifgpcemaeaa.X
open Go.RowKit Go.Proofs.YtcpcifgpcemaeaaW.PrintWords Go.Proofs.YtcpcifgpcemaeaaW.PrintLast Go.Proofs.YtcpcifgpcemaeaaW.PrintMore
attribute [local go_sem] xbin_geq xbin_leq xbin_gtr max2_int min2_int max_two min_two max_three min_three max_four min_four   -- for this text's walks alone
set_option linter.unusedVariables false
set_option linter.unusedSimpArgs false

def letter (c : Int) : Bool := decide (97 ≤ c ∧ c ≤ 122) || (decide (65 ≤ c ∧ c ≤ 90) || c == 95)
def digit (c : Int) : Bool := decide (48 ≤ c ∧ c ≤ 57)
/-- From byte i on, d bytes being left: letters and digits alone. -/
def wordy (s : ByteArray) : Nat → Nat → Bool
  | 0, _ => true
  | d + 1, i => (letter (bt s i) || digit (bt s i)) && wordy s d (i + 1)
def nameOK (s : ByteArray) : Bool := decide (1 ≤ s.size ∧ s.size ≤ 40) && (letter (bt s 0) && wordy s (s.size - 1) 1)
theorem wrap_up_ {i : Nat} (h : i < 1048576) : wrap64 ((i : Int) + 1) = ((i + 1 : Nat) : Int) := by unfold wrap64; omega
theorem letter1 (c : Int) : spec_l00Letter.f c = some (letter c) := by
  unfold spec_l00Letter.f letter
  by_cases h1 : c ≥ 97 <;> by_cases h2 : c ≤ 122 <;> by_cases h3 : c ≥ 65 <;> by_cases h4 : c ≤ 90 <;> simp [*] <;> omega
theorem letter2 (c : Int) : impl_isLetter.f c = some (letter c) := by
  unfold impl_isLetter.f letter
  by_cases h1 : c ≥ 97 <;> by_cases h2 : c ≤ 122 <;> by_cases h3 : c ≥ 65 <;> by_cases h4 : c ≤ 90 <;> simp [*] <;> omega
theorem digit1 (c : Int) : spec_l00Digit.f c = some (digit c) := by
  unfold spec_l00Digit.f digit
  by_cases h1 : c ≥ 48 <;> by_cases h2 : c ≤ 57 <;> simp [*] <;> omega
theorem digit2 (c : Int) : impl_isDigit.f c = some (digit c) := by
  unfold impl_isDigit.f digit
  by_cases h1 : c ≥ 48 <;> by_cases h2 : c ≤ 57 <;> simp [*] <;> omega
theorem not_both (c : Int) : digit c = true → letter c = false := by
  unfold digit letter
  intro h
  simp at h ⊢
  omega
theorem spec_loop (s : ByteArray) (hs : s.size ≤ 1048576) (d : Nat) : ∀ i : Nat, i + d = s.size → Ev (fun k => spec_l00Word.l0 k s (i : Int)) (wordy s d i) := by
  induction d with
  | zero =>
    intro i hi
    refine Ev.step (f := fun _ => some true) (fun k => ?_) (Ev.now _)
    simp only [spec_l00Word.l0]
    rw [if_neg (by omega)]
  | succ d ih =>
    intro i hi
    have hrec := ih (i + 1) (by omega)
    by_cases hl : letter (bt s i) = true
    · refine Ev.step (f := fun k => spec_l00Word.l0 k s ((i + 1 : Nat) : Int)) (fun k => ?_) ?_
      · simp only [spec_l00Word.l0]
        rw [if_pos (by omega), if_pos (by omega), letter1, Option.bind_some, if_pos hl, wrap_up_ (by omega)]
      · simpa [wordy, hl] using hrec
    · by_cases hd : digit (bt s i) = true
      · refine Ev.step (f := fun k => spec_l00Word.l0 k s ((i + 1 : Nat) : Int)) (fun k => ?_) ?_
        · simp only [spec_l00Word.l0]
          rw [if_pos (by omega), if_pos (by omega), letter1, Option.bind_some, if_neg hl, digit1, Option.bind_some, if_pos hd, wrap_up_ (by omega)]
        · simpa [wordy, hl, hd] using hrec
      · refine Ev.step (f := fun _ => some false) (fun k => ?_) ?_
        · simp only [spec_l00Word.l0]
          rw [if_pos (by omega), if_pos (by omega), letter1, Option.bind_some, if_neg hl, digit1, Option.bind_some, if_neg hd]
        · simp [wordy, hl, hd]; exact Ev.now false
theorem impl_loop (s : ByteArray) (hs : s.size ≤ 1048576) (d : Nat) : ∀ i : Nat, i + d = s.size → Ev (fun k => impl_NameOK.l0 k s ((s.size : Nat) : Int) (i : Int)) (wordy s d i) := by
  induction d with
  | zero =>
    intro i hi
    refine Ev.step (f := fun _ => some true) (fun k => ?_) (Ev.now _)
    simp only [impl_NameOK.l0]
    rw [if_neg (by omega)]
  | succ d ih =>
    intro i hi
    have hrec := ih (i + 1) (by omega)
    by_cases hl : letter (bt s i) = true
    · refine Ev.step (f := fun k => impl_NameOK.l0 k s ((s.size : Nat) : Int) ((i + 1 : Nat) : Int)) (fun k => ?_) ?_
      · simp only [impl_NameOK.l0]
        rw [if_pos (by omega), if_pos (by omega), if_pos (by omega), letter2, Option.bind_some, if_pos hl, wrap_up_ (by omega)]
      · simpa [wordy, hl] using hrec
    · by_cases hd : digit (bt s i) = true
      · refine Ev.step (f := fun k => impl_NameOK.l0 k s ((s.size : Nat) : Int) ((i + 1 : Nat) : Int)) (fun k => ?_) ?_
        · simp only [impl_NameOK.l0]
          rw [if_pos (by omega), if_pos (by omega), if_pos (by omega), letter2, Option.bind_some, if_neg hl, digit2, Option.bind_some, if_pos hd, wrap_up_ (by omega)]
        · simpa [wordy, hl, hd] using hrec
      · refine Ev.step (f := fun _ => some false) (fun k => ?_) ?_
        · simp only [impl_NameOK.l0]
          rw [if_pos (by omega), if_pos (by omega), if_pos (by omega), letter2, Option.bind_some, if_neg hl, digit2, Option.bind_some, if_neg hd]
        · simp [wordy, hl, hd]; exact Ev.now false
theorem spec_j (s : ByteArray) (b : Bool) (hs : s.size ≤ 1048576) (h1 : 1 ≤ s.size ∨ b = true) : Ev (fun k => spec_l00Word.j0 k s b) (!b && wordy s (s.size - 1) 1) := by
  cases b with
  | true =>
    refine Ev.step (f := fun _ => some false) (fun k => ?_) (Ev.now _)
    simp [spec_l00Word.j0]
  | false =>
    refine Ev.step (f := fun k => spec_l00Word.l0 k s ((1 : Nat) : Int)) (fun k => ?_) ?_
    · simp [spec_l00Word.j0]
    · simpa using spec_loop s hs (s.size - 1) 1 (by rcases h1 with h1 | h1 <;> first | omega | cases h1)
theorem impl_j (s : ByteArray) (b : Bool) (hs : s.size ≤ 1048576) : Ev (fun k => impl_NameOK.j0 k s b) (!b && wordy s s.size 0) := by
  cases b with
  | true =>
    refine Ev.step (f := fun _ => some false) (fun k => ?_) (Ev.now _)
    simp [impl_NameOK.j0]
  | false =>
    refine Ev.step (f := fun k => impl_NameOK.l0 k s ((s.size : Nat) : Int) ((0 : Nat) : Int)) (fun k => ?_) ?_
    · simp [impl_NameOK.j0]
    · simpa using impl_loop s hs s.size 0 (by omega)
theorem spec_name (s : ByteArray) (hs : s.size ≤ 1048576) : Ev (fun k => spec_NameOK.f k s) (nameOK s) := by
  unfold spec_NameOK.f spec_l00Word.f
  refine Ev.bind ?_ (Ev.now _)
  by_cases h1 : (s.size : Int) < 1
  · simp only [if_pos h1]
    have := spec_j s true hs (.inr rfl)
    simpa [nameOK, show ¬ (1 ≤ s.size) by omega] using this
  simp only [if_neg h1]
  by_cases h2 : (s.size : Int) > 40
  · simp only [if_pos h2]
    have := spec_j s true hs (.inr rfl)
    simpa [nameOK, show ¬ (s.size ≤ 40) by omega] using this
  simp only [if_neg h2, if_pos (show 0 < (s.size : Int) by omega), letter1, Option.bind_some]
  have := spec_j s (!letter (bt s 0)) hs (.inl (by omega))
  simpa [nameOK, show s.size ≤ 40 by omega, show 1 ≤ s.size by omega] using this
theorem impl_name (s : ByteArray) (hs : s.size ≤ 1048576) : Ev (fun k => impl_NameOK.f k s) (nameOK s) := by
  unfold impl_NameOK.f impl_within.f
  by_cases h1 : (s.size : Int) < 1
  · simp only [if_neg (show ¬ (s.size : Int) ≥ 1 by omega), Option.bind_some, Bool.false_eq_true, if_false]
    have := impl_j s true hs
    simpa [nameOK, show ¬ (1 ≤ s.size) by omega] using this
  simp only [if_pos (show (s.size : Int) ≥ 1 by omega), Option.bind_some]
  by_cases h2 : (s.size : Int) > 40
  · simp only [show decide ((s.size : Int) ≤ 40) = false from decide_eq_false (by omega), Bool.false_eq_true, if_false]
    have := impl_j s true hs
    simpa [nameOK, show ¬ (s.size ≤ 40) by omega] using this
  simp only [show decide ((s.size : Int) ≤ 40) = true from decide_eq_true (by omega), if_true, if_pos (show 0 < (s.size : Int) by omega), digit2, Option.bind_some]
  have h := impl_j s (digit (bt s 0)) hs
  have e : (!digit (bt s 0) && wordy s s.size 0) = nameOK s := by
    obtain ⟨m, hm⟩ : ∃ m, s.size = m + 1 := ⟨s.size - 1, by omega⟩
    have hz : bt s ((0 : Nat) : Int) = bt s 0 := rfl
    unfold nameOK
    rw [hm]
    simp only [wordy, Nat.zero_add, Nat.add_sub_cancel, hz]
    rw [show decide (1 ≤ m + 1 ∧ m + 1 ≤ 40) = true from decide_eq_true (by omega), Bool.true_and]
    cases hd : digit (bt s 0) with
    | true => simp [not_both _ hd]
    | false => simp
  rw [← e]; exact h


end Go.Proofs.Ytcpcifgpcemaeaa.X

namespace Go.Proofs.Ytcpcifgpcemaeaa.X
open Go.RowKit Go.Proofs.YtcpcifgpcemaeaaW.PrintWords Go.Proofs.YtcpcifgpcemaeaaW.PrintLast Go.Proofs.YtcpcifgpcemaeaaW.PrintMore
attribute [local go_sem] xbin_geq xbin_leq xbin_gtr max2_int min2_int max_two min_two max_three min_three max_four min_four   -- for this text's walks alone
set_option linter.unusedVariables false
set_option linter.unusedSimpArgs false

def shortB (s : ByteArray) : Bool := decide (s.size ≤ 8) && nameOK s
theorem spec_short (s : ByteArray) : Ev (fun k => spec_l04Name.f k s) (shortB s) := by
  unfold spec_l04Name.f shortB
  by_cases h : s.size ≤ 8
  · exact Ev.pos (by omega) (Ev.bind (spec_name s (by omega)) (Ev.is (by simp [h])))
  · exact Ev.neg (by omega) (Ev.is (by simp [h]))
theorem impl_short (s : ByteArray) : Ev (fun k => impl_shortName.f k s) (shortB s) := by
  unfold impl_shortName.f shortB
  by_cases h : s.size ≤ 8
  · exact Ev.pos (by omega) (Ev.bind (impl_name s (by omega)) (Ev.is (by simp [h])))
  · exact Ev.neg (by omega) (Ev.is (by simp [h]))

end Go.Proofs.Ytcpcifgpcemaeaa.X

namespace Go.Proofs.Ytcpcifgpcemaeaa.X
open Go.RowKit Go.Proofs.YtcpcifgpcemaeaaW.PrintWords Go.Proofs.YtcpcifgpcemaeaaW.PrintLast Go.Proofs.YtcpcifgpcemaeaaW.PrintMore
attribute [local go_sem] xbin_geq xbin_leq xbin_gtr max2_int min2_int max_two min_two max_three min_three max_four min_four   -- for this text's walks alone
set_option linter.unusedVariables false
set_option linter.unusedSimpArgs false

theorem impl_root (x : Int) : impl_rootOK.f x = some (inB x (-1) 49) := by
  unfold impl_rootOK.f
  rw [impl_in, Option.bind_some]
/-- The snapshot at place i is right, and behind the one ahead of it. -/
def snapAt (l : List S124) (i : Nat) : Bool := shortB (rd_T124 l i).f0 && (inB (rd_T124 l i).f1 (-1) 49 && (inB (rd_T124 l i).f2 0 60000 && (decide (i = 0) || Op.bytesLess (rd_T124 l ((i - 1 : Nat) : Int)).f0.toList (rd_T124 l i).f0.toList)))
def superB (a b : Int) (l : List S124) : Bool := inB a 0 200 && (inB b (-1) 49 && (decide (l.length ≤ 4) && allB (snapAt l) l.length))
theorem spec_super_loop (a b : Int) (l : List S124) (hl : l.length < 9223372036854775807) : Ev (fun k => spec_SuperOK.l0 k 0 a b l) (allB (snapAt l) l.length) := by
  refine Ev.same (Ev.all (g := fun k x => spec_SuperOK.l0 k x a b l) (snapAt l) true l.length ?_ ?_) (by simp)
  · refine Ev.succ ?_
    simp only [spec_SuperOK.l0]
    exact Ev.neg (by omega) (Ev.is rfl)
  · intro i hi r h
    refine Ev.succ ?_
    simp only [spec_SuperOK.l0, spec_in, Option.bind_some, wrap_at (n := i) (by omega)]
    refine Ev.pos (by omega) (Ev.pos (by omega) (Ev.bind (spec_short _) ?_))
    cases h1 : shortB (rd_T124 l i).f0 with
    | false => exact Ev.neg (by simp) (Ev.is (by simp [snapAt, h1]))
    | true =>
      refine Ev.pos rfl ?_
      cases h2 : inB (rd_T124 l i).f1 (-1) 49 with
      | false => exact Ev.neg (by simp) (Ev.is (by simp [snapAt, h2]))
      | true =>
        refine Ev.pos rfl ?_
        cases h3 : inB (rd_T124 l i).f2 0 60000 with
        | false => exact Ev.neg (by simp) (Ev.is (by simp [snapAt, h3]))
        | true =>
          refine Ev.pos rfl ?_
          by_cases h0 : i = 0
          · subst h0
            exact Ev.neg (by omega) (Ev.same h (by simp [snapAt] at *; simp [h1, h2, h3]))
          · simp only [wrap_less (n := i) (by omega) (by omega)]
            refine Ev.pos (by omega) (Ev.pos (by omega) (Ev.pos (by omega) ?_))
            cases h4 : Op.bytesLess (rd_T124 l ((i - 1 : Nat) : Int)).f0.toList (rd_T124 l i).f0.toList with
            | false => exact Ev.neg (by simp) (Ev.is (by simp [snapAt, h4, h0]))
            | true => exact Ev.pos rfl (Ev.same h (by simp [snapAt, h1, h2, h3, h4, h0]))
theorem impl_snaps (l : List S124) (hl : l.length < 9223372036854775807) : Ev (fun k => impl_snapsOK.f k l) (allB (snapAt l) l.length && decide (l.length ≤ 4)) := by
  unfold impl_snapsOK.f
  refine Ev.all (g := fun k x => impl_snapsOK.l0 k l l (l.length : Int) x) (snapAt l) _ l.length ?_ ?_
  · refine Ev.succ ?_
    simp only [impl_snapsOK.l0]
    exact Ev.neg (by omega) (Ev.is (by simp only [show ((l.length : Int) ≤ 4) = (l.length ≤ 4) from propext (by omega)]))
  · intro i hi r h
    refine Ev.succ ?_
    simp only [impl_snapsOK.l0, impl_in, impl_root, Option.bind_some, wrap_at (n := i) (by omega)]
    refine Ev.pos (by omega) (Ev.pos (by omega) (Ev.pos (by omega) (Ev.bind (impl_short _) ?_)))
    cases h1 : shortB (rd_T124 l i).f0 with
    | false => exact Ev.neg (by simp) (Ev.is (by simp [snapAt, h1]))
    | true =>
      refine Ev.pos rfl ?_
      cases h2 : inB (rd_T124 l i).f1 (-1) 49 with
      | false => exact Ev.neg (by simp) (Ev.is (by simp [snapAt, h2]))
      | true =>
        refine Ev.pos rfl ?_
        cases h3 : inB (rd_T124 l i).f2 0 60000 with
        | false => exact Ev.neg (by simp) (Ev.is (by simp [snapAt, h3]))
        | true =>
          refine Ev.pos rfl ?_
          by_cases h0 : i = 0
          · subst h0
            exact Ev.neg (by omega) (Ev.same h (by simp [snapAt] at *; simp [h1, h2, h3]))
          · simp only [wrap_less (n := i) (by omega) (by omega)]
            refine Ev.pos (by omega) (Ev.pos (by omega) (Ev.pos (by omega) ?_))
            cases h4 : Op.bytesLess (rd_T124 l ((i - 1 : Nat) : Int)).f0.toList (rd_T124 l i).f0.toList with
            | false => exact Ev.neg (by simp) (Ev.is (by simp [snapAt, h4, h0]))
            | true => exact Ev.pos rfl (Ev.same h (by simp [snapAt, h1, h2, h3, h4, h0]))
theorem impl_superOK (a b : Int) (l : List S124) (hl : l.length < 9223372036854775807) : Ev (fun k => impl_SuperOK.f k a b l) (superB a b l) := by
  unfold impl_SuperOK.f superB
  simp only [impl_in, impl_root, Option.bind_some]
  cases h1 : inB a 0 200 with
  | false => exact Ev.neg (by simp) (Ev.is (by simp))
  | true =>
    refine Ev.pos rfl ?_
    cases h2 : inB b (-1) 49 with
    | false => exact Ev.neg (by simp) (Ev.is (by simp))
    | true => exact Ev.pos rfl (Ev.bind (impl_snaps l hl) (Ev.is (by simp [Bool.and_comm])))
theorem spec_superOK (a b : Int) (l : List S124) (hl : l.length < 9223372036854775807) : Ev (fun k => spec_SuperOK.f k a b l) (superB a b l) := by
  have hj : ∀ c : Bool, Ev (fun k => spec_SuperOK.j0 k c a b l) (!c && allB (snapAt l) l.length) := by
    intro c
    refine Ev.succ ?_
    simp only [spec_SuperOK.j0]
    cases c with
    | true => exact Ev.pos rfl (Ev.is rfl)
    | false => exact Ev.neg (by simp) (Ev.same (spec_super_loop a b l hl) (by simp))
  unfold spec_SuperOK.f superB
  simp only [spec_in, Option.bind_some]
  cases h1 : inB a 0 200 with
  | false => exact Ev.neg (by simp) (Ev.same (hj true) (by simp))
  | true =>
    refine Ev.pos rfl ?_
    cases h2 : inB b (-1) 49 with
    | false => exact Ev.neg (by simp) (Ev.same (hj true) (by simp))
    | true =>
      refine Ev.pos rfl (Ev.same (hj _) ?_)
      by_cases h3 : l.length ≤ 4
      · simp [h3, show ¬ 4 < (l.length : Int) by omega]
      · simp [h3, show 4 < (l.length : Int) by omega]

end Go.Proofs.Ytcpcifgpcemaeaa.X

/- The law FnExactSuperOK returns true for every superblock: the program's SuperOK answers as the reference, and writes into no argument. No conditions. -/
set_option linter.unusedSimpArgs false
set_option linter.unusedVariables false
namespace Go.Proofs.Ytcpcifgpcemaeaa.X.Pure
open Go.RowKit Go.Proofs.Ytcpcifgpcemaeaa.X Go.Proofs.YtcpcifgpcemaeaaW.PrintWords Go.Proofs.YtcpcifgpcemaeaaW.PrintLast

theorem FnExactSuperOK : laws_FnExactSuperOK.Pure := by
  intro a b l _ _ hw
  refine Ev.rounds (g := fun k => laws_FnExactSuperOK.f k a b l) ?_
  unfold laws_FnExactSuperOK.f
  obtain ⟨r, hr, hq⟩ := sz_Super ⟨a, b, l⟩ ⟨trivial, trivial, hw.1, fun y hy => ⟨(hw.2 y hy).1, trivial, trivial⟩⟩ 1048576 1048576 (by omega) (by omega) (by omega)
  refine Ev.bind hr ?_
  by_cases h : r < 0
  · exact Ev.pos h (Ev.is rfl)
  refine Ev.neg h ?_
  have hs := (hq (by omega)).2
  have ht := to_Super ⟨a, b, l⟩ hs
  have hlen : (l.map cv154).length ≤ 1048576 := by rw [List.length_map]; have := hs.2.2.1; simp only at this; omega
  refine Ev.bind ht (Ev.bind (spec_superOK _ _ _ (by simp only; omega)) (Ev.bind ht (Ev.bind (impl_superOK _ _ _ (by simp only; omega)) (Ev.neg (by simp) (Ev.bind ht (Ev.bind (eq_Super ⟨a, b, l.map cv154⟩ ⟨trivial, trivial, by simp only; omega, fun y _ => ⟨trivial, trivial, trivial⟩⟩) (Ev.pos rfl (Ev.is rfl))))))))

end Go.Proofs.Ytcpcifgpcemaeaa.X.Pure

namespace Go.Proofs.Ytcpcifgpcemaeaa.fnExactSuperOK
open Go.ChangeShapes Go.WideShapes Go.ChangeAt Go.RowKit Go.Proofs.Ytcpcifgpcemaeaa.X Go.Proofs.YtcpcifgpcemaeaaW.PrintWords
open Go.ChangeMaps (open_string shut_string)
set_option linter.unusedVariables false
theorem own : ownKnob Try.prog.godebug = none := by kernel_rfl
theorem laidOut : laidOutB Try.prog = true := by kernel_rfl
set_option maxRecDepth 100000 in
theorem lifted (os : Os) (started : os.Started) (H : Type) (enc : TypeId × Value → H) :
    ReturnsInHanded {} Try.checked os 14 .any (Rows.fnExactSuperOKSpec.pre6 enc Try.prog Try.f14 Rows.fnExactSuperOKRow.domain false) (Rows.fnExactSuperOKSpec.post enc Try.prog Try.f14 false true false false) := by
  refine returnsInHanded_of_change_sized (C := Try.checked) own started (by kernel_rfl) Try.func14
    (ChangeSpec.witness6 (enc := enc) (C := Try.checked) false ⟨#[], #[.agg #[.int .i64 0, .int .i64 0, .slice none 0 0]], []⟩ 8 (by kernel_rfl) (by kernel_rfl) (by kernel_rfl) (by kernel_rfl)) ?_
  intro W base args ds gs before hval0 hW hcnd hsz0 _
  have hsz : (DataW.weightsEach Try.prog (Try.f14.params.toList ++ Rows.fnExactSuperOKSpec.plain.varTypes Try.prog) (ds ++ gs)).all (· ≤ reachBytes) = true := hsz0
  have hval : ∀ (j : Nat) t v, Try.f14.params[j]? = some t → args[j]? = some v → Value.okWide Try.prog W .any base t v := hval0
  have hW' := hW
  obtain ⟨p, q, hA0, hV, rfl, hfz, hnd⟩ := hW
  have hA : DataW.TrodAll enc Try.prog W 0 (fun _ => true) true Try.f14.params.toList args.toList ds p := hA0
  rw [Try.params14] at hA hval hsz
  obtain ⟨v0, vs0, d0, ds0, p0, q0, hargs, rfl, rfl, h0, r0⟩ := trodAll_cons hA
  obtain ⟨rfl, rfl, rfl⟩ := trodAll_nil r0
  obtain rfl : args = #[v0] := by cases args; simp_all
  obtain ⟨rfl, rfl⟩ := trodVars_none hV
  have k0 := h0
  have lt0 : ∀ x ∈ p0, x.block < W.heap.size := by obtain ⟨m, hm⟩ := k0; exact DataW.trod_lt m _ _ _ hm
  obtain ⟨x0, cs0, rfl, hK0, hw0⟩ := Opens.agg_arg opens78 Try.underlying78 (hval 0 78 v0 rfl rfl) h0
  obtain ⟨A0_2, c0_2, rfl, hc0_2, hr0_2⟩ := k78_open hK0
  obtain ⟨a0_0, a0_1, l0_2⟩ := x0
  clear hA0 hval0 hsz0 hsz
  obtain ⟨k, hP⟩ := X.Pure.FnExactSuperOK a0_0 a0_1 l0_2 hw0.1 hw0.2.1 hw0.2.2
  refine (laws_FnExactSuperOK.calls k a0_0 a0_1 A0_2 c0_2 l0_2 true W hr0_2 hc0_2 hP).mono fun e W' hQ => ?_
  obtain ⟨he, bel0⟩ := hQ
  subst he
  have bel : Below W.heap.size W W' := bel0
  exact ⟨_, rfl, _, _, _, [], _, [], hW', trodAll_mk1 (shut_bool Try.underlying4 _), (trodAll_cons_mk (Below.trod laidOut (by kernel_rfl) (of_decide_eq_true (by kernel_rfl)) k0 bel lt0) trodAll_mk0), rfl, bel.frame _, fun h => by cases h⟩
theorem over : Rows.fnExactSuperOKRow.holds Try.pinned (OpenSpec.ofChange Rows.fnExactSuperOKSpec) :=
  OpenClaim.holds_of_wide 14 Try.f14 rfl rfl rfl rfl rfl rfl rfl ⟨rfl, rfl, rfl, rfl, rfl⟩ rfl rfl rfl rfl rfl (by kernel_rfl) Try.func14 (by kernel_rfl)
    (of_decide_eq_true (by kernel_rfl)) (by unfold Func.isWrapper; first | (rw [if_pos (by decide +kernel)]; kernel_rfl) | (rw [if_neg (by decide +kernel)]; exact ⟨rfl, rfl⟩))
    (fun os started H enc _ => lifted os started H enc)
theorem proved : Rows.FnExactSuperOKSaid := over
end Go.Proofs.Ytcpcifgpcemaeaa.fnExactSuperOK
namespace Go.Proofs.Ytcpcifgpcemaeaa
/-- The row, under a short name, for the claim. -/
theorem fnExactSuperOK_holds : Rows.FnExactSuperOKSaid := fnExactSuperOK.proved
end Go.Proofs.Ytcpcifgpcemaeaa
