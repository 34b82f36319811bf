/- The law FnExactCodeOf returns true for every string: the program's CodeOf answers as the reference. No conditions. -/
import Derived.Test.YtonfmdgklgdgfaaPFnExactCodeOfx1
set_option linter.unusedSimpArgs false
namespace Go.Proofs.Ytonfmdgklgdgfaa.Pure
open Go.RowKit Go.Proofs.Ytonfmdgklgdgfaa.PFnExactCodeOf Go.Proofs.YtonfmdgklgdgfaaW.PrintWords Go.Proofs.YtonfmdgklgdgfaaW.PrintLast

def words : List ByteArray := ([(⟨#[111, 107]⟩ : ByteArray), (⟨#[98, 97, 100]⟩ : ByteArray), (⟨#[108, 111, 110, 103]⟩ : ByteArray), (⟨#[102, 111, 114, 109]⟩ : ByteArray), (⟨#[114, 97, 110, 103, 101]⟩ : ByteArray), (⟨#[110, 111, 110, 101]⟩ : ByteArray), (⟨#[109, 97, 110, 121]⟩ : ByteArray), (⟨#[102, 117, 108, 108]⟩ : ByteArray), (⟨#[115, 117, 109]⟩ : ByteArray), (⟨#[116, 119, 105, 99, 101]⟩ : ByteArray), (⟨#[100, 111, 119, 110]⟩ : ByteArray), (⟨#[115, 116, 97, 116, 101]⟩ : ByteArray), (⟨#[113, 117, 111, 116, 97]⟩ : ByteArray), (⟨#[111, 114, 100, 101, 114]⟩ : ByteArray), (⟨#[99, 104, 97, 105, 110]⟩ : ByteArray), (⟨#[117, 115, 101, 114]⟩ : ByteArray), (⟨#[102, 111, 108, 100, 101, 114]⟩ : ByteArray), (⟨#[110, 97, 109, 101]⟩ : ByteArray), (⟨#[111, 108, 100]⟩ : ByteArray), (⟨#[114, 111, 111, 116]⟩ : ByteArray)] : List ByteArray)
/-- The place of a word, from i on, d words being left. -/
def place (s : ByteArray) : Nat → Nat → Int
  | 0, _ => -1
  | d + 1, i => if (words.getD i ByteArray.empty).toList = s.toList then (i : Int) else place s d (i + 1)
theorem wrap_up {i : Nat} (h : i < 20) : wrap64 ((i : Int) + 1) = ((i + 1 : Nat) : Int) := by unfold wrap64; omega
theorem word_at (i : Nat) (h : i < 20) : spec_CodeWord.f (i : Int) = some (words.getD i ByteArray.empty) := by
  unfold spec_CodeWord.f
  simp only [Option.bind_some, List.length_cons, List.length_nil, Nat.zero_add, Nat.reduceAdd]
  rw [if_neg (by omega), if_neg (by omega), if_pos (by omega), if_pos (by omega)]
  unfold rdOf words
  rw [Int.toNat_natCast]
theorem spec_from (s : ByteArray) (d : Nat) : ∀ i : Nat, i + d = 20 → Ev (fun k => spec_CodeOf.l0 k s (i : Int)) (place s d i) := by
  induction d with
  | zero =>
    intro i hi
    refine Ev.step (f := fun _ => some (-1)) (fun k => ?_) (Ev.now _)
    simp only [spec_CodeOf.l0]
    rw [if_neg (by omega)]
  | succ d ih =>
    intro i hi
    by_cases hw : (words.getD i ByteArray.empty).toList = s.toList
    · refine Ev.step (f := fun _ => some (i : Int)) (fun k => ?_) ?_
      · simp only [spec_CodeOf.l0]
        rw [if_pos (by omega), word_at i (by omega), Option.bind_some, if_pos hw]
      · unfold place; rw [if_pos hw]; exact Ev.now _
    · refine Ev.step (f := fun k => spec_CodeOf.l0 k s ((i + 1 : Nat) : Int)) (fun k => ?_) ?_
      · simp only [spec_CodeOf.l0]
        rw [if_pos (by omega), word_at i (by omega), Option.bind_some, if_neg hw, wrap_up (by omega)]
      · unfold place; rw [if_neg hw]; exact ih (i + 1) (by omega)
theorem impl_from (s : ByteArray) (d : Nat) : ∀ i : Nat, i + d = 20 → Ev (fun k => slices_Index_string_string.l0 k words s ((words.length : Nat) : Int) (i : Int)) (place s d i) := by
  have hl : words.length = 20 := rfl
  induction d with
  | zero =>
    intro i hi
    refine Ev.step (f := fun _ => some (-1)) (fun k => ?_) (Ev.now _)
    simp only [slices_Index_string_string.l0]
    rw [if_neg (by omega)]
  | succ d ih =>
    intro i hi
    have hr : rdOf ByteArray.empty words (i : Int) = words.getD i ByteArray.empty := by unfold rdOf; rw [Int.toNat_natCast]
    by_cases hw : (words.getD i ByteArray.empty).toList = s.toList
    · refine Ev.step (f := fun _ => some (i : Int)) (fun k => ?_) ?_
      · simp only [slices_Index_string_string.l0]
        rw [if_pos (by omega), if_pos (by omega), if_pos (by omega), hr, if_pos hw.symm]
      · unfold place; rw [if_pos hw]; exact Ev.now _
    · refine Ev.step (f := fun k => slices_Index_string_string.l0 k words s ((words.length : Nat) : Int) ((i + 1 : Nat) : Int)) (fun k => ?_) ?_
      · simp only [slices_Index_string_string.l0]
        rw [if_pos (by omega), if_pos (by omega), if_pos (by omega), hr, if_neg (fun e => hw e.symm), wrap_up (by omega)]
      · unfold place; rw [if_neg hw]; exact ih (i + 1) (by omega)

theorem FnExactCodeOf : laws_FnExactCodeOf.Pure := by
  intro a0 _
  refine Ev.rounds (g := fun k => laws_FnExactCodeOf.f k a0) ?_
  unfold laws_FnExactCodeOf.f
  by_cases hbig : (a0.size : Int) > 1048576
  · simp only [if_pos hbig]
    exact Ev.now true
  simp only [if_neg hbig]
  have hs : Ev (fun k => spec_CodeOf.f k a0) (place a0 20 0) := by
    unfold spec_CodeOf.f
    exact spec_from a0 20 0 (by omega)
  have hi : Ev (fun k => impl_CodeOf.f k a0) (place a0 20 0) := by
    unfold impl_CodeOf.f slices_Index_string_string.f impl_codeWords.f
    simp only [Option.bind_some]
    exact Ev.bind (impl_from a0 20 0 (by omega)) (Ev.now _)
  refine Ev.bind hs (Ev.bind hi ?_)
  simp only [if_true]
  exact Ev.now true

end Go.Proofs.Ytonfmdgklgdgfaa.Pure
