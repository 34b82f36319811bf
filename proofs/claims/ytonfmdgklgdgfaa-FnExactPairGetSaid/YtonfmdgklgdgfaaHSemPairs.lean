import Derived.Test.YtonfmdgklgdgfaaX0
import Derived.Test.YtonfmdgklgdgfaaHCmp
import Derived.Test.YtonfmdgklgdgfaaHEv
import Derived.Test.YtonfmdgklgdgfaaHPairAt
import Derived.Test.YtonfmdgklgdgfaaX1
import Derived.Test.YtonfmdgklgdgfaaX4
import Derived.Test.YtonfmdgklgdgfaaX5
import Derived.Test.YtonfmdgklgdgfaaX6
import Derived.Test.YtonfmdgklgdgfaaX7
import Derived.Test.YtonfmdgklgdgfaaX8
namespace Go.Proofs.Ytonfmdgklgdgfaa.X
open Go.RowKit Go.Proofs.YtonfmdgklgdgfaaW.PrintWords Go.Proofs.YtonfmdgklgdgfaaW.PrintLast Go.Proofs.YtonfmdgklgdgfaaW.PrintMore
attribute [local go_sem] xbin_geq xbin_leq xbin_gtr max2_int min2_int max_two min_two max_three min_three max_four min_four   -- for this text's walks alone
set_option linter.unusedVariables false
set_option linter.unusedSimpArgs false

def keyB (s : ByteArray) : Bool := decide (1 ≤ s.size) && decide (s.size ≤ 30)
def okP (p : S65) : Bool := keyB p.f0 && decide (p.f1.size ≤ 90)
/-- Pairs that are right, and rise, behind one. -/
def chainB : Option S65 → List S65 → Bool
  | _, [] => true
  | none, p :: r => okP p && chainB (some p) r
  | some q, p :: r => okP p && (Op.bytesLess q.f0.toList p.f0.toList && chainB (some p) r)
def pairsB (l : List S65) : Bool := decide (l.length ≤ 60) && chainB none l
theorem chainB_rises (l : List S65) : ∀ q, chainB (some q) l = true → (∀ p ∈ l, okP p = true) ∧ (q :: l).Pairwise fun a b => Op.bytesLess a.f0.toList b.f0.toList = true := by
  induction l with
  | nil => intro q _; exact ⟨fun p hp => (by cases hp), List.pairwise_singleton _ _⟩
  | cons p r ih =>
    intro q h
    simp only [chainB, Bool.and_eq_true] at h
    obtain ⟨h1, h2, h3⟩ := h
    obtain ⟨i1, i2⟩ := ih p h3
    refine ⟨fun x hx => ?_, List.pairwise_cons.2 ⟨fun x hx => ?_, i2⟩⟩
    · rcases List.mem_cons.1 hx with rfl | hx
      · exact h1
      · exact i1 x hx
    · rcases List.mem_cons.1 hx with rfl | hx
      · exact h2
      · exact bless_trans h2 ((List.pairwise_cons.1 i2).1 x hx)
theorem chainB_none {l : List S65} (h : chainB none l = true) : (∀ p ∈ l, okP p = true) ∧ Rises l := by
  cases l with
  | nil => exact ⟨fun p hp => (by cases hp), List.Pairwise.nil⟩
  | cons p r =>
    simp only [chainB, Bool.and_eq_true] at h
    obtain ⟨i1, i2⟩ := chainB_rises r p h.2
    refine ⟨fun x hx => ?_, i2⟩
    rcases List.mem_cons.1 hx with rfl | hx
    · exact h.1
    · exact i1 x hx
theorem chainB_of (l : List S65) : ∀ q, (∀ p ∈ l, okP p = true) → ((q :: l).Pairwise fun a b => Op.bytesLess a.f0.toList b.f0.toList = true) → chainB (some q) l = true := by
  induction l with
  | nil => intro q _ _; rfl
  | cons p r ih =>
    intro q h1 h2
    simp only [chainB, Bool.and_eq_true]
    exact ⟨h1 p List.mem_cons_self, (List.pairwise_cons.1 h2).1 p List.mem_cons_self, ih p (fun x hx => h1 x (List.mem_cons_of_mem _ hx)) (List.pairwise_cons.1 h2).2⟩
theorem chainB_none_of {l : List S65} (h1 : ∀ p ∈ l, okP p = true) (h2 : Rises l) : chainB none l = true := by
  cases l with
  | nil => rfl
  | cons p r =>
    simp only [chainB, Bool.and_eq_true]
    exact ⟨h1 p List.mem_cons_self, chainB_of r p (fun x hx => h1 x (List.mem_cons_of_mem _ hx)) h2⟩
theorem pairsB_is {l : List S65} : pairsB l = true ↔ l.length ≤ 60 ∧ (∀ p ∈ l, okP p = true) ∧ Rises l := by
  unfold pairsB
  rw [Bool.and_eq_true, decide_eq_true_eq]
  exact ⟨fun h => ⟨h.1, chainB_none h.2⟩, fun h => ⟨h.1, chainB_none_of h.2.1 h.2.2⟩⟩
theorem rd_at (l : List S65) (pre rest : List S65) (x : S65) (h : l = pre ++ x :: rest) : rd_T65 l ((pre.length : Nat) : Int) = x := by
  subst h
  simp [rd_T65, List.getD_eq_getElem?_getD]
theorem spec_key (s : ByteArray) : spec_l01In.f (s.size : Int) 1 30 = some (keyB s) := by
  unfold spec_l01In.f keyB
  by_cases h : 1 ≤ s.size
  · rw [if_pos (by omega), decide_eq_true h]
    have e : ((s.size : Int) ≤ 30) = (s.size ≤ 30) := propext (by omega)
    simp [e]
  · rw [if_neg (by omega), decide_eq_false h]
    rfl
theorem impl_key (s : ByteArray) : impl_keyOK.f s = some (keyB s) := by
  unfold impl_keyOK.f impl_within.f keyB
  by_cases h : 1 ≤ s.size
  · rw [if_pos (by omega), decide_eq_true h]
    have e : ((s.size : Int) ≤ 30) = (s.size ≤ 30) := propext (by omega)
    simp [e]
  · rw [if_neg (by omega), decide_eq_false h]
    rfl
theorem spec_pair (p : S65) : spec_l01Pair.f p.f0 p.f1 = some (okP p) := by
  unfold spec_l01Pair.f okP
  have e : ((p.f1.size : Int) ≤ 90) = (p.f1.size ≤ 90) := propext (by omega)
  rw [spec_key, Option.bind_some]
  cases keyB p.f0 <;> simp [e]
theorem impl_pair (p : S65) : impl_pairOK.f p.f0 p.f1 = some (okP p) := by
  unfold impl_pairOK.f okP
  have e : ((p.f1.size : Int) ≤ 90) = (p.f1.size ≤ 90) := propext (by omega)
  rw [impl_key, Option.bind_some]
  cases keyB p.f0 <;> simp [e]
theorem wrap_pred {n : Nat} (h : n < 9223372036854775807) : wrap64 (((n + 1 : Nat) : Int) - 1) = ((n : Nat) : Int) := by unfold wrap64; omega
theorem spec_rise_more (l : List S65) (hl : l.length ≤ 60) (rest : List S65) : ∀ (pre : List S65) (q : S65), l = (pre ++ [q]) ++ rest →
    Ev (fun k => spec_PairsOK.l0 k l (((pre ++ [q]).length : Nat) : Int)) (chainB (some q) rest) := by
  induction rest with
  | nil =>
    intro pre q h
    refine Ev.succ ?_
    simp only [spec_PairsOK.l0]
    exact Ev.neg (by rw [h]; simp) (Ev.is rfl)
  | cons p r ih =>
    intro pre q h
    have hx := rd_at l (pre ++ [q]) r p h
    have hq := rd_at l pre (p :: r) q (by rw [h]; simp)
    have hlen : (pre ++ [q]).length < l.length := by rw [h]; simp
    have hw := wrap_at (n := (pre ++ [q]).length) (by omega)
    have hp : wrap64 ((((pre ++ [q]).length : Nat) : Int) - 1) = ((pre.length : Nat) : Int) := by rw [← len_snoc]; exact wrap_pred (by simp at hlen <;> omega)
    have hi := ih (pre ++ [q]) p (by rw [h]; simp)
    rw [← len_snoc] at hi
    refine Ev.succ ?_
    simp only [spec_PairsOK.l0, hx, hp, hq, hw]
    refine Ev.pos (by omega) (Ev.pos (by omega) (Ev.bindk (spec_pair p) ?_))
    cases ho : okP p with
    | false => exact Ev.neg (by simp) (Ev.is (by simp [chainB, ho]))
    | true =>
      refine Ev.pos rfl (Ev.pos (by simp <;> omega) (Ev.pos (by omega) (Ev.pos (by simp at hlen <;> omega) ?_)))
      cases hb : Op.bytesLess q.f0.toList p.f0.toList with
      | false => exact Ev.neg (by simp) (Ev.is (by simp [chainB, ho, hb]))
      | true => exact Ev.pos rfl (Ev.same hi (by simp [chainB, ho, hb]))
theorem spec_rise (l : List S65) (hl : l.length ≤ 60) : Ev (fun k => spec_PairsOK.l0 k l 0) (chainB none l) := by
  cases l with
  | nil =>
    refine Ev.succ ?_
    simp only [spec_PairsOK.l0]
    exact Ev.neg (by simp) (Ev.is rfl)
  | cons p r =>
    have hx := rd_at (p :: r) [] r p rfl
    simp only [List.length_nil, Int.natCast_zero] at hx
    have hi := spec_rise_more (p :: r) hl r [] p rfl
    refine Ev.succ ?_
    simp only [spec_PairsOK.l0, hx]
    refine Ev.pos (by simp <;> omega) (Ev.pos (by omega) (Ev.bindk (spec_pair p) ?_))
    cases ho : okP p with
    | false => exact Ev.neg (by simp) (Ev.is (by simp [chainB, ho]))
    | true => 
      have e0 : ((([] ++ [p] : List S65).length : Nat) : Int) = wrap64 (0 + 1) := by unfold wrap64; simp
      rw [e0] at hi
      exact Ev.pos rfl (Ev.neg (by omega) (Ev.same hi (by simp [chainB, ho])))
theorem spec_pairsOK (l : List S65) : Ev (fun k => spec_PairsOK.f k l) (pairsB l) := by
  unfold spec_PairsOK.f pairsB
  by_cases h1 : (l.length : Int) > 4096
  · exact Ev.pos h1 (Ev.is (by simp [show ¬ l.length ≤ 60 by omega]))
  · by_cases h2 : (l.length : Int) > 60
    · exact Ev.neg h1 (Ev.pos h2 (Ev.is (by simp [show ¬ l.length ≤ 60 by omega])))
    · exact Ev.neg h1 (Ev.neg h2 (Ev.same (spec_rise l (by omega)) (by simp [show l.length ≤ 60 by omega])))
theorem impl_rise_more (l : List S65) (hl : l.length < 9223372036854775807) (rest : List S65) : ∀ (pre : List S65) (q : S65), l = (pre ++ [q]) ++ rest →
    Ev (fun k => impl_risingPairs.l0 k l l (l.length : Int) (((pre ++ [q]).length : Nat) : Int)) (chainB (some q) rest) := by
  induction rest with
  | nil =>
    intro pre q h
    refine Ev.succ ?_
    simp only [impl_risingPairs.l0]
    exact Ev.neg (by rw [h]; simp) (Ev.is rfl)
  | cons p r ih =>
    intro pre q h
    have hx := rd_at l (pre ++ [q]) r p h
    have hq := rd_at l pre (p :: r) q (by rw [h]; simp)
    have hlen : (pre ++ [q]).length < l.length := by rw [h]; simp
    have hw := wrap_at (n := (pre ++ [q]).length) (by omega)
    have hp : wrap64 ((((pre ++ [q]).length : Nat) : Int) - 1) = ((pre.length : Nat) : Int) := by rw [← len_snoc]; exact wrap_pred (by simp at hlen <;> omega)
    have hi := ih (pre ++ [q]) p (by rw [h]; simp)
    rw [← len_snoc] at hi
    refine Ev.succ ?_
    simp only [impl_risingPairs.l0, hx, hp, hq, hw]
    refine Ev.pos (by omega) (Ev.pos (by omega) (Ev.pos (by omega) (Ev.bindk (impl_pair p) ?_)))
    cases ho : okP p with
    | false => exact Ev.neg (by simp) (Ev.is (by simp [chainB, ho]))
    | true =>
      refine Ev.pos rfl (Ev.pos (by simp <;> omega) (Ev.pos (by omega) (Ev.pos (by simp at hlen <;> omega) ?_)))
      cases hb : Op.bytesLess q.f0.toList p.f0.toList with
      | false => exact Ev.neg (by simp) (Ev.is (by simp [chainB, ho, hb]))
      | true => exact Ev.pos rfl (Ev.same hi (by simp [chainB, ho, hb]))
theorem impl_rising (l : List S65) (hl : l.length < 9223372036854775807) : Ev (fun k => impl_risingPairs.f k l) (chainB none l) := by
  unfold impl_risingPairs.f
  cases l with
  | nil =>
    refine Ev.succ ?_
    simp only [impl_risingPairs.l0]
    exact Ev.neg (by simp) (Ev.is rfl)
  | cons p r =>
    have hx := rd_at (p :: r) [] r p rfl
    simp only [List.length_nil, Int.natCast_zero] at hx
    have hi := impl_rise_more (p :: r) hl r [] p rfl
    refine Ev.succ ?_
    simp only [impl_risingPairs.l0, hx]
    refine Ev.pos (by simp <;> omega) (Ev.pos (by omega) (Ev.pos (by simp <;> omega) (Ev.bindk (impl_pair p) ?_)))
    cases ho : okP p with
    | false => exact Ev.neg (by simp) (Ev.is (by simp [chainB, ho]))
    | true => 
      have e0 : ((([] ++ [p] : List S65).length : Nat) : Int) = wrap64 (0 + 1) := by unfold wrap64; simp
      rw [e0] at hi
      exact Ev.pos rfl (Ev.neg (by omega) (Ev.same hi (by simp [chainB, ho])))
theorem impl_pairsOK (l : List S65) : Ev (fun k => impl_PairsOK.f k l) (pairsB l) := by
  unfold impl_PairsOK.f pairsB
  by_cases h : (l.length : Int) ≤ 60
  · exact Ev.pos h (Ev.bind (impl_rising l (by omega)) (Ev.is (by simp [show l.length ≤ 60 by omega])))
  · exact Ev.neg h (Ev.is (by simp [show ¬ l.length ≤ 60 by omega]))

end Go.Proofs.Ytonfmdgklgdgfaa.X
