import Derived.Test.YtonfmdgklgdgfaaKFnExactPairsUnder2
import Derived.Test.YtonfmdgklgdgfaaKFnExactPairsUnder3
import Derived.Test.YtonfmdgklgdgfaaKFnExactPairsUnder4
import Derived.Test.YtonfmdgklgdgfaaKFnExactPairsUnder5
import Derived.Test.YtonfmdgklgdgfaaKFnExactPairsUnder8
import Derived.Test.YtonfmdgklgdgfaaKFnExactPairsUnder9
import Derived.Test.YtonfmdgklgdgfaaKFnExactPairsUnder10
import Derived.Test.YtonfmdgklgdgfaaKFnExactPairsUnder14
import Derived.Test.YtonfmdgklgdgfaaRows
import Derived.WalkKit
import Derived.ProofKit
import Derived.OpenShut
import Derived.ShutString
import Derived.ChangeOld
import Derived.Below
import Derived.SizedLaws
namespace Go.Proofs.Ytonfmdgklgdgfaa.X
open Go.RowKit Go.Proofs.YtonfmdgklgdgfaaW.PrintWords Go.Proofs.YtonfmdgklgdgfaaW.PrintLast Go.Proofs.YtonfmdgklgdgfaaW.PrintMore
attribute [local go_sem] xbin_geq xbin_leq xbin_gtr max2_int min2_int max_two min_two max_three min_three max_four min_four
set_option linter.unusedVariables false
set_option linter.unusedSimpArgs false
def Rises (l : List S65) : Prop := l.Pairwise fun a b => Op.bytesLess a.f0.toList b.f0.toList = true
instance risesDec (l : List S65) : Decidable (Rises l) := by unfold Rises; infer_instance
def okP (p : S65) : Bool := keyB p.f0 && decide (p.f1.size ≤ 90)
def chainB : Option S65 → List S65 → Bool
  | _, [] => true
  | none, p :: r => okP p && chainB (some p) r
  | some q, p :: r => okP p && (Op.bytesLess q.f0.toList p.f0.toList && chainB (some p) r)
def pairsB (l : List S65) : Bool := decide (l.length ≤ 60) && chainB none l
theorem chainB_rises (l : List S65) : ∀ q, chainB (some q) l = true → (∀ p ∈ l, okP p = true) ∧ (q :: l).Pairwise fun a b => Op.bytesLess a.f0.toList b.f0.toList = true := by
  induction l with
  | nil => intro q _; exact ⟨fun p hp => (by cases hp), List.pairwise_singleton _ _⟩
  | cons p r ih =>
    intro q h
    simp only [chainB, Bool.and_eq_true] at h
    obtain ⟨h1, h2, h3⟩ := h
    obtain ⟨i1, i2⟩ := ih p h3
    refine ⟨fun x hx => ?_, List.pairwise_cons.2 ⟨fun x hx => ?_, i2⟩⟩
    · rcases List.mem_cons.1 hx with rfl | hx
      · exact h1
      · exact i1 x hx
    · rcases List.mem_cons.1 hx with rfl | hx
      · exact h2
      · exact bless_trans h2 ((List.pairwise_cons.1 i2).1 x hx)
theorem chainB_none {l : List S65} (h : chainB none l = true) : (∀ p ∈ l, okP p = true) ∧ Rises l := by
  cases l with
  | nil => exact ⟨fun p hp => (by cases hp), List.Pairwise.nil⟩
  | cons p r =>
    simp only [chainB, Bool.and_eq_true] at h
    obtain ⟨i1, i2⟩ := chainB_rises r p h.2
    refine ⟨fun x hx => ?_, i2⟩
    rcases List.mem_cons.1 hx with rfl | hx
    · exact h.1
    · exact i1 x hx
theorem chainB_of (l : List S65) : ∀ q, (∀ p ∈ l, okP p = true) → ((q :: l).Pairwise fun a b => Op.bytesLess a.f0.toList b.f0.toList = true) → chainB (some q) l = true := by
  induction l with
  | nil => intro q _ _; rfl
  | cons p r ih =>
    intro q h1 h2
    simp only [chainB, Bool.and_eq_true]
    exact ⟨h1 p List.mem_cons_self, (List.pairwise_cons.1 h2).1 p List.mem_cons_self, ih p (fun x hx => h1 x (List.mem_cons_of_mem _ hx)) (List.pairwise_cons.1 h2).2⟩
theorem chainB_none_of {l : List S65} (h1 : ∀ p ∈ l, okP p = true) (h2 : Rises l) : chainB none l = true := by
  cases l with
  | nil => rfl
  | cons p r =>
    simp only [chainB, Bool.and_eq_true]
    exact ⟨h1 p List.mem_cons_self, chainB_of r p (fun x hx => h1 x (List.mem_cons_of_mem _ hx)) h2⟩
theorem pairsB_is {l : List S65} : pairsB l = true ↔ l.length ≤ 60 ∧ (∀ p ∈ l, okP p = true) ∧ Rises l := by
  unfold pairsB
  rw [Bool.and_eq_true, decide_eq_true_eq]
  exact ⟨fun h => ⟨h.1, chainB_none h.2⟩, fun h => ⟨h.1, chainB_none_of h.2.1 h.2.2⟩⟩
theorem rd_at (l : List S65) (pre rest : List S65) (x : S65) (h : l = pre ++ x :: rest) : rd_T65 l ((pre.length : Nat) : Int) = x := by
  subst h
  simp [rd_T65, List.getD_eq_getElem?_getD]
theorem spec_pair (p : S65) : spec_l01Pair.f p.f0 p.f1 = some (okP p) := by
  unfold spec_l01Pair.f okP
  have e : ((p.f1.size : Int) ≤ 90) = (p.f1.size ≤ 90) := propext (by omega)
  rw [spec_key, Option.bind_some]
  cases keyB p.f0 <;> simp [e]
theorem impl_pair (p : S65) : impl_pairOK.f p.f0 p.f1 = some (okP p) := by
  unfold impl_pairOK.f okP
  have e : ((p.f1.size : Int) ≤ 90) = (p.f1.size ≤ 90) := propext (by omega)
  rw [impl_key, Option.bind_some]
  cases keyB p.f0 <;> simp [e]
theorem spec_rise_more (l : List S65) (hl : l.length ≤ 60) (rest : List S65) : ∀ (pre : List S65) (q : S65), l = (pre ++ [q]) ++ rest →
    Ev (fun k => spec_PairsOK.l0 k l (((pre ++ [q]).length : Nat) : Int)) (chainB (some q) rest) := by
  induction rest with
  | nil =>
    intro pre q h
    refine Ev.succ ?_
    simp only [spec_PairsOK.l0]
    exact Ev.neg (by rw [h]; simp) (Ev.is rfl)
  | cons p r ih =>
    intro pre q h
    have hx := rd_at l (pre ++ [q]) r p h
    have hq := rd_at l pre (p :: r) q (by rw [h]; simp)
    have hlen : (pre ++ [q]).length < l.length := by rw [h]; simp
    have hw := wrap_at (n := (pre ++ [q]).length) (by omega)
    have hp : wrap64 ((((pre ++ [q]).length : Nat) : Int) - 1) = ((pre.length : Nat) : Int) := by rw [← len_snoc]; exact wrap_pred (by simp at hlen <;> omega)
    have hi := ih (pre ++ [q]) p (by rw [h]; simp)
    rw [← len_snoc] at hi
    refine Ev.succ ?_
    simp only [spec_PairsOK.l0, hx, hp, hq, hw]
    refine Ev.pos (by omega) (Ev.pos (by omega) (Ev.bindk (spec_pair p) ?_))
    cases ho : okP p with
    | false => exact Ev.neg (by simp) (Ev.is (by simp [chainB, ho]))
    | true =>
      refine Ev.pos rfl (Ev.pos (by simp <;> omega) (Ev.pos (by omega) (Ev.pos (by simp at hlen <;> omega) ?_)))
      cases hb : Op.bytesLess q.f0.toList p.f0.toList with
      | false => exact Ev.neg (by simp) (Ev.is (by simp [chainB, ho, hb]))
      | true => exact Ev.pos rfl (Ev.same hi (by simp [chainB, ho, hb]))
theorem spec_rise (l : List S65) (hl : l.length ≤ 60) : Ev (fun k => spec_PairsOK.l0 k l 0) (chainB none l) := by
  cases l with
  | nil =>
    refine Ev.succ ?_
    simp only [spec_PairsOK.l0]
    exact Ev.neg (by simp) (Ev.is rfl)
  | cons p r =>
    have hx := rd_at (p :: r) [] r p rfl
    simp only [List.length_nil, Int.natCast_zero] at hx
    have hi := spec_rise_more (p :: r) hl r [] p rfl
    refine Ev.succ ?_
    simp only [spec_PairsOK.l0, hx]
    refine Ev.pos (by simp <;> omega) (Ev.pos (by omega) (Ev.bindk (spec_pair p) ?_))
    cases ho : okP p with
    | false => exact Ev.neg (by simp) (Ev.is (by simp [chainB, ho]))
    | true =>
      have e0 : ((([] ++ [p] : List S65).length : Nat) : Int) = wrap64 (0 + 1) := by unfold wrap64; simp
      rw [e0] at hi
      exact Ev.pos rfl (Ev.neg (by omega) (Ev.same hi (by simp [chainB, ho])))
theorem spec_pairsOK (l : List S65) : Ev (fun k => spec_PairsOK.f k l) (pairsB l) := by
  unfold spec_PairsOK.f pairsB
  by_cases h1 : (l.length : Int) > 4096
  · exact Ev.pos h1 (Ev.is (by simp [show ¬ l.length ≤ 60 by omega]))
  · by_cases h2 : (l.length : Int) > 60
    · exact Ev.neg h1 (Ev.pos h2 (Ev.is (by simp [show ¬ l.length ≤ 60 by omega])))
    · exact Ev.neg h1 (Ev.neg h2 (Ev.same (spec_rise l (by omega)) (by simp [show l.length ≤ 60 by omega])))
theorem impl_rise_more (l : List S65) (hl : l.length < 9223372036854775807) (rest : List S65) : ∀ (pre : List S65) (q : S65), l = (pre ++ [q]) ++ rest →
    Ev (fun k => impl_risingPairs.l0 k l l (l.length : Int) (((pre ++ [q]).length : Nat) : Int)) (chainB (some q) rest) := by
  induction rest with
  | nil =>
    intro pre q h
    refine Ev.succ ?_
    simp only [impl_risingPairs.l0]
    exact Ev.neg (by rw [h]; simp) (Ev.is rfl)
  | cons p r ih =>
    intro pre q h
    have hx := rd_at l (pre ++ [q]) r p h
    have hq := rd_at l pre (p :: r) q (by rw [h]; simp)
    have hlen : (pre ++ [q]).length < l.length := by rw [h]; simp
    have hw := wrap_at (n := (pre ++ [q]).length) (by omega)
    have hp : wrap64 ((((pre ++ [q]).length : Nat) : Int) - 1) = ((pre.length : Nat) : Int) := by rw [← len_snoc]; exact wrap_pred (by simp at hlen <;> omega)
    have hi := ih (pre ++ [q]) p (by rw [h]; simp)
    rw [← len_snoc] at hi
    refine Ev.succ ?_
    simp only [impl_risingPairs.l0, hx, hp, hq, hw]
    refine Ev.pos (by omega) (Ev.pos (by omega) (Ev.pos (by omega) (Ev.bindk (impl_pair p) ?_)))
    cases ho : okP p with
    | false => exact Ev.neg (by simp) (Ev.is (by simp [chainB, ho]))
    | true =>
      refine Ev.pos rfl (Ev.pos (by simp <;> omega) (Ev.pos (by omega) (Ev.pos (by simp at hlen <;> omega) ?_)))
      cases hb : Op.bytesLess q.f0.toList p.f0.toList with
      | false => exact Ev.neg (by simp) (Ev.is (by simp [chainB, ho, hb]))
      | true => exact Ev.pos rfl (Ev.same hi (by simp [chainB, ho, hb]))
theorem impl_rising (l : List S65) (hl : l.length < 9223372036854775807) : Ev (fun k => impl_risingPairs.f k l) (chainB none l) := by
  unfold impl_risingPairs.f
  cases l with
  | nil =>
    refine Ev.succ ?_
    simp only [impl_risingPairs.l0]
    exact Ev.neg (by simp) (Ev.is rfl)
  | cons p r =>
    have hx := rd_at (p :: r) [] r p rfl
    simp only [List.length_nil, Int.natCast_zero] at hx
    have hi := impl_rise_more (p :: r) hl r [] p rfl
    refine Ev.succ ?_
    simp only [impl_risingPairs.l0, hx]
    refine Ev.pos (by simp <;> omega) (Ev.pos (by omega) (Ev.pos (by simp <;> omega) (Ev.bindk (impl_pair p) ?_)))
    cases ho : okP p with
    | false => exact Ev.neg (by simp) (Ev.is (by simp [chainB, ho]))
    | true =>
      have e0 : ((([] ++ [p] : List S65).length : Nat) : Int) = wrap64 (0 + 1) := by unfold wrap64; simp
      rw [e0] at hi
      exact Ev.pos rfl (Ev.neg (by omega) (Ev.same hi (by simp [chainB, ho])))
end Go.Proofs.Ytonfmdgklgdgfaa.X
namespace Go.Proofs.Ytonfmdgklgdgfaa.X
open Go.RowKit Go.Proofs.YtonfmdgklgdgfaaW.PrintWords Go.Proofs.YtonfmdgklgdgfaaW.PrintLast Go.Proofs.YtonfmdgklgdgfaaW.PrintMore
attribute [local go_sem] xbin_geq xbin_leq xbin_gtr max2_int min2_int max_two min_two max_three min_three max_four min_four
set_option linter.unusedVariables false
set_option linter.unusedSimpArgs false
theorem impl_pairsOK (l : List S65) : Ev (fun k => impl_PairsOK.f k l) (pairsB l) := by
  unfold impl_PairsOK.f pairsB
  by_cases h : (l.length : Int) ≤ 60
  · exact Ev.pos h (Ev.bind (impl_rising l (by omega)) (Ev.is (by simp [show l.length ≤ 60 by omega])))
  · exact Ev.neg h (Ev.is (by simp [show ¬ l.length ≤ 60 by omega]))
end Go.Proofs.Ytonfmdgklgdgfaa.X
namespace Go.Proofs.Ytonfmdgklgdgfaa.X
open Go.RowKit Go.Proofs.YtonfmdgklgdgfaaW.PrintWords Go.Proofs.YtonfmdgklgdgfaaW.PrintLast Go.Proofs.YtonfmdgklgdgfaaW.PrintMore
attribute [local go_sem] xbin_geq xbin_leq xbin_gtr max2_int min2_int max_two min_two max_three min_three max_four min_four
set_option linter.unusedVariables false
set_option linter.unusedSimpArgs false
theorem begins_is (s p : ByteArray) : spec_l01Begins.f s p = some (startsB s p) := by
  unfold spec_l01Begins.f startsB
  by_cases h : (s.size : Int) ≥ (p.size : Int)
  · rw [if_pos h, if_pos (by omega), if_pos (by omega), Int.toNat_natCast, decide_eq_true (show p.size ≤ s.size by omega), Bool.true_and]
  · rw [if_neg h, decide_eq_false (show ¬ p.size ≤ s.size by omega), Bool.false_and]
theorem spec_under_loop (p : ByteArray) (rest : List S65) : ∀ (pre acc : List S65), (pre ++ rest).length ≤ 1000000 → acc.length ≤ pre.length → Ev (fun k => spec_l01Under.l0 k (pre ++ rest) p acc ((pre.length : Nat) : Int)) (acc ++ rest.filter fun x => startsB x.f0 p) := by
  induction rest with
  | nil =>
    intro pre acc hl ha
    refine Ev.succ ?_
    simp only [spec_l01Under.l0]
    exact Ev.neg (by simp) (Ev.is (by simp))
  | cons x r ih =>
    intro pre acc hl ha
    have hx : rd_T65 (pre ++ x :: r) ((pre.length : Nat) : Int) = x := rd_at _ pre r x rfl
    have hlt : ((pre.length : Nat) : Int) < ((pre ++ x :: r).length : Int) := by simp; omega
    have hpl : pre.length < 1000000 := by simp at hl; omega
    have e1 : pre ++ x :: r = (pre ++ [x]) ++ r := by simp
    refine Ev.succ ?_
    simp only [spec_l01Under.l0, hx, wrap_at (n := pre.length) (by omega)]
    refine Ev.pos hlt (Ev.pos (by omega) (Ev.bindk (begins_is _ _) ?_))
    rw [len_snoc pre x]
    cases hk : startsB x.f0 p with
    | false =>
      refine Ev.neg (by simp) ?_
      have := ih (pre ++ [x]) acc (by rw [← e1]; exact hl) (by simp; omega)
      rw [← e1] at this
      refine Ev.same this ?_
      rw [List.filter_cons]
      simp [hk]
    | true =>
      refine Ev.pos rfl (Ev.pos (by omega) ?_)
      have := ih (pre ++ [x]) (acc ++ [x]) (by rw [← e1]; exact hl) (by simp; omega)
      rw [← e1] at this
      refine Ev.same this ?_
      rw [List.filter_cons]
      simp [hk]
theorem spec_under (l : List S65) (p : ByteArray) (hl : l.length ≤ 1000000) : Ev (fun k => spec_l01Under.f k l p) (l.filter fun x => startsB x.f0 p) := by
  unfold spec_l01Under.f
  have h := spec_under_loop p l [] [] hl (Nat.le_refl _)
  simpa using h
def underR (l : List S65) (p : ByteArray) : List S65 × Int := if 4096 < l.length ∨ 65536 < p.size then ([], 2) else if pairsB l = true then (l.filter fun x => startsB x.f0 p, 0) else ([], 1)
theorem underR_length (l : List S65) (p : ByteArray) : (underR l p).1.length ≤ l.length := by
  unfold underR
  split
  · exact Nat.zero_le _
  · split
    · exact List.length_filter_le _ _
    · exact Nat.zero_le _
theorem impl_pairsUnder (l : List S65) (p : ByteArray) : Ev (fun k => impl_PairsUnder.f k l p) (underR l p) := by
  unfold impl_PairsUnder.f underR
  by_cases h : 4096 < l.length ∨ 65536 < p.size
  · refine Ev.same ?_ (if_pos h).symm
    exact Ev.pos h (Ev.is rfl)
  · refine Ev.same ?_ (if_neg h).symm
    refine Ev.neg h (Ev.bind (impl_pairsOK l) ?_)
    cases hp : pairsB l with
    | true => exact Ev.pos rfl (Ev.is (by simp))
    | false => exact Ev.neg (by simp) (Ev.is (by simp))
theorem spec_pairsUnder (l : List S65) (p : ByteArray) : Ev (fun k => spec_PairsUnder.f k l p) (underR l p) := by
  have hj : ∀ b : Bool, (b = true ↔ (4096 < l.length ∨ 65536 < p.size)) → Ev (fun k => spec_PairsUnder.j0 k l p b) (underR l p) := by
    intro b hb
    refine Ev.succ ?_
    simp only [spec_PairsUnder.j0]
    unfold underR
    cases b with
    | true => exact Ev.pos rfl (Ev.is (by rw [if_pos (hb.1 rfl)]))
    | false =>
      have hn : ¬ (4096 < l.length ∨ 65536 < p.size) := fun e => by have := hb.2 e; cases this
      refine Ev.same ?_ (if_neg hn).symm
      refine Ev.neg (by simp) (Ev.bind (spec_pairsOK l) ?_)
      cases hp : pairsB l with
      | true =>
        have := (pairsB_is.1 hp).1
        exact Ev.pos rfl (Ev.bind (spec_under l p (by omega)) (Ev.is (by simp)))
      | false => exact Ev.neg (by simp) (Ev.is (by simp))
  unfold spec_PairsUnder.f
  by_cases h : (l.length : Int) > 4096
  · exact Ev.pos h (hj true (by simp; omega))
  · refine Ev.neg h (hj _ ?_)
    simp only [decide_eq_true_eq]
    omega
end Go.Proofs.Ytonfmdgklgdgfaa.X
set_option linter.unusedSimpArgs false
set_option linter.unusedVariables false
namespace Go.Proofs.Ytonfmdgklgdgfaa.X.Pure
open Go.RowKit Go.Proofs.Ytonfmdgklgdgfaa.X Go.Proofs.YtonfmdgklgdgfaaW.PrintWords Go.Proofs.YtonfmdgklgdgfaaW.PrintLast
theorem FnExactPairsUnder : laws_FnExactPairsUnder.Pure := by
  intro l p hw hx0 hy0
  refine Ev.rounds (g := fun k => laws_FnExactPairsUnder.f k l p) ?_
  unfold laws_FnExactPairsUnder.f
  by_cases hk0 : (p.size : Int) > 1048576
  · exact Ev.pos hk0 (Ev.is rfl)
  refine Ev.neg hk0 ?_
  obtain ⟨r, hr, hq⟩ := sz_PairS l hw 1048576 1048576 (by omega) (by omega) (by omega)
  refine Ev.bind hr ?_
  by_cases h : r < 0
  · exact Ev.pos h (Ev.is rfl)
  refine Ev.neg h ?_
  have hs := (hq (by omega)).2
  have ht := to_PairS l hs
  have hlen : (l.map cv63).length ≤ 1048576 := by rw [List.length_map]; have := hs.1; omega
  have e0 := eq_PairS (l.map cv63) ⟨by omega, fun y _ => ⟨trivial, trivial⟩⟩
  have m0 := mark_PairS (l.map cv63) 1 (by omega) (by omega) (by omega)
  have hn := underR_length (l.map cv63) p
  have iD := impl_pairsUnder (l.map cv63) p
  have sD := spec_pairsUnder (l.map cv63) p
  generalize l.map cv63 = x at *
  generalize hR : underR x p = R at *
  have eR := eq_PairS R.1 ⟨by omega, fun y _ => ⟨trivial, trivial⟩⟩
  have mR := mark_PairS R.1 1 (by omega) (by omega) (by omega)
  have hH := held_PairS R.1 1 (by omega) (by omega) (by omega)
  have hj2 : Ev (fun k => laws_FnExactPairsUnder.j2 k (mk_PairS R.1 1) (1 + 2 * (R.1.length : Int)) false) true := by
    refine Ev.succ ?_
    simp only [laws_FnExactPairsUnder.j2]
    exact Ev.neg (by simp) (Ev.bind hH (Ev.neg (by omega) (Ev.pos rfl (Ev.is rfl))))
  have hj1 : Ev (fun k => laws_FnExactPairsUnder.j1 k l p R.1 R.2 R.1 false) true := by
    refine Ev.succ ?_
    simp only [laws_FnExactPairsUnder.j1]
    refine Ev.neg (by simp) (Ev.bind mR (Ev.bind hH (Ev.neg (by omega) (Ev.pos rfl (Ev.bind ht (Ev.bind iD (Ev.bind eR (Ev.pos rfl ?_))))))))
    rw [bne_self_eq_false]
    exact hj2
  have hj0 : Ev (fun k => laws_FnExactPairsUnder.j0 k l p R.1 R.2 x R.1 R.2 false) true := by
    refine Ev.succ ?_
    simp only [laws_FnExactPairsUnder.j0]
    refine Ev.neg (by simp) (Ev.bind ht (Ev.bind e0 (Ev.pos rfl (Ev.bind m0 (Ev.neg (by simp only; omega) (Ev.bind eR (Ev.pos rfl ?_)))))))
    rw [bne_self_eq_false]
    exact hj1
  refine Ev.bind ht (Ev.bind sD (Ev.bind ht (Ev.bind iD (Ev.bind eR (Ev.pos rfl ?_)))))
  rw [bne_self_eq_false]
  exact hj0
end Go.Proofs.Ytonfmdgklgdgfaa.X.Pure
namespace Go.Proofs.Ytonfmdgklgdgfaa.fnExactPairsUnder
open Go.ChangeShapes Go.WideShapes Go.ChangeAt Go.RowKit Go.Proofs.Ytonfmdgklgdgfaa.X Go.Proofs.YtonfmdgklgdgfaaW.PrintWords
open Go.ChangeMaps (open_string shut_string)
set_option linter.unusedVariables false
theorem own : ownKnob Try.prog.godebug = none := by kernel_rfl
theorem laidOut : laidOutB Try.prog = true := by kernel_rfl
set_option maxRecDepth 100000 in
theorem lifted (os : Os) (started : os.Started) (H : Type) (enc : TypeId × Value → H) :
    ReturnsInHanded {} Try.checked os 12 .any (Rows.fnExactPairsUnderSpec.pre6 enc Try.prog Try.f12 Rows.fnExactPairsUnderRow.domain false) (Rows.fnExactPairsUnderSpec.post enc Try.prog Try.f12 false true false false) := by
  refine returnsInHanded_of_change_sized (C := Try.checked) own started (by kernel_rfl) Try.func12
    (ChangeSpec.witness6 (enc := enc) (C := Try.checked) false ⟨#[], #[.slice none 0 0, .string ByteArray.empty], []⟩ 8 (by kernel_rfl) (by kernel_rfl) (by kernel_rfl) (by kernel_rfl)) ?_
  intro W base args ds gs before hval0 hW hcnd hsz0 _
  have hsz : (DataW.weightsEach Try.prog (Try.f12.params.toList ++ Rows.fnExactPairsUnderSpec.plain.varTypes Try.prog) (ds ++ gs)).all (· ≤ reachBytes) = true := hsz0
  have hval : ∀ (j : Nat) t v, Try.f12.params[j]? = some t → args[j]? = some v → Value.okWide Try.prog W .any base t v := hval0
  have hW' := hW
  obtain ⟨p, q, hA0, hV, rfl, hfz, hnd⟩ := hW
  have hA : DataW.TrodAll enc Try.prog W 0 (fun _ => true) true Try.f12.params.toList args.toList ds p := hA0
  rw [Try.params12] at hA hval hsz
  obtain ⟨v0, vs0, d0, ds0, p0, q0, hargs, rfl, rfl, h0, r0⟩ := trodAll_cons hA
  obtain ⟨v1, vs1, d1, ds1, p1, q1, rfl, rfl, rfl, h1, r1⟩ := trodAll_cons r0
  obtain ⟨rfl, rfl, rfl⟩ := trodAll_nil r1
  obtain rfl : args = #[v0, v1] := by cases args; simp_all
  obtain ⟨rfl, rfl⟩ := trodVars_none hV
  have k0 := h0
  have lt0 : ∀ x ∈ p0, x.block < W.heap.size := by obtain ⟨m, hm⟩ := k0; exact DataW.trod_lt m _ _ _ hm
  obtain ⟨A0, len0, c0, rfl⟩ := okWide_slice Try.underlying34 (hval 0 34 v0 rfl rfl)
  obtain ⟨l0, rfl, hc0, hr0, hw0⟩ := Opens.slice_arg opens34 h0
  obtain ⟨a1, rfl, rfl, rfl, y1⟩ := open_string Try.underlying9 (hval 1 9 v1 rfl rfl) h1
  have w1 : a1.size ≤ 140737488351232 := by
    have z := sized_string hsz (j := 1) (t := 9) rfl rfl
    rw [Array.length_toList] at z
    exact z
  clear hA0 hval0 hsz0 hsz
  obtain ⟨k, hP⟩ := X.Pure.FnExactPairsUnder l0 a1 hw0 y1 w1
  refine (laws_FnExactPairsUnder.calls k A0 c0 l0 a1 true W hr0 hc0 hP).mono fun e W' hQ => ?_
  obtain ⟨he, bel0⟩ := hQ
  subst he
  have bel : Below W.heap.size W W' := bel0
  exact ⟨_, rfl, _, _, _, [], _, [], hW', trodAll_mk1 (shut_bool Try.underlying4 _), (trodAll_cons_mk (Below.trod laidOut (by kernel_rfl) (of_decide_eq_true (by kernel_rfl)) k0 bel lt0) (trodAll_cons_mk (shut_string Try.underlying9 y1) trodAll_mk0)), rfl, bel.frame _, fun h => by cases h⟩
theorem over : Rows.fnExactPairsUnderRow.holds Try.pinned (OpenSpec.ofChange Rows.fnExactPairsUnderSpec) :=
  OpenClaim.holds_of_wide 12 Try.f12 rfl rfl rfl rfl rfl rfl rfl ⟨rfl, rfl, rfl, rfl, rfl⟩ rfl rfl rfl rfl rfl (by kernel_rfl) Try.func12 (by kernel_rfl)
    (of_decide_eq_true (by kernel_rfl)) (by unfold Func.isWrapper; first | (rw [if_pos (by decide +kernel)]; kernel_rfl) | (rw [if_neg (by decide +kernel)]; exact ⟨rfl, rfl⟩))
    (fun os started H enc _ => lifted os started H enc)
theorem proved : Rows.FnExactPairsUnderSaid := over
end Go.Proofs.Ytonfmdgklgdgfaa.fnExactPairsUnder
namespace Go.Proofs.Ytonfmdgklgdgfaa
theorem fnExactPairsUnder_holds : Rows.FnExactPairsUnderSaid := fnExactPairsUnder.proved
end Go.Proofs.Ytonfmdgklgdgfaa
