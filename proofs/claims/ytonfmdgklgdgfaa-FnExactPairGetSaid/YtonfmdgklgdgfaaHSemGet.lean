import Derived.Test.YtonfmdgklgdgfaaX0
import Derived.Test.YtonfmdgklgdgfaaHEv
import Derived.Test.YtonfmdgklgdgfaaHPairAt
import Derived.Test.YtonfmdgklgdgfaaHSemPairs
import Derived.Test.YtonfmdgklgdgfaaX10
import Derived.Test.YtonfmdgklgdgfaaX11
import Derived.Test.YtonfmdgklgdgfaaX12
namespace Go.Proofs.Ytonfmdgklgdgfaa.X
open Go.RowKit Go.Proofs.YtonfmdgklgdgfaaW.PrintWords Go.Proofs.YtonfmdgklgdgfaaW.PrintLast Go.Proofs.YtonfmdgklgdgfaaW.PrintMore
attribute [local go_sem] xbin_geq xbin_leq xbin_gtr max2_int min2_int max_two min_two max_three min_three max_four min_four   -- for this text's walks alone
set_option linter.unusedVariables false
set_option linter.unusedSimpArgs false

def askP (l : List S65) (key : ByteArray) : Int := if 4096 < l.length ∨ 65536 < key.size then 2 else if pairsB l = true then (if keyB key = true then 0 else 4) else 1
theorem spec_ask (l : List S65) (key : ByteArray) : Ev (fun k => spec_l01Ask.f k l key) (askP l key) := by
  have hj : ∀ b : Bool, Ev (fun k => spec_l01Ask.j0 k l key b) (if b = true then 2 else if pairsB l = true then (if keyB key = true then 0 else 4) else 1) := by
    intro b
    refine Ev.succ ?_
    simp only [spec_l01Ask.j0]
    cases b with
    | true => exact Ev.pos rfl (Ev.is rfl)
    | false =>
      refine Ev.neg (by simp) (Ev.bind (spec_pairsOK l) ?_)
      cases hp : pairsB l with
      | false => exact Ev.neg (by simp) (Ev.is (by simp))
      | true =>
        refine Ev.pos rfl (Ev.bindk (spec_key key) ?_)
        cases hk : keyB key with
        | false => exact Ev.neg (by simp) (Ev.is (by simp))
        | true => exact Ev.pos rfl (Ev.is (by simp))
  unfold spec_l01Ask.f askP
  by_cases h : (l.length : Int) > 4096
  · exact Ev.pos h (Ev.same (hj true) (by rw [if_pos rfl, if_pos (by omega)]))
  · refine Ev.neg h (Ev.same (hj _) ?_)
    by_cases h2 : (key.size : Int) > 65536
    · have h3 : 4096 < l.length ∨ 65536 < key.size := by omega
      have h4 : decide ((key.size : Int) > 65536) = true := decide_eq_true h2
      rw [h4, if_pos rfl, if_pos h3]
    · have h3 : ¬(4096 < l.length ∨ 65536 < key.size) := by omega
      have h4 : decide ((key.size : Int) > 65536) = false := decide_eq_false h2
      rw [h4, if_neg Bool.false_ne_true, if_neg h3]
theorem impl_asked (l : List S65) (key : ByteArray) : Ev (fun k => impl_askedPairs.f k l key) (askP l key) := by
  have hj : ∀ b : Bool, Ev (fun k => impl_askedPairs.j0 k l key b) (if b = true then 2 else if pairsB l = true then (if keyB key = true then 0 else 4) else 1) := by
    intro b
    refine Ev.succ ?_
    simp only [impl_askedPairs.j0]
    cases b with
    | true => exact Ev.pos rfl (Ev.is rfl)
    | false =>
      refine Ev.neg (by simp) (Ev.bind (impl_pairsOK l) ?_)
      cases hp : pairsB l with
      | false => exact Ev.neg (by simp) (Ev.is (by simp))
      | true =>
        refine Ev.pos rfl (Ev.bindk (impl_key key) ?_)
        cases hk : keyB key with
        | false => exact Ev.neg (by simp) (Ev.is (by simp))
        | true => exact Ev.pos rfl (Ev.is (by simp))
  unfold impl_askedPairs.f askP
  by_cases h : (l.length : Int) > 4096
  · exact Ev.pos h (Ev.same (hj true) (by rw [if_pos rfl, if_pos (by omega)]))
  · refine Ev.neg h (Ev.same (hj _) ?_)
    by_cases h2 : (key.size : Int) > 65536
    · have h3 : 4096 < l.length ∨ 65536 < key.size := by omega
      have h4 : decide ((key.size : Int) > 65536) = true := decide_eq_true h2
      rw [h4, if_pos rfl, if_pos h3]
    · have h3 : ¬(4096 < l.length ∨ 65536 < key.size) := by omega
      have h4 : decide ((key.size : Int) > 65536) = false := decide_eq_false h2
      rw [h4, if_neg Bool.false_ne_true, if_neg h3]
theorem askP_zero {l : List S65} {key : ByteArray} (h : askP l key = 0) : l.length ≤ 60 ∧ key.size ≤ 65536 ∧ (∀ p ∈ l, okP p = true) ∧ Rises l ∧ keyB key = true := by
  unfold askP at h
  by_cases h1 : 4096 < l.length ∨ 65536 < key.size
  · rw [if_pos h1] at h; omega
  · rw [if_neg h1] at h
    cases hp : pairsB l with
    | false => rw [if_neg (by rw [hp]; decide)] at h; omega
    | true =>
      rw [if_pos hp] at h
      cases hk : keyB key with
      | false => rw [if_neg (by rw [hk]; decide)] at h; omega
      | true => have := pairsB_is.1 hp; exact ⟨this.1, by omega, this.2.1, this.2.2, rfl⟩
theorem spec_at_loop (l : List S65) (key : ByteArray) (hl : l.length < 9223372036854775807) (rest : List S65) : ∀ pre : List S65, l = pre ++ rest →
    Ev (fun k => spec_l01At.l0 k l key ((pre.length : Nat) : Int)) ((pre.length : Int) + (rest.findIdx fun p => !Op.bytesLess p.f0.toList key.toList : Nat)) := by
  induction rest with
  | nil =>
    intro pre h
    refine Ev.succ ?_
    simp only [spec_l01At.l0]
    exact Ev.neg (by rw [h]; simp) (Ev.is (by simp))
  | cons x r ih =>
    intro pre h
    have hx := rd_at l pre r x h
    have hlen : pre.length < l.length := by rw [h]; simp
    have hi := ih (pre ++ [x]) (by rw [h]; simp)
    rw [← len_snoc] at hi
    refine Ev.succ ?_
    simp only [spec_l01At.l0, hx, wrap_at (n := pre.length) (by omega)]
    refine Ev.pos (by omega) (Ev.pos (by omega) ?_)
    cases hb : Op.bytesLess x.f0.toList key.toList with
    | true =>
      refine Ev.pos rfl (Ev.same hi ?_)
      rw [List.findIdx_cons, hb]
      simp
      omega
    | false =>
      refine Ev.neg (by simp) (Ev.is ?_)
      rw [List.findIdx_cons, hb]
      simp
theorem spec_at (l : List S65) (key : ByteArray) (hl : l.length < 9223372036854775807) : Ev (fun k => spec_l01At.f k l key) (lowAt l key : Int) := by
  unfold spec_l01At.f
  have h := spec_at_loop l key hl l [] rfl
  simpa [lowAt] using h
/-- The value of a key, if it is there. -/
def getV (l : List S65) (key : ByteArray) : ByteArray := if hasAt l key = true then (rd_T65 l (lowAt l key)).f1 else ⟨#[]⟩
theorem spec_get (l : List S65) (key : ByteArray) (hl : l.length < 9223372036854775807) : Ev (fun k => spec_l01Get.f k l key) (getV l key, hasAt l key) := by
  unfold spec_l01Get.f
  refine Ev.bind (spec_at l key hl) ?_
  unfold getV hasAt
  by_cases h : lowAt l key < l.length
  · refine Ev.pos (by omega) (Ev.pos (by omega) ?_)
    by_cases h2 : (rd_T65 l (lowAt l key)).f0.toList = key.toList
    · exact Ev.pos h2 (Ev.is (by simp [h, h2]))
    · exact Ev.neg h2 (Ev.is (by simp [h, h2]))
  · exact Ev.neg (by omega) (Ev.is (by simp [h]))
theorem impl_at {l : List S65} (key : ByteArray) (h : Rises l) (hl : l.length ≤ 1000000) : impl_pairAt.f l key = some ((lowAt l key : Int), hasAt l key) := by
  unfold impl_pairAt.f
  rw [if_pos ⟨h, hl⟩]
theorem hasAt_lt {l : List S65} {key : ByteArray} (h : hasAt l key = true) : lowAt l key < l.length := by
  unfold hasAt at h
  simp only [Bool.and_eq_true, decide_eq_true_eq] at h
  exact h.1
def getP (l : List S65) (key : ByteArray) : ByteArray × Int := if askP l key = 0 then (if hasAt l key = true then (getV l key, 0) else (⟨#[]⟩, 5)) else (⟨#[]⟩, askP l key)
theorem impl_pairGet (l : List S65) (key : ByteArray) : Ev (fun k => impl_PairGet.f k l key) (getP l key) := by
  unfold impl_PairGet.f getP
  refine Ev.bind (impl_asked l key) ?_
  by_cases h : askP l key = 0
  · obtain ⟨h1, _, _, h4, _⟩ := askP_zero h
    refine Ev.same ?_ (if_pos h).symm
    refine Ev.pos h (Ev.bindk (impl_at key h4 (by omega)) ?_)
    cases hh : hasAt l key with
    | false => exact Ev.neg (by simp) (Ev.is (by simp))
    | true =>
      have := hasAt_lt hh
      exact Ev.pos rfl (Ev.pos (by simp) (Ev.pos (by simp; omega) (Ev.is (by simp [getV, hh]))))
  · refine Ev.same ?_ (if_neg h).symm
    exact Ev.neg h (Ev.is rfl)
theorem spec_pairGet (l : List S65) (key : ByteArray) : Ev (fun k => spec_PairGet.f k l key) (getP l key) := by
  have hj : ∀ b : Bool, (b = true ↔ (4096 < l.length ∨ 65536 < key.size)) → Ev (fun k => spec_PairGet.j0 k l key b) (getP l key) := by
    intro b hb
    refine Ev.succ ?_
    simp only [spec_PairGet.j0]
    unfold getP
    cases b with
    | true =>
      have h2 : askP l key = 2 := by unfold askP; rw [if_pos (hb.1 rfl)]
      exact Ev.pos rfl (Ev.is (by simp [h2]))
    | false =>
      refine Ev.neg (by simp) (Ev.bind (spec_ask l key) ?_)
      by_cases h : askP l key = 0
      · obtain ⟨h1, _, _, h4, _⟩ := askP_zero h
        refine Ev.same ?_ (if_pos h).symm
        refine Ev.pos h (Ev.bind (spec_get l key (by omega)) ?_)
        cases hh : hasAt l key with
        | false => exact Ev.neg (by simp) (Ev.is (by simp))
        | true => exact Ev.pos rfl (Ev.is (by simp))
      · refine Ev.same ?_ (if_neg h).symm
        exact Ev.neg h (Ev.is rfl)
  unfold spec_PairGet.f
  by_cases h : (l.length : Int) > 4096
  · exact Ev.pos h (hj true (by simp; omega))
  · refine Ev.neg h (hj _ ?_)
    simp only [decide_eq_true_eq]
    omega

end Go.Proofs.Ytonfmdgklgdgfaa.X
