import Derived.Test.YtonfmdgklgdgfaaKFnExactPairDrop3
import Derived.Test.YtonfmdgklgdgfaaKFnExactPairDrop9
import Derived.Test.YtonfmdgklgdgfaaKFnExactPairDrop10
import Derived.Test.YtonfmdgklgdgfaaKFnExactPairDrop11
import Derived.Test.YtonfmdgklgdgfaaKFnExactPairDrop12
import Derived.Test.YtonfmdgklgdgfaaKFnExactPairDrop14
import Derived.Test.YtonfmdgklgdgfaaKFnExactPairDrop15
import Derived.Test.YtonfmdgklgdgfaaKFnExactPairDrop16
import Derived.Test.YtonfmdgklgdgfaaKFnExactPairDrop18
import Derived.Test.YtonfmdgklgdgfaaKFnExactPairDrop19
import Derived.Test.YtonfmdgklgdgfaaRows
import Derived.WalkKit
import Derived.ProofKit
import Derived.OpenShut
import Derived.ShutString
import Derived.ChangeOld
import Derived.Below
import Derived.SizedLaws
namespace Go.Proofs.Ytonfmdgklgdgfaa.X
open Go.RowKit Go.Proofs.YtonfmdgklgdgfaaW.PrintWords Go.Proofs.YtonfmdgklgdgfaaW.PrintLast Go.Proofs.YtonfmdgklgdgfaaW.PrintMore
attribute [local go_sem] xbin_geq xbin_leq xbin_gtr max2_int min2_int max_two min_two max_three min_three max_four min_four
set_option linter.unusedVariables false
set_option linter.unusedSimpArgs false
def askP (l : List S65) (key : ByteArray) : Int := if 4096 < l.length ∨ 65536 < key.size then 2 else if pairsB l = true then (if keyB key = true then 0 else 4) else 1
theorem spec_ask (l : List S65) (key : ByteArray) : Ev (fun k => spec_l01Ask.f k l key) (askP l key) := by
  have hj : ∀ b : Bool, Ev (fun k => spec_l01Ask.j0 k l key b) (if b = true then 2 else if pairsB l = true then (if keyB key = true then 0 else 4) else 1) := by
    intro b
    refine Ev.succ ?_
    simp only [spec_l01Ask.j0]
    cases b with
    | true => exact Ev.pos rfl (Ev.is rfl)
    | false =>
      refine Ev.neg (by simp) (Ev.bind (spec_pairsOK l) ?_)
      cases hp : pairsB l with
      | false => exact Ev.neg (by simp) (Ev.is (by simp))
      | true =>
        refine Ev.pos rfl (Ev.bindk (spec_key key) ?_)
        cases hk : keyB key with
        | false => exact Ev.neg (by simp) (Ev.is (by simp))
        | true => exact Ev.pos rfl (Ev.is (by simp))
  unfold spec_l01Ask.f askP
  by_cases h : (l.length : Int) > 4096
  · exact Ev.pos h (Ev.same (hj true) (by rw [if_pos rfl, if_pos (by omega)]))
  · refine Ev.neg h (Ev.same (hj _) ?_)
    by_cases h2 : (key.size : Int) > 65536
    · have h3 : 4096 < l.length ∨ 65536 < key.size := by omega
      have h4 : decide ((key.size : Int) > 65536) = true := decide_eq_true h2
      rw [h4, if_pos rfl, if_pos h3]
    · have h3 : ¬(4096 < l.length ∨ 65536 < key.size) := by omega
      have h4 : decide ((key.size : Int) > 65536) = false := decide_eq_false h2
      rw [h4, if_neg Bool.false_ne_true, if_neg h3]
theorem impl_asked (l : List S65) (key : ByteArray) : Ev (fun k => impl_askedPairs.f k l key) (askP l key) := by
  have hj : ∀ b : Bool, Ev (fun k => impl_askedPairs.j0 k l key b) (if b = true then 2 else if pairsB l = true then (if keyB key = true then 0 else 4) else 1) := by
    intro b
    refine Ev.succ ?_
    simp only [impl_askedPairs.j0]
    cases b with
    | true => exact Ev.pos rfl (Ev.is rfl)
    | false =>
      refine Ev.neg (by simp) (Ev.bind (impl_pairsOK l) ?_)
      cases hp : pairsB l with
      | false => exact Ev.neg (by simp) (Ev.is (by simp))
      | true =>
        refine Ev.pos rfl (Ev.bindk (impl_key key) ?_)
        cases hk : keyB key with
        | false => exact Ev.neg (by simp) (Ev.is (by simp))
        | true => exact Ev.pos rfl (Ev.is (by simp))
  unfold impl_askedPairs.f askP
  by_cases h : (l.length : Int) > 4096
  · exact Ev.pos h (Ev.same (hj true) (by rw [if_pos rfl, if_pos (by omega)]))
  · refine Ev.neg h (Ev.same (hj _) ?_)
    by_cases h2 : (key.size : Int) > 65536
    · have h3 : 4096 < l.length ∨ 65536 < key.size := by omega
      have h4 : decide ((key.size : Int) > 65536) = true := decide_eq_true h2
      rw [h4, if_pos rfl, if_pos h3]
    · have h3 : ¬(4096 < l.length ∨ 65536 < key.size) := by omega
      have h4 : decide ((key.size : Int) > 65536) = false := decide_eq_false h2
      rw [h4, if_neg Bool.false_ne_true, if_neg h3]
theorem askP_zero {l : List S65} {key : ByteArray} (h : askP l key = 0) : l.length ≤ 60 ∧ key.size ≤ 65536 ∧ (∀ p ∈ l, okP p = true) ∧ Rises l ∧ keyB key = true := by
  unfold askP at h
  by_cases h1 : 4096 < l.length ∨ 65536 < key.size
  · rw [if_pos h1] at h; omega
  · rw [if_neg h1] at h
    cases hp : pairsB l with
    | false => rw [if_neg (by rw [hp]; decide)] at h; omega
    | true =>
      rw [if_pos hp] at h
      cases hk : keyB key with
      | false => rw [if_neg (by rw [hk]; decide)] at h; omega
      | true => have := pairsB_is.1 hp; exact ⟨this.1, by omega, this.2.1, this.2.2, rfl⟩
theorem spec_at_loop (l : List S65) (key : ByteArray) (hl : l.length < 9223372036854775807) (rest : List S65) : ∀ pre : List S65, l = pre ++ rest →
    Ev (fun k => spec_l01At.l0 k l key ((pre.length : Nat) : Int)) ((pre.length : Int) + (rest.findIdx fun p => !Op.bytesLess p.f0.toList key.toList : Nat)) := by
  induction rest with
  | nil =>
    intro pre h
    refine Ev.succ ?_
    simp only [spec_l01At.l0]
    exact Ev.neg (by rw [h]; simp) (Ev.is (by simp))
  | cons x r ih =>
    intro pre h
    have hx := rd_at l pre r x h
    have hlen : pre.length < l.length := by rw [h]; simp
    have hi := ih (pre ++ [x]) (by rw [h]; simp)
    rw [← len_snoc] at hi
    refine Ev.succ ?_
    simp only [spec_l01At.l0, hx, wrap_at (n := pre.length) (by omega)]
    refine Ev.pos (by omega) (Ev.pos (by omega) ?_)
    cases hb : Op.bytesLess x.f0.toList key.toList with
    | true =>
      refine Ev.pos rfl (Ev.same hi ?_)
      rw [List.findIdx_cons, hb]
      simp
      omega
    | false =>
      refine Ev.neg (by simp) (Ev.is ?_)
      rw [List.findIdx_cons, hb]
      simp
theorem spec_at (l : List S65) (key : ByteArray) (hl : l.length < 9223372036854775807) : Ev (fun k => spec_l01At.f k l key) (lowAt l key : Int) := by
  unfold spec_l01At.f
  have h := spec_at_loop l key hl l [] rfl
  simpa [lowAt] using h
def getV (l : List S65) (key : ByteArray) : ByteArray := if hasAt l key = true then (rd_T65 l (lowAt l key)).f1 else ⟨#[]⟩
theorem spec_get (l : List S65) (key : ByteArray) (hl : l.length < 9223372036854775807) : Ev (fun k => spec_l01Get.f k l key) (getV l key, hasAt l key) := by
  unfold spec_l01Get.f
  refine Ev.bind (spec_at l key hl) ?_
  unfold getV hasAt
  by_cases h : lowAt l key < l.length
  · refine Ev.pos (by omega) (Ev.pos (by omega) ?_)
    by_cases h2 : (rd_T65 l (lowAt l key)).f0.toList = key.toList
    · exact Ev.pos h2 (Ev.is (by simp [h, h2]))
    · exact Ev.neg h2 (Ev.is (by simp [h, h2]))
  · exact Ev.neg (by omega) (Ev.is (by simp [h]))
theorem impl_at {l : List S65} (key : ByteArray) (h : Rises l) (hl : l.length ≤ 1000000) : impl_pairAt.f l key = some ((lowAt l key : Int), hasAt l key) := by
  unfold impl_pairAt.f
  rw [if_pos ⟨h, hl⟩]
theorem hasAt_lt {l : List S65} {key : ByteArray} (h : hasAt l key = true) : lowAt l key < l.length := by
  unfold hasAt at h
  simp only [Bool.and_eq_true, decide_eq_true_eq] at h
  exact h.1
end Go.Proofs.Ytonfmdgklgdgfaa.X
namespace Go.Proofs.Ytonfmdgklgdgfaa.X
open Go.RowKit Go.Proofs.YtonfmdgklgdgfaaW.PrintWords Go.Proofs.YtonfmdgklgdgfaaW.PrintLast Go.Proofs.YtonfmdgklgdgfaaW.PrintMore
attribute [local go_sem] xbin_geq xbin_leq xbin_gtr max2_int min2_int max_two min_two max_three min_three max_four min_four
set_option linter.unusedVariables false
set_option linter.unusedSimpArgs false
theorem ba_ext {a b : ByteArray} (h : a.toList = b.toList) : a = b := by
  rw [ByteArray.toList_eq, ByteArray.toList_eq] at h
  exact ByteArray.ext (Array.toList_inj.mp h)
theorem rdP_at (l : List S65) (i : Nat) (h : i < l.length) : rd_T65 l (i : Int) = l[i] := by
  unfold rd_T65
  rw [Int.toNat_natCast]
  simp [List.getD_eq_getElem?_getD, h]
theorem hasAt_key {l : List S65} {key : ByteArray} (h : hasAt l key = true) : (l[lowAt l key]'(hasAt_lt h)).f0 = key := by
  have h2 := h
  unfold hasAt at h2
  simp only [Bool.and_eq_true, decide_eq_true_eq] at h2
  rw [rdP_at l _ h2.1] at h2
  exact ba_ext h2.2
theorem spec_drop_loop (key : ByteArray) (rest : List S65) : ∀ (pre acc : List S65), (pre ++ rest).length ≤ 1000000 → acc.length ≤ pre.length → Ev (fun k => spec_l01Drop.l0 k (pre ++ rest) key acc ((pre.length : Nat) : Int)) (acc ++ rest.filter fun p => !decide (p.f0.toList = key.toList)) := by
  induction rest with
  | nil =>
    intro pre acc hl ha
    refine Ev.succ ?_
    simp only [spec_l01Drop.l0]
    exact Ev.neg (by simp) (Ev.is (by simp))
  | cons x r ih =>
    intro pre acc hl ha
    have hx : rd_T65 (pre ++ x :: r) ((pre.length : Nat) : Int) = x := rd_at _ pre r x rfl
    have hlt : ((pre.length : Nat) : Int) < ((pre ++ x :: r).length : Int) := by simp; omega
    have hpl : pre.length < 1000000 := by simp at hl; omega
    have e1 : pre ++ x :: r = (pre ++ [x]) ++ r := by simp
    refine Ev.succ ?_
    simp only [spec_l01Drop.l0, hx, wrap_at (n := pre.length) (by omega)]
    refine Ev.pos hlt (Ev.pos (by omega) ?_)
    rw [len_snoc pre x]
    by_cases hk : x.f0.toList = key.toList
    · refine Ev.pos hk ?_
      have := ih (pre ++ [x]) acc (by rw [← e1]; exact hl) (by simp; omega)
      rw [← e1] at this
      refine Ev.same this ?_
      rw [List.filter_cons]
      simp [hk]
    · refine Ev.neg hk (Ev.pos (by omega) ?_)
      have := ih (pre ++ [x]) (acc ++ [x]) (by rw [← e1]; exact hl) (by simp; omega)
      rw [← e1] at this
      refine Ev.same this ?_
      rw [List.filter_cons]
      simp [hk]
theorem spec_drop (l : List S65) (key : ByteArray) (hl : l.length ≤ 1000000) : Ev (fun k => spec_l01Drop.f k l key) (l.filter fun p => !decide (p.f0.toList = key.toList)) := by
  unfold spec_l01Drop.f
  have h := spec_drop_loop key l [] [] hl (Nat.le_refl _)
  simpa using h
theorem filter_erase_at {l : List S65} {key : ByteArray} (hr : Rises l) (i : Nat) (hlt : i < l.length) (hk : l[i].f0 = key) : (l.filter fun p => !decide (p.f0.toList = key.toList)) = l.eraseIdx i := by
  have e : l = l.take i ++ l[i] :: l.drop (i + 1) := by
    rw [← List.drop_eq_getElem_cons hlt, List.take_append_drop]
  have f1 : (l.take i).filter (fun p => !decide (p.f0.toList = key.toList)) = l.take i := by
    refine List.filter_eq_self.2 fun x hx => ?_
    obtain ⟨j, hj, rfl⟩ := List.mem_take_iff_getElem.1 hx
    have := rises_lt hr hlt (show j < i by omega)
    rw [hk] at this
    simp only [Bool.not_eq_true', decide_eq_false_iff_not]
    intro he
    rw [he, bless_irrefl] at this
    cases this
  have f2 : (l.drop (i + 1)).filter (fun p => !decide (p.f0.toList = key.toList)) = l.drop (i + 1) := by
    refine List.filter_eq_self.2 fun x hx => ?_
    obtain ⟨j, hj, rfl⟩ := List.mem_drop_iff_getElem.1 hx
    have := rises_lt hr (show i + 1 + j < l.length by omega) (show i < i + 1 + j by omega)
    rw [hk] at this
    simp only [Bool.not_eq_true', decide_eq_false_iff_not]
    intro he
    rw [he, bless_irrefl] at this
    cases this
  rw [List.eraseIdx_eq_take_drop_succ]
  conv => lhs; rw [e]
  rw [List.filter_append, List.filter_cons, f1, f2, hk]
  simp
theorem filter_is_erase {l : List S65} {key : ByteArray} (hr : Rises l) (h : hasAt l key = true) : (l.filter fun p => !decide (p.f0.toList = key.toList)) = l.eraseIdx (lowAt l key) := filter_erase_at hr _ (hasAt_lt h) (hasAt_key h)
def dropP (l : List S65) (key : ByteArray) : List S65 := if hasAt l key = true then l.eraseIdx (lowAt l key) else l
theorem impl_drop {l : List S65} (key : ByteArray) (h : Rises l) (hl : l.length ≤ 1000000) : impl_dropPair.f l key = some (dropP l key) := by
  unfold impl_dropPair.f dropP
  rw [impl_at key h hl, Option.bind_some]
  cases hh : hasAt l key with
  | false => simp
  | true =>
    have hlt := hasAt_lt hh
    rw [if_pos rfl, if_pos rfl]
    unfold impl_Pair_99.f
    rw [if_pos ⟨by simp only; omega, by simp only; omega, by rw [wrap_id (by simp only; omega) (by simp only; omega)]⟩, Option.bind_some]
    simp
theorem impl_clone (l : List S65) (hl : l.length ≤ 1000000) : impl_Pair_73.f l = some l := by
  unfold impl_Pair_73.f
  rw [if_pos (by omega)]
end Go.Proofs.Ytonfmdgklgdgfaa.X
namespace Go.Proofs.Ytonfmdgklgdgfaa.X
open Go.RowKit Go.Proofs.YtonfmdgklgdgfaaW.PrintWords Go.Proofs.YtonfmdgklgdgfaaW.PrintLast Go.Proofs.YtonfmdgklgdgfaaW.PrintMore
attribute [local go_sem] xbin_geq xbin_leq xbin_gtr max2_int min2_int max_two min_two max_three min_three max_four min_four
set_option linter.unusedVariables false
set_option linter.unusedSimpArgs false
def dropR (l : List S65) (key : ByteArray) : List S65 × Int := if askP l key = 0 then (if hasAt l key = true then (l.eraseIdx (lowAt l key), 0) else (l, 5)) else ([], askP l key)
theorem dropR_length (l : List S65) (key : ByteArray) : (dropR l key).1.length ≤ l.length := by
  unfold dropR
  by_cases h : askP l key = 0
  · rw [if_pos h]
    cases hh : hasAt l key with
    | true => simp only [if_true]; exact List.length_eraseIdx_le _ _
    | false => exact Nat.le_refl _
  · rw [if_neg h]; exact Nat.zero_le _
theorem spec_pairDrop (l : List S65) (key : ByteArray) : Ev (fun k => spec_PairDrop.f k l key) (dropR l key) := by
  have hj : ∀ b : Bool, (b = true ↔ (4096 < l.length ∨ 65536 < key.size)) → Ev (fun k => spec_PairDrop.j0 k l key b) (dropR l key) := by
    intro b hb
    refine Ev.succ ?_
    simp only [spec_PairDrop.j0]
    unfold dropR
    cases b with
    | true =>
      have h2 : askP l key = 2 := by unfold askP; rw [if_pos (hb.1 rfl)]
      exact Ev.pos rfl (Ev.is (by simp [h2]))
    | false =>
      refine Ev.neg (by simp) (Ev.bind (spec_ask l key) ?_)
      by_cases h : askP l key = 0
      · obtain ⟨h1, _, _, h4, _⟩ := askP_zero h
        refine Ev.same ?_ (if_pos h).symm
        refine Ev.pos h (Ev.bind (spec_get l key (by omega)) ?_)
        cases hh : hasAt l key with
        | false => exact Ev.neg (by simp) (Ev.bindk rfl (Ev.pos (by simp; omega) (Ev.is (by simp))))
        | true => exact Ev.pos rfl (Ev.bind (spec_drop l key (by omega)) (Ev.is (by rw [filter_is_erase h4 hh]; simp)))
      · refine Ev.same ?_ (if_neg h).symm
        exact Ev.neg h (Ev.is rfl)
  unfold spec_PairDrop.f
  by_cases h : (l.length : Int) > 4096
  · exact Ev.pos h (hj true (by simp; omega))
  · refine Ev.neg h (hj _ ?_)
    simp only [decide_eq_true_eq]
    omega
theorem impl_pairDrop (l : List S65) (key : ByteArray) : Ev (fun k => impl_PairDrop.f k l key) (dropR l key) := by
  unfold impl_PairDrop.f dropR
  refine Ev.bind (impl_asked l key) ?_
  by_cases h : askP l key = 0
  · obtain ⟨h1, _, _, h4, _⟩ := askP_zero h
    refine Ev.same ?_ (if_pos h).symm
    refine Ev.pos h (Ev.bindk (impl_clone l (by omega)) (Ev.bindk (impl_at key h4 (by omega)) ?_))
    cases hh : hasAt l key with
    | false => exact Ev.neg (by simp) (Ev.is (by simp))
    | true => exact Ev.pos rfl (Ev.bindk (impl_drop key h4 (by omega)) (Ev.is (by simp [dropP, hh])))
  · refine Ev.same ?_ (if_neg h).symm
    exact Ev.neg h (Ev.is rfl)
end Go.Proofs.Ytonfmdgklgdgfaa.X
set_option linter.unusedSimpArgs false
set_option linter.unusedVariables false
namespace Go.Proofs.Ytonfmdgklgdgfaa.X.Pure
open Go.RowKit Go.Proofs.Ytonfmdgklgdgfaa.X Go.Proofs.YtonfmdgklgdgfaaW.PrintWords Go.Proofs.YtonfmdgklgdgfaaW.PrintLast
theorem FnExactPairDrop : laws_FnExactPairDrop.Pure := by
  intro l key hw hx0 hy0
  refine Ev.rounds (g := fun k => laws_FnExactPairDrop.f k l key) ?_
  unfold laws_FnExactPairDrop.f
  by_cases hk0 : (key.size : Int) > 1048576
  · exact Ev.pos hk0 (Ev.is rfl)
  refine Ev.neg hk0 ?_
  obtain ⟨r, hr, hq⟩ := sz_PairS l hw 1048576 1048576 (by omega) (by omega) (by omega)
  refine Ev.bind hr ?_
  by_cases h : r < 0
  · exact Ev.pos h (Ev.is rfl)
  refine Ev.neg h ?_
  have hs := (hq (by omega)).2
  have ht := to_PairS l hs
  have hlen : (l.map cv63).length ≤ 1048576 := by rw [List.length_map]; have := hs.1; omega
  have e0 := eq_PairS (l.map cv63) ⟨by omega, fun y _ => ⟨trivial, trivial⟩⟩
  have m0 := mark_PairS (l.map cv63) 1 (by omega) (by omega) (by omega)
  have hn := dropR_length (l.map cv63) key
  have iD := impl_pairDrop (l.map cv63) key
  have sD := spec_pairDrop (l.map cv63) key
  generalize l.map cv63 = x at *
  generalize hR : dropR x key = R at *
  have eR := eq_PairS R.1 ⟨by omega, fun y _ => ⟨trivial, trivial⟩⟩
  have mR := mark_PairS R.1 1 (by omega) (by omega) (by omega)
  have hH := held_PairS R.1 1 (by omega) (by omega) (by omega)
  have hj2 : Ev (fun k => laws_FnExactPairDrop.j2 k (mk_PairS R.1 1) (1 + 2 * (R.1.length : Int)) false) true := by
    refine Ev.succ ?_
    simp only [laws_FnExactPairDrop.j2]
    exact Ev.neg (by simp) (Ev.bind hH (Ev.neg (by omega) (Ev.pos rfl (Ev.is rfl))))
  have hj1 : Ev (fun k => laws_FnExactPairDrop.j1 k l key R.1 R.2 R.1 false) true := by
    refine Ev.succ ?_
    simp only [laws_FnExactPairDrop.j1]
    refine Ev.neg (by simp) (Ev.bind mR (Ev.bind hH (Ev.neg (by omega) (Ev.pos rfl (Ev.bind ht (Ev.bind iD (Ev.bind eR (Ev.pos rfl ?_))))))))
    rw [bne_self_eq_false]
    exact hj2
  have hj0 : Ev (fun k => laws_FnExactPairDrop.j0 k l key R.1 R.2 x R.1 R.2 false) true := by
    refine Ev.succ ?_
    simp only [laws_FnExactPairDrop.j0]
    refine Ev.neg (by simp) (Ev.bind ht (Ev.bind e0 (Ev.pos rfl (Ev.bind m0 (Ev.neg (by simp only; omega) (Ev.bind eR (Ev.pos rfl ?_)))))))
    rw [bne_self_eq_false]
    exact hj1
  refine Ev.bind ht (Ev.bind sD (Ev.bind ht (Ev.bind iD (Ev.bind eR (Ev.pos rfl ?_)))))
  rw [bne_self_eq_false]
  exact hj0
end Go.Proofs.Ytonfmdgklgdgfaa.X.Pure
namespace Go.Proofs.Ytonfmdgklgdgfaa.fnExactPairDrop
open Go.ChangeShapes Go.WideShapes Go.ChangeAt Go.RowKit Go.Proofs.Ytonfmdgklgdgfaa.X Go.Proofs.YtonfmdgklgdgfaaW.PrintWords
open Go.ChangeMaps (open_string shut_string)
set_option linter.unusedVariables false
theorem own : ownKnob Try.prog.godebug = none := by kernel_rfl
theorem laidOut : laidOutB Try.prog = true := by kernel_rfl
set_option maxRecDepth 100000 in
theorem lifted (os : Os) (started : os.Started) (H : Type) (enc : TypeId × Value → H) :
    ReturnsInHanded {} Try.checked os 13 .any (Rows.fnExactPairDropSpec.pre6 enc Try.prog Try.f13 Rows.fnExactPairDropRow.domain false) (Rows.fnExactPairDropSpec.post enc Try.prog Try.f13 false true false false) := by
  refine returnsInHanded_of_change_sized (C := Try.checked) own started (by kernel_rfl) Try.func13
    (ChangeSpec.witness6 (enc := enc) (C := Try.checked) false ⟨#[], #[.slice none 0 0, .string ByteArray.empty], []⟩ 8 (by kernel_rfl) (by kernel_rfl) (by kernel_rfl) (by kernel_rfl)) ?_
  intro W base args ds gs before hval0 hW hcnd hsz0 _
  have hsz : (DataW.weightsEach Try.prog (Try.f13.params.toList ++ Rows.fnExactPairDropSpec.plain.varTypes Try.prog) (ds ++ gs)).all (· ≤ reachBytes) = true := hsz0
  have hval : ∀ (j : Nat) t v, Try.f13.params[j]? = some t → args[j]? = some v → Value.okWide Try.prog W .any base t v := hval0
  have hW' := hW
  obtain ⟨p, q, hA0, hV, rfl, hfz, hnd⟩ := hW
  have hA : DataW.TrodAll enc Try.prog W 0 (fun _ => true) true Try.f13.params.toList args.toList ds p := hA0
  rw [Try.params13] at hA hval hsz
  obtain ⟨v0, vs0, d0, ds0, p0, q0, hargs, rfl, rfl, h0, r0⟩ := trodAll_cons hA
  obtain ⟨v1, vs1, d1, ds1, p1, q1, rfl, rfl, rfl, h1, r1⟩ := trodAll_cons r0
  obtain ⟨rfl, rfl, rfl⟩ := trodAll_nil r1
  obtain rfl : args = #[v0, v1] := by cases args; simp_all
  obtain ⟨rfl, rfl⟩ := trodVars_none hV
  have k0 := h0
  have lt0 : ∀ x ∈ p0, x.block < W.heap.size := by obtain ⟨m, hm⟩ := k0; exact DataW.trod_lt m _ _ _ hm
  obtain ⟨A0, len0, c0, rfl⟩ := okWide_slice Try.underlying34 (hval 0 34 v0 rfl rfl)
  obtain ⟨l0, rfl, hc0, hr0, hw0⟩ := Opens.slice_arg opens34 h0
  obtain ⟨a1, rfl, rfl, rfl, y1⟩ := open_string Try.underlying9 (hval 1 9 v1 rfl rfl) h1
  have w1 : a1.size ≤ 140737488351232 := by
    have z := sized_string hsz (j := 1) (t := 9) rfl rfl
    rw [Array.length_toList] at z
    exact z
  clear hA0 hval0 hsz0 hsz
  obtain ⟨k, hP⟩ := X.Pure.FnExactPairDrop l0 a1 hw0 y1 w1
  refine (laws_FnExactPairDrop.calls k A0 c0 l0 a1 true W hr0 hc0 hP).mono fun e W' hQ => ?_
  obtain ⟨he, bel0⟩ := hQ
  subst he
  have bel : Below W.heap.size W W' := bel0
  exact ⟨_, rfl, _, _, _, [], _, [], hW', trodAll_mk1 (shut_bool Try.underlying4 _), (trodAll_cons_mk (Below.trod laidOut (by kernel_rfl) (of_decide_eq_true (by kernel_rfl)) k0 bel lt0) (trodAll_cons_mk (shut_string Try.underlying9 y1) trodAll_mk0)), rfl, bel.frame _, fun h => by cases h⟩
theorem over : Rows.fnExactPairDropRow.holds Try.pinned (OpenSpec.ofChange Rows.fnExactPairDropSpec) :=
  OpenClaim.holds_of_wide 13 Try.f13 rfl rfl rfl rfl rfl rfl rfl ⟨rfl, rfl, rfl, rfl, rfl⟩ rfl rfl rfl rfl rfl (by kernel_rfl) Try.func13 (by kernel_rfl)
    (of_decide_eq_true (by kernel_rfl)) (by unfold Func.isWrapper; first | (rw [if_pos (by decide +kernel)]; kernel_rfl) | (rw [if_neg (by decide +kernel)]; exact ⟨rfl, rfl⟩))
    (fun os started H enc _ => lifted os started H enc)
theorem proved : Rows.FnExactPairDropSaid := over
end Go.Proofs.Ytonfmdgklgdgfaa.fnExactPairDrop
namespace Go.Proofs.Ytonfmdgklgdgfaa
theorem fnExactPairDrop_holds : Rows.FnExactPairDropSaid := fnExactPairDrop.proved
end Go.Proofs.Ytonfmdgklgdgfaa
