import Derived.Test.YtgcncphdjabjjaaKFnExactApplyDiff3
import Derived.Test.YtgcncphdjabjjaaKFnExactApplyDiff9
import Derived.Test.YtgcncphdjabjjaaKFnExactApplyDiff10
import Derived.Test.YtgcncphdjabjjaaKFnExactApplyDiff14
import Derived.Test.YtgcncphdjabjjaaKFnExactApplyDiff15
import Derived.Test.YtgcncphdjabjjaaKFnExactApplyDiff16
import Derived.Test.YtgcncphdjabjjaaKFnExactApplyDiff17
import Derived.Test.YtgcncphdjabjjaaKFnExactApplyDiff20
import Derived.Test.YtgcncphdjabjjaaKFnExactApplyDiff21
import Derived.Test.YtgcncphdjabjjaaKFnExactApplyDiff22
import Derived.Test.YtgcncphdjabjjaaKFnExactApplyDiff23
import Derived.Test.YtgcncphdjabjjaaKFnExactApplyDiff24
import Derived.Test.YtgcncphdjabjjaaKFnExactApplyDiff25
import Derived.Test.YtgcncphdjabjjaaKFnExactApplyDiff27
import Derived.Test.YtgcncphdjabjjaaRows
import Derived.WalkKit
import Derived.ProofKit
import Derived.OpenShut
import Derived.ShutString
import Derived.ChangeOld
import Derived.Below
import Derived.SizedLaws
namespace Go.Proofs.Ytgcncphdjabjjaa.X
open Go.RowKit Go.Proofs.YtgcncphdjabjjaaW.PrintWords Go.Proofs.YtgcncphdjabjjaaW.PrintLast Go.Proofs.YtgcncphdjabjjaaW.PrintMore
attribute [local go_sem] xbin_geq xbin_leq xbin_gtr max2_int min2_int max_two min_two max_three min_three max_four min_four
set_option linter.unusedVariables false
set_option linter.unusedSimpArgs false
noncomputable def mk_DiffS : List S82 → Int → List S82
  | [], _ => []
  | _ :: xs, m => ⟨mt m, mt (m + 1), mt (m + 2), (Int.tmod ((m + 3)) 3 == 0), (Int.tmod ((m + 4)) 3 == 0)⟩ :: mk_DiffS xs (m + 5)
theorem mark_DiffS_loop (rest : List S82) : ∀ (pre : List S82) (m : Int), 0 ≤ m → m + 5 * (rest.length : Int) ≤ 4611686018427387904 → (pre ++ rest).length ≤ 9223372036854775807 →
    Ev (fun k => laws_markDiffS.l0 k (pre ++ rest) m ((pre.length : Nat) : Int)) (m + 5 * (rest.length : Int), pre ++ mk_DiffS rest m) := by
  induction rest with
  | nil =>
    intro pre m h0 h1 hl
    refine Ev.succ ?_
    simp only [laws_markDiffS.l0]
    exact Ev.neg (by simp) (Ev.is (by simp [mk_DiffS]))
  | cons x rest ih =>
    intro pre m h0 h1 hl
    have hlt : ((pre.length : Nat) : Int) < ((pre ++ x :: rest).length : Int) := by simp; omega
    have hwp : ∀ v : S82, wrap64 (((pre.length : Nat) : Int) + 1) = (((pre ++ [v]).length : Nat) : Int) := fun v => by rw [← len_snoc]; exact wrap_at (by simp at hl; omega)
    have hset : ∀ v u : S82, (pre ++ u :: rest).set ((pre.length : Nat) : Int).toNat v = pre ++ v :: rest := fun v u => by rw [Int.toNat_natCast]; exact set_mid pre u v rest
    have hrd : ∀ u : S82, rd_T82 (pre ++ u :: rest) ((pre.length : Nat) : Int) = u := fun u => by simp [rd_T82, List.getD_eq_getElem?_getD]
    simp only [List.length_cons] at h1
    have w1 : wrap64 (m + 1) = m + 1 := (wrap_id (by omega) (by omega)).trans (by omega)
    have w2 : wrap64 ((m + 1) + 1) = m + 2 := (wrap_id (by omega) (by omega)).trans (by omega)
    have w3 : wrap64 ((m + 2) + 1) = m + 3 := (wrap_id (by omega) (by omega)).trans (by omega)
    have w4 : wrap64 ((m + 3) + 1) = m + 4 := (wrap_id (by omega) (by omega)).trans (by omega)
    have w5 : wrap64 ((m + 4) + 1) = m + 5 := (wrap_id (by omega) (by omega)).trans (by omega)
    have hi := ih (pre ++ [⟨mt m, mt (m + 1), mt (m + 2), (Int.tmod ((m + 3)) 3 == 0), (Int.tmod ((m + 4)) 3 == 0)⟩]) (m + 5) (by omega) (by omega) (by simpa using hl)
    refine Ev.succ ?_
    simp only [laws_markDiffS.l0, w1, w2, w3, w4, w5]
    refine Ev.pos hlt ?_
    refine Ev.bind (mt_ev (by omega)) ?_
    refine Ev.pos (show (0 : Int) ≤ ((pre.length : Nat) : Int) by omega) ?_
    refine Ev.bindk rfl ?_
    refine Ev.bind (mt_ev (by omega)) ?_
    refine Ev.bindk rfl ?_
    refine Ev.bind (mt_ev (by omega)) ?_
    refine Ev.bindk rfl ?_
    refine Ev.bindk rfl ?_
    simp only [hset, hrd]
    rw [hwp (⟨mt m, mt (m + 1), mt (m + 2), (Int.tmod ((m + 3)) 3 == 0), (Int.tmod ((m + 4)) 3 == 0)⟩)]
    have e3 : pre ++ (⟨mt m, mt (m + 1), mt (m + 2), (Int.tmod ((m + 3)) 3 == 0), (Int.tmod ((m + 4)) 3 == 0)⟩ : S82) :: rest = (pre ++ [⟨mt m, mt (m + 1), mt (m + 2), (Int.tmod ((m + 3)) 3 == 0), (Int.tmod ((m + 4)) 3 == 0)⟩]) ++ rest := by simp
    have e4 : (m + 5 + 5 * (rest.length : Int), (pre ++ [⟨mt m, mt (m + 1), mt (m + 2), (Int.tmod ((m + 3)) 3 == 0), (Int.tmod ((m + 4)) 3 == 0)⟩]) ++ mk_DiffS rest (m + 5)) = (m + 5 * (((x :: rest).length : Nat) : Int), pre ++ mk_DiffS (x :: rest) m) := by
      refine Prod.ext ?_ ?_
      · simp only [List.length_cons]; omega
      · simp [mk_DiffS]
    rw [← e4, e3]
    exact hi
theorem mark_DiffS (l : List S82) (m : Int) (h0 : 0 ≤ m) (h1 : m + 5 * (l.length : Int) ≤ 4611686018427387904) (hl : l.length ≤ 9223372036854775807) : Ev (fun k => laws_markDiffS.f k l m) (m + 5 * (l.length : Int), mk_DiffS l m) := by
  unfold laws_markDiffS.f
  have h := mark_DiffS_loop l [] m h0 h1 (by simpa using hl)
  simpa using h
end Go.Proofs.Ytgcncphdjabjjaa.X
namespace Go.Proofs.Ytgcncphdjabjjaa.X
open Go.RowKit Go.Proofs.YtgcncphdjabjjaaW.PrintWords Go.Proofs.YtgcncphdjabjjaaW.PrintLast Go.Proofs.YtgcncphdjabjjaaW.PrintMore
attribute [local go_sem] xbin_geq xbin_leq xbin_gtr max2_int min2_int max_two min_two max_three min_three max_four min_four
set_option linter.unusedVariables false
set_option linter.unusedSimpArgs false
theorem impl_apply_loop (l0 : List S76) (hl0 : l0.length ≤ 1000000) (rest : List S82) : ∀ (pre : List S82) (out : List S76), (pre ++ rest).length ≤ 1000000 → out.length + rest.length ≤ 1000000 → Fine out →
    Ev (fun k => impl_applyDiffs.l0 k l0 out (pre ++ rest) ((pre ++ rest).length : Int) ((pre.length : Nat) : Int)) (applyL l0 out rest) := by
  induction rest with
  | nil =>
    intro pre out hl ho hf
    refine Ev.succ ?_
    simp only [impl_applyDiffs.l0, List.append_nil]
    refine Ev.neg (by omega) ?_
    unfold applyL
    by_cases h : (out.length : Int) > 60
    · exact Ev.pos h (Ev.bindk (impl_clone l0 hl0) (Ev.is (by rw [if_pos (by omega)])))
    · exact Ev.neg h (Ev.is (by rw [if_neg (by omega)]))
  | cons d r ih =>
    intro pre out hl ho hf
    have hx : rd_T82 (pre ++ d :: r) ((pre.length : Nat) : Int) = d := by simp [rd_T82, List.getD_eq_getElem?_getD]
    have hlt : ((pre.length : Nat) : Int) < ((pre ++ d :: r).length : Int) := by simp; omega
    have e1 : pre ++ d :: r = (pre ++ [d]) ++ r := by simp
    have hpl : pre.length < 1000000 := by simp at hl; omega
    have hol : out.length + r.length + 1 ≤ 1000000 := by simp at ho; omega
    have hnext : ∀ out2 : List S76, out2.length + r.length ≤ 1000000 → Fine out2 → Ev (fun k => impl_applyDiffs.l0 k l0 out2 (pre ++ d :: r) ((pre ++ d :: r).length : Int) (wrap64 (((pre.length : Nat) : Int) + 1))) (applyL l0 out2 r) := by
      intro out2 h2 hf2
      rw [wrap_at (by omega), e1, len_snoc (x := d)]
      exact ih (pre ++ [d]) out2 (by rw [← e1]; exact hl) h2 hf2
    have hj : ∀ b : Bool, diffOne d = true → b = !fitsB out d → Ev (fun k => impl_applyDiffs.j1 k l0 out (pre ++ d :: r) ((pre ++ d :: r).length : Int) ((pre.length : Nat) : Int) b d.f0 d.f1 d.f2 d.f3 d.f4) (applyL l0 out (d :: r)) := by
      intro b hd hb
      refine Ev.succ ?_
      simp only [impl_applyDiffs.j1]
      unfold applyL
      refine Ev.same ?_ (if_pos hd).symm
      cases hfb : fitsB out d with
      | false =>
        rw [hb, hfb]
        exact Ev.pos rfl (Ev.bindk (impl_clone l0 hl0) (Ev.is (by simp)))
      | true =>
        rw [hb, hfb]
        refine Ev.neg (by simp) (Ev.same ?_ (if_pos rfl).symm)
        have hsl := stepD_length out d
        have hsf := stepD_fine hf hd
        have hn := hnext (stepD out d) (by omega) hsf
        unfold stepD at hn ⊢
        cases h4 : d.f4 with
        | true =>
          rw [h4] at hn
          exact Ev.pos rfl (Ev.bindk (impl_put d.f0 d.f2 hf.2 (by omega)) hn)
        | false =>
          rw [h4] at hn
          exact Ev.neg (by simp) (Ev.bindk (impl_drop d.f0 hf.2 (by omega)) hn)
    refine Ev.succ ?_
    simp only [impl_applyDiffs.l0, hx]
    refine Ev.pos hlt (Ev.pos (by omega) (Ev.pos hlt (Ev.bindk (impl_diff d) ?_)))
    cases hd : diffOne d with
    | false => exact Ev.neg (by simp) (Ev.bindk (impl_clone l0 hl0) (Ev.is (by simp [applyL, hd])))
    | true =>
      refine Ev.pos rfl (Ev.bindk (impl_at d.f0 hf.2 (by omega)) ?_)
      cases hh : hasAt out d.f0 with
      | false =>
        cases h3 : d.f3 with
        | true =>
          have := hj true hd (by simp [fitsB, hh, h3])
          rw [h3] at this
          exact Ev.pos (by simp) this
        | false =>
          have := hj false hd (by simp [fitsB, hh, h3])
          rw [h3] at this
          exact Ev.neg (by simp) (Ev.neg (by simp) this)
      | true =>
        cases h3 : d.f3 with
        | false =>
          have := hj true hd (by simp [fitsB, hh, h3])
          rw [h3] at this
          exact Ev.pos (by simp) this
        | true =>
          have hal := hasAt_lt hh
          have := hj (((rd_T76 out (lowAt out d.f0 : Int)).f1).toList != (d.f1).toList) hd (by simp [fitsB, hh, h3, getV, bne_dec])
          rw [h3] at this
          exact Ev.neg (by simp) (Ev.pos rfl (Ev.pos (by simp only; omega) (Ev.pos (by simp only; omega) this)))
theorem impl_apply (l : List S76) (ds : List S82) (hl : l.length ≤ 100000) (hd : ds.length ≤ 100000) (hf : Fine l) : Ev (fun k => impl_applyDiffs.f k l ds) (applyL l l ds) := by
  unfold impl_applyDiffs.f
  have h := impl_apply_loop l (by omega) ds [] l (by simp; omega) (by omega) hf
  exact Ev.bindk (impl_clone l (by omega)) (by simpa using h)
theorem spec_apply (l : List S76) (ds : List S82) (hl : l.length ≤ 100000) (hd : ds.length ≤ 100000) (hf : Fine l) : Ev (fun _ => spec_l05Apply.f l ds) (applyL l l ds) := by
  unfold spec_l05Apply.f
  exact Ev.is (if_pos ⟨hf, hl, hd⟩)
end Go.Proofs.Ytgcncphdjabjjaa.X
namespace Go.Proofs.Ytgcncphdjabjjaa.X
open Go.RowKit Go.Proofs.YtgcncphdjabjjaaW.PrintWords Go.Proofs.YtgcncphdjabjjaaW.PrintLast Go.Proofs.YtgcncphdjabjjaaW.PrintMore
attribute [local go_sem] xbin_geq xbin_leq xbin_gtr max2_int min2_int max_two min_two max_three min_three max_four min_four
set_option linter.unusedVariables false
set_option linter.unusedSimpArgs false
theorem impl_pairsOK (l : List S76) : Ev (fun k => impl_PairsOK.f k l) (pairsB l) := by
  unfold impl_PairsOK.f pairsB
  by_cases h : (l.length : Int) ≤ 60
  · exact Ev.pos h (Ev.bind (impl_rising l (by omega)) (Ev.is (by simp [show l.length ≤ 60 by omega])))
  · exact Ev.neg h (Ev.is (by simp [show ¬ l.length ≤ 60 by omega]))
end Go.Proofs.Ytgcncphdjabjjaa.X
namespace Go.Proofs.Ytgcncphdjabjjaa.X
open Go.RowKit Go.Proofs.YtgcncphdjabjjaaW.PrintWords Go.Proofs.YtgcncphdjabjjaaW.PrintLast Go.Proofs.YtgcncphdjabjjaaW.PrintMore
attribute [local go_sem] xbin_geq xbin_leq xbin_gtr max2_int min2_int max_two min_two max_three min_three max_four min_four
set_option linter.unusedVariables false
set_option linter.unusedSimpArgs false
def applyR (l : List S76) (ds : List S82) : List S76 × Int := if 4096 < l.length ∨ 4096 < ds.length then ([], 2) else if pairsB l = true then (if 120 < ds.length then ([], 6) else applyL l l ds) else ([], 1)
theorem applyR_length (l : List S76) (ds : List S82) : (applyR l ds).1.length ≤ 2 * l.length + ds.length := by
  unfold applyR
  have := applyL_length l ds l
  split
  · exact Nat.zero_le _
  · split
    · split
      · exact Nat.zero_le _
      · omega
    · exact Nat.zero_le _
theorem impl_applyDiff (l : List S76) (ds : List S82) : Ev (fun k => impl_ApplyDiff.f k l ds) (applyR l ds) := by
  have hj : ∀ b : Bool, (b = true ↔ (4096 < l.length ∨ 4096 < ds.length)) → Ev (fun k => impl_ApplyDiff.j0 k l ds b) (applyR l ds) := by
    intro b hb
    refine Ev.succ ?_
    simp only [impl_ApplyDiff.j0]
    unfold applyR
    cases b with
    | true => exact Ev.pos rfl (Ev.is (by rw [if_pos (hb.1 rfl)]))
    | false =>
      have hn : ¬ (4096 < l.length ∨ 4096 < ds.length) := fun e => by have := hb.2 e; cases this
      refine Ev.neg (by simp) (Ev.same (Ev.bind (impl_pairsOK l) ?_) (if_neg hn).symm)
      cases hp : pairsB l with
      | false => exact Ev.neg (by simp) (Ev.is (by simp))
      | true =>
        refine Ev.pos rfl (Ev.same ?_ (if_pos rfl).symm)
        by_cases h : (ds.length : Int) > 120
        · exact Ev.pos h (Ev.is (by rw [if_pos (by omega)]))
        · have hq := pairsB_is.1 hp
          exact Ev.neg h (Ev.same (Ev.bind (impl_apply l ds (by omega) (by omega) ⟨hq.2.1, hq.2.2⟩) (Ev.is rfl)) (if_neg (by omega)).symm)
  unfold impl_ApplyDiff.f
  by_cases h : (l.length : Int) > 4096
  · exact Ev.pos h (hj true (by simp; omega))
  · refine Ev.neg h (hj _ ?_)
    simp only [decide_eq_true_eq]
    omega
theorem spec_applyDiff (l : List S76) (ds : List S82) : Ev (fun k => spec_ApplyDiff.f k l ds) (applyR l ds) := by
  have hj : ∀ b : Bool, (b = true ↔ (4096 < l.length ∨ 4096 < ds.length)) → Ev (fun k => spec_ApplyDiff.j0 k l ds b) (applyR l ds) := by
    intro b hb
    refine Ev.succ ?_
    simp only [spec_ApplyDiff.j0]
    unfold applyR
    cases b with
    | true => exact Ev.pos rfl (Ev.is (by rw [if_pos (hb.1 rfl)]))
    | false =>
      have hn : ¬ (4096 < l.length ∨ 4096 < ds.length) := fun e => by have := hb.2 e; cases this
      refine Ev.neg (by simp) (Ev.same (Ev.bind (spec_pairsOK l) ?_) (if_neg hn).symm)
      cases hp : pairsB l with
      | false => exact Ev.neg (by simp) (Ev.is (by simp))
      | true =>
        refine Ev.pos rfl (Ev.same ?_ (if_pos rfl).symm)
        by_cases h : (ds.length : Int) > 120
        · exact Ev.pos h (Ev.is (by rw [if_pos (by omega)]))
        · have hq := pairsB_is.1 hp
          have hl := applyL_length l ds l
          exact Ev.neg h (Ev.same (Ev.bind (spec_apply l ds (by omega) (by omega) ⟨hq.2.1, hq.2.2⟩) (Ev.bindk rfl (Ev.pos (by simp only [List.length_nil]; omega) (Ev.is (by simp))))) (if_neg (by omega)).symm)
  unfold spec_ApplyDiff.f
  by_cases h : (l.length : Int) > 4096
  · exact Ev.pos h (hj true (by simp; omega))
  · refine Ev.neg h (hj _ ?_)
    simp only [decide_eq_true_eq]
    omega
end Go.Proofs.Ytgcncphdjabjjaa.X
set_option linter.unusedSimpArgs false
set_option linter.unusedVariables false
namespace Go.Proofs.Ytgcncphdjabjjaa.X.Pure
open Go.RowKit Go.Proofs.Ytgcncphdjabjjaa.X Go.Proofs.YtgcncphdjabjjaaW.PrintWords Go.Proofs.YtgcncphdjabjjaaW.PrintLast
theorem FnExactApplyDiff : laws_FnExactApplyDiff.Pure := by
  intro l0 l1 hw0 hw1
  refine Ev.rounds (g := fun k => laws_FnExactApplyDiff.f k l0 l1) ?_
  unfold laws_FnExactApplyDiff.f
  obtain ⟨r, hr, hq⟩ := sz_PairS l0 hw0 1048576 1048576 (by omega) (by omega) (by omega)
  refine Ev.bind hr ?_
  by_cases h : r < 0
  · exact Ev.pos h (Ev.is rfl)
  refine Ev.neg h ?_
  obtain ⟨r1, hr1, hq1⟩ := sz_DiffS l1 ⟨hw1.1, fun y hy => ⟨(hw1.2 y hy).1, (hw1.2 y hy).2.1, (hw1.2 y hy).2.2.1, trivial, trivial⟩⟩ 1048576 r (by omega) (hq (by omega)).1 (by omega)
  refine Ev.bind hr1 ?_
  by_cases h1 : r1 < 0
  · exact Ev.pos h1 (Ev.is rfl)
  refine Ev.neg h1 ?_
  have hs0 := (hq (by omega)).2
  have hs1 := (hq1 (by omega)).2
  have t0 := to_PairS l0 hs0
  have t1 := to_DiffS l1 hs1
  have n0 : (l0.map cv73).length ≤ 1048576 := by rw [List.length_map]; have := hs0.1; omega
  have n1 : (l1.map cv85).length ≤ 1048576 := by rw [List.length_map]; have := hs1.1; omega
  have hn := applyR_length (l0.map cv73) (l1.map cv85)
  have e0 := eq_PairS (l0.map cv73) ⟨by omega, fun y _ => ⟨trivial, trivial⟩⟩
  have e1 := eq_DiffS (l1.map cv85) ⟨by omega, fun y _ => ⟨trivial, trivial, trivial, trivial, trivial⟩⟩
  have iD := impl_applyDiff (l0.map cv73) (l1.map cv85)
  have sD := spec_applyDiff (l0.map cv73) (l1.map cv85)
  have m0 := mark_PairS (l0.map cv73) 1 (by omega) (by omega) (by omega)
  have m1 := mark_DiffS (l1.map cv85) (1 + 2 * ((l0.map cv73).length : Int)) (by omega) (by omega) (by omega)
  generalize l0.map cv73 = x at *
  generalize l1.map cv85 = y at *
  generalize hR : applyR x y = R at *
  have eR := eq_PairS R.1 ⟨by omega, fun y _ => ⟨trivial, trivial⟩⟩
  have mR := mark_PairS R.1 1 (by omega) (by omega) (by omega)
  have hH := held_PairS R.1 1 (by omega) (by omega) (by omega)
  have hj2 : Ev (fun k => laws_FnExactApplyDiff.j2 k (mk_PairS R.1 1) (1 + 2 * (R.1.length : Int)) false) true := by
    refine Ev.succ ?_
    simp only [laws_FnExactApplyDiff.j2]
    exact Ev.neg (by simp) (Ev.bind hH (Ev.neg (by omega) (Ev.pos rfl (Ev.is rfl))))
  have hj1 : Ev (fun k => laws_FnExactApplyDiff.j1 k l0 l1 R.1 R.2 R.1 false) true := by
    refine Ev.succ ?_
    simp only [laws_FnExactApplyDiff.j1]
    refine Ev.neg (by simp) (Ev.bind mR (Ev.bind hH (Ev.neg (by omega) (Ev.pos rfl (Ev.bind t0 (Ev.bind t1 (Ev.bind iD (Ev.bind eR (Ev.pos rfl ?_)))))))))
    rw [bne_self_eq_false]
    exact hj2
  have hj0 : Ev (fun k => laws_FnExactApplyDiff.j0 k l0 l1 R.1 R.2 x y R.1 R.2 false) true := by
    refine Ev.succ ?_
    simp only [laws_FnExactApplyDiff.j0]
    refine Ev.neg (by simp) (Ev.bind t0 (Ev.bind e0 (Ev.pos rfl (Ev.bind t1 (Ev.bind e1 (Ev.pos rfl (Ev.bind m0 (Ev.bind m1 (Ev.neg (by simp only; omega) (Ev.bind eR (Ev.pos rfl ?_)))))))))))
    rw [bne_self_eq_false]
    exact hj1
  refine Ev.bind t0 (Ev.bind t1 (Ev.bind sD (Ev.bind t0 (Ev.bind t1 (Ev.bind iD (Ev.bind eR (Ev.pos rfl ?_)))))))
  rw [bne_self_eq_false]
  exact hj0
end Go.Proofs.Ytgcncphdjabjjaa.X.Pure
namespace Go.Proofs.Ytgcncphdjabjjaa.fnExactApplyDiff
open Go.ChangeShapes Go.WideShapes Go.ChangeAt Go.RowKit Go.Proofs.Ytgcncphdjabjjaa.X Go.Proofs.YtgcncphdjabjjaaW.PrintWords
open Go.ChangeMaps (open_string shut_string)
set_option linter.unusedVariables false
theorem own : ownKnob Try.prog.godebug = none := by kernel_rfl
theorem laidOut : laidOutB Try.prog = true := by kernel_rfl
set_option maxRecDepth 100000 in
theorem lifted (os : Os) (started : os.Started) (H : Type) (enc : TypeId × Value → H) :
    ReturnsInHanded {} Try.checked os 5 .any (Rows.fnExactApplyDiffSpec.pre6 enc Try.prog Try.f5 Rows.fnExactApplyDiffRow.domain false) (Rows.fnExactApplyDiffSpec.post enc Try.prog Try.f5 false true false false) := by
  refine returnsInHanded_of_change_sized (C := Try.checked) own started (by kernel_rfl) Try.func5
    (ChangeSpec.witness6 (enc := enc) (C := Try.checked) false ⟨#[], #[.slice none 0 0, .slice none 0 0], []⟩ 8 (by kernel_rfl) (by kernel_rfl) (by kernel_rfl) (by kernel_rfl)) ?_
  intro W base args ds gs before hval0 hW hcnd hsz0 _
  have hsz : (DataW.weightsEach Try.prog (Try.f5.params.toList ++ Rows.fnExactApplyDiffSpec.plain.varTypes Try.prog) (ds ++ gs)).all (· ≤ reachBytes) = true := hsz0
  have hval : ∀ (j : Nat) t v, Try.f5.params[j]? = some t → args[j]? = some v → Value.okWide Try.prog W .any base t v := hval0
  have hW' := hW
  obtain ⟨p, q, hA0, hV, rfl, hfz, hnd⟩ := hW
  have hA : DataW.TrodAll enc Try.prog W 0 (fun _ => true) true Try.f5.params.toList args.toList ds p := hA0
  rw [Try.params5] at hA hval hsz
  obtain ⟨v0, vs0, d0, ds0, p0, q0, hargs, rfl, rfl, h0, r0⟩ := trodAll_cons hA
  obtain ⟨v1, vs1, d1, ds1, p1, q1, rfl, rfl, rfl, h1, r1⟩ := trodAll_cons r0
  obtain ⟨rfl, rfl, rfl⟩ := trodAll_nil r1
  obtain rfl : args = #[v0, v1] := by cases args; simp_all
  obtain ⟨rfl, rfl⟩ := trodVars_none hV
  have k0 := h0
  have lt0 : ∀ x ∈ p0, x.block < W.heap.size := by obtain ⟨m, hm⟩ := k0; exact DataW.trod_lt m _ _ _ hm
  obtain ⟨A0, len0, c0, rfl⟩ := okWide_slice Try.underlying22 (hval 0 22 v0 rfl rfl)
  obtain ⟨l0, rfl, hc0, hr0, hw0⟩ := Opens.slice_arg opens22 h0
  have k1 := h1
  have lt1 : ∀ x ∈ p1, x.block < W.heap.size := by obtain ⟨m, hm⟩ := k1; exact DataW.trod_lt m _ _ _ hm
  obtain ⟨A1, len1, c1, rfl⟩ := okWide_slice Try.underlying37 (hval 1 37 v1 rfl rfl)
  obtain ⟨l1, rfl, hc1, hr1, hw1⟩ := Opens.slice_arg opens37 h1
  clear hA0 hval0 hsz0 hsz
  obtain ⟨k, hP⟩ := X.Pure.FnExactApplyDiff l0 l1 hw0 hw1
  refine (laws_FnExactApplyDiff.calls k A0 c0 l0 A1 c1 l1 true W hr0 hc0 hr1 hc1 hP).mono fun e W' hQ => ?_
  obtain ⟨he, bel0⟩ := hQ
  subst he
  have bel : Below W.heap.size W W' := bel0
  exact ⟨_, rfl, _, _, _, [], _, [], hW', trodAll_mk1 (shut_bool Try.underlying4 _), (trodAll_cons_mk (Below.trod laidOut (by kernel_rfl) (of_decide_eq_true (by kernel_rfl)) k0 bel lt0) (trodAll_cons_mk (Below.trod laidOut (by kernel_rfl) (of_decide_eq_true (by kernel_rfl)) k1 bel lt1) trodAll_mk0)), rfl, bel.frame _, fun h => by cases h⟩
theorem over : Rows.fnExactApplyDiffRow.holds Try.pinned (OpenSpec.ofChange Rows.fnExactApplyDiffSpec) :=
  OpenClaim.holds_of_wide 5 Try.f5 rfl rfl rfl rfl rfl rfl rfl ⟨rfl, rfl, rfl, rfl, rfl⟩ rfl rfl rfl rfl rfl (by kernel_rfl) Try.func5 (by kernel_rfl)
    (of_decide_eq_true (by kernel_rfl)) (by unfold Func.isWrapper; first | (rw [if_pos (by decide +kernel)]; kernel_rfl) | (rw [if_neg (by decide +kernel)]; exact ⟨rfl, rfl⟩))
    (fun os started H enc _ => lifted os started H enc)
theorem proved : Rows.FnExactApplyDiffSaid := over
end Go.Proofs.Ytgcncphdjabjjaa.fnExactApplyDiff
namespace Go.Proofs.Ytgcncphdjabjjaa
theorem fnExactApplyDiff_holds : Rows.FnExactApplyDiffSaid := fnExactApplyDiff.proved
end Go.Proofs.Ytgcncphdjabjjaa
