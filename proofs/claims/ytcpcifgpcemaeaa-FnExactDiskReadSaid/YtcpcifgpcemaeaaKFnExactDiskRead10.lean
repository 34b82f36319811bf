import Derived.Test.YtcpcifgpcemaeaaKFnExactDiskRead4
import Derived.Test.YtcpcifgpcemaeaaKFnExactDiskRead5
import Derived.Test.YtcpcifgpcemaeaaKFnExactDiskRead6
import Derived.Test.YtcpcifgpcemaeaaKFnExactDiskRead8
import Derived.Test.YtcpcifgpcemaeaaKFnExactDiskRead9
namespace Go.Proofs.Ytcpcifgpcemaeaa.X
open Go.RowKit Go.Proofs.YtcpcifgpcemaeaaW.PrintWords Go.Proofs.YtcpcifgpcemaeaaW.PrintLast Go.Proofs.YtcpcifgpcemaeaaW.PrintMore
attribute [local go_sem] xbin_geq xbin_leq xbin_gtr max2_int min2_int max_two min_two max_three min_three max_four min_four
set_option linter.unusedVariables false
set_option linter.unusedSimpArgs false
theorem rdQ_at (l : List S95) (pre rest : List S95) (x : S95) (h : l = pre ++ x :: rest) : rd_T95 l ((pre.length : Nat) : Int) = x := by
  rw [h]; unfold rd_T95; rw [Int.toNat_natCast]; exact getD_mid pre x rest _
theorem rdS_at (l : List ByteArray) (pre rest : List ByteArray) (x : ByteArray) (h : l = pre ++ x :: rest) : rdOf ByteArray.empty l ((pre.length : Nat) : Int) = x := by
  rw [h]; unfold rdOf; rw [Int.toNat_natCast]; exact getD_mid pre x rest _
theorem spec_diskOK_cache (n : Nat) (hn : 1 ≤ n ∧ n ≤ 80) (s : List ByteArray) (a : Bool) (q : List Int) (rest : List S95) : ∀ pre : List S95, (pre ++ rest).length ≤ 500 → Ev (fun k => spec_DiskOK.l1 k (n : Int) ((pre.length : Nat) : Int) s (pre ++ rest) a q) (rest.all (pendB n)) := by
  induction rest with
  | nil =>
    intro pre hl
    refine Ev.succ ?_
    simp only [spec_DiskOK.l1]
    exact Ev.neg (by simp) (Ev.is rfl)
  | cons x r ih =>
    intro pre hl
    have hx := rdQ_at (pre ++ x :: r) pre r x rfl
    have hlt : ((pre.length : Nat) : Int) < ((pre ++ x :: r).length : Int) := by simp; omega
    have hpl : pre.length < 1000000 := by simp at hl; omega
    have e1 : pre ++ x :: r = (pre ++ [x]) ++ r := by simp
    refine Ev.succ ?_
    simp only [spec_DiskOK.l1, hx, wrap_at (n := pre.length) (by omega), wrap_id (x := (n : Int) - 1) (by omega) (by omega)]
    refine Ev.pos hlt (Ev.pos (by omega) (Ev.bindk (spec_in _ _ _) ?_))
    rw [List.all_cons]
    cases hb : inB x.f0 0 ((n : Int) - 1) with
    | false =>
      have hp : pendB n x = false := by
        unfold pendB
        rw [decide_eq_false (fun h => by have := inB_is.2 h; rw [hb] at this; cases this)]
        rfl
      exact Ev.neg (by simp) (Ev.is (by rw [hp]; rfl))
    | true =>
      have hp : pendB n x = decide (x.f1.size ≤ 420) := by
        unfold pendB
        rw [decide_eq_true (inB_is.1 hb)]
        rfl
      refine Ev.pos rfl ?_
      by_cases h4 : (x.f1.size : Int) > 420
      · exact Ev.pos h4 (Ev.is (by rw [hp, decide_eq_false (by omega)]; rfl))
      · refine Ev.neg h4 ?_
        rw [hp, decide_eq_true (by omega), Bool.true_and, len_snoc pre x]
        have := ih (pre ++ [x]) (by rw [← e1]; exact hl)
        rw [← e1] at this
        exact this
theorem spec_diskOK_sectors (n : Nat) (hn : 1 ≤ n ∧ n ≤ 80) (c : List S95) (hc : c.length ≤ 500) (a : Bool) (q : List Int) (rest : List ByteArray) : ∀ pre : List ByteArray, (pre ++ rest).length = n → Ev (fun k => spec_DiskOK.l0 k (n : Int) ((pre.length : Nat) : Int) (pre ++ rest) c a q) ((rest.all fun t => decide (t.size ≤ 420)) && c.all (pendB n)) := by
  induction rest with
  | nil =>
    intro pre hl
    refine Ev.succ ?_
    simp only [spec_DiskOK.l0]
    simp only [List.append_nil] at hl
    refine Ev.neg (by omega) ?_
    have := spec_diskOK_cache n hn (pre ++ []) a q c [] (by simpa using hc)
    simpa using this
  | cons x r ih =>
    intro pre hl
    have hx := rdS_at (pre ++ x :: r) pre r x rfl
    have hlt : ((pre.length : Nat) : Int) < ((pre ++ x :: r).length : Int) := by simp; omega
    have hpl : pre.length < 1000000 := by simp at hl; omega
    have e1 : pre ++ x :: r = (pre ++ [x]) ++ r := by simp
    refine Ev.succ ?_
    simp only [spec_DiskOK.l0, hx, wrap_at (n := pre.length) (by omega)]
    refine Ev.pos (by rw [← hl]; exact hlt) (Ev.pos (by omega) (Ev.pos hlt ?_))
    rw [List.all_cons]
    by_cases h4 : (x.size : Int) > 420
    · exact Ev.pos h4 (Ev.is (by rw [decide_eq_false (by omega)]; rfl))
    · refine Ev.neg h4 ?_
      rw [decide_eq_true (by omega), Bool.true_and, len_snoc pre x]
      have := ih (pre ++ [x]) (by rw [← e1]; exact hl)
      rw [← e1] at this
      exact this
theorem spec_diskOK (s : List ByteArray) (c : List S95) (a : Bool) (q : List Int) : Ev (fun k => spec_DiskOK.f k s c a q) (diskB s c a q) := by
  have hf : ∀ n : Int, diskB s c a q = false → Ev (fun k => spec_DiskOK.j0 k n true s c a q) (diskB s c a q) := by
    intro n h
    refine Ev.succ ?_
    simp only [spec_DiskOK.j0]
    exact Ev.pos (by trivial) (Ev.is (by rw [h]))
  unfold spec_DiskOK.f
  refine Ev.bindk (spec_in _ _ _) ?_
  cases hb : inB (s.length : Int) 1 80 with
  | false =>
    refine Ev.neg (by simp) (hf _ ?_)
    unfold diskB
    rw [decide_eq_false (fun h => by have := inB_is.2 (show (1 : Int) ≤ (s.length : Int) ∧ (s.length : Int) ≤ 80 by omega); rw [hb] at this; cases this)]
    rfl
  | true =>
    have hn := inB_is.1 hb
    have hn2 : 1 ≤ s.length ∧ s.length ≤ 80 := by omega
    refine Ev.pos rfl ?_
    by_cases h2 : (c.length : Int) > 500
    · refine Ev.pos h2 (hf _ ?_)
      unfold diskB
      rw [decide_eq_false (show ¬ c.length ≤ 500 by omega)]
      simp
    · refine Ev.neg h2 ?_
      by_cases h3 : (q.length : Int) > 500
      · refine Ev.pos h3 (hf _ ?_)
        unfold diskB
        rw [decide_eq_false (show ¬ q.length ≤ 500 by omega)]
        simp
      · refine Ev.neg h3 ?_
        have hgo : (a || decide (q.length = 0)) = true → Ev (fun k => spec_DiskOK.j0 k (s.length : Int) false s c a q) (diskB s c a q) := by
          intro h
          refine Ev.succ ?_
          simp only [spec_DiskOK.j0]
          refine Ev.neg (by simp) ?_
          have := spec_diskOK_sectors s.length hn2 c (by omega) a q s [] rfl
          refine Ev.same (by simpa using this) ?_
          unfold diskB
          rw [decide_eq_true hn2, decide_eq_true (show c.length ≤ 500 by omega), decide_eq_true (show q.length ≤ 500 by omega), h]
          simp
        cases ha : a with
        | true =>
          rw [ha] at hgo
          exact Ev.pos rfl (hgo rfl)
        | false =>
          rw [ha] at hgo
          refine Ev.neg (by simp) ?_
          by_cases h4 : (q.length : Int) > 0
          · rw [decide_eq_true h4]
            rw [ha] at hf
            refine hf _ ?_
            unfold diskB
            rw [Bool.false_or, decide_eq_false (show ¬ q.length = 0 by omega)]
            simp
          · rw [decide_eq_false h4]
            exact hgo (by rw [Bool.false_or, decide_eq_true (show q.length = 0 by omega)])
end Go.Proofs.Ytcpcifgpcemaeaa.X
