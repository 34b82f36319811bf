import Derived.Test.YtgcncphdjabjjaaKFnExactBackupBytes4
import Derived.Test.YtgcncphdjabjjaaKFnExactBackupBytes9
import Derived.Test.YtgcncphdjabjjaaKFnExactBackupBytes12
import Derived.Test.YtgcncphdjabjjaaKFnExactBackupBytes13
import Derived.Test.YtgcncphdjabjjaaKFnExactBackupBytes14
import Derived.Test.YtgcncphdjabjjaaKFnExactBackupBytes15
namespace Go.Proofs.Ytgcncphdjabjjaa.X
open Go.RowKit Go.Proofs.YtgcncphdjabjjaaW.PrintWords Go.Proofs.YtgcncphdjabjjaaW.PrintLast Go.Proofs.YtgcncphdjabjjaaW.PrintMore
attribute [local go_sem] xbin_geq xbin_leq xbin_gtr max2_int min2_int max_two min_two max_three min_three max_four min_four
set_option linter.unusedVariables false
set_option linter.unusedSimpArgs false
theorem impl_backup_loop (a b : ByteArray) (n : Int) (l : List S82) (s : Int) (hl : l.length < 9223372036854775807) : Ev (fun k => impl_BackupOK.l0 k l (l.length : Int) 0 a b n l s) (allB (diffAt l) l.length) := by
  refine Ev.same (Ev.all (g := fun k x => impl_BackupOK.l0 k l (l.length : Int) x a b n l s) (diffAt l) true l.length ?_ ?_) (by simp)
  · refine Ev.succ ?_
    simp only [impl_BackupOK.l0]
    exact Ev.neg (by omega) (Ev.is rfl)
  · intro i hi r h
    refine Ev.succ ?_
    simp only [impl_BackupOK.l0, impl_diff, Option.bind_some, wrap_at (n := i) (by omega)]
    refine Ev.pos (by omega) (Ev.pos (by omega) (Ev.pos (by omega) ?_))
    cases h1 : diffOne (rd_T82 l i) with
    | false => exact Ev.neg (by simp) (Ev.is (by simp [diffAt, h1]))
    | true =>
      refine Ev.pos rfl ?_
      by_cases h0 : i = 0
      · subst h0
        exact Ev.neg (by omega) (Ev.same h (by simp [diffAt] at *; simp [h1]))
      · simp only [wrap_less (n := i) (by omega) (by omega)]
        refine Ev.pos (by omega) (Ev.pos (by omega) (Ev.pos (by omega) ?_))
        cases h4 : Op.bytesLess (rd_T82 l ((i - 1 : Nat) : Int)).f0.toList (rd_T82 l i).f0.toList with
        | false => exact Ev.neg (by simp) (Ev.is (by simp [diffAt, h4, h0]))
        | true => exact Ev.pos rfl (Ev.same h (by simp [diffAt, h1, h4, h0]))
theorem impl_backupOK (a b : ByteArray) (n : Int) (l : List S82) (s : Int) (hl : l.length < 9223372036854775807) : Ev (fun k => impl_BackupOK.f k a b n l s) (backupB a b n l s) := by
  have hj : ∀ c : Bool, Ev (fun k => impl_BackupOK.j0 k c a b n l s) (!c && allB (diffAt l) l.length) := by
    intro c
    refine Ev.succ ?_
    simp only [impl_BackupOK.j0]
    cases c with
    | true => exact Ev.pos rfl (Ev.is rfl)
    | false => exact Ev.neg (by simp) (Ev.same (impl_backup_loop a b n l s hl) (by simp))
  unfold impl_BackupOK.f backupB
  simp only [impl_in, Option.bind_some]
  refine Ev.bind (impl_head a b n) ?_
  cases h1 : headB a b n with
  | false => exact Ev.neg (by simp) (Ev.same (hj true) (by simp))
  | true =>
    refine Ev.pos rfl ?_
    cases h2 : inB s 0 4294967295 with
    | false => exact Ev.neg (by simp) (Ev.same (hj true) (by simp))
    | true =>
      refine Ev.pos rfl (Ev.same (hj _) ?_)
      by_cases h3 : l.length ≤ 120
      · simp [h3, show ¬ 120 < (l.length : Int) by omega]
      · simp [h3, show 120 < (l.length : Int) by omega]
theorem spec_backupOK (a b : ByteArray) (n : Int) (l : List S82) (s : Int) (hl : l.length ≤ 2000000) : Ev (fun _ => spec_BackupOK.f a b n l s) (backupB a b n l s) := by
  unfold spec_BackupOK.f
  exact Ev.is (if_pos hl)
end Go.Proofs.Ytgcncphdjabjjaa.X
namespace Go.Proofs.Ytgcncphdjabjjaa.X
open Go.RowKit Go.Proofs.YtgcncphdjabjjaaW.PrintWords Go.Proofs.YtgcncphdjabjjaaW.PrintLast Go.Proofs.YtgcncphdjabjjaaW.PrintMore
attribute [local go_sem] xbin_geq xbin_leq xbin_gtr max2_int min2_int max_two min_two max_three min_three max_four min_four
set_option linter.unusedVariables false
set_option linter.unusedSimpArgs false
def spec_l01Bit.f (a0 : Bool) : Option (Int) := if a0 = true then (some 1) else (some 0)
set_option maxHeartbeats 8000000 in
set_option maxRecDepth 100000 in
theorem spec_l01Bit.calls (a0 : Bool) (r : Int) (w : World) (h : spec_l01Bit.f a0 = some r) :
  Calls Try.prog 116 #[.bool a0] w fun e w' => e = .returned (.int .i64 r) ∧ Drawn0 w w' := by
 have H : (if a0 = true then (some 1) else (some 0)) = some r := h
 clear h
 by_cases c2 : a0 = true
 ·subst c2
  have H1 : (some 1) = some r := by rw [if_pos rfl] at H; exact H
  clear H
  have H := H1
  clear H1
  obtain rfl := Option.some.inj H
  go_enter Try.func116, Try.ntmps116
  go_wp2
  go_ret
  exact ⟨by first | rfl | (simp; done) | (simp [*]; done), by repeat (first | exact Drawn0.refl _ | apply Drawn0.step)⟩
 ·replace c2 := Bool.eq_false_iff.mpr c2
  subst c2
  have H1 : (some 0) = some r := by rw [if_neg (show ¬ (false = true) by decide)] at H; exact H
  clear H
  have H := H1
  clear H1
  obtain rfl := Option.some.inj H
  go_enter Try.func116, Try.ntmps116
  go_wp2
  go_ret
  exact ⟨by first | rfl | (simp; done) | (simp [*]; done), by repeat (first | exact Drawn0.refl _ | apply Drawn0.step)⟩
end Go.Proofs.Ytgcncphdjabjjaa.X
