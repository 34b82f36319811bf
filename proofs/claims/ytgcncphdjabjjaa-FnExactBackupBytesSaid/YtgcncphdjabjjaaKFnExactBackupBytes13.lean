import Derived.Test.YtgcncphdjabjjaaKFnExactBackupBytes4
import Derived.Test.YtgcncphdjabjjaaKFnExactBackupBytes9
import Derived.Test.YtgcncphdjabjjaaKFnExactBackupBytes12
namespace Go.Proofs.Ytgcncphdjabjjaa.X
open Go.RowKit Go.Proofs.YtgcncphdjabjjaaW.PrintWords Go.Proofs.YtgcncphdjabjjaaW.PrintLast Go.Proofs.YtgcncphdjabjjaaW.PrintMore
attribute [local go_sem] xbin_geq xbin_leq xbin_gtr max2_int min2_int max_two min_two max_three min_three max_four min_four
set_option linter.unusedVariables false
set_option linter.unusedSimpArgs false
def diffOne (d : S82) : Bool := keyB d.f0 && (decide (d.f1.size ≤ 90) && (decide (d.f2.size ≤ 90) && (if d.f3 = true then (d.f4 || d.f2.toList == ([] : List UInt8)) else (d.f4 && d.f1.toList == ([] : List UInt8)))))
theorem impl_diff (d : S82) : impl_diffOK.f d.f0 d.f1 d.f2 d.f3 d.f4 = some (diffOne d) := by
  unfold impl_diffOK.f diffOne
  rw [impl_key, Option.bind_some]
  have e1 : ((d.f1.size : Int) ≤ 90) = (d.f1.size ≤ 90) := propext (by omega)
  have e2 : ((d.f2.size : Int) ≤ 90) = (d.f2.size ≤ 90) := propext (by omega)
  simp only [e1, e2]
  by_cases h1 : d.f1.size ≤ 90 <;> by_cases h2 : d.f2.size ≤ 90 <;> cases h0 : keyB d.f0 <;> cases h3 : d.f3 <;> cases h4 : d.f4 <;> simp [h1, h2] <;> (by_cases h5 : d.f1.toList = ([] : List UInt8) <;> simp [h5])
end Go.Proofs.Ytgcncphdjabjjaa.X
namespace Go.Proofs.Ytgcncphdjabjjaa.X
open Go.RowKit Go.Proofs.YtgcncphdjabjjaaW.PrintWords Go.Proofs.YtgcncphdjabjjaaW.PrintLast Go.Proofs.YtgcncphdjabjjaaW.PrintMore
attribute [local go_sem] xbin_geq xbin_leq xbin_gtr max2_int min2_int max_two min_two max_three min_three max_four min_four
set_option linter.unusedVariables false
set_option linter.unusedSimpArgs false
def diffAt (l : List S82) (i : Nat) : Bool := diffOne (rd_T82 l i) && (decide (i = 0) || Op.bytesLess (rd_T82 l ((i - 1 : Nat) : Int)).f0.toList (rd_T82 l i).f0.toList)
def backupB (a b : ByteArray) (n : Int) (l : List S82) (s : Int) : Bool := headB a b n && (inB s 0 4294967295 && (decide (l.length ≤ 120) && allB (diffAt l) l.length))
end Go.Proofs.Ytgcncphdjabjjaa.X
