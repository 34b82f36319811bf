import Derived.Test.YtenfomejccfkgaaKFnExactCountRefs4
import Derived.Test.YtenfomejccfkgaaKFnExactCountRefs6
import Derived.Test.YtenfomejccfkgaaKFnExactCountRefs7
import Derived.Test.YtenfomejccfkgaaKFnExactCountRefs12
import Derived.Test.YtenfomejccfkgaaKFnExactCountRefs13
import Derived.Test.YtenfomejccfkgaaKFnExactCountRefs15
import Derived.Test.YtenfomejccfkgaaKFnExactCountRefs21
import Derived.Test.YtenfomejccfkgaaKFnExactCountRefs22
import Derived.LoopTactic
import Derived.WalkSpells
namespace Go.Proofs.Ytenfomejccfkgaa.X
open Go.RowKit Go.Proofs.YtenfomejccfkgaaW.PrintWords Go.Proofs.YtenfomejccfkgaaW.PrintLast Go.Proofs.YtenfomejccfkgaaW.PrintMore
attribute [local go_sem] qaC qaD qaE qay qaz qaO qaP qas qat qaA qaB
set_option linter.unusedVariables false
set_option linter.unusedSimpArgs false
end Go.Proofs.Ytenfomejccfkgaa.X
namespace Go.Proofs.Ytenfomejccfkgaa.X
open Go.RowKit Go.Proofs.YtenfomejccfkgaaW.PrintWords Go.Proofs.YtenfomejccfkgaaW.PrintLast Go.Proofs.YtenfomejccfkgaaW.PrintMore
attribute [local go_sem] qaC qaD qaE qay qaz qaO qaP qas qat qaA qaB
set_option linter.unusedVariables false
set_option linter.unusedSimpArgs false
end Go.Proofs.Ytenfomejccfkgaa.X
namespace Go.Proofs.Ytenfomejccfkgaa.X
open Go.RowKit Go.Proofs.YtenfomejccfkgaaW.PrintWords Go.Proofs.YtenfomejccfkgaaW.PrintLast Go.Proofs.YtenfomejccfkgaaW.PrintMore
attribute [local go_sem] qaC qaD qaE qay qaz qaO qaP qas qat qaA qaB
set_option linter.unusedVariables false
set_option linter.unusedSimpArgs false
end Go.Proofs.Ytenfomejccfkgaa.X
namespace Go.Proofs.Ytenfomejccfkgaa.X
open Go.RowKit Go.Proofs.YtenfomejccfkgaaW.PrintWords Go.Proofs.YtenfomejccfkgaaW.PrintLast Go.Proofs.YtenfomejccfkgaaW.PrintMore
attribute [local go_sem] qaC qaD qaE qay qaz qaO qaP qas qat qaA qaB
set_option linter.unusedVariables false
set_option linter.unusedSimpArgs false
def qcJ.f (l0_0 : List S56) (a1 : Int) : Option Bool := if qcq l0_0 = true then some (walkR l0_0 a1).2.2 else none
set_option maxHeartbeats 4000000 in
set_option maxRecDepth 100000 in
theorem qcJ.calls (A0_0 : Option Addr) (c0_0 : Nat) (l0_0 : List S56) (a1 : Int) (r : Bool) (w : World) (hr0_0 : Kd.C k56 w A0_0 l0_0.length l0_0) (hc0_0 : l0_0.length ≤ c0_0) (h : qcJ.f l0_0 a1 = some r) :
  Calls Try.prog 16 #[.agg #[.slice A0_0 l0_0.length c0_0], .int .i64 a1] w fun e w' => e = .returned (.bool r) ∧ Below w.heap.size w w' := by
 unfold qcJ.f at h
 have hbd : qdk l0_0 := by
  by_cases hb : qcq l0_0 = true
  ·exact qcQ.1 hb
  ·rw [if_neg hb] at h
   cases h
 rw [if_pos (qcQ.2 hbd)] at h
 have hr := Option.some.inj h
 have hu := Try.underlying29
 have HR := Aside0.mk hr0_0
 have HBD := Aside0.mk hbd
 have HB1 := Aside0.mk (qab (Below.refl w.heap.size w) (.cells #[.slice A0_0 l0_0.length c0_0] 29 (0, 0)))
 clear h hr0_0 hbd
 cases r with
 | true =>
  have HO := Aside0.mk hr
  clear hr
  go_enter Try.func16, Try.ntmps16
  go_wp2_with fail
  refine (qeV l0_0 a1 A0_0 c0_0 _ (Kd.qav HR.out HB1.out) HBD.out HO.out).mono ?_
  rintro e w2 ⟨g, vs, vp, rfl, _, hb⟩
  have HB2 := Aside0.mk (qai HB1.out hb)
  clear hb
  go_wp2_with fail
  go_ret
  exact ⟨rfl, HB2.out⟩
 | false =>
  have HO := Aside0.mk hr
  clear hr
  go_enter Try.func16, Try.ntmps16
  go_wp2_with fail
  refine (qhm l0_0 a1 A0_0 c0_0 _ (Kd.qav HR.out HB1.out) HBD.out HO.out).mono ?_
  rintro e w2 ⟨rfl, hb⟩
  have HB2 := Aside0.mk (qai HB1.out hb)
  clear hb
  go_wp2_with fail
  go_ret
  exact ⟨rfl, HB2.out⟩
end Go.Proofs.Ytenfomejccfkgaa.X
namespace Go.Proofs.Ytenfomejccfkgaa.X
open Go.RowKit Go.Proofs.YtenfomejccfkgaaW.PrintWords Go.Proofs.YtenfomejccfkgaaW.PrintLast Go.Proofs.YtenfomejccfkgaaW.PrintMore
attribute [local go_sem] qaC qaD qaE qay qaz qaO qaP qas qat qaA qaB
set_option linter.unusedVariables false
set_option linter.unusedSimpArgs false
end Go.Proofs.Ytenfomejccfkgaa.X
namespace Go.Proofs.Ytenfomejccfkgaa.X
open Go.RowKit Go.Proofs.YtenfomejccfkgaaW.PrintWords Go.Proofs.YtenfomejccfkgaaW.PrintLast Go.Proofs.YtenfomejccfkgaaW.PrintMore
attribute [local go_sem] qaC qaD qaE qay qaz qaO qaP qas qat qaA qaB
set_option linter.unusedVariables false
set_option linter.unusedSimpArgs false
end Go.Proofs.Ytenfomejccfkgaa.X
namespace Go.Proofs.Ytenfomejccfkgaa.X
open Go.RowKit Go.Proofs.YtenfomejccfkgaaW.PrintWords Go.Proofs.YtenfomejccfkgaaW.PrintLast Go.Proofs.YtenfomejccfkgaaW.PrintMore
attribute [local go_sem] qaC qaD qaE qay qaz qaO qaP qas qat qaA qaB
set_option linter.unusedVariables false
set_option linter.unusedSimpArgs false
end Go.Proofs.Ytenfomejccfkgaa.X
namespace Go.Proofs.Ytenfomejccfkgaa.X
open Go.RowKit Go.Proofs.YtenfomejccfkgaaW.PrintWords Go.Proofs.YtenfomejccfkgaaW.PrintLast Go.Proofs.YtenfomejccfkgaaW.PrintMore
attribute [local go_sem] qaC qaD qaE qay qaz qaO qaP qas qat qaA qaB
set_option linter.unusedVariables false
set_option linter.unusedSimpArgs false
theorem qhp {ns : List S56} (root : Int) (h : qcq ns = true) : qci.f ns root = some (walkR ns root) := if_pos h
end Go.Proofs.Ytenfomejccfkgaa.X
