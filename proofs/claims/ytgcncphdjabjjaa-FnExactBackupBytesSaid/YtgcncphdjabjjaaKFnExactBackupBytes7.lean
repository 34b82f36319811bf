import Derived.Test.YtgcncphdjabjjaaKFnExactBackupBytes4
import Derived.Test.YtgcncphdjabjjaaKFnExactBackupBytes5
import Derived.Test.YtgcncphdjabjjaaKFnExactBackupBytes6
namespace Go.Proofs.Ytgcncphdjabjjaa.X
open Go.RowKit Go.Proofs.YtgcncphdjabjjaaW.PrintWords Go.Proofs.YtgcncphdjabjjaaW.PrintLast Go.Proofs.YtgcncphdjabjjaaW.PrintMore
attribute [local go_sem] xbin_geq xbin_leq xbin_gtr max2_int min2_int max_two min_two max_three min_three max_four min_four
set_option linter.unusedVariables false
set_option linter.unusedSimpArgs false
def numO (n : Int) : ByteArray := strOfNums [n % 256]
def numF (n : Int) : ByteArray := strOfNums [n / 256 / 256 / 256 % 256, n / 256 / 256 % 256, n / 256 % 256, n % 256]
theorem numO_size (n : Int) : (numO n).size = 1 := rfl
theorem numF_size (n : Int) : (numF n).size = 4 := rfl
theorem numO_bytes (n : Int) : bytesOf (numO n) = [n % 256] := by
  unfold numO strOfNums bytesOf
  simp
  omega
theorem numF_bytes (n : Int) : bytesOf (numF n) = [n / 256 / 256 / 256 % 256, n / 256 / 256 % 256, n / 256 % 256, n % 256] := by
  unfold numF strOfNums bytesOf
  simp
  omega
theorem inBytes_one (n : Int) : Ev (fun k => impl_inBytes.f k n 1) (numO n) := by
  unfold impl_inBytes.f
  refine Ev.pos (by omega) (Ev.pos (by omega) ?_)
  rw [show (1 : Int).toNat = 1 from rfl, show List.replicate 1 (0 : Int) = [0] from rfl, wrap_id (x := 1 - 1) (by omega) (by omega)]
  refine Ev.succ ?_
  simp only [impl_inBytes.l0]
  refine Ev.pos (by omega) (Ev.pos (by omega) (Ev.pos (by simp) ?_))
  rw [wrap_id (x := 1 - 1 - 1) (by omega) (by omega)]
  refine Ev.succ ?_
  simp only [impl_inBytes.l0]
  exact Ev.neg (by omega) (Ev.is rfl)
theorem inBytes_four (n : Int) : Ev (fun k => impl_inBytes.f k n 4) (numF n) := by
  unfold impl_inBytes.f
  refine Ev.pos (by omega) (Ev.pos (by omega) ?_)
  rw [show (4 : Int).toNat = 4 from rfl, show List.replicate 4 (0 : Int) = [0, 0, 0, 0] from rfl, wrap_id (x := 4 - 1) (by omega) (by omega)]
  refine Ev.succ ?_
  simp only [impl_inBytes.l0]
  refine Ev.pos (by omega) (Ev.pos (by omega) (Ev.pos (by simp) ?_))
  rw [wrap_id (x := 4 - 1 - 1) (by omega) (by omega)]
  refine Ev.succ ?_
  simp only [impl_inBytes.l0]
  refine Ev.pos (by omega) (Ev.pos (by omega) (Ev.pos (by simp) ?_))
  rw [wrap_id (x := 4 - 1 - 1 - 1) (by omega) (by omega)]
  refine Ev.succ ?_
  simp only [impl_inBytes.l0]
  refine Ev.pos (by omega) (Ev.pos (by omega) (Ev.pos (by simp) ?_))
  rw [wrap_id (x := 4 - 1 - 1 - 1 - 1) (by omega) (by omega)]
  refine Ev.succ ?_
  simp only [impl_inBytes.l0]
  refine Ev.pos (by omega) (Ev.pos (by omega) (Ev.pos (by simp) ?_))
  rw [wrap_id (x := 4 - 1 - 1 - 1 - 1 - 1) (by omega) (by omega)]
  refine Ev.succ ?_
  simp only [impl_inBytes.l0]
  exact Ev.neg (by omega) (Ev.is rfl)
theorem byte_shr32 (n : Int) (h0 : 0 ≤ n) (h1 : n < 4294967296) : (shr .i64 n (IntKind.u64.wrap (wrap64 (8 * 3)))) % 256 = n / 256 / 256 / 256 % 256 ∧ (shr .i64 n (IntKind.u64.wrap (wrap64 (8 * 2)))) % 256 = n / 256 / 256 % 256 ∧ (shr .i64 n (IntKind.u64.wrap (wrap64 (8 * 1)))) % 256 = n / 256 % 256 ∧ (shr .i64 n (IntKind.u64.wrap (wrap64 (8 * 0)))) % 256 = n % 256 := by
  have a3 : IntKind.u64.wrap (wrap64 (8 * 3)) = 24 := by decide +kernel
  have a2 : IntKind.u64.wrap (wrap64 (8 * 2)) = 16 := by decide +kernel
  have a1 : IntKind.u64.wrap (wrap64 (8 * 1)) = 8 := by decide +kernel
  have a0 : IntKind.u64.wrap (wrap64 (8 * 0)) = 0 := by decide +kernel
  rw [a3, a2, a1, a0]
  have b3 : shr .i64 n 24 = n / 16777216 := rfl
  have b2 : shr .i64 n 16 = n / 65536 := rfl
  have b1 : shr .i64 n 8 = n / 256 := rfl
  have b0 : shr .i64 n 0 = n / 1 := rfl
  rw [b3, b2, b1, b0]
  omega
theorem l01Number_four (n : Int) (h0 : 0 ≤ n) (h1 : n < 4294967296) : Ev (fun k => spec_l01Number.f k n 4) (bytesOf (numF n)) := by
  unfold spec_l01Number.f
  obtain ⟨e3, e2, e1, e0⟩ := byte_shr32 n h0 h1
  rw [wrap_id (x := 4 - 1) (by omega) (by omega), show (4 - 1 : Int) = 3 from rfl]
  refine Ev.succ ?_
  simp only [spec_l01Number.l0]
  refine Ev.pos (by omega) (Ev.pos (by decide +kernel) (Ev.pos (by simp) ?_))
  rw [wrap_id (x := 3 - 1) (by omega) (by omega), show (3 - 1 : Int) = 2 from rfl]
  refine Ev.succ ?_
  simp only [spec_l01Number.l0]
  refine Ev.pos (by omega) (Ev.pos (by decide +kernel) (Ev.pos (by simp) ?_))
  rw [wrap_id (x := 2 - 1) (by omega) (by omega), show (2 - 1 : Int) = 1 from rfl]
  refine Ev.succ ?_
  simp only [spec_l01Number.l0]
  refine Ev.pos (by omega) (Ev.pos (by decide +kernel) (Ev.pos (by simp) ?_))
  rw [wrap_id (x := 1 - 1) (by omega) (by omega), show (1 - 1 : Int) = 0 from rfl]
  refine Ev.succ ?_
  simp only [spec_l01Number.l0]
  refine Ev.pos (by omega) (Ev.pos (by decide +kernel) (Ev.pos (by simp) ?_))
  rw [wrap_id (x := 0 - 1) (by omega) (by omega)]
  refine Ev.succ ?_
  simp only [spec_l01Number.l0]
  refine Ev.neg (by omega) (Ev.is ?_)
  rw [numF_bytes, e3, e2, e1, e0]
  rfl
end Go.Proofs.Ytgcncphdjabjjaa.X
namespace Go.Proofs.Ytgcncphdjabjjaa.X
open Go.RowKit Go.Proofs.YtgcncphdjabjjaaW.PrintWords Go.Proofs.YtgcncphdjabjjaaW.PrintLast Go.Proofs.YtgcncphdjabjjaaW.PrintMore
attribute [local go_sem] xbin_geq xbin_leq xbin_gtr max2_int min2_int max_two min_two max_three min_three max_four min_four
set_option linter.unusedVariables false
set_option linter.unusedSimpArgs false
def impl_bit.f (a0 : Bool) (a1 : Int) : Option (Int) := if a0 = true then (some a1) else (some 0)
set_option maxHeartbeats 8000000 in
set_option maxRecDepth 100000 in
theorem impl_bit.calls (a0 : Bool) (a1 : Int) (r : Int) (w : World) (h : impl_bit.f a0 a1 = some r) :
  Calls Try.prog 117 #[.bool a0, .int .i64 a1] w fun e w' => e = .returned (.int .i64 r) ∧ Drawn0 w w' := by
 have H : (if a0 = true then (some a1) else (some 0)) = some r := h
 clear h
 by_cases c3 : a0 = true
 ·subst c3
  have H1 : (some a1) = some r := by rw [if_pos rfl] at H; exact H
  clear H
  have H := H1
  clear H1
  obtain rfl := Option.some.inj H
  go_enter Try.func117, Try.ntmps117
  go_wp2
  go_ret
  exact ⟨by first | rfl | (simp; done) | (simp [*]; done), by repeat (first | exact Drawn0.refl _ | apply Drawn0.step)⟩
 ·replace c3 := Bool.eq_false_iff.mpr c3
  subst c3
  have H1 : (some 0) = some r := by rw [if_neg (show ¬ (false = true) by decide)] at H; exact H
  clear H
  have H := H1
  clear H1
  obtain rfl := Option.some.inj H
  go_enter Try.func117, Try.ntmps117
  go_wp2
  go_ret
  exact ⟨by first | rfl | (simp; done) | (simp [*]; done), by repeat (first | exact Drawn0.refl _ | apply Drawn0.step)⟩
end Go.Proofs.Ytgcncphdjabjjaa.X
