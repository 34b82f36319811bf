import Derived.Test.YtgcncphdjabjjaaKFnExactMakeBackup3
import Derived.Test.YtgcncphdjabjjaaKFnExactMakeBackup13
import Derived.Test.YtgcncphdjabjjaaKFnExactMakeBackup14
import Derived.Test.YtgcncphdjabjjaaKFnExactMakeBackup17
import Derived.LoopTactic
import Derived.BigQuiet
import Derived.Lib.ConvBytes
import Derived.Shelf.Strings.Builder1
import Derived.Lib.UnsafeStr
namespace Go.Proofs.Ytgcncphdjabjjaa.X
open Go.RowKit Go.Proofs.YtgcncphdjabjjaaW.PrintWords Go.Proofs.YtgcncphdjabjjaaW.PrintLast Go.Proofs.YtgcncphdjabjjaaW.PrintMore
attribute [local go_sem] qaT qaU qaV qaP qaQ qa3 qa4 qaJ qaK qaR qaS
set_option linter.unusedVariables false
set_option linter.unusedSimpArgs false
def qbW.f (a0 : Int) : Option (Bool) := if a0 ≥ 97 then (if a0 ≤ 122 then (some true) else (if a0 ≥ 65 then (if a0 ≤ 90 then (some true) else (some (a0 == 95))) else (some (a0 == 95)))) else (if a0 ≥ 65 then (if a0 ≤ 90 then (some true) else (some (a0 == 95))) else (some (a0 == 95)))
set_option maxHeartbeats 8000000 in
set_option maxRecDepth 100000 in
theorem qbW.calls (a0 : Int) (r : Bool) (w : World) (h : qbW.f a0 = some r) :
  Calls Try.prog 125 #[.int .u8 a0] w fun e w' => e = .returned (.bool r) ∧ Drawn0 w w' := by
 have H : (if a0 ≥ 97 then (if a0 ≤ 122 then (some true) else (if a0 ≥ 65 then (if a0 ≤ 90 then (some true) else (some (a0 == 95))) else (some (a0 == 95)))) else (if a0 ≥ 65 then (if a0 ≤ 90 then (some true) else (some (a0 == 95))) else (some (a0 == 95)))) = some r := h
 clear h
 by_cases c2 : a0 ≥ 97
 ·rw [if_pos c2] at H
  have c2b0 : decide (97 ≤ a0) = true := decide_eq_true c2
  clear c2
  by_cases c3 : a0 ≤ 122
  ·rw [if_pos c3] at H
   have c3b0 : decide (a0 ≤ 122) = true := decide_eq_true c3
   clear c3
   obtain rfl := Option.some.inj H
   go_enter Try.func125, Try.ntmps125
   go_wp2
   go_ret
   exact ⟨by first | rfl | (simp; done) | (simp [*]; done), by repeat (first | exact Drawn0.refl _ | apply Drawn0.step)⟩
  ·rw [if_neg c3] at H
   have c3b0 : decide (a0 ≤ 122) = false := decide_eq_false c3
   clear c3
   by_cases c4 : a0 ≥ 65
   ·rw [if_pos c4] at H
    have c4b0 : decide (65 ≤ a0) = true := decide_eq_true c4
    clear c4
    by_cases c5 : a0 ≤ 90
    ·rw [if_pos c5] at H
     have c5b0 : decide (a0 ≤ 90) = true := decide_eq_true c5
     clear c5
     obtain rfl := Option.some.inj H
     go_enter Try.func125, Try.ntmps125
     go_wp2
     go_ret
     exact ⟨by first | rfl | (simp; done) | (simp [*]; done), by repeat (first | exact Drawn0.refl _ | apply Drawn0.step)⟩
    ·rw [if_neg c5] at H
     have c5b0 : decide (a0 ≤ 90) = false := decide_eq_false c5
     clear c5
     obtain rfl := Option.some.inj H
     go_enter Try.func125, Try.ntmps125
     go_wp2
     go_ret
     exact ⟨by first | rfl | (simp; done) | (simp [*]; done), by repeat (first | exact Drawn0.refl _ | apply Drawn0.step)⟩
   ·rw [if_neg c4] at H
    have c4b0 : decide (65 ≤ a0) = false := decide_eq_false c4
    clear c4
    obtain rfl := Option.some.inj H
    go_enter Try.func125, Try.ntmps125
    go_wp2
    go_ret
    exact ⟨by first | rfl | (simp; done) | (simp [*]; done), by repeat (first | exact Drawn0.refl _ | apply Drawn0.step)⟩
 ·rw [if_neg c2] at H
  have c2b0 : decide (97 ≤ a0) = false := decide_eq_false c2
  clear c2
  by_cases c6 : a0 ≥ 65
  ·rw [if_pos c6] at H
   have c6b0 : decide (65 ≤ a0) = true := decide_eq_true c6
   clear c6
   by_cases c7 : a0 ≤ 90
   ·rw [if_pos c7] at H
    have c7b0 : decide (a0 ≤ 90) = true := decide_eq_true c7
    clear c7
    obtain rfl := Option.some.inj H
    go_enter Try.func125, Try.ntmps125
    go_wp2
    go_ret
    exact ⟨by first | rfl | (simp; done) | (simp [*]; done), by repeat (first | exact Drawn0.refl _ | apply Drawn0.step)⟩
   ·rw [if_neg c7] at H
    have c7b0 : decide (a0 ≤ 90) = false := decide_eq_false c7
    clear c7
    obtain rfl := Option.some.inj H
    go_enter Try.func125, Try.ntmps125
    go_wp2
    go_ret
    exact ⟨by first | rfl | (simp; done) | (simp [*]; done), by repeat (first | exact Drawn0.refl _ | apply Drawn0.step)⟩
  ·rw [if_neg c6] at H
   have c6b0 : decide (65 ≤ a0) = false := decide_eq_false c6
   clear c6
   obtain rfl := Option.some.inj H
   go_enter Try.func125, Try.ntmps125
   go_wp2
   go_ret
   exact ⟨by first | rfl | (simp; done) | (simp [*]; done), by repeat (first | exact Drawn0.refl _ | apply Drawn0.step)⟩
end Go.Proofs.Ytgcncphdjabjjaa.X
namespace Go.Proofs.Ytgcncphdjabjjaa.X
open Go.RowKit Go.Proofs.YtgcncphdjabjjaaW.PrintWords Go.Proofs.YtgcncphdjabjjaaW.PrintLast Go.Proofs.YtgcncphdjabjjaaW.PrintMore
attribute [local go_sem] qaT qaU qaV qaP qaQ qa3 qa4 qaJ qaK qaR qaS
set_option linter.unusedVariables false
set_option linter.unusedSimpArgs false
mutual
def qaN.j0 : Nat → ByteArray → Bool → Option (Bool)
 | 0, _, _ => none
 | k + 1, x0, x12 => if x12 = true then (some false) else (qaN.l0 k x0 (x0.size : Int) 0)
def qaN.l0 : Nat → ByteArray → Int → Int → Option (Bool)
 | 0, _, _, _ => none
 | k + 1, x0, x14, x15 => if x15 < x14 then (if 0 ≤ x15 then (if x15 < (x0.size : Int) then ((qbW.f (bt x0 x15)).bind fun t599 => (if t599 = true then (qaN.l0 k x0 x14 (wrap64 (x15 + 1))) else ((qbF.f (bt x0 x15)).bind fun t600 => (if t600 = true then (qaN.l0 k x0 x14 (wrap64 (x15 + 1))) else (some false))))) else (none)) else (none)) else (some true)
end
def qaN.f (k : Nat) (a0 : ByteArray) : Option (Bool) := (qbq.f (a0.size : Int) 1 40).bind fun t597 => (if t597 = true then (if 0 < (a0.size : Int) then ((qbF.f (bt a0 0)).bind fun t598 => (qaN.j0 k a0 t598)) else (none)) else (qaN.j0 k a0 true))
theorem qaN.qbs : ∀ k, (∀ y0 y1, LeO (qaN.j0 k y0 y1) (qaN.j0 (k + 1) y0 y1)) ∧ (∀ y0 y1 y2, LeO (qaN.l0 k y0 y1 y2) (qaN.l0 (k + 1) y0 y1 y2))
 | 0 => ⟨fun _ _ r h => by simp [qaN.j0] at h, fun _ _ _ r h => by simp [qaN.l0] at h⟩
 | k + 1 => by
  obtain ⟨ih0, ih1⟩ := qaN.qbs k
  refine ⟨?_, ?_⟩
  ·intro y0 y1
   unfold qaN.j0
   repeat' first
   | (with_reducible exact ih0 _ _)
   | (with_reducible exact ih1 _ _ _)
   | (with_reducible exact LeO.refl _)
   | (with_reducible exact LeO.none _)
   | (with_reducible refine LeO.ite ?_ ?_)
   | (with_reducible refine LeO.bind ?_ (fun _ => ?_))
   | exact ih0 _ _
   | exact ih1 _ _ _
   | exact LeO.none _
   | refine LeO.ite ?_ ?_
   | refine LeO.bind ?_ (fun _ => ?_)
  ·intro y0 y1 y2
   unfold qaN.l0
   repeat' first
   | (with_reducible exact ih0 _ _)
   | (with_reducible exact ih1 _ _ _)
   | (with_reducible exact LeO.refl _)
   | (with_reducible exact LeO.none _)
   | (with_reducible refine LeO.ite ?_ ?_)
   | (with_reducible refine LeO.bind ?_ (fun _ => ?_))
   | exact ih0 _ _
   | exact ih1 _ _ _
   | exact LeO.none _
   | refine LeO.ite ?_ ?_
   | refine LeO.bind ?_ (fun _ => ?_)
theorem qaN.mono : ∀ a0 k, LeO (qaN.f k a0) (qaN.f (k + 1) a0) := by
 intro a0 k
 obtain ⟨ih0, ih1⟩ := qaN.qbs k
 unfold qaN.f
 repeat' first
   | (with_reducible exact ih0 _ _)
   | (with_reducible exact ih1 _ _ _)
   | (with_reducible exact LeO.refl _)
   | (with_reducible exact LeO.none _)
   | (with_reducible refine LeO.ite ?_ ?_)
   | (with_reducible refine LeO.bind ?_ (fun _ => ?_))
   | exact ih0 _ _
   | exact ih1 _ _ _
   | exact LeO.none _
   | refine LeO.ite ?_ ?_
   | refine LeO.bind ?_ (fun _ => ?_)
set_option maxHeartbeats 8000000 in
set_option maxRecDepth 100000 in
theorem qaN.calls (k : Nat) (a0 : ByteArray) (r : Bool) (w : World) (h : qaN.f k a0 = some r) :
  Calls Try.prog 115 #[.string a0] w fun e w' => e = .returned (.bool r) ∧ Drawn0 w w' := by
 have H : ((qbq.f (a0.size : Int) 1 40).bind fun t597 => (if t597 = true then (if 0 < (a0.size : Int) then ((qbF.f (bt a0 0)).bind fun t598 => (qaN.j0 k a0 t598)) else (none)) else (qaN.j0 k a0 true))) = some r := h
 clear h
 have HC2 := Aside0.mk H
 clear H
 go_enter Try.func115, Try.ntmps115
 go_upto_region 1 with (fail)
 go_cut [12] (fun v12 wc => ∃ (kq : Nat) (x12_1 : Bool), v12 = .bool x12_1 ∧ Aside0 (qaN.j0 kq a0 x12_1 = some r) ∧ Aside0 (kq ≤ k) ∧ Drawn0 w wc)
 case first =>
  have H := HC2.out
  clear HC2
  replace H := Option.bind_eq_some_iff.mp H
  obtain ⟨t597, A30, H⟩ := H
  replace H : (if t597 = true then (if 0 < (a0.size : Int) then ((qbF.f (bt a0 0)).bind fun t598 => (qaN.j0 k a0 t598)) else (none)) else (qaN.j0 k a0 true)) = some r := H
  have A3 := Aside0.mk A30
  clear A30
  by_cases c4 : t597 = true
  ·subst c4
   have H1 : (if 0 < (a0.size : Int) then ((qbF.f (bt a0 0)).bind fun t598 => (qaN.j0 k a0 t598)) else (none)) = some r := by rw [if_pos rfl] at H; exact H
   clear H
   have H := H1
   clear H1
   by_cases c5 : 0 < (a0.size : Int)
   ·rw [if_pos c5] at H
    have c5b0 : decide (0 < (a0.size : Int)) = true := decide_eq_true c5
    have c5b1 : decide (0 < a0.size) = true := decide_eq_true (by omega)
    clear c5
    (first | rw [c5b0] | (simp only [qbh, qbi]; rw [c5b0]) | skip)
    replace H := Option.bind_eq_some_iff.mp H
    obtain ⟨t598, A70, H⟩ := H
    replace H : (qaN.j0 k a0 t598) = some r := H
    have A7 := Aside0.mk A70
    clear A70
    have H' := Aside0.mk H
    clear H
    go_wp2_with (first | ((with_reducible refine qaz (f := 67) rfl ?_); refine qbf (some 6) rfl rfl Try.func67 (by kernel_rfl) rfl #[.int .i64 (a0.size : Int), .int .i64 1, .int .i64 40] rfl (by (try simp only [List.map_toArray, List.map_cons, List.map_nil]); first | done | rfl | (simp only [List.length_drop, List.length_take]; rfl)) ?_; (with_reducible refine (qbq.calls (a0.size : Int) 1 40 true _ A3.out).mono ?_); rintro e w' ⟨rfl, ⟨nd, rfl⟩⟩; refine ⟨_, rfl, ?_⟩; have p6 : 0 ≤ (0 : Int) := (by omega); have q6 : 0 < a0.size := (by have : (0 : Int) < (a0.size : Int) := of_decide_eq_true (by first | (with_reducible assumption) | assumption); omega); have hx6 : ∀ h : 0 < a0.size, ((a0[0]'h).toNat : Int) = bt a0 0 := qdo a0 0; clear p6; have qi6 : (0 < (a0.size : Int)) = True := eq_true (of_decide_eq_true (by first | (with_reducible assumption) | assumption)); replace q6 := eq_true q6) | (go_at_call 124; (with_reducible refine (qbF.calls (bt a0 0) t598 _ A7.out).mono ?_); rintro e w' ⟨rfl, ⟨nd, rfl⟩⟩))
    go_meet
    case rel => exact ⟨_, (t598), (by first | rfl | (simp; done) | (simp [*]; done)), H', ⟨by first | omega | exact Nat.le_refl _⟩, by repeat (first | exact Drawn0.refl _ | apply Drawn0.step)⟩
   ·rw [if_neg c5] at H
    exact absurd H (by simp)
  ·replace c4 := Bool.eq_false_iff.mpr c4
   subst c4
   have H1 : (qaN.j0 k a0 true) = some r := by rw [if_neg (show ¬ (false = true) by decide)] at H; exact H
   clear H
   have H := H1
   clear H1
   have H' := Aside0.mk H
   clear H
   go_wp2_with (first | ((with_reducible refine qaz (f := 67) rfl ?_); refine qbf (some 6) rfl rfl Try.func67 (by kernel_rfl) rfl #[.int .i64 (a0.size : Int), .int .i64 1, .int .i64 40] rfl (by (try simp only [List.map_toArray, List.map_cons, List.map_nil]); first | done | rfl | (simp only [List.length_drop, List.length_take]; rfl)) ?_; (with_reducible refine (qbq.calls (a0.size : Int) 1 40 false _ A3.out).mono ?_); rintro e w' ⟨rfl, ⟨nd, rfl⟩⟩; refine ⟨_, rfl, ?_⟩))
   go_meet
   case rel => exact ⟨_, (true), (by first | rfl | (simp; done) | (simp [*]; done)), H', ⟨by first | omega | exact Nat.le_refl _⟩, by repeat (first | exact Drawn0.refl _ | apply Drawn0.step)⟩
 case rest =>
  clear HC2
  try clear c1
  try clear p2
  try clear c4
  try clear c5
  try clear c5b0
  try clear c5b1
  try clear c6
  try clear p6
  try clear q6
  try clear hx6
  try clear qi6
  try clear p6
  try clear q6
  obtain ⟨kq, x12_1, rfl, HA, HJ1, ⟨mc1, rfl⟩⟩ := hcut
  cases kq with
  | zero => exact absurd HA.out (by simp [qaN.j0])
  | succ kj1 =>
   have H := HA.out
   clear HA
   simp only [qaN.j0] at H
   by_cases c8 : x12_1 = true
   ·subst c8
    have H1 : (some false) = some r := by rw [if_pos rfl] at H; exact H
    clear H
    have H := H1
    clear H1
    obtain rfl := Option.some.inj H
    go_wp2
    go_ret
    exact ⟨by first | rfl | (simp; done) | (simp [*]; done), by repeat (first | exact Drawn0.refl _ | apply Drawn0.step)⟩
   ·replace c8 := Bool.eq_false_iff.mpr c8
    subst c8
    have H1 : (qaN.l0 kj1 a0 (a0.size : Int) 0) = some r := by rw [if_neg (show ¬ (false = true) by decide)] at H; exact H
    clear H
    have H := H1
    clear H1
    have H' := Aside0.mk H
    clear H
    go_wp2
    go_loopg [15] kj1 (fun kq v15 w' => ∃ (x15_2 : Int), v15 = .int .i64 x15_2 ∧ Aside0 (qaN.l0 kq a0 (a0.size : Int) x15_2 = some r) ∧ Aside0 (kq ≤ kj1) ∧ Drawn0 w w')
    case atStart => exact ⟨(0), (by first | rfl | (simp; done) | (simp [*]; done)), H', ⟨Nat.le_refl _⟩, by repeat (first | exact Drawn0.refl _ | apply Drawn0.step)⟩
    case round =>
     clear H'
     try clear c1
     try clear p2
     try clear c4
     try clear c5
     try clear c5b0
     try clear c5b1
     try clear c6
     try clear p6
     try clear q6
     try clear hx6
     try clear qi6
     try clear c8
     try clear p2
     try clear p6
     try clear q6
     obtain ⟨x15_2, rfl, HA, HK2, ⟨m2, rfl⟩⟩ := hrel
     cases gk with
     | zero => exact absurd HA.out (by simp [qaN.l0])
     | succ k2 =>
      have H := HA.out
      clear HA
      simp only [qaN.l0] at H
      by_cases c9 : x15_2 < (a0.size : Int)
      ·rw [if_pos c9] at H
       have c9b0 : decide (x15_2 < (a0.size : Int)) = true := decide_eq_true c9
       clear c9
       by_cases c10 : 0 ≤ x15_2
       ·rw [if_pos c10] at H
        have c10b0 : decide (0 ≤ x15_2) = true := decide_eq_true c10
        clear c10
        by_cases c11 : x15_2 < (a0.size : Int)
        ·rw [if_pos c11] at H
         have c11b0 : decide (x15_2 < (a0.size : Int)) = true := decide_eq_true c11
         clear c11
         replace H := Option.bind_eq_some_iff.mp H
         obtain ⟨t599, A130, H⟩ := H
         replace H : (if t599 = true then (qaN.l0 k2 a0 (a0.size : Int) (wrap64 (x15_2 + 1))) else ((qbF.f (bt a0 x15_2)).bind fun t600 => (if t600 = true then (qaN.l0 k2 a0 (a0.size : Int) (wrap64 (x15_2 + 1))) else (some false)))) = some r := H
         have A13 := Aside0.mk A130
         clear A130
         by_cases c14 : t599 = true
         ·subst c14
          have H1 : (qaN.l0 k2 a0 (a0.size : Int) (wrap64 (x15_2 + 1))) = some r := by rw [if_pos rfl] at H; exact H
          clear H
          have H := H1
          clear H1
          have H' := Aside0.mk H
          clear H
          have p12 : 0 ≤ (x15_2 : Int) := of_decide_eq_true (by first | (with_reducible assumption) | assumption)
          have q12 : x15_2 < (a0.size : Int) := of_decide_eq_true (by first | (with_reducible assumption) | assumption)
          have hx12 := qdo a0 x15_2
          replace p12 := eq_true p12
          replace q12 := eq_true q12
          go_wp2_with (first | ((with_reducible refine qaz (f := 125) rfl ?_); refine qbf (some 21) rfl rfl Try.func125 (by kernel_rfl) rfl #[.int .u8 (bt a0 x15_2)] rfl (by (try simp only [List.map_toArray, List.map_cons, List.map_nil]); first | done | rfl | (simp only [List.length_drop, List.length_take]; rfl)) ?_; (with_reducible refine (qbW.calls (bt a0 x15_2) true _ A13.out).mono ?_); rintro e w' ⟨rfl, ⟨nd, rfl⟩⟩; refine ⟨_, rfl, ?_⟩))
          go_roundg k2
          case measure => have := HJ1.out; have := HK2.out; omega
          case rel => exact ⟨(wrap64 (x15_2 + 1)), (by first | rfl | (simp; done) | (simp [*]; done)), H', ⟨by have := HJ1.out; have := HK2.out; omega⟩, by repeat (first | exact Drawn0.refl _ | apply Drawn0.step)⟩
         ·replace c14 := Bool.eq_false_iff.mpr c14
          subst c14
          have H1 : ((qbF.f (bt a0 x15_2)).bind fun t600 => (if t600 = true then (qaN.l0 k2 a0 (a0.size : Int) (wrap64 (x15_2 + 1))) else (some false))) = some r := by rw [if_neg (show ¬ (false = true) by decide)] at H; exact H
          clear H
          have H := H1
          clear H1
          replace H := Option.bind_eq_some_iff.mp H
          obtain ⟨t600, A160, H⟩ := H
          replace H : (if t600 = true then (qaN.l0 k2 a0 (a0.size : Int) (wrap64 (x15_2 + 1))) else (some false)) = some r := H
          have A16 := Aside0.mk A160
          clear A160
          by_cases c17 : t600 = true
          ·subst c17
           have H1 : (qaN.l0 k2 a0 (a0.size : Int) (wrap64 (x15_2 + 1))) = some r := by rw [if_pos rfl] at H; exact H
           clear H
           have H := H1
           clear H1
           have H' := Aside0.mk H
           clear H
           have p12 : 0 ≤ (x15_2 : Int) := of_decide_eq_true (by first | (with_reducible assumption) | assumption)
           have q12 : x15_2 < (a0.size : Int) := of_decide_eq_true (by first | (with_reducible assumption) | assumption)
           have hx12 := qdo a0 x15_2
           replace p12 := eq_true p12
           replace q12 := eq_true q12
           go_wp2_with (first | ((with_reducible refine qaz (f := 125) rfl ?_); refine qbf (some 21) rfl rfl Try.func125 (by kernel_rfl) rfl #[.int .u8 (bt a0 x15_2)] rfl (by (try simp only [List.map_toArray, List.map_cons, List.map_nil]); first | done | rfl | (simp only [List.length_drop, List.length_take]; rfl)) ?_; (with_reducible refine (qbW.calls (bt a0 x15_2) false _ A13.out).mono ?_); rintro e w' ⟨rfl, ⟨nd, rfl⟩⟩; refine ⟨_, rfl, ?_⟩; have p15 : 0 ≤ (x15_2 : Int) := of_decide_eq_true (by first | (with_reducible assumption) | assumption); have q15 : x15_2 < (a0.size : Int) := of_decide_eq_true (by first | (with_reducible assumption) | assumption); have hx15 := qdo a0 x15_2; replace p15 := eq_true p15; replace q15 := eq_true q15) | (go_at_call 124; (with_reducible refine (qbF.calls (bt a0 x15_2) true _ A16.out).mono ?_); rintro e w' ⟨rfl, ⟨nd, rfl⟩⟩))
           go_roundg k2
           case measure => have := HJ1.out; have := HK2.out; omega
           case rel => exact ⟨(wrap64 (x15_2 + 1)), (by first | rfl | (simp; done) | (simp [*]; done)), H', ⟨by have := HJ1.out; have := HK2.out; omega⟩, by repeat (first | exact Drawn0.refl _ | apply Drawn0.step)⟩
          ·replace c17 := Bool.eq_false_iff.mpr c17
           subst c17
           have H1 : (some false) = some r := by rw [if_neg (show ¬ (false = true) by decide)] at H; exact H
           clear H
           have H := H1
           clear H1
           obtain rfl := Option.some.inj H
           have p12 : 0 ≤ (x15_2 : Int) := of_decide_eq_true (by first | (with_reducible assumption) | assumption)
           have q12 : x15_2 < (a0.size : Int) := of_decide_eq_true (by first | (with_reducible assumption) | assumption)
           have hx12 := qdo a0 x15_2
           replace p12 := eq_true p12
           replace q12 := eq_true q12
           go_wp2_with (first | ((with_reducible refine qaz (f := 125) rfl ?_); refine qbf (some 21) rfl rfl Try.func125 (by kernel_rfl) rfl #[.int .u8 (bt a0 x15_2)] rfl (by (try simp only [List.map_toArray, List.map_cons, List.map_nil]); first | done | rfl | (simp only [List.length_drop, List.length_take]; rfl)) ?_; (with_reducible refine (qbW.calls (bt a0 x15_2) false _ A13.out).mono ?_); rintro e w' ⟨rfl, ⟨nd, rfl⟩⟩; refine ⟨_, rfl, ?_⟩; have p15 : 0 ≤ (x15_2 : Int) := of_decide_eq_true (by first | (with_reducible assumption) | assumption); have q15 : x15_2 < (a0.size : Int) := of_decide_eq_true (by first | (with_reducible assumption) | assumption); have hx15 := qdo a0 x15_2; replace p15 := eq_true p15; replace q15 := eq_true q15) | (go_at_call 124; (with_reducible refine (qbF.calls (bt a0 x15_2) false _ A16.out).mono ?_); rintro e w' ⟨rfl, ⟨nd, rfl⟩⟩))
           go_ret
           exact ⟨by first | rfl | (simp; done) | (simp [*]; done), by repeat (first | exact Drawn0.refl _ | apply Drawn0.step)⟩
        ·rw [if_neg c11] at H
         exact absurd H (by simp)
       ·rw [if_neg c10] at H
        exact absurd H (by simp)
      ·rw [if_neg c9] at H
       have c9b0 : decide (x15_2 < (a0.size : Int)) = false := decide_eq_false c9
       clear c9
       obtain rfl := Option.some.inj H
       go_wp2
       go_ret
       exact ⟨by first | rfl | (simp; done) | (simp [*]; done), by repeat (first | exact Drawn0.refl _ | apply Drawn0.step)⟩
end Go.Proofs.Ytgcncphdjabjjaa.X
namespace Go.Proofs.Ytgcncphdjabjjaa.X
open Go.RowKit Go.Proofs.YtgcncphdjabjjaaW.PrintWords Go.Proofs.YtgcncphdjabjjaaW.PrintLast Go.Proofs.YtgcncphdjabjjaaW.PrintMore
attribute [local go_sem] qaT qaU qaV qaP qaQ qa3 qa4 qaJ qaK qaR qaS
set_option linter.unusedVariables false
set_option linter.unusedSimpArgs false
def qa6.f (k : Nat) (a0 : ByteArray) : Option (Bool) := if (a0.size : Int) ≤ 8 then ((qaN.f k a0).bind fun t601 => (some t601)) else (some false)
theorem qa6.mono : ∀ a0 k, LeO (qa6.f k a0) (qa6.f (k + 1) a0) := by
 intro a0 k
 unfold qa6.f
 repeat' first
   | (with_reducible exact qaN.mono _ _)
   | (with_reducible exact LeO.refl _)
   | (with_reducible exact LeO.none _)
   | (with_reducible refine LeO.ite ?_ ?_)
   | (with_reducible refine LeO.bind ?_ (fun _ => ?_))
   | exact qaN.mono _ _
   | exact LeO.none _
   | refine LeO.ite ?_ ?_
   | refine LeO.bind ?_ (fun _ => ?_)
set_option maxHeartbeats 8000000 in
set_option maxRecDepth 100000 in
theorem qa6.calls (k : Nat) (a0 : ByteArray) (r : Bool) (w : World) (h : qa6.f k a0 = some r) :
  Calls Try.prog 95 #[.string a0] w fun e w' => e = .returned (.bool r) ∧ Drawn0 w w' := by
 have H : (if (a0.size : Int) ≤ 8 then ((qaN.f k a0).bind fun t601 => (some t601)) else (some false)) = some r := h
 clear h
 by_cases c2 : (a0.size : Int) ≤ 8
 ·rw [if_pos c2] at H
  have c2b0 : decide ((a0.size : Int) ≤ 8) = true := decide_eq_true c2
  have c2b1 : decide (a0.size ≤ 8) = true := decide_eq_true (by omega)
  clear c2
  replace H := Option.bind_eq_some_iff.mp H
  obtain ⟨t601, A30, H⟩ := H
  replace H : (some t601) = some r := H
  have A3 := Aside0.mk A30
  clear A30
  obtain rfl := Option.some.inj H
  go_enter Try.func95, Try.ntmps95
  go_wp2_with (first | (go_at_call 115; (with_reducible refine (qaN.calls k a0 t601 _ A3.out).mono ?_); rintro e w' ⟨rfl, ⟨nd, rfl⟩⟩))
  go_ret
  exact ⟨by first | rfl | (simp; done) | (simp [*]; done), by repeat (first | exact Drawn0.refl _ | apply Drawn0.step)⟩
 ·rw [if_neg c2] at H
  have c2b0 : decide ((a0.size : Int) ≤ 8) = false := decide_eq_false c2
  have c2b1 : decide (a0.size ≤ 8) = false := decide_eq_false (by omega)
  clear c2
  obtain rfl := Option.some.inj H
  go_enter Try.func95, Try.ntmps95
  go_wp2
  go_ret
  exact ⟨by first | rfl | (simp; done) | (simp [*]; done), by repeat (first | exact Drawn0.refl _ | apply Drawn0.step)⟩
end Go.Proofs.Ytgcncphdjabjjaa.X
namespace Go.Proofs.Ytgcncphdjabjjaa.X
open Go.RowKit Go.Proofs.YtgcncphdjabjjaaW.PrintWords Go.Proofs.YtgcncphdjabjjaaW.PrintLast Go.Proofs.YtgcncphdjabjjaaW.PrintMore
attribute [local go_sem] qaT qaU qaV qaP qaQ qa3 qa4 qaJ qaK qaR qaS
set_option linter.unusedVariables false
set_option linter.unusedSimpArgs false
def qbC.f (k : Nat) (a0 : ByteArray) (a1 : ByteArray) (a2 : Int) : Option (Bool) := (qa6.f k a0).bind fun t602 => (if t602 = true then ((qa6.f k a1).bind fun t603 => (if t603 = true then ((qbq.f a2 0 4294967295).bind fun t604 => (some t604)) else (some false))) else (if a0.toList = ([] : List UInt8) then (if a2 = 0 then ((qa6.f k a1).bind fun t605 => (if t605 = true then ((qbq.f a2 0 4294967295).bind fun t606 => (some t606)) else (some false))) else (some false)) else (some false)))
theorem qbC.mono : ∀ a0 a1 a2 k, LeO (qbC.f k a0 a1 a2) (qbC.f (k + 1) a0 a1 a2) := by
 intro a0 a1 a2 k
 unfold qbC.f
 repeat' first
   | (with_reducible exact qa6.mono _ _)
   | (with_reducible exact LeO.refl _)
   | (with_reducible exact LeO.none _)
   | (with_reducible refine LeO.ite ?_ ?_)
   | (with_reducible refine LeO.bind ?_ (fun _ => ?_))
   | exact qa6.mono _ _
   | exact LeO.none _
   | refine LeO.ite ?_ ?_
   | refine LeO.bind ?_ (fun _ => ?_)
set_option maxHeartbeats 8000000 in
set_option maxRecDepth 100000 in
theorem qbC.calls (k : Nat) (a0 : ByteArray) (a1 : ByteArray) (a2 : Int) (r : Bool) (w : World) (h : qbC.f k a0 a1 a2 = some r) :
  Calls Try.prog 66 #[.string a0, .string a1, .int .i64 a2] w fun e w' => e = .returned (.bool r) ∧ Drawn0 w w' := by
 have H : ((qa6.f k a0).bind fun t602 => (if t602 = true then ((qa6.f k a1).bind fun t603 => (if t603 = true then ((qbq.f a2 0 4294967295).bind fun t604 => (some t604)) else (some false))) else (if a0.toList = ([] : List UInt8) then (if a2 = 0 then ((qa6.f k a1).bind fun t605 => (if t605 = true then ((qbq.f a2 0 4294967295).bind fun t606 => (some t606)) else (some false))) else (some false)) else (some false)))) = some r := h
 clear h
 replace H := Option.bind_eq_some_iff.mp H
 obtain ⟨t602, A40, H⟩ := H
 replace H : (if t602 = true then ((qa6.f k a1).bind fun t603 => (if t603 = true then ((qbq.f a2 0 4294967295).bind fun t604 => (some t604)) else (some false))) else (if a0.toList = ([] : List UInt8) then (if a2 = 0 then ((qa6.f k a1).bind fun t605 => (if t605 = true then ((qbq.f a2 0 4294967295).bind fun t606 => (some t606)) else (some false))) else (some false)) else (some false))) = some r := H
 have A4 := Aside0.mk A40
 clear A40
 by_cases c5 : t602 = true
 ·subst c5
  have H1 : ((qa6.f k a1).bind fun t603 => (if t603 = true then ((qbq.f a2 0 4294967295).bind fun t604 => (some t604)) else (some false))) = some r := by rw [if_pos rfl] at H; exact H
  clear H
  have H := H1
  clear H1
  replace H := Option.bind_eq_some_iff.mp H
  obtain ⟨t603, A60, H⟩ := H
  replace H : (if t603 = true then ((qbq.f a2 0 4294967295).bind fun t604 => (some t604)) else (some false)) = some r := H
  have A6 := Aside0.mk A60
  clear A60
  by_cases c7 : t603 = true
  ·subst c7
   have H1 : ((qbq.f a2 0 4294967295).bind fun t604 => (some t604)) = some r := by rw [if_pos rfl] at H; exact H
   clear H
   have H := H1
   clear H1
   replace H := Option.bind_eq_some_iff.mp H
   obtain ⟨t604, A80, H⟩ := H
   replace H : (some t604) = some r := H
   have A8 := Aside0.mk A80
   clear A80
   obtain rfl := Option.some.inj H
   go_enter Try.func66, Try.ntmps66
   go_wp2_with (first | ((with_reducible refine qaz (f := 95) rfl ?_); refine qbf (some 8) rfl rfl Try.func95 (by kernel_rfl) rfl #[.string a0] rfl (by (try simp only [List.map_toArray, List.map_cons, List.map_nil]); first | done | rfl | (simp only [List.length_drop, List.length_take]; rfl)) ?_; (with_reducible refine (qa6.calls k a0 true _ A4.out).mono ?_); rintro e w' ⟨rfl, ⟨nd, rfl⟩⟩; refine ⟨_, rfl, ?_⟩) | (go_at_call 95; (with_reducible refine (qa6.calls k a1 true _ A6.out).mono ?_); rintro e w' ⟨rfl, ⟨nd, rfl⟩⟩) | (go_at_call 67; (with_reducible refine (qbq.calls a2 0 4294967295 t604 _ A8.out).mono ?_); rintro e w' ⟨rfl, ⟨nd, rfl⟩⟩))
   go_ret
   exact ⟨by first | rfl | (simp; done) | (simp [*]; done), by repeat (first | exact Drawn0.refl _ | apply Drawn0.step)⟩
  ·replace c7 := Bool.eq_false_iff.mpr c7
   subst c7
   have H1 : (some false) = some r := by rw [if_neg (show ¬ (false = true) by decide)] at H; exact H
   clear H
   have H := H1
   clear H1
   obtain rfl := Option.some.inj H
   go_enter Try.func66, Try.ntmps66
   go_wp2_with (first | ((with_reducible refine qaz (f := 95) rfl ?_); refine qbf (some 8) rfl rfl Try.func95 (by kernel_rfl) rfl #[.string a0] rfl (by (try simp only [List.map_toArray, List.map_cons, List.map_nil]); first | done | rfl | (simp only [List.length_drop, List.length_take]; rfl)) ?_; (with_reducible refine (qa6.calls k a0 true _ A4.out).mono ?_); rintro e w' ⟨rfl, ⟨nd, rfl⟩⟩; refine ⟨_, rfl, ?_⟩) | (go_at_call 95; (with_reducible refine (qa6.calls k a1 false _ A6.out).mono ?_); rintro e w' ⟨rfl, ⟨nd, rfl⟩⟩))
   go_ret
   exact ⟨by first | rfl | (simp; done) | (simp [*]; done), by repeat (first | exact Drawn0.refl _ | apply Drawn0.step)⟩
 ·replace c5 := Bool.eq_false_iff.mpr c5
  subst c5
  have H1 : (if a0.toList = ([] : List UInt8) then (if a2 = 0 then ((qa6.f k a1).bind fun t605 => (if t605 = true then ((qbq.f a2 0 4294967295).bind fun t606 => (some t606)) else (some false))) else (some false)) else (some false)) = some r := by rw [if_neg (show ¬ (false = true) by decide)] at H; exact H
  clear H
  have H := H1
  clear H1
  by_cases c9 : a0.toList = ([] : List UInt8)
  ·rw [if_pos c9] at H
   have c9b0 : (a0.toList == ([] : List UInt8)) = true := beq_iff_eq.mpr c9
   have c9b1 : (a0.toList != ([] : List UInt8)) = false := bne_eq_false_iff_eq.mpr c9
   clear c9
   by_cases c10 : a2 = 0
   ·rw [if_pos c10] at H
    have c10b0 : (a2 == 0) = true := beq_iff_eq.mpr c10
    have c10b1 : (a2 != 0) = false := bne_eq_false_iff_eq.mpr c10
    clear c10
    replace H := Option.bind_eq_some_iff.mp H
    obtain ⟨t605, A110, H⟩ := H
    replace H : (if t605 = true then ((qbq.f a2 0 4294967295).bind fun t606 => (some t606)) else (some false)) = some r := H
    have A11 := Aside0.mk A110
    clear A110
    by_cases c12 : t605 = true
    ·subst c12
     have H1 : ((qbq.f a2 0 4294967295).bind fun t606 => (some t606)) = some r := by rw [if_pos rfl] at H; exact H
     clear H
     have H := H1
     clear H1
     replace H := Option.bind_eq_some_iff.mp H
     obtain ⟨t606, A130, H⟩ := H
     replace H : (some t606) = some r := H
     have A13 := Aside0.mk A130
     clear A130
     obtain rfl := Option.some.inj H
     go_enter Try.func66, Try.ntmps66
     go_wp2_with (first | ((with_reducible refine qaz (f := 95) rfl ?_); refine qbf (some 8) rfl rfl Try.func95 (by kernel_rfl) rfl #[.string a0] rfl (by (try simp only [List.map_toArray, List.map_cons, List.map_nil]); first | done | rfl | (simp only [List.length_drop, List.length_take]; rfl)) ?_; (with_reducible refine (qa6.calls k a0 false _ A4.out).mono ?_); rintro e w' ⟨rfl, ⟨nd, rfl⟩⟩; refine ⟨_, rfl, ?_⟩) | (go_at_call 95; (with_reducible refine (qa6.calls k a1 true _ A11.out).mono ?_); rintro e w' ⟨rfl, ⟨nd, rfl⟩⟩) | (go_at_call 67; (with_reducible refine (qbq.calls a2 0 4294967295 t606 _ A13.out).mono ?_); rintro e w' ⟨rfl, ⟨nd, rfl⟩⟩))
     go_ret
     exact ⟨by first | rfl | (simp; done) | (simp [*]; done), by repeat (first | exact Drawn0.refl _ | apply Drawn0.step)⟩
    ·replace c12 := Bool.eq_false_iff.mpr c12
     subst c12
     have H1 : (some false) = some r := by rw [if_neg (show ¬ (false = true) by decide)] at H; exact H
     clear H
     have H := H1
     clear H1
     obtain rfl := Option.some.inj H
     go_enter Try.func66, Try.ntmps66
     go_wp2_with (first | ((with_reducible refine qaz (f := 95) rfl ?_); refine qbf (some 8) rfl rfl Try.func95 (by kernel_rfl) rfl #[.string a0] rfl (by (try simp only [List.map_toArray, List.map_cons, List.map_nil]); first | done | rfl | (simp only [List.length_drop, List.length_take]; rfl)) ?_; (with_reducible refine (qa6.calls k a0 false _ A4.out).mono ?_); rintro e w' ⟨rfl, ⟨nd, rfl⟩⟩; refine ⟨_, rfl, ?_⟩) | (go_at_call 95; (with_reducible refine (qa6.calls k a1 false _ A11.out).mono ?_); rintro e w' ⟨rfl, ⟨nd, rfl⟩⟩))
     go_ret
     exact ⟨by first | rfl | (simp; done) | (simp [*]; done), by repeat (first | exact Drawn0.refl _ | apply Drawn0.step)⟩
   ·rw [if_neg c10] at H
    have c10b0 : (a2 == 0) = false := beq_eq_false_iff_ne.mpr c10
    have c10b1 : (a2 != 0) = true := bne_iff_ne.mpr c10
    obtain rfl := Option.some.inj H
    go_enter Try.func66, Try.ntmps66
    go_wp2_with (first | ((with_reducible refine qaz (f := 95) rfl ?_); refine qbf (some 8) rfl rfl Try.func95 (by kernel_rfl) rfl #[.string a0] rfl (by (try simp only [List.map_toArray, List.map_cons, List.map_nil]); first | done | rfl | (simp only [List.length_drop, List.length_take]; rfl)) ?_; (with_reducible refine (qa6.calls k a0 false _ A4.out).mono ?_); rintro e w' ⟨rfl, ⟨nd, rfl⟩⟩; refine ⟨_, rfl, ?_⟩))
    go_ret
    exact ⟨by first | rfl | (simp; done) | (simp [*]; done), by repeat (first | exact Drawn0.refl _ | apply Drawn0.step)⟩
  ·rw [if_neg c9] at H
   have c9b0 : (a0.toList == ([] : List UInt8)) = false := beq_eq_false_iff_ne.mpr c9
   have c9b1 : (a0.toList != ([] : List UInt8)) = true := bne_iff_ne.mpr c9
   obtain rfl := Option.some.inj H
   go_enter Try.func66, Try.ntmps66
   go_wp2_with (first | ((with_reducible refine qaz (f := 95) rfl ?_); refine qbf (some 8) rfl rfl Try.func95 (by kernel_rfl) rfl #[.string a0] rfl (by (try simp only [List.map_toArray, List.map_cons, List.map_nil]); first | done | rfl | (simp only [List.length_drop, List.length_take]; rfl)) ?_; (with_reducible refine (qa6.calls k a0 false _ A4.out).mono ?_); rintro e w' ⟨rfl, ⟨nd, rfl⟩⟩; refine ⟨_, rfl, ?_⟩))
   go_ret
   exact ⟨by first | rfl | (simp; done) | (simp [*]; done), by repeat (first | exact Drawn0.refl _ | apply Drawn0.step)⟩
end Go.Proofs.Ytgcncphdjabjjaa.X
namespace Go.Proofs.Ytgcncphdjabjjaa.X
open Go.RowKit Go.Proofs.YtgcncphdjabjjaaW.PrintWords Go.Proofs.YtgcncphdjabjjaaW.PrintLast Go.Proofs.YtgcncphdjabjjaaW.PrintMore
attribute [local go_sem] qaT qaU qaV qaP qaQ qa3 qa4 qaJ qaK qaR qaS
set_option linter.unusedVariables false
set_option linter.unusedSimpArgs false
theorem qdl (s : ByteArray) : ∀ c, c ∈ bytesOf s → isByte c := by
 intro c hc
 unfold bytesOf at hc
 obtain ⟨b, _, rfl⟩ := List.mem_map.1 hc
 have := b.toNat_lt
 exact ⟨by omega, by omega⟩
def qco.f (a0 : ByteArray) : Option Int := if a0.size ≤ 1000000000 then some (sumOf32 (bytesOf a0)) else none
set_option maxRecDepth 100000 in
set_option maxHeartbeats 2000000 in
theorem qco.calls (a0 : ByteArray) (r : Int) (w : World) (h : qco.f a0 = some r) :
  Calls Try.prog 85 #[.string a0] w fun e w' => e = .returned (.int .i64 r) ∧ Below w.heap.size w w' := by
 unfold qco.f at h
 by_cases hs : a0.size ≤ 1000000000
 ·rw [if_pos hs] at h
  obtain rfl := Option.some.inj h
  clear h
  obtain ⟨K, hK⟩ := qeP (bytesOf a0) (by rw [bytesOf_length]; omega) (qdl a0)
  have hK2 := Aside0.mk (hK K (Nat.le_refl _))
  clear hK
  have kb := fun W => qeF (P := Try.prog) 9 52 5 Try.underlying9 Try.underlying52 Try.underlying5 a0 W
  go_enter Try.func85, Try.ntmps85
  go_wp2_with fail
  have hc : Kd.C (Kd.int .u8) (Lib.bytesWorld w 5 a0) (some ⟨w.heap.size, 0, none⟩) (bytesOf a0).length (bytesOf a0) := by
   rw [bytesOf_length]
   exact Kd.qdZ (qeG w 5 a0 (by omega))
  have hl : (bytesOf a0).length ≤ grownCap w a0.size 0 5 := by rw [bytesOf_length]; exact grownCap_ge _ _ _ _
  have hq := qbr.calls K _ _ _ _ _ hc hl hK2.out
  rw [bytesOf_length] at hq
  refine hq.mono ?_
  rintro e w1 ⟨rfl, hd⟩
  go_wp2_with fail
  go_ret
  exact ⟨rfl, (qeH (Below.refl _ w) (Nat.le_refl _) _ a0).trans (by have := hd.below; exact this.mono (by rw [Lib.bytesWorld_size]; omega))⟩
 ·rw [if_neg hs] at h
  cases h
end Go.Proofs.Ytgcncphdjabjjaa.X
namespace Go.Proofs.Ytgcncphdjabjjaa.X
open Go.RowKit Go.Proofs.YtgcncphdjabjjaaW.PrintWords Go.Proofs.YtgcncphdjabjjaaW.PrintLast Go.Proofs.YtgcncphdjabjjaaW.PrintMore
attribute [local go_sem] qaT qaU qaV qaP qaQ qa3 qa4 qaJ qaK qaR qaS
set_option linter.unusedVariables false
set_option linter.unusedSimpArgs false
def pairsFrom (a : ByteArray) (l : List S76) : ByteArray := l.foldl (fun a p => a ++ fieldsT [p.f0, p.f1]) a
theorem qcR (a : ByteArray) (l : List S76) (p : S76) : pairsFrom a (l ++ [p]) = pairsFrom a l ++ fieldsT [p.f0, p.f1] := by
 unfold pairsFrom
 rw [List.foldl_append]
 rfl
def PairsFit (l : List S76) : Prop := l.length ≤ 1000 ∧ ∀ p, p ∈ l → p.f0.size ≤ 1000 ∧ p.f1.size ≤ 1000
instance (l : List S76) : Decidable (PairsFit l) := by unfold PairsFit; infer_instance
theorem qcY (a b : ByteArray) (ha : a.size ≤ 1000) (hb : b.size ≤ 1000) : (fieldsT [a, b]).size ≤ 2005 := by
 show (fieldsFrom (strOfNums [2]) [a, b]).size ≤ 2005
 simp only [fieldsFrom, List.foldl_cons, List.foldl_nil, ByteArray.size_append, qcF]
 have : (strOfNums [2]).size = 1 := rfl
 omega
theorem qcS (l : List S76) : ∀ a : ByteArray, (∀ p, p ∈ l → p.f0.size ≤ 1000 ∧ p.f1.size ≤ 1000) → (pairsFrom a l).size ≤ a.size + 2005 * l.length := by
 induction l with
 | nil => intro a _; exact Nat.le_add_right _ _
 | cons p l ih =>
  intro a h
  have h1 := h p List.mem_cons_self
  have h2 := ih (a ++ fieldsT [p.f0, p.f1]) fun x hx => h x (List.mem_cons_of_mem _ hx)
  have h3 := qcY p.f0 p.f1 h1.1 h1.2
  rw [ByteArray.size_append] at h2
  simp only [List.length_cons]
  show (pairsFrom (a ++ fieldsT [p.f0, p.f1]) l).size ≤ _
  omega
def qbD.f (l0 : List S76) : Option Int := if PairsFit l0 then some (sumOf32 (bytesOf (pairsFrom ByteArray.empty l0))) else none
set_option maxRecDepth 100000 in
set_option maxHeartbeats 4000000 in
theorem qbD.calls (A0 : Option Addr) (c0 : Nat) (l0 : List S76) (r : Int) (w : World) (hr0 : Kd.C k76 w A0 l0.length l0) (hc0 : l0.length ≤ c0) (h : qbD.f l0 = some r) :
  Calls Try.prog 54 #[.slice A0 l0.length c0] w fun e w' => e = .returned (.int .i64 r) ∧ Below w.heap.size w w' := by
 unfold qbD.f at h
 by_cases hs : PairsFit l0
 ·rw [if_pos hs] at h
  obtain rfl := Option.some.inj h
  obtain ⟨hs1, hs2⟩ := hs
  have hu := Try.underlying76
  have HS := Aside0.mk hs2
  have HR := Aside0.mk hr0
  clear hr0 h hs2
  go_enter Try.func54, Try.ntmps54
  go_wp2_with fail
  have HB1 := Aside0.mk (Lib.fresh_isBuilder 102 5 w)
  have HB := Aside0.mk (show Below w.heap.size w (w.alloc (.cells #[.pointer none, .slice none 0 0] 102 (0, 0))) from (Below.refl _ w).alloc (Nat.le_refl _) _)
  go_loopw [9] (fun v9 wr => ∃ k : Nat, k ≤ l0.length ∧ v9 = .int .i64 k ∧ Aside0 (Lib.IsBuilder 102 5 w.heap.size w.heap.size (Lib.byteCells (pairsFrom ByteArray.empty (l0.take k)).data.toList) wr) ∧ Aside0 (Below w.heap.size w wr)) (fun v9 _ => l0.length - (intOf v9).toNat)
  case atStart => exact ⟨0, Nat.zero_le _, rfl, ⟨by rw [List.take_zero]; exact HB1.out⟩, HB⟩
  case round =>
   clear HB HB1
   obtain ⟨k, hk, rfl, HI, HB⟩ := hrel
   have hfs := qcS (l0.take k) ByteArray.empty fun t ht => HS.out t (List.mem_of_mem_take ht)
   rw [List.length_take] at hfs
   have ha1 : ByteArray.empty.size = 0 := rfl
   rw [ha1] at hfs
   by_cases hlt : k < l0.length
   ·have c1 : decide ((k : Int) < (l0.length : Int)) = true := decide_eq_true (by omega)
    have p1 : 0 ≤ (k : Int) := by omega
    have q1 : (k : Int) < (l0.length : Int) := by omega
    obtain ⟨ad, e, hx0, hx1⟩ := qbv HR.out (k : Int) p1 q1
    cases e
    have et : qal l0 (k : Int) = l0[k] := by unfold qal; rw [Int.toNat_natCast]; simp [List.getD_eq_getElem?_getD, hlt]
    rw [et, Int.toNat_natCast] at hx0 hx1
    have htk : l0.take (k + 1) = l0.take k ++ [l0[k]] := List.take_succ_eq_append_getElem hlt
    have hts := HS.out l0[k] (List.getElem_mem hlt)
    replace hx0 := (HB.out.cell (World.block_lt_of_cell? w _ hx0)).trans hx0
    replace hx1 := (HB.out.cell (World.block_lt_of_cell? w _ hx1)).trans hx1
    clear et
    generalize l0[k] = t at hx0 hx1 htk hts
    replace p1 := eq_true p1
    replace q1 := eq_true q1
    have HTK := Aside0.mk htk
    clear htk
    go_wp2_with fail
    obtain ⟨_, h2, hb0⟩ := qd5 wr (.cells #[.string t.f0, .string t.f1] 76) (.cells #[.string t.f0, .string t.f1] 9)
    have hC : Kd.C Kd.string ((wr.alloc (.cells #[.string t.f0, .string t.f1] 76)).alloc (.cells #[.string t.f0, .string t.f1] 9)) (some ⟨wr.heap.size + 1, 0, none⟩) [t.f0, t.f1].length [t.f0, t.f1] := Kd.qdZ (d := ByteArray.empty) ⟨rfl, by show 2 ≤ _; omega, fun _ => ⟨_, rfl, fun j hj => by
     rw [add_plain, qah h2 j]
     match j, hj with
     | 0, _ => rfl
     | 1, _ => rfl
     | j + 2, hj => exact absurd hj (by show ¬ j + 2 < 2; omega)⟩⟩
    have hf2 : qcl.f [t.f0, t.f1] = some (fieldsT [t.f0, t.f1]) := by
     unfold qcl.f
     rw [if_pos ⟨by show 2 ≤ _; omega, fun x hx => by
      rcases List.mem_cons.1 hx with rfl | hx
      ·omega
      ·rcases List.mem_cons.1 hx with rfl | hx
       ·omega
       ·cases hx⟩]
    refine (qcl.calls _ 2 [t.f0, t.f1] _ _ hC (Nat.le_refl _) hf2).mono ?_
    rintro e w2 ⟨rfl, hb2⟩
    have hbw : Below wr.heap.size wr w2 := qak hb0 hb2
    have hsz2 := qcY t.f0 t.f1 hts.1 hts.2
    have HBW := Aside0.mk hbw
    clear h2 hb0 hC hf2 hb2 hbw
    generalize hN : fieldsT [t.f0, t.f1] = nb at *
    have HN := Aside0.mk hN
    clear hN
    go_wp2_with fail
    refine (qcG w.heap.size w.heap.size _ nb _ (qcH HI.out HBW.out) (by
     rw [Lib.byteCells_length, Array.length_toList]
     have : (pairsFrom ByteArray.empty (l0.take k)).data.size = (pairsFrom ByteArray.empty (l0.take k)).size := rfl
     omega) (by have := HB.out.size; have := HBW.out.size; omega)).mono ?_
    rintro e w3 ⟨rfl, hB3, hb3⟩
    have HB3 := Aside0.mk (qak HB.out HBW.out)
    go_wp2_with fail
    refine ⟨⟨k + 1, by omega, rfl, ⟨?_⟩, ⟨HB3.out.trans hb3⟩⟩, by simp [intOf]; omega⟩
    rw [HTK.out, qcR, HN.out]
    have e : Lib.byteCells (pairsFrom ByteArray.empty (l0.take k) ++ nb).data.toList = Lib.byteCells (pairsFrom ByteArray.empty (l0.take k)).data.toList ++ Lib.strCells nb := by
     rw [Lib.strCells_eq, ← Lib.byteCells_append, ByteArray.data_append, Array.toList_append]
    rw [e]
    exact .inr hB3
   ·have e : k = l0.length := by omega
    have c1 : decide ((k : Int) < (l0.length : Int)) = false := decide_eq_false (by omega)
    have e9 : l0.take k = l0 := by rw [e, List.take_length]
    rw [e9] at HI hfs
    go_wp2_with fail
    refine (qd6 w.heap.size w.heap.size _ _ HI.out HB.out.size).mono ?_
    rintro e w2 ⟨rfl, hb2⟩
    go_wp2_with fail
    refine (qco.calls _ _ _ (show qco.f _ = some (sumOf32 (bytesOf (pairsFrom ByteArray.empty l0))) from ?_)).mono ?_
    ·unfold qco.f
     rw [if_pos (by show (pairsFrom ByteArray.empty l0).size ≤ _; omega)]
    rintro e w3 ⟨rfl, hb3⟩
    go_wp2_with fail
    go_ret
    exact ⟨rfl, qak (HB.out.trans hb2) hb3⟩
 ·rw [if_neg hs] at h
  cases h
end Go.Proofs.Ytgcncphdjabjjaa.X
