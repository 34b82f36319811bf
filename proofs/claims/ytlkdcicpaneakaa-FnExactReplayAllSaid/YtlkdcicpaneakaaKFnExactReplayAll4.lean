import Derived.Test.YtlkdcicpaneakaaKFnExactReplayAll2
import Derived.Test.YtlkdcicpaneakaaKFnExactReplayAll3
import Derived.LoopTactic
import Derived.BigQuiet
namespace Go.Proofs.Ytlkdcicpaneakaa.X
open Go.RowKit Go.Proofs.YtlkdcicpaneakaaW.PrintWords Go.Proofs.YtlkdcicpaneakaaW.PrintLast Go.Proofs.YtlkdcicpaneakaaW.PrintMore
attribute [local go_sem] qaA qaB qaC qaw qax qaH qaI qap qaq qay qaz
set_option linter.unusedVariables false
set_option linter.unusedSimpArgs false
mutual
def qaJ.j0 : Nat → ByteArray → Bool → Option (Bool)
 | 0, _, _ => none
 | k + 1, x0, x12 => if x12 = true then (some false) else (qaJ.l0 k x0 (x0.size : Int) 0)
def qaJ.l0 : Nat → ByteArray → Int → Int → Option (Bool)
 | 0, _, _, _ => none
 | k + 1, x0, x14, x15 => if x15 < x14 then (if 0 ≤ x15 then (if x15 < (x0.size : Int) then ((qcj.f (bt x0 x15)).bind fun t391 => (if t391 = true then (qaJ.l0 k x0 x14 (wrap64 (x15 + 1))) else ((qbM.f (bt x0 x15)).bind fun t392 => (if t392 = true then (qaJ.l0 k x0 x14 (wrap64 (x15 + 1))) else (some false))))) else (none)) else (none)) else (some true)
end
def qaJ.f (k : Nat) (a0 : ByteArray) : Option (Bool) := (qbf.f (a0.size : Int) 1 40).bind fun t389 => (if t389 = true then (if 0 < (a0.size : Int) then ((qbM.f (bt a0 0)).bind fun t390 => (qaJ.j0 k a0 t390)) else (none)) else (qaJ.j0 k a0 true))
theorem qaJ.qbA : ∀ k, (∀ y0 y1, LeO (qaJ.j0 k y0 y1) (qaJ.j0 (k + 1) y0 y1)) ∧ (∀ y0 y1 y2, LeO (qaJ.l0 k y0 y1 y2) (qaJ.l0 (k + 1) y0 y1 y2))
 | 0 => ⟨fun _ _ r h => by simp [qaJ.j0] at h, fun _ _ _ r h => by simp [qaJ.l0] at h⟩
 | k + 1 => by
  obtain ⟨ih0, ih1⟩ := qaJ.qbA k
  refine ⟨?_, ?_⟩
  ·intro y0 y1
   unfold qaJ.j0
   repeat' first
   | (with_reducible exact ih0 _ _)
   | (with_reducible exact ih1 _ _ _)
   | (with_reducible exact LeO.refl _)
   | (with_reducible exact LeO.none _)
   | (with_reducible refine LeO.ite ?_ ?_)
   | (with_reducible refine LeO.bind ?_ (fun _ => ?_))
   | exact ih0 _ _
   | exact ih1 _ _ _
   | exact LeO.none _
   | refine LeO.ite ?_ ?_
   | refine LeO.bind ?_ (fun _ => ?_)
  ·intro y0 y1 y2
   unfold qaJ.l0
   repeat' first
   | (with_reducible exact ih0 _ _)
   | (with_reducible exact ih1 _ _ _)
   | (with_reducible exact LeO.refl _)
   | (with_reducible exact LeO.none _)
   | (with_reducible refine LeO.ite ?_ ?_)
   | (with_reducible refine LeO.bind ?_ (fun _ => ?_))
   | exact ih0 _ _
   | exact ih1 _ _ _
   | exact LeO.none _
   | refine LeO.ite ?_ ?_
   | refine LeO.bind ?_ (fun _ => ?_)
theorem qaJ.mono : ∀ a0 k, LeO (qaJ.f k a0) (qaJ.f (k + 1) a0) := by
 intro a0 k
 obtain ⟨ih0, ih1⟩ := qaJ.qbA k
 unfold qaJ.f
 repeat' first
   | (with_reducible exact ih0 _ _)
   | (with_reducible exact ih1 _ _ _)
   | (with_reducible exact LeO.refl _)
   | (with_reducible exact LeO.none _)
   | (with_reducible refine LeO.ite ?_ ?_)
   | (with_reducible refine LeO.bind ?_ (fun _ => ?_))
   | exact ih0 _ _
   | exact ih1 _ _ _
   | exact LeO.none _
   | refine LeO.ite ?_ ?_
   | refine LeO.bind ?_ (fun _ => ?_)
set_option maxHeartbeats 8000000 in
set_option maxRecDepth 100000 in
theorem qaJ.calls (k : Nat) (a0 : ByteArray) (r : Bool) (w : World) (h : qaJ.f k a0 = some r) :
  Calls Try.prog 64 #[.string a0] w fun e w' => e = .returned (.bool r) ∧ qaF w w' := by
 have H : ((qbf.f (a0.size : Int) 1 40).bind fun t389 => (if t389 = true then (if 0 < (a0.size : Int) then ((qbM.f (bt a0 0)).bind fun t390 => (qaJ.j0 k a0 t390)) else (none)) else (qaJ.j0 k a0 true))) = some r := h
 clear h
 have HC2 := Aside0.mk H
 clear H
 go_enter Try.func64, Try.ntmps64
 go_upto_region 1 with (fail)
 go_cut [12] (fun v12 wc => ∃ (kq : Nat) (x12_1 : Bool), v12 = .bool x12_1 ∧ Aside0 (qaJ.j0 kq a0 x12_1 = some r) ∧ Aside0 (kq ≤ k) ∧ qaF w wc)
 case first =>
  have H := HC2.out
  clear HC2
  replace H := Option.bind_eq_some_iff.mp H
  obtain ⟨t389, A30, H⟩ := H
  try dsimp only at H
  have A3 := Aside0.mk A30
  clear A30
  by_cases c4 : t389 = true
  ·subst c4
   have H1 : (if 0 < (a0.size : Int) then ((qbM.f (bt a0 0)).bind fun t390 => (qaJ.j0 k a0 t390)) else (none)) = some r := by rw [if_pos rfl] at H; exact H
   clear H
   have H := H1
   clear H1
   by_cases c5 : 0 < (a0.size : Int)
   ·rw [if_pos c5] at H
    have c5b0 : decide (0 < (a0.size : Int)) = true := decide_eq_true c5
    have c5b1 : decide (0 < a0.size) = true := decide_eq_true (by omega)
    clear c5
    (first | rw [c5b0] | (simp only [qbe, qbo]; rw [c5b0]) | skip)
    replace H := Option.bind_eq_some_iff.mp H
    obtain ⟨t390, A70, H⟩ := H
    try dsimp only at H
    have A7 := Aside0.mk A70
    clear A70
    have H' := Aside0.mk H
    clear H
    go_wp2_with (first | ((with_reducible refine qaE (f := 38) rfl ?_); refine qbn (some 6) rfl rfl Try.func38 (by kernel_rfl) rfl #[.int .i64 (a0.size : Int), .int .i64 1, .int .i64 40] rfl (by (try simp only [List.map_toArray, List.map_cons, List.map_nil]); first | done | rfl | (simp only [List.length_drop, List.length_take]; rfl)) ?_; (with_reducible refine (qbf.calls (a0.size : Int) 1 40 true _ A3.out).mono ?_); rintro e w' ⟨rfl, ⟨nd, rfl⟩⟩; refine ⟨_, rfl, ?_⟩; have p6 : 0 ≤ (0 : Int) := (by omega); have q6 : 0 < a0.size := (by have : (0 : Int) < (a0.size : Int) := of_decide_eq_true (by first | (with_reducible assumption) | assumption); omega); have hx6 : ∀ h : 0 < a0.size, ((a0[0]'h).toNat : Int) = bt a0 0 := qeK a0 0; clear p6; have qi6 : (0 < (a0.size : Int)) = True := eq_true (of_decide_eq_true (by first | (with_reducible assumption) | assumption)); replace q6 := eq_true q6) | (go_at_call 75; (with_reducible refine (qbM.calls (bt a0 0) t390 _ A7.out).mono ?_); rintro e w' ⟨rfl, ⟨nd, rfl⟩⟩))
    go_meet
    case rel => exact ⟨_, (t390), (by first | rfl | (simp; done) | (simp [*]; done)), H', ⟨by first | omega | exact Nat.le_refl _⟩, by repeat (first | exact qaF.refl _ | apply qaF.step)⟩
   ·rw [if_neg c5] at H
    exact absurd H (by simp)
  ·replace c4 := Bool.eq_false_iff.mpr c4
   subst c4
   have H1 : (qaJ.j0 k a0 true) = some r := by rw [if_neg (show ¬ (false = true) by decide)] at H; exact H
   clear H
   have H := H1
   clear H1
   have H' := Aside0.mk H
   clear H
   go_wp2_with (first | ((with_reducible refine qaE (f := 38) rfl ?_); refine qbn (some 6) rfl rfl Try.func38 (by kernel_rfl) rfl #[.int .i64 (a0.size : Int), .int .i64 1, .int .i64 40] rfl (by (try simp only [List.map_toArray, List.map_cons, List.map_nil]); first | done | rfl | (simp only [List.length_drop, List.length_take]; rfl)) ?_; (with_reducible refine (qbf.calls (a0.size : Int) 1 40 false _ A3.out).mono ?_); rintro e w' ⟨rfl, ⟨nd, rfl⟩⟩; refine ⟨_, rfl, ?_⟩))
   go_meet
   case rel => exact ⟨_, (true), (by first | rfl | (simp; done) | (simp [*]; done)), H', ⟨by first | omega | exact Nat.le_refl _⟩, by repeat (first | exact qaF.refl _ | apply qaF.step)⟩
 case rest =>
  clear HC2
  try clear p2
  try clear c3
  try clear c4
  try clear c5
  try clear c5b0
  try clear c5b1
  try clear c6
  try clear p6
  try clear q6
  try clear hx6
  try clear qi6
  try clear p6
  try clear q6
  obtain ⟨kq, x12_1, rfl, HA, HJ1, ⟨mc1, rfl⟩⟩ := hcut
  cases kq with
  | zero => exact absurd HA.out (by simp [qaJ.j0])
  | succ kj1 =>
   have H := HA.out
   clear HA
   simp only [qaJ.j0] at H
   by_cases c8 : x12_1 = true
   ·subst c8
    have H1 : (some false) = some r := by rw [if_pos rfl] at H; exact H
    clear H
    have H := H1
    clear H1
    obtain rfl := Option.some.inj H
    go_wp2
    go_ret
    exact ⟨by first | rfl | (simp; done) | (simp [*]; done), by repeat (first | exact qaF.refl _ | apply qaF.step)⟩
   ·replace c8 := Bool.eq_false_iff.mpr c8
    subst c8
    have H1 : (qaJ.l0 kj1 a0 (a0.size : Int) 0) = some r := by rw [if_neg (show ¬ (false = true) by decide)] at H; exact H
    clear H
    have H := H1
    clear H1
    have H' := Aside0.mk H
    clear H
    go_wp2
    go_loopg [15] kj1 (fun kq v15 w' => ∃ (x15_2 : Int), v15 = .int .i64 x15_2 ∧ Aside0 (qaJ.l0 kq a0 (a0.size : Int) x15_2 = some r) ∧ Aside0 (kq ≤ kj1) ∧ qaF w w')
    case atStart => exact ⟨(0), (by first | rfl | (simp; done) | (simp [*]; done)), H', ⟨Nat.le_refl _⟩, by repeat (first | exact qaF.refl _ | apply qaF.step)⟩
    case round =>
     clear H'
     try clear c1
     try clear p2
     try clear c3
     try clear c4
     try clear c5
     try clear c5b0
     try clear c5b1
     try clear c6
     try clear p6
     try clear q6
     try clear hx6
     try clear qi6
     try clear c8
     try clear p2
     try clear p6
     try clear q6
     obtain ⟨x15_2, rfl, HA, HK2, ⟨m2, rfl⟩⟩ := hrel
     cases gk with
     | zero => exact absurd HA.out (by simp [qaJ.l0])
     | succ k2 =>
      have H := HA.out
      clear HA
      simp only [qaJ.l0] at H
      by_cases c9 : x15_2 < (a0.size : Int)
      ·rw [if_pos c9] at H
       have c9b0 : decide (x15_2 < (a0.size : Int)) = true := decide_eq_true c9
       clear c9
       by_cases c10 : 0 ≤ x15_2
       ·rw [if_pos c10] at H
        have c10b0 : decide (0 ≤ x15_2) = true := decide_eq_true c10
        clear c10
        by_cases c11 : x15_2 < (a0.size : Int)
        ·rw [if_pos c11] at H
         have c11b0 : decide (x15_2 < (a0.size : Int)) = true := decide_eq_true c11
         clear c11
         replace H := Option.bind_eq_some_iff.mp H
         obtain ⟨t391, A130, H⟩ := H
         try dsimp only at H
         have A13 := Aside0.mk A130
         clear A130
         by_cases c14 : t391 = true
         ·subst c14
          have H1 : (qaJ.l0 k2 a0 (a0.size : Int) (wrap64 (x15_2 + 1))) = some r := by rw [if_pos rfl] at H; exact H
          clear H
          have H := H1
          clear H1
          have H' := Aside0.mk H
          clear H
          have p12 : 0 ≤ (x15_2 : Int) := of_decide_eq_true (by first | (with_reducible assumption) | assumption)
          have q12 : x15_2 < (a0.size : Int) := of_decide_eq_true (by first | (with_reducible assumption) | assumption)
          have hx12 := qeK a0 x15_2
          replace p12 := eq_true p12
          replace q12 := eq_true q12
          go_wp2_with (first | ((with_reducible refine qaE (f := 76) rfl ?_); refine qbn (some 21) rfl rfl Try.func76 (by kernel_rfl) rfl #[.int .u8 (bt a0 x15_2)] rfl (by (try simp only [List.map_toArray, List.map_cons, List.map_nil]); first | done | rfl | (simp only [List.length_drop, List.length_take]; rfl)) ?_; (with_reducible refine (qcj.calls (bt a0 x15_2) true _ A13.out).mono ?_); rintro e w' ⟨rfl, ⟨nd, rfl⟩⟩; refine ⟨_, rfl, ?_⟩))
          go_roundg k2
          case measure => have := HJ1.out; have := HK2.out; omega
          case rel => exact ⟨(wrap64 (x15_2 + 1)), (by first | rfl | (simp; done) | (simp [*]; done)), H', ⟨by have := HJ1.out; have := HK2.out; omega⟩, by repeat (first | exact qaF.refl _ | apply qaF.step)⟩
         ·replace c14 := Bool.eq_false_iff.mpr c14
          subst c14
          have H1 : ((qbM.f (bt a0 x15_2)).bind fun t392 => (if t392 = true then (qaJ.l0 k2 a0 (a0.size : Int) (wrap64 (x15_2 + 1))) else (some false))) = some r := by rw [if_neg (show ¬ (false = true) by decide)] at H; exact H
          clear H
          have H := H1
          clear H1
          replace H := Option.bind_eq_some_iff.mp H
          obtain ⟨t392, A160, H⟩ := H
          try dsimp only at H
          have A16 := Aside0.mk A160
          clear A160
          by_cases c17 : t392 = true
          ·subst c17
           have H1 : (qaJ.l0 k2 a0 (a0.size : Int) (wrap64 (x15_2 + 1))) = some r := by rw [if_pos rfl] at H; exact H
           clear H
           have H := H1
           clear H1
           have H' := Aside0.mk H
           clear H
           have p12 : 0 ≤ (x15_2 : Int) := of_decide_eq_true (by first | (with_reducible assumption) | assumption)
           have q12 : x15_2 < (a0.size : Int) := of_decide_eq_true (by first | (with_reducible assumption) | assumption)
           have hx12 := qeK a0 x15_2
           replace p12 := eq_true p12
           replace q12 := eq_true q12
           go_wp2_with (first | ((with_reducible refine qaE (f := 76) rfl ?_); refine qbn (some 21) rfl rfl Try.func76 (by kernel_rfl) rfl #[.int .u8 (bt a0 x15_2)] rfl (by (try simp only [List.map_toArray, List.map_cons, List.map_nil]); first | done | rfl | (simp only [List.length_drop, List.length_take]; rfl)) ?_; (with_reducible refine (qcj.calls (bt a0 x15_2) false _ A13.out).mono ?_); rintro e w' ⟨rfl, ⟨nd, rfl⟩⟩; refine ⟨_, rfl, ?_⟩; have p15 : 0 ≤ (x15_2 : Int) := of_decide_eq_true (by first | (with_reducible assumption) | assumption); have q15 : x15_2 < (a0.size : Int) := of_decide_eq_true (by first | (with_reducible assumption) | assumption); have hx15 := qeK a0 x15_2; replace p15 := eq_true p15; replace q15 := eq_true q15) | (go_at_call 75; (with_reducible refine (qbM.calls (bt a0 x15_2) true _ A16.out).mono ?_); rintro e w' ⟨rfl, ⟨nd, rfl⟩⟩))
           go_roundg k2
           case measure => have := HJ1.out; have := HK2.out; omega
           case rel => exact ⟨(wrap64 (x15_2 + 1)), (by first | rfl | (simp; done) | (simp [*]; done)), H', ⟨by have := HJ1.out; have := HK2.out; omega⟩, by repeat (first | exact qaF.refl _ | apply qaF.step)⟩
          ·replace c17 := Bool.eq_false_iff.mpr c17
           subst c17
           have H1 : (some false) = some r := by rw [if_neg (show ¬ (false = true) by decide)] at H; exact H
           clear H
           have H := H1
           clear H1
           obtain rfl := Option.some.inj H
           have p12 : 0 ≤ (x15_2 : Int) := of_decide_eq_true (by first | (with_reducible assumption) | assumption)
           have q12 : x15_2 < (a0.size : Int) := of_decide_eq_true (by first | (with_reducible assumption) | assumption)
           have hx12 := qeK a0 x15_2
           replace p12 := eq_true p12
           replace q12 := eq_true q12
           go_wp2_with (first | ((with_reducible refine qaE (f := 76) rfl ?_); refine qbn (some 21) rfl rfl Try.func76 (by kernel_rfl) rfl #[.int .u8 (bt a0 x15_2)] rfl (by (try simp only [List.map_toArray, List.map_cons, List.map_nil]); first | done | rfl | (simp only [List.length_drop, List.length_take]; rfl)) ?_; (with_reducible refine (qcj.calls (bt a0 x15_2) false _ A13.out).mono ?_); rintro e w' ⟨rfl, ⟨nd, rfl⟩⟩; refine ⟨_, rfl, ?_⟩; have p15 : 0 ≤ (x15_2 : Int) := of_decide_eq_true (by first | (with_reducible assumption) | assumption); have q15 : x15_2 < (a0.size : Int) := of_decide_eq_true (by first | (with_reducible assumption) | assumption); have hx15 := qeK a0 x15_2; replace p15 := eq_true p15; replace q15 := eq_true q15) | (go_at_call 75; (with_reducible refine (qbM.calls (bt a0 x15_2) false _ A16.out).mono ?_); rintro e w' ⟨rfl, ⟨nd, rfl⟩⟩))
           go_ret
           exact ⟨by first | rfl | (simp; done) | (simp [*]; done), by repeat (first | exact qaF.refl _ | apply qaF.step)⟩
        ·rw [if_neg c11] at H
         exact absurd H (by simp)
       ·rw [if_neg c10] at H
        exact absurd H (by simp)
      ·rw [if_neg c9] at H
       have c9b0 : decide (x15_2 < (a0.size : Int)) = false := decide_eq_false c9
       clear c9
       obtain rfl := Option.some.inj H
       go_wp2
       go_ret
       exact ⟨by first | rfl | (simp; done) | (simp [*]; done), by repeat (first | exact qaF.refl _ | apply qaF.step)⟩
end Go.Proofs.Ytlkdcicpaneakaa.X
namespace Go.Proofs.Ytlkdcicpaneakaa.X
open Go.RowKit Go.Proofs.YtlkdcicpaneakaaW.PrintWords Go.Proofs.YtlkdcicpaneakaaW.PrintLast Go.Proofs.YtlkdcicpaneakaaW.PrintMore
attribute [local go_sem] qaA qaB qaC qaw qax qaH qaI qap qaq qay qaz
set_option linter.unusedVariables false
set_option linter.unusedSimpArgs false
def qcc.f (a0 : Int) : Option (Bool) := if a0 ≥ 48 then (some (decide (a0 ≤ 57))) else (some false)
set_option maxHeartbeats 8000000 in
set_option maxRecDepth 100000 in
theorem qcc.calls (a0 : Int) (r : Bool) (w : World) (h : qcc.f a0 = some r) :
  Calls Try.prog 74 #[.int .u8 a0] w fun e w' => e = .returned (.bool r) ∧ qaF w w' := by
 have H : (if a0 ≥ 48 then (some (decide (a0 ≤ 57))) else (some false)) = some r := h
 clear h
 by_cases c2 : a0 ≥ 48
 ·rw [if_pos c2] at H
  have c2b0 : decide (48 ≤ a0) = true := decide_eq_true c2
  clear c2
  obtain rfl := Option.some.inj H
  go_enter Try.func74, Try.ntmps74
  go_wp2
  go_ret
  exact ⟨by first | rfl | (simp; done) | (simp [*]; done), by repeat (first | exact qaF.refl _ | apply qaF.step)⟩
 ·rw [if_neg c2] at H
  have c2b0 : decide (48 ≤ a0) = false := decide_eq_false c2
  clear c2
  obtain rfl := Option.some.inj H
  go_enter Try.func74, Try.ntmps74
  go_wp2
  go_ret
  exact ⟨by first | rfl | (simp; done) | (simp [*]; done), by repeat (first | exact qaF.refl _ | apply qaF.step)⟩
mutual
def qaL.j0 : Nat → ByteArray → Bool → Option (Bool)
 | 0, _, _ => none
 | k + 1, x0, x17 => if x17 = true then (some false) else (qaL.l0 k x0 1)
def qaL.l0 : Nat → ByteArray → Int → Option (Bool)
 | 0, _, _ => none
 | k + 1, x0, x3 => if x3 < (x0.size : Int) then (if 0 ≤ x3 then ((qbO.f (bt x0 x3)).bind fun t109 => (if t109 = true then (qaL.l0 k x0 (wrap64 (x3 + 1))) else ((qcc.f (bt x0 x3)).bind fun t110 => (if t110 = true then (qaL.l0 k x0 (wrap64 (x3 + 1))) else (some false))))) else (none)) else (some true)
end
def qaL.f (k : Nat) (a0 : ByteArray) : Option (Bool) := if (a0.size : Int) < 1 then (qaL.j0 k a0 true) else (if (a0.size : Int) > 40 then (qaL.j0 k a0 true) else (if 0 < (a0.size : Int) then ((qbO.f (bt a0 0)).bind fun t108 => (qaL.j0 k a0 (!t108))) else (none)))
theorem qaL.qbA : ∀ k, (∀ y0 y1, LeO (qaL.j0 k y0 y1) (qaL.j0 (k + 1) y0 y1)) ∧ (∀ y0 y1, LeO (qaL.l0 k y0 y1) (qaL.l0 (k + 1) y0 y1))
 | 0 => ⟨fun _ _ r h => by simp [qaL.j0] at h, fun _ _ r h => by simp [qaL.l0] at h⟩
 | k + 1 => by
  obtain ⟨ih0, ih1⟩ := qaL.qbA k
  refine ⟨?_, ?_⟩
  ·intro y0 y1
   unfold qaL.j0
   repeat' first
   | (with_reducible exact ih0 _ _)
   | (with_reducible exact ih1 _ _)
   | (with_reducible exact LeO.refl _)
   | (with_reducible exact LeO.none _)
   | (with_reducible refine LeO.ite ?_ ?_)
   | (with_reducible refine LeO.bind ?_ (fun _ => ?_))
   | exact ih0 _ _
   | exact ih1 _ _
   | exact LeO.none _
   | refine LeO.ite ?_ ?_
   | refine LeO.bind ?_ (fun _ => ?_)
  ·intro y0 y1
   unfold qaL.l0
   repeat' first
   | (with_reducible exact ih0 _ _)
   | (with_reducible exact ih1 _ _)
   | (with_reducible exact LeO.refl _)
   | (with_reducible exact LeO.none _)
   | (with_reducible refine LeO.ite ?_ ?_)
   | (with_reducible refine LeO.bind ?_ (fun _ => ?_))
   | exact ih0 _ _
   | exact ih1 _ _
   | exact LeO.none _
   | refine LeO.ite ?_ ?_
   | refine LeO.bind ?_ (fun _ => ?_)
set_option maxHeartbeats 8000000 in
set_option maxRecDepth 100000 in
theorem qaL.calls (k : Nat) (a0 : ByteArray) (r : Bool) (w : World) (h : qaL.f k a0 = some r) :
  Calls Try.prog 62 #[.string a0] w fun e w' => e = .returned (.bool r) ∧ qaF w w' := by
 have H : (if (a0.size : Int) < 1 then (qaL.j0 k a0 true) else (if (a0.size : Int) > 40 then (qaL.j0 k a0 true) else (if 0 < (a0.size : Int) then ((qbO.f (bt a0 0)).bind fun t108 => (qaL.j0 k a0 (!t108))) else (none)))) = some r := h
 clear h
 have HC2 := Aside0.mk H
 clear H
 go_enter Try.func62, Try.ntmps62
 go_upto_region 1 with (fail)
 go_cut [17] (fun v17 wc => ∃ (kq : Nat) (x17_1 : Bool), v17 = .bool x17_1 ∧ Aside0 (qaL.j0 kq a0 x17_1 = some r) ∧ Aside0 (kq ≤ k) ∧ qaF w wc)
 case first =>
  have H := HC2.out
  clear HC2
  by_cases c3 : (a0.size : Int) < 1
  ·rw [if_pos c3] at H
   have c3b0 : decide ((a0.size : Int) < 1) = true := decide_eq_true c3
   have c3b1 : decide (a0.size < 1) = true := decide_eq_true (by omega)
   clear c3
   (first | rw [c3b0] | (simp only [qbe, qbo]; rw [c3b0]) | skip)
   have H' := Aside0.mk H
   clear H
   go_wp2
   go_meet
   case rel => exact ⟨_, (true), (by first | rfl | (simp; done) | (simp [*]; done)), H', ⟨by first | omega | exact Nat.le_refl _⟩, by repeat (first | exact qaF.refl _ | apply qaF.step)⟩
  ·rw [if_neg c3] at H
   have c3b0 : decide ((a0.size : Int) < 1) = false := decide_eq_false c3
   have c3b1 : decide (a0.size < 1) = false := decide_eq_false (by omega)
   clear c3
   (first | rw [c3b0] | (simp only [qbe, qbo]; rw [c3b0]) | skip)
   by_cases c4 : (a0.size : Int) > 40
   ·rw [if_pos c4] at H
    have c4b0 : decide (40 < (a0.size : Int)) = true := decide_eq_true c4
    have c4b1 : decide (40 < a0.size) = true := decide_eq_true (by omega)
    clear c4
    have H' := Aside0.mk H
    clear H
    go_wp2
    go_meet
    case rel => exact ⟨_, (true), (by first | rfl | (simp; done) | (simp [*]; done)), H', ⟨by first | omega | exact Nat.le_refl _⟩, by repeat (first | exact qaF.refl _ | apply qaF.step)⟩
   ·rw [if_neg c4] at H
    have c4b0 : decide (40 < (a0.size : Int)) = false := decide_eq_false c4
    have c4b1 : decide (40 < a0.size) = false := decide_eq_false (by omega)
    clear c4
    by_cases c5 : 0 < (a0.size : Int)
    ·rw [if_pos c5] at H
     have c5b0 : decide (0 < (a0.size : Int)) = true := decide_eq_true c5
     have c5b1 : decide (0 < a0.size) = true := decide_eq_true (by omega)
     clear c5
     replace H := Option.bind_eq_some_iff.mp H
     obtain ⟨t108, A70, H⟩ := H
     try dsimp only at H
     have A7 := Aside0.mk A70
     clear A70
     have H' := Aside0.mk H
     clear H
     have p6 : 0 ≤ (0 : Int) := (by omega)
     have q6 : 0 < a0.size := (by have : (0 : Int) < (a0.size : Int) := of_decide_eq_true (by first | (with_reducible assumption) | assumption); omega)
     have hx6 : ∀ h : 0 < a0.size, ((a0[0]'h).toNat : Int) = bt a0 0 := qeK a0 0
     clear p6
     have qi6 : (0 < (a0.size : Int)) = True := eq_true (of_decide_eq_true (by first | (with_reducible assumption) | assumption))
     replace q6 := eq_true q6
     go_wp2_with (first | (go_at_call 73; (with_reducible refine (qbO.calls (bt a0 0) t108 _ A7.out).mono ?_); rintro e w' ⟨rfl, ⟨nd, rfl⟩⟩))
     go_meet
     case rel => exact ⟨_, (!t108), (by first | rfl | (simp; done) | (simp [*]; done)), H', ⟨by first | omega | exact Nat.le_refl _⟩, by repeat (first | exact qaF.refl _ | apply qaF.step)⟩
    ·rw [if_neg c5] at H
     exact absurd H (by simp)
 case rest =>
  clear HC2
  try clear p2
  try clear c3
  try clear c3b0
  try clear c3b1
  try clear c4
  try clear c4b0
  try clear c4b1
  try clear c5
  try clear c5b0
  try clear c5b1
  try clear c6
  try clear p6
  try clear q6
  try clear hx6
  try clear qi6
  try clear p6
  try clear q6
  obtain ⟨kq, x17_1, rfl, HA, HJ1, ⟨mc1, rfl⟩⟩ := hcut
  cases kq with
  | zero => exact absurd HA.out (by simp [qaL.j0])
  | succ kj1 =>
   have H := HA.out
   clear HA
   simp only [qaL.j0] at H
   by_cases c8 : x17_1 = true
   ·subst c8
    have H1 : (some false) = some r := by rw [if_pos rfl] at H; exact H
    clear H
    have H := H1
    clear H1
    obtain rfl := Option.some.inj H
    go_wp2
    go_ret
    exact ⟨by first | rfl | (simp; done) | (simp [*]; done), by repeat (first | exact qaF.refl _ | apply qaF.step)⟩
   ·replace c8 := Bool.eq_false_iff.mpr c8
    subst c8
    have H1 : (qaL.l0 kj1 a0 1) = some r := by rw [if_neg (show ¬ (false = true) by decide)] at H; exact H
    clear H
    have H := H1
    clear H1
    have H' := Aside0.mk H
    clear H
    go_wp2
    go_loopg [3] kj1 (fun kq v3 w' => ∃ (x3_2 : Int), v3 = .int .i64 x3_2 ∧ Aside0 (qaL.l0 kq a0 x3_2 = some r) ∧ Aside0 (kq ≤ kj1) ∧ qaF w w')
    case atStart => exact ⟨(1), (by first | rfl | (simp; done) | (simp [*]; done)), H', ⟨Nat.le_refl _⟩, by repeat (first | exact qaF.refl _ | apply qaF.step)⟩
    case round =>
     clear H'
     try clear c1
     try clear p2
     try clear c3
     try clear c3b0
     try clear c3b1
     try clear c4
     try clear c4b0
     try clear c4b1
     try clear c5
     try clear c5b0
     try clear c5b1
     try clear c6
     try clear p6
     try clear q6
     try clear hx6
     try clear qi6
     try clear c8
     try clear p2
     try clear p6
     try clear q6
     obtain ⟨x3_2, rfl, HA, HK2, ⟨m2, rfl⟩⟩ := hrel
     cases gk with
     | zero => exact absurd HA.out (by simp [qaL.l0])
     | succ k2 =>
      have H := HA.out
      clear HA
      simp only [qaL.l0] at H
      by_cases c9 : x3_2 < (a0.size : Int)
      ·rw [if_pos c9] at H
       have c9b0 : decide (x3_2 < (a0.size : Int)) = true := decide_eq_true c9
       clear c9
       by_cases c10 : 0 ≤ x3_2
       ·rw [if_pos c10] at H
        have c10b0 : decide (0 ≤ x3_2) = true := decide_eq_true c10
        clear c10
        replace H := Option.bind_eq_some_iff.mp H
        obtain ⟨t109, A120, H⟩ := H
        try dsimp only at H
        have A12 := Aside0.mk A120
        clear A120
        by_cases c13 : t109 = true
        ·subst c13
         have H1 : (qaL.l0 k2 a0 (wrap64 (x3_2 + 1))) = some r := by rw [if_pos rfl] at H; exact H
         clear H
         have H := H1
         clear H1
         have H' := Aside0.mk H
         clear H
         have p11 : 0 ≤ (x3_2 : Int) := of_decide_eq_true (by first | (with_reducible assumption) | assumption)
         have q11 : x3_2 < (a0.size : Int) := of_decide_eq_true (by first | (with_reducible assumption) | assumption)
         have hx11 := qeK a0 x3_2
         replace p11 := eq_true p11
         replace q11 := eq_true q11
         go_wp2_with (first | ((with_reducible refine qaE (f := 73) rfl ?_); refine qbn (some 27) rfl rfl Try.func73 (by kernel_rfl) rfl #[.int .u8 (bt a0 x3_2)] rfl (by (try simp only [List.map_toArray, List.map_cons, List.map_nil]); first | done | rfl | (simp only [List.length_drop, List.length_take]; rfl)) ?_; (with_reducible refine (qbO.calls (bt a0 x3_2) true _ A12.out).mono ?_); rintro e w' ⟨rfl, ⟨nd, rfl⟩⟩; refine ⟨_, rfl, ?_⟩))
         go_roundg k2
         case measure => have := HJ1.out; have := HK2.out; omega
         case rel => exact ⟨(wrap64 (x3_2 + 1)), (by first | rfl | (simp; done) | (simp [*]; done)), H', ⟨by have := HJ1.out; have := HK2.out; omega⟩, by repeat (first | exact qaF.refl _ | apply qaF.step)⟩
        ·replace c13 := Bool.eq_false_iff.mpr c13
         subst c13
         have H1 : ((qcc.f (bt a0 x3_2)).bind fun t110 => (if t110 = true then (qaL.l0 k2 a0 (wrap64 (x3_2 + 1))) else (some false))) = some r := by rw [if_neg (show ¬ (false = true) by decide)] at H; exact H
         clear H
         have H := H1
         clear H1
         replace H := Option.bind_eq_some_iff.mp H
         obtain ⟨t110, A150, H⟩ := H
         try dsimp only at H
         have A15 := Aside0.mk A150
         clear A150
         by_cases c16 : t110 = true
         ·subst c16
          have H1 : (qaL.l0 k2 a0 (wrap64 (x3_2 + 1))) = some r := by rw [if_pos rfl] at H; exact H
          clear H
          have H := H1
          clear H1
          have H' := Aside0.mk H
          clear H
          have p11 : 0 ≤ (x3_2 : Int) := of_decide_eq_true (by first | (with_reducible assumption) | assumption)
          have q11 : x3_2 < (a0.size : Int) := of_decide_eq_true (by first | (with_reducible assumption) | assumption)
          have hx11 := qeK a0 x3_2
          replace p11 := eq_true p11
          replace q11 := eq_true q11
          go_wp2_with (first | ((with_reducible refine qaE (f := 73) rfl ?_); refine qbn (some 27) rfl rfl Try.func73 (by kernel_rfl) rfl #[.int .u8 (bt a0 x3_2)] rfl (by (try simp only [List.map_toArray, List.map_cons, List.map_nil]); first | done | rfl | (simp only [List.length_drop, List.length_take]; rfl)) ?_; (with_reducible refine (qbO.calls (bt a0 x3_2) false _ A12.out).mono ?_); rintro e w' ⟨rfl, ⟨nd, rfl⟩⟩; refine ⟨_, rfl, ?_⟩; have p14 : 0 ≤ (x3_2 : Int) := of_decide_eq_true (by first | (with_reducible assumption) | assumption); have q14 : x3_2 < (a0.size : Int) := of_decide_eq_true (by first | (with_reducible assumption) | assumption); have hx14 := qeK a0 x3_2; replace p14 := eq_true p14; replace q14 := eq_true q14) | (go_at_call 74; (with_reducible refine (qcc.calls (bt a0 x3_2) true _ A15.out).mono ?_); rintro e w' ⟨rfl, ⟨nd, rfl⟩⟩))
          go_roundg k2
          case measure => have := HJ1.out; have := HK2.out; omega
          case rel => exact ⟨(wrap64 (x3_2 + 1)), (by first | rfl | (simp; done) | (simp [*]; done)), H', ⟨by have := HJ1.out; have := HK2.out; omega⟩, by repeat (first | exact qaF.refl _ | apply qaF.step)⟩
         ·replace c16 := Bool.eq_false_iff.mpr c16
          subst c16
          have H1 : (some false) = some r := by rw [if_neg (show ¬ (false = true) by decide)] at H; exact H
          clear H
          have H := H1
          clear H1
          obtain rfl := Option.some.inj H
          have p11 : 0 ≤ (x3_2 : Int) := of_decide_eq_true (by first | (with_reducible assumption) | assumption)
          have q11 : x3_2 < (a0.size : Int) := of_decide_eq_true (by first | (with_reducible assumption) | assumption)
          have hx11 := qeK a0 x3_2
          replace p11 := eq_true p11
          replace q11 := eq_true q11
          go_wp2_with (first | ((with_reducible refine qaE (f := 73) rfl ?_); refine qbn (some 27) rfl rfl Try.func73 (by kernel_rfl) rfl #[.int .u8 (bt a0 x3_2)] rfl (by (try simp only [List.map_toArray, List.map_cons, List.map_nil]); first | done | rfl | (simp only [List.length_drop, List.length_take]; rfl)) ?_; (with_reducible refine (qbO.calls (bt a0 x3_2) false _ A12.out).mono ?_); rintro e w' ⟨rfl, ⟨nd, rfl⟩⟩; refine ⟨_, rfl, ?_⟩; have p14 : 0 ≤ (x3_2 : Int) := of_decide_eq_true (by first | (with_reducible assumption) | assumption); have q14 : x3_2 < (a0.size : Int) := of_decide_eq_true (by first | (with_reducible assumption) | assumption); have hx14 := qeK a0 x3_2; replace p14 := eq_true p14; replace q14 := eq_true q14) | (go_at_call 74; (with_reducible refine (qcc.calls (bt a0 x3_2) false _ A15.out).mono ?_); rintro e w' ⟨rfl, ⟨nd, rfl⟩⟩))
          go_ret
          exact ⟨by first | rfl | (simp; done) | (simp [*]; done), by repeat (first | exact qaF.refl _ | apply qaF.step)⟩
       ·rw [if_neg c10] at H
        exact absurd H (by simp)
      ·rw [if_neg c9] at H
       have c9b0 : decide (x3_2 < (a0.size : Int)) = false := decide_eq_false c9
       clear c9
       obtain rfl := Option.some.inj H
       go_wp2
       go_ret
       exact ⟨by first | rfl | (simp; done) | (simp [*]; done), by repeat (first | exact qaF.refl _ | apply qaF.step)⟩
end Go.Proofs.Ytlkdcicpaneakaa.X
namespace Go.Proofs.Ytlkdcicpaneakaa.X
open Go.RowKit Go.Proofs.YtlkdcicpaneakaaW.PrintWords Go.Proofs.YtlkdcicpaneakaaW.PrintLast Go.Proofs.YtlkdcicpaneakaaW.PrintMore
attribute [local go_sem] qaA qaB qaC qaw qax qaH qaI qap qaq qay qaz
set_option linter.unusedVariables false
set_option linter.unusedSimpArgs false
def qcR.f (k : Nat) (a0 : ByteArray) : Option (Bool) := (qaL.f k a0).bind fun t111 => (some t111)
set_option maxHeartbeats 8000000 in
set_option maxRecDepth 100000 in
theorem qcR.calls (k : Nat) (a0 : ByteArray) (r : Bool) (w : World) (h : qcR.f k a0 = some r) :
  Calls Try.prog 44 #[.string a0] w fun e w' => e = .returned (.bool r) ∧ qaF w w' := by
 have H : ((qaL.f k a0).bind fun t111 => (some t111)) = some r := h
 clear h
 replace H := Option.bind_eq_some_iff.mp H
 obtain ⟨t111, A20, H⟩ := H
 try dsimp only at H
 have A2 := Aside0.mk A20
 clear A20
 obtain rfl := Option.some.inj H
 go_enter Try.func44, Try.ntmps44
 go_wp2_with (first | ((with_reducible refine qaE (f := 62) rfl ?_); refine qbn (some 4) rfl rfl Try.func62 (by kernel_rfl) rfl #[.string a0] rfl (by (try simp only [List.map_toArray, List.map_cons, List.map_nil]); first | done | rfl | (simp only [List.length_drop, List.length_take]; rfl)) ?_; (with_reducible refine (qaL.calls k a0 t111 _ A2.out).mono ?_); rintro e w' ⟨rfl, ⟨nd, rfl⟩⟩; refine ⟨_, rfl, ?_⟩))
 go_ret
 exact ⟨by first | rfl | (simp; done) | (simp [*]; done), by repeat (first | exact qaF.refl _ | apply qaF.step)⟩
def digit (c : Int) : Bool := decide (48 ≤ c ∧ c ≤ 57)
def wordy (s : ByteArray) : Nat → Nat → Bool
 | 0, _ => true
 | d + 1, i => (letter (bt s i) || digit (bt s i)) && wordy s d (i + 1)
def qdX (s : ByteArray) : Bool := decide (1 ≤ s.size ∧ s.size ≤ 40) && (letter (bt s 0) && wordy s (s.size - 1) 1)
theorem qeR {i : Nat} (h : i < 1048576) : wrap64 ((i : Int) + 1) = ((i + 1 : Nat) : Int) := by unfold wrap64; omega
theorem digit1 (c : Int) : qcc.f c = some (digit c) := by
 unfold qcc.f digit
 by_cases h1 : c ≥ 48 <;> by_cases h2 : c ≤ 57 <;> simp [*] <;> omega
theorem qiA (c : Int) : qbM.f c = some (digit c) := by
 unfold qbM.f digit
 by_cases h1 : c ≥ 48 <;> by_cases h2 : c ≤ 57 <;> simp [*] <;> omega
theorem not_both (c : Int) : digit c = true → letter c = false := by
 unfold digit letter
 intro h
 simp at h ⊢
 omega
theorem qiB (s : ByteArray) (hs : s.size ≤ 1048576) (d : Nat) : ∀ i : Nat, i + d = s.size → Ev (fun k => qaL.l0 k s (i : Int)) (wordy s d i) := by
 induction d with
 | zero =>
  intro i hi
  refine Ev.step (f := fun _ => some true) (fun k => ?_) (Ev.now _)
  simp only [qaL.l0]
  rw [if_neg (by omega)]
 | succ d ih =>
  intro i hi
  have hrec := ih (i + 1) (by omega)
  by_cases hl : letter (bt s i) = true
  ·refine Ev.step (f := fun k => qaL.l0 k s ((i + 1 : Nat) : Int)) (fun k => ?_) ?_
   ·simp only [qaL.l0]
    rw [if_pos (by omega), if_pos (by omega), qf2, Option.bind_some, if_pos hl, qeR (by omega)]
   ·simpa [wordy, hl] using hrec
  ·by_cases hd : digit (bt s i) = true
   ·refine Ev.step (f := fun k => qaL.l0 k s ((i + 1 : Nat) : Int)) (fun k => ?_) ?_
    ·simp only [qaL.l0]
     rw [if_pos (by omega), if_pos (by omega), qf2, Option.bind_some, if_neg hl, digit1, Option.bind_some, if_pos hd, qeR (by omega)]
    ·simpa [wordy, hl, hd] using hrec
   ·refine Ev.step (f := fun _ => some false) (fun k => ?_) ?_
    ·simp only [qaL.l0]
     rw [if_pos (by omega), if_pos (by omega), qf2, Option.bind_some, if_neg hl, digit1, Option.bind_some, if_neg hd]
    ·simp [wordy, hl, hd]; exact Ev.now false
theorem qiC (s : ByteArray) (hs : s.size ≤ 1048576) (d : Nat) : ∀ i : Nat, i + d = s.size → Ev (fun k => qaJ.l0 k s ((s.size : Nat) : Int) (i : Int)) (wordy s d i) := by
 induction d with
 | zero =>
  intro i hi
  refine Ev.step (f := fun _ => some true) (fun k => ?_) (Ev.now _)
  simp only [qaJ.l0]
  rw [if_neg (by omega)]
 | succ d ih =>
  intro i hi
  have hrec := ih (i + 1) (by omega)
  by_cases hl : letter (bt s i) = true
  ·refine Ev.step (f := fun k => qaJ.l0 k s ((s.size : Nat) : Int) ((i + 1 : Nat) : Int)) (fun k => ?_) ?_
   ·simp only [qaJ.l0]
    rw [if_pos (by omega), if_pos (by omega), if_pos (by omega), qg4, Option.bind_some, if_pos hl, qeR (by omega)]
   ·simpa [wordy, hl] using hrec
  ·by_cases hd : digit (bt s i) = true
   ·refine Ev.step (f := fun k => qaJ.l0 k s ((s.size : Nat) : Int) ((i + 1 : Nat) : Int)) (fun k => ?_) ?_
    ·simp only [qaJ.l0]
     rw [if_pos (by omega), if_pos (by omega), if_pos (by omega), qg4, Option.bind_some, if_neg hl, qiA, Option.bind_some, if_pos hd, qeR (by omega)]
    ·simpa [wordy, hl, hd] using hrec
   ·refine Ev.step (f := fun _ => some false) (fun k => ?_) ?_
    ·simp only [qaJ.l0]
     rw [if_pos (by omega), if_pos (by omega), if_pos (by omega), qg4, Option.bind_some, if_neg hl, qiA, Option.bind_some, if_neg hd]
    ·simp [wordy, hl, hd]; exact Ev.now false
theorem qiD (s : ByteArray) (b : Bool) (hs : s.size ≤ 1048576) (h1 : 1 ≤ s.size ∨ b = true) : Ev (fun k => qaL.j0 k s b) (!b && wordy s (s.size - 1) 1) := by
 cases b with
 | true =>
  refine Ev.step (f := fun _ => some false) (fun k => ?_) (Ev.now _)
  simp [qaL.j0]
 | false =>
  refine Ev.step (f := fun k => qaL.l0 k s ((1 : Nat) : Int)) (fun k => ?_) ?_
  ·simp [qaL.j0]
  ·simpa using qiB s hs (s.size - 1) 1 (by rcases h1 with h1 | h1 <;> first | omega | cases h1)
theorem qiE (s : ByteArray) (b : Bool) (hs : s.size ≤ 1048576) : Ev (fun k => qaJ.j0 k s b) (!b && wordy s s.size 0) := by
 cases b with
 | true =>
  refine Ev.step (f := fun _ => some false) (fun k => ?_) (Ev.now _)
  simp [qaJ.j0]
 | false =>
  refine Ev.step (f := fun k => qaJ.l0 k s ((s.size : Nat) : Int) ((0 : Nat) : Int)) (fun k => ?_) ?_
  ·simp [qaJ.j0]
  ·simpa using qiC s hs s.size 0 (by omega)
theorem qiF (s : ByteArray) (hs : s.size ≤ 1048576) : Ev (fun k => qcR.f k s) (qdX s) := by
 unfold qcR.f qaL.f
 refine Ev.bind ?_ (Ev.now _)
 by_cases h1 : (s.size : Int) < 1
 ·simp only [if_pos h1]
  have := qiD s true hs (.inr rfl)
  simpa [qdX, show ¬ (1 ≤ s.size) by omega] using this
 simp only [if_neg h1]
 by_cases h2 : (s.size : Int) > 40
 ·simp only [if_pos h2]
  have := qiD s true hs (.inr rfl)
  simpa [qdX, show ¬ (s.size ≤ 40) by omega] using this
 simp only [if_neg h2, if_pos (show 0 < (s.size : Int) by omega), qf2, Option.bind_some]
 have := qiD s (!letter (bt s 0)) hs (.inl (by omega))
 simpa [qdX, show s.size ≤ 40 by omega, show 1 ≤ s.size by omega] using this
theorem qiG (s : ByteArray) (hs : s.size ≤ 1048576) : Ev (fun k => qaJ.f k s) (qdX s) := by
 unfold qaJ.f qbf.f
 by_cases h1 : (s.size : Int) < 1
 ·simp only [if_neg (show ¬ (s.size : Int) ≥ 1 by omega), Option.bind_some, Bool.false_eq_true, if_false]
  have := qiE s true hs
  simpa [qdX, show ¬ (1 ≤ s.size) by omega] using this
 simp only [if_pos (show (s.size : Int) ≥ 1 by omega), Option.bind_some]
 by_cases h2 : (s.size : Int) > 40
 ·simp only [show decide ((s.size : Int) ≤ 40) = false from decide_eq_false (by omega), Bool.false_eq_true, if_false]
  have := qiE s true hs
  simpa [qdX, show ¬ (s.size ≤ 40) by omega] using this
 simp only [show decide ((s.size : Int) ≤ 40) = true from decide_eq_true (by omega), if_true, if_pos (show 0 < (s.size : Int) by omega), qiA, Option.bind_some]
 have h := qiE s (digit (bt s 0)) hs
 have e : (!digit (bt s 0) && wordy s s.size 0) = qdX s := by
  obtain ⟨m, hm⟩ : ∃ m, s.size = m + 1 := ⟨s.size - 1, by omega⟩
  have hz : bt s ((0 : Nat) : Int) = bt s 0 := rfl
  unfold qdX
  rw [hm]
  simp only [wordy, Nat.zero_add, Nat.add_sub_cancel, hz]
  rw [show decide (1 ≤ m + 1 ∧ m + 1 ≤ 40) = true from decide_eq_true (by omega), Bool.true_and]
  cases hd : digit (bt s 0) with
  | true => simp [not_both _ hd]
  | false => simp
 rw [← e]; exact h
def qaS.f (k : Nat) (a0 : ByteArray) : Option (Bool) := if (a0.size : Int) ≤ 8 then ((qaJ.f k a0).bind fun t393 => (some t393)) else (some false)
theorem qaS.mono : ∀ a0 k, LeO (qaS.f k a0) (qaS.f (k + 1) a0) := by
 intro a0 k
 unfold qaS.f
 repeat' first
   | (with_reducible exact qaJ.mono _ _)
   | (with_reducible exact LeO.refl _)
   | (with_reducible exact LeO.none _)
   | (with_reducible refine LeO.ite ?_ ?_)
   | (with_reducible refine LeO.bind ?_ (fun _ => ?_))
   | exact qaJ.mono _ _
   | exact LeO.none _
   | refine LeO.ite ?_ ?_
   | refine LeO.bind ?_ (fun _ => ?_)
set_option maxHeartbeats 8000000 in
set_option maxRecDepth 100000 in
theorem qaS.calls (k : Nat) (a0 : ByteArray) (r : Bool) (w : World) (h : qaS.f k a0 = some r) :
  Calls Try.prog 52 #[.string a0] w fun e w' => e = .returned (.bool r) ∧ qaF w w' := by
 have H : (if (a0.size : Int) ≤ 8 then ((qaJ.f k a0).bind fun t393 => (some t393)) else (some false)) = some r := h
 clear h
 by_cases c2 : (a0.size : Int) ≤ 8
 ·rw [if_pos c2] at H
  have c2b0 : decide ((a0.size : Int) ≤ 8) = true := decide_eq_true c2
  have c2b1 : decide (a0.size ≤ 8) = true := decide_eq_true (by omega)
  clear c2
  replace H := Option.bind_eq_some_iff.mp H
  obtain ⟨t393, A30, H⟩ := H
  try dsimp only at H
  have A3 := Aside0.mk A30
  clear A30
  obtain rfl := Option.some.inj H
  go_enter Try.func52, Try.ntmps52
  go_wp2_with (first | (go_at_call 64; (with_reducible refine (qaJ.calls k a0 t393 _ A3.out).mono ?_); rintro e w' ⟨rfl, ⟨nd, rfl⟩⟩))
  go_ret
  exact ⟨by first | rfl | (simp; done) | (simp [*]; done), by repeat (first | exact qaF.refl _ | apply qaF.step)⟩
 ·rw [if_neg c2] at H
  have c2b0 : decide ((a0.size : Int) ≤ 8) = false := decide_eq_false c2
  have c2b1 : decide (a0.size ≤ 8) = false := decide_eq_false (by omega)
  clear c2
  obtain rfl := Option.some.inj H
  go_enter Try.func52, Try.ntmps52
  go_wp2
  go_ret
  exact ⟨by first | rfl | (simp; done) | (simp [*]; done), by repeat (first | exact qaF.refl _ | apply qaF.step)⟩
def qbY.f (k : Nat) (a0 : ByteArray) : Option (Bool) := if (a0.size : Int) ≤ 8 then ((qcR.f k a0).bind fun t112 => (some t112)) else (some false)
set_option maxHeartbeats 8000000 in
set_option maxRecDepth 100000 in
theorem qbY.calls (k : Nat) (a0 : ByteArray) (r : Bool) (w : World) (h : qbY.f k a0 = some r) :
  Calls Try.prog 27 #[.string a0] w fun e w' => e = .returned (.bool r) ∧ qaF w w' := by
 have H : (if (a0.size : Int) ≤ 8 then ((qcR.f k a0).bind fun t112 => (some t112)) else (some false)) = some r := h
 clear h
 by_cases c2 : (a0.size : Int) ≤ 8
 ·rw [if_pos c2] at H
  have c2b0 : decide ((a0.size : Int) ≤ 8) = true := decide_eq_true c2
  have c2b1 : decide (a0.size ≤ 8) = true := decide_eq_true (by omega)
  clear c2
  replace H := Option.bind_eq_some_iff.mp H
  obtain ⟨t112, A30, H⟩ := H
  try dsimp only at H
  have A3 := Aside0.mk A30
  clear A30
  obtain rfl := Option.some.inj H
  go_enter Try.func27, Try.ntmps27
  go_wp2_with (first | (go_at_call 44; (with_reducible refine (qcR.calls k a0 t112 _ A3.out).mono ?_); rintro e w' ⟨rfl, ⟨nd, rfl⟩⟩))
  go_ret
  exact ⟨by first | rfl | (simp; done) | (simp [*]; done), by repeat (first | exact qaF.refl _ | apply qaF.step)⟩
 ·rw [if_neg c2] at H
  have c2b0 : decide ((a0.size : Int) ≤ 8) = false := decide_eq_false c2
  have c2b1 : decide (a0.size ≤ 8) = false := decide_eq_false (by omega)
  clear c2
  obtain rfl := Option.some.inj H
  go_enter Try.func27, Try.ntmps27
  go_wp2
  go_ret
  exact ⟨by first | rfl | (simp; done) | (simp [*]; done), by repeat (first | exact qaF.refl _ | apply qaF.step)⟩
def qcW (s : ByteArray) : Bool := decide (s.size ≤ 8) && qdX s
theorem qfP (s : ByteArray) : Ev (fun k => qbY.f k s) (qcW s) := by
 unfold qbY.f qcW
 by_cases h : s.size ≤ 8
 ·exact Ev.pos (by omega) (Ev.bind (qiF s (by omega)) (Ev.is (by simp [h])))
 ·exact Ev.neg (by omega) (Ev.is (by simp [h]))
theorem qeB (s : ByteArray) : Ev (fun k => qaS.f k s) (qcW s) := by
 unfold qaS.f qcW
 by_cases h : s.size ≤ 8
 ·exact Ev.pos (by omega) (Ev.bind (qiG s (by omega)) (Ev.is (by simp [h])))
 ·exact Ev.neg (by omega) (Ev.is (by simp [h]))
def qbE.f (k : Nat) (a0 : ByteArray) (a1 : ByteArray) (a2 : Int) : Option (Bool) := (qaS.f k a0).bind fun t394 => (if t394 = true then ((qaS.f k a1).bind fun t395 => (if t395 = true then ((qbf.f a2 0 4294967295).bind fun t396 => (some t396)) else (some false))) else (if a0.toList = ([] : List UInt8) then (if a2 = 0 then ((qaS.f k a1).bind fun t397 => (if t397 = true then ((qbf.f a2 0 4294967295).bind fun t398 => (some t398)) else (some false))) else (some false)) else (some false)))
theorem qbE.mono : ∀ a0 a1 a2 k, LeO (qbE.f k a0 a1 a2) (qbE.f (k + 1) a0 a1 a2) := by
 intro a0 a1 a2 k
 unfold qbE.f
 repeat' first
   | (with_reducible exact qaS.mono _ _)
   | (with_reducible exact LeO.refl _)
   | (with_reducible exact LeO.none _)
   | (with_reducible refine LeO.ite ?_ ?_)
   | (with_reducible refine LeO.bind ?_ (fun _ => ?_))
   | exact qaS.mono _ _
   | exact LeO.none _
   | refine LeO.ite ?_ ?_
   | refine LeO.bind ?_ (fun _ => ?_)
set_option maxHeartbeats 8000000 in
set_option maxRecDepth 100000 in
theorem qbE.calls (k : Nat) (a0 : ByteArray) (a1 : ByteArray) (a2 : Int) (r : Bool) (w : World) (h : qbE.f k a0 a1 a2 = some r) :
  Calls Try.prog 37 #[.string a0, .string a1, .int .i64 a2] w fun e w' => e = .returned (.bool r) ∧ qaF w w' := by
 have H : ((qaS.f k a0).bind fun t394 => (if t394 = true then ((qaS.f k a1).bind fun t395 => (if t395 = true then ((qbf.f a2 0 4294967295).bind fun t396 => (some t396)) else (some false))) else (if a0.toList = ([] : List UInt8) then (if a2 = 0 then ((qaS.f k a1).bind fun t397 => (if t397 = true then ((qbf.f a2 0 4294967295).bind fun t398 => (some t398)) else (some false))) else (some false)) else (some false)))) = some r := h
 clear h
 replace H := Option.bind_eq_some_iff.mp H
 obtain ⟨t394, A40, H⟩ := H
 try dsimp only at H
 have A4 := Aside0.mk A40
 clear A40
 by_cases c5 : t394 = true
 ·subst c5
  have H1 : ((qaS.f k a1).bind fun t395 => (if t395 = true then ((qbf.f a2 0 4294967295).bind fun t396 => (some t396)) else (some false))) = some r := by rw [if_pos rfl] at H; exact H
  clear H
  have H := H1
  clear H1
  replace H := Option.bind_eq_some_iff.mp H
  obtain ⟨t395, A60, H⟩ := H
  try dsimp only at H
  have A6 := Aside0.mk A60
  clear A60
  by_cases c7 : t395 = true
  ·subst c7
   have H1 : ((qbf.f a2 0 4294967295).bind fun t396 => (some t396)) = some r := by rw [if_pos rfl] at H; exact H
   clear H
   have H := H1
   clear H1
   replace H := Option.bind_eq_some_iff.mp H
   obtain ⟨t396, A80, H⟩ := H
   try dsimp only at H
   have A8 := Aside0.mk A80
   clear A80
   obtain rfl := Option.some.inj H
   go_enter Try.func37, Try.ntmps37
   go_wp2_with (first | ((with_reducible refine qaE (f := 52) rfl ?_); refine qbn (some 8) rfl rfl Try.func52 (by kernel_rfl) rfl #[.string a0] rfl (by (try simp only [List.map_toArray, List.map_cons, List.map_nil]); first | done | rfl | (simp only [List.length_drop, List.length_take]; rfl)) ?_; (with_reducible refine (qaS.calls k a0 true _ A4.out).mono ?_); rintro e w' ⟨rfl, ⟨nd, rfl⟩⟩; refine ⟨_, rfl, ?_⟩) | (go_at_call 52; (with_reducible refine (qaS.calls k a1 true _ A6.out).mono ?_); rintro e w' ⟨rfl, ⟨nd, rfl⟩⟩) | (go_at_call 38; (with_reducible refine (qbf.calls a2 0 4294967295 t396 _ A8.out).mono ?_); rintro e w' ⟨rfl, ⟨nd, rfl⟩⟩))
   go_ret
   exact ⟨by first | rfl | (simp; done) | (simp [*]; done), by repeat (first | exact qaF.refl _ | apply qaF.step)⟩
  ·replace c7 := Bool.eq_false_iff.mpr c7
   subst c7
   have H1 : (some false) = some r := by rw [if_neg (show ¬ (false = true) by decide)] at H; exact H
   clear H
   have H := H1
   clear H1
   obtain rfl := Option.some.inj H
   go_enter Try.func37, Try.ntmps37
   go_wp2_with (first | ((with_reducible refine qaE (f := 52) rfl ?_); refine qbn (some 8) rfl rfl Try.func52 (by kernel_rfl) rfl #[.string a0] rfl (by (try simp only [List.map_toArray, List.map_cons, List.map_nil]); first | done | rfl | (simp only [List.length_drop, List.length_take]; rfl)) ?_; (with_reducible refine (qaS.calls k a0 true _ A4.out).mono ?_); rintro e w' ⟨rfl, ⟨nd, rfl⟩⟩; refine ⟨_, rfl, ?_⟩) | (go_at_call 52; (with_reducible refine (qaS.calls k a1 false _ A6.out).mono ?_); rintro e w' ⟨rfl, ⟨nd, rfl⟩⟩))
   go_ret
   exact ⟨by first | rfl | (simp; done) | (simp [*]; done), by repeat (first | exact qaF.refl _ | apply qaF.step)⟩
 ·replace c5 := Bool.eq_false_iff.mpr c5
  subst c5
  have H1 : (if a0.toList = ([] : List UInt8) then (if a2 = 0 then ((qaS.f k a1).bind fun t397 => (if t397 = true then ((qbf.f a2 0 4294967295).bind fun t398 => (some t398)) else (some false))) else (some false)) else (some false)) = some r := by rw [if_neg (show ¬ (false = true) by decide)] at H; exact H
  clear H
  have H := H1
  clear H1
  by_cases c9 : a0.toList = ([] : List UInt8)
  ·rw [if_pos c9] at H
   have c9b0 : (a0.toList == ([] : List UInt8)) = true := beq_iff_eq.mpr c9
   have c9b1 : (a0.toList != ([] : List UInt8)) = false := bne_eq_false_iff_eq.mpr c9
   clear c9
   by_cases c10 : a2 = 0
   ·rw [if_pos c10] at H
    have c10b0 : (a2 == 0) = true := beq_iff_eq.mpr c10
    have c10b1 : (a2 != 0) = false := bne_eq_false_iff_eq.mpr c10
    clear c10
    replace H := Option.bind_eq_some_iff.mp H
    obtain ⟨t397, A110, H⟩ := H
    try dsimp only at H
    have A11 := Aside0.mk A110
    clear A110
    by_cases c12 : t397 = true
    ·subst c12
     have H1 : ((qbf.f a2 0 4294967295).bind fun t398 => (some t398)) = some r := by rw [if_pos rfl] at H; exact H
     clear H
     have H := H1
     clear H1
     replace H := Option.bind_eq_some_iff.mp H
     obtain ⟨t398, A130, H⟩ := H
     try dsimp only at H
     have A13 := Aside0.mk A130
     clear A130
     obtain rfl := Option.some.inj H
     go_enter Try.func37, Try.ntmps37
     go_wp2_with (first | ((with_reducible refine qaE (f := 52) rfl ?_); refine qbn (some 8) rfl rfl Try.func52 (by kernel_rfl) rfl #[.string a0] rfl (by (try simp only [List.map_toArray, List.map_cons, List.map_nil]); first | done | rfl | (simp only [List.length_drop, List.length_take]; rfl)) ?_; (with_reducible refine (qaS.calls k a0 false _ A4.out).mono ?_); rintro e w' ⟨rfl, ⟨nd, rfl⟩⟩; refine ⟨_, rfl, ?_⟩) | (go_at_call 52; (with_reducible refine (qaS.calls k a1 true _ A11.out).mono ?_); rintro e w' ⟨rfl, ⟨nd, rfl⟩⟩) | (go_at_call 38; (with_reducible refine (qbf.calls a2 0 4294967295 t398 _ A13.out).mono ?_); rintro e w' ⟨rfl, ⟨nd, rfl⟩⟩))
     go_ret
     exact ⟨by first | rfl | (simp; done) | (simp [*]; done), by repeat (first | exact qaF.refl _ | apply qaF.step)⟩
    ·replace c12 := Bool.eq_false_iff.mpr c12
     subst c12
     have H1 : (some false) = some r := by rw [if_neg (show ¬ (false = true) by decide)] at H; exact H
     clear H
     have H := H1
     clear H1
     obtain rfl := Option.some.inj H
     go_enter Try.func37, Try.ntmps37
     go_wp2_with (first | ((with_reducible refine qaE (f := 52) rfl ?_); refine qbn (some 8) rfl rfl Try.func52 (by kernel_rfl) rfl #[.string a0] rfl (by (try simp only [List.map_toArray, List.map_cons, List.map_nil]); first | done | rfl | (simp only [List.length_drop, List.length_take]; rfl)) ?_; (with_reducible refine (qaS.calls k a0 false _ A4.out).mono ?_); rintro e w' ⟨rfl, ⟨nd, rfl⟩⟩; refine ⟨_, rfl, ?_⟩) | (go_at_call 52; (with_reducible refine (qaS.calls k a1 false _ A11.out).mono ?_); rintro e w' ⟨rfl, ⟨nd, rfl⟩⟩))
     go_ret
     exact ⟨by first | rfl | (simp; done) | (simp [*]; done), by repeat (first | exact qaF.refl _ | apply qaF.step)⟩
   ·rw [if_neg c10] at H
    have c10b0 : (a2 == 0) = false := beq_eq_false_iff_ne.mpr c10
    have c10b1 : (a2 != 0) = true := bne_iff_ne.mpr c10
    obtain rfl := Option.some.inj H
    go_enter Try.func37, Try.ntmps37
    go_wp2_with (first | ((with_reducible refine qaE (f := 52) rfl ?_); refine qbn (some 8) rfl rfl Try.func52 (by kernel_rfl) rfl #[.string a0] rfl (by (try simp only [List.map_toArray, List.map_cons, List.map_nil]); first | done | rfl | (simp only [List.length_drop, List.length_take]; rfl)) ?_; (with_reducible refine (qaS.calls k a0 false _ A4.out).mono ?_); rintro e w' ⟨rfl, ⟨nd, rfl⟩⟩; refine ⟨_, rfl, ?_⟩))
    go_ret
    exact ⟨by first | rfl | (simp; done) | (simp [*]; done), by repeat (first | exact qaF.refl _ | apply qaF.step)⟩
  ·rw [if_neg c9] at H
   have c9b0 : (a0.toList == ([] : List UInt8)) = false := beq_eq_false_iff_ne.mpr c9
   have c9b1 : (a0.toList != ([] : List UInt8)) = true := bne_iff_ne.mpr c9
   obtain rfl := Option.some.inj H
   go_enter Try.func37, Try.ntmps37
   go_wp2_with (first | ((with_reducible refine qaE (f := 52) rfl ?_); refine qbn (some 8) rfl rfl Try.func52 (by kernel_rfl) rfl #[.string a0] rfl (by (try simp only [List.map_toArray, List.map_cons, List.map_nil]); first | done | rfl | (simp only [List.length_drop, List.length_take]; rfl)) ?_; (with_reducible refine (qaS.calls k a0 false _ A4.out).mono ?_); rintro e w' ⟨rfl, ⟨nd, rfl⟩⟩; refine ⟨_, rfl, ?_⟩))
   go_ret
   exact ⟨by first | rfl | (simp; done) | (simp [*]; done), by repeat (first | exact qaF.refl _ | apply qaF.step)⟩
theorem qhI {a : ByteArray} (h : a.toList = []) : qcW a = false := by
 have : a.size = 0 := by
  have h2 : a.data.toList.length = 0 := by rw [← ByteArray.toList_eq, h]; rfl
  rw [Array.length_toList] at h2
  exact h2
 simp [qcW, qdX, this]
def headB (a b : ByteArray) (n : Int) : Bool := if a.toList = [] then (qcW b && (inB n 0 4294967295 && decide (n = 0))) else (qcW a && (qcW b && inB n 0 4294967295))
theorem qiH (a b : ByteArray) (n : Int) : Ev (fun k => qbE.f k a b n) (headB a b n) := by
 unfold qbE.f headB
 simp only [qiz, Option.bind_some]
 refine Ev.bind (qeB a) ?_
 cases h1 : qcW a with
 | true =>
  have h2 : ¬ a.toList = [] := fun h => by rw [qhI h] at h1; cases h1
  refine Ev.pos rfl (Ev.bind (qeB b) ?_)
  cases h3 : qcW b with
  | true => exact Ev.pos rfl (Ev.is (by simp [h2]))
  | false => exact Ev.neg (by simp) (Ev.is (by simp [h2]))
 | false =>
  refine Ev.neg (by simp) ?_
  by_cases h2 : a.toList = []
  ·refine Ev.pos h2 ?_
   by_cases h4 : n = 0
   ·refine Ev.pos h4 (Ev.bind (qeB b) ?_)
    cases h3 : qcW b with
    | true => exact Ev.pos rfl (Ev.is (by simp [h2, h4]))
    | false => exact Ev.neg (by simp) (Ev.is (by simp [h2]))
   ·exact Ev.neg h4 (Ev.is (by simp [h2, h4]))
  ·exact Ev.neg h2 (Ev.is (by simp [h2]))
def qb7.f (a0 : ByteArray) : Option (Bool) := (qbf.f (a0.size : Int) 1 30).bind fun t306 => (some t306)
set_option maxHeartbeats 8000000 in
set_option maxRecDepth 100000 in
theorem qb7.calls (a0 : ByteArray) (r : Bool) (w : World) (h : qb7.f a0 = some r) :
  Calls Try.prog 53 #[.string a0] w fun e w' => e = .returned (.bool r) ∧ qaF w w' := by
 have H : ((qbf.f (a0.size : Int) 1 30).bind fun t306 => (some t306)) = some r := h
 clear h
 replace H := Option.bind_eq_some_iff.mp H
 obtain ⟨t306, A20, H⟩ := H
 try dsimp only at H
 have A2 := Aside0.mk A20
 clear A20
 obtain rfl := Option.some.inj H
 go_enter Try.func53, Try.ntmps53
 go_wp2_with (first | ((with_reducible refine qaE (f := 38) rfl ?_); refine qbn (some 5) rfl rfl Try.func38 (by kernel_rfl) rfl #[.int .i64 (a0.size : Int), .int .i64 1, .int .i64 30] rfl (by (try simp only [List.map_toArray, List.map_cons, List.map_nil]); first | done | rfl | (simp only [List.length_drop, List.length_take]; rfl)) ?_; (with_reducible refine (qbf.calls (a0.size : Int) 1 30 t306 _ A2.out).mono ?_); rintro e w' ⟨rfl, ⟨nd, rfl⟩⟩; refine ⟨_, rfl, ?_⟩))
 go_ret
 exact ⟨by first | rfl | (simp; done) | (simp [*]; done), by repeat (first | exact qaF.refl _ | apply qaF.step)⟩
def keyB (s : ByteArray) : Bool := decide (1 ≤ s.size) && decide (s.size ≤ 30)
theorem qf3 (s : ByteArray) : qaT.f (s.size : Int) 1 30 = some (keyB s) := by
 unfold qaT.f keyB
 by_cases h : 1 ≤ s.size
 ·rw [if_pos (by omega), decide_eq_true h]
  have e : ((s.size : Int) ≤ 30) = (s.size ≤ 30) := propext (by omega)
  simp [e]
 ·rw [if_neg (by omega), decide_eq_false h]
  rfl
theorem impl_key (s : ByteArray) : qb7.f s = some (keyB s) := by
 unfold qb7.f qbf.f keyB
 by_cases h : 1 ≤ s.size
 ·rw [if_pos (by omega), decide_eq_true h]
  have e : ((s.size : Int) ≤ 30) = (s.size ≤ 30) := propext (by omega)
  simp [e]
 ·rw [if_neg (by omega), decide_eq_false h]
  rfl
def qbt.f (a0_0 : ByteArray) (a0_1 : ByteArray) (a0_2 : ByteArray) (a0_3 : Bool) (a0_4 : Bool) : Option (Bool) := (qb7.f a0_0).bind fun t308 => (if t308 = true then (if (a0_1.size : Int) ≤ 90 then (if (a0_2.size : Int) ≤ 90 then (if a0_3 = true then (if a0_4 = true then (some true) else (some (a0_2.toList == ([] : List UInt8)))) else (if a0_4 = true then (if a0_1.toList = ([] : List UInt8) then (some true) else (some false)) else (some false))) else (some false)) else (some false)) else (some false))
set_option maxHeartbeats 8000000 in
set_option maxRecDepth 100000 in
theorem qbt.calls (a0_0 : ByteArray) (a0_1 : ByteArray) (a0_2 : ByteArray) (a0_3 : Bool) (a0_4 : Bool) (r : Bool) (w : World) (h : qbt.f a0_0 a0_1 a0_2 a0_3 a0_4 = some r) :
  Calls Try.prog 39 #[.agg #[.string a0_0, .string a0_1, .string a0_2, .bool a0_3, .bool a0_4]] w fun e w' => e = .returned (.bool r) ∧ Below w.heap.size w w' := by
 have hu56 := Try.underlying56
 have HB := Aside0.mk (Below.refl w.heap.size w)
 have H : ((qb7.f a0_0).bind fun t308 => (if t308 = true then (if (a0_1.size : Int) ≤ 90 then (if (a0_2.size : Int) ≤ 90 then (if a0_3 = true then (if a0_4 = true then (some true) else (some (a0_2.toList == ([] : List UInt8)))) else (if a0_4 = true then (if a0_1.toList = ([] : List UInt8) then (some true) else (some false)) else (some false))) else (some false)) else (some false)) else (some false))) = some r := h
 clear h
 replace H := Option.bind_eq_some_iff.mp H
 obtain ⟨t308, A20, H⟩ := H
 try dsimp only at H
 have A2 := Aside0.mk A20
 clear A20
 by_cases c3 : t308 = true
 ·subst c3
  have H1 : (if (a0_1.size : Int) ≤ 90 then (if (a0_2.size : Int) ≤ 90 then (if a0_3 = true then (if a0_4 = true then (some true) else (some (a0_2.toList == ([] : List UInt8)))) else (if a0_4 = true then (if a0_1.toList = ([] : List UInt8) then (some true) else (some false)) else (some false))) else (some false)) else (some false)) = some r := by rw [if_pos rfl] at H; exact H
  clear H
  have H := H1
  clear H1
  by_cases c4 : (a0_1.size : Int) ≤ 90
  ·rw [if_pos c4] at H
   have c4b0 : decide ((a0_1.size : Int) ≤ 90) = true := decide_eq_true c4
   have c4b1 : decide (a0_1.size ≤ 90) = true := decide_eq_true (by omega)
   clear c4
   by_cases c5 : (a0_2.size : Int) ≤ 90
   ·rw [if_pos c5] at H
    have c5b0 : decide ((a0_2.size : Int) ≤ 90) = true := decide_eq_true c5
    have c5b1 : decide (a0_2.size ≤ 90) = true := decide_eq_true (by omega)
    clear c5
    by_cases c6 : a0_3 = true
    ·subst c6
     have H1 : (if a0_4 = true then (some true) else (some (a0_2.toList == ([] : List UInt8)))) = some r := by rw [if_pos rfl] at H; exact H
     clear H
     have H := H1
     clear H1
     by_cases c7 : a0_4 = true
     ·subst c7
      have H1 : (some true) = some r := by rw [if_pos rfl] at H; exact H
      clear H
      have H := H1
      clear H1
      obtain rfl := Option.some.inj H
      go_enter Try.func39, Try.ntmps39
      go_wp2_with (first | ((with_reducible refine qaM (N := 1) rfl ?_); (try (refine qbZ (by rfl) ?_; dsimp only)); refine qaN ?hg (N := 1) ?hd (cs := #[.string a0_0, .string a0_1, .string a0_2, .bool true, .bool true]) (t := 56) ?hr ?_; (case hd => rfl); (case hg => rfl); (case hr => first | (go_simp; done) | (go_simp; rfl)); intro gb307 hg w8 hbox hb; have n0_ := Aside0.mk (qag (by repeat (first | (with_reducible first | exact HB.out | apply qac | apply qaa | apply qab) | exact HB.out)) hb); have n1_ := Aside0.mk (hbox); have n2_ := Aside0.mk ((by rw [hg]; exact (qak (by repeat (first | (with_reducible first | exact HB.out | apply qac | apply qaa | apply qab) | exact HB.out))) : w.heap.size ≤ gb307)); have n3_ := Aside0.mk ((by rw [hg]; exact (qak (by repeat (first | (with_reducible first | exact HB.out | apply qac | apply qaa | apply qab) | exact HB.out))) : w.heap.size ≤ gb307)); clear HB; have HB := n0_; have BK307 := n1_; have GW307 := n2_; have GE307 := n3_; clear n0_ n1_ n2_ n3_ hb hbox hg; have hcz9_0 : w8.cell? ⟨gb307, 0, none⟩ = some (.string a0_0) := (qad BK307.out 0).trans rfl; have hcz9_1 : w8.cell? ⟨gb307, 1, none⟩ = some (.string a0_1) := (qad BK307.out 1).trans rfl; have hcz9_2 : w8.cell? ⟨gb307, 2, none⟩ = some (.string a0_2) := (qad BK307.out 2).trans rfl; have hcz9_3 : w8.cell? ⟨gb307, 3, none⟩ = some (.bool true) := (qad BK307.out 3).trans rfl; have hcz9_4 : w8.cell? ⟨gb307, 4, none⟩ = some (.bool true) := (qad BK307.out 4).trans rfl; have hfz9_0 := qae BK307.out 0; have hfz9_1 := qae BK307.out 1; have hfz9_2 := qae BK307.out 2; have hfz9_3 := qae BK307.out 3; have hfz9_4 := qae BK307.out 4) | ((with_reducible refine qaE (f := 53) rfl ?_); refine qbn (some 5) rfl rfl Try.func53 (by kernel_rfl) rfl #[.string a0_0] rfl (by (try simp only [List.map_toArray, List.map_cons, List.map_nil]); first | done | rfl | (simp only [List.length_drop, List.length_take]; rfl)) ?_; (with_reducible refine (qb7.calls a0_0 true _ A2.out).mono ?_); rintro e w' ⟨rfl, ⟨nd, rfl⟩⟩; refine ⟨_, rfl, ?_⟩))
      go_ret
      exact ⟨by first | rfl | (simp [qam, qan] <;> rfl) | (simp [*, qam, qan] <;> rfl), by repeat (first | (with_reducible first | exact HB.out | apply qac | apply qaa | apply qab | refine qah ?_ GE307.out) | exact HB.out)⟩
     ·replace c7 := Bool.eq_false_iff.mpr c7
      subst c7
      have H1 : (some (a0_2.toList == ([] : List UInt8))) = some r := by rw [if_neg (show ¬ (false = true) by decide)] at H; exact H
      clear H
      have H := H1
      clear H1
      obtain rfl := Option.some.inj H
      go_enter Try.func39, Try.ntmps39
      go_wp2_with (first | ((with_reducible refine qaM (N := 1) rfl ?_); (try (refine qbZ (by rfl) ?_; dsimp only)); refine qaN ?hg (N := 1) ?hd (cs := #[.string a0_0, .string a0_1, .string a0_2, .bool true, .bool false]) (t := 56) ?hr ?_; (case hd => rfl); (case hg => rfl); (case hr => first | (go_simp; done) | (go_simp; rfl)); intro gb307 hg w10 hbox hb; have n0_ := Aside0.mk (qag (by repeat (first | (with_reducible first | exact HB.out | apply qac | apply qaa | apply qab) | exact HB.out)) hb); have n1_ := Aside0.mk (hbox); have n2_ := Aside0.mk ((by rw [hg]; exact (qak (by repeat (first | (with_reducible first | exact HB.out | apply qac | apply qaa | apply qab) | exact HB.out))) : w.heap.size ≤ gb307)); have n3_ := Aside0.mk ((by rw [hg]; exact (qak (by repeat (first | (with_reducible first | exact HB.out | apply qac | apply qaa | apply qab) | exact HB.out))) : w.heap.size ≤ gb307)); clear HB; have HB := n0_; have BK307 := n1_; have GW307 := n2_; have GE307 := n3_; clear n0_ n1_ n2_ n3_ hb hbox hg; have hcz11_0 : w10.cell? ⟨gb307, 0, none⟩ = some (.string a0_0) := (qad BK307.out 0).trans rfl; have hcz11_1 : w10.cell? ⟨gb307, 1, none⟩ = some (.string a0_1) := (qad BK307.out 1).trans rfl; have hcz11_2 : w10.cell? ⟨gb307, 2, none⟩ = some (.string a0_2) := (qad BK307.out 2).trans rfl; have hcz11_3 : w10.cell? ⟨gb307, 3, none⟩ = some (.bool true) := (qad BK307.out 3).trans rfl; have hcz11_4 : w10.cell? ⟨gb307, 4, none⟩ = some (.bool false) := (qad BK307.out 4).trans rfl; have hfz11_0 := qae BK307.out 0; have hfz11_1 := qae BK307.out 1; have hfz11_2 := qae BK307.out 2; have hfz11_3 := qae BK307.out 3; have hfz11_4 := qae BK307.out 4) | ((with_reducible refine qaE (f := 53) rfl ?_); refine qbn (some 5) rfl rfl Try.func53 (by kernel_rfl) rfl #[.string a0_0] rfl (by (try simp only [List.map_toArray, List.map_cons, List.map_nil]); first | done | rfl | (simp only [List.length_drop, List.length_take]; rfl)) ?_; (with_reducible refine (qb7.calls a0_0 true _ A2.out).mono ?_); rintro e w' ⟨rfl, ⟨nd, rfl⟩⟩; refine ⟨_, rfl, ?_⟩))
      go_ret
      exact ⟨by first | rfl | (simp [qam, qan] <;> rfl) | (simp [*, qam, qan] <;> rfl), by repeat (first | (with_reducible first | exact HB.out | apply qac | apply qaa | apply qab | refine qah ?_ GE307.out) | exact HB.out)⟩
    ·replace c6 := Bool.eq_false_iff.mpr c6
     subst c6
     have H1 : (if a0_4 = true then (if a0_1.toList = ([] : List UInt8) then (some true) else (some false)) else (some false)) = some r := by rw [if_neg (show ¬ (false = true) by decide)] at H; exact H
     clear H
     have H := H1
     clear H1
     by_cases c12 : a0_4 = true
     ·subst c12
      have H1 : (if a0_1.toList = ([] : List UInt8) then (some true) else (some false)) = some r := by rw [if_pos rfl] at H; exact H
      clear H
      have H := H1
      clear H1
      by_cases c13 : a0_1.toList = ([] : List UInt8)
      ·rw [if_pos c13] at H
       have c13b0 : (a0_1.toList == ([] : List UInt8)) = true := beq_iff_eq.mpr c13
       have c13b1 : (a0_1.toList != ([] : List UInt8)) = false := bne_eq_false_iff_eq.mpr c13
       clear c13
       obtain rfl := Option.some.inj H
       go_enter Try.func39, Try.ntmps39
       go_wp2_with (first | ((with_reducible refine qaM (N := 1) rfl ?_); (try (refine qbZ (by rfl) ?_; dsimp only)); refine qaN ?hg (N := 1) ?hd (cs := #[.string a0_0, .string a0_1, .string a0_2, .bool false, .bool true]) (t := 56) ?hr ?_; (case hd => rfl); (case hg => rfl); (case hr => first | (go_simp; done) | (go_simp; rfl)); intro gb307 hg w14 hbox hb; have n0_ := Aside0.mk (qag (by repeat (first | (with_reducible first | exact HB.out | apply qac | apply qaa | apply qab) | exact HB.out)) hb); have n1_ := Aside0.mk (hbox); have n2_ := Aside0.mk ((by rw [hg]; exact (qak (by repeat (first | (with_reducible first | exact HB.out | apply qac | apply qaa | apply qab) | exact HB.out))) : w.heap.size ≤ gb307)); have n3_ := Aside0.mk ((by rw [hg]; exact (qak (by repeat (first | (with_reducible first | exact HB.out | apply qac | apply qaa | apply qab) | exact HB.out))) : w.heap.size ≤ gb307)); clear HB; have HB := n0_; have BK307 := n1_; have GW307 := n2_; have GE307 := n3_; clear n0_ n1_ n2_ n3_ hb hbox hg; have hcz15_0 : w14.cell? ⟨gb307, 0, none⟩ = some (.string a0_0) := (qad BK307.out 0).trans rfl; have hcz15_1 : w14.cell? ⟨gb307, 1, none⟩ = some (.string a0_1) := (qad BK307.out 1).trans rfl; have hcz15_2 : w14.cell? ⟨gb307, 2, none⟩ = some (.string a0_2) := (qad BK307.out 2).trans rfl; have hcz15_3 : w14.cell? ⟨gb307, 3, none⟩ = some (.bool false) := (qad BK307.out 3).trans rfl; have hcz15_4 : w14.cell? ⟨gb307, 4, none⟩ = some (.bool true) := (qad BK307.out 4).trans rfl; have hfz15_0 := qae BK307.out 0; have hfz15_1 := qae BK307.out 1; have hfz15_2 := qae BK307.out 2; have hfz15_3 := qae BK307.out 3; have hfz15_4 := qae BK307.out 4) | ((with_reducible refine qaE (f := 53) rfl ?_); refine qbn (some 5) rfl rfl Try.func53 (by kernel_rfl) rfl #[.string a0_0] rfl (by (try simp only [List.map_toArray, List.map_cons, List.map_nil]); first | done | rfl | (simp only [List.length_drop, List.length_take]; rfl)) ?_; (with_reducible refine (qb7.calls a0_0 true _ A2.out).mono ?_); rintro e w' ⟨rfl, ⟨nd, rfl⟩⟩; refine ⟨_, rfl, ?_⟩))
       go_ret
       exact ⟨by first | rfl | (simp [qam, qan] <;> rfl) | (simp [*, qam, qan] <;> rfl), by repeat (first | (with_reducible first | exact HB.out | apply qac | apply qaa | apply qab | refine qah ?_ GE307.out) | exact HB.out)⟩
      ·rw [if_neg c13] at H
       have c13b0 : (a0_1.toList == ([] : List UInt8)) = false := beq_eq_false_iff_ne.mpr c13
       have c13b1 : (a0_1.toList != ([] : List UInt8)) = true := bne_iff_ne.mpr c13
       obtain rfl := Option.some.inj H
       go_enter Try.func39, Try.ntmps39
       go_wp2_with (first | ((with_reducible refine qaM (N := 1) rfl ?_); (try (refine qbZ (by rfl) ?_; dsimp only)); refine qaN ?hg (N := 1) ?hd (cs := #[.string a0_0, .string a0_1, .string a0_2, .bool false, .bool true]) (t := 56) ?hr ?_; (case hd => rfl); (case hg => rfl); (case hr => first | (go_simp; done) | (go_simp; rfl)); intro gb307 hg w16 hbox hb; have n0_ := Aside0.mk (qag (by repeat (first | (with_reducible first | exact HB.out | apply qac | apply qaa | apply qab) | exact HB.out)) hb); have n1_ := Aside0.mk (hbox); have n2_ := Aside0.mk ((by rw [hg]; exact (qak (by repeat (first | (with_reducible first | exact HB.out | apply qac | apply qaa | apply qab) | exact HB.out))) : w.heap.size ≤ gb307)); have n3_ := Aside0.mk ((by rw [hg]; exact (qak (by repeat (first | (with_reducible first | exact HB.out | apply qac | apply qaa | apply qab) | exact HB.out))) : w.heap.size ≤ gb307)); clear HB; have HB := n0_; have BK307 := n1_; have GW307 := n2_; have GE307 := n3_; clear n0_ n1_ n2_ n3_ hb hbox hg; have hcz17_0 : w16.cell? ⟨gb307, 0, none⟩ = some (.string a0_0) := (qad BK307.out 0).trans rfl; have hcz17_1 : w16.cell? ⟨gb307, 1, none⟩ = some (.string a0_1) := (qad BK307.out 1).trans rfl; have hcz17_2 : w16.cell? ⟨gb307, 2, none⟩ = some (.string a0_2) := (qad BK307.out 2).trans rfl; have hcz17_3 : w16.cell? ⟨gb307, 3, none⟩ = some (.bool false) := (qad BK307.out 3).trans rfl; have hcz17_4 : w16.cell? ⟨gb307, 4, none⟩ = some (.bool true) := (qad BK307.out 4).trans rfl; have hfz17_0 := qae BK307.out 0; have hfz17_1 := qae BK307.out 1; have hfz17_2 := qae BK307.out 2; have hfz17_3 := qae BK307.out 3; have hfz17_4 := qae BK307.out 4) | ((with_reducible refine qaE (f := 53) rfl ?_); refine qbn (some 5) rfl rfl Try.func53 (by kernel_rfl) rfl #[.string a0_0] rfl (by (try simp only [List.map_toArray, List.map_cons, List.map_nil]); first | done | rfl | (simp only [List.length_drop, List.length_take]; rfl)) ?_; (with_reducible refine (qb7.calls a0_0 true _ A2.out).mono ?_); rintro e w' ⟨rfl, ⟨nd, rfl⟩⟩; refine ⟨_, rfl, ?_⟩))
       go_ret
       exact ⟨by first | rfl | (simp [qam, qan] <;> rfl) | (simp [*, qam, qan] <;> rfl), by repeat (first | (with_reducible first | exact HB.out | apply qac | apply qaa | apply qab | refine qah ?_ GE307.out) | exact HB.out)⟩
     ·replace c12 := Bool.eq_false_iff.mpr c12
      subst c12
      have H1 : (some false) = some r := by rw [if_neg (show ¬ (false = true) by decide)] at H; exact H
      clear H
      have H := H1
      clear H1
      obtain rfl := Option.some.inj H
      go_enter Try.func39, Try.ntmps39
      go_wp2_with (first | ((with_reducible refine qaM (N := 1) rfl ?_); (try (refine qbZ (by rfl) ?_; dsimp only)); refine qaN ?hg (N := 1) ?hd (cs := #[.string a0_0, .string a0_1, .string a0_2, .bool false, .bool false]) (t := 56) ?hr ?_; (case hd => rfl); (case hg => rfl); (case hr => first | (go_simp; done) | (go_simp; rfl)); intro gb307 hg w18 hbox hb; have n0_ := Aside0.mk (qag (by repeat (first | (with_reducible first | exact HB.out | apply qac | apply qaa | apply qab) | exact HB.out)) hb); have n1_ := Aside0.mk (hbox); have n2_ := Aside0.mk ((by rw [hg]; exact (qak (by repeat (first | (with_reducible first | exact HB.out | apply qac | apply qaa | apply qab) | exact HB.out))) : w.heap.size ≤ gb307)); have n3_ := Aside0.mk ((by rw [hg]; exact (qak (by repeat (first | (with_reducible first | exact HB.out | apply qac | apply qaa | apply qab) | exact HB.out))) : w.heap.size ≤ gb307)); clear HB; have HB := n0_; have BK307 := n1_; have GW307 := n2_; have GE307 := n3_; clear n0_ n1_ n2_ n3_ hb hbox hg; have hcz19_0 : w18.cell? ⟨gb307, 0, none⟩ = some (.string a0_0) := (qad BK307.out 0).trans rfl; have hcz19_1 : w18.cell? ⟨gb307, 1, none⟩ = some (.string a0_1) := (qad BK307.out 1).trans rfl; have hcz19_2 : w18.cell? ⟨gb307, 2, none⟩ = some (.string a0_2) := (qad BK307.out 2).trans rfl; have hcz19_3 : w18.cell? ⟨gb307, 3, none⟩ = some (.bool false) := (qad BK307.out 3).trans rfl; have hcz19_4 : w18.cell? ⟨gb307, 4, none⟩ = some (.bool false) := (qad BK307.out 4).trans rfl; have hfz19_0 := qae BK307.out 0; have hfz19_1 := qae BK307.out 1; have hfz19_2 := qae BK307.out 2; have hfz19_3 := qae BK307.out 3; have hfz19_4 := qae BK307.out 4) | ((with_reducible refine qaE (f := 53) rfl ?_); refine qbn (some 5) rfl rfl Try.func53 (by kernel_rfl) rfl #[.string a0_0] rfl (by (try simp only [List.map_toArray, List.map_cons, List.map_nil]); first | done | rfl | (simp only [List.length_drop, List.length_take]; rfl)) ?_; (with_reducible refine (qb7.calls a0_0 true _ A2.out).mono ?_); rintro e w' ⟨rfl, ⟨nd, rfl⟩⟩; refine ⟨_, rfl, ?_⟩))
      go_ret
      exact ⟨by first | rfl | (simp [qam, qan] <;> rfl) | (simp [*, qam, qan] <;> rfl), by repeat (first | (with_reducible first | exact HB.out | apply qac | apply qaa | apply qab | refine qah ?_ GE307.out) | exact HB.out)⟩
   ·rw [if_neg c5] at H
    have c5b0 : decide ((a0_2.size : Int) ≤ 90) = false := decide_eq_false c5
    have c5b1 : decide (a0_2.size ≤ 90) = false := decide_eq_false (by omega)
    clear c5
    obtain rfl := Option.some.inj H
    go_enter Try.func39, Try.ntmps39
    go_wp2_with (first | ((with_reducible refine qaM (N := 1) rfl ?_); (try (refine qbZ (by rfl) ?_; dsimp only)); refine qaN ?hg (N := 1) ?hd (cs := #[.string a0_0, .string a0_1, .string a0_2, .bool a0_3, .bool a0_4]) (t := 56) ?hr ?_; (case hd => rfl); (case hg => rfl); (case hr => first | (go_simp; done) | (go_simp; rfl)); intro gb307 hg w20 hbox hb; have n0_ := Aside0.mk (qag (by repeat (first | (with_reducible first | exact HB.out | apply qac | apply qaa | apply qab) | exact HB.out)) hb); have n1_ := Aside0.mk (hbox); have n2_ := Aside0.mk ((by rw [hg]; exact (qak (by repeat (first | (with_reducible first | exact HB.out | apply qac | apply qaa | apply qab) | exact HB.out))) : w.heap.size ≤ gb307)); have n3_ := Aside0.mk ((by rw [hg]; exact (qak (by repeat (first | (with_reducible first | exact HB.out | apply qac | apply qaa | apply qab) | exact HB.out))) : w.heap.size ≤ gb307)); clear HB; have HB := n0_; have BK307 := n1_; have GW307 := n2_; have GE307 := n3_; clear n0_ n1_ n2_ n3_ hb hbox hg; have hcz21_0 : w20.cell? ⟨gb307, 0, none⟩ = some (.string a0_0) := (qad BK307.out 0).trans rfl; have hcz21_1 : w20.cell? ⟨gb307, 1, none⟩ = some (.string a0_1) := (qad BK307.out 1).trans rfl; have hcz21_2 : w20.cell? ⟨gb307, 2, none⟩ = some (.string a0_2) := (qad BK307.out 2).trans rfl; have hcz21_3 : w20.cell? ⟨gb307, 3, none⟩ = some (.bool a0_3) := (qad BK307.out 3).trans rfl; have hcz21_4 : w20.cell? ⟨gb307, 4, none⟩ = some (.bool a0_4) := (qad BK307.out 4).trans rfl; have hfz21_0 := qae BK307.out 0; have hfz21_1 := qae BK307.out 1; have hfz21_2 := qae BK307.out 2; have hfz21_3 := qae BK307.out 3; have hfz21_4 := qae BK307.out 4) | ((with_reducible refine qaE (f := 53) rfl ?_); refine qbn (some 5) rfl rfl Try.func53 (by kernel_rfl) rfl #[.string a0_0] rfl (by (try simp only [List.map_toArray, List.map_cons, List.map_nil]); first | done | rfl | (simp only [List.length_drop, List.length_take]; rfl)) ?_; (with_reducible refine (qb7.calls a0_0 true _ A2.out).mono ?_); rintro e w' ⟨rfl, ⟨nd, rfl⟩⟩; refine ⟨_, rfl, ?_⟩))
    go_ret
    exact ⟨by first | rfl | (simp [qam, qan] <;> rfl) | (simp [*, qam, qan] <;> rfl), by repeat (first | (with_reducible first | exact HB.out | apply qac | apply qaa | apply qab | refine qah ?_ GE307.out) | exact HB.out)⟩
  ·rw [if_neg c4] at H
   have c4b0 : decide ((a0_1.size : Int) ≤ 90) = false := decide_eq_false c4
   have c4b1 : decide (a0_1.size ≤ 90) = false := decide_eq_false (by omega)
   clear c4
   obtain rfl := Option.some.inj H
   go_enter Try.func39, Try.ntmps39
   go_wp2_with (first | ((with_reducible refine qaM (N := 1) rfl ?_); (try (refine qbZ (by rfl) ?_; dsimp only)); refine qaN ?hg (N := 1) ?hd (cs := #[.string a0_0, .string a0_1, .string a0_2, .bool a0_3, .bool a0_4]) (t := 56) ?hr ?_; (case hd => rfl); (case hg => rfl); (case hr => first | (go_simp; done) | (go_simp; rfl)); intro gb307 hg w22 hbox hb; have n0_ := Aside0.mk (qag (by repeat (first | (with_reducible first | exact HB.out | apply qac | apply qaa | apply qab) | exact HB.out)) hb); have n1_ := Aside0.mk (hbox); have n2_ := Aside0.mk ((by rw [hg]; exact (qak (by repeat (first | (with_reducible first | exact HB.out | apply qac | apply qaa | apply qab) | exact HB.out))) : w.heap.size ≤ gb307)); have n3_ := Aside0.mk ((by rw [hg]; exact (qak (by repeat (first | (with_reducible first | exact HB.out | apply qac | apply qaa | apply qab) | exact HB.out))) : w.heap.size ≤ gb307)); clear HB; have HB := n0_; have BK307 := n1_; have GW307 := n2_; have GE307 := n3_; clear n0_ n1_ n2_ n3_ hb hbox hg; have hcz23_0 : w22.cell? ⟨gb307, 0, none⟩ = some (.string a0_0) := (qad BK307.out 0).trans rfl; have hcz23_1 : w22.cell? ⟨gb307, 1, none⟩ = some (.string a0_1) := (qad BK307.out 1).trans rfl; have hcz23_2 : w22.cell? ⟨gb307, 2, none⟩ = some (.string a0_2) := (qad BK307.out 2).trans rfl; have hcz23_3 : w22.cell? ⟨gb307, 3, none⟩ = some (.bool a0_3) := (qad BK307.out 3).trans rfl; have hcz23_4 : w22.cell? ⟨gb307, 4, none⟩ = some (.bool a0_4) := (qad BK307.out 4).trans rfl; have hfz23_0 := qae BK307.out 0; have hfz23_1 := qae BK307.out 1; have hfz23_2 := qae BK307.out 2; have hfz23_3 := qae BK307.out 3; have hfz23_4 := qae BK307.out 4) | ((with_reducible refine qaE (f := 53) rfl ?_); refine qbn (some 5) rfl rfl Try.func53 (by kernel_rfl) rfl #[.string a0_0] rfl (by (try simp only [List.map_toArray, List.map_cons, List.map_nil]); first | done | rfl | (simp only [List.length_drop, List.length_take]; rfl)) ?_; (with_reducible refine (qb7.calls a0_0 true _ A2.out).mono ?_); rintro e w' ⟨rfl, ⟨nd, rfl⟩⟩; refine ⟨_, rfl, ?_⟩))
   go_ret
   exact ⟨by first | rfl | (simp [qam, qan] <;> rfl) | (simp [*, qam, qan] <;> rfl), by repeat (first | (with_reducible first | exact HB.out | apply qac | apply qaa | apply qab | refine qah ?_ GE307.out) | exact HB.out)⟩
 ·replace c3 := Bool.eq_false_iff.mpr c3
  subst c3
  have H1 : (some false) = some r := by rw [if_neg (show ¬ (false = true) by decide)] at H; exact H
  clear H
  have H := H1
  clear H1
  obtain rfl := Option.some.inj H
  go_enter Try.func39, Try.ntmps39
  go_wp2_with (first | ((with_reducible refine qaM (N := 1) rfl ?_); (try (refine qbZ (by rfl) ?_; dsimp only)); refine qaN ?hg (N := 1) ?hd (cs := #[.string a0_0, .string a0_1, .string a0_2, .bool a0_3, .bool a0_4]) (t := 56) ?hr ?_; (case hd => rfl); (case hg => rfl); (case hr => first | (go_simp; done) | (go_simp; rfl)); intro gb307 hg w24 hbox hb; have n0_ := Aside0.mk (qag (by repeat (first | (with_reducible first | exact HB.out | apply qac | apply qaa | apply qab) | exact HB.out)) hb); have n1_ := Aside0.mk (hbox); have n2_ := Aside0.mk ((by rw [hg]; exact (qak (by repeat (first | (with_reducible first | exact HB.out | apply qac | apply qaa | apply qab) | exact HB.out))) : w.heap.size ≤ gb307)); have n3_ := Aside0.mk ((by rw [hg]; exact (qak (by repeat (first | (with_reducible first | exact HB.out | apply qac | apply qaa | apply qab) | exact HB.out))) : w.heap.size ≤ gb307)); clear HB; have HB := n0_; have BK307 := n1_; have GW307 := n2_; have GE307 := n3_; clear n0_ n1_ n2_ n3_ hb hbox hg; have hcz25_0 : w24.cell? ⟨gb307, 0, none⟩ = some (.string a0_0) := (qad BK307.out 0).trans rfl; have hcz25_1 : w24.cell? ⟨gb307, 1, none⟩ = some (.string a0_1) := (qad BK307.out 1).trans rfl; have hcz25_2 : w24.cell? ⟨gb307, 2, none⟩ = some (.string a0_2) := (qad BK307.out 2).trans rfl; have hcz25_3 : w24.cell? ⟨gb307, 3, none⟩ = some (.bool a0_3) := (qad BK307.out 3).trans rfl; have hcz25_4 : w24.cell? ⟨gb307, 4, none⟩ = some (.bool a0_4) := (qad BK307.out 4).trans rfl; have hfz25_0 := qae BK307.out 0; have hfz25_1 := qae BK307.out 1; have hfz25_2 := qae BK307.out 2; have hfz25_3 := qae BK307.out 3; have hfz25_4 := qae BK307.out 4) | ((with_reducible refine qaE (f := 53) rfl ?_); refine qbn (some 5) rfl rfl Try.func53 (by kernel_rfl) rfl #[.string a0_0] rfl (by (try simp only [List.map_toArray, List.map_cons, List.map_nil]); first | done | rfl | (simp only [List.length_drop, List.length_take]; rfl)) ?_; (with_reducible refine (qb7.calls a0_0 false _ A2.out).mono ?_); rintro e w' ⟨rfl, ⟨nd, rfl⟩⟩; refine ⟨_, rfl, ?_⟩))
  go_ret
  exact ⟨by first | rfl | (simp [qam, qan] <;> rfl) | (simp [*, qam, qan] <;> rfl), by repeat (first | (with_reducible first | exact HB.out | apply qac | apply qaa | apply qab | refine qah ?_ GE307.out) | exact HB.out)⟩
def qbW (d : S56) : Bool := keyB d.f0 && (decide (d.f1.size ≤ 90) && (decide (d.f2.size ≤ 90) && (if d.f3 = true then (d.f4 || d.f2.toList == ([] : List UInt8)) else (d.f4 && d.f1.toList == ([] : List UInt8)))))
theorem qgB (d : S56) : qbt.f d.f0 d.f1 d.f2 d.f3 d.f4 = some (qbW d) := by
 unfold qbt.f qbW
 rw [impl_key, Option.bind_some]
 have e1 : ((d.f1.size : Int) ≤ 90) = (d.f1.size ≤ 90) := propext (by omega)
 have e2 : ((d.f2.size : Int) ≤ 90) = (d.f2.size ≤ 90) := propext (by omega)
 simp only [e1, e2]
 by_cases h1 : d.f1.size ≤ 90 <;> by_cases h2 : d.f2.size ≤ 90 <;> cases h0 : keyB d.f0 <;> cases h3 : d.f3 <;> cases h4 : d.f4 <;> simp [h1, h2] <;> (by_cases h5 : d.f1.toList = ([] : List UInt8) <;> simp [h5])
def qbU (l : List S56) (i : Nat) : Bool := qbW (qaf l i) && (decide (i = 0) || Op.bytesLess (qaf l ((i - 1 : Nat) : Int)).f0.toList (qaf l i).f0.toList)
def qdY (a b : ByteArray) (n : Int) (l : List S56) (s : Int) : Bool := headB a b n && (inB s 0 4294967295 && (decide (l.length ≤ 120) && allB (qbU l) l.length))
set_option maxRecDepth 100000
theorem qiI (l : List Int) (k : Nat) (h : k < l.length) (r : Nat) : crcF r (l.take (k + 1)) = step8 (crcF r (l.take k) ^^^ (rd l (k : Int)).toNat) := by
 have e : rd l (k : Int) = l[k] := by unfold rd; rw [Int.toNat_natCast]; simp [List.getD_eq_getElem?_getD, h]
 rw [List.take_succ_eq_append_getElem h, qgX, e]
 rfl
theorem nib_lt {x c : Nat} (h : x < 4294967296) : nib x c < 4294967296 := by
 unfold nib
 exact Nat.xor_lt_two_pow (n := 32) (by omega) (qeQ (by omega))
theorem qhr (x c : Nat) (h : x < 4294967296) (hc : c < 256) : bits .and .i64 (bits .xor .i64 (x : Int) (c : Int)) 15 = (((x ^^^ c) % 16 : Nat) : Int) := by
 have hx : x ^^^ c < 4294967296 := Nat.xor_lt_two_pow (n := 32) h (by omega)
 rw [qdF _ _ (by omega) (by omega)]
 have := qfc (x ^^^ c) 15 (by omega) (by decide)
 rw [show (15 : Nat) = 2 ^ 4 - 1 from rfl, Nat.and_two_pow_sub_one_eq_mod] at this
 exact this
theorem qhs (x c : Nat) (h : x < 4294967296) : bits .xor .i64 ((x : Int) / 16) (tabZ ((x ^^^ c) % 16)) = ((nib x c : Nat) : Int) := by
 have e : (x : Int) / 16 = ((x / 16 : Nat) : Int) := by omega
 have h4 : step4 ((x ^^^ c) % 16) < 4294967296 := qeQ (by omega)
 unfold tabZ
 rw [e, qdF _ _ (by omega) (by omega)]
 rfl
def qbX.f (l0 : List Int) : Option Int := if (∀ c, c ∈ l0 → 0 ≤ c ∧ c < 256) then some (qcQ l0) else none
set_option maxHeartbeats 2000000 in
theorem qbX.calls (A0 : Option Addr) (c0 : Nat) (l0 : List Int) (r : Int) (w : World) (hr0 : Kd.C (Kd.int .u8) w A0 l0.length l0) (hc0 : l0.length ≤ c0) (h : qbX.f l0 = some r) :
  Calls Try.prog 34 #[.slice A0 l0.length c0] w fun e w' => e = .returned (.int .i64 r) ∧ Below w.heap.size w w' := by
 unfold qbX.f at h
 by_cases hb : ∀ c, c ∈ l0 → 0 ≤ c ∧ c < 256
 ·rw [if_pos hb] at h
  obtain rfl := Option.some.inj h
  clear h
  have hm : l0.length ≤ 9223372036854775807 := hr0.2.1
  have HR := Aside0.mk hr0
  have HY := Aside0.mk hb
  clear hr0 hb
  have hy : qbD 16 = #[.int .i64 (tabZ 0), .int .i64 (tabZ 1), .int .i64 (tabZ 2), .int .i64 (tabZ 3), .int .i64 (tabZ 4), .int .i64 (tabZ 5), .int .i64 (tabZ 6), .int .i64 (tabZ 7), .int .i64 (tabZ 8), .int .i64 (tabZ 9), .int .i64 (tabZ 10), .int .i64 (tabZ 11), .int .i64 (tabZ 12), .int .i64 (tabZ 13), .int .i64 (tabZ 14), .int .i64 (tabZ 15)] := rfl
  generalize tabZ 0 = y0 at *
  generalize tabZ 1 = y1 at *
  generalize tabZ 2 = y2 at *
  generalize tabZ 3 = y3 at *
  generalize tabZ 4 = y4 at *
  generalize tabZ 5 = y5 at *
  generalize tabZ 6 = y6 at *
  generalize tabZ 7 = y7 at *
  generalize tabZ 8 = y8 at *
  generalize tabZ 9 = y9 at *
  generalize tabZ 10 = y10 at *
  generalize tabZ 11 = y11 at *
  generalize tabZ 12 = y12 at *
  generalize tabZ 13 = y13 at *
  generalize tabZ 14 = y14 at *
  generalize tabZ 15 = y15 at *
  have HT := Aside0.mk hy
  clear hy
  go_enter Try.func34, Try.ntmps34
  go_wp2_with fail
  refine (qfC w).mono ?_
  rintro e w1 ⟨rfl, hb1⟩
  rw [HT.out]
  go_wp2_with fail
  have HG := Aside0.mk (show (w1.alloc (.cells #[.int .i64 y0, .int .i64 y1, .int .i64 y2, .int .i64 y3, .int .i64 y4, .int .i64 y5, .int .i64 y6, .int .i64 y7, .int .i64 y8, .int .i64 y9, .int .i64 y10, .int .i64 y11, .int .i64 y12, .int .i64 y13, .int .i64 y14, .int .i64 y15] 80 (0, 0))).heap[w1.heap.size]? = some (.cells (qbD 16) 80 (0, 0)) from by rw [HT.out]; exact qdw _ _)
  have HB := Aside0.mk (show Below w.heap.size w (w1.alloc (.cells #[.int .i64 y0, .int .i64 y1, .int .i64 y2, .int .i64 y3, .int .i64 y4, .int .i64 y5, .int .i64 y6, .int .i64 y7, .int .i64 y8, .int .i64 y9, .int .i64 y10, .int .i64 y11, .int .i64 y12, .int .i64 y13, .int .i64 y14, .int .i64 y15] 80 (0, 0))) from hb1.alloc (qak hb1) _)
  generalize w1.alloc (.cells #[.int .i64 y0, .int .i64 y1, .int .i64 y2, .int .i64 y3, .int .i64 y4, .int .i64 y5, .int .i64 y6, .int .i64 y7, .int .i64 y8, .int .i64 y9, .int .i64 y10, .int .i64 y11, .int .i64 y12, .int .i64 y13, .int .i64 y14, .int .i64 y15] 80 (0, 0)) = w2 at HG HB ⊢
  generalize w1.heap.size = g at HG ⊢
  clear hb1
  go_loopw [4, 5] (fun v4 v5 wr => ∃ k : Nat, k ≤ l0.length ∧ v4 = .int .i64 ((crcF 4294967295 (l0.take k) : Nat) : Int) ∧ v5 = .int .i64 k ∧ wr = w2) (fun v4 v5 _ => l0.length - (intOf v5).toNat)
  case atStart => exact ⟨0, Nat.zero_le _, rfl, rfl, rfl⟩
  case round =>
   obtain ⟨k, hk, rfl, rfl, rfl⟩ := hrel
   have hxl : crcF 4294967295 (l0.take k) < 4294967296 := crcF_lt _ _ (by decide) fun c hc => HY.out c (List.mem_of_mem_take hc)
   by_cases hlt : k < l0.length
   ·have c1 : decide ((k : Int) < (l0.length : Int)) = true := decide_eq_true (by omega)
    have p1 : 0 ≤ (k : Int) := by omega
    have q1 : (k : Int) < (l0.length : Int) := by omega
    obtain ⟨ad, e, hx⟩ := Kd.at_int HR.out (k : Int) p1 q1
    cases e
    have hmem : rd l0 (k : Int) ∈ l0 := by
     have e : rd l0 (k : Int) = l0[k] := by unfold rd; rw [Int.toNat_natCast]; simp [List.getD_eq_getElem?_getD, hlt]
     rw [e]; exact List.getElem_mem hlt
    have hbyte := HY.out _ hmem
    have hstep := qiI l0 k hlt 4294967295
    obtain ⟨c, hc⟩ : ∃ c : Nat, rd l0 (k : Int) = (c : Int) := ⟨(rd l0 (k : Int)).toNat, by omega⟩
    rw [hc] at hx hbyte hstep
    rw [Int.toNat_natCast] at hx hstep
    have hc2 : c < 256 := by omega
    rw [qiq _ _ hc2] at hstep
    replace hx := (HB.out.cell (World.block_lt_of_cell? w _ hx)).trans hx
    have HS := Aside0.mk hstep
    clear hstep hbyte hmem
    generalize crcF 4294967295 (l0.take k) = x at hxl HS ⊢
    replace p1 := eq_true p1
    replace q1 := eq_true q1
    have hn1 : nib x c < 4294967296 := nib_lt hxl
    have hn2 : nib (nib x c) (c / 16) < 4294967296 := nib_lt hn1
    have e1 := qhr x c hxl (by omega)
    have e2 := qhs x c hxl
    have ed : (c : Int) / 16 = ((c / 16 : Nat) : Int) := by omega
    have e3 := qhr (nib x c) (c / 16) hn1 (by omega)
    have e4 := qhs (nib x c) (c / 16) hn1
    have y16 : (x ^^^ c) % 16 < 16 := Nat.mod_lt _ (by decide)
    have z16 : (nib x c ^^^ (c / 16)) % 16 < 16 := Nat.mod_lt _ (by decide)
    have hcy : wr.cell? ⟨g, (x ^^^ c) % 16, none⟩ = some (.int .i64 (tabZ ((x ^^^ c) % 16))) := (qad HG.out _).trans (by rw [qdT _ y16, if_pos y16]; rfl)
    have hcz : wr.cell? ⟨g, (nib x c ^^^ (c / 16)) % 16, none⟩ = some (.int .i64 (tabZ ((nib x c ^^^ (c / 16)) % 16))) := (qad HG.out _).trans (by rw [qdT _ z16, if_pos z16]; rfl)
    generalize nib (nib x c) (c / 16) = n2 at *
    generalize nib x c = n1 at *
    generalize c / 16 = d at *
    generalize (x ^^^ c) % 16 = y at *
    generalize (n1 ^^^ d) % 16 = z at *
    generalize tabZ y = ty at *
    generalize tabZ z = tz at *
    have r1 : (0 ≤ (y : Int)) = True := eq_true (by omega)
    have r2 : ((y : Int) < 16) = True := eq_true (by omega)
    have r3 : (0 ≤ (z : Int)) = True := eq_true (by omega)
    have r4 : ((z : Int) < 16) = True := eq_true (by omega)
    go_wp2_with fail
    exact ⟨⟨k + 1, by omega, by rw [HS.out], rfl, trivial⟩, by simp [intOf]; omega⟩
   ·have e : k = l0.length := by omega
    have c1 : decide ((k : Int) < (l0.length : Int)) = false := decide_eq_false (by omega)
    have e9 : crcF 4294967295 (l0.take k) = crcF 4294967295 l0 := by rw [e, List.take_length]
    rw [e9] at hxl ⊢
    have e1 : bits .xor .i64 ((crcF 4294967295 l0 : Nat) : Int) 4294967295 = qcQ l0 := by
     have := qdF (crcF 4294967295 l0) 4294967295 (by omega) (by decide)
     rw [Nat.xor_comm] at this
     exact this
    generalize hS : qcQ l0 = s at e1
    generalize crcF 4294967295 l0 = x at e1 ⊢
    go_wp2_with fail
    go_ret
    exact ⟨by rw [hS]; rfl, HB.out⟩
 ·rw [if_neg hb] at h
  cases h
end Go.Proofs.Ytlkdcicpaneakaa.X
