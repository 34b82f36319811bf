import Derived.Test.YtgcncphdjabjjaaKFnExactReplay3
import Derived.Test.YtgcncphdjabjjaaKFnExactReplay4
import Derived.Test.YtgcncphdjabjjaaKFnExactReplay8
import Derived.Test.YtgcncphdjabjjaaKFnExactReplay13
namespace Go.Proofs.Ytgcncphdjabjjaa.X
open Go.RowKit Go.Proofs.YtgcncphdjabjjaaW.PrintWords Go.Proofs.YtgcncphdjabjjaaW.PrintLast Go.Proofs.YtgcncphdjabjjaaW.PrintMore
attribute [local go_sem] qaC qaD qaE qay qaz qaN qaO qat qau qaA qaB
set_option linter.unusedVariables false
set_option linter.unusedSimpArgs false
mutual
def qaK.j0 : Nat → ByteArray → Bool → Option (Bool)
 | 0, _, _ => none
 | k + 1, x0, x12 => if x12 = true then (some false) else (qaK.l0 k x0 (x0.size : Int) 0)
def qaK.l0 : Nat → ByteArray → Int → Int → Option (Bool)
 | 0, _, _, _ => none
 | k + 1, x0, x14, x15 => if x15 < x14 then (if 0 ≤ x15 then (if x15 < (x0.size : Int) then ((qcb.f (bt x0 x15)).bind fun t585 => (if t585 = true then (qaK.l0 k x0 x14 (wrap64 (x15 + 1))) else ((qbE.f (bt x0 x15)).bind fun t586 => (if t586 = true then (qaK.l0 k x0 x14 (wrap64 (x15 + 1))) else (some false))))) else (none)) else (none)) else (some true)
end
def qaK.f (k : Nat) (a0 : ByteArray) : Option (Bool) := (qba.f (a0.size : Int) 1 40).bind fun t583 => (if t583 = true then (if 0 < (a0.size : Int) then ((qbE.f (bt a0 0)).bind fun t584 => (qaK.j0 k a0 t584)) else (none)) else (qaK.j0 k a0 true))
theorem qaK.qbm : ∀ k, (∀ y0 y1, LeO (qaK.j0 k y0 y1) (qaK.j0 (k + 1) y0 y1)) ∧ (∀ y0 y1 y2, LeO (qaK.l0 k y0 y1 y2) (qaK.l0 (k + 1) y0 y1 y2))
 | 0 => ⟨fun _ _ r h => by simp [qaK.j0] at h, fun _ _ _ r h => by simp [qaK.l0] at h⟩
 | k + 1 => by
  obtain ⟨ih0, ih1⟩ := qaK.qbm k
  refine ⟨?_, ?_⟩
  ·intro y0 y1
   unfold qaK.j0
   repeat' first
   | (with_reducible exact ih0 _ _)
   | (with_reducible exact ih1 _ _ _)
   | (with_reducible exact LeO.refl _)
   | (with_reducible exact LeO.none _)
   | (with_reducible refine LeO.ite ?_ ?_)
   | (with_reducible refine LeO.bind ?_ (fun _ => ?_))
   | exact ih0 _ _
   | exact ih1 _ _ _
   | exact LeO.none _
   | refine LeO.ite ?_ ?_
   | refine LeO.bind ?_ (fun _ => ?_)
  ·intro y0 y1 y2
   unfold qaK.l0
   repeat' first
   | (with_reducible exact ih0 _ _)
   | (with_reducible exact ih1 _ _ _)
   | (with_reducible exact LeO.refl _)
   | (with_reducible exact LeO.none _)
   | (with_reducible refine LeO.ite ?_ ?_)
   | (with_reducible refine LeO.bind ?_ (fun _ => ?_))
   | exact ih0 _ _
   | exact ih1 _ _ _
   | exact LeO.none _
   | refine LeO.ite ?_ ?_
   | refine LeO.bind ?_ (fun _ => ?_)
theorem qaK.mono : ∀ a0 k, LeO (qaK.f k a0) (qaK.f (k + 1) a0) := by
 intro a0 k
 obtain ⟨ih0, ih1⟩ := qaK.qbm k
 unfold qaK.f
 repeat' first
   | (with_reducible exact ih0 _ _)
   | (with_reducible exact ih1 _ _ _)
   | (with_reducible exact LeO.refl _)
   | (with_reducible exact LeO.none _)
   | (with_reducible refine LeO.ite ?_ ?_)
   | (with_reducible refine LeO.bind ?_ (fun _ => ?_))
   | exact ih0 _ _
   | exact ih1 _ _ _
   | exact LeO.none _
   | refine LeO.ite ?_ ?_
   | refine LeO.bind ?_ (fun _ => ?_)
set_option maxHeartbeats 8000000 in
set_option maxRecDepth 100000 in
theorem qaK.calls (k : Nat) (a0 : ByteArray) (r : Bool) (w : World) (h : qaK.f k a0 = some r) :
  Calls Try.prog 115 #[.string a0] w fun e w' => e = .returned (.bool r) ∧ qaL w w' := by
 have H : ((qba.f (a0.size : Int) 1 40).bind fun t583 => (if t583 = true then (if 0 < (a0.size : Int) then ((qbE.f (bt a0 0)).bind fun t584 => (qaK.j0 k a0 t584)) else (none)) else (qaK.j0 k a0 true))) = some r := h
 clear h
 have HC2 := Aside0.mk H
 clear H
 go_enter Try.func115, Try.ntmps115
 go_upto_region 1 with (fail)
 go_cut [12] (fun v12 wc => ∃ (kq : Nat) (x12_1 : Bool), v12 = .bool x12_1 ∧ Aside0 (qaK.j0 kq a0 x12_1 = some r) ∧ Aside0 (kq ≤ k) ∧ qaL w wc)
 case first =>
  have H := HC2.out
  clear HC2
  replace H := Option.bind_eq_some_iff.mp H
  obtain ⟨t583, A30, H⟩ := H
  replace H : (if t583 = true then (if 0 < (a0.size : Int) then ((qbE.f (bt a0 0)).bind fun t584 => (qaK.j0 k a0 t584)) else (none)) else (qaK.j0 k a0 true)) = some r := H
  have A3 := Aside0.mk A30
  clear A30
  by_cases c4 : t583 = true
  ·subst c4
   have H1 : (if 0 < (a0.size : Int) then ((qbE.f (bt a0 0)).bind fun t584 => (qaK.j0 k a0 t584)) else (none)) = some r := by rw [if_pos rfl] at H; exact H
   clear H
   have H := H1
   clear H1
   by_cases c5 : 0 < (a0.size : Int)
   ·rw [if_pos c5] at H
    have c5b0 : decide (0 < (a0.size : Int)) = true := decide_eq_true c5
    have c5b1 : decide (0 < a0.size) = true := decide_eq_true (by omega)
    clear c5
    (first | rw [c5b0] | (simp only [qbS, qb0]; rw [c5b0]) | skip)
    replace H := Option.bind_eq_some_iff.mp H
    obtain ⟨t584, A70, H⟩ := H
    replace H : (qaK.j0 k a0 t584) = some r := H
    have A7 := Aside0.mk A70
    clear A70
    have H' := Aside0.mk H
    clear H
    go_wp2_with (first | ((with_reducible refine qav (f := 67) rfl ?_); refine qbd (some 6) rfl rfl Try.func67 (by kernel_rfl) rfl #[.int .i64 (a0.size : Int), .int .i64 1, .int .i64 40] rfl (by (try simp only [List.map_toArray, List.map_cons, List.map_nil]); first | done | rfl | (simp only [List.length_drop, List.length_take]; rfl)) ?_; (with_reducible refine (qba.calls (a0.size : Int) 1 40 true _ A3.out).mono ?_); rintro e w' ⟨rfl, ⟨nd, rfl⟩⟩; refine ⟨_, rfl, ?_⟩; have p6 : 0 ≤ (0 : Int) := (by omega); have q6 : 0 < a0.size := (by have : (0 : Int) < (a0.size : Int) := of_decide_eq_true (by first | (with_reducible assumption) | assumption); omega); have hx6 : ∀ h : 0 < a0.size, ((a0[0]'h).toNat : Int) = bt a0 0 := qee a0 0; clear p6; have qi6 : (0 < (a0.size : Int)) = True := eq_true (of_decide_eq_true (by first | (with_reducible assumption) | assumption)); replace q6 := eq_true q6) | (go_at_call 124; (with_reducible refine (qbE.calls (bt a0 0) t584 _ A7.out).mono ?_); rintro e w' ⟨rfl, ⟨nd, rfl⟩⟩))
    go_meet
    case rel => exact ⟨_, (t584), (by first | rfl | (simp; done) | (simp [*]; done)), H', ⟨by first | omega | exact Nat.le_refl _⟩, by repeat (first | exact qaL.refl _ | apply qaL.step)⟩
   ·rw [if_neg c5] at H
    exact absurd H (by simp)
  ·replace c4 := Bool.eq_false_iff.mpr c4
   subst c4
   have H1 : (qaK.j0 k a0 true) = some r := by rw [if_neg (show ¬ (false = true) by decide)] at H; exact H
   clear H
   have H := H1
   clear H1
   have H' := Aside0.mk H
   clear H
   go_wp2_with (first | ((with_reducible refine qav (f := 67) rfl ?_); refine qbd (some 6) rfl rfl Try.func67 (by kernel_rfl) rfl #[.int .i64 (a0.size : Int), .int .i64 1, .int .i64 40] rfl (by (try simp only [List.map_toArray, List.map_cons, List.map_nil]); first | done | rfl | (simp only [List.length_drop, List.length_take]; rfl)) ?_; (with_reducible refine (qba.calls (a0.size : Int) 1 40 false _ A3.out).mono ?_); rintro e w' ⟨rfl, ⟨nd, rfl⟩⟩; refine ⟨_, rfl, ?_⟩))
   go_meet
   case rel => exact ⟨_, (true), (by first | rfl | (simp; done) | (simp [*]; done)), H', ⟨by first | omega | exact Nat.le_refl _⟩, by repeat (first | exact qaL.refl _ | apply qaL.step)⟩
 case rest =>
  clear HC2
  try clear c1
  try clear p2
  try clear c4
  try clear c5
  try clear c5b0
  try clear c5b1
  try clear c6
  try clear p6
  try clear q6
  try clear hx6
  try clear qi6
  try clear p6
  try clear q6
  obtain ⟨kq, x12_1, rfl, HA, HJ1, ⟨mc1, rfl⟩⟩ := hcut
  cases kq with
  | zero => exact absurd HA.out (by simp [qaK.j0])
  | succ kj1 =>
   have H := HA.out
   clear HA
   simp only [qaK.j0] at H
   by_cases c8 : x12_1 = true
   ·subst c8
    have H1 : (some false) = some r := by rw [if_pos rfl] at H; exact H
    clear H
    have H := H1
    clear H1
    obtain rfl := Option.some.inj H
    go_wp2
    go_ret
    exact ⟨by first | rfl | (simp; done) | (simp [*]; done), by repeat (first | exact qaL.refl _ | apply qaL.step)⟩
   ·replace c8 := Bool.eq_false_iff.mpr c8
    subst c8
    have H1 : (qaK.l0 kj1 a0 (a0.size : Int) 0) = some r := by rw [if_neg (show ¬ (false = true) by decide)] at H; exact H
    clear H
    have H := H1
    clear H1
    have H' := Aside0.mk H
    clear H
    go_wp2
    go_loopg [15] kj1 (fun kq v15 w' => ∃ (x15_2 : Int), v15 = .int .i64 x15_2 ∧ Aside0 (qaK.l0 kq a0 (a0.size : Int) x15_2 = some r) ∧ Aside0 (kq ≤ kj1) ∧ qaL w w')
    case atStart => exact ⟨(0), (by first | rfl | (simp; done) | (simp [*]; done)), H', ⟨Nat.le_refl _⟩, by repeat (first | exact qaL.refl _ | apply qaL.step)⟩
    case round =>
     clear H'
     try clear c1
     try clear p2
     try clear c4
     try clear c5
     try clear c5b0
     try clear c5b1
     try clear c6
     try clear p6
     try clear q6
     try clear hx6
     try clear qi6
     try clear c8
     try clear p2
     try clear p6
     try clear q6
     obtain ⟨x15_2, rfl, HA, HK2, ⟨m2, rfl⟩⟩ := hrel
     cases gk with
     | zero => exact absurd HA.out (by simp [qaK.l0])
     | succ k2 =>
      have H := HA.out
      clear HA
      simp only [qaK.l0] at H
      by_cases c9 : x15_2 < (a0.size : Int)
      ·rw [if_pos c9] at H
       have c9b0 : decide (x15_2 < (a0.size : Int)) = true := decide_eq_true c9
       clear c9
       by_cases c10 : 0 ≤ x15_2
       ·rw [if_pos c10] at H
        have c10b0 : decide (0 ≤ x15_2) = true := decide_eq_true c10
        clear c10
        by_cases c11 : x15_2 < (a0.size : Int)
        ·rw [if_pos c11] at H
         have c11b0 : decide (x15_2 < (a0.size : Int)) = true := decide_eq_true c11
         clear c11
         replace H := Option.bind_eq_some_iff.mp H
         obtain ⟨t585, A130, H⟩ := H
         replace H : (if t585 = true then (qaK.l0 k2 a0 (a0.size : Int) (wrap64 (x15_2 + 1))) else ((qbE.f (bt a0 x15_2)).bind fun t586 => (if t586 = true then (qaK.l0 k2 a0 (a0.size : Int) (wrap64 (x15_2 + 1))) else (some false)))) = some r := H
         have A13 := Aside0.mk A130
         clear A130
         by_cases c14 : t585 = true
         ·subst c14
          have H1 : (qaK.l0 k2 a0 (a0.size : Int) (wrap64 (x15_2 + 1))) = some r := by rw [if_pos rfl] at H; exact H
          clear H
          have H := H1
          clear H1
          have H' := Aside0.mk H
          clear H
          have p12 : 0 ≤ (x15_2 : Int) := of_decide_eq_true (by first | (with_reducible assumption) | assumption)
          have q12 : x15_2 < (a0.size : Int) := of_decide_eq_true (by first | (with_reducible assumption) | assumption)
          have hx12 := qee a0 x15_2
          replace p12 := eq_true p12
          replace q12 := eq_true q12
          go_wp2_with (first | ((with_reducible refine qav (f := 125) rfl ?_); refine qbd (some 21) rfl rfl Try.func125 (by kernel_rfl) rfl #[.int .u8 (bt a0 x15_2)] rfl (by (try simp only [List.map_toArray, List.map_cons, List.map_nil]); first | done | rfl | (simp only [List.length_drop, List.length_take]; rfl)) ?_; (with_reducible refine (qcb.calls (bt a0 x15_2) true _ A13.out).mono ?_); rintro e w' ⟨rfl, ⟨nd, rfl⟩⟩; refine ⟨_, rfl, ?_⟩))
          go_roundg k2
          case measure => have := HJ1.out; have := HK2.out; omega
          case rel => exact ⟨(wrap64 (x15_2 + 1)), (by first | rfl | (simp; done) | (simp [*]; done)), H', ⟨by have := HJ1.out; have := HK2.out; omega⟩, by repeat (first | exact qaL.refl _ | apply qaL.step)⟩
         ·replace c14 := Bool.eq_false_iff.mpr c14
          subst c14
          have H1 : ((qbE.f (bt a0 x15_2)).bind fun t586 => (if t586 = true then (qaK.l0 k2 a0 (a0.size : Int) (wrap64 (x15_2 + 1))) else (some false))) = some r := by rw [if_neg (show ¬ (false = true) by decide)] at H; exact H
          clear H
          have H := H1
          clear H1
          replace H := Option.bind_eq_some_iff.mp H
          obtain ⟨t586, A160, H⟩ := H
          replace H : (if t586 = true then (qaK.l0 k2 a0 (a0.size : Int) (wrap64 (x15_2 + 1))) else (some false)) = some r := H
          have A16 := Aside0.mk A160
          clear A160
          by_cases c17 : t586 = true
          ·subst c17
           have H1 : (qaK.l0 k2 a0 (a0.size : Int) (wrap64 (x15_2 + 1))) = some r := by rw [if_pos rfl] at H; exact H
           clear H
           have H := H1
           clear H1
           have H' := Aside0.mk H
           clear H
           have p12 : 0 ≤ (x15_2 : Int) := of_decide_eq_true (by first | (with_reducible assumption) | assumption)
           have q12 : x15_2 < (a0.size : Int) := of_decide_eq_true (by first | (with_reducible assumption) | assumption)
           have hx12 := qee a0 x15_2
           replace p12 := eq_true p12
           replace q12 := eq_true q12
           go_wp2_with (first | ((with_reducible refine qav (f := 125) rfl ?_); refine qbd (some 21) rfl rfl Try.func125 (by kernel_rfl) rfl #[.int .u8 (bt a0 x15_2)] rfl (by (try simp only [List.map_toArray, List.map_cons, List.map_nil]); first | done | rfl | (simp only [List.length_drop, List.length_take]; rfl)) ?_; (with_reducible refine (qcb.calls (bt a0 x15_2) false _ A13.out).mono ?_); rintro e w' ⟨rfl, ⟨nd, rfl⟩⟩; refine ⟨_, rfl, ?_⟩; have p15 : 0 ≤ (x15_2 : Int) := of_decide_eq_true (by first | (with_reducible assumption) | assumption); have q15 : x15_2 < (a0.size : Int) := of_decide_eq_true (by first | (with_reducible assumption) | assumption); have hx15 := qee a0 x15_2; replace p15 := eq_true p15; replace q15 := eq_true q15) | (go_at_call 124; (with_reducible refine (qbE.calls (bt a0 x15_2) true _ A16.out).mono ?_); rintro e w' ⟨rfl, ⟨nd, rfl⟩⟩))
           go_roundg k2
           case measure => have := HJ1.out; have := HK2.out; omega
           case rel => exact ⟨(wrap64 (x15_2 + 1)), (by first | rfl | (simp; done) | (simp [*]; done)), H', ⟨by have := HJ1.out; have := HK2.out; omega⟩, by repeat (first | exact qaL.refl _ | apply qaL.step)⟩
          ·replace c17 := Bool.eq_false_iff.mpr c17
           subst c17
           have H1 : (some false) = some r := by rw [if_neg (show ¬ (false = true) by decide)] at H; exact H
           clear H
           have H := H1
           clear H1
           obtain rfl := Option.some.inj H
           have p12 : 0 ≤ (x15_2 : Int) := of_decide_eq_true (by first | (with_reducible assumption) | assumption)
           have q12 : x15_2 < (a0.size : Int) := of_decide_eq_true (by first | (with_reducible assumption) | assumption)
           have hx12 := qee a0 x15_2
           replace p12 := eq_true p12
           replace q12 := eq_true q12
           go_wp2_with (first | ((with_reducible refine qav (f := 125) rfl ?_); refine qbd (some 21) rfl rfl Try.func125 (by kernel_rfl) rfl #[.int .u8 (bt a0 x15_2)] rfl (by (try simp only [List.map_toArray, List.map_cons, List.map_nil]); first | done | rfl | (simp only [List.length_drop, List.length_take]; rfl)) ?_; (with_reducible refine (qcb.calls (bt a0 x15_2) false _ A13.out).mono ?_); rintro e w' ⟨rfl, ⟨nd, rfl⟩⟩; refine ⟨_, rfl, ?_⟩; have p15 : 0 ≤ (x15_2 : Int) := of_decide_eq_true (by first | (with_reducible assumption) | assumption); have q15 : x15_2 < (a0.size : Int) := of_decide_eq_true (by first | (with_reducible assumption) | assumption); have hx15 := qee a0 x15_2; replace p15 := eq_true p15; replace q15 := eq_true q15) | (go_at_call 124; (with_reducible refine (qbE.calls (bt a0 x15_2) false _ A16.out).mono ?_); rintro e w' ⟨rfl, ⟨nd, rfl⟩⟩))
           go_ret
           exact ⟨by first | rfl | (simp; done) | (simp [*]; done), by repeat (first | exact qaL.refl _ | apply qaL.step)⟩
        ·rw [if_neg c11] at H
         exact absurd H (by simp)
       ·rw [if_neg c10] at H
        exact absurd H (by simp)
      ·rw [if_neg c9] at H
       have c9b0 : decide (x15_2 < (a0.size : Int)) = false := decide_eq_false c9
       clear c9
       obtain rfl := Option.some.inj H
       go_wp2
       go_ret
       exact ⟨by first | rfl | (simp; done) | (simp [*]; done), by repeat (first | exact qaL.refl _ | apply qaL.step)⟩
end Go.Proofs.Ytgcncphdjabjjaa.X
namespace Go.Proofs.Ytgcncphdjabjjaa.X
open Go.RowKit Go.Proofs.YtgcncphdjabjjaaW.PrintWords Go.Proofs.YtgcncphdjabjjaaW.PrintLast Go.Proofs.YtgcncphdjabjjaaW.PrintMore
attribute [local go_sem] qaC qaD qaE qay qaz qaN qaO qat qau qaA qaB
set_option linter.unusedVariables false
set_option linter.unusedSimpArgs false
def digit (c : Int) : Bool := decide (48 ≤ c ∧ c ≤ 57)
def wordy (s : ByteArray) : Nat → Nat → Bool
 | 0, _ => true
 | d + 1, i => (letter (bt s i) || digit (bt s i)) && wordy s d (i + 1)
def qdE (s : ByteArray) : Bool := decide (1 ≤ s.size ∧ s.size ≤ 40) && (letter (bt s 0) && wordy s (s.size - 1) 1)
theorem qek {i : Nat} (h : i < 1048576) : wrap64 ((i : Int) + 1) = ((i + 1 : Nat) : Int) := by unfold wrap64; omega
theorem digit1 (c : Int) : qb6.f c = some (digit c) := by
 unfold qb6.f digit
 by_cases h1 : c ≥ 48 <;> by_cases h2 : c ≤ 57 <;> simp [*] <;> omega
theorem qhZ (c : Int) : qbE.f c = some (digit c) := by
 unfold qbE.f digit
 by_cases h1 : c ≥ 48 <;> by_cases h2 : c ≤ 57 <;> simp [*] <;> omega
theorem not_both (c : Int) : digit c = true → letter c = false := by
 unfold digit letter
 intro h
 simp at h ⊢
 omega
theorem qh0 (s : ByteArray) (hs : s.size ≤ 1048576) (d : Nat) : ∀ i : Nat, i + d = s.size → Ev (fun k => qaG.l0 k s (i : Int)) (wordy s d i) := by
 induction d with
 | zero =>
  intro i hi
  refine Ev.step (f := fun _ => some true) (fun k => ?_) (Ev.now _)
  simp only [qaG.l0]
  rw [if_neg (by omega)]
 | succ d ih =>
  intro i hi
  have hrec := ih (i + 1) (by omega)
  by_cases hl : letter (bt s i) = true
  ·refine Ev.step (f := fun k => qaG.l0 k s ((i + 1 : Nat) : Int)) (fun k => ?_) ?_
   ·simp only [qaG.l0]
    rw [if_pos (by omega), if_pos (by omega), qfn, Option.bind_some, if_pos hl, qek (by omega)]
   ·simpa [wordy, hl] using hrec
  ·by_cases hd : digit (bt s i) = true
   ·refine Ev.step (f := fun k => qaG.l0 k s ((i + 1 : Nat) : Int)) (fun k => ?_) ?_
    ·simp only [qaG.l0]
     rw [if_pos (by omega), if_pos (by omega), qfn, Option.bind_some, if_neg hl, digit1, Option.bind_some, if_pos hd, qek (by omega)]
    ·simpa [wordy, hl, hd] using hrec
   ·refine Ev.step (f := fun _ => some false) (fun k => ?_) ?_
    ·simp only [qaG.l0]
     rw [if_pos (by omega), if_pos (by omega), qfn, Option.bind_some, if_neg hl, digit1, Option.bind_some, if_neg hd]
    ·simp [wordy, hl, hd]; exact Ev.now false
theorem qh1 (s : ByteArray) (hs : s.size ≤ 1048576) (d : Nat) : ∀ i : Nat, i + d = s.size → Ev (fun k => qaK.l0 k s ((s.size : Nat) : Int) (i : Int)) (wordy s d i) := by
 induction d with
 | zero =>
  intro i hi
  refine Ev.step (f := fun _ => some true) (fun k => ?_) (Ev.now _)
  simp only [qaK.l0]
  rw [if_neg (by omega)]
 | succ d ih =>
  intro i hi
  have hrec := ih (i + 1) (by omega)
  by_cases hl : letter (bt s i) = true
  ·refine Ev.step (f := fun k => qaK.l0 k s ((s.size : Nat) : Int) ((i + 1 : Nat) : Int)) (fun k => ?_) ?_
   ·simp only [qaK.l0]
    rw [if_pos (by omega), if_pos (by omega), if_pos (by omega), qgA, Option.bind_some, if_pos hl, qek (by omega)]
   ·simpa [wordy, hl] using hrec
  ·by_cases hd : digit (bt s i) = true
   ·refine Ev.step (f := fun k => qaK.l0 k s ((s.size : Nat) : Int) ((i + 1 : Nat) : Int)) (fun k => ?_) ?_
    ·simp only [qaK.l0]
     rw [if_pos (by omega), if_pos (by omega), if_pos (by omega), qgA, Option.bind_some, if_neg hl, qhZ, Option.bind_some, if_pos hd, qek (by omega)]
    ·simpa [wordy, hl, hd] using hrec
   ·refine Ev.step (f := fun _ => some false) (fun k => ?_) ?_
    ·simp only [qaK.l0]
     rw [if_pos (by omega), if_pos (by omega), if_pos (by omega), qgA, Option.bind_some, if_neg hl, qhZ, Option.bind_some, if_neg hd]
    ·simp [wordy, hl, hd]; exact Ev.now false
theorem qh2 (s : ByteArray) (b : Bool) (hs : s.size ≤ 1048576) (h1 : 1 ≤ s.size ∨ b = true) : Ev (fun k => qaG.j0 k s b) (!b && wordy s (s.size - 1) 1) := by
 cases b with
 | true =>
  refine Ev.step (f := fun _ => some false) (fun k => ?_) (Ev.now _)
  simp [qaG.j0]
 | false =>
  refine Ev.step (f := fun k => qaG.l0 k s ((1 : Nat) : Int)) (fun k => ?_) ?_
  ·simp [qaG.j0]
  ·simpa using qh0 s hs (s.size - 1) 1 (by rcases h1 with h1 | h1 <;> first | omega | cases h1)
theorem qh3 (s : ByteArray) (b : Bool) (hs : s.size ≤ 1048576) : Ev (fun k => qaK.j0 k s b) (!b && wordy s s.size 0) := by
 cases b with
 | true =>
  refine Ev.step (f := fun _ => some false) (fun k => ?_) (Ev.now _)
  simp [qaK.j0]
 | false =>
  refine Ev.step (f := fun k => qaK.l0 k s ((s.size : Nat) : Int) ((0 : Nat) : Int)) (fun k => ?_) ?_
  ·simp [qaK.j0]
  ·simpa using qh1 s hs s.size 0 (by omega)
theorem qh4 (s : ByteArray) (hs : s.size ≤ 1048576) : Ev (fun k => qbV.f k s) (qdE s) := by
 unfold qbV.f qaG.f
 refine Ev.bind ?_ (Ev.now _)
 by_cases h1 : (s.size : Int) < 1
 ·simp only [if_pos h1]
  have := qh2 s true hs (.inr rfl)
  simpa [qdE, show ¬ (1 ≤ s.size) by omega] using this
 simp only [if_neg h1]
 by_cases h2 : (s.size : Int) > 40
 ·simp only [if_pos h2]
  have := qh2 s true hs (.inr rfl)
  simpa [qdE, show ¬ (s.size ≤ 40) by omega] using this
 simp only [if_neg h2, if_pos (show 0 < (s.size : Int) by omega), qfn, Option.bind_some]
 have := qh2 s (!letter (bt s 0)) hs (.inl (by omega))
 simpa [qdE, show s.size ≤ 40 by omega, show 1 ≤ s.size by omega] using this
theorem qh5 (s : ByteArray) (hs : s.size ≤ 1048576) : Ev (fun k => qaK.f k s) (qdE s) := by
 unfold qaK.f qba.f
 by_cases h1 : (s.size : Int) < 1
 ·simp only [if_neg (show ¬ (s.size : Int) ≥ 1 by omega), Option.bind_some, Bool.false_eq_true, if_false]
  have := qh3 s true hs
  simpa [qdE, show ¬ (1 ≤ s.size) by omega] using this
 simp only [if_pos (show (s.size : Int) ≥ 1 by omega), Option.bind_some]
 by_cases h2 : (s.size : Int) > 40
 ·simp only [show decide ((s.size : Int) ≤ 40) = false from decide_eq_false (by omega), Bool.false_eq_true, if_false]
  have := qh3 s true hs
  simpa [qdE, show ¬ (s.size ≤ 40) by omega] using this
 simp only [show decide ((s.size : Int) ≤ 40) = true from decide_eq_true (by omega), if_true, if_pos (show 0 < (s.size : Int) by omega), qhZ, Option.bind_some]
 have h := qh3 s (digit (bt s 0)) hs
 have e : (!digit (bt s 0) && wordy s s.size 0) = qdE s := by
  obtain ⟨m, hm⟩ : ∃ m, s.size = m + 1 := ⟨s.size - 1, by omega⟩
  have hz : bt s ((0 : Nat) : Int) = bt s 0 := rfl
  unfold qdE
  rw [hm]
  simp only [wordy, Nat.zero_add, Nat.add_sub_cancel, hz]
  rw [show decide (1 ≤ m + 1 ∧ m + 1 ≤ 40) = true from decide_eq_true (by omega), Bool.true_and]
  cases hd : digit (bt s 0) with
  | true => simp [not_both _ hd]
  | false => simp
 rw [← e]; exact h
end Go.Proofs.Ytgcncphdjabjjaa.X
namespace Go.Proofs.Ytgcncphdjabjjaa.X
open Go.RowKit Go.Proofs.YtgcncphdjabjjaaW.PrintWords Go.Proofs.YtgcncphdjabjjaaW.PrintLast Go.Proofs.YtgcncphdjabjjaaW.PrintMore
attribute [local go_sem] qaC qaD qaE qay qaz qaN qaO qat qau qaA qaB
set_option linter.unusedVariables false
set_option linter.unusedSimpArgs false
def qbz.f (k : Nat) (a0 : ByteArray) : Option (Bool) := if (a0.size : Int) ≤ 8 then ((qbV.f k a0).bind fun t576 => (some t576)) else (some false)
theorem qbz.mono : ∀ a0 k, LeO (qbz.f k a0) (qbz.f (k + 1) a0) := by
 intro a0 k
 unfold qbz.f
 repeat' first
   | (with_reducible exact qbV.mono _ _)
   | (with_reducible exact LeO.refl _)
   | (with_reducible exact LeO.none _)
   | (with_reducible refine LeO.ite ?_ ?_)
   | (with_reducible refine LeO.bind ?_ (fun _ => ?_))
   | exact qbV.mono _ _
   | exact LeO.none _
   | refine LeO.ite ?_ ?_
   | refine LeO.bind ?_ (fun _ => ?_)
set_option maxHeartbeats 8000000 in
set_option maxRecDepth 100000 in
theorem qbz.calls (k : Nat) (a0 : ByteArray) (r : Bool) (w : World) (h : qbz.f k a0 = some r) :
  Calls Try.prog 64 #[.string a0] w fun e w' => e = .returned (.bool r) ∧ qaL w w' := by
 have H : (if (a0.size : Int) ≤ 8 then ((qbV.f k a0).bind fun t576 => (some t576)) else (some false)) = some r := h
 clear h
 by_cases c2 : (a0.size : Int) ≤ 8
 ·rw [if_pos c2] at H
  have c2b0 : decide ((a0.size : Int) ≤ 8) = true := decide_eq_true c2
  have c2b1 : decide (a0.size ≤ 8) = true := decide_eq_true (by omega)
  clear c2
  replace H := Option.bind_eq_some_iff.mp H
  obtain ⟨t576, A30, H⟩ := H
  replace H : (some t576) = some r := H
  have A3 := Aside0.mk A30
  clear A30
  obtain rfl := Option.some.inj H
  go_enter Try.func64, Try.ntmps64
  go_wp2_with (first | (go_at_call 94; (with_reducible refine (qbV.calls k a0 t576 _ A3.out).mono ?_); rintro e w' ⟨rfl, ⟨nd, rfl⟩⟩))
  go_ret
  exact ⟨by first | rfl | (simp; done) | (simp [*]; done), by repeat (first | exact qaL.refl _ | apply qaL.step)⟩
 ·rw [if_neg c2] at H
  have c2b0 : decide ((a0.size : Int) ≤ 8) = false := decide_eq_false c2
  have c2b1 : decide (a0.size ≤ 8) = false := decide_eq_false (by omega)
  clear c2
  obtain rfl := Option.some.inj H
  go_enter Try.func64, Try.ntmps64
  go_wp2
  go_ret
  exact ⟨by first | rfl | (simp; done) | (simp [*]; done), by repeat (first | exact qaL.refl _ | apply qaL.step)⟩
end Go.Proofs.Ytgcncphdjabjjaa.X
namespace Go.Proofs.Ytgcncphdjabjjaa.X
open Go.RowKit Go.Proofs.YtgcncphdjabjjaaW.PrintWords Go.Proofs.YtgcncphdjabjjaaW.PrintLast Go.Proofs.YtgcncphdjabjjaaW.PrintMore
attribute [local go_sem] qaC qaD qaE qay qaz qaN qaO qat qau qaA qaB
set_option linter.unusedVariables false
set_option linter.unusedSimpArgs false
def qaX.f (k : Nat) (a0 : ByteArray) : Option (Bool) := if (a0.size : Int) ≤ 8 then ((qaK.f k a0).bind fun t587 => (some t587)) else (some false)
theorem qaX.mono : ∀ a0 k, LeO (qaX.f k a0) (qaX.f (k + 1) a0) := by
 intro a0 k
 unfold qaX.f
 repeat' first
   | (with_reducible exact qaK.mono _ _)
   | (with_reducible exact LeO.refl _)
   | (with_reducible exact LeO.none _)
   | (with_reducible refine LeO.ite ?_ ?_)
   | (with_reducible refine LeO.bind ?_ (fun _ => ?_))
   | exact qaK.mono _ _
   | exact LeO.none _
   | refine LeO.ite ?_ ?_
   | refine LeO.bind ?_ (fun _ => ?_)
set_option maxHeartbeats 8000000 in
set_option maxRecDepth 100000 in
theorem qaX.calls (k : Nat) (a0 : ByteArray) (r : Bool) (w : World) (h : qaX.f k a0 = some r) :
  Calls Try.prog 95 #[.string a0] w fun e w' => e = .returned (.bool r) ∧ qaL w w' := by
 have H : (if (a0.size : Int) ≤ 8 then ((qaK.f k a0).bind fun t587 => (some t587)) else (some false)) = some r := h
 clear h
 by_cases c2 : (a0.size : Int) ≤ 8
 ·rw [if_pos c2] at H
  have c2b0 : decide ((a0.size : Int) ≤ 8) = true := decide_eq_true c2
  have c2b1 : decide (a0.size ≤ 8) = true := decide_eq_true (by omega)
  clear c2
  replace H := Option.bind_eq_some_iff.mp H
  obtain ⟨t587, A30, H⟩ := H
  replace H : (some t587) = some r := H
  have A3 := Aside0.mk A30
  clear A30
  obtain rfl := Option.some.inj H
  go_enter Try.func95, Try.ntmps95
  go_wp2_with (first | (go_at_call 115; (with_reducible refine (qaK.calls k a0 t587 _ A3.out).mono ?_); rintro e w' ⟨rfl, ⟨nd, rfl⟩⟩))
  go_ret
  exact ⟨by first | rfl | (simp; done) | (simp [*]; done), by repeat (first | exact qaL.refl _ | apply qaL.step)⟩
 ·rw [if_neg c2] at H
  have c2b0 : decide ((a0.size : Int) ≤ 8) = false := decide_eq_false c2
  have c2b1 : decide (a0.size ≤ 8) = false := decide_eq_false (by omega)
  clear c2
  obtain rfl := Option.some.inj H
  go_enter Try.func95, Try.ntmps95
  go_wp2
  go_ret
  exact ⟨by first | rfl | (simp; done) | (simp [*]; done), by repeat (first | exact qaL.refl _ | apply qaL.step)⟩
end Go.Proofs.Ytgcncphdjabjjaa.X
namespace Go.Proofs.Ytgcncphdjabjjaa.X
open Go.RowKit Go.Proofs.YtgcncphdjabjjaaW.PrintWords Go.Proofs.YtgcncphdjabjjaaW.PrintLast Go.Proofs.YtgcncphdjabjjaaW.PrintMore
attribute [local go_sem] qaC qaD qaE qay qaz qaN qaO qat qau qaA qaB
set_option linter.unusedVariables false
set_option linter.unusedSimpArgs false
def qcV (s : ByteArray) : Bool := decide (s.size ≤ 8) && qdE s
theorem qe5 (s : ByteArray) : Ev (fun k => qbz.f k s) (qcV s) := by
 unfold qbz.f qcV
 by_cases h : s.size ≤ 8
 ·exact Ev.pos (by omega) (Ev.bind (qh4 s (by omega)) (Ev.is (by simp [h])))
 ·exact Ev.neg (by omega) (Ev.is (by simp [h]))
theorem qd8 (s : ByteArray) : Ev (fun k => qaX.f k s) (qcV s) := by
 unfold qaX.f qcV
 by_cases h : s.size ≤ 8
 ·exact Ev.pos (by omega) (Ev.bind (qh5 s (by omega)) (Ev.is (by simp [h])))
 ·exact Ev.neg (by omega) (Ev.is (by simp [h]))
end Go.Proofs.Ytgcncphdjabjjaa.X
namespace Go.Proofs.Ytgcncphdjabjjaa.X
open Go.RowKit Go.Proofs.YtgcncphdjabjjaaW.PrintWords Go.Proofs.YtgcncphdjabjjaaW.PrintLast Go.Proofs.YtgcncphdjabjjaaW.PrintMore
attribute [local go_sem] qaC qaD qaE qay qaz qaN qaO qat qau qaA qaB
set_option linter.unusedVariables false
set_option linter.unusedSimpArgs false
def qby.f (k : Nat) (a0 : ByteArray) (a1 : ByteArray) (a2 : Int) : Option (Bool) := (qaX.f k a0).bind fun t588 => (if t588 = true then ((qaX.f k a1).bind fun t589 => (if t589 = true then ((qba.f a2 0 4294967295).bind fun t590 => (some t590)) else (some false))) else (if a0.toList = ([] : List UInt8) then (if a2 = 0 then ((qaX.f k a1).bind fun t591 => (if t591 = true then ((qba.f a2 0 4294967295).bind fun t592 => (some t592)) else (some false))) else (some false)) else (some false)))
theorem qby.mono : ∀ a0 a1 a2 k, LeO (qby.f k a0 a1 a2) (qby.f (k + 1) a0 a1 a2) := by
 intro a0 a1 a2 k
 unfold qby.f
 repeat' first
   | (with_reducible exact qaX.mono _ _)
   | (with_reducible exact LeO.refl _)
   | (with_reducible exact LeO.none _)
   | (with_reducible refine LeO.ite ?_ ?_)
   | (with_reducible refine LeO.bind ?_ (fun _ => ?_))
   | exact qaX.mono _ _
   | exact LeO.none _
   | refine LeO.ite ?_ ?_
   | refine LeO.bind ?_ (fun _ => ?_)
set_option maxHeartbeats 8000000 in
set_option maxRecDepth 100000 in
theorem qby.calls (k : Nat) (a0 : ByteArray) (a1 : ByteArray) (a2 : Int) (r : Bool) (w : World) (h : qby.f k a0 a1 a2 = some r) :
  Calls Try.prog 66 #[.string a0, .string a1, .int .i64 a2] w fun e w' => e = .returned (.bool r) ∧ qaL w w' := by
 have H : ((qaX.f k a0).bind fun t588 => (if t588 = true then ((qaX.f k a1).bind fun t589 => (if t589 = true then ((qba.f a2 0 4294967295).bind fun t590 => (some t590)) else (some false))) else (if a0.toList = ([] : List UInt8) then (if a2 = 0 then ((qaX.f k a1).bind fun t591 => (if t591 = true then ((qba.f a2 0 4294967295).bind fun t592 => (some t592)) else (some false))) else (some false)) else (some false)))) = some r := h
 clear h
 replace H := Option.bind_eq_some_iff.mp H
 obtain ⟨t588, A40, H⟩ := H
 replace H : (if t588 = true then ((qaX.f k a1).bind fun t589 => (if t589 = true then ((qba.f a2 0 4294967295).bind fun t590 => (some t590)) else (some false))) else (if a0.toList = ([] : List UInt8) then (if a2 = 0 then ((qaX.f k a1).bind fun t591 => (if t591 = true then ((qba.f a2 0 4294967295).bind fun t592 => (some t592)) else (some false))) else (some false)) else (some false))) = some r := H
 have A4 := Aside0.mk A40
 clear A40
 by_cases c5 : t588 = true
 ·subst c5
  have H1 : ((qaX.f k a1).bind fun t589 => (if t589 = true then ((qba.f a2 0 4294967295).bind fun t590 => (some t590)) else (some false))) = some r := by rw [if_pos rfl] at H; exact H
  clear H
  have H := H1
  clear H1
  replace H := Option.bind_eq_some_iff.mp H
  obtain ⟨t589, A60, H⟩ := H
  replace H : (if t589 = true then ((qba.f a2 0 4294967295).bind fun t590 => (some t590)) else (some false)) = some r := H
  have A6 := Aside0.mk A60
  clear A60
  by_cases c7 : t589 = true
  ·subst c7
   have H1 : ((qba.f a2 0 4294967295).bind fun t590 => (some t590)) = some r := by rw [if_pos rfl] at H; exact H
   clear H
   have H := H1
   clear H1
   replace H := Option.bind_eq_some_iff.mp H
   obtain ⟨t590, A80, H⟩ := H
   replace H : (some t590) = some r := H
   have A8 := Aside0.mk A80
   clear A80
   obtain rfl := Option.some.inj H
   go_enter Try.func66, Try.ntmps66
   go_wp2_with (first | ((with_reducible refine qav (f := 95) rfl ?_); refine qbd (some 8) rfl rfl Try.func95 (by kernel_rfl) rfl #[.string a0] rfl (by (try simp only [List.map_toArray, List.map_cons, List.map_nil]); first | done | rfl | (simp only [List.length_drop, List.length_take]; rfl)) ?_; (with_reducible refine (qaX.calls k a0 true _ A4.out).mono ?_); rintro e w' ⟨rfl, ⟨nd, rfl⟩⟩; refine ⟨_, rfl, ?_⟩) | (go_at_call 95; (with_reducible refine (qaX.calls k a1 true _ A6.out).mono ?_); rintro e w' ⟨rfl, ⟨nd, rfl⟩⟩) | (go_at_call 67; (with_reducible refine (qba.calls a2 0 4294967295 t590 _ A8.out).mono ?_); rintro e w' ⟨rfl, ⟨nd, rfl⟩⟩))
   go_ret
   exact ⟨by first | rfl | (simp; done) | (simp [*]; done), by repeat (first | exact qaL.refl _ | apply qaL.step)⟩
  ·replace c7 := Bool.eq_false_iff.mpr c7
   subst c7
   have H1 : (some false) = some r := by rw [if_neg (show ¬ (false = true) by decide)] at H; exact H
   clear H
   have H := H1
   clear H1
   obtain rfl := Option.some.inj H
   go_enter Try.func66, Try.ntmps66
   go_wp2_with (first | ((with_reducible refine qav (f := 95) rfl ?_); refine qbd (some 8) rfl rfl Try.func95 (by kernel_rfl) rfl #[.string a0] rfl (by (try simp only [List.map_toArray, List.map_cons, List.map_nil]); first | done | rfl | (simp only [List.length_drop, List.length_take]; rfl)) ?_; (with_reducible refine (qaX.calls k a0 true _ A4.out).mono ?_); rintro e w' ⟨rfl, ⟨nd, rfl⟩⟩; refine ⟨_, rfl, ?_⟩) | (go_at_call 95; (with_reducible refine (qaX.calls k a1 false _ A6.out).mono ?_); rintro e w' ⟨rfl, ⟨nd, rfl⟩⟩))
   go_ret
   exact ⟨by first | rfl | (simp; done) | (simp [*]; done), by repeat (first | exact qaL.refl _ | apply qaL.step)⟩
 ·replace c5 := Bool.eq_false_iff.mpr c5
  subst c5
  have H1 : (if a0.toList = ([] : List UInt8) then (if a2 = 0 then ((qaX.f k a1).bind fun t591 => (if t591 = true then ((qba.f a2 0 4294967295).bind fun t592 => (some t592)) else (some false))) else (some false)) else (some false)) = some r := by rw [if_neg (show ¬ (false = true) by decide)] at H; exact H
  clear H
  have H := H1
  clear H1
  by_cases c9 : a0.toList = ([] : List UInt8)
  ·rw [if_pos c9] at H
   have c9b0 : (a0.toList == ([] : List UInt8)) = true := beq_iff_eq.mpr c9
   have c9b1 : (a0.toList != ([] : List UInt8)) = false := bne_eq_false_iff_eq.mpr c9
   clear c9
   by_cases c10 : a2 = 0
   ·rw [if_pos c10] at H
    have c10b0 : (a2 == 0) = true := beq_iff_eq.mpr c10
    have c10b1 : (a2 != 0) = false := bne_eq_false_iff_eq.mpr c10
    clear c10
    replace H := Option.bind_eq_some_iff.mp H
    obtain ⟨t591, A110, H⟩ := H
    replace H : (if t591 = true then ((qba.f a2 0 4294967295).bind fun t592 => (some t592)) else (some false)) = some r := H
    have A11 := Aside0.mk A110
    clear A110
    by_cases c12 : t591 = true
    ·subst c12
     have H1 : ((qba.f a2 0 4294967295).bind fun t592 => (some t592)) = some r := by rw [if_pos rfl] at H; exact H
     clear H
     have H := H1
     clear H1
     replace H := Option.bind_eq_some_iff.mp H
     obtain ⟨t592, A130, H⟩ := H
     replace H : (some t592) = some r := H
     have A13 := Aside0.mk A130
     clear A130
     obtain rfl := Option.some.inj H
     go_enter Try.func66, Try.ntmps66
     go_wp2_with (first | ((with_reducible refine qav (f := 95) rfl ?_); refine qbd (some 8) rfl rfl Try.func95 (by kernel_rfl) rfl #[.string a0] rfl (by (try simp only [List.map_toArray, List.map_cons, List.map_nil]); first | done | rfl | (simp only [List.length_drop, List.length_take]; rfl)) ?_; (with_reducible refine (qaX.calls k a0 false _ A4.out).mono ?_); rintro e w' ⟨rfl, ⟨nd, rfl⟩⟩; refine ⟨_, rfl, ?_⟩) | (go_at_call 95; (with_reducible refine (qaX.calls k a1 true _ A11.out).mono ?_); rintro e w' ⟨rfl, ⟨nd, rfl⟩⟩) | (go_at_call 67; (with_reducible refine (qba.calls a2 0 4294967295 t592 _ A13.out).mono ?_); rintro e w' ⟨rfl, ⟨nd, rfl⟩⟩))
     go_ret
     exact ⟨by first | rfl | (simp; done) | (simp [*]; done), by repeat (first | exact qaL.refl _ | apply qaL.step)⟩
    ·replace c12 := Bool.eq_false_iff.mpr c12
     subst c12
     have H1 : (some false) = some r := by rw [if_neg (show ¬ (false = true) by decide)] at H; exact H
     clear H
     have H := H1
     clear H1
     obtain rfl := Option.some.inj H
     go_enter Try.func66, Try.ntmps66
     go_wp2_with (first | ((with_reducible refine qav (f := 95) rfl ?_); refine qbd (some 8) rfl rfl Try.func95 (by kernel_rfl) rfl #[.string a0] rfl (by (try simp only [List.map_toArray, List.map_cons, List.map_nil]); first | done | rfl | (simp only [List.length_drop, List.length_take]; rfl)) ?_; (with_reducible refine (qaX.calls k a0 false _ A4.out).mono ?_); rintro e w' ⟨rfl, ⟨nd, rfl⟩⟩; refine ⟨_, rfl, ?_⟩) | (go_at_call 95; (with_reducible refine (qaX.calls k a1 false _ A11.out).mono ?_); rintro e w' ⟨rfl, ⟨nd, rfl⟩⟩))
     go_ret
     exact ⟨by first | rfl | (simp; done) | (simp [*]; done), by repeat (first | exact qaL.refl _ | apply qaL.step)⟩
   ·rw [if_neg c10] at H
    have c10b0 : (a2 == 0) = false := beq_eq_false_iff_ne.mpr c10
    have c10b1 : (a2 != 0) = true := bne_iff_ne.mpr c10
    obtain rfl := Option.some.inj H
    go_enter Try.func66, Try.ntmps66
    go_wp2_with (first | ((with_reducible refine qav (f := 95) rfl ?_); refine qbd (some 8) rfl rfl Try.func95 (by kernel_rfl) rfl #[.string a0] rfl (by (try simp only [List.map_toArray, List.map_cons, List.map_nil]); first | done | rfl | (simp only [List.length_drop, List.length_take]; rfl)) ?_; (with_reducible refine (qaX.calls k a0 false _ A4.out).mono ?_); rintro e w' ⟨rfl, ⟨nd, rfl⟩⟩; refine ⟨_, rfl, ?_⟩))
    go_ret
    exact ⟨by first | rfl | (simp; done) | (simp [*]; done), by repeat (first | exact qaL.refl _ | apply qaL.step)⟩
  ·rw [if_neg c9] at H
   have c9b0 : (a0.toList == ([] : List UInt8)) = false := beq_eq_false_iff_ne.mpr c9
   have c9b1 : (a0.toList != ([] : List UInt8)) = true := bne_iff_ne.mpr c9
   obtain rfl := Option.some.inj H
   go_enter Try.func66, Try.ntmps66
   go_wp2_with (first | ((with_reducible refine qav (f := 95) rfl ?_); refine qbd (some 8) rfl rfl Try.func95 (by kernel_rfl) rfl #[.string a0] rfl (by (try simp only [List.map_toArray, List.map_cons, List.map_nil]); first | done | rfl | (simp only [List.length_drop, List.length_take]; rfl)) ?_; (with_reducible refine (qaX.calls k a0 false _ A4.out).mono ?_); rintro e w' ⟨rfl, ⟨nd, rfl⟩⟩; refine ⟨_, rfl, ?_⟩))
   go_ret
   exact ⟨by first | rfl | (simp; done) | (simp [*]; done), by repeat (first | exact qaL.refl _ | apply qaL.step)⟩
end Go.Proofs.Ytgcncphdjabjjaa.X
namespace Go.Proofs.Ytgcncphdjabjjaa.X
open Go.RowKit Go.Proofs.YtgcncphdjabjjaaW.PrintWords Go.Proofs.YtgcncphdjabjjaaW.PrintLast Go.Proofs.YtgcncphdjabjjaaW.PrintMore
attribute [local go_sem] qaC qaD qaE qay qaz qaN qaO qat qau qaA qaB
set_option linter.unusedVariables false
set_option linter.unusedSimpArgs false
theorem qg7 {a : ByteArray} (h : a.toList = []) : qcV a = false := by
 have : a.size = 0 := by
  have h2 : a.data.toList.length = 0 := by rw [← ByteArray.toList_eq, h]; rfl
  rw [Array.length_toList] at h2
  exact h2
 simp [qcV, qdE, this]
def headB (a b : ByteArray) (n : Int) : Bool := if a.toList = [] then (qcV b && (inB n 0 4294967295 && decide (n = 0))) else (qcV a && (qcV b && inB n 0 4294967295))
theorem qh6 (a b : ByteArray) (n : Int) : Ev (fun k => qby.f k a b n) (headB a b n) := by
 unfold qby.f headB
 simp only [qhY, Option.bind_some]
 refine Ev.bind (qd8 a) ?_
 cases h1 : qcV a with
 | true =>
  have h2 : ¬ a.toList = [] := fun h => by rw [qg7 h] at h1; cases h1
  refine Ev.pos rfl (Ev.bind (qd8 b) ?_)
  cases h3 : qcV b with
  | true => exact Ev.pos rfl (Ev.is (by simp [h2]))
  | false => exact Ev.neg (by simp) (Ev.is (by simp [h2]))
 | false =>
  refine Ev.neg (by simp) ?_
  by_cases h2 : a.toList = []
  ·refine Ev.pos h2 ?_
   by_cases h4 : n = 0
   ·refine Ev.pos h4 (Ev.bind (qd8 b) ?_)
    cases h3 : qcV b with
    | true => exact Ev.pos rfl (Ev.is (by simp [h2, h4]))
    | false => exact Ev.neg (by simp) (Ev.is (by simp [h2]))
   ·exact Ev.neg h4 (Ev.is (by simp [h2, h4]))
  ·exact Ev.neg h2 (Ev.is (by simp [h2]))
end Go.Proofs.Ytgcncphdjabjjaa.X
namespace Go.Proofs.Ytgcncphdjabjjaa.X
open Go.RowKit Go.Proofs.YtgcncphdjabjjaaW.PrintWords Go.Proofs.YtgcncphdjabjjaaW.PrintLast Go.Proofs.YtgcncphdjabjjaaW.PrintMore
attribute [local go_sem] qaC qaD qaE qay qaz qaN qaO qat qau qaA qaB
set_option linter.unusedVariables false
set_option linter.unusedSimpArgs false
def qbP (l : List S82) (i : Nat) : Bool := qbU (qaf l i) && (decide (i = 0) || Op.bytesLess (qaf l ((i - 1 : Nat) : Int)).f0.toList (qaf l i).f0.toList)
def qdd (a b : ByteArray) (n : Int) (l : List S82) (s : Int) : Bool := headB a b n && (inB s 0 4294967295 && (decide (l.length ≤ 120) && allB (qbP l) l.length))
end Go.Proofs.Ytgcncphdjabjjaa.X
