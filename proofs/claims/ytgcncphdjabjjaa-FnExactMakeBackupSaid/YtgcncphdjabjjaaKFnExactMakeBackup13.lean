import Derived.Test.YtgcncphdjabjjaaKFnExactMakeBackup3
import Derived.Laws.BitsAllLaws
import Derived.Laws.BitsLemmas
import Derived.LoopTactic
import Derived.BigQuiet
import Derived.Shelf.Strings.Builder1
namespace Go.Proofs.Ytgcncphdjabjjaa.X
open Go.RowKit Go.Proofs.YtgcncphdjabjjaaW.PrintWords Go.Proofs.YtgcncphdjabjjaaW.PrintLast Go.Proofs.YtgcncphdjabjjaaW.PrintMore
attribute [local go_sem] qaT qaU qaV qaP qaQ qa3 qa4 qaJ qaK qaR qaS
set_option linter.unusedVariables false
set_option linter.unusedSimpArgs false
theorem Ev.succ {α : Type} {g : Nat → Option α} {r : α} (h : Ev (fun k => g (k + 1)) r) : Ev g r := Ev.step (fun _ => rfl) h
theorem Ev.pos {α : Type} {c : Prop} [Decidable c] {g f : Nat → Option α} {r : α} (hc : c) (h : Ev g r) : Ev (fun k => if c then g k else f k) r := Ev.congr (fun _ => if_pos hc) h
theorem Ev.neg {α : Type} {c : Prop} [Decidable c] {g f : Nat → Option α} {r : α} (hc : ¬ c) (h : Ev f r) : Ev (fun k => if c then g k else f k) r := Ev.congr (fun _ => if_neg hc) h
theorem Ev.is {α : Type} {o : Option α} {r : α} (h : o = some r) : Ev (fun _ => o) r := ⟨0, fun _ _ => h⟩
theorem Ev.bindk {α β : Type} {o : Option α} {f : Nat → α → Option β} {a : α} {r : β} (h : o = some a) (k : Ev (fun n => f n a) r) : Ev (fun n => o.bind (f n)) r := Ev.bind (g := fun _ => o) (Ev.is h) k
theorem Ev.same {α : Type} {g : Nat → Option α} {r r' : α} (h : Ev g r) (e : r = r') : Ev g r' := e ▸ h
theorem qcd {n : Nat} (h : n < 9223372036854775807) : wrap64 ((n : Int) + 1) = ((n + 1 : Nat) : Int) := by unfold wrap64; omega
theorem qbT {x : Int} (h0 : -9223372036854775808 ≤ x) (h1 : x ≤ 9223372036854775807) : wrap64 x = x := by unfold wrap64; omega
theorem set_mid {α : Type} (pre : List α) (x y : α) (rest : List α) : (pre ++ x :: rest).set pre.length y = pre ++ y :: rest := by simp
theorem qb8 {α : Type} (pre : List α) (x : α) : pre.length + 1 = (pre ++ [x]).length := by simp
theorem qdF : maxLen ≤ 9223372036854775807 := by unfold maxLen; decide
end Go.Proofs.Ytgcncphdjabjjaa.X
namespace Go.Proofs.Ytgcncphdjabjjaa.X
open Go.RowKit Go.Proofs.YtgcncphdjabjjaaW.PrintWords Go.Proofs.YtgcncphdjabjjaaW.PrintLast Go.Proofs.YtgcncphdjabjjaaW.PrintMore
attribute [local go_sem] qaT qaU qaV qaP qaQ qa3 qa4 qaJ qaK qaR qaS
set_option linter.unusedVariables false
set_option linter.unusedSimpArgs false
mutual
def qbr.l0 : Nat → Int → List Int → Int → Int → Option (Int)
 | 0, _, _, _, _ => none
 | k + 1, x3, x6, x7, x8 => if x8 < x7 then (if 0 ≤ x8 then (if x8 < (x6.length : Int) then (qbr.l1 k (Go.bits .xor .u32 x3 ((rd x6 x8) % 4294967296)) x6 x7 x8 0) else (none)) else (none)) else (some (wrap64 (Go.bits .xor .u32 IntKind.u32.max x3)))
def qbr.l1 : Nat → Int → List Int → Int → Int → Int → Option (Int)
 | 0, _, _, _, _, _ => none
 | k + 1, x3, x6, x7, x8, x16 => if x16 < 8 then (qbr.l1 k (Go.bits .xor .u32 (x3 / 2) ((3988292384 * (Go.bits .and .u32 x3 1)) % 4294967296)) x6 x7 x8 (wrap64 (x16 + 1))) else (qbr.l0 k x3 x6 x7 (wrap64 (x8 + 1)))
end
def qbr.f (k : Nat) (l0 : List Int) : Option (Int) := qbr.l0 k 4294967295 l0 (l0.length : Int) 0
theorem qbr.qbs : ∀ k, (∀ y0 y1 y2 y3, LeO (qbr.l0 k y0 y1 y2 y3) (qbr.l0 (k + 1) y0 y1 y2 y3)) ∧ (∀ y0 y1 y2 y3 y4, LeO (qbr.l1 k y0 y1 y2 y3 y4) (qbr.l1 (k + 1) y0 y1 y2 y3 y4))
 | 0 => ⟨fun _ _ _ _ r h => by simp [qbr.l0] at h, fun _ _ _ _ _ r h => by simp [qbr.l1] at h⟩
 | k + 1 => by
  obtain ⟨ih0, ih1⟩ := qbr.qbs k
  refine ⟨?_, ?_⟩
  ·intro y0 y1 y2 y3
   unfold qbr.l0
   repeat' first
   | (with_reducible exact ih0 _ _ _ _)
   | (with_reducible exact ih1 _ _ _ _ _)
   | (with_reducible exact LeO.refl _)
   | (with_reducible exact LeO.none _)
   | (with_reducible refine LeO.ite ?_ ?_)
   | (with_reducible refine LeO.bind ?_ (fun _ => ?_))
   | exact ih0 _ _ _ _
   | exact ih1 _ _ _ _ _
   | exact LeO.none _
   | refine LeO.ite ?_ ?_
   | refine LeO.bind ?_ (fun _ => ?_)
  ·intro y0 y1 y2 y3 y4
   unfold qbr.l1
   repeat' first
   | (with_reducible exact ih0 _ _ _ _)
   | (with_reducible exact ih1 _ _ _ _ _)
   | (with_reducible exact LeO.refl _)
   | (with_reducible exact LeO.none _)
   | (with_reducible refine LeO.ite ?_ ?_)
   | (with_reducible refine LeO.bind ?_ (fun _ => ?_))
   | exact ih0 _ _ _ _
   | exact ih1 _ _ _ _ _
   | exact LeO.none _
   | refine LeO.ite ?_ ?_
   | refine LeO.bind ?_ (fun _ => ?_)
theorem qbr.mono : ∀ a0 k, LeO (qbr.f k a0) (qbr.f (k + 1) a0) := by
 intro a0 k
 obtain ⟨ih0, ih1⟩ := qbr.qbs k
 unfold qbr.f
 repeat' first
   | (with_reducible exact ih0 _ _ _ _)
   | (with_reducible exact ih1 _ _ _ _ _)
   | (with_reducible exact LeO.refl _)
   | (with_reducible exact LeO.none _)
   | (with_reducible refine LeO.ite ?_ ?_)
   | (with_reducible refine LeO.bind ?_ (fun _ => ?_))
   | exact ih0 _ _ _ _
   | exact ih1 _ _ _ _ _
   | exact LeO.none _
   | refine LeO.ite ?_ ?_
   | refine LeO.bind ?_ (fun _ => ?_)
set_option maxHeartbeats 8000000 in
set_option maxRecDepth 100000 in
theorem qbr.calls (k : Nat) (A0 : Option Addr) (c0 : Nat) (l0 : List Int) (r : Int) (w : World) (hr0 : Kd.C (Kd.int .u8) w A0 l0.length l0) (hc0 : l0.length ≤ c0) (h : qbr.f k l0 = some r) :
  Calls Try.prog 107 #[.slice A0 l0.length c0] w fun e w' => e = .returned (.int .i64 r) ∧ Drawn0 w w' := by
 have HR0 := Aside0.mk hr0
 have HC0 := Aside0.mk hc0
 clear hr0 hc0
 have H : (qbr.l0 k 4294967295 l0 (l0.length : Int) 0) = some r := h
 clear h
 have H' := Aside0.mk H
 clear H
 go_enter Try.func107, Try.ntmps107
 go_wp2
 go_loopg [3, 8] k (fun kq v3 v8 w' => ∃ (x3_1 : Int) (x8_1 : Int), v3 = .int .u32 x3_1 ∧ v8 = .int .i64 x8_1 ∧ Aside0 (qbr.l0 kq x3_1 l0 (l0.length : Int) x8_1 = some r) ∧ Aside0 (kq ≤ k) ∧ Drawn0 w w')
 case atStart => exact ⟨(4294967295), (0), (by first | rfl | (simp; done) | (simp [*]; done)), (by first | rfl | (simp; done) | (simp [*]; done)), H', ⟨Nat.le_refl _⟩, by repeat (first | exact Drawn0.refl _ | apply Drawn0.step)⟩
 case round =>
  clear H'
  try clear c1
  obtain ⟨x3_1, x8_1, rfl, rfl, HA, HK1, ⟨m1, rfl⟩⟩ := hrel
  cases gk with
  | zero => exact absurd HA.out (by simp [qbr.l0])
  | succ k1 =>
   have H := HA.out
   clear HA
   simp only [qbr.l0] at H
   by_cases c2 : x8_1 < (l0.length : Int)
   ·rw [if_pos c2] at H
    have c2b0 : decide (x8_1 < (l0.length : Int)) = true := decide_eq_true c2
    clear c2
    by_cases c3 : 0 ≤ x8_1
    ·rw [if_pos c3] at H
     have c3b0 : decide (0 ≤ x8_1) = true := decide_eq_true c3
     clear c3
     by_cases c4 : x8_1 < (l0.length : Int)
     ·rw [if_pos c4] at H
      have c4b0 : decide (x8_1 < (l0.length : Int)) = true := decide_eq_true c4
      clear c4
      have H' := Aside0.mk H
      clear H
      have p155 : 0 ≤ (x8_1 : Int) := of_decide_eq_true (by first | (with_reducible assumption) | assumption)
      have q155 : x8_1 < (l0.length : Int) := of_decide_eq_true (by first | (with_reducible assumption) | assumption)
      obtain ⟨ad155, e155, hx155_0⟩ := Kd.at_int HR0.out x8_1 p155 q155
      cases e155
      replace p155 := eq_true p155
      replace q155 := eq_true q155
      go_wp2
      go_loopg [3, 16] k1 (fun kq v3 v16 w' => ∃ (x3_2 : Int) (x16_2 : Int), v3 = .int .u32 x3_2 ∧ v16 = .int .i64 x16_2 ∧ Aside0 (qbr.l1 kq x3_2 l0 (l0.length : Int) x8_1 x16_2 = some r) ∧ Aside0 (kq ≤ k1) ∧ Drawn0 w w')
      case atStart => exact ⟨(Go.bits .xor .u32 x3_1 ((rd l0 x8_1) % 4294967296)), (0), (by first | rfl | (simp; done) | (simp [*]; done)), (by first | rfl | (simp; done) | (simp [*]; done)), H', ⟨Nat.le_refl _⟩, by repeat (first | exact Drawn0.refl _ | apply Drawn0.step)⟩
      case round =>
       clear H'
       try clear c1
       try clear p1
       try clear q1
       try clear hx1
       try clear c2
       try clear c2b0
       try clear p2
       try clear c3
       try clear c3b0
       try clear c4
       try clear c4b0
       try clear hx155_0
       try clear p155
       try clear q155
       obtain ⟨x3_2, x16_2, rfl, rfl, HA, HK2, ⟨m2, rfl⟩⟩ := hrel
       cases gk with
       | zero => exact absurd HA.out (by simp [qbr.l1])
       | succ k2 =>
        have H := HA.out
        clear HA
        simp only [qbr.l1] at H
        by_cases c5 : x16_2 < 8
        ·rw [if_pos c5] at H
         have c5b0 : decide (x16_2 < 8) = true := decide_eq_true c5
         clear c5
         have H' := Aside0.mk H
         clear H
         go_wp2
         go_roundg k2
         case measure => have := HK1.out; have := HK2.out; omega
         case rel => exact ⟨(Go.bits .xor .u32 (x3_2 / 2) ((3988292384 * (Go.bits .and .u32 x3_2 1)) % 4294967296)), (wrap64 (x16_2 + 1)), (by first | rfl | (simp; done) | (simp [*]; done)), (by first | rfl | (simp; done) | (simp [*]; done)), H', ⟨by have := HK1.out; have := HK2.out; omega⟩, by repeat (first | exact Drawn0.refl _ | apply Drawn0.step)⟩
        ·rw [if_neg c5] at H
         have c5b0 : decide (x16_2 < 8) = false := decide_eq_false c5
         clear c5
         have H' := Aside0.mk H
         clear H
         go_wp2
         go_roundg k2
         case measure => have := HK1.out; have := HK2.out; omega
         case rel => exact ⟨(x3_2), (wrap64 (x8_1 + 1)), (by first | rfl | (simp; done) | (simp [*]; done)), (by first | rfl | (simp; done) | (simp [*]; done)), H', ⟨by have := HK1.out; have := HK2.out; omega⟩, by repeat (first | exact Drawn0.refl _ | apply Drawn0.step)⟩
     ·rw [if_neg c4] at H
      exact absurd H (by simp)
    ·rw [if_neg c3] at H
     exact absurd H (by simp)
   ·rw [if_neg c2] at H
    have c2b0 : decide (x8_1 < (l0.length : Int)) = false := decide_eq_false c2
    clear c2
    obtain rfl := Option.some.inj H
    go_wp2
    go_ret
    exact ⟨by first | rfl | (simp; done) | (simp [*]; done), by repeat (first | exact Drawn0.refl _ | apply Drawn0.step)⟩
end Go.Proofs.Ytgcncphdjabjjaa.X
namespace Go.Proofs.Ytgcncphdjabjjaa.X
open Go.RowKit Go.Proofs.YtgcncphdjabjjaaW.PrintWords Go.Proofs.YtgcncphdjabjjaaW.PrintLast Go.Proofs.YtgcncphdjabjjaaW.PrintMore
attribute [local go_sem] qaT qaU qaV qaP qaQ qa3 qa4 qaJ qaK qaR qaS
set_option linter.unusedVariables false
set_option linter.unusedSimpArgs false
def stepN (x : Nat) : Nat := (x / 2) ^^^ (3988292384 * (x % 2))
def step4 (x : Nat) : Nat := stepN (stepN (stepN (stepN x)))
def step8 (x : Nat) : Nat := step4 (step4 x)
def nib (r x : Nat) : Nat := (r / 16) ^^^ step4 ((r ^^^ x) % 16)
def crcF (r : Nat) : List Int → Nat
 | [] => r
 | c :: l => crcF (step8 (r ^^^ c.toNat)) l
theorem qfH (x y : Nat) : stepN (x ^^^ y) = stepN x ^^^ stepN y := by
 unfold stepN
 have e : (x ^^^ y) % 2 = (x % 2) ^^^ (y % 2) := Nat.xor_mod_two_pow (n := 1)
 rw [Nat.xor_div_two, e]
 rcases Nat.mod_two_eq_zero_or_one x with hx | hx <;> rcases Nat.mod_two_eq_zero_or_one y with hy | hy <;> rw [hx, hy]
 ·simp
 ·simp [Nat.xor_assoc]
 ·simp only [Nat.mul_one, Nat.mul_zero, Nat.xor_zero]
  rw [Nat.xor_assoc, Nat.xor_assoc, Nat.xor_comm (y / 2)]
 ·simp only [Nat.mul_one, Nat.mul_zero, Nat.xor_zero, Nat.xor_self]
  rw [Nat.xor_assoc, Nat.xor_comm 3988292384, Nat.xor_assoc, Nat.xor_self, Nat.xor_zero]
theorem qfI (x y : Nat) : step4 (x ^^^ y) = step4 x ^^^ step4 y := by
 unfold step4
 simp only [qfH]
theorem qcO (y : Nat) : stepN (2 * y) = y := by
 unfold stepN
 rw [show 2 * y / 2 = y by omega, show 2 * y % 2 = 0 by omega]
 simp
theorem qfh (q : Nat) : step4 (16 * q) = q := by
 unfold step4
 rw [show 16 * q = 2 * (2 * (2 * (2 * q))) by omega, qcO, qcO, qcO, qcO]
theorem split16 (r : Nat) : r = (16 * (r / 16)) ^^^ (r % 16) := by
 have hs : r % 16 < 2 ^ 4 := by omega
 have e : r = 2 ^ 4 * (r / 16) + r % 16 := by omega
 have e2 : 16 * (r / 16) = 2 ^ 4 * (r / 16) := by omega
 rw [e2]
 refine Nat.eq_of_testBit_eq fun j => ?_
 rw [Nat.testBit_xor, Nat.testBit_two_pow_mul]
 conv => lhs; rw [e, Nat.testBit_two_pow_mul_add _ hs]
 by_cases hj : j < 4
 ·simp [hj, show ¬ 4 ≤ j by omega]
 ·have hz : (r % 16).testBit j = false := Nat.testBit_lt_two_pow (Nat.lt_of_lt_of_le hs (Nat.pow_le_pow_right (by omega) (by omega)))
  rw [hz]
  simp [hj, show 4 ≤ j by omega]
theorem qe2 (r : Nat) : step4 r = (r / 16) ^^^ step4 (r % 16) := by
 conv => lhs; rw [split16 r]
 rw [qfI, qfh]
theorem qex (a b : Nat) : (a ^^^ b) / 16 = a / 16 ^^^ b / 16 := Nat.xor_div_two_pow (n := 4)
theorem qfJ (r c : Nat) (hc : c < 256) : step8 (r ^^^ c) = nib (nib r c) (c / 16) := by
 have h1 : step4 (r ^^^ c) = nib r c ^^^ c / 16 := by
  rw [qe2, qex]
  unfold nib
  rw [Nat.xor_assoc, Nat.xor_assoc, Nat.xor_comm (c / 16)]
 unfold step8
 rw [h1, qe2, qex, show c / 16 / 16 = 0 by omega, Nat.xor_zero]
 rfl
theorem qcP {x : Nat} (h : x < 4294967296) : stepN x < 4294967296 := by
 unfold stepN
 refine Nat.xor_lt_two_pow (n := 32) (by omega) ?_
 rcases Nat.mod_two_eq_zero_or_one x with hx | hx <;> rw [hx] <;> decide
theorem qdq {x : Nat} (h : x < 4294967296) : step4 x < 4294967296 := qcP (qcP (qcP (qcP h)))
theorem qe3 {x : Nat} (h : x < 4294967296) : step8 x < 4294967296 := qdq (qdq h)
def isByte (c : Int) : Prop := 0 ≤ c ∧ c < 256
theorem qcW {r : Nat} (h : r < 4294967296) {c : Int} (hc : isByte c) : r ^^^ c.toNat < 4294967296 := Nat.xor_lt_two_pow (n := 32) h (by have := hc.1; have := hc.2; omega)
theorem crcF_lt (l : List Int) : ∀ r, r < 4294967296 → (∀ c, c ∈ l → isByte c) → crcF r l < 4294967296 := by
 induction l with
 | nil => intro r h _; exact h
 | cons c l ih => intro r h hl; exact ih _ (qe3 (qcW h (hl c List.mem_cons_self))) fun x hx => hl x (List.mem_cons_of_mem _ hx)
theorem qeO (l m : List Int) : ∀ r, crcF r (l ++ m) = crcF (crcF r l) m := by
 induction l with
 | nil => intro r; rfl
 | cons c l ih => intro r; exact ih _
def sumOf32 (l : List Int) : Int := ((4294967295 ^^^ crcF 4294967295 l : Nat) : Int)
theorem qfK (n : Nat) (h : n < 4294967296) : Go.bits .xor .u32 ((n : Int) / 2) ((3988292384 * (Go.bits .and .u32 (n : Int) 1)) % 4294967296) = ((stepN n : Nat) : Int) := by
 have e1 : Go.bits .and .u32 (n : Int) 1 = ((n % 2 : Nat) : Int) := by
  have := u32_and_nat n 1 h (by decide)
  rw [Nat.and_one_is_mod] at this
  exact this
 rw [e1]
 have e2 : (3988292384 * ((n % 2 : Nat) : Int)) % 4294967296 = ((3988292384 * (n % 2) : Nat) : Int) := by
  rcases Nat.mod_two_eq_zero_or_one n with hx | hx <;> rw [hx] <;> decide
 have e3 : (n : Int) / 2 = ((n / 2 : Nat) : Int) := by omega
 rw [e2, e3, u32_xor_nat _ _ (by omega) (by rcases Nat.mod_two_eq_zero_or_one n with hx | hx <;> rw [hx] <;> decide)]
 rfl
def stepTimes : Nat → Nat → Nat
 | 0, x => x
 | d + 1, x => stepTimes d (stepN x)
theorem qfL (l : List Int) (n : Int) (i : Int) (d : Nat) : ∀ (x : Nat) (j : Nat) (R : Int), j + d = 8 → x < 4294967296 → Ev (fun k => qbr.l0 k ((stepTimes d x : Nat) : Int) l n (wrap64 (i + 1))) R → Ev (fun k => qbr.l1 k (x : Int) l n i (j : Int)) R := by
 induction d with
 | zero =>
  intro x j R hj _ h
  refine Ev.succ ?_
  simp only [qbr.l1]
  exact Ev.neg (by omega) h
 | succ d ih =>
  intro x j R hj hx h
  refine Ev.succ ?_
  simp only [qbr.l1, qfK x hx, qcd (n := j) (by omega)]
  exact Ev.pos (by omega) (ih _ (j + 1) R (by omega) (qcP hx) h)
theorem qfM (l : List Int) (hl : l.length < 9223372036854775807) (rest : List Int) : ∀ (pre : List Int) (r : Nat), l = pre ++ rest → r < 4294967296 → (∀ c, c ∈ rest → isByte c) →
  Ev (fun k => qbr.l0 k (r : Int) l (l.length : Int) ((pre.length : Nat) : Int)) ((4294967295 ^^^ crcF r rest : Nat) : Int) := by
 induction rest with
 | nil =>
  intro pre r h hr _
  refine Ev.succ ?_
  simp only [qbr.l0]
  have hx : 4294967295 ^^^ r < 4294967296 := Nat.xor_lt_two_pow (n := 32) (by decide) hr
  have e1 : Go.bits .xor .u32 IntKind.u32.max (r : Int) = ((4294967295 ^^^ r : Nat) : Int) := u32_xor_nat 4294967295 r (by decide) hr
  exact Ev.neg (by rw [h]; simp) (Ev.is (by rw [e1, qbT (by omega) (by omega)]; rfl))
 | cons c m ih =>
  intro pre r h hr hb
  have hc := hb c List.mem_cons_self
  have hlen : pre.length < l.length := by rw [h]; simp
  have hx : rd l ((pre.length : Nat) : Int) = c := by rw [h]; simp [rd, List.getD_eq_getElem?_getD]
  have hi := ih (pre ++ [c]) (step8 (r ^^^ c.toNat)) (by rw [h]; simp) (qe3 (qcW hr hc)) fun x hx => hb x (List.mem_cons_of_mem _ hx)
  rw [← qb8] at hi
  have e1 : Go.bits .xor .u32 (r : Int) (c % 4294967296) = ((r ^^^ c.toNat : Nat) : Int) := by
   have h1 := hc.1
   have h2 := hc.2
   have e : c % 4294967296 = ((c.toNat : Nat) : Int) := by omega
   rw [e, u32_xor_nat _ _ hr (by omega)]
  refine Ev.succ ?_
  simp only [qbr.l0, hx, e1]
  refine Ev.pos (by omega) (Ev.pos (by omega) (Ev.pos (by omega) ?_))
  refine qfL l _ _ 8 _ 0 _ rfl (qcW hr hc) ?_
  rw [qcd (n := pre.length) (by omega)]
  exact hi
theorem qeP (l : List Int) (hl : l.length < 9223372036854775807) (hb : ∀ c, c ∈ l → isByte c) : Ev (fun k => qbr.f k l) (sumOf32 l) := by
 unfold qbr.f
 exact qfM l hl l [] 4294967295 rfl (by decide) hb
end Go.Proofs.Ytgcncphdjabjjaa.X
namespace Go.Proofs.Ytgcncphdjabjjaa.X
open Go.RowKit Go.Proofs.YtgcncphdjabjjaaW.PrintWords Go.Proofs.YtgcncphdjabjjaaW.PrintLast Go.Proofs.YtgcncphdjabjjaaW.PrintMore
attribute [local go_sem] qaT qaU qaV qaP qaQ qa3 qa4 qaJ qaK qaR qaS
set_option linter.unusedVariables false
set_option linter.unusedSimpArgs false
set_option maxRecDepth 100000
def tabRow (i : Nat) : Array Value := ((List.range 16).map fun j => Value.int .i64 (if j < i then ((step4 j : Nat) : Int) else 0)).toArray
def itN : Nat → Nat → Nat
 | 0, x => x
 | k + 1, x => stepN (itN k x)
theorem itN_lt (k x : Nat) (h : x < 4294967296) : itN k x < 4294967296 := by
 induction k with
 | zero => exact h
 | succ k ih => exact qcP ih
theorem qcA (a b : Nat) (ha : a < 9223372036854775808) (hb : b < 9223372036854775808) : bits .xor .i64 (a : Int) (b : Int) = ((a ^^^ b : Nat) : Int) := by
 have h := Nat.xor_lt_two_pow (n := 63) ha hb
 show IntKind.i64.wrap ((BitVec.ofInt 64 (a : Int) ^^^ BitVec.ofInt 64 (b : Int)).toNat : Nat) = _
 rw [BitVec.toNat_xor, ofInt_u64 a (by omega), ofInt_u64 b (by omega), IntKind.wrap_i64]
 omega
theorem qdG (a b : Nat) (ha : a < 9223372036854775808) (hb : b < 9223372036854775808) : bits .and .i64 (a : Int) (b : Int) = ((a &&& b : Nat) : Int) := by
 have h := Nat.and_lt_two_pow a (n := 63) hb
 show IntKind.i64.wrap ((BitVec.ofInt 64 (a : Int) &&& BitVec.ofInt 64 (b : Int)).toNat : Nat) = _
 rw [BitVec.toNat_and, ofInt_u64 a (by omega), ofInt_u64 b (by omega), IntKind.wrap_i64]
 omega
theorem qeQ (n : Nat) (h : n < 4294967296) : bits .xor .i64 ((n : Int) / 2) (wrap64 (bits .and .i64 (n : Int) 1 * 3988292384)) = ((stepN n : Nat) : Int) := by
 have e1 : bits .and .i64 (n : Int) 1 = ((n % 2 : Nat) : Int) := by
  have := qdG n 1 (by omega) (by decide)
  rw [Nat.and_one_is_mod] at this
  exact this
 rw [e1]
 have e2 : wrap64 (((n % 2 : Nat) : Int) * 3988292384) = ((3988292384 * (n % 2) : Nat) : Int) := by
  have h1 : n % 2 ≤ 1 := by omega
  rw [qbT (by omega) (by omega)]
  omega
 have e3 : (n : Int) / 2 = ((n / 2 : Nat) : Int) := by omega
 rw [e2, e3, qcA _ _ (by omega) (by rcases Nat.mod_two_eq_zero_or_one n with hx | hx <;> rw [hx] <;> decide)]
 rfl
theorem qcE (i : Nat) (h : i < 16) (j : Nat) : (tabRow j)[i]? = some (.int .i64 (if i < j then ((step4 i : Nat) : Int) else 0)) := by
 unfold tabRow
 simp [h]
theorem qcX (j : Nat) : (tabRow j).size = 16 := by unfold tabRow; simp
theorem qfi (i : Nat) (h : i < 16) : (tabRow i).setIfInBounds i (.int .i64 ((step4 i : Nat) : Int)) = tabRow (i + 1) := by
 refine Array.ext_getElem? fun k => ?_
 rw [Array.getElem?_setIfInBounds, qcX]
 by_cases hk : k < 16
 ·rw [qcE k hk, qcE k hk]
  by_cases e : i = k
  ·subst e; simp [h]
  ·rw [if_neg e]
   by_cases h2 : k < i
   ·simp [h2, show k < i + 1 by omega]
   ·simp [h2, show ¬ k < i + 1 by omega]
 ·rw [if_neg (by omega)]
  rw [Array.getElem?_eq_none (by rw [qcX]; omega), Array.getElem?_eq_none (by rw [qcX]; omega)]
theorem blk_old2 (w : World) (o : Obj) (i : Nat) (h : i < w.heap.size) : (w.alloc o).heap[i]? = w.heap[i]? := by
 show (w.heap.push o)[i]? = _
 rw [Array.getElem?_push, if_neg (by omega)]
theorem qd5 (w : World) (A B : Obj) : ((w.alloc A).alloc B).heap[w.heap.size]? = some A ∧ ((w.alloc A).alloc B).heap[w.heap.size + 1]? = some B ∧ Below w.heap.size w ((w.alloc A).alloc B) := by
 have hs : (w.alloc A).heap.size = w.heap.size + 1 := (by show (w.heap.push A).size = _; rw [Array.size_push])
 refine ⟨?_, ?_, ?_⟩
 ·exact (blk_old2 (w.alloc A) B w.heap.size (by omega)).trans (qd9 w A)
 ·rw [← hs]; exact qd9 (w.alloc A) B
 ·exact ((Below.refl _ w).alloc (Nat.le_refl _) _).alloc (by omega) _
def set16 (w : World) (g : Nat) (y0 y1 y2 y3 y4 y5 y6 y7 y8 y9 y10 y11 y12 y13 y14 y15 : Int) : World := ((((((((((((((((w.setCell ⟨g, 0, none⟩ (.int .i64 y0)).setCell ⟨g, 1, none⟩ (.int .i64 y1)).setCell ⟨g, 2, none⟩ (.int .i64 y2)).setCell ⟨g, 3, none⟩ (.int .i64 y3)).setCell ⟨g, 4, none⟩ (.int .i64 y4)).setCell ⟨g, 5, none⟩ (.int .i64 y5)).setCell ⟨g, 6, none⟩ (.int .i64 y6)).setCell ⟨g, 7, none⟩ (.int .i64 y7)).setCell ⟨g, 8, none⟩ (.int .i64 y8)).setCell ⟨g, 9, none⟩ (.int .i64 y9)).setCell ⟨g, 10, none⟩ (.int .i64 y10)).setCell ⟨g, 11, none⟩ (.int .i64 y11)).setCell ⟨g, 12, none⟩ (.int .i64 y12)).setCell ⟨g, 13, none⟩ (.int .i64 y13)).setCell ⟨g, 14, none⟩ (.int .i64 y14)).setCell ⟨g, 15, none⟩ (.int .i64 y15))
theorem qfN {w : World} {g : Nat} {t : TypeId} (h : w.heap[g]? = some (.cells (tabRow 0) t (0, 0))) (y0 y1 y2 y3 y4 y5 y6 y7 y8 y9 y10 y11 y12 y13 y14 y15 : Int) : (set16 w g y0 y1 y2 y3 y4 y5 y6 y7 y8 y9 y10 y11 y12 y13 y14 y15).heap[g]? = some (.cells #[.int .i64 y0, .int .i64 y1, .int .i64 y2, .int .i64 y3, .int .i64 y4, .int .i64 y5, .int .i64 y6, .int .i64 y7, .int .i64 y8, .int .i64 y9, .int .i64 y10, .int .i64 y11, .int .i64 y12, .int .i64 y13, .int .i64 y14, .int .i64 y15] t (0, 0)) := by
 have h : w.heap[g]? = some (.cells #[.int .i64 0, .int .i64 0, .int .i64 0, .int .i64 0, .int .i64 0, .int .i64 0, .int .i64 0, .int .i64 0, .int .i64 0, .int .i64 0, .int .i64 0, .int .i64 0, .int .i64 0, .int .i64 0, .int .i64 0, .int .i64 0] t (0, 0)) := h
 exact (qaI (cs' := #[.int .i64 y0, .int .i64 y1, .int .i64 y2, .int .i64 y3, .int .i64 y4, .int .i64 y5, .int .i64 y6, .int .i64 y7, .int .i64 y8, .int .i64 y9, .int .i64 y10, .int .i64 y11, .int .i64 y12, .int .i64 y13, .int .i64 y14, .int .i64 y15]) (qaI (cs' := #[.int .i64 y0, .int .i64 y1, .int .i64 y2, .int .i64 y3, .int .i64 y4, .int .i64 y5, .int .i64 y6, .int .i64 y7, .int .i64 y8, .int .i64 y9, .int .i64 y10, .int .i64 y11, .int .i64 y12, .int .i64 y13, .int .i64 y14, .int .i64 0]) (qaI (cs' := #[.int .i64 y0, .int .i64 y1, .int .i64 y2, .int .i64 y3, .int .i64 y4, .int .i64 y5, .int .i64 y6, .int .i64 y7, .int .i64 y8, .int .i64 y9, .int .i64 y10, .int .i64 y11, .int .i64 y12, .int .i64 y13, .int .i64 0, .int .i64 0]) (qaI (cs' := #[.int .i64 y0, .int .i64 y1, .int .i64 y2, .int .i64 y3, .int .i64 y4, .int .i64 y5, .int .i64 y6, .int .i64 y7, .int .i64 y8, .int .i64 y9, .int .i64 y10, .int .i64 y11, .int .i64 y12, .int .i64 0, .int .i64 0, .int .i64 0]) (qaI (cs' := #[.int .i64 y0, .int .i64 y1, .int .i64 y2, .int .i64 y3, .int .i64 y4, .int .i64 y5, .int .i64 y6, .int .i64 y7, .int .i64 y8, .int .i64 y9, .int .i64 y10, .int .i64 y11, .int .i64 0, .int .i64 0, .int .i64 0, .int .i64 0]) (qaI (cs' := #[.int .i64 y0, .int .i64 y1, .int .i64 y2, .int .i64 y3, .int .i64 y4, .int .i64 y5, .int .i64 y6, .int .i64 y7, .int .i64 y8, .int .i64 y9, .int .i64 y10, .int .i64 0, .int .i64 0, .int .i64 0, .int .i64 0, .int .i64 0]) (qaI (cs' := #[.int .i64 y0, .int .i64 y1, .int .i64 y2, .int .i64 y3, .int .i64 y4, .int .i64 y5, .int .i64 y6, .int .i64 y7, .int .i64 y8, .int .i64 y9, .int .i64 0, .int .i64 0, .int .i64 0, .int .i64 0, .int .i64 0, .int .i64 0]) (qaI (cs' := #[.int .i64 y0, .int .i64 y1, .int .i64 y2, .int .i64 y3, .int .i64 y4, .int .i64 y5, .int .i64 y6, .int .i64 y7, .int .i64 y8, .int .i64 0, .int .i64 0, .int .i64 0, .int .i64 0, .int .i64 0, .int .i64 0, .int .i64 0]) (qaI (cs' := #[.int .i64 y0, .int .i64 y1, .int .i64 y2, .int .i64 y3, .int .i64 y4, .int .i64 y5, .int .i64 y6, .int .i64 y7, .int .i64 0, .int .i64 0, .int .i64 0, .int .i64 0, .int .i64 0, .int .i64 0, .int .i64 0, .int .i64 0]) (qaI (cs' := #[.int .i64 y0, .int .i64 y1, .int .i64 y2, .int .i64 y3, .int .i64 y4, .int .i64 y5, .int .i64 y6, .int .i64 0, .int .i64 0, .int .i64 0, .int .i64 0, .int .i64 0, .int .i64 0, .int .i64 0, .int .i64 0, .int .i64 0]) (qaI (cs' := #[.int .i64 y0, .int .i64 y1, .int .i64 y2, .int .i64 y3, .int .i64 y4, .int .i64 y5, .int .i64 0, .int .i64 0, .int .i64 0, .int .i64 0, .int .i64 0, .int .i64 0, .int .i64 0, .int .i64 0, .int .i64 0, .int .i64 0]) (qaI (cs' := #[.int .i64 y0, .int .i64 y1, .int .i64 y2, .int .i64 y3, .int .i64 y4, .int .i64 0, .int .i64 0, .int .i64 0, .int .i64 0, .int .i64 0, .int .i64 0, .int .i64 0, .int .i64 0, .int .i64 0, .int .i64 0, .int .i64 0]) (qaI (cs' := #[.int .i64 y0, .int .i64 y1, .int .i64 y2, .int .i64 y3, .int .i64 0, .int .i64 0, .int .i64 0, .int .i64 0, .int .i64 0, .int .i64 0, .int .i64 0, .int .i64 0, .int .i64 0, .int .i64 0, .int .i64 0, .int .i64 0]) (qaI (cs' := #[.int .i64 y0, .int .i64 y1, .int .i64 y2, .int .i64 0, .int .i64 0, .int .i64 0, .int .i64 0, .int .i64 0, .int .i64 0, .int .i64 0, .int .i64 0, .int .i64 0, .int .i64 0, .int .i64 0, .int .i64 0, .int .i64 0]) (qaI (cs' := #[.int .i64 y0, .int .i64 y1, .int .i64 0, .int .i64 0, .int .i64 0, .int .i64 0, .int .i64 0, .int .i64 0, .int .i64 0, .int .i64 0, .int .i64 0, .int .i64 0, .int .i64 0, .int .i64 0, .int .i64 0, .int .i64 0]) (qaI (cs' := #[.int .i64 y0, .int .i64 0, .int .i64 0, .int .i64 0, .int .i64 0, .int .i64 0, .int .i64 0, .int .i64 0, .int .i64 0, .int .i64 0, .int .i64 0, .int .i64 0, .int .i64 0, .int .i64 0, .int .i64 0, .int .i64 0]) h 0 _ rfl) 1 _ rfl) 2 _ rfl) 3 _ rfl) 4 _ rfl) 5 _ rfl) 6 _ rfl) 7 _ rfl) 8 _ rfl) 9 _ rfl) 10 _ rfl) 11 _ rfl) 12 _ rfl) 13 _ rfl) 14 _ rfl) 15 _ rfl)
theorem qeR {w a : World} {g B : Nat} (h : Below B a w) (hg : B ≤ g) (y0 y1 y2 y3 y4 y5 y6 y7 y8 y9 y10 y11 y12 y13 y14 y15 : Int) : Below B a (set16 w g y0 y1 y2 y3 y4 y5 y6 y7 y8 y9 y10 y11 y12 y13 y14 y15) := ((((((((((((((((h.setCell (p := ⟨g, 0, none⟩) hg _).setCell (p := ⟨g, 1, none⟩) hg _).setCell (p := ⟨g, 2, none⟩) hg _).setCell (p := ⟨g, 3, none⟩) hg _).setCell (p := ⟨g, 4, none⟩) hg _).setCell (p := ⟨g, 5, none⟩) hg _).setCell (p := ⟨g, 6, none⟩) hg _).setCell (p := ⟨g, 7, none⟩) hg _).setCell (p := ⟨g, 8, none⟩) hg _).setCell (p := ⟨g, 9, none⟩) hg _).setCell (p := ⟨g, 10, none⟩) hg _).setCell (p := ⟨g, 11, none⟩) hg _).setCell (p := ⟨g, 12, none⟩) hg _).setCell (p := ⟨g, 13, none⟩) hg _).setCell (p := ⟨g, 14, none⟩) hg _).setCell (p := ⟨g, 15, none⟩) hg _)
def tabZ (j : Nat) : Int := ((step4 j : Nat) : Int)
set_option maxHeartbeats 2000000 in
theorem qdQ (w : World) : Calls Try.prog 103 #[] w fun e w' => e = .returned (.agg (tabRow 16)) ∧ Below w.heap.size w w' := by
 go_enter Try.func103, Try.ntmps103
 go_wp2_with fail
 go_loopw [2] (fun v2 wr => ∃ i : Nat, i ≤ 16 ∧ v2 = .int .i64 i ∧ Aside0 (wr.heap[w.heap.size]? = some (.cells (tabRow 0) 122 (0, 0))) ∧ Aside0 (wr.heap[w.heap.size + 1]? = some (.cells (tabRow i) 122 (0, 0))) ∧ Aside0 (Below w.heap.size w wr)) (fun v2 _ => 16 - (intOf v2).toNat)
 case atStart =>
  have h := qd5 w (.cells (tabRow 0) 122 (0, 0)) (.cells (tabRow 0) 122 (0, 0))
  exact ⟨0, by omega, rfl, ⟨h.1⟩, ⟨h.2.1⟩, ⟨h.2.2⟩⟩
 case round =>
  obtain ⟨i, hi, rfl, HR, HT, HB⟩ := hrel
  by_cases hlt : i < 16
  ·have c0 : decide ((i : Int) < 16) = true := decide_eq_true (by omega)
   go_wp2_with fail
   go_loopw [3, 4] (fun v3 v4 w2 => ∃ k : Nat, k ≤ 4 ∧ v3 = .int .i64 ((itN k i : Nat) : Int) ∧ v4 = .int .i64 k ∧ w2 = wr) (fun v3 v4 _ => 4 - (intOf v4).toNat)
   case atStart => exact ⟨0, by omega, rfl, rfl, rfl⟩
   case round =>
    obtain ⟨k, hk, rfl, rfl, rfl⟩ := hrel
    have hx := itN_lt k i (by omega)
    by_cases hk2 : k < 4
    ·have c1 : decide ((k : Int) < 4) = true := decide_eq_true (by omega)
     generalize hX : itN k i = x at *
     go_wp2_with fail
     refine ⟨⟨k + 1, by omega, ?_, ?_, trivial⟩, ?_⟩
     ·rw [qeQ x hx, ← hX]; rfl
     ·rfl
     ·simp [intOf]; omega
    ·have e : k = 4 := by omega
     subst e
     have hs : itN 4 i = step4 i := rfl
     rw [hs] at *
     have hcell : wr.cell? ⟨w.heap.size + 1, i, none⟩ = some (.int .i64 0) := (qah HT.out i).trans (by rw [qcE i hlt]; simp)
     have hfz := qad HT.out i
     have p1 : (0 ≤ (i : Int)) = True := eq_true (by omega)
     have p2 : ((i : Int) < 16) = True := eq_true (by omega)
     generalize hX : step4 i = x at *
     go_wp2_with fail
     exact ⟨⟨i + 1, by omega, rfl, ⟨qbE HR.out (by show w.heap.size ≠ w.heap.size + 1; omega) _⟩, ⟨qaI HT.out i _ (by rw [← hX]; exact qfi i hlt)⟩, ⟨HB.out.setCell (p := ⟨w.heap.size + 1, i, none⟩) (by show w.heap.size ≤ w.heap.size + 1; omega) _⟩⟩, by simp [intOf]; omega⟩
  ·have e : i = 16 := by omega
   subst e
   have hc0 := (qah HT.out 0).trans (show (tabRow 16)[0]? = some (.int .i64 (tabZ 0)) from rfl)
   have hc1 := (qah HT.out 1).trans (show (tabRow 16)[1]? = some (.int .i64 (tabZ 1)) from rfl)
   have hc2 := (qah HT.out 2).trans (show (tabRow 16)[2]? = some (.int .i64 (tabZ 2)) from rfl)
   have hc3 := (qah HT.out 3).trans (show (tabRow 16)[3]? = some (.int .i64 (tabZ 3)) from rfl)
   have hc4 := (qah HT.out 4).trans (show (tabRow 16)[4]? = some (.int .i64 (tabZ 4)) from rfl)
   have hc5 := (qah HT.out 5).trans (show (tabRow 16)[5]? = some (.int .i64 (tabZ 5)) from rfl)
   have hc6 := (qah HT.out 6).trans (show (tabRow 16)[6]? = some (.int .i64 (tabZ 6)) from rfl)
   have hc7 := (qah HT.out 7).trans (show (tabRow 16)[7]? = some (.int .i64 (tabZ 7)) from rfl)
   have hc8 := (qah HT.out 8).trans (show (tabRow 16)[8]? = some (.int .i64 (tabZ 8)) from rfl)
   have hc9 := (qah HT.out 9).trans (show (tabRow 16)[9]? = some (.int .i64 (tabZ 9)) from rfl)
   have hc10 := (qah HT.out 10).trans (show (tabRow 16)[10]? = some (.int .i64 (tabZ 10)) from rfl)
   have hc11 := (qah HT.out 11).trans (show (tabRow 16)[11]? = some (.int .i64 (tabZ 11)) from rfl)
   have hc12 := (qah HT.out 12).trans (show (tabRow 16)[12]? = some (.int .i64 (tabZ 12)) from rfl)
   have hc13 := (qah HT.out 13).trans (show (tabRow 16)[13]? = some (.int .i64 (tabZ 13)) from rfl)
   have hc14 := (qah HT.out 14).trans (show (tabRow 16)[14]? = some (.int .i64 (tabZ 14)) from rfl)
   have hc15 := (qah HT.out 15).trans (show (tabRow 16)[15]? = some (.int .i64 (tabZ 15)) from rfl)
   have hf0 := qad HR.out 0
   have hf1 := qad HR.out 1
   have hf2 := qad HR.out 2
   have hf3 := qad HR.out 3
   have hf4 := qad HR.out 4
   have hf5 := qad HR.out 5
   have hf6 := qad HR.out 6
   have hf7 := qad HR.out 7
   have hf8 := qad HR.out 8
   have hf9 := qad HR.out 9
   have hf10 := qad HR.out 10
   have hf11 := qad HR.out 11
   have hf12 := qad HR.out 12
   have hf13 := qad HR.out 13
   have hf14 := qad HR.out 14
   have hf15 := qad HR.out 15
   have hd0 := (qah HR.out 0).trans (show (tabRow 0)[0]? = some (.int .i64 0) from rfl)
   have hd1 := (qah HR.out 1).trans (show (tabRow 0)[1]? = some (.int .i64 0) from rfl)
   have hd2 := (qah HR.out 2).trans (show (tabRow 0)[2]? = some (.int .i64 0) from rfl)
   have hd3 := (qah HR.out 3).trans (show (tabRow 0)[3]? = some (.int .i64 0) from rfl)
   have hd4 := (qah HR.out 4).trans (show (tabRow 0)[4]? = some (.int .i64 0) from rfl)
   have hd5 := (qah HR.out 5).trans (show (tabRow 0)[5]? = some (.int .i64 0) from rfl)
   have hd6 := (qah HR.out 6).trans (show (tabRow 0)[6]? = some (.int .i64 0) from rfl)
   have hd7 := (qah HR.out 7).trans (show (tabRow 0)[7]? = some (.int .i64 0) from rfl)
   have hd8 := (qah HR.out 8).trans (show (tabRow 0)[8]? = some (.int .i64 0) from rfl)
   have hd9 := (qah HR.out 9).trans (show (tabRow 0)[9]? = some (.int .i64 0) from rfl)
   have hd10 := (qah HR.out 10).trans (show (tabRow 0)[10]? = some (.int .i64 0) from rfl)
   have hd11 := (qah HR.out 11).trans (show (tabRow 0)[11]? = some (.int .i64 0) from rfl)
   have hd12 := (qah HR.out 12).trans (show (tabRow 0)[12]? = some (.int .i64 0) from rfl)
   have hd13 := (qah HR.out 13).trans (show (tabRow 0)[13]? = some (.int .i64 0) from rfl)
   have hd14 := (qah HR.out 14).trans (show (tabRow 0)[14]? = some (.int .i64 0) from rfl)
   have hd15 := (qah HR.out 15).trans (show (tabRow 0)[15]? = some (.int .i64 0) from rfl)
   have hy : tabRow 16 = #[.int .i64 (tabZ 0), .int .i64 (tabZ 1), .int .i64 (tabZ 2), .int .i64 (tabZ 3), .int .i64 (tabZ 4), .int .i64 (tabZ 5), .int .i64 (tabZ 6), .int .i64 (tabZ 7), .int .i64 (tabZ 8), .int .i64 (tabZ 9), .int .i64 (tabZ 10), .int .i64 (tabZ 11), .int .i64 (tabZ 12), .int .i64 (tabZ 13), .int .i64 (tabZ 14), .int .i64 (tabZ 15)] := rfl
   generalize tabZ 0 = y0 at *
   generalize tabZ 1 = y1 at *
   generalize tabZ 2 = y2 at *
   generalize tabZ 3 = y3 at *
   generalize tabZ 4 = y4 at *
   generalize tabZ 5 = y5 at *
   generalize tabZ 6 = y6 at *
   generalize tabZ 7 = y7 at *
   generalize tabZ 8 = y8 at *
   generalize tabZ 9 = y9 at *
   generalize tabZ 10 = y10 at *
   generalize tabZ 11 = y11 at *
   generalize tabZ 12 = y12 at *
   generalize tabZ 13 = y13 at *
   generalize tabZ 14 = y14 at *
   generalize tabZ 15 = y15 at *
   have HY := Aside0.mk hy
   clear hy
   go_wp2_with fail
   change bodyPost _ _ _ _ _ (set16 wr w.heap.size y0 y1 y2 y3 y4 y5 y6 y7 y8 y9 y10 y11 y12 y13 y14 y15)
   have BF := Aside0.mk (qfN HR.out y0 y1 y2 y3 y4 y5 y6 y7 y8 y9 y10 y11 y12 y13 y14 y15)
   have HB2 := Aside0.mk (qeR HB.out (Nat.le_refl _) y0 y1 y2 y3 y4 y5 y6 y7 y8 y9 y10 y11 y12 y13 y14 y15)
   generalize set16 wr w.heap.size y0 y1 y2 y3 y4 y5 y6 y7 y8 y9 y10 y11 y12 y13 y14 y15 = W at BF HB2 ⊢
   refine bodyPost_ret (results_cell_row rfl _ _ w.heap.size 122 #[.int .i64 y0, .int .i64 y1, .int .i64 y2, .int .i64 y3, .int .i64 y4, .int .i64 y5, .int .i64 y6, .int .i64 y7, .int .i64 y8, .int .i64 y9, .int .i64 y10, .int .i64 y11, .int .i64 y12, .int .i64 y13, .int .i64 y14, .int .i64 y15] (0, 0) _ rfl BF.out Try.underlying122 rfl (by kernel_rfl)) rfl ?_
   exact ⟨by rw [HY.out], HB2.out⟩
end Go.Proofs.Ytgcncphdjabjjaa.X
namespace Go.Proofs.Ytgcncphdjabjjaa.X
open Go.RowKit Go.Proofs.YtgcncphdjabjjaaW.PrintWords Go.Proofs.YtgcncphdjabjjaaW.PrintLast Go.Proofs.YtgcncphdjabjjaaW.PrintMore
attribute [local go_sem] qaT qaU qaV qaP qaQ qa3 qa4 qaJ qaK qaR qaS
set_option linter.unusedVariables false
set_option linter.unusedSimpArgs false
set_option maxRecDepth 100000
theorem qfO (l : List Int) (k : Nat) (h : k < l.length) (r : Nat) : crcF r (l.take (k + 1)) = step8 (crcF r (l.take k) ^^^ (rd l (k : Int)).toNat) := by
 have e : rd l (k : Int) = l[k] := by unfold rd; rw [Int.toNat_natCast]; simp [List.getD_eq_getElem?_getD, h]
 rw [List.take_succ_eq_append_getElem h, qeO, e]
 rfl
theorem nib_lt {x c : Nat} (h : x < 4294967296) : nib x c < 4294967296 := by
 unfold nib
 exact Nat.xor_lt_two_pow (n := 32) (by omega) (qdq (by omega))
theorem qe4 (x c : Nat) (h : x < 4294967296) (hc : c < 256) : bits .and .i64 (bits .xor .i64 (x : Int) (c : Int)) 15 = (((x ^^^ c) % 16 : Nat) : Int) := by
 have hx : x ^^^ c < 4294967296 := Nat.xor_lt_two_pow (n := 32) h (by omega)
 rw [qcA _ _ (by omega) (by omega)]
 have := qdG (x ^^^ c) 15 (by omega) (by decide)
 rw [show (15 : Nat) = 2 ^ 4 - 1 from rfl, Nat.and_two_pow_sub_one_eq_mod] at this
 exact this
theorem qe5 (x c : Nat) (h : x < 4294967296) : bits .xor .i64 ((x : Int) / 16) (tabZ ((x ^^^ c) % 16)) = ((nib x c : Nat) : Int) := by
 have e : (x : Int) / 16 = ((x / 16 : Nat) : Int) := by omega
 have h4 : step4 ((x ^^^ c) % 16) < 4294967296 := qdq (by omega)
 unfold tabZ
 rw [e, qcA _ _ (by omega) (by omega)]
 rfl
def qb9.f (l0 : List Int) : Option Int := if (∀ c, c ∈ l0 → 0 ≤ c ∧ c < 256) then some (sumOf32 l0) else none
set_option maxHeartbeats 2000000 in
theorem qb9.calls (A0 : Option Addr) (c0 : Nat) (l0 : List Int) (r : Int) (w : World) (hr0 : Kd.C (Kd.int .u8) w A0 l0.length l0) (hc0 : l0.length ≤ c0) (h : qb9.f l0 = some r) :
  Calls Try.prog 81 #[.slice A0 l0.length c0] w fun e w' => e = .returned (.int .i64 r) ∧ Below w.heap.size w w' := by
 unfold qb9.f at h
 by_cases hb : ∀ c, c ∈ l0 → 0 ≤ c ∧ c < 256
 ·rw [if_pos hb] at h
  obtain rfl := Option.some.inj h
  clear h
  have hm : l0.length ≤ 9223372036854775807 := hr0.2.1
  have HR := Aside0.mk hr0
  have HY := Aside0.mk hb
  clear hr0 hb
  have hy : tabRow 16 = #[.int .i64 (tabZ 0), .int .i64 (tabZ 1), .int .i64 (tabZ 2), .int .i64 (tabZ 3), .int .i64 (tabZ 4), .int .i64 (tabZ 5), .int .i64 (tabZ 6), .int .i64 (tabZ 7), .int .i64 (tabZ 8), .int .i64 (tabZ 9), .int .i64 (tabZ 10), .int .i64 (tabZ 11), .int .i64 (tabZ 12), .int .i64 (tabZ 13), .int .i64 (tabZ 14), .int .i64 (tabZ 15)] := rfl
  generalize tabZ 0 = y0 at *
  generalize tabZ 1 = y1 at *
  generalize tabZ 2 = y2 at *
  generalize tabZ 3 = y3 at *
  generalize tabZ 4 = y4 at *
  generalize tabZ 5 = y5 at *
  generalize tabZ 6 = y6 at *
  generalize tabZ 7 = y7 at *
  generalize tabZ 8 = y8 at *
  generalize tabZ 9 = y9 at *
  generalize tabZ 10 = y10 at *
  generalize tabZ 11 = y11 at *
  generalize tabZ 12 = y12 at *
  generalize tabZ 13 = y13 at *
  generalize tabZ 14 = y14 at *
  generalize tabZ 15 = y15 at *
  have HT := Aside0.mk hy
  clear hy
  go_enter Try.func81, Try.ntmps81
  go_wp2_with fail
  refine (qdQ w).mono ?_
  rintro e w1 ⟨rfl, hb1⟩
  rw [HT.out]
  go_wp2_with fail
  have HG := Aside0.mk (show (w1.alloc (.cells #[.int .i64 y0, .int .i64 y1, .int .i64 y2, .int .i64 y3, .int .i64 y4, .int .i64 y5, .int .i64 y6, .int .i64 y7, .int .i64 y8, .int .i64 y9, .int .i64 y10, .int .i64 y11, .int .i64 y12, .int .i64 y13, .int .i64 y14, .int .i64 y15] 122 (0, 0))).heap[w1.heap.size]? = some (.cells (tabRow 16) 122 (0, 0)) from by rw [HT.out]; exact qd9 _ _)
  have HB := Aside0.mk (show Below w.heap.size w (w1.alloc (.cells #[.int .i64 y0, .int .i64 y1, .int .i64 y2, .int .i64 y3, .int .i64 y4, .int .i64 y5, .int .i64 y6, .int .i64 y7, .int .i64 y8, .int .i64 y9, .int .i64 y10, .int .i64 y11, .int .i64 y12, .int .i64 y13, .int .i64 y14, .int .i64 y15] 122 (0, 0))) from hb1.alloc (qau hb1) _)
  generalize w1.alloc (.cells #[.int .i64 y0, .int .i64 y1, .int .i64 y2, .int .i64 y3, .int .i64 y4, .int .i64 y5, .int .i64 y6, .int .i64 y7, .int .i64 y8, .int .i64 y9, .int .i64 y10, .int .i64 y11, .int .i64 y12, .int .i64 y13, .int .i64 y14, .int .i64 y15] 122 (0, 0)) = w2 at HG HB ⊢
  generalize w1.heap.size = g at HG ⊢
  clear hb1
  go_loopw [4, 5] (fun v4 v5 wr => ∃ k : Nat, k ≤ l0.length ∧ v4 = .int .i64 ((crcF 4294967295 (l0.take k) : Nat) : Int) ∧ v5 = .int .i64 k ∧ wr = w2) (fun v4 v5 _ => l0.length - (intOf v5).toNat)
  case atStart => exact ⟨0, Nat.zero_le _, rfl, rfl, rfl⟩
  case round =>
   obtain ⟨k, hk, rfl, rfl, rfl⟩ := hrel
   have hxl : crcF 4294967295 (l0.take k) < 4294967296 := crcF_lt _ _ (by decide) fun c hc => HY.out c (List.mem_of_mem_take hc)
   by_cases hlt : k < l0.length
   ·have c1 : decide ((k : Int) < (l0.length : Int)) = true := decide_eq_true (by omega)
    have p1 : 0 ≤ (k : Int) := by omega
    have q1 : (k : Int) < (l0.length : Int) := by omega
    obtain ⟨ad, e, hx⟩ := Kd.at_int HR.out (k : Int) p1 q1
    cases e
    have hmem : rd l0 (k : Int) ∈ l0 := by
     have e : rd l0 (k : Int) = l0[k] := by unfold rd; rw [Int.toNat_natCast]; simp [List.getD_eq_getElem?_getD, hlt]
     rw [e]; exact List.getElem_mem hlt
    have hbyte := HY.out _ hmem
    have hstep := qfO l0 k hlt 4294967295
    obtain ⟨c, hc⟩ : ∃ c : Nat, rd l0 (k : Int) = (c : Int) := ⟨(rd l0 (k : Int)).toNat, by omega⟩
    rw [hc] at hx hbyte hstep
    rw [Int.toNat_natCast] at hx hstep
    have hc2 : c < 256 := by omega
    rw [qfJ _ _ hc2] at hstep
    replace hx := (HB.out.cell (World.block_lt_of_cell? w _ hx)).trans hx
    have HS := Aside0.mk hstep
    clear hstep hbyte hmem
    generalize crcF 4294967295 (l0.take k) = x at hxl HS ⊢
    replace p1 := eq_true p1
    replace q1 := eq_true q1
    have hn1 : nib x c < 4294967296 := nib_lt hxl
    have hn2 : nib (nib x c) (c / 16) < 4294967296 := nib_lt hn1
    have e1 := qe4 x c hxl (by omega)
    have e2 := qe5 x c hxl
    have ed : (c : Int) / 16 = ((c / 16 : Nat) : Int) := by omega
    have e3 := qe4 (nib x c) (c / 16) hn1 (by omega)
    have e4 := qe5 (nib x c) (c / 16) hn1
    have y16 : (x ^^^ c) % 16 < 16 := Nat.mod_lt _ (by decide)
    have z16 : (nib x c ^^^ (c / 16)) % 16 < 16 := Nat.mod_lt _ (by decide)
    have hcy : wr.cell? ⟨g, (x ^^^ c) % 16, none⟩ = some (.int .i64 (tabZ ((x ^^^ c) % 16))) := (qah HG.out _).trans (by rw [qcE _ y16, if_pos y16]; rfl)
    have hcz : wr.cell? ⟨g, (nib x c ^^^ (c / 16)) % 16, none⟩ = some (.int .i64 (tabZ ((nib x c ^^^ (c / 16)) % 16))) := (qah HG.out _).trans (by rw [qcE _ z16, if_pos z16]; rfl)
    generalize nib (nib x c) (c / 16) = n2 at *
    generalize nib x c = n1 at *
    generalize c / 16 = d at *
    generalize (x ^^^ c) % 16 = y at *
    generalize (n1 ^^^ d) % 16 = z at *
    generalize tabZ y = ty at *
    generalize tabZ z = tz at *
    have r1 : (0 ≤ (y : Int)) = True := eq_true (by omega)
    have r2 : ((y : Int) < 16) = True := eq_true (by omega)
    have r3 : (0 ≤ (z : Int)) = True := eq_true (by omega)
    have r4 : ((z : Int) < 16) = True := eq_true (by omega)
    go_wp2_with fail
    exact ⟨⟨k + 1, by omega, by rw [HS.out], rfl, trivial⟩, by simp [intOf]; omega⟩
   ·have e : k = l0.length := by omega
    have c1 : decide ((k : Int) < (l0.length : Int)) = false := decide_eq_false (by omega)
    have e9 : crcF 4294967295 (l0.take k) = crcF 4294967295 l0 := by rw [e, List.take_length]
    rw [e9] at hxl ⊢
    have e1 : bits .xor .i64 ((crcF 4294967295 l0 : Nat) : Int) 4294967295 = sumOf32 l0 := by
     have := qcA (crcF 4294967295 l0) 4294967295 (by omega) (by decide)
     rw [Nat.xor_comm] at this
     exact this
    generalize hS : sumOf32 l0 = s at e1
    generalize crcF 4294967295 l0 = x at e1 ⊢
    go_wp2_with fail
    go_ret
    exact ⟨by rw [hS]; rfl, HB.out⟩
 ·rw [if_neg hb] at h
  cases h
end Go.Proofs.Ytgcncphdjabjjaa.X
namespace Go.Proofs.Ytgcncphdjabjjaa.X
open Go.RowKit Go.Proofs.YtgcncphdjabjjaaW.PrintWords Go.Proofs.YtgcncphdjabjjaaW.PrintLast Go.Proofs.YtgcncphdjabjjaaW.PrintMore
attribute [local go_sem] qaT qaU qaV qaP qaQ qa3 qa4 qaJ qaK qaR qaS
set_option linter.unusedVariables false
set_option linter.unusedSimpArgs false
open Go.Shelf
def qcQ : Go.Shelf.Ren := ⟨fun | 166 => 83 | 167 => 106 | 240 => 105 | 276 => 118 | 169 => 86 | n => n, fun | 0 => 0 | 3 => 3 | 4 => 4 | 5 => 5 | 9 => 9 | 20 => 20 | 37 => 52 | 70 => 100 | 72 => 102 | 75 => 104 | 164 => 135 | 127 => 126 | 80 => 92 | n => n, fun n => n⟩
theorem Trybld167 : Go.Proofs.Lays.n167 Try.prog qcQ := {
 mixed := by kernel_rfl
 f167 := Try.func106.trans (congrArg some (by kernel_rfl))
 f240 := Try.func105.trans (congrArg some (by kernel_rfl))
 f276 := Try.func118.trans (congrArg some (by kernel_rfl))
 t0 := Try.underlying0
 a0 := Try.isAgg0
 z0 := Try.sizeOf0
 v0 := Try.zeroValue0
 t4 := Try.underlying4
 a4 := Try.isAgg4
 z4 := Try.sizeOf4
 v4 := Try.zeroValue4
 t5 := Try.underlying5
 a5 := Try.isAgg5
 z5 := Try.sizeOf5
 v5 := Try.zeroValue5
 t9 := Try.underlying9
 a9 := Try.isAgg9
 z9 := Try.sizeOf9
 v9 := Try.zeroValue9
 t20 := Try.underlying20
 a20 := Try.isAgg20
 z20 := Try.sizeOf20
 v20 := Try.zeroValue20
 t37 := Try.underlying52
 a37 := Try.isAgg52
 z37 := Try.sizeOf52
 v37 := Try.zeroValue52
 t70 := Try.underlying100
 a70 := Try.isAgg100
 z70 := Try.sizeOf100
 v70 := Try.zeroValue100
 t72 := Try.underlying102
 a72 := Try.isAgg102
 z72 := Try.sizeOf102
 v72 := Try.zeroValue102
 t75 := Try.underlying104
 a75 := Try.isAgg104
 z75 := Try.sizeOf104
 v75 := Try.zeroValue104
 t164 := Try.underlying135
 a164 := Try.isAgg135
 z164 := Try.sizeOf135
 v164 := Try.zeroValue135 }
theorem Trybld169 : Go.Proofs.Lays.n169 Try.prog qcQ := {
 mixed := by kernel_rfl
 f169 := Try.func86.trans (congrArg some (by kernel_rfl))
 t0 := Try.underlying0
 a0 := Try.isAgg0
 z0 := Try.sizeOf0
 v0 := Try.zeroValue0
 t3 := Try.underlying3
 a3 := Try.isAgg3
 z3 := Try.sizeOf3
 v3 := Try.zeroValue3
 t9 := Try.underlying9
 a9 := Try.isAgg9
 z9 := Try.sizeOf9
 v9 := Try.zeroValue9
 t37 := Try.underlying52
 a37 := Try.isAgg52
 z37 := Try.sizeOf52
 v37 := Try.zeroValue52
 t70 := Try.underlying100
 a70 := Try.isAgg100
 z70 := Try.sizeOf100
 v70 := Try.zeroValue100
 t72 := Try.underlying102
 a72 := Try.isAgg102
 z72 := Try.sizeOf102
 v72 := Try.zeroValue102
 t127 := Try.underlying126
 a127 := Try.isAgg126
 z127 := Try.sizeOf126
 v127 := Try.zeroValue126 }
theorem Trybld166 : Go.Proofs.Lays.n166 Try.prog qcQ := {
 mixed := by kernel_rfl
 f166 := Try.func83.trans (congrArg some (by kernel_rfl))
 f240 := Try.func105.trans (congrArg some (by kernel_rfl))
 f276 := Try.func118.trans (congrArg some (by kernel_rfl))
 t0 := Try.underlying0
 a0 := Try.isAgg0
 z0 := Try.sizeOf0
 v0 := Try.zeroValue0
 t3 := Try.underlying3
 a3 := Try.isAgg3
 z3 := Try.sizeOf3
 v3 := Try.zeroValue3
 t4 := Try.underlying4
 a4 := Try.isAgg4
 z4 := Try.sizeOf4
 v4 := Try.zeroValue4
 t9 := Try.underlying9
 a9 := Try.isAgg9
 z9 := Try.sizeOf9
 v9 := Try.zeroValue9
 t20 := Try.underlying20
 a20 := Try.isAgg20
 z20 := Try.sizeOf20
 v20 := Try.zeroValue20
 t37 := Try.underlying52
 a37 := Try.isAgg52
 z37 := Try.sizeOf52
 v37 := Try.zeroValue52
 t70 := Try.underlying100
 a70 := Try.isAgg100
 z70 := Try.sizeOf100
 v70 := Try.zeroValue100
 t72 := Try.underlying102
 a72 := Try.isAgg102
 z72 := Try.sizeOf102
 v72 := Try.zeroValue102
 t75 := Try.underlying104
 a75 := Try.isAgg104
 z75 := Try.sizeOf104
 v75 := Try.zeroValue104
 t164 := Try.underlying135
 a164 := Try.isAgg135
 z164 := Try.sizeOf135
 v164 := Try.zeroValue135 }
theorem TrybldX : Builder.Extra Try.prog qcQ := {
 sizeBuilder := by kernel_rfl
 liesBuilder := by kernel_rfl
 t5 := Try.underlying5
 a5 := Try.isAgg5
 z5 := Try.sizeOf5
 v5 := Try.zeroValue5
 infoByte := by kernel_rfl
 cellsByte := by kernel_rfl
 sizeByte := by kernel_rfl
 neB5 := by decide }
end Go.Proofs.Ytgcncphdjabjjaa.X
