import Derived.Test.YtlkdcicpaneakaaKFnExactReplayAll2
import Derived.Test.YtlkdcicpaneakaaKFnExactReplayAll6
import Derived.Test.YtlkdcicpaneakaaKFnExactReplayAll8
import Derived.Test.YtlkdcicpaneakaaKFnExactReplayAll10
import Derived.Test.YtlkdcicpaneakaaKFnExactReplayAll11
import Derived.LoopTactic
import Derived.WalkSpells
import Derived.Deep.RegionHeld3
namespace Go.Proofs.Ytlkdcicpaneakaa.X
open Go.RowKit Go.Proofs.YtlkdcicpaneakaaW.PrintWords Go.Proofs.YtlkdcicpaneakaaW.PrintLast Go.Proofs.YtlkdcicpaneakaaW.PrintMore
attribute [local go_sem] qaA qaB qaC qaw qax qaH qaI qap qaq qay qaz
set_option linter.unusedVariables false
set_option linter.unusedSimpArgs false
def qau.l0 : Nat → Int → ByteArray → Option (ByteArray)
 | 0, _, _ => none
 | k + 1, x0, x3 => if x0 > 0 then ((some (([(wrap64 (48 + (Int.tmod x0 10))) % 256] : List Int) : List Int)).bind fun y425 => (if (strOfNums y425).size + x3.size ≤ 9223372036854775807 then (qau.l0 k (wrap64 (Int.tdiv x0 10)) ((strOfNums y425) ++ x3)) else (none))) else (if 1 + x3.size ≤ 9223372036854775807 then (some ((⟨#[109]⟩ : ByteArray) ++ x3)) else (none))
def qau.f (k : Nat) (a0 : Int) : Option (ByteArray) := if a0 ≤ 0 then (some (⟨#[109, 48]⟩ : ByteArray)) else (qau.l0 k a0 (⟨#[]⟩ : ByteArray))
theorem qau.qbA : ∀ k, (∀ y0 y1, LeO (qau.l0 k y0 y1) (qau.l0 (k + 1) y0 y1))
 | 0 => fun _ _ r h => by simp [qau.l0] at h
 | k + 1 => by
  have ih0 := qau.qbA k
  ·intro y0 y1
   unfold qau.l0
   repeat' first
   | (with_reducible exact ih0 _ _)
   | (with_reducible exact LeO.refl _)
   | (with_reducible exact LeO.none _)
   | (with_reducible refine LeO.ite ?_ ?_)
   | (with_reducible refine LeO.bind ?_ (fun _ => ?_))
   | exact ih0 _ _
   | exact LeO.none _
   | refine LeO.ite ?_ ?_
   | refine LeO.bind ?_ (fun _ => ?_)
theorem qau.mono : ∀ a0 k, LeO (qau.f k a0) (qau.f (k + 1) a0) := by
 intro a0 k
 have ih0 := qau.qbA k
 unfold qau.f
 repeat' first
   | (with_reducible exact ih0 _ _)
   | (with_reducible exact LeO.refl _)
   | (with_reducible exact LeO.none _)
   | (with_reducible refine LeO.ite ?_ ?_)
   | (with_reducible refine LeO.bind ?_ (fun _ => ?_))
   | exact ih0 _ _
   | exact LeO.none _
   | refine LeO.ite ?_ ?_
   | refine LeO.bind ?_ (fun _ => ?_)
set_option maxHeartbeats 8000000 in
set_option maxRecDepth 100000 in
theorem qau.calls (k : Nat) (a0 : Int) (r : ByteArray) (w : World) (h : qau.f k a0 = some r) :
  Calls Try.prog 24 #[.int .i64 a0] w fun e w' => e = .returned (.string r) ∧ Below w.heap.size w w' := by
 have HB := Aside0.mk (Below.refl w.heap.size w)
 have H : (if a0 ≤ 0 then (some (⟨#[109, 48]⟩ : ByteArray)) else (qau.l0 k a0 (⟨#[]⟩ : ByteArray))) = some r := h
 clear h
 by_cases c2 : a0 ≤ 0
 ·rw [if_pos c2] at H
  have c2b0 : decide (a0 ≤ 0) = true := decide_eq_true c2
  clear c2
  obtain rfl := Option.some.inj H
  go_enter Try.func24, Try.ntmps24
  go_wp2
  go_ret
  exact ⟨by first | rfl | (simp [qam, qan] <;> rfl) | (simp [*, qam, qan] <;> rfl), by repeat (first | (with_reducible first | exact HB.out | apply qac | apply qaa | apply qab) | exact HB.out)⟩
 ·rw [if_neg c2] at H
  have c2b0 : decide (a0 ≤ 0) = false := decide_eq_false c2
  clear c2
  have H' := Aside0.mk H
  clear H
  go_enter Try.func24, Try.ntmps24
  go_wp2
  go_loopg [0, 3] k (fun kq v0 v3 w' => ∃ (x0_1 : Int) (x3_1 : ByteArray), v0 = .int .i64 x0_1 ∧ v3 = .string x3_1 ∧ Aside0 (qau.l0 kq x0_1 x3_1 = some r) ∧ Aside0 (kq ≤ k) ∧ Aside0 (Below w.heap.size w w'))
  case atStart => exact ⟨(a0), ((⟨#[]⟩ : ByteArray)), (by first | rfl | (simp; done) | (simp [*]; done)), (by first | rfl | (simp; done) | (simp [*]; done)), H', ⟨Nat.le_refl _⟩, ⟨by repeat (first | (with_reducible first | exact HB.out | apply qac | apply qaa | apply qab) | exact HB.out)⟩⟩
  case round =>
   clear H'
   try clear c2
   try clear c2b0
   try clear p2
   obtain ⟨x0_1, x3_1, rfl, rfl, HA, HK1, HB⟩ := hrel
   cases gk with
   | zero => exact absurd HA.out (by simp [qau.l0])
   | succ k1 =>
    have H := HA.out
    clear HA
    simp only [qau.l0] at H
    by_cases c3 : x0_1 > 0
    ·rw [if_pos c3] at H
     have c3b0 : decide (0 < x0_1) = true := decide_eq_true c3
     clear c3
     obtain ⟨y425, hy425⟩ : ∃ y_ : List Int, y_ = (([(wrap64 (48 + (Int.tmod x0_1 10))) % 256] : List Int)) := ⟨_, rfl⟩
     replace H : (if (strOfNums y425).size + x3_1.size ≤ 9223372036854775807 then (qau.l0 k1 (wrap64 (Int.tdiv x0_1 10)) ((strOfNums y425) ++ x3_1)) else (none)) = some r := by first | (rw [hy425]; with_reducible exact H) | (have H2_ := (Option.bind_some _ _).symm.trans H; rw [hy425]; with_reducible exact H2_) | (have H2_ := (Option.bind_some _ _).symm.trans H; with_reducible exact H2_) | with_reducible exact H | (rw [hy425]; exact H) | exact H
     have Ny425 := Aside0.mk hy425
     clear hy425
     by_cases c4 : (strOfNums y425).size + x3_1.size ≤ 9223372036854775807
     ·rw [if_pos c4] at H
      have c4b0 := eq_true c4
      have c4b1 : decide ((strOfNums y425).size + x3_1.size ≤ 9223372036854775807) = true := decide_eq_true c4
      try have c4b2 : (9223372036854775807 < (strOfNums y425).size + x3_1.size) = False := eq_false (Nat.not_lt.2 c4)
      have H' := Aside0.mk H
      clear H
      go_wp2_with (first | ((with_reducible refine qaM (N := 12) rfl ?_); refine Kd.qdN (Kd.int .u8) _ 5 ?hg (N := 12) ?hd (xs := ([(wrap64 (48 + (Int.tmod x0_1 10))) % 256] : List Int)) (inner := [.int .u8 ((wrap64 (48 + (Int.tmod x0_1 10))) % 256)]) (ok := fun _ => True) (okp := fun _ => True) ?hr ?hp (fun _ hk => hk) trivial (Below.refl _ _) (Nat.le_refl _) (by simp) ?_; (case hd => rfl); (case hg => rfl); (case hr => first | (go_simp; done) | (go_simp; rfl)); (case hp => exact (Reps.one (show Kd.M (Kd.int .u8) _ _ _ ((wrap64 (48 + (Int.tmod x0_1 10))) % 256) [.int .u8 ((wrap64 (48 + (Int.tmod x0_1 10))) % 256)] from rfl) (Reps.none _ _))); intro v426 w5 ho6 hb hg_ hnew_; clear hg_ hnew_; (first | rw [← Ny425.out] at ho6 | (simp only [Int.reduceToNat] at ho6; rw [← Ny425.out] at ho6)); have n0_ := Aside0.mk (Kd.qbh ho6 (qak (by repeat (first | (with_reducible first | exact HB.out | apply qac | apply qaa | apply qab) | exact HB.out)))); have n1_ := Aside0.mk (qag (by repeat (first | (with_reducible first | exact HB.out | apply qac | apply qaa | apply qab) | exact HB.out)) hb); clear HB; have HO427 := n0_; have HB := n1_; clear n0_ n1_ hb ho6; have hcv7 := qfH (P := Try.prog) Try.underlying59 Try.underlying5 Try.underlying9 (Kd.qel HO427.out)))
      go_roundg k1
      case measure => have := HK1.out; omega
      case rel => exact ⟨(wrap64 (Int.tdiv x0_1 10)), ((strOfNums y425) ++ x3_1), (by first | rfl | (simp; done) | (simp [*]; done)), (by first | rfl | (simp; done) | (simp [*]; done)), H', ⟨by have := HK1.out; omega⟩, ⟨by repeat (first | (with_reducible first | exact HB.out | apply qac | apply qaa | apply qab) | exact HB.out)⟩⟩
     ·rw [if_neg c4] at H
      exact absurd H (by simp)
    ·rw [if_neg c3] at H
     have c3b0 : decide (0 < x0_1) = false := decide_eq_false c3
     clear c3
     by_cases c8 : 1 + x3_1.size ≤ 9223372036854775807
     ·rw [if_pos c8] at H
      have c8b0 := eq_true c8
      have c8b1 : decide (1 + x3_1.size ≤ 9223372036854775807) = true := decide_eq_true c8
      try have c8b2 : (9223372036854775807 < 1 + x3_1.size) = False := eq_false (Nat.not_lt.2 c8)
      obtain rfl := Option.some.inj H
      go_wp2
      go_ret
      exact ⟨by first | rfl | (simp [qam, qan] <;> rfl) | (simp [*, qam, qan] <;> rfl), by repeat (first | (with_reducible first | exact HB.out | apply qac | apply qaa | apply qab) | exact HB.out)⟩
     ·rw [if_neg c8] at H
      exact absurd H (by simp)
theorem qgI (n : Nat) : ∀ (a : Int) (acc : ByteArray), a.toNat ≤ n → 0 ≤ a → a ≤ 4611686018427387904 → acc.size + n ≤ 4611686018427387905 → ∃ s, Ev (fun k => qau.l0 k a acc) s := by
 induction n with
 | zero =>
  intro a acc h h0 h1 h2
  refine ⟨(⟨#[109]⟩ : ByteArray) ++ acc, Ev.succ ?_⟩
  simp only [qau.l0]
  exact Ev.neg (by omega) (Ev.pos (by omega) (Ev.is rfl))
 | succ n ih =>
  intro a acc h h0 h1 h2
  by_cases hz : a > 0
  ·have e : wrap64 (Int.tdiv a 10) = a / 10 := by
    rw [Int.tdiv_eq_ediv_of_nonneg h0]
    exact qby (by omega) (by omega)
   have hsz : ∀ b : Int, (strOfNums [b]).size = 1 := fun b => by simp [strOfNums, ByteArray.size]
   obtain ⟨s, hs⟩ := ih (a / 10) (strOfNums [(wrap64 (48 + Int.tmod a 10)) % 256] ++ acc) (by omega) (by omega) (by omega) (by rw [ByteArray.size_append, hsz]; omega)
   refine ⟨s, Ev.succ ?_⟩
   simp only [qau.l0, Option.bind_some]
   refine Ev.pos hz (Ev.pos (by rw [hsz]; omega) ?_)
   rw [e]
   exact hs
  ·refine ⟨(⟨#[109]⟩ : ByteArray) ++ acc, Ev.succ ?_⟩
   simp only [qau.l0]
   exact Ev.neg hz (Ev.pos (by omega) (Ev.is rfl))
theorem qfn (a : Int) (h : a ≤ 4611686018427387904) : ∃ s, Ev (fun k => qau.f k a) s := by
 unfold qau.f
 by_cases hz : a ≤ 0
 ·exact ⟨_, Ev.pos hz (Ev.is rfl)⟩
 ·obtain ⟨s, hs⟩ := qgI a.toNat a (⟨#[]⟩ : ByteArray) (Nat.le_refl _) (by omega) h (by simp [ByteArray.size]; omega)
  exact ⟨s, Ev.neg hz hs⟩
noncomputable def mt (a : Int) : ByteArray := if h : a ≤ 4611686018427387904 then (qfn a h).choose else ByteArray.empty
theorem qgJ {a : Int} (h : a ≤ 4611686018427387904) : Ev (fun k => qau.f k a) (mt a) := by
 unfold mt
 rw [dif_pos h]
 exact (qfn a h).choose_spec
def qaW.l0 : Nat → List (S56) → Int → Int → Option (Int × (List (S56)))
 | 0, _, _, _ => none
 | k + 1, x0, x1, x5 => if x5 < (x0.length : Int) then ((qau.f k x1).bind fun t428 => (if 0 ≤ x5 then ((some (x0.set (x5 : Int).toNat (⟨t428, (qaf x0 x5).f1, (qaf x0 x5).f2, (qaf x0 x5).f3, (qaf x0 x5).f4⟩ : S56) : List (S56))).bind fun y429 => ((qau.f k (wrap64 (x1 + 1))).bind fun t430 => ((some (y429.set (x5 : Int).toNat (⟨(qaf y429 x5).f0, t430, (qaf y429 x5).f2, (qaf y429 x5).f3, (qaf y429 x5).f4⟩ : S56) : List (S56))).bind fun y431 => ((qau.f k (wrap64 ((wrap64 (x1 + 1)) + 1))).bind fun t432 => ((some (y431.set (x5 : Int).toNat (⟨(qaf y431 x5).f0, (qaf y431 x5).f1, t432, (qaf y431 x5).f3, (qaf y431 x5).f4⟩ : S56) : List (S56))).bind fun y433 => ((some (y433.set (x5 : Int).toNat (⟨(qaf y433 x5).f0, (qaf y433 x5).f1, (qaf y433 x5).f2, ((Int.tmod (wrap64 ((wrap64 ((wrap64 (x1 + 1)) + 1)) + 1)) 3) == 0), (qaf y433 x5).f4⟩ : S56) : List (S56))).bind fun y434 => (qaW.l0 k (y434.set (x5 : Int).toNat (⟨(qaf y434 x5).f0, (qaf y434 x5).f1, (qaf y434 x5).f2, (qaf y434 x5).f3, ((Int.tmod (wrap64 ((wrap64 ((wrap64 ((wrap64 (x1 + 1)) + 1)) + 1)) + 1)) 3) == 0)⟩ : S56)) (wrap64 ((wrap64 ((wrap64 ((wrap64 ((wrap64 (x1 + 1)) + 1)) + 1)) + 1)) + 1)) (wrap64 (x5 + 1))))))))) else (none))) else (some (x1, x0))
def qaW.f (k : Nat) (l0 : List (S56)) (a1 : Int) : Option (Int × (List (S56))) := qaW.l0 k l0 a1 0
theorem qaW.qbA : ∀ k, (∀ y0 y1 y2, LeO (qaW.l0 k y0 y1 y2) (qaW.l0 (k + 1) y0 y1 y2))
 | 0 => fun _ _ _ r h => by simp [qaW.l0] at h
 | k + 1 => by
  have ih0 := qaW.qbA k
  ·intro y0 y1 y2
   unfold qaW.l0
   repeat' first
   | (with_reducible exact ih0 _ _ _)
   | (with_reducible exact qau.mono _ _)
   | (with_reducible exact LeO.refl _)
   | (with_reducible exact LeO.none _)
   | (with_reducible refine LeO.ite ?_ ?_)
   | (with_reducible refine LeO.bind ?_ (fun _ => ?_))
   | exact ih0 _ _ _
   | exact qau.mono _ _
   | exact LeO.none _
   | refine LeO.ite ?_ ?_
   | refine LeO.bind ?_ (fun _ => ?_)
set_option maxHeartbeats 8000000 in
set_option maxRecDepth 100000 in
theorem qaW.calls (k : Nat) (P0_ : Nat → Prop) (u9000_ : Value) (l0 : List (S56)) (a1 : Int) (r1 : Int) (r2 : List (S56)) (w0 w : World) (hB : Below w0.heap.size w0 w) (ho0 : Kd.R k56 56 w w0.heap.size P0_ u9000_ l0) (h : qaW.f k l0 a1 = some (r1, r2)) :
  Calls Try.prog 25 #[u9000_, .int .i64 a1] w fun e w' => e = .returned (.int .i64 r1) ∧ Kd.R k56 56 w' w0.heap.size (fun k_ => (P0_ k_ ∨ w.heap.size ≤ k_)) u9000_ r2 ∧ Below w0.heap.size w0 w' ∧ Kept w w' (fun k_ => P0_ k_) := by
 have HO0 := Aside0.mk (show Kd.R k56 56 w w0.heap.size (fun k_ => (P0_ k_ ∨ w.heap.size ≤ k_)) u9000_ l0 from Kd.qbr ho0 (fun k_ hk => (.inl hk)))
 have HK := Aside0.mk (Kept.refl w (fun k_ => P0_ k_))
 have HW0 := Aside0.mk hB.size
 have HB := Aside0.mk hB
 clear hB
 have H : (qaW.l0 k l0 a1 0) = some (r1, r2) := h
 clear h
 have H' := Aside0.mk H
 clear H
 go_enter Try.func25, Try.ntmps25
 go_wp2
 go_loopg [1, 5] k (fun kq v1 v5 w' => ∃ (x0_1 : List (S56)) (x1_1 : Int) (x5_1 : Int), v1 = .int .i64 x1_1 ∧ v5 = .int .i64 x5_1 ∧ Aside0 (qaW.l0 kq x0_1 x1_1 x5_1 = some (r1, r2)) ∧ Aside0 (kq ≤ k) ∧ Aside0 (Kd.R k56 56 w' w0.heap.size (fun k_ => (P0_ k_ ∨ w.heap.size ≤ k_)) u9000_ x0_1) ∧ Aside0 (Kept w w' (fun k_ => P0_ k_)) ∧ Aside0 (Below w0.heap.size w0 w'))
 case atStart => exact ⟨(l0), (a1), (0), (by first | rfl | (simp; done) | (simp [*]; done)), (by first | rfl | (simp; done) | (simp [*]; done)), H', ⟨Nat.le_refl _⟩, ⟨by (with_reducible repeat (first | apply Kd.qar | apply Kd.qas | apply Kd.qaD)); exact HO0.out⟩, ⟨by repeat (first | (with_reducible first | exact HK.out | apply Kept.alloc | apply Kept.drewN | apply Kept.drew) | exact HK.out)⟩, ⟨by repeat (first | (with_reducible first | exact HB.out | apply qac | apply qaa | apply qab) | exact HB.out)⟩⟩
 case round =>
  clear H'
  try clear c2
  try clear p2
  obtain ⟨x0_1, x1_1, x5_1, rfl, rfl, HA, HK1, HO_0, HK, HB⟩ := hrel
  cases gk with
  | zero => exact absurd HA.out (by simp [qaW.l0])
  | succ k1 =>
   have H := HA.out
   clear HA
   simp only [qaW.l0] at H
   by_cases c3 : x5_1 < (x0_1.length : Int)
   ·rw [if_pos c3] at H
    have c3b0 : decide (x5_1 < (x0_1.length : Int)) = true := decide_eq_true c3
    clear c3
    replace H := Option.bind_eq_some_iff.mp H
    obtain ⟨t428, A40, H⟩ := H
    try dsimp only at H
    have A4 := Aside0.mk A40
    clear A40
    by_cases c5 : 0 ≤ x5_1
    ·rw [if_pos c5] at H
     have c5b0 : decide (0 ≤ x5_1) = true := decide_eq_true c5
     clear c5
     obtain ⟨y429, hy429⟩ : ∃ y_ : List (S56), y_ = (x0_1.set (x5_1 : Int).toNat (⟨t428, (qaf x0_1 x5_1).f1, (qaf x0_1 x5_1).f2, (qaf x0_1 x5_1).f3, (qaf x0_1 x5_1).f4⟩ : S56)) := ⟨_, rfl⟩
     replace H : ((qau.f k1 (wrap64 (x1_1 + 1))).bind fun t430 => ((some (y429.set (x5_1 : Int).toNat (⟨(qaf y429 x5_1).f0, t430, (qaf y429 x5_1).f2, (qaf y429 x5_1).f3, (qaf y429 x5_1).f4⟩ : S56) : List (S56))).bind fun y431 => ((qau.f k1 (wrap64 ((wrap64 (x1_1 + 1)) + 1))).bind fun t432 => ((some (y431.set (x5_1 : Int).toNat (⟨(qaf y431 x5_1).f0, (qaf y431 x5_1).f1, t432, (qaf y431 x5_1).f3, (qaf y431 x5_1).f4⟩ : S56) : List (S56))).bind fun y433 => ((some (y433.set (x5_1 : Int).toNat (⟨(qaf y433 x5_1).f0, (qaf y433 x5_1).f1, (qaf y433 x5_1).f2, ((Int.tmod (wrap64 ((wrap64 ((wrap64 (x1_1 + 1)) + 1)) + 1)) 3) == 0), (qaf y433 x5_1).f4⟩ : S56) : List (S56))).bind fun y434 => (qaW.l0 k1 (y434.set (x5_1 : Int).toNat (⟨(qaf y434 x5_1).f0, (qaf y434 x5_1).f1, (qaf y434 x5_1).f2, (qaf y434 x5_1).f3, ((Int.tmod (wrap64 ((wrap64 ((wrap64 ((wrap64 (x1_1 + 1)) + 1)) + 1)) + 1)) 3) == 0)⟩ : S56)) (wrap64 ((wrap64 ((wrap64 ((wrap64 ((wrap64 (x1_1 + 1)) + 1)) + 1)) + 1)) + 1)) (wrap64 (x5_1 + 1)))))))) = some (r1, r2) := by first | (rw [hy429]; with_reducible exact H) | (have H2_ := (Option.bind_some _ _).symm.trans H; rw [hy429]; with_reducible exact H2_) | (have H2_ := (Option.bind_some _ _).symm.trans H; with_reducible exact H2_) | with_reducible exact H | (rw [hy429]; exact H) | exact H
     have Ny429 := Aside0.mk hy429
     clear hy429
     replace H := Option.bind_eq_some_iff.mp H
     obtain ⟨t430, A70, H⟩ := H
     try dsimp only at H
     have A7 := Aside0.mk A70
     clear A70
     obtain ⟨y431, hy431⟩ : ∃ y_ : List (S56), y_ = (y429.set (x5_1 : Int).toNat (⟨(qaf y429 x5_1).f0, t430, (qaf y429 x5_1).f2, (qaf y429 x5_1).f3, (qaf y429 x5_1).f4⟩ : S56)) := ⟨_, rfl⟩
     replace H : ((qau.f k1 (wrap64 ((wrap64 (x1_1 + 1)) + 1))).bind fun t432 => ((some (y431.set (x5_1 : Int).toNat (⟨(qaf y431 x5_1).f0, (qaf y431 x5_1).f1, t432, (qaf y431 x5_1).f3, (qaf y431 x5_1).f4⟩ : S56) : List (S56))).bind fun y433 => ((some (y433.set (x5_1 : Int).toNat (⟨(qaf y433 x5_1).f0, (qaf y433 x5_1).f1, (qaf y433 x5_1).f2, ((Int.tmod (wrap64 ((wrap64 ((wrap64 (x1_1 + 1)) + 1)) + 1)) 3) == 0), (qaf y433 x5_1).f4⟩ : S56) : List (S56))).bind fun y434 => (qaW.l0 k1 (y434.set (x5_1 : Int).toNat (⟨(qaf y434 x5_1).f0, (qaf y434 x5_1).f1, (qaf y434 x5_1).f2, (qaf y434 x5_1).f3, ((Int.tmod (wrap64 ((wrap64 ((wrap64 ((wrap64 (x1_1 + 1)) + 1)) + 1)) + 1)) 3) == 0)⟩ : S56)) (wrap64 ((wrap64 ((wrap64 ((wrap64 ((wrap64 (x1_1 + 1)) + 1)) + 1)) + 1)) + 1)) (wrap64 (x5_1 + 1)))))) = some (r1, r2) := by first | (rw [hy431]; with_reducible exact H) | (have H2_ := (Option.bind_some _ _).symm.trans H; rw [hy431]; with_reducible exact H2_) | (have H2_ := (Option.bind_some _ _).symm.trans H; with_reducible exact H2_) | with_reducible exact H | (rw [hy431]; exact H) | exact H
     have Ny431 := Aside0.mk hy431
     clear hy431
     replace H := Option.bind_eq_some_iff.mp H
     obtain ⟨t432, A90, H⟩ := H
     try dsimp only at H
     have A9 := Aside0.mk A90
     clear A90
     obtain ⟨y433, hy433⟩ : ∃ y_ : List (S56), y_ = (y431.set (x5_1 : Int).toNat (⟨(qaf y431 x5_1).f0, (qaf y431 x5_1).f1, t432, (qaf y431 x5_1).f3, (qaf y431 x5_1).f4⟩ : S56)) := ⟨_, rfl⟩
     replace H : ((some (y433.set (x5_1 : Int).toNat (⟨(qaf y433 x5_1).f0, (qaf y433 x5_1).f1, (qaf y433 x5_1).f2, ((Int.tmod (wrap64 ((wrap64 ((wrap64 (x1_1 + 1)) + 1)) + 1)) 3) == 0), (qaf y433 x5_1).f4⟩ : S56) : List (S56))).bind fun y434 => (qaW.l0 k1 (y434.set (x5_1 : Int).toNat (⟨(qaf y434 x5_1).f0, (qaf y434 x5_1).f1, (qaf y434 x5_1).f2, (qaf y434 x5_1).f3, ((Int.tmod (wrap64 ((wrap64 ((wrap64 ((wrap64 (x1_1 + 1)) + 1)) + 1)) + 1)) 3) == 0)⟩ : S56)) (wrap64 ((wrap64 ((wrap64 ((wrap64 ((wrap64 (x1_1 + 1)) + 1)) + 1)) + 1)) + 1)) (wrap64 (x5_1 + 1)))) = some (r1, r2) := by first | (rw [hy433]; with_reducible exact H) | (have H2_ := (Option.bind_some _ _).symm.trans H; rw [hy433]; with_reducible exact H2_) | (have H2_ := (Option.bind_some _ _).symm.trans H; with_reducible exact H2_) | with_reducible exact H | (rw [hy433]; exact H) | exact H
     have Ny433 := Aside0.mk hy433
     clear hy433
     obtain ⟨y434, hy434⟩ : ∃ y_ : List (S56), y_ = (y433.set (x5_1 : Int).toNat (⟨(qaf y433 x5_1).f0, (qaf y433 x5_1).f1, (qaf y433 x5_1).f2, ((Int.tmod (wrap64 ((wrap64 ((wrap64 (x1_1 + 1)) + 1)) + 1)) 3) == 0), (qaf y433 x5_1).f4⟩ : S56)) := ⟨_, rfl⟩
     replace H : (qaW.l0 k1 (y434.set (x5_1 : Int).toNat (⟨(qaf y434 x5_1).f0, (qaf y434 x5_1).f1, (qaf y434 x5_1).f2, (qaf y434 x5_1).f3, ((Int.tmod (wrap64 ((wrap64 ((wrap64 ((wrap64 (x1_1 + 1)) + 1)) + 1)) + 1)) 3) == 0)⟩ : S56)) (wrap64 ((wrap64 ((wrap64 ((wrap64 ((wrap64 (x1_1 + 1)) + 1)) + 1)) + 1)) + 1)) (wrap64 (x5_1 + 1))) = some (r1, r2) := by first | (rw [hy434]; with_reducible exact H) | (have H2_ := (Option.bind_some _ _).symm.trans H; rw [hy434]; with_reducible exact H2_) | (have H2_ := (Option.bind_some _ _).symm.trans H; with_reducible exact H2_) | with_reducible exact H | (rw [hy434]; exact H) | exact H
     have Ny434 := Aside0.mk hy434
     clear hy434
     obtain ⟨y435, hy435⟩ : ∃ y_ : List (S56), y_ = (y434.set (x5_1 : Int).toNat (⟨(qaf y434 x5_1).f0, (qaf y434 x5_1).f1, (qaf y434 x5_1).f2, (qaf y434 x5_1).f3, ((Int.tmod (wrap64 ((wrap64 ((wrap64 ((wrap64 (x1_1 + 1)) + 1)) + 1)) + 1)) 3) == 0)⟩ : S56)) := ⟨_, rfl⟩
     replace H : (qaW.l0 k1 y435 (wrap64 ((wrap64 ((wrap64 ((wrap64 ((wrap64 (x1_1 + 1)) + 1)) + 1)) + 1)) + 1)) (wrap64 (x5_1 + 1))) = some (r1, r2) := by first | (rw [hy435]; with_reducible exact H) | (have H2_ := (Option.bind_some _ _).symm.trans H; rw [hy435]; with_reducible exact H2_) | (have H2_ := (Option.bind_some _ _).symm.trans H; with_reducible exact H2_) | with_reducible exact H | (rw [hy435]; exact H) | exact H
     have Ny435 := Aside0.mk hy435
     clear hy435
     have H' := Aside0.mk H
     clear H
     obtain ⟨Ao13, co13, eo13⟩ := Kd.qbN HO_0.out
     subst eo13
     go_wp2_with (first | ((with_reducible refine qaE (f := 24) rfl ?_); refine qbn (some 15) rfl rfl Try.func24 (by kernel_rfl) rfl #[.int .i64 x1_1] rfl (by (try simp only [List.map_toArray, List.map_cons, List.map_nil]); first | done | rfl | (simp only [List.length_drop, List.length_take]; rfl)) ?_; (with_reducible refine (qau.calls k1 x1_1 t428 _ A4.out).mono ?_); rintro e w14 ⟨rfl, hb⟩; refine ⟨_, rfl, ?_⟩; have n0_ := Aside0.mk (Kd.qaX (by (with_reducible repeat (first | apply Kd.qar | apply Kd.qas | apply Kd.qaD)); exact HO_0.out) hb); have n1_ := Aside0.mk (Kept.below (S := (fun k_ => P0_ k_)) (by repeat (first | (with_reducible first | exact HK.out | apply Kept.alloc | apply Kept.drewN | apply Kept.drew) | exact HK.out)) hb); have n2_ := Aside0.mk (qag (by repeat (first | (with_reducible first | exact HB.out | apply qac | apply qaa | apply qab) | exact HB.out)) hb); clear HO_0 HK HB; have HO_0 := n0_; have HK := n1_; have HB := n2_; clear n0_ n1_ n2_; (try clear hb); (try clear hb2); (try clear hk); (try clear hi); have p6 : 0 ≤ (x5_1 : Int) := of_decide_eq_true (by first | (with_reducible assumption) | assumption); have q6 : (x5_1 : Int) < ((x0_1.length : Int) : Int) := of_decide_eq_true (by first | (with_reducible assumption) | assumption); obtain ⟨go6, co6, eo6, gb6, gl6, cl6, HG6⟩ := Kd.qdM HO_0.out (by omega); (first | cases eo6 | (injection eo6 with ea_ en_ ec_; (first | subst ea_ | (injection ea_ with ea_; subst ea_)); subst ec_; clear en_)); have GB6 := Aside0.mk gb6; have GG6 := Aside0.mk HG6; clear gb6 gl6 HG6; have HMgo6 := Aside0.mk (show (P0_ go6 ∨ w.heap.size ≤ go6) from (HO_0.out.1 _ rfl)); obtain ⟨ce6, hcl6, hM6, hcc6, hfr6⟩ := Kd.qcU HO_0.out z56 (x5_1 : Int) p6 q6; obtain rfl := qcy hM6; have hx6_0 : w14.cell? ⟨go6, (x5_1 : Int).toNat * 5, none⟩ = some (.string ((qaf x0_1 x5_1).f0)) := hcc6 0 _ rfl; have hx6_1 : w14.cell? ⟨go6, (x5_1 : Int).toNat * 5 + 1, none⟩ = some (.string ((qaf x0_1 x5_1).f1)) := hcc6 1 _ rfl; have hx6_2 : w14.cell? ⟨go6, (x5_1 : Int).toNat * 5 + 2, none⟩ = some (.string ((qaf x0_1 x5_1).f2)) := hcc6 2 _ rfl; have hx6_3 : w14.cell? ⟨go6, (x5_1 : Int).toNat * 5 + 3, none⟩ = some (.bool ((qaf x0_1 x5_1).f3)) := hcc6 3 _ rfl; have hx6_4 : w14.cell? ⟨go6, (x5_1 : Int).toNat * 5 + 4, none⟩ = some (.bool ((qaf x0_1 x5_1).f4)) := hcc6 4 _ rfl; have hf6_0 : w14.frozen? ⟨go6, (x5_1 : Int).toNat * 5, none⟩ = false := hfr6 0; have hf6_1 : w14.frozen? ⟨go6, (x5_1 : Int).toNat * 5 + 1, none⟩ = false := hfr6 1; have hf6_2 : w14.frozen? ⟨go6, (x5_1 : Int).toNat * 5 + 2, none⟩ = false := hfr6 2; have hf6_3 : w14.frozen? ⟨go6, (x5_1 : Int).toNat * 5 + 3, none⟩ = false := hfr6 3; have hf6_4 : w14.frozen? ⟨go6, (x5_1 : Int).toNat * 5 + 4, none⟩ = false := hfr6 4; clear hcl6 hcc6 hfr6 hM6; replace p6 := eq_true p6; replace q6 := eq_true q6; have HX15 := Aside0.mk (show Kd.R k56 56 w14 w0.heap.size (fun k_ => (P0_ k_ ∨ w.heap.size ≤ k_)) (.slice (some ⟨go6, 0, none⟩) x0_1.length co13) x0_1 from (by (with_reducible repeat (first | apply Kd.qar | apply Kd.qas | apply Kd.qaD)); exact HO_0.out)); obtain ⟨ce15, hcl15, hM15, hcc15, hfr15⟩ := Kd.qcU HX15.out z56 (x5_1 : Int) (of_decide_eq_true (by first | (with_reducible assumption) | assumption)) (by have h_ : (x5_1 : Int) < ((x0_1.length : Int) : Int) := of_decide_eq_true (by first | (with_reducible assumption) | assumption); first | exact h_ | (have e_ := (Kd.qaO HO_0.out).1; omega) | simpa using h_); obtain rfl := qcy hM15; have HP15 := Kd.qfx HX15.out (x5_1 : Int) (of_decide_eq_true (by first | (with_reducible assumption) | assumption)) (by have h_ : (x5_1 : Int) < ((x0_1.length : Int) : Int) := of_decide_eq_true (by first | (with_reducible assumption) | assumption); first | exact h_ | (have e_ := (Kd.qaO HO_0.out).1; omega) | simpa using h_) (seg := [.string t428]) (j := 0) hcl15 hcc15 (show 1 ≤ 5 from by decide) (x' := (⟨t428, (qaf x0_1 x5_1).f1, (qaf x0_1 x5_1).f2, (qaf x0_1 x5_1).f3, (qaf x0_1 x5_1).f4⟩ : S56)) (qee _ _ _ (⟨t428, (qaf x0_1 x5_1).f1, (qaf x0_1 x5_1).f2, (qaf x0_1 x5_1).f3, (qaf x0_1 x5_1).f4⟩ : S56) ) (fun _ hk => hk); have hx15_0 := hcc15 0 _ rfl; (try simp only [show (k56).sz = 5 from rfl, Nat.mul_one, Nat.add_zero] at hx15_0); have hf15_0 := hfr15 0; (try simp only [show (k56).sz = 5 from rfl, Nat.mul_one, Nat.add_zero] at hf15_0); clear hcl15 hcc15 hfr15 hM15) | ((with_reducible refine qcr (t := 9) (p := 17) rfl ?_); refine qcg (t := 9) (p := 17) (v := ?vo_w16) (w1 := (w14.setCell ⟨go6, (x5_1 : Int).toNat * 5, none⟩ (.string t428))) ?hg ?ho ?hn ?hr ?_; (case ho => rfl); (case hg => rfl); (case hn => rfl); (case hr => first | (go_simp; done) | (go_simp; rfl)); intro w16 hw; have hg : w14.grownBy w16 (some go6) := (by rw [hw]; exact HP15.2); have hp_ : Kd.R k56 56 w16 w0.heap.size (fun k_ => (P0_ k_ ∨ w.heap.size ≤ k_)) (.slice (some ⟨go6, 0, none⟩) x0_1.length co13) y429 := (by rw [hw, Ny429.out]; exact HP15.1); clear HP15; have n0_ := Aside0.mk (hp_); have n1_ := Aside0.mk ((by rw [hw]; exact qah (HB.out) GB6.out : Below w0.heap.size w0 w16)); have n2_ := Aside0.mk (Kept.qcI (S := (fun k_ => P0_ k_)) hg (by repeat (first | (with_reducible first | exact HK.out | apply Kept.alloc | apply Kept.drewN | apply Kept.drew) | exact HK.out)) (fun k_ e_ => (HO_0.out.1 k_ e_))); clear HO_0 HB HK; have HO_0 := n0_; have HB := n1_; have HK := n2_; clear n0_ n1_ n2_; clear hg hw hp_) | ((with_reducible refine qaE (f := 24) rfl ?_); refine qbn (some 23) rfl rfl Try.func24 (by kernel_rfl) rfl #[.int .i64 (wrap64 (x1_1 + 1))] rfl (by (try simp only [List.map_toArray, List.map_cons, List.map_nil]); first | done | rfl | (simp only [List.length_drop, List.length_take]; rfl)) ?_; (with_reducible refine (qau.calls k1 (wrap64 (x1_1 + 1)) t430 _ A7.out).mono ?_); rintro e w17 ⟨rfl, hb⟩; refine ⟨_, rfl, ?_⟩; have n0_ := Aside0.mk (Kd.qaX (by (with_reducible repeat (first | apply Kd.qar | apply Kd.qas | apply Kd.qaD)); exact HO_0.out) hb); have n1_ := Aside0.mk (Kept.below (S := (fun k_ => P0_ k_)) (by repeat (first | (with_reducible first | exact HK.out | apply Kept.alloc | apply Kept.drewN | apply Kept.drew) | exact HK.out)) hb); have n2_ := Aside0.mk (qag (by repeat (first | (with_reducible first | exact HB.out | apply qac | apply qaa | apply qab) | exact HB.out)) hb); clear HO_0 HK HB; have HO_0 := n0_; have HK := n1_; have HB := n2_; clear n0_ n1_ n2_; (try clear hb); (try clear hb2); (try clear hk); (try clear hi); have p8 : 0 ≤ (x5_1 : Int) := of_decide_eq_true (by first | (with_reducible assumption) | assumption); have q8 : (x5_1 : Int) < ((x0_1.length : Int) : Int) := of_decide_eq_true (by first | (with_reducible assumption) | assumption); obtain ⟨ce8, hcl8, hM8, hcc8, hfr8⟩ := Kd.qcU HO_0.out z56 (x5_1 : Int) p8 q8; obtain rfl := qcy hM8; have hx8_0 : w17.cell? ⟨go6, (x5_1 : Int).toNat * 5, none⟩ = some (.string ((qaf y429 x5_1).f0)) := hcc8 0 _ rfl; have hx8_1 : w17.cell? ⟨go6, (x5_1 : Int).toNat * 5 + 1, none⟩ = some (.string ((qaf y429 x5_1).f1)) := hcc8 1 _ rfl; have hx8_2 : w17.cell? ⟨go6, (x5_1 : Int).toNat * 5 + 2, none⟩ = some (.string ((qaf y429 x5_1).f2)) := hcc8 2 _ rfl; have hx8_3 : w17.cell? ⟨go6, (x5_1 : Int).toNat * 5 + 3, none⟩ = some (.bool ((qaf y429 x5_1).f3)) := hcc8 3 _ rfl; have hx8_4 : w17.cell? ⟨go6, (x5_1 : Int).toNat * 5 + 4, none⟩ = some (.bool ((qaf y429 x5_1).f4)) := hcc8 4 _ rfl; have hf8_0 : w17.frozen? ⟨go6, (x5_1 : Int).toNat * 5, none⟩ = false := hfr8 0; have hf8_1 : w17.frozen? ⟨go6, (x5_1 : Int).toNat * 5 + 1, none⟩ = false := hfr8 1; have hf8_2 : w17.frozen? ⟨go6, (x5_1 : Int).toNat * 5 + 2, none⟩ = false := hfr8 2; have hf8_3 : w17.frozen? ⟨go6, (x5_1 : Int).toNat * 5 + 3, none⟩ = false := hfr8 3; have hf8_4 : w17.frozen? ⟨go6, (x5_1 : Int).toNat * 5 + 4, none⟩ = false := hfr8 4; clear hcl8 hcc8 hfr8 hM8; replace p8 := eq_true p8; replace q8 := eq_true q8; have HX18 := Aside0.mk (show Kd.R k56 56 w17 w0.heap.size (fun k_ => (P0_ k_ ∨ w.heap.size ≤ k_)) (.slice (some ⟨go6, 0, none⟩) x0_1.length co13) y429 from (by (with_reducible repeat (first | apply Kd.qar | apply Kd.qas | apply Kd.qaD)); exact HO_0.out)); obtain ⟨ce18, hcl18, hM18, hcc18, hfr18⟩ := Kd.qcU HX18.out z56 (x5_1 : Int) (of_decide_eq_true (by first | (with_reducible assumption) | assumption)) (by have h_ : (x5_1 : Int) < ((x0_1.length : Int) : Int) := of_decide_eq_true (by first | (with_reducible assumption) | assumption); first | exact h_ | (have e_ := (Kd.qaO HO_0.out).1; omega) | simpa using h_); obtain rfl := qcy hM18; have HP18 := Kd.qfx HX18.out (x5_1 : Int) (of_decide_eq_true (by first | (with_reducible assumption) | assumption)) (by have h_ : (x5_1 : Int) < ((x0_1.length : Int) : Int) := of_decide_eq_true (by first | (with_reducible assumption) | assumption); first | exact h_ | (have e_ := (Kd.qaO HO_0.out).1; omega) | simpa using h_) (seg := [.string t430]) (j := 1) hcl18 hcc18 (show 2 ≤ 5 from by decide) (x' := (⟨(qaf y429 x5_1).f0, t430, (qaf y429 x5_1).f2, (qaf y429 x5_1).f3, (qaf y429 x5_1).f4⟩ : S56)) (qee _ _ _ (⟨(qaf y429 x5_1).f0, t430, (qaf y429 x5_1).f2, (qaf y429 x5_1).f3, (qaf y429 x5_1).f4⟩ : S56) ) (fun _ hk => hk); have hx18_1 := hcc18 1 _ rfl; (try simp only [show (k56).sz = 5 from rfl, Nat.mul_one, Nat.add_zero] at hx18_1); have hf18_1 := hfr18 1; (try simp only [show (k56).sz = 5 from rfl, Nat.mul_one, Nat.add_zero] at hf18_1); clear hcl18 hcc18 hfr18 hM18) | ((with_reducible refine qcr (t := 9) (p := 25) rfl ?_); refine qcg (t := 9) (p := 25) (v := ?vo_w19) (w1 := (w17.setCell ⟨go6, (x5_1 : Int).toNat * 5 + 1, none⟩ (.string t430))) ?hg ?ho ?hn ?hr ?_; (case ho => rfl); (case hg => rfl); (case hn => rfl); (case hr => first | (go_simp; done) | (go_simp; rfl)); intro w19 hw; have hg : w17.grownBy w19 (some go6) := (by rw [hw]; exact HP18.2); have hp_ : Kd.R k56 56 w19 w0.heap.size (fun k_ => (P0_ k_ ∨ w.heap.size ≤ k_)) (.slice (some ⟨go6, 0, none⟩) x0_1.length co13) y431 := (by rw [hw, Ny431.out]; exact HP18.1); clear HP18; have n0_ := Aside0.mk (hp_); have n1_ := Aside0.mk ((by rw [hw]; exact qah (HB.out) GB6.out : Below w0.heap.size w0 w19)); have n2_ := Aside0.mk (Kept.qcI (S := (fun k_ => P0_ k_)) hg (by repeat (first | (with_reducible first | exact HK.out | apply Kept.alloc | apply Kept.drewN | apply Kept.drew) | exact HK.out)) (fun k_ e_ => (HO_0.out.1 k_ e_))); clear HO_0 HB HK; have HO_0 := n0_; have HB := n1_; have HK := n2_; clear n0_ n1_ n2_; clear hg hw hp_) | ((with_reducible refine qaE (f := 24) rfl ?_); refine qbn (some 31) rfl rfl Try.func24 (by kernel_rfl) rfl #[.int .i64 (wrap64 ((wrap64 (x1_1 + 1)) + 1))] rfl (by (try simp only [List.map_toArray, List.map_cons, List.map_nil]); first | done | rfl | (simp only [List.length_drop, List.length_take]; rfl)) ?_; (with_reducible refine (qau.calls k1 (wrap64 ((wrap64 (x1_1 + 1)) + 1)) t432 _ A9.out).mono ?_); rintro e w20 ⟨rfl, hb⟩; refine ⟨_, rfl, ?_⟩; have n0_ := Aside0.mk (Kd.qaX (by (with_reducible repeat (first | apply Kd.qar | apply Kd.qas | apply Kd.qaD)); exact HO_0.out) hb); have n1_ := Aside0.mk (Kept.below (S := (fun k_ => P0_ k_)) (by repeat (first | (with_reducible first | exact HK.out | apply Kept.alloc | apply Kept.drewN | apply Kept.drew) | exact HK.out)) hb); have n2_ := Aside0.mk (qag (by repeat (first | (with_reducible first | exact HB.out | apply qac | apply qaa | apply qab) | exact HB.out)) hb); clear HO_0 HK HB; have HO_0 := n0_; have HK := n1_; have HB := n2_; clear n0_ n1_ n2_; (try clear hb); (try clear hb2); (try clear hk); (try clear hi); have p10 : 0 ≤ (x5_1 : Int) := of_decide_eq_true (by first | (with_reducible assumption) | assumption); have q10 : (x5_1 : Int) < ((x0_1.length : Int) : Int) := of_decide_eq_true (by first | (with_reducible assumption) | assumption); obtain ⟨ce10, hcl10, hM10, hcc10, hfr10⟩ := Kd.qcU HO_0.out z56 (x5_1 : Int) p10 q10; obtain rfl := qcy hM10; have hx10_0 : w20.cell? ⟨go6, (x5_1 : Int).toNat * 5, none⟩ = some (.string ((qaf y431 x5_1).f0)) := hcc10 0 _ rfl; have hx10_1 : w20.cell? ⟨go6, (x5_1 : Int).toNat * 5 + 1, none⟩ = some (.string ((qaf y431 x5_1).f1)) := hcc10 1 _ rfl; have hx10_2 : w20.cell? ⟨go6, (x5_1 : Int).toNat * 5 + 2, none⟩ = some (.string ((qaf y431 x5_1).f2)) := hcc10 2 _ rfl; have hx10_3 : w20.cell? ⟨go6, (x5_1 : Int).toNat * 5 + 3, none⟩ = some (.bool ((qaf y431 x5_1).f3)) := hcc10 3 _ rfl; have hx10_4 : w20.cell? ⟨go6, (x5_1 : Int).toNat * 5 + 4, none⟩ = some (.bool ((qaf y431 x5_1).f4)) := hcc10 4 _ rfl; have hf10_0 : w20.frozen? ⟨go6, (x5_1 : Int).toNat * 5, none⟩ = false := hfr10 0; have hf10_1 : w20.frozen? ⟨go6, (x5_1 : Int).toNat * 5 + 1, none⟩ = false := hfr10 1; have hf10_2 : w20.frozen? ⟨go6, (x5_1 : Int).toNat * 5 + 2, none⟩ = false := hfr10 2; have hf10_3 : w20.frozen? ⟨go6, (x5_1 : Int).toNat * 5 + 3, none⟩ = false := hfr10 3; have hf10_4 : w20.frozen? ⟨go6, (x5_1 : Int).toNat * 5 + 4, none⟩ = false := hfr10 4; clear hcl10 hcc10 hfr10 hM10; replace p10 := eq_true p10; replace q10 := eq_true q10; have HX21 := Aside0.mk (show Kd.R k56 56 w20 w0.heap.size (fun k_ => (P0_ k_ ∨ w.heap.size ≤ k_)) (.slice (some ⟨go6, 0, none⟩) x0_1.length co13) y431 from (by (with_reducible repeat (first | apply Kd.qar | apply Kd.qas | apply Kd.qaD)); exact HO_0.out)); obtain ⟨ce21, hcl21, hM21, hcc21, hfr21⟩ := Kd.qcU HX21.out z56 (x5_1 : Int) (of_decide_eq_true (by first | (with_reducible assumption) | assumption)) (by have h_ : (x5_1 : Int) < ((x0_1.length : Int) : Int) := of_decide_eq_true (by first | (with_reducible assumption) | assumption); first | exact h_ | (have e_ := (Kd.qaO HO_0.out).1; omega) | simpa using h_); obtain rfl := qcy hM21; have HP21 := Kd.qfx HX21.out (x5_1 : Int) (of_decide_eq_true (by first | (with_reducible assumption) | assumption)) (by have h_ : (x5_1 : Int) < ((x0_1.length : Int) : Int) := of_decide_eq_true (by first | (with_reducible assumption) | assumption); first | exact h_ | (have e_ := (Kd.qaO HO_0.out).1; omega) | simpa using h_) (seg := [.string t432]) (j := 2) hcl21 hcc21 (show 3 ≤ 5 from by decide) (x' := (⟨(qaf y431 x5_1).f0, (qaf y431 x5_1).f1, t432, (qaf y431 x5_1).f3, (qaf y431 x5_1).f4⟩ : S56)) (qee _ _ _ (⟨(qaf y431 x5_1).f0, (qaf y431 x5_1).f1, t432, (qaf y431 x5_1).f3, (qaf y431 x5_1).f4⟩ : S56) ) (fun _ hk => hk); have hx21_2 := hcc21 2 _ rfl; (try simp only [show (k56).sz = 5 from rfl, Nat.mul_one, Nat.add_zero] at hx21_2); have hf21_2 := hfr21 2; (try simp only [show (k56).sz = 5 from rfl, Nat.mul_one, Nat.add_zero] at hf21_2); clear hcl21 hcc21 hfr21 hM21) | ((with_reducible refine qcr (t := 9) (p := 33) rfl ?_); refine qcg (t := 9) (p := 33) (v := ?vo_w22) (w1 := (w20.setCell ⟨go6, (x5_1 : Int).toNat * 5 + 2, none⟩ (.string t432))) ?hg ?ho ?hn ?hr ?_; (case ho => rfl); (case hg => rfl); (case hn => rfl); (case hr => first | (go_simp; done) | (go_simp; rfl)); intro w22 hw; have hg : w20.grownBy w22 (some go6) := (by rw [hw]; exact HP21.2); have hp_ : Kd.R k56 56 w22 w0.heap.size (fun k_ => (P0_ k_ ∨ w.heap.size ≤ k_)) (.slice (some ⟨go6, 0, none⟩) x0_1.length co13) y433 := (by rw [hw, Ny433.out]; exact HP21.1); clear HP21; have n0_ := Aside0.mk (hp_); have n1_ := Aside0.mk ((by rw [hw]; exact qah (HB.out) GB6.out : Below w0.heap.size w0 w22)); have n2_ := Aside0.mk (Kept.qcI (S := (fun k_ => P0_ k_)) hg (by repeat (first | (with_reducible first | exact HK.out | apply Kept.alloc | apply Kept.drewN | apply Kept.drew) | exact HK.out)) (fun k_ e_ => (HO_0.out.1 k_ e_))); clear HO_0 HB HK; have HO_0 := n0_; have HB := n1_; have HK := n2_; clear n0_ n1_ n2_ hg hw hp_; have p11 : 0 ≤ (x5_1 : Int) := of_decide_eq_true (by first | (with_reducible assumption) | assumption); have q11 : (x5_1 : Int) < ((x0_1.length : Int) : Int) := of_decide_eq_true (by first | (with_reducible assumption) | assumption); obtain ⟨ce11, hcl11, hM11, hcc11, hfr11⟩ := Kd.qcU HO_0.out z56 (x5_1 : Int) p11 q11; obtain rfl := qcy hM11; have hx11_0 : w22.cell? ⟨go6, (x5_1 : Int).toNat * 5, none⟩ = some (.string ((qaf y433 x5_1).f0)) := hcc11 0 _ rfl; have hx11_1 : w22.cell? ⟨go6, (x5_1 : Int).toNat * 5 + 1, none⟩ = some (.string ((qaf y433 x5_1).f1)) := hcc11 1 _ rfl; have hx11_2 : w22.cell? ⟨go6, (x5_1 : Int).toNat * 5 + 2, none⟩ = some (.string ((qaf y433 x5_1).f2)) := hcc11 2 _ rfl; have hx11_3 : w22.cell? ⟨go6, (x5_1 : Int).toNat * 5 + 3, none⟩ = some (.bool ((qaf y433 x5_1).f3)) := hcc11 3 _ rfl; have hx11_4 : w22.cell? ⟨go6, (x5_1 : Int).toNat * 5 + 4, none⟩ = some (.bool ((qaf y433 x5_1).f4)) := hcc11 4 _ rfl; have hf11_0 : w22.frozen? ⟨go6, (x5_1 : Int).toNat * 5, none⟩ = false := hfr11 0; have hf11_1 : w22.frozen? ⟨go6, (x5_1 : Int).toNat * 5 + 1, none⟩ = false := hfr11 1; have hf11_2 : w22.frozen? ⟨go6, (x5_1 : Int).toNat * 5 + 2, none⟩ = false := hfr11 2; have hf11_3 : w22.frozen? ⟨go6, (x5_1 : Int).toNat * 5 + 3, none⟩ = false := hfr11 3; have hf11_4 : w22.frozen? ⟨go6, (x5_1 : Int).toNat * 5 + 4, none⟩ = false := hfr11 4; clear hcl11 hcc11 hfr11 hM11; replace p11 := eq_true p11; replace q11 := eq_true q11; have HX23 := Aside0.mk (show Kd.R k56 56 w22 w0.heap.size (fun k_ => (P0_ k_ ∨ w.heap.size ≤ k_)) (.slice (some ⟨go6, 0, none⟩) x0_1.length co13) y433 from (by (with_reducible repeat (first | apply Kd.qar | apply Kd.qas | apply Kd.qaD)); exact HO_0.out)); obtain ⟨ce23, hcl23, hM23, hcc23, hfr23⟩ := Kd.qcU HX23.out z56 (x5_1 : Int) (of_decide_eq_true (by first | (with_reducible assumption) | assumption)) (by have h_ : (x5_1 : Int) < ((x0_1.length : Int) : Int) := of_decide_eq_true (by first | (with_reducible assumption) | assumption); first | exact h_ | (have e_ := (Kd.qaO HO_0.out).1; omega) | simpa using h_); obtain rfl := qcy hM23; have HP23 := Kd.qfx HX23.out (x5_1 : Int) (of_decide_eq_true (by first | (with_reducible assumption) | assumption)) (by have h_ : (x5_1 : Int) < ((x0_1.length : Int) : Int) := of_decide_eq_true (by first | (with_reducible assumption) | assumption); first | exact h_ | (have e_ := (Kd.qaO HO_0.out).1; omega) | simpa using h_) (seg := [.bool ((Int.tmod (wrap64 ((wrap64 ((wrap64 (x1_1 + 1)) + 1)) + 1)) 3) == 0)]) (j := 3) hcl23 hcc23 (show 4 ≤ 5 from by decide) (x' := (⟨(qaf y433 x5_1).f0, (qaf y433 x5_1).f1, (qaf y433 x5_1).f2, ((Int.tmod (wrap64 ((wrap64 ((wrap64 (x1_1 + 1)) + 1)) + 1)) 3) == 0), (qaf y433 x5_1).f4⟩ : S56)) (qee _ _ _ (⟨(qaf y433 x5_1).f0, (qaf y433 x5_1).f1, (qaf y433 x5_1).f2, ((Int.tmod (wrap64 ((wrap64 ((wrap64 (x1_1 + 1)) + 1)) + 1)) 3) == 0), (qaf y433 x5_1).f4⟩ : S56) ) (fun _ hk => hk); have hx23_3 := hcc23 3 _ rfl; (try simp only [show (k56).sz = 5 from rfl, Nat.mul_one, Nat.add_zero] at hx23_3); have hf23_3 := hfr23 3; (try simp only [show (k56).sz = 5 from rfl, Nat.mul_one, Nat.add_zero] at hf23_3); clear hcl23 hcc23 hfr23 hM23) | ((with_reducible refine qcr (t := 4) (p := 42) rfl ?_); refine qcg (t := 4) (p := 42) (v := ?vo_w24) (w1 := (w22.setCell ⟨go6, (x5_1 : Int).toNat * 5 + 3, none⟩ (.bool ((Int.tmod (wrap64 ((wrap64 ((wrap64 (x1_1 + 1)) + 1)) + 1)) 3) == 0)))) ?hg ?ho ?hn ?hr ?_; (case ho => rfl); (case hg => rfl); (case hn => rfl); (case hr => first | (go_simp; done) | (go_simp; rfl)); intro w24 hw; have hg : w22.grownBy w24 (some go6) := (by rw [hw]; exact HP23.2); have hp_ : Kd.R k56 56 w24 w0.heap.size (fun k_ => (P0_ k_ ∨ w.heap.size ≤ k_)) (.slice (some ⟨go6, 0, none⟩) x0_1.length co13) y434 := (by rw [hw, Ny434.out]; exact HP23.1); clear HP23; have n0_ := Aside0.mk (hp_); have n1_ := Aside0.mk ((by rw [hw]; exact qah (HB.out) GB6.out : Below w0.heap.size w0 w24)); have n2_ := Aside0.mk (Kept.qcI (S := (fun k_ => P0_ k_)) hg (by repeat (first | (with_reducible first | exact HK.out | apply Kept.alloc | apply Kept.drewN | apply Kept.drew) | exact HK.out)) (fun k_ e_ => (HO_0.out.1 k_ e_))); clear HO_0 HB HK; have HO_0 := n0_; have HB := n1_; have HK := n2_; clear n0_ n1_ n2_ hg hw hp_; have p12 : 0 ≤ (x5_1 : Int) := of_decide_eq_true (by first | (with_reducible assumption) | assumption); have q12 : (x5_1 : Int) < ((x0_1.length : Int) : Int) := of_decide_eq_true (by first | (with_reducible assumption) | assumption); obtain ⟨ce12, hcl12, hM12, hcc12, hfr12⟩ := Kd.qcU HO_0.out z56 (x5_1 : Int) p12 q12; obtain rfl := qcy hM12; have hx12_0 : w24.cell? ⟨go6, (x5_1 : Int).toNat * 5, none⟩ = some (.string ((qaf y434 x5_1).f0)) := hcc12 0 _ rfl; have hx12_1 : w24.cell? ⟨go6, (x5_1 : Int).toNat * 5 + 1, none⟩ = some (.string ((qaf y434 x5_1).f1)) := hcc12 1 _ rfl; have hx12_2 : w24.cell? ⟨go6, (x5_1 : Int).toNat * 5 + 2, none⟩ = some (.string ((qaf y434 x5_1).f2)) := hcc12 2 _ rfl; have hx12_3 : w24.cell? ⟨go6, (x5_1 : Int).toNat * 5 + 3, none⟩ = some (.bool ((qaf y434 x5_1).f3)) := hcc12 3 _ rfl; have hx12_4 : w24.cell? ⟨go6, (x5_1 : Int).toNat * 5 + 4, none⟩ = some (.bool ((qaf y434 x5_1).f4)) := hcc12 4 _ rfl; have hf12_0 : w24.frozen? ⟨go6, (x5_1 : Int).toNat * 5, none⟩ = false := hfr12 0; have hf12_1 : w24.frozen? ⟨go6, (x5_1 : Int).toNat * 5 + 1, none⟩ = false := hfr12 1; have hf12_2 : w24.frozen? ⟨go6, (x5_1 : Int).toNat * 5 + 2, none⟩ = false := hfr12 2; have hf12_3 : w24.frozen? ⟨go6, (x5_1 : Int).toNat * 5 + 3, none⟩ = false := hfr12 3; have hf12_4 : w24.frozen? ⟨go6, (x5_1 : Int).toNat * 5 + 4, none⟩ = false := hfr12 4; clear hcl12 hcc12 hfr12 hM12; replace p12 := eq_true p12; replace q12 := eq_true q12; have HX25 := Aside0.mk (show Kd.R k56 56 w24 w0.heap.size (fun k_ => (P0_ k_ ∨ w.heap.size ≤ k_)) (.slice (some ⟨go6, 0, none⟩) x0_1.length co13) y434 from (by (with_reducible repeat (first | apply Kd.qar | apply Kd.qas | apply Kd.qaD)); exact HO_0.out)); obtain ⟨ce25, hcl25, hM25, hcc25, hfr25⟩ := Kd.qcU HX25.out z56 (x5_1 : Int) (of_decide_eq_true (by first | (with_reducible assumption) | assumption)) (by have h_ : (x5_1 : Int) < ((x0_1.length : Int) : Int) := of_decide_eq_true (by first | (with_reducible assumption) | assumption); first | exact h_ | (have e_ := (Kd.qaO HO_0.out).1; omega) | simpa using h_); obtain rfl := qcy hM25; have HP25 := Kd.qfx HX25.out (x5_1 : Int) (of_decide_eq_true (by first | (with_reducible assumption) | assumption)) (by have h_ : (x5_1 : Int) < ((x0_1.length : Int) : Int) := of_decide_eq_true (by first | (with_reducible assumption) | assumption); first | exact h_ | (have e_ := (Kd.qaO HO_0.out).1; omega) | simpa using h_) (seg := [.bool ((Int.tmod (wrap64 ((wrap64 ((wrap64 ((wrap64 (x1_1 + 1)) + 1)) + 1)) + 1)) 3) == 0)]) (j := 4) hcl25 hcc25 (show 5 ≤ 5 from by decide) (x' := (⟨(qaf y434 x5_1).f0, (qaf y434 x5_1).f1, (qaf y434 x5_1).f2, (qaf y434 x5_1).f3, ((Int.tmod (wrap64 ((wrap64 ((wrap64 ((wrap64 (x1_1 + 1)) + 1)) + 1)) + 1)) 3) == 0)⟩ : S56)) (qee _ _ _ (⟨(qaf y434 x5_1).f0, (qaf y434 x5_1).f1, (qaf y434 x5_1).f2, (qaf y434 x5_1).f3, ((Int.tmod (wrap64 ((wrap64 ((wrap64 ((wrap64 (x1_1 + 1)) + 1)) + 1)) + 1)) 3) == 0)⟩ : S56) ) (fun _ hk => hk); have hx25_4 := hcc25 4 _ rfl; (try simp only [show (k56).sz = 5 from rfl, Nat.mul_one, Nat.add_zero] at hx25_4); have hf25_4 := hfr25 4; (try simp only [show (k56).sz = 5 from rfl, Nat.mul_one, Nat.add_zero] at hf25_4); clear hcl25 hcc25 hfr25 hM25) | ((with_reducible refine qcr (t := 4) (p := 51) rfl ?_); refine qcg (t := 4) (p := 51) (v := ?vo_w26) (w1 := (w24.setCell ⟨go6, (x5_1 : Int).toNat * 5 + 4, none⟩ (.bool ((Int.tmod (wrap64 ((wrap64 ((wrap64 ((wrap64 (x1_1 + 1)) + 1)) + 1)) + 1)) 3) == 0)))) ?hg ?ho ?hn ?hr ?_; (case ho => rfl); (case hg => rfl); (case hn => rfl); (case hr => first | (go_simp; done) | (go_simp; rfl)); intro w26 hw; have hg : w24.grownBy w26 (some go6) := (by rw [hw]; exact HP25.2); have hp_ : Kd.R k56 56 w26 w0.heap.size (fun k_ => (P0_ k_ ∨ w.heap.size ≤ k_)) (.slice (some ⟨go6, 0, none⟩) x0_1.length co13) y435 := (by rw [hw, Ny435.out]; exact HP25.1); clear HP25; have n0_ := Aside0.mk (hp_); have n1_ := Aside0.mk ((by rw [hw]; exact qah (HB.out) GB6.out : Below w0.heap.size w0 w26)); have n2_ := Aside0.mk (Kept.qcI (S := (fun k_ => P0_ k_)) hg (by repeat (first | (with_reducible first | exact HK.out | apply Kept.alloc | apply Kept.drewN | apply Kept.drew) | exact HK.out)) (fun k_ e_ => (HO_0.out.1 k_ e_))); clear HO_0 HB HK; have HO_0 := n0_; have HB := n1_; have HK := n2_; clear n0_ n1_ n2_; clear hg hw hp_))
     go_roundg k1
     case measure => have := HK1.out; omega
     case rel => exact ⟨(y435), (wrap64 ((wrap64 ((wrap64 ((wrap64 ((wrap64 (x1_1 + 1)) + 1)) + 1)) + 1)) + 1)), (wrap64 (x5_1 + 1)), (by first | rfl | (simp; done) | (simp [*]; done)), (by first | rfl | (simp; done) | (simp [*]; done)), H', ⟨by have := HK1.out; omega⟩, ⟨by (with_reducible repeat (first | apply Kd.qar | apply Kd.qas | apply Kd.qaD)); exact HO_0.out⟩, ⟨by repeat (first | (with_reducible first | exact HK.out | apply Kept.alloc | apply Kept.drewN | apply Kept.drew) | exact HK.out)⟩, ⟨by repeat (first | (with_reducible first | exact HB.out | apply qac | apply qaa | apply qab) | exact HB.out)⟩⟩
    ·rw [if_neg c5] at H
     exact absurd H (by simp)
   ·rw [if_neg c3] at H
    have c3b0 : decide (x5_1 < (x0_1.length : Int)) = false := decide_eq_false c3
    clear c3
    simp only [Option.some.injEq, Prod.mk.injEq] at H
    obtain ⟨rfl, rfl⟩ := H
    obtain ⟨Ao27, co27, eo27⟩ := Kd.qbN HO_0.out
    subst eo27
    go_wp2
    go_ret
    exact ⟨by first | rfl | (simp [qam, qan] <;> rfl) | (simp [*, qam, qan] <;> rfl), by (with_reducible repeat (first | apply Kd.qar | apply Kd.qas | apply Kd.qaD)); exact HO_0.out, by repeat (first | (with_reducible first | exact HB.out | apply qac | apply qaa | apply qab) | exact HB.out), by repeat (first | (with_reducible first | exact HK.out | apply Kept.alloc | apply Kept.drewN | apply Kept.drew) | exact HK.out)⟩
noncomputable def qdI : List S56 → Int → List S56
 | [], _ => []
 | _ :: xs, m => ⟨mt m, mt (m + 1), mt (m + 2), (Int.tmod ((m + 3)) 3 == 0), (Int.tmod ((m + 4)) 3 == 0)⟩ :: qdI xs (m + 5)
theorem qfo (rest : List S56) : ∀ (pre : List S56) (m : Int), 0 ≤ m → m + 5 * (rest.length : Int) ≤ 4611686018427387904 → (pre ++ rest).length ≤ 9223372036854775807 →
  Ev (fun k => qaW.l0 k (pre ++ rest) m ((pre.length : Nat) : Int)) (m + 5 * (rest.length : Int), pre ++ qdI rest m) := by
 induction rest with
 | nil =>
  intro pre m h0 h1 hl
  refine Ev.succ ?_
  simp only [qaW.l0]
  exact Ev.neg (by simp) (Ev.is (by simp [qdI]))
 | cons x rest ih =>
  intro pre m h0 h1 hl
  have hlt : ((pre.length : Nat) : Int) < ((pre ++ x :: rest).length : Int) := by simp; omega
  have hwp : ∀ v : S56, wrap64 (((pre.length : Nat) : Int) + 1) = (((pre ++ [v]).length : Nat) : Int) := fun v => by rw [← qcp]; exact qcu (by simp at hl; omega)
  have hset : ∀ v u : S56, (pre ++ u :: rest).set ((pre.length : Nat) : Int).toNat v = pre ++ v :: rest := fun v u => by rw [Int.toNat_natCast]; exact set_mid pre u v rest
  have hrd : ∀ u : S56, qaf (pre ++ u :: rest) ((pre.length : Nat) : Int) = u := fun u => by simp [qaf, List.getD_eq_getElem?_getD]
  simp only [List.length_cons] at h1
  have w1 : wrap64 (m + 1) = m + 1 := (qby (by omega) (by omega)).trans (by omega)
  have w2 : wrap64 ((m + 1) + 1) = m + 2 := (qby (by omega) (by omega)).trans (by omega)
  have w3 : wrap64 ((m + 2) + 1) = m + 3 := (qby (by omega) (by omega)).trans (by omega)
  have w4 : wrap64 ((m + 3) + 1) = m + 4 := (qby (by omega) (by omega)).trans (by omega)
  have w5 : wrap64 ((m + 4) + 1) = m + 5 := (qby (by omega) (by omega)).trans (by omega)
  have hi := ih (pre ++ [⟨mt m, mt (m + 1), mt (m + 2), (Int.tmod ((m + 3)) 3 == 0), (Int.tmod ((m + 4)) 3 == 0)⟩]) (m + 5) (by omega) (by omega) (by simpa using hl)
  refine Ev.succ ?_
  simp only [qaW.l0, w1, w2, w3, w4, w5]
  refine Ev.pos hlt ?_
  refine Ev.bind (qgJ (by omega)) ?_
  refine Ev.pos (show (0 : Int) ≤ ((pre.length : Nat) : Int) by omega) ?_
  refine Ev.bindk rfl ?_
  refine Ev.bind (qgJ (by omega)) ?_
  refine Ev.bindk rfl ?_
  refine Ev.bind (qgJ (by omega)) ?_
  refine Ev.bindk rfl ?_
  refine Ev.bindk rfl ?_
  simp only [hset, hrd]
  rw [hwp (⟨mt m, mt (m + 1), mt (m + 2), (Int.tmod ((m + 3)) 3 == 0), (Int.tmod ((m + 4)) 3 == 0)⟩)]
  have e3 : pre ++ (⟨mt m, mt (m + 1), mt (m + 2), (Int.tmod ((m + 3)) 3 == 0), (Int.tmod ((m + 4)) 3 == 0)⟩ : S56) :: rest = (pre ++ [⟨mt m, mt (m + 1), mt (m + 2), (Int.tmod ((m + 3)) 3 == 0), (Int.tmod ((m + 4)) 3 == 0)⟩]) ++ rest := by simp
  have e4 : (m + 5 + 5 * (rest.length : Int), (pre ++ [⟨mt m, mt (m + 1), mt (m + 2), (Int.tmod ((m + 3)) 3 == 0), (Int.tmod ((m + 4)) 3 == 0)⟩]) ++ qdI rest (m + 5)) = (m + 5 * (((x :: rest).length : Nat) : Int), pre ++ qdI (x :: rest) m) := by
   refine Prod.ext ?_ ?_
   ·simp only [List.length_cons]; omega
   ·simp [qdI]
  rw [← e4, e3]
  exact hi
theorem qhO (l : List S56) (m : Int) (h0 : 0 ≤ m) (h1 : m + 5 * (l.length : Int) ≤ 4611686018427387904) (hl : l.length ≤ 9223372036854775807) : Ev (fun k => qaW.f k l m) (m + 5 * (l.length : Int), qdI l m) := by
 unfold qaW.f
 have h := qfo l [] m h0 h1 (by simpa using hl)
 simpa using h
def costB (x : S41) : Nat := 4 + 5 * x.f3.length
def qcX : List S41 → Nat
 | [] => 0
 | x :: xs => costB x + qcX xs
theorem qhP (l : List S41) : l.length ≤ qcX l := by
 induction l with
 | nil => exact Nat.le_refl _
 | cons x l ih => rw [qcX, List.length_cons]; unfold costB; omega
theorem qi0 {c : Nat} (l : List S41) (h : ∀ x, x ∈ l → costB x ≤ c) : qcX l ≤ l.length * c := by
 induction l with
 | nil => exact Nat.zero_le _
 | cons x l ih =>
  have h1 := h x List.mem_cons_self
  have h2 := ih fun y hy => h y (List.mem_cons_of_mem _ hy)
  show costB x + qcX l ≤ (l.length + 1) * c
  rw [Nat.add_mul, Nat.one_mul]
  omega
set_option maxHeartbeats 8000000 in
set_option maxRecDepth 100000 in
theorem qfF (P : Nat → Prop) (g n cap : Nat) (l : List S41) (m : Int) (w0 w : World) (hB : Below w0.heap.size w0 w) (hS : Kd.S k41 41 w w0.heap.size P (.slice (some ⟨g, 0, none⟩) n cap) l) (hm : 0 ≤ m) (hcost : m + (qcX l : Int) ≤ 4611686018427387904) :
  Calls Try.prog 10 #[.slice (some ⟨g, 0, none⟩) n cap, .int .i64 m] w fun e w' => e = .returned (.int .i64 (m + (qcX l : Int))) ∧ Below w0.heap.size w0 w' ∧ Kept w w' P := by
 have hu := Try.underlying41
 have hn := (Kd.qct hS).1
 have HN := Aside0.mk hn
 have hnn : n ≤ 9223372036854775807 := by have := qhP l; omega
 have HPg := Aside0.mk ((Kd.S_R hS).1 g rfl)
 have HGb := Aside0.mk (show w0.heap.size ≤ g from Kd.S_base hS g rfl)
 have HS := Aside0.mk hS
 have HB := Aside0.mk hB
 have HC := Aside0.mk hcost
 clear hB hS hn
 go_enter Try.func10, Try.ntmps10
 go_wp2_with fail
 go_loopw [1, 5] (fun v1 v5 wr => ∃ (i : Nat) (q : Int) (ys : List S41), i ≤ n ∧ v5 = .int .i64 i ∧ v1 = .int .i64 q ∧ 0 ≤ q ∧ Aside0 (q + (qcX (l.drop i) : Int) = m + (qcX l : Int)) ∧ Aside0 (ys.drop i = l.drop i) ∧ Aside0 (Kd.S k41 41 wr w0.heap.size P (.slice (some ⟨g, 0, none⟩) n cap) ys) ∧ Aside0 (Below w0.heap.size w0 wr) ∧ Aside0 (Kept w wr P)) (fun _ v5 _ => n - (intOf v5).toNat)
 case atStart => exact ⟨0, m, l, by omega, rfl, rfl, hm, ⟨rfl⟩, ⟨rfl⟩, HS, HB, ⟨Kept.refl _ _⟩⟩
 case round =>
  clear HS HB
  obtain ⟨i, q, ys, hi, rfl, rfl, hq0, HQ, HD, HS, HB, HK⟩ := hrel
  by_cases hlt : i < n
  ·have c1 : decide ((i : Int) < (n : Int)) = true := decide_eq_true (by omega)
   obtain ⟨oki, c, hcl, hM, hcc, hfr, hoki, hH⟩ := Kd.qid HS.out z41 (i : Int) (by omega) (by omega)
   obtain ⟨x, hx⟩ : ∃ x, x = ys.getD (i : Int).toNat z41 := ⟨_, rfl⟩
   rw [← hx] at hM
   obtain ⟨v3, rfl, g3⟩ := qfb hM
   have hyl : i < ys.length := by have := (Kd.qct HS.out).1; omega
   have hll : i < l.length := by rw [← HN.out]; exact hlt
   have hxl : x = l[i] := by
    have e5 : ys[i] = l[i] := by
     have h0 := congrArg (fun z => z[0]?) HD.out
     simp only [List.getElem?_drop, Nat.add_zero] at h0
     rw [List.getElem?_eq_getElem hyl, List.getElem?_eq_getElem hll] at h0
     exact Option.some.inj h0
    rw [hx, ← e5, Int.toNat_natCast]
    simp [List.getD_eq_getElem?_getD, hyl]
   have hdr : l.drop i = x :: l.drop (i + 1) := by rw [hxl]; exact List.drop_eq_getElem_cons hll
   have hq2 : q + (costB x : Int) + (qcX (l.drop (i + 1)) : Int) = m + (qcX l : Int) := by
    have h := HQ.out
    rw [hdr, qcX] at h
    omega
   have HQ2 := Aside0.mk hq2
   have hcx : (costB x : Int) = 4 + 5 * (x.f3.length : Int) := by unfold costB; omega
   have hsum : q + 4 + 5 * (x.f3.length : Int) ≤ 4611686018427387904 := by omega
   have HSU := Aside0.mk (And.intro hsum hcx)
   have HO := Aside0.mk hoki
   have HH0 := Aside0.mk hH
   have G0 := Aside0.mk (Kd.R_tight2 rfl g3)
   have HI1 := Aside0.mk (show (0 : Int) ≤ (i : Int) ∧ (i : Int) < (n : Int) from ⟨by omega, by omega⟩)
   have w1 : IntKind.i64.wrap (q + 1) = q + 1 := by rw [IntKind.wrap_i64]; omega
   have w2 : IntKind.i64.wrap ((i : Int) + 1) = (i : Int) + 1 := by rw [IntKind.wrap_i64]; omega
   have w3 : IntKind.i64.wrap (q + 1 + 1) = q + 1 + 1 := by rw [IntKind.wrap_i64]; omega
   have w4 : IntKind.i64.wrap (q + 1 + 1 + 1) = q + 1 + 1 + 1 := by rw [IntKind.wrap_i64]; omega
   have w5 : IntKind.i64.wrap (q + 1 + 1 + 1 + 5 * (x.f3.length : Int) + 1) = q + 1 + 1 + 1 + 5 * (x.f3.length : Int) + 1 := by rw [IntKind.wrap_i64]; omega
   have p1 : 0 ≤ (i : Int) := by omega
   have q1 : (i : Int) < (n : Int) := by omega
   clear hcl hM hcc hfr hoki hH hx hxl hdr hq2 hcx hsum g3 hyl hll
   go_wp2_with fail
   obtain ⟨k1, hk1⟩ := Ev.rounds (qgJ (a := q) (by have := HSU.out.1; omega))
   refine (qau.calls k1 q _ _ hk1).mono ?_
   rintro e wa ⟨rfl, hba⟩
   have HHa := Aside0.mk (Kd.qic HH0.out hba)
   have Ga := Aside0.mk (Kd.qaX G0.out hba)
   have HBa := Aside0.mk (qag HB.out hba)
   have HKa := Aside0.mk (HK.out.below hba)
   obtain ⟨ca, fa⟩ := Kd.H_at HHa.out HI1.out.1 HI1.out.2
   have a0 := ca 0 _ rfl
   have fa0 := fa 0
   simp only [Int.toNat_natCast, show k41.sz = 5 from rfl, Nat.add_zero] at a0 fa0
   clear hba ca fa hk1 HH0 G0 HB HK
   go_wp2_with fail
   have H1 := Aside0.mk (show Kd.H k41 41 (wa.setCell ⟨g, i * 5, none⟩ (.string (mt q))) w0.heap.size P (.slice (some ⟨g, 0, none⟩) n cap) ys (i : Int) oki [.string (mt q), .string x.f1, .int .i64 x.f2, v3, .int .i64 x.f4] from (Kd.qie HHa.out HI1.out.1 HI1.out.2 (seg := [.string (mt q)]) (j := 0) (by show 0 + 1 ≤ 5; omega) (by simp [Value.oneCell'])).1)
   have G1 := Aside0.mk (Kd.qcq (p := ⟨g, i * 5, none⟩) Ga.out (fun k hk => (HO.out k hk.2).2) (.string (mt q)))
   have HB1 := Aside0.mk (HBa.out.setCell (p := ⟨g, i * 5, none⟩) HGb.out (.string (mt q)))
   have HK1 := Aside0.mk (HKa.out.setCell (p := ⟨g, i * 5, none⟩) (.inl HPg.out) (.string (mt q)))
   obtain ⟨k2, hk2⟩ := Ev.rounds (qgJ (a := q + 1) (by have := HSU.out.1; omega))
   refine (qau.calls k2 (q + 1) _ _ hk2).mono ?_
   rintro e wb ⟨rfl, hbb⟩
   have HHb := Aside0.mk (Kd.qic H1.out hbb)
   have Gb := Aside0.mk (Kd.qaX G1.out hbb)
   have HBb := Aside0.mk (qag HB1.out hbb)
   have HKb := Aside0.mk (HK1.out.below hbb)
   obtain ⟨cb, fb⟩ := Kd.H_at HHb.out HI1.out.1 HI1.out.2
   have b1 := cb 1 _ rfl
   have fb1 := fb 1
   have b2 := cb 2 _ rfl
   have fb2 := fb 2
   have b3 := cb 3 _ rfl
   simp only [Int.toNat_natCast, show k41.sz = 5 from rfl, Nat.add_zero] at b1 fb1 b2 fb2 b3
   clear hbb cb fb hk2 HHa Ga HBa HKa H1 G1 HB1 HK1 a0 fa0
   go_wp2_with fail
   have H2 := Aside0.mk (show Kd.H k41 41 (wb.setCell ⟨g, i * 5 + 1, none⟩ (.string (mt (q + 1)))) w0.heap.size P (.slice (some ⟨g, 0, none⟩) n cap) ys (i : Int) oki [.string (mt q), .string (mt (q + 1)), .int .i64 x.f2, v3, .int .i64 x.f4] from (Kd.qie HHb.out HI1.out.1 HI1.out.2 (seg := [.string (mt (q + 1))]) (j := 1) (by show 1 + 1 ≤ 5; omega) (by simp [Value.oneCell'])).1)
   have H3 := Aside0.mk (show Kd.H k41 41 ((wb.setCell ⟨g, i * 5 + 1, none⟩ (.string (mt (q + 1)))).setCell ⟨g, i * 5 + 2, none⟩ (.int .i64 (q + 1 + 1))) w0.heap.size P (.slice (some ⟨g, 0, none⟩) n cap) ys (i : Int) oki [.string (mt q), .string (mt (q + 1)), .int .i64 (q + 1 + 1), v3, .int .i64 x.f4] from (Kd.qie H2.out HI1.out.1 HI1.out.2 (seg := [.int .i64 (q + 1 + 1)]) (j := 2) (by show 2 + 1 ≤ 5; omega) (by simp [Value.oneCell'])).1)
   have G3 := Aside0.mk (Kd.qcq (p := ⟨g, i * 5 + 2, none⟩) (Kd.qcq (p := ⟨g, i * 5 + 1, none⟩) Gb.out (fun k hk => (HO.out k hk.2).2) (.string (mt (q + 1)))) (fun k hk => (HO.out k hk.2).2) (.int .i64 (q + 1 + 1)))
   have HB3 := Aside0.mk ((HBb.out.setCell (p := ⟨g, i * 5 + 1, none⟩) HGb.out (.string (mt (q + 1)))).setCell (p := ⟨g, i * 5 + 2, none⟩) HGb.out (.int .i64 (q + 1 + 1)))
   have HK3 := Aside0.mk ((HKb.out.setCell (p := ⟨g, i * 5 + 1, none⟩) (.inl HPg.out) (.string (mt (q + 1)))).setCell (p := ⟨g, i * 5 + 2, none⟩) (.inl HPg.out) (.int .i64 (q + 1 + 1)))
   obtain ⟨k3, hk3⟩ := Ev.rounds (qhO x.f3 (q + 1 + 1 + 1) (by have := HSU.out.1; omega) (by have := HSU.out.1; omega) (by have := HSU.out.1; omega))
   refine (qaW.calls k3 _ v3 x.f3 (q + 1 + 1 + 1) _ _ w0 _ HB3.out G3.out hk3).mono ?_
   rintro e wc ⟨rfl, hrc, hbc, hkc⟩
   have HHc := Aside0.mk (Kd.H_kept H3.out hkc (fun k _ hn h => hn h.2))
   have Gc := Aside0.mk (show k56.R 56 wc w0.heap.size (fun k => some k = v3.ownBlock ∧ oki k) v3 _ from Kd.R_reok rfl hrc (fun k hk => G3.out.1 k hk))
   have HBc := Aside0.mk hbc
   have HKc := Aside0.mk (HK3.out.qhz hkc (fun k h => .inl (HO.out k h.2).1))
   obtain ⟨cc, fc⟩ := Kd.H_at HHc.out HI1.out.1 HI1.out.2
   have d4 := cc 4 _ rfl
   have fd4 := fc 4
   simp only [Int.toNat_natCast, show k41.sz = 5 from rfl, Nat.add_zero] at d4 fd4
   clear hrc hbc hkc cc fc hk3 HHb Gb HBb HKb H2 H3 G3 HB3 HK3 b1 fb1 b2 fb2 b3
   go_wp2_with fail
   have H5 := Aside0.mk (show Kd.H k41 41 (wc.setCell ⟨g, i * 5 + 4, none⟩ (.int .i64 (q + 1 + 1 + 1 + 5 * (x.f3.length : Int)))) w0.heap.size P (.slice (some ⟨g, 0, none⟩) n cap) ys (i : Int) oki [.string (mt q), .string (mt (q + 1)), .int .i64 (q + 1 + 1), v3, .int .i64 (q + 1 + 1 + 1 + 5 * (x.f3.length : Int))] from (Kd.qie HHc.out HI1.out.1 HI1.out.2 (seg := [.int .i64 (q + 1 + 1 + 1 + 5 * (x.f3.length : Int))]) (j := 4) (by show 4 + 1 ≤ 5; omega) (by simp [Value.oneCell'])).1)
   have G5 := Aside0.mk (Kd.qcq (p := ⟨g, i * 5 + 4, none⟩) Gc.out (fun k hk => (HO.out k hk.2).2) (.int .i64 (q + 1 + 1 + 1 + 5 * (x.f3.length : Int))))
   go_roundw
   case rel => exact ⟨i + 1, _, _, by omega, by go_num, rfl, by have := HSU.out.1; omega, ⟨by have h := HQ2.out; have h2 := HSU.out.2; omega⟩, ⟨by
    rw [List.drop_set_of_lt (by omega)]
    have h0 := congrArg (fun z => z.drop 1) HD.out
    simpa [List.drop_drop] using h0⟩, ⟨Kd.H_back H5.out (qgV _ w0.heap.size oki ⟨mt q, mt (q + 1), q + 1 + 1, _, q + 1 + 1 + 1 + 5 * (x.f3.length : Int)⟩ (Kd.qbr G5.out (fun k hk => hk.2))) (fun _ hk => hk)⟩, ⟨HBc.out.setCell (p := ⟨g, i * 5 + 4, none⟩) HGb.out _⟩, ⟨HKc.out.setCell (p := ⟨g, i * 5 + 4, none⟩) (.inl HPg.out) _⟩⟩
   case measure => simp [intOf]; omega
  ·have he : i = n := by omega
   have c1 : decide ((i : Int) < (n : Int)) = false := decide_eq_false (by omega)
   have hq : q = m + (qcX l : Int) := by
    have h := HQ.out
    rw [he, HN.out, List.drop_length, qcX] at h
    omega
   clear he
   go_wp2_with fail
   go_ret
   exact ⟨congrArg (fun z => Ending.returned (Value.int .i64 z)) hq, HB.out, HK.out⟩
set_option maxRecDepth 100000 in
theorem qeO (A : Option Addr) (cap : Nat) (m : Int) (w : World) : Calls Try.prog 10 #[.slice A 0 cap, .int .i64 m] w fun e w' => e = .returned (.int .i64 m) ∧ Below w.heap.size w w' := by
 have hu := Try.underlying41
 have HB := Aside0.mk (Below.refl w.heap.size w)
 go_enter Try.func10, Try.ntmps10
 go_wp2_with fail
 go_loopw [1, 5] (fun v1 v5 wr => v5 = .int .i64 0 ∧ v1 = .int .i64 m ∧ Aside0 (Below w.heap.size w wr)) (fun _ v5 _ => 0)
 case atStart => exact ⟨rfl, rfl, HB⟩
 case round =>
  clear HB
  obtain ⟨rfl, rfl, HB⟩ := hrel
  have c1 : decide ((0 : Int) < ((0 : Nat) : Int)) = false := rfl
  go_wp2_with fail
  go_ret
  exact ⟨rfl, HB.out⟩
theorem qfp (P : Nat → Prop) (A : Option Addr) (n cap : Nat) (l : List S41) (m : Int) (w0 w : World) (hB : Below w0.heap.size w0 w) (hS : Kd.S k41 41 w w0.heap.size P (.slice A n cap) l) (hm : 0 ≤ m) (hcost : m + (qcX l : Int) ≤ 4611686018427387904) :
  Calls Try.prog 10 #[.slice A n cap, .int .i64 m] w fun e w' => e = .returned (.int .i64 (m + (qcX l : Int))) ∧ Below w0.heap.size w0 w' ∧ Kept w w' P := by
 rcases Nat.eq_zero_or_pos l.length with h0 | h0
 ·have hn := (Kd.qct hS).1
  obtain rfl := List.eq_nil_of_length_eq_zero h0
  rw [List.length_nil] at hn
  subst hn
  refine (qeO A cap m w).mono ?_
  rintro e w' ⟨rfl, hb⟩
  refine ⟨?_, qag hB hb, hb.size, fun k hk _ => hb.block k hk⟩
  show Ending.returned (.int .i64 m) = .returned (.int .i64 (m + ((0 : Nat) : Int)))
  rw [show m + ((0 : Nat) : Int) = m by omega]
 ·obtain ⟨g, c, he, _⟩ := Kd.S_form hS h0
  injection he with h1 h2 h3
  subst h1; subst h2; subst h3
  exact qfF P g _ _ l m w0 w hB hS hm hcost
set_option maxHeartbeats 8000000 in
set_option maxRecDepth 100000 in
theorem sreplay (A0 : Option Addr) (c0 : Nat) (l : List S48) (last : ByteArray) (chain : Int) (fr tx : ByteArray) (n : Int) (A3 : Option Addr) (c3 : Nat) (ds : List S56) (s : Int) (w : World) (hr0 : Kd.C k48 w A0 l.length l) (hc0 : l.length ≤ c0) (hr3 : Kd.C k56 w A3 ds.length ds) (hc3 : ds.length ≤ c3) (hl : l.length ≤ 100000) (hd : ds.length ≤ 100000) (hf : Fine l) :
  Calls Try.prog 15 #[.slice A0 l.length c0, .string last, .int .i64 chain, .agg #[.string fr, .string tx, .int .i64 n, .slice A3 ds.length c3, .int .i64 s]] w fun e w' => ∃ A c, e = .returned (.tuple #[.slice A (qcH l last chain fr tx n ds s).1.length c, .int .i64 (qcH l last chain fr tx n ds s).2]) ∧ (qcH l last chain fr tx n ds s).1.length ≤ c ∧ Kd.C k48 w' A (qcH l last chain fr tx n ds s).1.length (qcH l last chain fr tx n ds s).1 ∧ Below w.heap.size w w' := by
 have hu := Try.underlying41
 have HR0 := Aside0.mk hr0
 have HR3 := Aside0.mk hr3
 have HB1 := Aside0.mk (qac (Below.refl w.heap.size w) (.cells #[.string fr, .string tx, .int .i64 n, .slice A3 ds.length c3, .int .i64 s] 41 (0, 0)))
 have K1 := Aside0.mk (qdw w (.cells #[.string fr, .string tx, .int .i64 n, .slice A3 ds.length c3, .int .i64 s] 41 (0, 0)))
 have HF := Aside0.mk hf
 have HL := Aside0.mk (And.intro hl hd)
 clear hr0 hr3 hf hl hd
 by_cases h1 : fr.toList = last.toList
 ·have c1 : (fr.toList == last.toList) = true := beq_iff_eq.mpr h1
  have c1b : (fr.toList != last.toList) = false := bne_eq_false_iff_eq.mpr h1
  by_cases h2 : n = chain
  ·have c2 : (n == chain) = true := beq_iff_eq.mpr h2
   have c2b : (n != chain) = false := bne_eq_false_iff_eq.mpr h2
   have e12 : qcH l last chain fr tx n ds s = if (qbP l l ds).2 = 0 then (if sumP (qbP l l ds).1 = s then ((qbP l l ds).1, 0) else (l, 8)) else (l, (qbP l l ds).2) := by
    unfold qcH
    rw [if_pos h1, if_pos h2]
   have HE := Aside0.mk e12
   have HFit := Aside0.mk (fun h => @qeJ l ds HF.out h)
   have hap : qcK.f l ds = some (qbP l l ds) := by
    unfold qcK.f
    rw [if_pos ⟨HF.out, HL.out.1, HL.out.2⟩]
   obtain ⟨R, code, hR⟩ : ∃ R code, qbP l l ds = (R, code) := ⟨_, _, rfl⟩
   rw [hR] at HE HFit hap
   have HAP := Aside0.mk hap
   clear h1 h2 e12 hap hR
   go_enter Try.func15, Try.ntmps15
   have b0 := qad K1.out 0
   have b2 := qad K1.out 2
   have b3 := qad K1.out 3
   simp only [List.getElem?_toArray, List.getElem?_cons_zero, List.getElem?_cons_succ] at b0 b2 b3
   go_wp2_with fail
   refine (qcK.calls (fun k => k < (w.alloc (.cells #[.string fr, .string tx, .int .i64 n, .slice A3 ds.length c3, .int .i64 s] 41 (0, 0))).heap.size) (hs0 := Kd.V_mk hc0 (Kd.C_F k48_heap (Kd.qa8 HR0.out HB1.out))) (hr1 := Kd.qa8 HR3.out HB1.out) (hc1 := hc3) (h := HAP.out)).mono ?_
   rintro e w2 ⟨v2, rfl, hv2, hb2⟩
   obtain ⟨A2, c2', rfl⟩ := Kd.qik hv2
   have HV2 := Aside0.mk (Kd.qer hv2)
   have HB2 := Aside0.mk (qag HB1.out hb2)
   have K2 := Aside0.mk (qao K1.out hb2)
   clear hv2 hb2 HB1 K1 b0 b2 b3
   by_cases h3 : code = 0
   ·have c3a : (code == 0) = true := beq_iff_eq.mpr h3
    have c3b : (code != 0) = false := bne_eq_false_iff_eq.mpr h3
    have hfit : qc7 R := HFit.out h3
    have e3 := HE.out
    try simp only at e3
    rw [if_pos h3] at e3
    have HE3 := Aside0.mk e3
    obtain ⟨ks, hks⟩ := Ev.rounds (spec_sum hfit)
    have HKS := Aside0.mk hks
    clear h3 hfit e3 hks HE HFit
    have b4 := qad K2.out 4
    simp only [List.getElem?_toArray, List.getElem?_cons_zero, List.getElem?_cons_succ] at b4
    go_wp2_with fail
    have HB3 := Aside0.mk (qcf HB2.out)
    have K3 := Aside0.mk (qal K2.out)
    have HC3 := Aside0.mk (Kd.qbl HV2.out.2.2)
    have d4 := qad K3.out 4
    simp only [List.getElem?_toArray, List.getElem?_cons_zero, List.getElem?_cons_succ] at d4
    clear b4
    go_region_held3 (fun W => W.cell? ⟨w.heap.size, 4, none⟩ = some (.int .i64 s))
     (first | exact d4 | exact f4)
     (first
      | (go_at_call 30; refine (qbb.calls ks (hr0 := HC3.out) (hc0 := HV2.out.2.1) (h := HKS.out)).mono ?_; rintro e w4 ⟨rfl, hb4⟩; have HB4 := Aside0.mk (qag HB3.out hb4); have K4 := Aside0.mk (qao K3.out hb4); have HC4 := Aside0.mk (Kd.qa8 HC3.out hb4); have f4 := qad K4.out 4; simp only [List.getElem?_toArray, List.getElem?_cons_zero, List.getElem?_cons_succ] at f4; dsimp only)
      | fail)
    by_cases h4 : sumP R = s
    ·have c4 : (sumP R == s) = true := beq_iff_eq.mpr h4
     have c4b : (sumP R != s) = false := bne_eq_false_iff_eq.mpr h4
     have e4 := HE3.out
     rw [if_pos h4] at e4
     have HE4 := Aside0.mk e4
     clear h4 e4
     go_wp2_with fail
     go_ret2
     rw [HE4.out]
     exact ⟨_, _, rfl, HV2.out.2.1, HC4.out, HB4.out⟩
    ·have c4 : (sumP R == s) = false := beq_eq_false_iff_ne.mpr h4
     have c4b : (sumP R != s) = true := bne_iff_ne.mpr h4
     have e4 := HE3.out
     rw [if_neg h4] at e4
     have HE4 := Aside0.mk e4
     clear h4 e4
     go_wp2_with fail
     go_ret2
     rw [HE4.out]
     exact ⟨_, _, rfl, hc0, Kd.qa8 HR0.out HB4.out, HB4.out⟩
   ·have c3a : (code == 0) = false := beq_eq_false_iff_ne.mpr h3
    have c3b : (code != 0) = true := bne_iff_ne.mpr h3
    have e3 := HE.out
    try simp only at e3
    rw [if_neg h3] at e3
    have HE3 := Aside0.mk e3
    clear h3 e3 HE HFit
    go_wp2_with fail
    go_ret2
    rw [HE3.out]
    exact ⟨_, _, rfl, hc0, Kd.qa8 HR0.out HB2.out, HB2.out⟩
  ·have c2 : (n == chain) = false := beq_eq_false_iff_ne.mpr h2
   have c2b : (n != chain) = true := bne_iff_ne.mpr h2
   have HE := Aside0.mk (show qcH l last chain fr tx n ds s = (l, 14) from by unfold qcH; rw [if_pos h1, if_neg h2])
   clear h1 h2
   go_enter Try.func15, Try.ntmps15
   have b0 := qad K1.out 0
   have b2 := qad K1.out 2
   simp only [List.getElem?_toArray, List.getElem?_cons_zero, List.getElem?_cons_succ] at b0 b2
   go_wp2_with fail
   go_ret2
   rw [HE.out]
   exact ⟨_, _, rfl, hc0, Kd.qa8 HR0.out HB1.out, HB1.out⟩
 ·have c1 : (fr.toList == last.toList) = false := beq_eq_false_iff_ne.mpr h1
  have c1b : (fr.toList != last.toList) = true := bne_iff_ne.mpr h1
  have HE := Aside0.mk (show qcH l last chain fr tx n ds s = (l, 13) from by unfold qcH; rw [if_neg h1])
  clear h1
  go_enter Try.func15, Try.ntmps15
  have b0 := qad K1.out 0
  simp only [List.getElem?_toArray, List.getElem?_cons_zero, List.getElem?_cons_succ] at b0
  go_wp2_with fail
  go_ret2
  rw [HE.out]
  exact ⟨_, _, rfl, hc0, Kd.qa8 HR0.out HB1.out, HB1.out⟩
set_option maxHeartbeats 8000000 in
set_option maxRecDepth 100000 in
theorem qhQ (A : Option Addr) (c : Nat) (l : List S41) (w : World) (hr : Kd.C k41 w A l.length l) (hc : l.length ≤ c) (hd : ∀ b, b ∈ l → b.f3.length ≤ 2000000) :
  Calls Try.prog 5 #[.slice A l.length c] w fun e w' => ∃ v0 : Value, e = .returned (.tuple #[v0, .int .i64 (allR l).2]) ∧ Kd.R k48 48 w' w.heap.size (fun _ => True) v0 (allR l).1 ∧ Below w.heap.size w w' := by
 have hu := Try.underlying41
 have hm : l.length ≤ 9223372036854775807 := hr.2.1
 have HR := Aside0.mk hr
 have HD := Aside0.mk hd
 have HB := Aside0.mk (Below.refl w.heap.size w)
 clear hr hd
 by_cases h1 : 4096 < l.length
 ·have c1 : decide (4096 < (l.length : Int)) = true := decide_eq_true (by omega)
  have HE := Aside0.mk (show allR l = ([], 2) from by unfold allR; rw [if_pos h1])
  clear h1
  go_enter Try.func5, Try.ntmps5
  go_wp2_with ((with_reducible refine qaM (N := 14) rfl ?_); refine Kd.qdN k48 w.heap.size 48 ?hg (N := 14) ?hd (xs := ([] : List S48)) (inner := []) (ok := fun _ => True) (okp := fun _ => True) ?hr ?hp (fun _ hk => hk) trivial HB.out HB.out.size (by simp) ?_; (case hd => rfl); (case hg => rfl); (case hr => first | (go_simp; done) | (go_simp; rfl)); (case hp => exact (Reps.none _ _)); intro v1 w1 ho1 hb1 hg_ hnew_; have HY1 := Aside0.mk (Below.grown (Below.refl _ _) hg_ (Nat.le_refl _) (fun k hk => by cases hk)); clear hg_ hnew_; have HO1 := Aside0.mk ho1; have HB1 := Aside0.mk hb1; clear ho1 hb1)
  go_ret2
  rw [HE.out]
  exact ⟨_, rfl, HO1.out, HB1.out⟩
 have c1 : decide (4096 < (l.length : Int)) = false := decide_eq_false (by omega)
 by_cases h2 : 20 < l.length
 ·have c2 : decide (20 < (l.length : Int)) = true := decide_eq_true (by omega)
  have HE := Aside0.mk (show allR l = ([], 6) from by unfold allR; rw [if_neg h1, if_pos h2])
  clear h1 h2
  go_enter Try.func5, Try.ntmps5
  go_wp2_with ((with_reducible refine qaM (N := 18) rfl ?_); refine Kd.qdN k48 w.heap.size 48 ?hg (N := 18) ?hd (xs := ([] : List S48)) (inner := []) (ok := fun _ => True) (okp := fun _ => True) ?hr ?hp (fun _ hk => hk) trivial HB.out HB.out.size (by simp) ?_; (case hd => rfl); (case hg => rfl); (case hr => first | (go_simp; done) | (go_simp; rfl)); (case hp => exact (Reps.none _ _)); intro v1 w1 ho1 hb1 hg_ hnew_; have HY1 := Aside0.mk (Below.grown (Below.refl _ _) hg_ (Nat.le_refl _) (fun k hk => by cases hk)); clear hg_ hnew_; have HO1 := Aside0.mk ho1; have HB1 := Aside0.mk hb1; clear ho1 hb1)
  go_ret2
  rw [HE.out]
  exact ⟨_, rfl, HO1.out, HB1.out⟩
 have c2 : decide (20 < (l.length : Int)) = false := decide_eq_false (by omega)
 have HE := Aside0.mk (show allR l = if l.all bakB = true then qcY [] ByteArray.empty 0 l else ([], 1) from by unfold allR; rw [if_neg h1, if_neg h2])
 have hl20 : l.length ≤ 20 := by omega
 clear h1 h2
 go_enter Try.func5, Try.ntmps5
 go_wp2_with fail
 go_loopw [4] (fun v4 wr => ∃ i : Nat, i ≤ l.length ∧ v4 = .int .i64 i ∧ Aside0 (∀ j (hj : j < l.length), j < i → bakB l[j] = true) ∧ Aside0 (Below w.heap.size w wr)) (fun v4 _ => l.length - (intOf v4).toNat)
 case atStart => exact ⟨0, Nat.zero_le _, rfl, ⟨fun j hj h => absurd h (by omega)⟩, HB⟩
 case round =>
  clear HB
  obtain ⟨i, hi, rfl, HN, HB⟩ := hrel
  by_cases hlt : i < l.length
  ·have p1 : 0 ≤ (i : Int) := by omega
   have q1 : (i : Int) < (l.length : Int) := by omega
   have c3 : decide ((i : Int) < (l.length : Int)) = true := decide_eq_true (by omega)
   have w2 : IntKind.i64.wrap ((i : Int) + 1) = (i : Int) + 1 := by rw [IntKind.wrap_i64]; omega
   obtain ⟨ad1, A3, c3', e1, hx0, hx1, hx2, hx3, hx4, hl3, hc3⟩ := qeH HR.out (i : Int) p1 q1
   have hx : qbc l (i : Int) = l[i] := by unfold qbc; rw [Int.toNat_natCast]; simp [List.getD_eq_getElem?_getD, hlt]
   rw [hx] at hx0 hx1 hx2 hx3 hx4 hl3 hc3
   cases e1
   replace hx0 := (HB.out.cell (World.block_lt_of_cell? w _ hx0)).trans hx0
   replace hx1 := (HB.out.cell (World.block_lt_of_cell? w _ hx1)).trans hx1
   replace hx2 := (HB.out.cell (World.block_lt_of_cell? w _ hx2)).trans hx2
   replace hx3 := (HB.out.cell (World.block_lt_of_cell? w _ hx3)).trans hx3
   replace hx4 := (HB.out.cell (World.block_lt_of_cell? w _ hx4)).trans hx4
   rw [Int.toNat_natCast] at hx0 hx1 hx2 hx3 hx4
   have hd3 := HD.out l[i] (List.getElem_mem hlt)
   obtain ⟨b, hbb⟩ : ∃ b, b = l[i] := ⟨_, rfl⟩
   rw [← hbb] at hx0 hx1 hx2 hx3 hx4 hl3 hc3 hd3
   have HBB := Aside0.mk hbb
   have HH := Aside0.mk (show qcv.f b.f0 b.f1 b.f2 b.f3 b.f4 = some (bakB b) from by unfold qcv.f; rw [if_pos hd3]; rfl)
   have HL3 := Aside0.mk (And.intro hl3 (Kd.qa8 hc3 HB.out))
   clear hx hbb hd3 hl3 hc3
   cases hok : bakB b with
   | true =>
    have HK := Aside0.mk hok
    clear hok
    go_wp2_with fail
    refine (qcv.calls (hr0 := HL3.out.2) (hc0 := HL3.out.1) (h := HH.out)).mono ?_
    rintro e w1 ⟨rfl, hb1⟩
    rw [HK.out]
    go_wp2_with fail
    go_roundw
    case rel => exact ⟨i + 1, by omega, by go_num, ⟨fun j hj h => by
     by_cases e : j = i
     ·subst e; rw [← HBB.out]; exact HK.out
     ·exact HN.out j hj (by omega)⟩, ⟨qag HB.out hb1⟩⟩
    case measure => simp [intOf]; omega
   | false =>
    have HK := Aside0.mk hok
    have hno : ¬ l.all bakB = true := fun h => by
     have := List.all_eq_true.1 h l[i] (List.getElem_mem hlt)
     rw [← HBB.out, hok] at this
     cases this
    have HE2 := Aside0.mk (show allR l = ([], 1) from by rw [HE.out, if_neg hno])
    clear hok hno HE
    go_wp2_with fail
    refine (qcv.calls (hr0 := HL3.out.2) (hc0 := HL3.out.1) (h := HH.out)).mono ?_
    rintro e w1 ⟨rfl, hb1⟩
    have HBx := Aside0.mk (qag HB.out hb1)
    clear hb1 HB
    rw [HK.out]
    go_wp2_with ((with_reducible refine qaM (N := 31) rfl ?_); refine Kd.qdN k48 w.heap.size 48 ?hg (N := 31) ?hd (xs := ([] : List S48)) (inner := []) (ok := fun _ => True) (okp := fun _ => True) ?hr ?hp (fun _ hk => hk) trivial HBx.out HBx.out.size (by simp) ?_; (case hd => rfl); (case hg => rfl); (case hr => first | (go_simp; done) | (go_simp; rfl)); (case hp => exact (Reps.none _ _)); intro v3 w3 ho3 hb3 hg_ hnew_; have HY3 := Aside0.mk (Below.grown (Below.refl _ _) hg_ (Nat.le_refl _) (fun k hk => by cases hk)); clear hg_ hnew_; have HO3 := Aside0.mk ho3; have HB3 := Aside0.mk hb3; clear ho3 hb3)
    go_ret2
    rw [HE2.out]
    exact ⟨_, rfl, HO3.out, HB3.out⟩
  ·have c3 : decide ((i : Int) < (l.length : Int)) = false := decide_eq_false (by omega)
   have hall : l.all bakB = true := List.all_eq_true.2 fun x hx => by
    obtain ⟨j, hj, rfl⟩ := List.getElem_of_mem hx
    exact HN.out j hj (by omega)
   have HE2 := Aside0.mk (show allR l = qcY [] ByteArray.empty 0 l from by rw [HE.out, if_pos hall])
   have HA := Aside0.mk (List.all_eq_true.1 hall)
   clear hall HE HN
   go_wp2_with ((with_reducible refine qaM (N := 32) rfl ?_); refine Kd.qdN k48 w.heap.size 48 ?hg (N := 32) ?hd (xs := ([] : List S48)) (inner := []) (ok := fun _ => True) (okp := fun _ => True) ?hr ?hp (fun _ hk => hk) trivial HB.out HB.out.size (by simp) ?_; (case hd => rfl); (case hg => rfl); (case hr => first | (go_simp; done) | (go_simp; rfl)); (case hp => exact (Reps.none _ _)); intro v4 w4 ho4 hb4 hg_ hnew_; have HY4 := Aside0.mk (Below.grown (Below.refl _ _) hg_ (Nat.le_refl _) (fun k hk => by cases hk)); clear hg_ hnew_; have HO4 := Aside0.mk ho4; have HB4 := Aside0.mk hb4; clear ho4 hb4)
   go_loopw [5, 6, 7, 8] (fun v5 v6 v7 v8 wr => ∃ (i : Nat) (out : List S48) (last : ByteArray) (chain : Int) (A5 : Option Addr) (c5 : Nat), i ≤ l.length ∧ v5 = .slice A5 out.length c5 ∧ v8 = .int .i64 i ∧ v6 = .string last ∧ v7 = .int .i64 chain ∧ out.length ≤ c5 ∧ Aside0 (Fine out ∧ out.length ≤ 60) ∧ Aside0 (Kd.C k48 wr A5 out.length out) ∧ Aside0 (Below w.heap.size w wr) ∧ Aside0 (qcY out last chain (l.drop i) = qcY [] ByteArray.empty 0 l)) (fun _ _ _ v8 _ => l.length - (intOf v8).toNat)
   case atStart =>
    obtain ⟨A5, c5, rfl⟩ := Kd.qbN HO4.out
    exact ⟨0, [], ByteArray.empty, 0, A5, c5, Nat.zero_le _, rfl, rfl, rfl, rfl, Nat.zero_le _, ⟨qga, by simp⟩, ⟨(Kd.qaO HO4.out).2.2⟩, HB4, ⟨by rw [List.drop_zero]⟩⟩
   case round =>
    clear HO4 HB4 HB
    obtain ⟨i, out, last, chain, A5, c5, hi, rfl, rfl, rfl, rfl, hlc, HF, HO, HB, HE⟩ := hrel
    by_cases hlt : i < l.length
    ·have p1 : 0 ≤ (i : Int) := by omega
     have q1 : (i : Int) < (l.length : Int) := by omega
     have c3 : decide ((i : Int) < (l.length : Int)) = true := decide_eq_true (by omega)
     have w2 : IntKind.i64.wrap ((i : Int) + 1) = (i : Int) + 1 := by rw [IntKind.wrap_i64]; omega
     obtain ⟨ad1, A3, c3', e1, hx0, hx1, hx2, hx3, hx4, hl3, hc3⟩ := qeH HR.out (i : Int) p1 q1
     have hx : qbc l (i : Int) = l[i] := by unfold qbc; rw [Int.toNat_natCast]; simp [List.getD_eq_getElem?_getD, hlt]
     rw [hx] at hx0 hx1 hx2 hx3 hx4 hl3 hc3
     cases e1
     rw [Int.toNat_natCast] at hx0 hx1 hx2 hx3 hx4
     have hfit := qiY (HA.out l[i] (List.getElem_mem hlt))
     have hdr : l.drop i = l[i] :: l.drop (i + 1) := List.drop_eq_getElem_cons hlt
     have hE := HE.out
     rw [hdr, qcY] at hE
     obtain ⟨b, hbb⟩ : ∃ b, b = l[i] := ⟨_, rfl⟩
     rw [← hbb] at hx0 hx1 hx2 hx3 hx4 hl3 hc3 hfit hE
     have HX0 := Aside0.mk hx0
     have HX1 := Aside0.mk hx1
     have HX2 := Aside0.mk hx2
     have HX3 := Aside0.mk hx3
     have HX4 := Aside0.mk hx4
     replace hx0 := (HB.out.cell (World.block_lt_of_cell? w _ hx0)).trans hx0
     replace hx1 := (HB.out.cell (World.block_lt_of_cell? w _ hx1)).trans hx1
     replace hx2 := (HB.out.cell (World.block_lt_of_cell? w _ hx2)).trans hx2
     replace hx3 := (HB.out.cell (World.block_lt_of_cell? w _ hx3)).trans hx3
     replace hx4 := (HB.out.cell (World.block_lt_of_cell? w _ hx4)).trans hx4
     have hrep := sreplay A5 c5 out last chain b.f0 b.f1 b.f2 A3 c3' b.f3 b.f4 wr HO.out hlc (Kd.qa8 hc3 HB.out) hl3 (by have := HF.out.2; omega) (by omega) HF.out.1
     have hrf := @qfm out last chain b HF.out.1
     obtain ⟨R, code, hR⟩ : ∃ R code, repB out last chain b = (R, code) := ⟨_, _, rfl⟩
     rw [show qcH out last chain b.f0 b.f1 b.f2 b.f3 b.f4 = (R, code) from hR] at hrep
     rw [hR] at hE hrf
     have HRP := Aside0.mk hrep
     have HE3 := Aside0.mk hE
     have HRF := Aside0.mk hrf
     have HL3 := Aside0.mk (And.intro hl3 hc3)
     have HFT := Aside0.mk hfit
     clear hx hfit hdr hE hrep hR hl3 hc3 hrf hbb HE HF
     go_wp2_with fail
     refine HRP.out.mono ?_
     rintro e w3 ⟨A9, c9, rfl, hl9, ho9, hb3⟩
     have HO3 := Aside0.mk ho9
     have HB3 := Aside0.mk (qag HB.out hb3)
     clear ho9 hb3 HRP hx0 hx1 hx2 hx3 hx4
     by_cases h3 : code = 0
     ·have c3a : (code == 0) = true := beq_iff_eq.mpr h3
      have c3b : (code != 0) = false := bne_eq_false_iff_eq.mpr h3
      have hE := HE3.out
      rw [if_pos h3] at hE
      have HE4 := Aside0.mk hE
      have HRF2 := Aside0.mk (HRF.out h3)
      obtain ⟨kk, hkk⟩ := Ev.rounds (qiM b.f0 b.f1 b.f2 b.f3 b.f4 HFT.out.1 HFT.out.2.1 HFT.out.2.2.1)
      have HKK := Aside0.mk hkk
      clear h3 hE HE3 HRF hkk
      have hx0 := (HB3.out.cell (World.block_lt_of_cell? w _ HX0.out)).trans HX0.out
      have hx1 := (HB3.out.cell (World.block_lt_of_cell? w _ HX1.out)).trans HX1.out
      have hx2 := (HB3.out.cell (World.block_lt_of_cell? w _ HX2.out)).trans HX2.out
      have hx3 := (HB3.out.cell (World.block_lt_of_cell? w _ HX3.out)).trans HX3.out
      have hx4 := (HB3.out.cell (World.block_lt_of_cell? w _ HX4.out)).trans HX4.out
      go_wp2_with fail
      refine (qaU.calls kk (hr0_3 := Kd.qa8 HL3.out.2 HB3.out) (hc0_3 := HL3.out.1) (h := HKK.out)).mono ?_
      rintro e w5 ⟨rfl, hb5⟩
      have HB5 := Aside0.mk (qag HB3.out hb5)
      have HO5 := Aside0.mk (Kd.qa8 HO3.out hb5)
      clear hb5 HB3 HO3 hx0 hx1 hx2 hx3 hx4
      go_wp2_with fail
      go_roundw
      case rel => exact ⟨i + 1, R, b.f1, linkB b, A9, c9, by omega, rfl, by go_num, rfl, rfl, hl9, HRF2, HO5, HB5, HE4⟩
      case measure => simp [intOf]; omega
     ·have c3a : (code == 0) = false := beq_eq_false_iff_ne.mpr h3
      have c3b : (code != 0) = true := bne_iff_ne.mpr h3
      have hE := HE3.out
      rw [if_neg h3] at hE
      have HE4 := Aside0.mk hE
      clear h3 hE HE3 HRF
      go_wp2_with ((with_reducible refine qaM (N := 52) rfl ?_); refine Kd.qdN k48 w.heap.size 48 ?hg (N := 52) ?hd (xs := ([] : List S48)) (inner := []) (ok := fun _ => True) (okp := fun _ => True) ?hr ?hp (fun _ hk => hk) trivial HB3.out HB3.out.size (by simp) ?_; (case hd => rfl); (case hg => rfl); (case hr => first | (go_simp; done) | (go_simp; rfl)); (case hp => exact (Reps.none _ _)); intro v6 w6 ho6 hb6 hg_ hnew_; have HY6 := Aside0.mk (Below.grown (Below.refl _ _) hg_ (Nat.le_refl _) (fun k hk => by cases hk)); clear hg_ hnew_; have HO6 := Aside0.mk ho6; have HB6 := Aside0.mk hb6; clear ho6 hb6)
      go_ret2
      rw [HE2.out, ← HE4.out]
      exact ⟨_, rfl, HO6.out, HB6.out⟩
    ·have c3 : decide ((i : Int) < (l.length : Int)) = false := decide_eq_false (by omega)
     have hE := HE.out
     rw [show i = l.length by omega, List.drop_length, qcY] at hE
     have HE3 := Aside0.mk hE
     have HLL := Aside0.mk HF.out.2
     clear hE HE
     go_wp2_with (first | ((with_reducible refine qaM (N := 65) rfl ?_); refine Kd.qdN k48 w.heap.size 48 ?hg (N := 65) ?hd (xs := ([] : List S48)) (inner := []) (ok := fun _ => True) (okp := fun _ => True) ?hr ?hp (fun _ hk => hk) trivial HB.out HB.out.size (by simp) ?_; (case hd => rfl); (case hg => rfl); (case hr => first | (go_simp; done) | (go_simp; rfl)); (case hp => exact (Reps.none _ _)); intro v7 w7 ho7 hb7 hg_ hnew_; have HY7 := Aside0.mk (Below.grown (Below.refl _ _) hg_ (Nat.le_refl _) (fun k hk => by cases hk)); clear hg_ hnew_; have HO7 := Aside0.mk ho7; have HB7 := Aside0.mk hb7; clear ho7 hb7) | ((with_reducible refine qbC (b := .append) (xs := #[.tmp 65, .tmp 66]) rfl ?_); at_builtin; refine Kd.qbQ k48 (w0 := w) w.heap.size rfl (.tmp 65) (.tmp 66) 24 48 (.agg #[.string ⟨#[]⟩, .string ⟨#[]⟩]) 32 rfl Try.underlying24 qcL rfl (by decide) (by omega) v7 [] out _ _ _ (fun _ => True) (fun _ => False) rfl rfl ?aO ?aR (fun _ _ h => h) (fun _ h => h.elim) (fun _ _ => trivial) ?aB ?aS ?aL ?_; (case aR => exact Kd.qa8 HO.out HY7.out); (case aB => exact HB7.out); (case aO => exact HO7.out); (case aS => exact HB7.out.size); (case aL => have := HLL.out; (try simp only [List.length_nil, List.length_append, List.length_cons]); omega); intro v8 w8 ho8 hb8 hg8 hat8; have HO8 := Aside0.mk ho8; have HB8 := Aside0.mk hb8; clear ho8 hb8 hat8))
     go_ret2
     rw [HE2.out, ← HE3.out]
     exact ⟨_, rfl, by simpa using HO8.out, HB8.out⟩
end Go.Proofs.Ytlkdcicpaneakaa.X
