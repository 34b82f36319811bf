import Derived.Test.YtenfomejccfkgaaKFnExactNodeBytes3
import Derived.Test.YtenfomejccfkgaaKFnExactNodeBytes4
import Derived.Test.YtenfomejccfkgaaKFnExactNodeBytes7
import Derived.Test.YtenfomejccfkgaaKFnExactNodeBytes8
import Derived.Test.YtenfomejccfkgaaKFnExactNodeBytes9
import Derived.Test.YtenfomejccfkgaaKFnExactNodeBytes10
import Derived.Laws.BitsAllLaws
import Derived.Laws.BitsLemmas
namespace Go.Proofs.Ytenfomejccfkgaa.X
open Go.RowKit Go.Proofs.YtenfomejccfkgaaW.PrintWords Go.Proofs.YtenfomejccfkgaaW.PrintLast Go.Proofs.YtenfomejccfkgaaW.PrintMore
attribute [local go_sem] qaE qaF qaG qaz qaA qaS qaT qau qav qaB qaC
set_option linter.unusedVariables false
set_option linter.unusedSimpArgs false
def freeB (leaf : Bool) (ps : List S99) (ks : List ByteArray) (cs : List Int) : Bool := !leaf && (decide (ps.length = 0) && (decide (ks.length = 0) && decide (cs.length = 0)))
def kidAt (ks : List ByteArray) (cs : List Int) (i : Nat) : Bool := inB (rd cs i) 0 49 && (keyB (rdOf ByteArray.empty ks i) && (decide (i = 0) || Op.bytesLess (rdOf ByteArray.empty ks ((i - 1 : Nat) : Int)).toList (rdOf ByteArray.empty ks i).toList))
def nodeB (leaf : Bool) (ps : List S99) (ks : List ByteArray) (cs : List Int) : Bool :=
 freeB leaf ps ks cs || (if leaf = true then (inB ps.length 1 3 && (qds ps && (decide (ks.length = 0) && decide (cs.length = 0)))) else (decide (ps.length = 0) && (inB cs.length 1 4 && (decide (ks.length = cs.length) && allB (kidAt ks cs) cs.length))))
theorem key_in (s : ByteArray) : inB (s.size : Int) 1 30 = keyB s := by
 unfold inB keyB
 rw [Bool.eq_iff_iff]
 simp only [Bool.and_eq_true, decide_eq_true_eq]
 omega
theorem qcE (n : Nat) : ((n : Int) == 0) = decide (n = 0) := by
 by_cases h : n = 0
 ·simp [h]
 ·simp [h]
theorem qe3 (leaf : Bool) (ps : List S99) (ks : List ByteArray) (cs : List Int) : qbl.f leaf ps ks cs = some (freeB leaf ps ks cs) := by
 unfold qbl.f freeB
 rw [qcE]
 cases leaf with
 | true => simp
 | false =>
  by_cases h1 : ps.length = 0
  ·by_cases h2 : ks.length = 0
   ·simp [h1, h2]
   ·simp [h1, h2]
  ·simp [h1]
theorem qe4 (leaf : Bool) (ps : List S99) (ks : List ByteArray) (cs : List Int) : qbm.f leaf ps ks cs = some (freeB leaf ps ks cs) := by
 unfold qbm.f freeB
 rw [qcE]
 cases leaf with
 | true => simp
 | false =>
  by_cases h1 : ps.length = 0
  ·by_cases h2 : ks.length = 0
   ·simp [h1, h2]
   ·simp [h1, h2]
  ·simp [h1]
theorem qd8 (leaf : Bool) (ps : List S99) (ks : List ByteArray) (cs : List Int) (he : ks.length = cs.length) (hl : cs.length < 9223372036854775807) : Ev (fun k => qar.l0 k 0 leaf ps ks cs) (allB (kidAt ks cs) cs.length) := by
 refine Ev.same (Ev.all (g := fun k x => qar.l0 k x leaf ps ks cs) (kidAt ks cs) true cs.length ?_ ?_) (by simp)
 ·refine Ev.succ ?_
  simp only [qar.l0]
  exact Ev.neg (by omega) (Ev.is rfl)
 ·intro i hi r h
  refine Ev.succ ?_
  simp only [qar.l0, qgo, key_in, Option.bind_some, qbV (n := i) (by omega)]
  refine Ev.pos (by omega) (Ev.pos (by omega) ?_)
  cases h1 : inB (rd cs i) 0 49 with
  | false => exact Ev.neg (by simp) (Ev.is (by simp [kidAt, h1]))
  | true =>
   refine Ev.pos rfl (Ev.pos (by omega) ?_)
   cases h2 : keyB (rdOf ByteArray.empty ks i) with
   | false => exact Ev.neg (by simp) (Ev.is (by simp [kidAt, h2]))
   | true =>
    refine Ev.pos rfl ?_
    by_cases h0 : i = 0
    ·subst h0
     exact Ev.neg (by omega) (Ev.same h (by simp [kidAt] at *; simp [h1, h2]))
    ·simp only [qeX (n := i) (by omega) (by omega)]
     refine Ev.pos (by omega) (Ev.pos (by omega) (Ev.pos (by omega) ?_))
     cases h4 : Op.bytesLess (rdOf ByteArray.empty ks ((i - 1 : Nat) : Int)).toList (rdOf ByteArray.empty ks i).toList with
     | false => exact Ev.neg (by simp) (Ev.is (by simp [kidAt, h4, h0]))
     | true => exact Ev.pos rfl (Ev.same h (by simp [kidAt, h1, h2, h4, h0]))
theorem qd9 (leaf : Bool) (ps : List S99) (ks : List ByteArray) (cs : List Int) (he : ks.length = cs.length) (hl : cs.length < 9223372036854775807) : Ev (fun k => qat.l0 k ks (ks.length : Int) 0 leaf ps ks cs) (allB (kidAt ks cs) cs.length) := by
 refine Ev.same (Ev.all (g := fun k x => qat.l0 k ks (ks.length : Int) x leaf ps ks cs) (kidAt ks cs) true cs.length ?_ ?_) (by simp)
 ·refine Ev.succ ?_
  simp only [qat.l0]
  exact Ev.neg (by omega) (Ev.is rfl)
 ·intro i hi r h
  refine Ev.succ ?_
  simp only [qat.l0, qgp, qfE, Option.bind_some, qbV (n := i) (by omega)]
  refine Ev.pos (by omega) (Ev.pos (by omega) (Ev.pos (by omega) ?_))
  cases h1 : keyB (rdOf ByteArray.empty ks i) with
  | false => exact Ev.neg (by simp) (Ev.is (by simp [kidAt, h1]))
  | true =>
   refine Ev.pos rfl (Ev.pos (by omega) ?_)
   cases h2 : inB (rd cs i) 0 49 with
   | false => exact Ev.neg (by simp) (Ev.is (by simp [kidAt, h2]))
   | true =>
    refine Ev.pos rfl ?_
    by_cases h0 : i = 0
    ·subst h0
     exact Ev.neg (by omega) (Ev.same h (by simp [kidAt] at *; simp [h1, h2]))
    ·simp only [qeX (n := i) (by omega) (by omega)]
     refine Ev.pos (by omega) (Ev.pos (by omega) (Ev.pos (by omega) ?_))
     cases h4 : Op.bytesLess (rdOf ByteArray.empty ks ((i - 1 : Nat) : Int)).toList (rdOf ByteArray.empty ks i).toList with
     | false => exact Ev.neg (by simp) (Ev.is (by simp [kidAt, h4, h0]))
     | true => exact Ev.pos rfl (Ev.same h (by simp [kidAt, h1, h2, h4, h0]))
theorem qgt (a b : Nat) : ((a : Int) != (b : Int)) = !decide (a = b) := by
 by_cases h : a = b
 ·simp [h]
 ·rw [decide_eq_false h]
  simp
  omega
theorem qfo (leaf : Bool) (ps : List S99) (ks : List ByteArray) (cs : List Int) (hl : cs.length < 9223372036854775807) : Ev (fun k => qar.f k leaf ps ks cs) (nodeB leaf ps ks cs) := by
 have hj : ∀ c : Bool, (c = false → ks.length = cs.length) → Ev (fun k => qar.j0 k c leaf ps ks cs) (!c && allB (kidAt ks cs) cs.length) := by
  intro c hc
  refine Ev.succ ?_
  simp only [qar.j0]
  cases c with
  | true => exact Ev.pos rfl (Ev.is rfl)
  | false => exact Ev.neg (by simp) (Ev.same (qd8 leaf ps ks cs (hc rfl) hl) (by simp))
 unfold qar.f nodeB
 simp only [qe3, qgo, Option.bind_some, qcE, qgt]
 cases h0 : freeB leaf ps ks cs with
 | true => exact Ev.pos rfl (Ev.is (by simp))
 | false =>
  refine Ev.neg (by simp) ?_
  cases h1 : leaf with
  | true =>
   refine Ev.pos rfl ?_
   cases h2 : inB ps.length 1 3 with
   | false => exact Ev.neg (by simp) (Ev.is (by simp))
   | true =>
    refine Ev.pos rfl (Ev.bind (qe2 ps) ?_)
    cases h3 : qds ps with
    | false => exact Ev.neg (by simp) (Ev.is (by simp))
    | true =>
     refine Ev.pos rfl ?_
     by_cases h4 : ks.length = 0
     ·exact Ev.pos (by omega) (Ev.is (by simp [h4]))
     ·exact Ev.neg (by omega) (Ev.is (by simp [h4]))
  | false =>
   rw [h1] at hj
   refine Ev.neg (by simp) ?_
   by_cases h2 : ps.length = 0
   ·refine Ev.pos (by omega) ?_
    cases h3 : inB cs.length 1 4 with
    | false => exact Ev.neg (by simp) (Ev.same (hj true (by simp)) (by simp))
    | true => exact Ev.pos rfl (Ev.same (hj _ (by simp)) (by simp [h2]))
   ·exact Ev.neg (by omega) (Ev.same (hj true (by simp)) (by simp [h2]))
theorem qfp (leaf : Bool) (ps : List S99) (ks : List ByteArray) (cs : List Int) (hl : cs.length < 9223372036854775807) : Ev (fun k => qat.f k leaf ps ks cs) (nodeB leaf ps ks cs) := by
 have hj : ∀ c : Bool, (c = false → ks.length = cs.length) → Ev (fun k => qat.j0 k c leaf ps ks cs) (!c && allB (kidAt ks cs) cs.length) := by
  intro c hc
  refine Ev.succ ?_
  simp only [qat.j0]
  cases c with
  | true => exact Ev.pos rfl (Ev.is rfl)
  | false => exact Ev.neg (by simp) (Ev.same (qd9 leaf ps ks cs (hc rfl) hl) (by simp))
 unfold qat.f nodeB
 simp only [qe4, qgp, Option.bind_some, qcE, qgt]
 cases h0 : freeB leaf ps ks cs with
 | true => exact Ev.pos rfl (Ev.is (by simp))
 | false =>
  refine Ev.neg (by simp) ?_
  cases h1 : leaf with
  | true =>
   refine Ev.pos rfl ?_
   cases h2 : inB ps.length 1 3 with
   | false => exact Ev.neg (by simp) (Ev.is (by simp))
   | true =>
    have hp : ps.length ≤ 3 := by simp only [inB, Bool.and_eq_true, decide_eq_true_eq] at h2; omega
    have e3 : qds ps = chainB none ps := by unfold qds; rw [decide_eq_true (by omega), Bool.true_and]
    refine Ev.pos rfl (Ev.bind (qfn ps (by omega)) ?_)
    rw [e3]
    cases h3 : chainB none ps with
    | false => exact Ev.neg (by simp) (Ev.is (by simp))
    | true =>
     refine Ev.pos rfl ?_
     by_cases h4 : ks.length = 0
     ·exact Ev.pos (by omega) (Ev.is (by simp [h4]))
     ·exact Ev.neg (by omega) (Ev.is (by simp [h4]))
  | false =>
   rw [h1] at hj
   refine Ev.neg (by simp) ?_
   by_cases h2 : ps.length = 0
   ·refine Ev.neg (by omega) ?_
    cases h3 : inB cs.length 1 4 with
    | false => exact Ev.neg (by simp) (Ev.same (hj true (by simp)) (by simp))
    | true => exact Ev.pos rfl (Ev.same (hj _ (by simp)) (by simp [h2]))
   ·exact Ev.pos (by omega) (Ev.same (hj true (by simp)) (by simp [h2]))
end Go.Proofs.Ytenfomejccfkgaa.X
namespace Go.Proofs.Ytenfomejccfkgaa.X
open Go.RowKit Go.Proofs.YtenfomejccfkgaaW.PrintWords Go.Proofs.YtenfomejccfkgaaW.PrintLast Go.Proofs.YtenfomejccfkgaaW.PrintMore
attribute [local go_sem] qaE qaF qaG qaz qaA qaS qaT qau qav qaB qaC
set_option linter.unusedVariables false
set_option linter.unusedSimpArgs false
mutual
def qbg.l0 : Nat → Int → List Int → Int → Int → Option (Int)
 | 0, _, _, _, _ => none
 | k + 1, x3, x6, x7, x8 => if x8 < x7 then (if 0 ≤ x8 then (if x8 < (x6.length : Int) then (qbg.l1 k (Go.bits .xor .u32 x3 ((rd x6 x8) % 4294967296)) x6 x7 x8 0) else (none)) else (none)) else (some (wrap64 (Go.bits .xor .u32 IntKind.u32.max x3)))
def qbg.l1 : Nat → Int → List Int → Int → Int → Int → Option (Int)
 | 0, _, _, _, _, _ => none
 | k + 1, x3, x6, x7, x8, x16 => if x16 < 8 then (qbg.l1 k (Go.bits .xor .u32 (x3 / 2) ((3988292384 * (Go.bits .and .u32 x3 1)) % 4294967296)) x6 x7 x8 (wrap64 (x16 + 1))) else (qbg.l0 k x3 x6 x7 (wrap64 (x8 + 1)))
end
def qbg.f (k : Nat) (l0 : List Int) : Option (Int) := qbg.l0 k 4294967295 l0 (l0.length : Int) 0
theorem qbg.qbf : ∀ k, (∀ y0 y1 y2 y3, LeO (qbg.l0 k y0 y1 y2 y3) (qbg.l0 (k + 1) y0 y1 y2 y3)) ∧ (∀ y0 y1 y2 y3 y4, LeO (qbg.l1 k y0 y1 y2 y3 y4) (qbg.l1 (k + 1) y0 y1 y2 y3 y4))
 | 0 => ⟨fun _ _ _ _ r h => by simp [qbg.l0] at h, fun _ _ _ _ _ r h => by simp [qbg.l1] at h⟩
 | k + 1 => by
  obtain ⟨ih0, ih1⟩ := qbg.qbf k
  refine ⟨?_, ?_⟩
  ·intro y0 y1 y2 y3
   unfold qbg.l0
   repeat' first
   | (with_reducible exact ih0 _ _ _ _)
   | (with_reducible exact ih1 _ _ _ _ _)
   | (with_reducible exact LeO.refl _)
   | (with_reducible exact LeO.none _)
   | (with_reducible refine LeO.ite ?_ ?_)
   | (with_reducible refine LeO.bind ?_ (fun _ => ?_))
   | exact ih0 _ _ _ _
   | exact ih1 _ _ _ _ _
   | exact LeO.none _
   | refine LeO.ite ?_ ?_
   | refine LeO.bind ?_ (fun _ => ?_)
  ·intro y0 y1 y2 y3 y4
   unfold qbg.l1
   repeat' first
   | (with_reducible exact ih0 _ _ _ _)
   | (with_reducible exact ih1 _ _ _ _ _)
   | (with_reducible exact LeO.refl _)
   | (with_reducible exact LeO.none _)
   | (with_reducible refine LeO.ite ?_ ?_)
   | (with_reducible refine LeO.bind ?_ (fun _ => ?_))
   | exact ih0 _ _ _ _
   | exact ih1 _ _ _ _ _
   | exact LeO.none _
   | refine LeO.ite ?_ ?_
   | refine LeO.bind ?_ (fun _ => ?_)
theorem qbg.mono : ∀ a0 k, LeO (qbg.f k a0) (qbg.f (k + 1) a0) := by
 intro a0 k
 obtain ⟨ih0, ih1⟩ := qbg.qbf k
 unfold qbg.f
 repeat' first
   | (with_reducible exact ih0 _ _ _ _)
   | (with_reducible exact ih1 _ _ _ _ _)
   | (with_reducible exact LeO.refl _)
   | (with_reducible exact LeO.none _)
   | (with_reducible refine LeO.ite ?_ ?_)
   | (with_reducible refine LeO.bind ?_ (fun _ => ?_))
   | exact ih0 _ _ _ _
   | exact ih1 _ _ _ _ _
   | exact LeO.none _
   | refine LeO.ite ?_ ?_
   | refine LeO.bind ?_ (fun _ => ?_)
set_option maxHeartbeats 8000000 in
set_option maxRecDepth 100000 in
theorem qbg.calls (k : Nat) (A0 : Option Addr) (c0 : Nat) (l0 : List Int) (r : Int) (w : World) (hr0 : Kd.C (Kd.int .u8) w A0 l0.length l0) (hc0 : l0.length ≤ c0) (h : qbg.f k l0 = some r) :
  Calls Try.prog 187 #[.slice A0 l0.length c0] w fun e w' => e = .returned (.int .i64 r) ∧ qa0 w w' := by
 have HR0 := Aside0.mk hr0
 have HC0 := Aside0.mk hc0
 clear hr0 hc0
 have H : (qbg.l0 k 4294967295 l0 (l0.length : Int) 0) = some r := h
 clear h
 have H' := Aside0.mk H
 clear H
 go_enter Try.func187, Try.ntmps187
 go_wp2
 go_loopg [3, 8] k (fun kq v3 v8 w' => ∃ (x3_1 : Int) (x8_1 : Int), v3 = .int .u32 x3_1 ∧ v8 = .int .i64 x8_1 ∧ Aside0 (qbg.l0 kq x3_1 l0 (l0.length : Int) x8_1 = some r) ∧ Aside0 (kq ≤ k) ∧ qa0 w w')
 case atStart => exact ⟨(4294967295), (0), (by first | rfl | (simp; done) | (simp [*]; done)), (by first | rfl | (simp; done) | (simp [*]; done)), H', ⟨Nat.le_refl _⟩, by repeat (first | exact qa0.refl _ | apply qa0.step)⟩
 case round =>
  clear H'
  try clear c1
  obtain ⟨x3_1, x8_1, rfl, rfl, HA, HK1, ⟨m1, rfl⟩⟩ := hrel
  cases gk with
  | zero => exact absurd HA.out (by simp [qbg.l0])
  | succ k1 =>
   have H := HA.out
   clear HA
   simp only [qbg.l0] at H
   by_cases c2 : x8_1 < (l0.length : Int)
   ·rw [if_pos c2] at H
    have c2b0 : decide (x8_1 < (l0.length : Int)) = true := decide_eq_true c2
    clear c2
    by_cases c3 : 0 ≤ x8_1
    ·rw [if_pos c3] at H
     have c3b0 : decide (0 ≤ x8_1) = true := decide_eq_true c3
     clear c3
     by_cases c4 : x8_1 < (l0.length : Int)
     ·rw [if_pos c4] at H
      have c4b0 : decide (x8_1 < (l0.length : Int)) = true := decide_eq_true c4
      clear c4
      have H' := Aside0.mk H
      clear H
      have p395 : 0 ≤ (x8_1 : Int) := of_decide_eq_true (by first | (with_reducible assumption) | assumption)
      have q395 : x8_1 < (l0.length : Int) := of_decide_eq_true (by first | (with_reducible assumption) | assumption)
      obtain ⟨ad395, e395, hx395_0⟩ := Kd.qb1 HR0.out x8_1 p395 q395
      cases e395
      replace p395 := eq_true p395
      replace q395 := eq_true q395
      go_wp2
      go_loopg [3, 16] k1 (fun kq v3 v16 w' => ∃ (x3_2 : Int) (x16_2 : Int), v3 = .int .u32 x3_2 ∧ v16 = .int .i64 x16_2 ∧ Aside0 (qbg.l1 kq x3_2 l0 (l0.length : Int) x8_1 x16_2 = some r) ∧ Aside0 (kq ≤ k1) ∧ qa0 w w')
      case atStart => exact ⟨(Go.bits .xor .u32 x3_1 ((rd l0 x8_1) % 4294967296)), (0), (by first | rfl | (simp; done) | (simp [*]; done)), (by first | rfl | (simp; done) | (simp [*]; done)), H', ⟨Nat.le_refl _⟩, by repeat (first | exact qa0.refl _ | apply qa0.step)⟩
      case round =>
       clear H'
       try clear c1
       try clear c2
       try clear c2b0
       try clear p2
       try clear c3
       try clear c3b0
       try clear p3
       try clear q3
       try clear hx3
       try clear c4
       try clear c4b0
       try clear hx395_0
       try clear p395
       try clear q395
       obtain ⟨x3_2, x16_2, rfl, rfl, HA, HK2, ⟨m2, rfl⟩⟩ := hrel
       cases gk with
       | zero => exact absurd HA.out (by simp [qbg.l1])
       | succ k2 =>
        have H := HA.out
        clear HA
        simp only [qbg.l1] at H
        by_cases c5 : x16_2 < 8
        ·rw [if_pos c5] at H
         have c5b0 : decide (x16_2 < 8) = true := decide_eq_true c5
         clear c5
         have H' := Aside0.mk H
         clear H
         go_wp2
         go_roundg k2
         case measure => have := HK1.out; have := HK2.out; omega
         case rel => exact ⟨(Go.bits .xor .u32 (x3_2 / 2) ((3988292384 * (Go.bits .and .u32 x3_2 1)) % 4294967296)), (wrap64 (x16_2 + 1)), (by first | rfl | (simp; done) | (simp [*]; done)), (by first | rfl | (simp; done) | (simp [*]; done)), H', ⟨by have := HK1.out; have := HK2.out; omega⟩, by repeat (first | exact qa0.refl _ | apply qa0.step)⟩
        ·rw [if_neg c5] at H
         have c5b0 : decide (x16_2 < 8) = false := decide_eq_false c5
         clear c5
         have H' := Aside0.mk H
         clear H
         go_wp2
         go_roundg k2
         case measure => have := HK1.out; have := HK2.out; omega
         case rel => exact ⟨(x3_2), (wrap64 (x8_1 + 1)), (by first | rfl | (simp; done) | (simp [*]; done)), (by first | rfl | (simp; done) | (simp [*]; done)), H', ⟨by have := HK1.out; have := HK2.out; omega⟩, by repeat (first | exact qa0.refl _ | apply qa0.step)⟩
     ·rw [if_neg c4] at H
      exact absurd H (by simp)
    ·rw [if_neg c3] at H
     exact absurd H (by simp)
   ·rw [if_neg c2] at H
    have c2b0 : decide (x8_1 < (l0.length : Int)) = false := decide_eq_false c2
    clear c2
    obtain rfl := Option.some.inj H
    go_wp2
    go_ret
    exact ⟨by first | rfl | (simp; done) | (simp [*]; done), by repeat (first | exact qa0.refl _ | apply qa0.step)⟩
end Go.Proofs.Ytenfomejccfkgaa.X
namespace Go.Proofs.Ytenfomejccfkgaa.X
open Go.RowKit Go.Proofs.YtenfomejccfkgaaW.PrintWords Go.Proofs.YtenfomejccfkgaaW.PrintLast Go.Proofs.YtenfomejccfkgaaW.PrintMore
attribute [local go_sem] qaE qaF qaG qaz qaA qaS qaT qau qav qaB qaC
set_option linter.unusedVariables false
set_option linter.unusedSimpArgs false
def stepN (x : Nat) : Nat := (x / 2) ^^^ (3988292384 * (x % 2))
def step4 (x : Nat) : Nat := stepN (stepN (stepN (stepN x)))
def step8 (x : Nat) : Nat := step4 (step4 x)
def nib (r x : Nat) : Nat := (r / 16) ^^^ step4 ((r ^^^ x) % 16)
def crcF (r : Nat) : List Int → Nat
 | [] => r
 | c :: l => crcF (step8 (r ^^^ c.toNat)) l
theorem qgu (x y : Nat) : stepN (x ^^^ y) = stepN x ^^^ stepN y := by
 unfold stepN
 have e : (x ^^^ y) % 2 = (x % 2) ^^^ (y % 2) := Nat.xor_mod_two_pow (n := 1)
 rw [Nat.xor_div_two, e]
 rcases Nat.mod_two_eq_zero_or_one x with hx | hx <;> rcases Nat.mod_two_eq_zero_or_one y with hy | hy <;> rw [hx, hy]
 ·simp
 ·simp [Nat.xor_assoc]
 ·simp only [Nat.mul_one, Nat.mul_zero, Nat.xor_zero]
  rw [Nat.xor_assoc, Nat.xor_assoc, Nat.xor_comm (y / 2)]
 ·simp only [Nat.mul_one, Nat.mul_zero, Nat.xor_zero, Nat.xor_self]
  rw [Nat.xor_assoc, Nat.xor_comm 3988292384, Nat.xor_assoc, Nat.xor_self, Nat.xor_zero]
theorem qgv (x y : Nat) : step4 (x ^^^ y) = step4 x ^^^ step4 y := by
 unfold step4
 simp only [qgu]
theorem qcW (y : Nat) : stepN (2 * y) = y := by
 unfold stepN
 rw [show 2 * y / 2 = y by omega, show 2 * y % 2 = 0 by omega]
 simp
theorem qfT (q : Nat) : step4 (16 * q) = q := by
 unfold step4
 rw [show 16 * q = 2 * (2 * (2 * (2 * q))) by omega, qcW, qcW, qcW, qcW]
theorem split16 (r : Nat) : r = (16 * (r / 16)) ^^^ (r % 16) := by
 have hs : r % 16 < 2 ^ 4 := by omega
 have e : r = 2 ^ 4 * (r / 16) + r % 16 := by omega
 have e2 : 16 * (r / 16) = 2 ^ 4 * (r / 16) := by omega
 rw [e2]
 refine Nat.eq_of_testBit_eq fun j => ?_
 rw [Nat.testBit_xor, Nat.testBit_two_pow_mul]
 conv => lhs; rw [e, Nat.testBit_two_pow_mul_add _ hs]
 by_cases hj : j < 4
 ·simp [hj, show ¬ 4 ≤ j by omega]
 ·have hz : (r % 16).testBit j = false := Nat.testBit_lt_two_pow (Nat.lt_of_lt_of_le hs (Nat.pow_le_pow_right (by omega) (by omega)))
  rw [hz]
  simp [hj, show 4 ≤ j by omega]
theorem qfF (r : Nat) : step4 r = (r / 16) ^^^ step4 (r % 16) := by
 conv => lhs; rw [split16 r]
 rw [qgv, qfT]
theorem qe5 (a b : Nat) : (a ^^^ b) / 16 = a / 16 ^^^ b / 16 := Nat.xor_div_two_pow (n := 4)
theorem qgw (r c : Nat) (hc : c < 256) : step8 (r ^^^ c) = nib (nib r c) (c / 16) := by
 have h1 : step4 (r ^^^ c) = nib r c ^^^ c / 16 := by
  rw [qfF, qe5]
  unfold nib
  rw [Nat.xor_assoc, Nat.xor_assoc, Nat.xor_comm (c / 16)]
 unfold step8
 rw [h1, qfF, qe5, show c / 16 / 16 = 0 by omega, Nat.xor_zero]
 rfl
theorem qcX {x : Nat} (h : x < 4294967296) : stepN x < 4294967296 := by
 unfold stepN
 refine Nat.xor_lt_two_pow (n := 32) (by omega) ?_
 rcases Nat.mod_two_eq_zero_or_one x with hx | hx <;> rw [hx] <;> decide
theorem qdu {x : Nat} (h : x < 4294967296) : step4 x < 4294967296 := qcX (qcX (qcX (qcX h)))
theorem qfG {x : Nat} (h : x < 4294967296) : step8 x < 4294967296 := qdu (qdu h)
def isByte (c : Int) : Prop := 0 ≤ c ∧ c < 256
theorem qc8 {r : Nat} (h : r < 4294967296) {c : Int} (hc : isByte c) : r ^^^ c.toNat < 4294967296 := Nat.xor_lt_two_pow (n := 32) h (by have := hc.1; have := hc.2; omega)
theorem qgx (l : List Int) : ∀ r, r < 4294967296 → (∀ c, c ∈ l → isByte c) → crcF r l < 4294967296 := by
 induction l with
 | nil => intro r h _; exact h
 | cons c l ih => intro r h hl; exact ih _ (qfG (qc8 h (hl c List.mem_cons_self))) fun x hx => hl x (List.mem_cons_of_mem _ hx)
theorem qfq (l m : List Int) : ∀ r, crcF r (l ++ m) = crcF (crcF r l) m := by
 induction l with
 | nil => intro r; rfl
 | cons c l ih => intro r; exact ih _
def qcn (l : List Int) : Int := ((4294967295 ^^^ crcF 4294967295 l : Nat) : Int)
theorem qgy (n : Nat) (h : n < 4294967296) : Go.bits .xor .u32 ((n : Int) / 2) ((3988292384 * (Go.bits .and .u32 (n : Int) 1)) % 4294967296) = ((stepN n : Nat) : Int) := by
 have e1 : Go.bits .and .u32 (n : Int) 1 = ((n % 2 : Nat) : Int) := by
  have := u32_and_nat n 1 h (by decide)
  rw [Nat.and_one_is_mod] at this
  exact this
 rw [e1]
 have e2 : (3988292384 * ((n % 2 : Nat) : Int)) % 4294967296 = ((3988292384 * (n % 2) : Nat) : Int) := by
  rcases Nat.mod_two_eq_zero_or_one n with hx | hx <;> rw [hx] <;> decide
 have e3 : (n : Int) / 2 = ((n / 2 : Nat) : Int) := by omega
 rw [e2, e3, u32_xor_nat _ _ (by omega) (by rcases Nat.mod_two_eq_zero_or_one n with hx | hx <;> rw [hx] <;> decide)]
 rfl
def qe6 : Nat → Nat → Nat
 | 0, x => x
 | d + 1, x => qe6 d (stepN x)
theorem qgz (l : List Int) (n : Int) (i : Int) (d : Nat) : ∀ (x : Nat) (j : Nat) (R : Int), j + d = 8 → x < 4294967296 → Ev (fun k => qbg.l0 k ((qe6 d x : Nat) : Int) l n (wrap64 (i + 1))) R → Ev (fun k => qbg.l1 k (x : Int) l n i (j : Int)) R := by
 induction d with
 | zero =>
  intro x j R hj _ h
  refine Ev.succ ?_
  simp only [qbg.l1]
  exact Ev.neg (by omega) h
 | succ d ih =>
  intro x j R hj hx h
  refine Ev.succ ?_
  simp only [qbg.l1, qgy x hx, qbV (n := j) (by omega)]
  exact Ev.pos (by omega) (ih _ (j + 1) R (by omega) (qcX hx) h)
theorem qgA (l : List Int) (hl : l.length < 9223372036854775807) (rest : List Int) : ∀ (pre : List Int) (r : Nat), l = pre ++ rest → r < 4294967296 → (∀ c, c ∈ rest → isByte c) →
  Ev (fun k => qbg.l0 k (r : Int) l (l.length : Int) ((pre.length : Nat) : Int)) ((4294967295 ^^^ crcF r rest : Nat) : Int) := by
 induction rest with
 | nil =>
  intro pre r h hr _
  refine Ev.succ ?_
  simp only [qbg.l0]
  have hx : 4294967295 ^^^ r < 4294967296 := Nat.xor_lt_two_pow (n := 32) (by decide) hr
  have e1 : Go.bits .xor .u32 IntKind.u32.max (r : Int) = ((4294967295 ^^^ r : Nat) : Int) := u32_xor_nat 4294967295 r (by decide) hr
  exact Ev.neg (by rw [h]; simp) (Ev.is (by rw [e1, qbw (by omega) (by omega)]; rfl))
 | cons c m ih =>
  intro pre r h hr hb
  have hc := hb c List.mem_cons_self
  have hlen : pre.length < l.length := by rw [h]; simp
  have hx : rd l ((pre.length : Nat) : Int) = c := by rw [h]; simp [rd, List.getD_eq_getElem?_getD]
  have hi := ih (pre ++ [c]) (step8 (r ^^^ c.toNat)) (by rw [h]; simp) (qfG (qc8 hr hc)) fun x hx => hb x (List.mem_cons_of_mem _ hx)
  rw [← qbJ] at hi
  have e1 : Go.bits .xor .u32 (r : Int) (c % 4294967296) = ((r ^^^ c.toNat : Nat) : Int) := by
   have h1 := hc.1
   have h2 := hc.2
   have e : c % 4294967296 = ((c.toNat : Nat) : Int) := by omega
   rw [e, u32_xor_nat _ _ hr (by omega)]
  refine Ev.succ ?_
  simp only [qbg.l0, hx, e1]
  refine Ev.pos (by omega) (Ev.pos (by omega) (Ev.pos (by omega) ?_))
  refine qgz l _ _ 8 _ 0 _ rfl (qc8 hr hc) ?_
  rw [qbV (n := pre.length) (by omega)]
  exact hi
theorem qfr (l : List Int) (hl : l.length < 9223372036854775807) (hb : ∀ c, c ∈ l → isByte c) : Ev (fun k => qbg.f k l) (qcn l) := by
 unfold qbg.f
 exact qgA l hl l [] 4294967295 rfl (by decide) hb
end Go.Proofs.Ytenfomejccfkgaa.X
