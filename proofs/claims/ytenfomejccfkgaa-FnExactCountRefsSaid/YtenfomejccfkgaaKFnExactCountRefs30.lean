import Derived.Test.YtenfomejccfkgaaKFnExactCountRefs4
import Derived.Test.YtenfomejccfkgaaKFnExactCountRefs20
import Derived.Test.YtenfomejccfkgaaKFnExactCountRefs21
import Derived.Test.YtenfomejccfkgaaKFnExactCountRefs29
namespace Go.Proofs.Ytenfomejccfkgaa.X
open Go.RowKit Go.Proofs.YtenfomejccfkgaaW.PrintWords Go.Proofs.YtenfomejccfkgaaW.PrintLast Go.Proofs.YtenfomejccfkgaaW.PrintMore
attribute [local go_sem] qaC qaD qaE qay qaz qaO qaP qas qat qaA qaB
set_option linter.unusedVariables false
set_option linter.unusedSimpArgs false
def qbd.l0 : Nat → List (S50) → Int → Int → Option (Int)
 | 0, _, _, _ => none
 | k + 1, x0, x1, x5 => if x5 < (x0.length : Int) then (if 0 ≤ x5 then ((qbC.f k ((qbx x0 x5).f0) ((qbx x0 x5).f1) ((qbx x0 x5).f2) ((qbx x0 x5).f3) x1).bind fun t110 => (if t110 < 0 then (some (-1)) else (qbd.l0 k x0 t110 (wrap64 (x5 + 1))))) else (none)) else (some x1)
def qbd.f (k : Nat) (l0 : List (S50)) (a1 : Int) : Option (Int) := if (wrap64 (a1 - (l0.length : Int))) < 0 then (some (-1)) else (qbd.l0 k l0 (wrap64 (a1 - (l0.length : Int))) 0)
theorem qbd.qbm : ∀ k, (∀ y0 y1 y2, LeO (qbd.l0 k y0 y1 y2) (qbd.l0 (k + 1) y0 y1 y2))
 | 0 => fun _ _ _ r h => by simp [qbd.l0] at h
 | k + 1 => by
  have ih0 := qbd.qbm k
  ·intro y0 y1 y2
   unfold qbd.l0
   repeat' first
   | (with_reducible exact ih0 _ _ _)
   | (with_reducible exact qbC.mono _ _ _ _ _ _)
   | (with_reducible exact LeO.refl _)
   | (with_reducible exact LeO.none _)
   | (with_reducible refine LeO.ite ?_ ?_)
   | (with_reducible refine LeO.bind ?_ (fun _ => ?_))
   | exact ih0 _ _ _
   | exact qbC.mono _ _ _ _ _ _
   | exact LeO.none _
   | refine LeO.ite ?_ ?_
   | refine LeO.bind ?_ (fun _ => ?_)
theorem qbd.mono : ∀ a0 a1 k, LeO (qbd.f k a0 a1) (qbd.f (k + 1) a0 a1) := by
 intro a0 a1 k
 have ih0 := qbd.qbm k
 unfold qbd.f
 repeat' first
   | (with_reducible exact ih0 _ _ _)
   | (with_reducible exact qbC.mono _ _ _ _ _ _)
   | (with_reducible exact LeO.refl _)
   | (with_reducible exact LeO.none _)
   | (with_reducible refine LeO.ite ?_ ?_)
   | (with_reducible refine LeO.bind ?_ (fun _ => ?_))
   | exact ih0 _ _ _
   | exact qbC.mono _ _ _ _ _ _
   | exact LeO.none _
   | refine LeO.ite ?_ ?_
   | refine LeO.bind ?_ (fun _ => ?_)
set_option maxHeartbeats 8000000 in
set_option maxRecDepth 100000 in
theorem qbd.calls (k : Nat) (A0 : Option Addr) (c0 : Nat) (l0 : List (S50)) (a1 : Int) (r : Int) (w : World) (hr0 : Kd.C k50 w A0 l0.length l0) (hc0 : l0.length ≤ c0) (h : qbd.f k l0 a1 = some r) :
  Calls Try.prog 60 #[.slice A0 l0.length c0, .int .i64 a1] w fun e w' => e = .returned (.int .i64 r) ∧ Below w.heap.size w w' := by
 have hu50 := Try.underlying50
 have HR0 := Aside0.mk hr0
 have HC0 := Aside0.mk hc0
 clear hr0 hc0
 have HB := Aside0.mk (Below.refl w.heap.size w)
 have H : (if (wrap64 (a1 - (l0.length : Int))) < 0 then (some (-1)) else (qbd.l0 k l0 (wrap64 (a1 - (l0.length : Int))) 0)) = some r := h
 clear h
 by_cases c3 : (wrap64 (a1 - (l0.length : Int))) < 0
 ·rw [if_pos c3] at H
  have c3b0 : decide ((wrap64 (a1 - (l0.length : Int))) < 0) = true := decide_eq_true c3
  clear c3
  obtain rfl := Option.some.inj H
  go_enter Try.func60, Try.ntmps60
  go_wp2
  go_ret
  exact ⟨by first | rfl | (simp [qal, qam] <;> rfl) | (simp [*, qal, qam] <;> rfl), by repeat (first | (with_reducible first | exact HB.out | apply qab | apply qaa | apply qac) | exact HB.out)⟩
 ·rw [if_neg c3] at H
  have c3b0 : decide ((wrap64 (a1 - (l0.length : Int))) < 0) = false := decide_eq_false c3
  clear c3
  have H' := Aside0.mk H
  clear H
  go_enter Try.func60, Try.ntmps60
  go_wp2
  go_loopg [1, 5] k (fun kq v1 v5 w' => ∃ (x1_1 : Int) (x5_1 : Int), v1 = .int .i64 x1_1 ∧ v5 = .int .i64 x5_1 ∧ Aside0 (qbd.l0 kq l0 x1_1 x5_1 = some r) ∧ Aside0 (kq ≤ k) ∧ Aside0 (Below w.heap.size w w'))
  case atStart => exact ⟨(wrap64 (a1 - (l0.length : Int))), (0), (by first | rfl | (simp; done) | (simp [*]; done)), (by first | rfl | (simp; done) | (simp [*]; done)), H', ⟨Nat.le_refl _⟩, ⟨by repeat (first | (with_reducible first | exact HB.out | apply qab | apply qaa | apply qac) | exact HB.out)⟩⟩
  case round =>
   clear H'
   try clear p2
   try clear c3
   try clear c3b0
   obtain ⟨x1_1, x5_1, rfl, rfl, HA, HK1, HB⟩ := hrel
   cases gk with
   | zero => exact absurd HA.out (by simp [qbd.l0])
   | succ k1 =>
    have H := HA.out
    clear HA
    simp only [qbd.l0] at H
    by_cases c4 : x5_1 < (l0.length : Int)
    ·rw [if_pos c4] at H
     have c4b0 : decide (x5_1 < (l0.length : Int)) = true := decide_eq_true c4
     clear c4
     by_cases c5 : 0 ≤ x5_1
     ·rw [if_pos c5] at H
      have c5b0 : decide (0 ≤ x5_1) = true := decide_eq_true c5
      clear c5
      replace H := Option.bind_eq_some_iff.mp H
      obtain ⟨t110, A60, H⟩ := H
      replace H : (if t110 < 0 then (some (-1)) else (qbd.l0 k1 l0 t110 (wrap64 (x5_1 + 1)))) = some r := H
      have A6 := Aside0.mk A60
      clear A60
      by_cases c7 : t110 < 0
      ·rw [if_pos c7] at H
       have c7b0 : decide (t110 < 0) = true := decide_eq_true c7
       clear c7
       obtain rfl := Option.some.inj H
       have p109 : 0 ≤ (x5_1 : Int) := of_decide_eq_true (by first | (with_reducible assumption) | assumption)
       have q109 : x5_1 < (l0.length : Int) := of_decide_eq_true (by first | (with_reducible assumption) | assumption)
       obtain ⟨ad109, A109_1, c109_1, A109_2, c109_2, A109_3, c109_3, e109, hx109_0, hx109_1, hx109_2, hx109_3, hl109_1, hi109_1, hl109_2, hi109_2, hl109_3, hi109_3⟩ := qhb HR0.out x5_1 p109 q109
       cases e109
       replace hx109_0 := (HB.out.cell (World.block_lt_of_cell? w _ hx109_0)).trans hx109_0
       replace hx109_1 := (HB.out.cell (World.block_lt_of_cell? w _ hx109_1)).trans hx109_1
       replace hx109_2 := (HB.out.cell (World.block_lt_of_cell? w _ hx109_2)).trans hx109_2
       replace hx109_3 := (HB.out.cell (World.block_lt_of_cell? w _ hx109_3)).trans hx109_3
       have HR109_1 := Aside0.mk hi109_1
       have HC109_1 := Aside0.mk hl109_1
       clear hi109_1 hl109_1
       have HR109_2 := Aside0.mk hi109_2
       have HC109_2 := Aside0.mk hl109_2
       clear hi109_2 hl109_2
       have HR109_3 := Aside0.mk hi109_3
       have HC109_3 := Aside0.mk hl109_3
       clear hi109_3 hl109_3
       replace p109 := eq_true p109
       replace q109 := eq_true q109
       go_wp2_with (first | ((with_reducible refine qax (f := 31) rfl ?_); refine qbl (some 23) rfl rfl Try.func31 (by kernel_rfl) rfl #[.agg #[.bool ((qbx l0 x5_1).f0), .slice A109_1 ((qbx l0 x5_1).f1).length c109_1, .slice A109_2 ((qbx l0 x5_1).f2).length c109_2, .slice A109_3 ((qbx l0 x5_1).f3).length c109_3], .int .i64 x1_1] rfl (by (try simp only [List.map_toArray, List.map_cons, List.map_nil]); first | done | rfl | (simp only [List.length_drop, List.length_take]; rfl)) ?_; (with_reducible refine (qbC.calls k1 ((qbx l0 x5_1).f0) _ _ ((qbx l0 x5_1).f1) _ _ ((qbx l0 x5_1).f2) _ _ ((qbx l0 x5_1).f3) x1_1 t110 _ ?side1 ?side2 ?side3 ?side4 ?side5 ?side6 A6.out).mono ?_); (case side1 => repeat (first | exact (Kd.qav HR109_1.out HB.out) | (with_reducible refine Kd.qaM ?_ _) | (with_reducible refine Kd.qaN ?_ _) | (with_reducible refine Kd.qa2 ?_))); (case side2 => exact HC109_1.out); (case side3 => repeat (first | exact (Kd.qav HR109_2.out HB.out) | (with_reducible refine Kd.qaM ?_ _) | (with_reducible refine Kd.qaN ?_ _) | (with_reducible refine Kd.qa2 ?_))); (case side4 => exact HC109_2.out); (case side5 => repeat (first | exact (Kd.qav HR109_3.out HB.out) | (with_reducible refine Kd.qaM ?_ _) | (with_reducible refine Kd.qaN ?_ _) | (with_reducible refine Kd.qa2 ?_))); (case side6 => exact HC109_3.out); rintro e w8 ⟨rfl, hb⟩; refine ⟨_, rfl, ?_⟩; have n0_ := Aside0.mk (qai (by repeat (first | (with_reducible first | exact HB.out | apply qab | apply qaa | apply qac) | exact HB.out)) hb); clear HB; have HB := n0_; clear n0_; (try clear hb); (try clear hb2); (try clear hk); (try clear hi)))
       go_ret
       exact ⟨by first | rfl | (simp [qal, qam] <;> rfl) | (simp [*, qal, qam] <;> rfl), by repeat (first | (with_reducible first | exact HB.out | apply qab | apply qaa | apply qac) | exact HB.out)⟩
      ·rw [if_neg c7] at H
       have c7b0 : decide (t110 < 0) = false := decide_eq_false c7
       clear c7
       have H' := Aside0.mk H
       clear H
       have p109 : 0 ≤ (x5_1 : Int) := of_decide_eq_true (by first | (with_reducible assumption) | assumption)
       have q109 : x5_1 < (l0.length : Int) := of_decide_eq_true (by first | (with_reducible assumption) | assumption)
       obtain ⟨ad109, A109_1, c109_1, A109_2, c109_2, A109_3, c109_3, e109, hx109_0, hx109_1, hx109_2, hx109_3, hl109_1, hi109_1, hl109_2, hi109_2, hl109_3, hi109_3⟩ := qhb HR0.out x5_1 p109 q109
       cases e109
       replace hx109_0 := (HB.out.cell (World.block_lt_of_cell? w _ hx109_0)).trans hx109_0
       replace hx109_1 := (HB.out.cell (World.block_lt_of_cell? w _ hx109_1)).trans hx109_1
       replace hx109_2 := (HB.out.cell (World.block_lt_of_cell? w _ hx109_2)).trans hx109_2
       replace hx109_3 := (HB.out.cell (World.block_lt_of_cell? w _ hx109_3)).trans hx109_3
       have HR109_1 := Aside0.mk hi109_1
       have HC109_1 := Aside0.mk hl109_1
       clear hi109_1 hl109_1
       have HR109_2 := Aside0.mk hi109_2
       have HC109_2 := Aside0.mk hl109_2
       clear hi109_2 hl109_2
       have HR109_3 := Aside0.mk hi109_3
       have HC109_3 := Aside0.mk hl109_3
       clear hi109_3 hl109_3
       replace p109 := eq_true p109
       replace q109 := eq_true q109
       go_wp2_with (first | ((with_reducible refine qax (f := 31) rfl ?_); refine qbl (some 23) rfl rfl Try.func31 (by kernel_rfl) rfl #[.agg #[.bool ((qbx l0 x5_1).f0), .slice A109_1 ((qbx l0 x5_1).f1).length c109_1, .slice A109_2 ((qbx l0 x5_1).f2).length c109_2, .slice A109_3 ((qbx l0 x5_1).f3).length c109_3], .int .i64 x1_1] rfl (by (try simp only [List.map_toArray, List.map_cons, List.map_nil]); first | done | rfl | (simp only [List.length_drop, List.length_take]; rfl)) ?_; (with_reducible refine (qbC.calls k1 ((qbx l0 x5_1).f0) _ _ ((qbx l0 x5_1).f1) _ _ ((qbx l0 x5_1).f2) _ _ ((qbx l0 x5_1).f3) x1_1 t110 _ ?side1 ?side2 ?side3 ?side4 ?side5 ?side6 A6.out).mono ?_); (case side1 => repeat (first | exact (Kd.qav HR109_1.out HB.out) | (with_reducible refine Kd.qaM ?_ _) | (with_reducible refine Kd.qaN ?_ _) | (with_reducible refine Kd.qa2 ?_))); (case side2 => exact HC109_1.out); (case side3 => repeat (first | exact (Kd.qav HR109_2.out HB.out) | (with_reducible refine Kd.qaM ?_ _) | (with_reducible refine Kd.qaN ?_ _) | (with_reducible refine Kd.qa2 ?_))); (case side4 => exact HC109_2.out); (case side5 => repeat (first | exact (Kd.qav HR109_3.out HB.out) | (with_reducible refine Kd.qaM ?_ _) | (with_reducible refine Kd.qaN ?_ _) | (with_reducible refine Kd.qa2 ?_))); (case side6 => exact HC109_3.out); rintro e w9 ⟨rfl, hb⟩; refine ⟨_, rfl, ?_⟩; have n0_ := Aside0.mk (qai (by repeat (first | (with_reducible first | exact HB.out | apply qab | apply qaa | apply qac) | exact HB.out)) hb); clear HB; have HB := n0_; clear n0_; (try clear hb); (try clear hb2); (try clear hk); (try clear hi)))
       go_roundg k1
       case measure => have := HK1.out; omega
       case rel => exact ⟨(t110), (wrap64 (x5_1 + 1)), (by first | rfl | (simp; done) | (simp [*]; done)), (by first | rfl | (simp; done) | (simp [*]; done)), H', ⟨by have := HK1.out; omega⟩, ⟨by repeat (first | (with_reducible first | exact HB.out | apply qab | apply qaa | apply qac) | exact HB.out)⟩⟩
     ·rw [if_neg c5] at H
      exact absurd H (by simp)
    ·rw [if_neg c4] at H
     have c4b0 : decide (x5_1 < (l0.length : Int)) = false := decide_eq_false c4
     clear c4
     obtain rfl := Option.some.inj H
     go_wp2
     go_ret
     exact ⟨by first | rfl | (simp [qal, qam] <;> rfl) | (simp [*, qal, qam] <;> rfl), by repeat (first | (with_reducible first | exact HB.out | apply qab | apply qaa | apply qac) | exact HB.out)⟩
end Go.Proofs.Ytenfomejccfkgaa.X
namespace Go.Proofs.Ytenfomejccfkgaa.X
open Go.RowKit Go.Proofs.YtenfomejccfkgaaW.PrintWords Go.Proofs.YtenfomejccfkgaaW.PrintLast Go.Proofs.YtenfomejccfkgaaW.PrintMore
attribute [local go_sem] qaC qaD qaE qay qaz qaO qaP qas qat qaA qaB
set_option linter.unusedVariables false
set_option linter.unusedSimpArgs false
theorem qfk (B : Int) (hB : B ≤ 1048576) (rest : List S50) : ∀ (pre : List S50) (left : Int), (pre ++ rest).length ≤ 9223372036854775807 → (∀ y ∈ rest, wl50 y) → 0 ≤ left → left ≤ B →
  ∃ r, Ev (fun k => qbd.l0 k (pre ++ rest) left ((pre.length : Nat) : Int)) r ∧ (0 ≤ r → r ≤ left ∧ ∀ y ∈ rest, sm50 B y) := by
 induction rest with
 | nil =>
  intro pre left hl hw h0 h1
  refine ⟨left, Ev.succ ?_, fun _ => ⟨Int.le_refl _, fun y hy => by cases hy⟩⟩
  simp only [qbd.l0]
  exact Ev.neg (by simp) (Ev.is rfl)
 | cons x rest ih =>
  intro pre left hl hw h0 h1
  have hx : qbx (pre ++ x :: rest) ((pre.length : Nat) : Int) = x := by simp [qbx, List.getD_eq_getElem?_getD]
  have hlt : ((pre.length : Nat) : Int) < ((pre ++ x :: rest).length : Int) := by simp; omega
  have hwp : wrap64 (((pre.length : Nat) : Int) + 1) = (((pre ++ [x]).length : Nat) : Int) := by rw [← qbV]; exact qb5 (by omega)
  have e1 : pre ++ x :: rest = (pre ++ [x]) ++ rest := by simp
  have hl2 : ((pre ++ [x]) ++ rest).length ≤ 9223372036854775807 := by rw [← e1]; exact hl
  obtain ⟨r, hr, hq⟩ := sz_Node x (hw x List.mem_cons_self) B left h0 h1 hB
  by_cases c : r < 0
  ·refine ⟨-1, Ev.succ ?_, fun h => by omega⟩
   simp only [qbd.l0, hx]
   exact Ev.pos hlt (Ev.pos (by omega) (Ev.bind hr (Ev.pos c (Ev.is rfl))))
  ·have hq' := hq (by omega)
   obtain ⟨r2, hr2, hq2⟩ := ih (pre ++ [x]) r hl2 (fun y hy => hw y (List.mem_cons_of_mem _ hy)) (by omega) (by omega)
   refine ⟨r2, Ev.succ ?_, fun h => ?_⟩
   ·simp only [qbd.l0, hx, hwp]
    rw [← e1] at hr2
    exact Ev.pos hlt (Ev.pos (by omega) (Ev.bind hr (Ev.neg c hr2)))
   ·have h3 := hq2 h
    refine ⟨by omega, fun y hy => ?_⟩
    rcases List.mem_cons.1 hy with rfl | hy
    ·exact hq'.2
    ·exact h3.2 y hy
theorem sz_NodeS (l : List S50) (hw : (l.length ≤ maxLen ∧ ∀ y ∈ l, wl50 y)) (B left : Int) (h0 : 0 ≤ left) (h1 : left ≤ B) (hB : B ≤ 1048576) : ∃ r, Ev (fun k => qbd.f k l left) r ∧ (0 ≤ r → r ≤ left ∧ ((l.length : Int) ≤ B ∧ ∀ y ∈ l, sm50 B y)) := by
 have hl := Nat.le_trans hw.1 qcE
 unfold qbd.f
 have e : wrap64 (left - (l.length : Int)) = left - (l.length : Int) := qct (by omega) (by omega)
 simp only [e]
 by_cases c : left - (l.length : Int) < 0
 ·exact ⟨-1, Ev.pos c (Ev.is rfl), fun h => by omega⟩
 ·obtain ⟨r, hr, hq⟩ := qfk B hB l [] (left - (l.length : Int)) (by simpa using hl) hw.2 (by omega) (by omega)
  exact ⟨r, Ev.neg c (by simpa using hr), fun h => ⟨by have := (hq h).1; omega, by omega, (hq h).2⟩⟩
end Go.Proofs.Ytenfomejccfkgaa.X
namespace Go.Proofs.Ytenfomejccfkgaa.X
open Go.RowKit Go.Proofs.YtenfomejccfkgaaW.PrintWords Go.Proofs.YtenfomejccfkgaaW.PrintLast Go.Proofs.YtenfomejccfkgaaW.PrintMore
attribute [local go_sem] qaC qaD qaE qay qaz qaO qaP qas qat qaA qaB
set_option linter.unusedVariables false
set_option linter.unusedSimpArgs false
def qbQ.f (k : Nat) (l0_0 : List (S50)) (a1 : Int) : Option (Int) := (qbd.f k l0_0 a1).bind fun t112 => (if t112 < 0 then (some (-1)) else (some t112))
theorem qbQ.mono : ∀ a0 a1 k, LeO (qbQ.f k a0 a1) (qbQ.f (k + 1) a0 a1) := by
 intro a0 a1 k
 unfold qbQ.f
 repeat' first
   | (with_reducible exact qbd.mono _ _ _)
   | (with_reducible exact LeO.refl _)
   | (with_reducible exact LeO.none _)
   | (with_reducible refine LeO.ite ?_ ?_)
   | (with_reducible refine LeO.bind ?_ (fun _ => ?_))
   | exact qbd.mono _ _ _
   | exact LeO.none _
   | refine LeO.ite ?_ ?_
   | refine LeO.bind ?_ (fun _ => ?_)
set_option maxHeartbeats 8000000 in
set_option maxRecDepth 100000 in
theorem qbQ.calls (k : Nat) (A0_0 : Option Addr) (c0_0 : Nat) (l0_0 : List (S50)) (a1 : Int) (r : Int) (w : World) (hr0_0 : Kd.C k50 w A0_0 l0_0.length l0_0) (hc0_0 : l0_0.length ≤ c0_0) (h : qbQ.f k l0_0 a1 = some r) :
  Calls Try.prog 13 #[.agg #[.slice A0_0 l0_0.length c0_0], .int .i64 a1] w fun e w' => e = .returned (.int .i64 r) ∧ Below w.heap.size w w' := by
 have hu24 := Try.underlying24
 have HR0_0 := Aside0.mk hr0_0
 have HC0_0 := Aside0.mk hc0_0
 clear hr0_0 hc0_0
 have HB := Aside0.mk (Below.refl w.heap.size w)
 have H : ((qbd.f k l0_0 a1).bind fun t112 => (if t112 < 0 then (some (-1)) else (some t112))) = some r := h
 clear h
 replace H := Option.bind_eq_some_iff.mp H
 obtain ⟨t112, A30, H⟩ := H
 replace H : (if t112 < 0 then (some (-1)) else (some t112)) = some r := H
 have A3 := Aside0.mk A30
 clear A30
 by_cases c4 : t112 < 0
 ·rw [if_pos c4] at H
  have c4b0 : decide (t112 < 0) = true := decide_eq_true c4
  clear c4
  obtain rfl := Option.some.inj H
  go_enter Try.func13, Try.ntmps13
  go_wp2_with (first | ((with_reducible refine qaQ (N := 2) rfl ?_); refine qaL ?hg (N := 2) ?hd (cs := #[.slice A0_0 l0_0.length c0_0]) (t := 24) ?hr ?_; (case hd => rfl); (case hg => rfl); (case hr => first | (go_simp; done) | (go_simp; rfl)); intro gb111 hg w5 hbox hb; have n0_ := Aside0.mk (qai (by repeat (first | (with_reducible first | exact HB.out | apply qab | apply qaa | apply qac) | exact HB.out)) hb); have n1_ := Aside0.mk (hbox); have n2_ := Aside0.mk ((by rw [hg]; exact (qaj (by repeat (first | (with_reducible first | exact HB.out | apply qab | apply qaa | apply qac) | exact HB.out))) : w.heap.size ≤ gb111)); have n3_ := Aside0.mk ((by rw [hg]; exact (qaj (by repeat (first | (with_reducible first | exact HB.out | apply qab | apply qaa | apply qac) | exact HB.out))) : w.heap.size ≤ gb111)); clear HB; have HB := n0_; have BK111 := n1_; have GW111 := n2_; have GE111 := n3_; clear n0_ n1_ n2_ n3_; clear hb hbox hg; have hcz6_0 : w5.cell? ⟨gb111, 0, none⟩ = some (.slice A0_0 l0_0.length c0_0) := (qae BK111.out 0).trans rfl; have hfz6_0 := qad BK111.out 0) | ((with_reducible refine qax (f := 60) rfl ?_); refine qbl (some 8) rfl rfl Try.func60 (by kernel_rfl) rfl #[.slice A0_0 l0_0.length c0_0, .int .i64 a1] rfl (by (try simp only [List.map_toArray, List.map_cons, List.map_nil]); first | done | rfl | (simp only [List.length_drop, List.length_take]; rfl)) ?_; (with_reducible refine (qbd.calls k _ _ l0_0 a1 t112 _ ?side1 ?side2 A3.out).mono ?_); (case side1 => repeat (first | exact (Kd.qav HR0_0.out HB.out) | (with_reducible refine Kd.qaM ?_ _) | (with_reducible refine Kd.qaN ?_ _) | (with_reducible refine Kd.qa2 ?_))); (case side2 => exact HC0_0.out); rintro e w7 ⟨rfl, hb⟩; refine ⟨_, rfl, ?_⟩; have n0_ := Aside0.mk (qar (g := gb111) (o := .cells #[.slice A0_0 l0_0.length c0_0] 24 (0, 0)) (by (with_reducible repeat (first | refine qan ?_ _ | refine qao ?_ | refine qak ?_ _)); exact BK111.out) hb); have n1_ := Aside0.mk (qai (by repeat (first | (with_reducible first | exact HB.out | apply qab | apply qaa | apply qac | refine qaf ?_ GE111.out) | exact HB.out)) hb); clear BK111; clear HB; have BK111 := n0_; have HB := n1_; clear n0_ n1_; (try clear hb); (try clear hb2); (try clear hk); (try clear hi)))
  go_ret
  exact ⟨by first | rfl | (simp [qal, qam] <;> rfl) | (simp [*, qal, qam] <;> rfl), by repeat (first | (with_reducible first | exact HB.out | apply qab | apply qaa | apply qac | refine qaf ?_ GE111.out) | exact HB.out)⟩
 ·rw [if_neg c4] at H
  have c4b0 : decide (t112 < 0) = false := decide_eq_false c4
  clear c4
  obtain rfl := Option.some.inj H
  go_enter Try.func13, Try.ntmps13
  go_wp2_with (first | ((with_reducible refine qaQ (N := 2) rfl ?_); refine qaL ?hg (N := 2) ?hd (cs := #[.slice A0_0 l0_0.length c0_0]) (t := 24) ?hr ?_; (case hd => rfl); (case hg => rfl); (case hr => first | (go_simp; done) | (go_simp; rfl)); intro gb111 hg w8 hbox hb; have n0_ := Aside0.mk (qai (by repeat (first | (with_reducible first | exact HB.out | apply qab | apply qaa | apply qac) | exact HB.out)) hb); have n1_ := Aside0.mk (hbox); have n2_ := Aside0.mk ((by rw [hg]; exact (qaj (by repeat (first | (with_reducible first | exact HB.out | apply qab | apply qaa | apply qac) | exact HB.out))) : w.heap.size ≤ gb111)); have n3_ := Aside0.mk ((by rw [hg]; exact (qaj (by repeat (first | (with_reducible first | exact HB.out | apply qab | apply qaa | apply qac) | exact HB.out))) : w.heap.size ≤ gb111)); clear HB; have HB := n0_; have BK111 := n1_; have GW111 := n2_; have GE111 := n3_; clear n0_ n1_ n2_ n3_; clear hb hbox hg; have hcz9_0 : w8.cell? ⟨gb111, 0, none⟩ = some (.slice A0_0 l0_0.length c0_0) := (qae BK111.out 0).trans rfl; have hfz9_0 := qad BK111.out 0) | ((with_reducible refine qax (f := 60) rfl ?_); refine qbl (some 8) rfl rfl Try.func60 (by kernel_rfl) rfl #[.slice A0_0 l0_0.length c0_0, .int .i64 a1] rfl (by (try simp only [List.map_toArray, List.map_cons, List.map_nil]); first | done | rfl | (simp only [List.length_drop, List.length_take]; rfl)) ?_; (with_reducible refine (qbd.calls k _ _ l0_0 a1 t112 _ ?side1 ?side2 A3.out).mono ?_); (case side1 => repeat (first | exact (Kd.qav HR0_0.out HB.out) | (with_reducible refine Kd.qaM ?_ _) | (with_reducible refine Kd.qaN ?_ _) | (with_reducible refine Kd.qa2 ?_))); (case side2 => exact HC0_0.out); rintro e w10 ⟨rfl, hb⟩; refine ⟨_, rfl, ?_⟩; have n0_ := Aside0.mk (qar (g := gb111) (o := .cells #[.slice A0_0 l0_0.length c0_0] 24 (0, 0)) (by (with_reducible repeat (first | refine qan ?_ _ | refine qao ?_ | refine qak ?_ _)); exact BK111.out) hb); have n1_ := Aside0.mk (qai (by repeat (first | (with_reducible first | exact HB.out | apply qab | apply qaa | apply qac | refine qaf ?_ GE111.out) | exact HB.out)) hb); clear BK111; clear HB; have BK111 := n0_; have HB := n1_; clear n0_ n1_; (try clear hb); (try clear hb2); (try clear hk); (try clear hi)))
  go_ret
  exact ⟨by first | rfl | (simp [qal, qam] <;> rfl) | (simp [*, qal, qam] <;> rfl), by repeat (first | (with_reducible first | exact HB.out | apply qab | apply qaa | apply qac | refine qaf ?_ GE111.out) | exact HB.out)⟩
end Go.Proofs.Ytenfomejccfkgaa.X
namespace Go.Proofs.Ytenfomejccfkgaa.X
open Go.RowKit Go.Proofs.YtenfomejccfkgaaW.PrintWords Go.Proofs.YtenfomejccfkgaaW.PrintLast Go.Proofs.YtenfomejccfkgaaW.PrintMore
attribute [local go_sem] qaC qaD qaE qay qaz qaO qaP qas qat qaA qaB
set_option linter.unusedVariables false
set_option linter.unusedSimpArgs false
theorem sz_Heap (x : S24) (hw : wl24 x) (B left : Int) (h0 : 0 ≤ left) (h1 : left ≤ B) (hB : B ≤ 1048576) : ∃ r, Ev (fun k => qbQ.f k (x.f0) left) r ∧ (0 ≤ r → r ≤ left ∧ sm24 B x) := by
 unfold qbQ.f
 obtain ⟨r0, hr0, hq0⟩ := sz_NodeS x.f0 hw B left (by omega) (by omega) hB
 by_cases c0 : r0 < 0
 ·exact ⟨-1, Ev.bind hr0 (Ev.pos c0 (Ev.is rfl)), fun h => by omega⟩
 have hq0' := hq0 (by omega)
 suffices hh : ∃ r, Ev _ r ∧ (0 ≤ r → r ≤ left ∧ sm24 B x) from (let ⟨r, hr, hq⟩ := hh; ⟨r, Ev.bind hr0 (Ev.neg c0 hr), hq⟩)
 have hz0 := hq0'.1
 exact ⟨r0, Ev.is rfl, fun _ => ⟨by omega, hq0'.2⟩⟩
end Go.Proofs.Ytenfomejccfkgaa.X
