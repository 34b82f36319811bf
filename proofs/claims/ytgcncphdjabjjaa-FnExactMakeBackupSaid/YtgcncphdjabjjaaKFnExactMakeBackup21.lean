import Derived.Test.YtgcncphdjabjjaaKFnExactMakeBackup3
import Derived.Test.YtgcncphdjabjjaaKFnExactMakeBackup17
import Derived.Test.YtgcncphdjabjjaaKFnExactMakeBackup18
import Derived.Test.YtgcncphdjabjjaaKFnExactMakeBackup20
namespace Go.Proofs.Ytgcncphdjabjjaa.X
open Go.RowKit Go.Proofs.YtgcncphdjabjjaaW.PrintWords Go.Proofs.YtgcncphdjabjjaaW.PrintLast Go.Proofs.YtgcncphdjabjjaaW.PrintMore
attribute [local go_sem] qaT qaU qaV qaP qaQ qa3 qa4 qaJ qaK qaR qaS
set_option linter.unusedVariables false
set_option linter.unusedSimpArgs false
mutual
def qat.j0 : Nat → ByteArray → ByteArray → Int → List (S76) → List (S76) → Bool → Option (ByteArray × ByteArray × Int × (List (S82)) × Int × Int)
 | 0, _, _, _, _, _, _ => none
 | k + 1, x0, x1, x2, x3, x4, x12 => if x12 = true then (some ((⟨#[]⟩ : ByteArray), (⟨#[]⟩ : ByteArray), 0, ([] : List (S82)), 0, 2)) else ((qbe.f k x3).bind fun t810 => (if t810 = true then ((qbe.f k x4).bind fun t811 => (if t811 = true then (if x0.toList = ([] : List UInt8) then (qat.j1 k x0 x1 x2 x3 x4 (decide ((x3.length : Int) > 0))) else (qat.j1 k x0 x1 x2 x3 x4 false)) else (qat.j1 k x0 x1 x2 x3 x4 true))) else (qat.j1 k x0 x1 x2 x3 x4 true)))
def qat.j1 : Nat → ByteArray → ByteArray → Int → List (S76) → List (S76) → Bool → Option (ByteArray × ByteArray × Int × (List (S82)) × Int × Int)
 | 0, _, _, _, _, _, _ => none
 | k + 1, x0, x1, x2, x3, x4, x32 => if x32 = true then (some ((⟨#[]⟩ : ByteArray), (⟨#[]⟩ : ByteArray), 0, ([] : List (S82)), 0, 1)) else ((qbC.f k x0 x1 x2).bind fun t812 => (if t812 = true then ((qbp.f k x0 x1 x2 x3 x4).bind fun bt813 => (some (bt813.1, bt813.2.1, bt813.2.2.1, bt813.2.2.2.1, bt813.2.2.2.2, 0))) else (some ((⟨#[]⟩ : ByteArray), (⟨#[]⟩ : ByteArray), 0, ([] : List (S82)), 0, 4))))
end
def qat.f (k : Nat) (a0 : ByteArray) (a1 : ByteArray) (a2 : Int) (l3 : List (S76)) (l4 : List (S76)) : Option (ByteArray × ByteArray × Int × (List (S82)) × Int × Int) := if (a0.size : Int) > 65536 then (qat.j0 k a0 a1 a2 l3 l4 true) else (if (a1.size : Int) > 65536 then (qat.j0 k a0 a1 a2 l3 l4 true) else (if (l3.length : Int) > 4096 then (qat.j0 k a0 a1 a2 l3 l4 true) else (qat.j0 k a0 a1 a2 l3 l4 (decide ((l4.length : Int) > 4096)))))
theorem qat.qbs : ∀ k, (∀ y0 y1 y2 y3 y4 y5, LeO (qat.j0 k y0 y1 y2 y3 y4 y5) (qat.j0 (k + 1) y0 y1 y2 y3 y4 y5)) ∧ (∀ y0 y1 y2 y3 y4 y5, LeO (qat.j1 k y0 y1 y2 y3 y4 y5) (qat.j1 (k + 1) y0 y1 y2 y3 y4 y5))
 | 0 => ⟨fun _ _ _ _ _ _ r h => by simp [qat.j0] at h, fun _ _ _ _ _ _ r h => by simp [qat.j1] at h⟩
 | k + 1 => by
  obtain ⟨ih0, ih1⟩ := qat.qbs k
  refine ⟨?_, ?_⟩
  ·intro y0 y1 y2 y3 y4 y5
   unfold qat.j0
   repeat' first
   | (with_reducible exact ih0 _ _ _ _ _ _)
   | (with_reducible exact ih1 _ _ _ _ _ _)
   | (with_reducible exact qbe.mono _ _)
   | (with_reducible exact qbC.mono _ _ _ _)
   | (with_reducible exact qbp.mono _ _ _ _ _ _)
   | (with_reducible exact LeO.refl _)
   | (with_reducible exact LeO.none _)
   | (with_reducible refine LeO.ite ?_ ?_)
   | (with_reducible refine LeO.bind ?_ (fun _ => ?_))
   | exact ih0 _ _ _ _ _ _
   | exact ih1 _ _ _ _ _ _
   | exact qbe.mono _ _
   | exact qbC.mono _ _ _ _
   | exact qbp.mono _ _ _ _ _ _
   | exact LeO.none _
   | refine LeO.ite ?_ ?_
   | refine LeO.bind ?_ (fun _ => ?_)
  ·intro y0 y1 y2 y3 y4 y5
   unfold qat.j1
   repeat' first
   | (with_reducible exact ih0 _ _ _ _ _ _)
   | (with_reducible exact ih1 _ _ _ _ _ _)
   | (with_reducible exact qbe.mono _ _)
   | (with_reducible exact qbC.mono _ _ _ _)
   | (with_reducible exact qbp.mono _ _ _ _ _ _)
   | (with_reducible exact LeO.refl _)
   | (with_reducible exact LeO.none _)
   | (with_reducible refine LeO.ite ?_ ?_)
   | (with_reducible refine LeO.bind ?_ (fun _ => ?_))
   | exact ih0 _ _ _ _ _ _
   | exact ih1 _ _ _ _ _ _
   | exact qbe.mono _ _
   | exact qbC.mono _ _ _ _
   | exact qbp.mono _ _ _ _ _ _
   | exact LeO.none _
   | refine LeO.ite ?_ ?_
   | refine LeO.bind ?_ (fun _ => ?_)
theorem qat.mono : ∀ a0 a1 a2 a3 a4 k, LeO (qat.f k a0 a1 a2 a3 a4) (qat.f (k + 1) a0 a1 a2 a3 a4) := by
 intro a0 a1 a2 a3 a4 k
 obtain ⟨ih0, ih1⟩ := qat.qbs k
 unfold qat.f
 repeat' first
   | (with_reducible exact ih0 _ _ _ _ _ _)
   | (with_reducible exact ih1 _ _ _ _ _ _)
   | (with_reducible exact qbe.mono _ _)
   | (with_reducible exact qbC.mono _ _ _ _)
   | (with_reducible exact qbp.mono _ _ _ _ _ _)
   | (with_reducible exact LeO.refl _)
   | (with_reducible exact LeO.none _)
   | (with_reducible refine LeO.ite ?_ ?_)
   | (with_reducible refine LeO.bind ?_ (fun _ => ?_))
   | exact ih0 _ _ _ _ _ _
   | exact ih1 _ _ _ _ _ _
   | exact qbe.mono _ _
   | exact qbC.mono _ _ _ _
   | exact qbp.mono _ _ _ _ _ _
   | exact LeO.none _
   | refine LeO.ite ?_ ?_
   | refine LeO.bind ?_ (fun _ => ?_)
set_option maxHeartbeats 8000000 in
set_option maxRecDepth 100000 in
theorem qat.calls (k : Nat) (a0 : ByteArray) (a1 : ByteArray) (a2 : Int) (A3 : Option Addr) (c3 : Nat) (l3 : List (S76)) (A4 : Option Addr) (c4 : Nat) (l4 : List (S76)) (r1 : ByteArray) (r2 : ByteArray) (r3 : Int) (r4 : List (S82)) (r5 : Int) (r6 : Int) (w : World) (hr3 : Kd.C k76 w A3 l3.length l3) (hc3 : l3.length ≤ c3) (hr4 : Kd.C k76 w A4 l4.length l4) (hc4 : l4.length ≤ c4) (h : qat.f k a0 a1 a2 l3 l4 = some (r1, r2, r3, r4, r5, r6)) :
  Calls Try.prog 39 #[.string a0, .string a1, .int .i64 a2, .slice A3 l3.length c3, .slice A4 l4.length c4] w fun e w' => ∃ v3_ : Value, e = .returned (.tuple #[.agg #[.string r1, .string r2, .int .i64 r3, v3_, .int .i64 r5], .int .i64 r6]) ∧ Kd.R k82 82 w' w.heap.size (fun _ => True) v3_ r4 ∧ Below w.heap.size w w' := by
 have hu48 := Try.underlying48
 have HR3 := Aside0.mk hr3
 have HC3 := Aside0.mk hc3
 clear hr3 hc3
 have HR4 := Aside0.mk hr4
 have HC4 := Aside0.mk hc4
 clear hr4 hc4
 have HB := Aside0.mk (Below.refl w.heap.size w)
 have H : (if (a0.size : Int) > 65536 then (qat.j0 k a0 a1 a2 l3 l4 true) else (if (a1.size : Int) > 65536 then (qat.j0 k a0 a1 a2 l3 l4 true) else (if (l3.length : Int) > 4096 then (qat.j0 k a0 a1 a2 l3 l4 true) else (qat.j0 k a0 a1 a2 l3 l4 (decide ((l4.length : Int) > 4096)))))) = some (r1, r2, r3, r4, r5, r6) := h
 clear h
 have HC6 := Aside0.mk H
 clear H
 go_enter Try.func39, Try.ntmps39
 go_upto_region 1 with (first | ((with_reducible refine qbc (N := 10) rfl ?_); (try (refine qcg (by rfl) ?_; dsimp only)); refine qba ?hg (N := 10) ?hd (cs := #[.string (⟨#[]⟩ : ByteArray), .string (⟨#[]⟩ : ByteArray), .int .i64 0, .slice none 0 0, .int .i64 0]) (t := 48) ?hr ?_; (case hd => rfl); (case hg => rfl); (case hr => first | (go_simp; done) | (go_simp; rfl)); intro gb809 hg w7 hbox hb; have n0_ := Aside0.mk (qak (by repeat (first | (with_reducible first | exact HB.out | apply qac | apply qaa | apply qab) | exact HB.out)) hb); have n1_ := Aside0.mk (hbox); have n2_ := Aside0.mk ((by rw [hg]; exact (qau (by repeat (first | (with_reducible first | exact HB.out | apply qac | apply qaa | apply qab) | exact HB.out))) : w.heap.size ≤ gb809)); have n3_ := Aside0.mk ((by rw [hg]; exact (qau (by repeat (first | (with_reducible first | exact HB.out | apply qac | apply qaa | apply qab) | exact HB.out))) : w.heap.size ≤ gb809)); clear HB; have HB := n0_; have BK809 := n1_; have GW809 := n2_; have GE809 := n3_; clear n0_ n1_ n2_ n3_; clear hb hbox hg))
 (try simp only [Act.put, List.setIfInBounds_toArray, List.set_cons_zero, List.set_cons_succ])
 go_cut [12] (fun v12 wc => ∃ (kq : Nat) (x12_5 : Bool), v12 = .bool x12_5 ∧ Aside0 (qat.j0 kq a0 a1 a2 l3 l4 x12_5 = some (r1, r2, r3, r4, r5, r6)) ∧ Aside0 (kq ≤ k) ∧ Aside0 (wc.heap[gb809]? = some (.cells #[.string (⟨#[]⟩ : ByteArray), .string (⟨#[]⟩ : ByteArray), .int .i64 0, (.slice none 0 0), .int .i64 0] 48 (0, 0))) ∧ Aside0 (Below w.heap.size w wc))
 case first =>
  have H := HC6.out
  clear HC6
  by_cases c8 : (a0.size : Int) > 65536
  ·rw [if_pos c8] at H
   have c8b0 : decide (65536 < (a0.size : Int)) = true := decide_eq_true c8
   have c8b1 : decide (65536 < a0.size) = true := decide_eq_true (by omega)
   clear c8
   (first | rw [c8b0] | (simp only [qbh, qbi]; rw [c8b0]) | skip)
   have H' := Aside0.mk H
   clear H
   go_wp2
   go_meet
   case rel => exact ⟨_, (true), (by first | rfl | (simp; done) | (simp [*]; done)), H', ⟨by first | omega | exact Nat.le_refl _⟩, ⟨by (with_reducible repeat (first | refine qag ?_ _ | refine qaj ?_ | refine qaf ?_ _)); exact BK809.out⟩, ⟨by repeat (first | (with_reducible first | exact HB.out | apply qac | apply qaa | apply qab | refine qai ?_ GE809.out) | exact HB.out)⟩⟩
  ·rw [if_neg c8] at H
   have c8b0 : decide (65536 < (a0.size : Int)) = false := decide_eq_false c8
   have c8b1 : decide (65536 < a0.size) = false := decide_eq_false (by omega)
   clear c8
   (first | rw [c8b0] | (simp only [qbh, qbi]; rw [c8b0]) | skip)
   by_cases c9 : (a1.size : Int) > 65536
   ·rw [if_pos c9] at H
    have c9b0 : decide (65536 < (a1.size : Int)) = true := decide_eq_true c9
    have c9b1 : decide (65536 < a1.size) = true := decide_eq_true (by omega)
    clear c9
    have H' := Aside0.mk H
    clear H
    go_wp2
    go_meet
    case rel => exact ⟨_, (true), (by first | rfl | (simp; done) | (simp [*]; done)), H', ⟨by first | omega | exact Nat.le_refl _⟩, ⟨by (with_reducible repeat (first | refine qag ?_ _ | refine qaj ?_ | refine qaf ?_ _)); exact BK809.out⟩, ⟨by repeat (first | (with_reducible first | exact HB.out | apply qac | apply qaa | apply qab | refine qai ?_ GE809.out) | exact HB.out)⟩⟩
   ·rw [if_neg c9] at H
    have c9b0 : decide (65536 < (a1.size : Int)) = false := decide_eq_false c9
    have c9b1 : decide (65536 < a1.size) = false := decide_eq_false (by omega)
    clear c9
    by_cases c10 : (l3.length : Int) > 4096
    ·rw [if_pos c10] at H
     have c10b0 : decide (4096 < (l3.length : Int)) = true := decide_eq_true c10
     have c10b1 : decide (4096 < l3.length) = true := decide_eq_true (by omega)
     clear c10
     have H' := Aside0.mk H
     clear H
     go_wp2
     go_meet
     case rel => exact ⟨_, (true), (by first | rfl | (simp; done) | (simp [*]; done)), H', ⟨by first | omega | exact Nat.le_refl _⟩, ⟨by (with_reducible repeat (first | refine qag ?_ _ | refine qaj ?_ | refine qaf ?_ _)); exact BK809.out⟩, ⟨by repeat (first | (with_reducible first | exact HB.out | apply qac | apply qaa | apply qab | refine qai ?_ GE809.out) | exact HB.out)⟩⟩
    ·rw [if_neg c10] at H
     have c10b0 : decide (4096 < (l3.length : Int)) = false := decide_eq_false c10
     have c10b1 : decide (4096 < l3.length) = false := decide_eq_false (by omega)
     clear c10
     have H' := Aside0.mk H
     clear H
     go_wp2
     go_meet
     case rel => exact ⟨_, (decide ((l4.length : Int) > 4096)), (by first | rfl | (simp; done) | (simp [*]; done)), H', ⟨by first | omega | exact Nat.le_refl _⟩, ⟨by (with_reducible repeat (first | refine qag ?_ _ | refine qaj ?_ | refine qaf ?_ _)); exact BK809.out⟩, ⟨by repeat (first | (with_reducible first | exact HB.out | apply qac | apply qaa | apply qab | refine qai ?_ GE809.out) | exact HB.out)⟩⟩
 case rest =>
  clear HC6
  try clear c1
  try clear p2
  try clear c3
  try clear c4
  try clear c8
  try clear c8b0
  try clear c8b1
  try clear c9
  try clear c9b0
  try clear c9b1
  try clear c10
  try clear c10b0
  try clear c10b1
  obtain ⟨kq, x12_5, rfl, HA, HJ5, BK809, HB⟩ := hcut
  cases kq with
  | zero => exact absurd HA.out (by simp [qat.j0])
  | succ kj5 =>
   have H := HA.out
   clear HA
   simp only [qat.j0] at H
   by_cases c11 : x12_5 = true
   ·subst c11
    have H1 : (some ((⟨#[]⟩ : ByteArray), (⟨#[]⟩ : ByteArray), 0, ([] : List (S82)), 0, 2)) = some (r1, r2, r3, r4, r5, r6) := by rw [if_pos rfl] at H; exact H
    clear H
    have H := H1
    clear H1
    simp only [Option.some.injEq, Prod.mk.injEq] at H
    obtain ⟨rfl, rfl, rfl, rfl, rfl, rfl⟩ := H
    have hcz12_0 : wc.cell? ⟨gb809, 0, none⟩ = some (.string (⟨#[]⟩ : ByteArray)) := (qah BK809.out 0).trans rfl
    have hcz12_1 : wc.cell? ⟨gb809, 1, none⟩ = some (.string (⟨#[]⟩ : ByteArray)) := (qah BK809.out 1).trans rfl
    have hcz12_2 : wc.cell? ⟨gb809, 2, none⟩ = some (.int .i64 0) := (qah BK809.out 2).trans rfl
    have hcz12_3 : wc.cell? ⟨gb809, 3, none⟩ = some (.slice none 0 0) := (qah BK809.out 3).trans rfl
    have hcz12_4 : wc.cell? ⟨gb809, 4, none⟩ = some (.int .i64 0) := (qah BK809.out 4).trans rfl
    have hfz12_0 := qad BK809.out 0
    have hfz12_1 := qad BK809.out 1
    have hfz12_2 := qad BK809.out 2
    have hfz12_3 := qad BK809.out 3
    have hfz12_4 := qad BK809.out 4
    go_wp2
    refine bodyPost_ret (qbR rfl _ _ gb809 48 #[.string (⟨#[]⟩ : ByteArray), .string (⟨#[]⟩ : ByteArray), .int .i64 0, .slice none 0 0, .int .i64 0] (0, 0) _ rfl (by (with_reducible repeat (first | refine qag ?_ _ | refine qaj ?_ | refine qaf ?_ _)); refine qaI (cs := #[.string (⟨#[]⟩ : ByteArray), .string (⟨#[]⟩ : ByteArray), .int .i64 0, .slice none 0 0, .int .i64 0]) ?_ 4 _ rfl; (with_reducible repeat (first | refine qag ?_ _ | refine qaj ?_ | refine qaf ?_ _)); refine qaI (cs := #[.string (⟨#[]⟩ : ByteArray), .string (⟨#[]⟩ : ByteArray), .int .i64 0, .slice none 0 0, .int .i64 0]) ?_ 3 _ rfl; (with_reducible repeat (first | refine qag ?_ _ | refine qaj ?_ | refine qaf ?_ _)); refine qaI (cs := #[.string (⟨#[]⟩ : ByteArray), .string (⟨#[]⟩ : ByteArray), .int .i64 0, .slice none 0 0, .int .i64 0]) ?_ 2 _ rfl; (with_reducible repeat (first | refine qag ?_ _ | refine qaj ?_ | refine qaf ?_ _)); refine qaI (cs := #[.string (⟨#[]⟩ : ByteArray), .string (⟨#[]⟩ : ByteArray), .int .i64 0, .slice none 0 0, .int .i64 0]) ?_ 1 _ rfl; (with_reducible repeat (first | refine qag ?_ _ | refine qaj ?_ | refine qaf ?_ _)); refine qaI (cs := #[.string (⟨#[]⟩ : ByteArray), .string (⟨#[]⟩ : ByteArray), .int .i64 0, .slice none 0 0, .int .i64 0]) ?_ 0 _ rfl; (with_reducible repeat (first | refine qag ?_ _ | refine qaj ?_ | refine qaf ?_ _)); exact BK809.out) Try.underlying48 rfl (by kernel_rfl)) rfl ?_
    exact ⟨_, by first | rfl | (simp [qam, qan] <;> rfl) | (simp [*, qam, qan] <;> rfl), by first | exact Kd.qc0 _ _ _ _ _ | exact Kd.qdD _ _ _ _ _ | exact Kd.qdE _ _ _ _ _ | exact Kd.qdu _ _ _ _ _ | exact Kd.qdB _ _ _ _ _, by repeat (first | (with_reducible first | exact HB.out | apply qac | apply qaa | apply qab | refine qai ?_ GE809.out) | exact HB.out)⟩
   ·replace c11 := Bool.eq_false_iff.mpr c11
    subst c11
    have H1 : ((qbe.f kj5 l3).bind fun t810 => (if t810 = true then ((qbe.f kj5 l4).bind fun t811 => (if t811 = true then (if a0.toList = ([] : List UInt8) then (qat.j1 kj5 a0 a1 a2 l3 l4 (decide ((l3.length : Int) > 0))) else (qat.j1 kj5 a0 a1 a2 l3 l4 false)) else (qat.j1 kj5 a0 a1 a2 l3 l4 true))) else (qat.j1 kj5 a0 a1 a2 l3 l4 true))) = some (r1, r2, r3, r4, r5, r6) := by rw [if_neg (show ¬ (false = true) by decide)] at H; exact H
    clear H
    have H := H1
    clear H1
    have HC13 := Aside0.mk H
    clear H
    go_upto_region 3 with (fail)
    go_cut [32] (fun v32 wc => ∃ (kq : Nat) (x32_12 : Bool), v32 = .bool x32_12 ∧ Aside0 (qat.j1 kq a0 a1 a2 l3 l4 x32_12 = some (r1, r2, r3, r4, r5, r6)) ∧ Aside0 (kq ≤ kj5) ∧ Aside0 (wc.heap[gb809]? = some (.cells #[.string (⟨#[]⟩ : ByteArray), .string (⟨#[]⟩ : ByteArray), .int .i64 0, (.slice none 0 0), .int .i64 0] 48 (0, 0))) ∧ Aside0 (Below w.heap.size w wc))
    case first =>
     have H := HC13.out
     clear HC13
     replace H := Option.bind_eq_some_iff.mp H
     obtain ⟨t810, A140, H⟩ := H
     replace H : (if t810 = true then ((qbe.f kj5 l4).bind fun t811 => (if t811 = true then (if a0.toList = ([] : List UInt8) then (qat.j1 kj5 a0 a1 a2 l3 l4 (decide ((l3.length : Int) > 0))) else (qat.j1 kj5 a0 a1 a2 l3 l4 false)) else (qat.j1 kj5 a0 a1 a2 l3 l4 true))) else (qat.j1 kj5 a0 a1 a2 l3 l4 true)) = some (r1, r2, r3, r4, r5, r6) := H
     have A14 := Aside0.mk A140
     clear A140
     by_cases c15 : t810 = true
     ·subst c15
      have H1 : ((qbe.f kj5 l4).bind fun t811 => (if t811 = true then (if a0.toList = ([] : List UInt8) then (qat.j1 kj5 a0 a1 a2 l3 l4 (decide ((l3.length : Int) > 0))) else (qat.j1 kj5 a0 a1 a2 l3 l4 false)) else (qat.j1 kj5 a0 a1 a2 l3 l4 true))) = some (r1, r2, r3, r4, r5, r6) := by rw [if_pos rfl] at H; exact H
      clear H
      have H := H1
      clear H1
      replace H := Option.bind_eq_some_iff.mp H
      obtain ⟨t811, A160, H⟩ := H
      replace H : (if t811 = true then (if a0.toList = ([] : List UInt8) then (qat.j1 kj5 a0 a1 a2 l3 l4 (decide ((l3.length : Int) > 0))) else (qat.j1 kj5 a0 a1 a2 l3 l4 false)) else (qat.j1 kj5 a0 a1 a2 l3 l4 true)) = some (r1, r2, r3, r4, r5, r6) := H
      have A16 := Aside0.mk A160
      clear A160
      by_cases c17 : t811 = true
      ·subst c17
       have H1 : (if a0.toList = ([] : List UInt8) then (qat.j1 kj5 a0 a1 a2 l3 l4 (decide ((l3.length : Int) > 0))) else (qat.j1 kj5 a0 a1 a2 l3 l4 false)) = some (r1, r2, r3, r4, r5, r6) := by rw [if_pos rfl] at H; exact H
       clear H
       have H := H1
       clear H1
       by_cases c18 : a0.toList = ([] : List UInt8)
       ·rw [if_pos c18] at H
        have c18b0 : (a0.toList == ([] : List UInt8)) = true := beq_iff_eq.mpr c18
        have c18b1 : (a0.toList != ([] : List UInt8)) = false := bne_eq_false_iff_eq.mpr c18
        clear c18
        (first | rw [c18b0] | (simp only [qbh, qbi]; rw [c18b0]) | skip)
        have H' := Aside0.mk H
        clear H
        go_wp2_with (first | ((with_reducible refine qaz (f := 53) rfl ?_); refine qbf (some 34) rfl rfl Try.func53 (by kernel_rfl) rfl #[.slice A3 l3.length c3] rfl (by (try simp only [List.map_toArray, List.map_cons, List.map_nil]); first | done | rfl | (simp only [List.length_drop, List.length_take]; rfl)) ?_; (with_reducible refine (qbe.calls kj5 _ _ l3 true _ ?side1 ?side2 A14.out).mono ?_); (case side1 => repeat (first | exact (Kd.qa2 HR3.out HB.out) | (with_reducible refine Kd.qa7 ?_ _) | (with_reducible refine Kd.qa8 ?_ _) | (with_reducible refine Kd.qbm ?_))); (case side2 => exact HC3.out); rintro e w19 ⟨rfl, hb⟩; refine ⟨_, rfl, ?_⟩; have n0_ := Aside0.mk (qaB (g := gb809) (o := .cells #[.string (⟨#[]⟩ : ByteArray), .string (⟨#[]⟩ : ByteArray), .int .i64 0, .slice none 0 0, .int .i64 0] 48 (0, 0)) (by (with_reducible repeat (first | refine qag ?_ _ | refine qaj ?_ | refine qaf ?_ _)); exact BK809.out) hb); have n1_ := Aside0.mk (qak (by repeat (first | (with_reducible first | exact HB.out | apply qac | apply qaa | apply qab | refine qai ?_ GE809.out) | exact HB.out)) hb); clear BK809; clear HB; have BK809 := n0_; have HB := n1_; clear n0_ n1_; (try clear hb); (try clear hb2); (try clear hk); (try clear hi)) | (go_at_call 53; (with_reducible refine (qbe.calls kj5 _ _ l4 true _ ?side1 ?side2 A16.out).mono ?_); (case side1 => repeat (first | exact (Kd.qa2 HR4.out HB.out) | (with_reducible refine Kd.qa7 ?_ _) | (with_reducible refine Kd.qa8 ?_ _) | (with_reducible refine Kd.qbm ?_))); (case side2 => exact HC4.out); rintro e w20 ⟨rfl, hb⟩; have n0_ := Aside0.mk (qaB (g := gb809) (o := .cells #[.string (⟨#[]⟩ : ByteArray), .string (⟨#[]⟩ : ByteArray), .int .i64 0, .slice none 0 0, .int .i64 0] 48 (0, 0)) (by (with_reducible repeat (first | refine qag ?_ _ | refine qaj ?_ | refine qaf ?_ _)); exact BK809.out) hb); have n1_ := Aside0.mk (qak (by repeat (first | (with_reducible first | exact HB.out | apply qac | apply qaa | apply qab | refine qai ?_ GE809.out) | exact HB.out)) hb); clear BK809; clear HB; have BK809 := n0_; have HB := n1_; clear n0_ n1_; (try clear hb); (try clear hb2); (try clear hk); (try clear hi)))
        go_meet
        case rel => exact ⟨_, (decide ((l3.length : Int) > 0)), (by first | rfl | (simp; done) | (simp [*]; done)), H', ⟨by have := HJ5.out; first | omega | exact Nat.le_refl _⟩, ⟨by (with_reducible repeat (first | refine qag ?_ _ | refine qaj ?_ | refine qaf ?_ _)); exact BK809.out⟩, ⟨by repeat (first | (with_reducible first | exact HB.out | apply qac | apply qaa | apply qab | refine qai ?_ GE809.out) | exact HB.out)⟩⟩
       ·rw [if_neg c18] at H
        have c18b0 : (a0.toList == ([] : List UInt8)) = false := beq_eq_false_iff_ne.mpr c18
        have c18b1 : (a0.toList != ([] : List UInt8)) = true := bne_iff_ne.mpr c18
        (first | rw [c18b0] | (simp only [qbh, qbi]; rw [c18b0]) | skip)
        have H' := Aside0.mk H
        clear H
        go_wp2_with (first | ((with_reducible refine qaz (f := 53) rfl ?_); refine qbf (some 34) rfl rfl Try.func53 (by kernel_rfl) rfl #[.slice A3 l3.length c3] rfl (by (try simp only [List.map_toArray, List.map_cons, List.map_nil]); first | done | rfl | (simp only [List.length_drop, List.length_take]; rfl)) ?_; (with_reducible refine (qbe.calls kj5 _ _ l3 true _ ?side1 ?side2 A14.out).mono ?_); (case side1 => repeat (first | exact (Kd.qa2 HR3.out HB.out) | (with_reducible refine Kd.qa7 ?_ _) | (with_reducible refine Kd.qa8 ?_ _) | (with_reducible refine Kd.qbm ?_))); (case side2 => exact HC3.out); rintro e w21 ⟨rfl, hb⟩; refine ⟨_, rfl, ?_⟩; have n0_ := Aside0.mk (qaB (g := gb809) (o := .cells #[.string (⟨#[]⟩ : ByteArray), .string (⟨#[]⟩ : ByteArray), .int .i64 0, .slice none 0 0, .int .i64 0] 48 (0, 0)) (by (with_reducible repeat (first | refine qag ?_ _ | refine qaj ?_ | refine qaf ?_ _)); exact BK809.out) hb); have n1_ := Aside0.mk (qak (by repeat (first | (with_reducible first | exact HB.out | apply qac | apply qaa | apply qab | refine qai ?_ GE809.out) | exact HB.out)) hb); clear BK809; clear HB; have BK809 := n0_; have HB := n1_; clear n0_ n1_; (try clear hb); (try clear hb2); (try clear hk); (try clear hi)) | (go_at_call 53; (with_reducible refine (qbe.calls kj5 _ _ l4 true _ ?side1 ?side2 A16.out).mono ?_); (case side1 => repeat (first | exact (Kd.qa2 HR4.out HB.out) | (with_reducible refine Kd.qa7 ?_ _) | (with_reducible refine Kd.qa8 ?_ _) | (with_reducible refine Kd.qbm ?_))); (case side2 => exact HC4.out); rintro e w22 ⟨rfl, hb⟩; have n0_ := Aside0.mk (qaB (g := gb809) (o := .cells #[.string (⟨#[]⟩ : ByteArray), .string (⟨#[]⟩ : ByteArray), .int .i64 0, .slice none 0 0, .int .i64 0] 48 (0, 0)) (by (with_reducible repeat (first | refine qag ?_ _ | refine qaj ?_ | refine qaf ?_ _)); exact BK809.out) hb); have n1_ := Aside0.mk (qak (by repeat (first | (with_reducible first | exact HB.out | apply qac | apply qaa | apply qab | refine qai ?_ GE809.out) | exact HB.out)) hb); clear BK809; clear HB; have BK809 := n0_; have HB := n1_; clear n0_ n1_; (try clear hb); (try clear hb2); (try clear hk); (try clear hi)))
        go_meet
        case rel => exact ⟨_, (false), (by first | rfl | (simp; done) | (simp [*]; done)), H', ⟨by have := HJ5.out; first | omega | exact Nat.le_refl _⟩, ⟨by (with_reducible repeat (first | refine qag ?_ _ | refine qaj ?_ | refine qaf ?_ _)); exact BK809.out⟩, ⟨by repeat (first | (with_reducible first | exact HB.out | apply qac | apply qaa | apply qab | refine qai ?_ GE809.out) | exact HB.out)⟩⟩
      ·replace c17 := Bool.eq_false_iff.mpr c17
       subst c17
       have H1 : (qat.j1 kj5 a0 a1 a2 l3 l4 true) = some (r1, r2, r3, r4, r5, r6) := by rw [if_neg (show ¬ (false = true) by decide)] at H; exact H
       clear H
       have H := H1
       clear H1
       have H' := Aside0.mk H
       clear H
       go_wp2_with (first | ((with_reducible refine qaz (f := 53) rfl ?_); refine qbf (some 34) rfl rfl Try.func53 (by kernel_rfl) rfl #[.slice A3 l3.length c3] rfl (by (try simp only [List.map_toArray, List.map_cons, List.map_nil]); first | done | rfl | (simp only [List.length_drop, List.length_take]; rfl)) ?_; (with_reducible refine (qbe.calls kj5 _ _ l3 true _ ?side1 ?side2 A14.out).mono ?_); (case side1 => repeat (first | exact (Kd.qa2 HR3.out HB.out) | (with_reducible refine Kd.qa7 ?_ _) | (with_reducible refine Kd.qa8 ?_ _) | (with_reducible refine Kd.qbm ?_))); (case side2 => exact HC3.out); rintro e w23 ⟨rfl, hb⟩; refine ⟨_, rfl, ?_⟩; have n0_ := Aside0.mk (qaB (g := gb809) (o := .cells #[.string (⟨#[]⟩ : ByteArray), .string (⟨#[]⟩ : ByteArray), .int .i64 0, .slice none 0 0, .int .i64 0] 48 (0, 0)) (by (with_reducible repeat (first | refine qag ?_ _ | refine qaj ?_ | refine qaf ?_ _)); exact BK809.out) hb); have n1_ := Aside0.mk (qak (by repeat (first | (with_reducible first | exact HB.out | apply qac | apply qaa | apply qab | refine qai ?_ GE809.out) | exact HB.out)) hb); clear BK809; clear HB; have BK809 := n0_; have HB := n1_; clear n0_ n1_; (try clear hb); (try clear hb2); (try clear hk); (try clear hi)) | (go_at_call 53; (with_reducible refine (qbe.calls kj5 _ _ l4 false _ ?side1 ?side2 A16.out).mono ?_); (case side1 => repeat (first | exact (Kd.qa2 HR4.out HB.out) | (with_reducible refine Kd.qa7 ?_ _) | (with_reducible refine Kd.qa8 ?_ _) | (with_reducible refine Kd.qbm ?_))); (case side2 => exact HC4.out); rintro e w24 ⟨rfl, hb⟩; have n0_ := Aside0.mk (qaB (g := gb809) (o := .cells #[.string (⟨#[]⟩ : ByteArray), .string (⟨#[]⟩ : ByteArray), .int .i64 0, .slice none 0 0, .int .i64 0] 48 (0, 0)) (by (with_reducible repeat (first | refine qag ?_ _ | refine qaj ?_ | refine qaf ?_ _)); exact BK809.out) hb); have n1_ := Aside0.mk (qak (by repeat (first | (with_reducible first | exact HB.out | apply qac | apply qaa | apply qab | refine qai ?_ GE809.out) | exact HB.out)) hb); clear BK809; clear HB; have BK809 := n0_; have HB := n1_; clear n0_ n1_; (try clear hb); (try clear hb2); (try clear hk); (try clear hi)))
       go_meet
       case rel => exact ⟨_, (true), (by first | rfl | (simp; done) | (simp [*]; done)), H', ⟨by have := HJ5.out; first | omega | exact Nat.le_refl _⟩, ⟨by (with_reducible repeat (first | refine qag ?_ _ | refine qaj ?_ | refine qaf ?_ _)); exact BK809.out⟩, ⟨by repeat (first | (with_reducible first | exact HB.out | apply qac | apply qaa | apply qab | refine qai ?_ GE809.out) | exact HB.out)⟩⟩
     ·replace c15 := Bool.eq_false_iff.mpr c15
      subst c15
      have H1 : (qat.j1 kj5 a0 a1 a2 l3 l4 true) = some (r1, r2, r3, r4, r5, r6) := by rw [if_neg (show ¬ (false = true) by decide)] at H; exact H
      clear H
      have H := H1
      clear H1
      have H' := Aside0.mk H
      clear H
      go_wp2_with (first | ((with_reducible refine qaz (f := 53) rfl ?_); refine qbf (some 34) rfl rfl Try.func53 (by kernel_rfl) rfl #[.slice A3 l3.length c3] rfl (by (try simp only [List.map_toArray, List.map_cons, List.map_nil]); first | done | rfl | (simp only [List.length_drop, List.length_take]; rfl)) ?_; (with_reducible refine (qbe.calls kj5 _ _ l3 false _ ?side1 ?side2 A14.out).mono ?_); (case side1 => repeat (first | exact (Kd.qa2 HR3.out HB.out) | (with_reducible refine Kd.qa7 ?_ _) | (with_reducible refine Kd.qa8 ?_ _) | (with_reducible refine Kd.qbm ?_))); (case side2 => exact HC3.out); rintro e w25 ⟨rfl, hb⟩; refine ⟨_, rfl, ?_⟩; have n0_ := Aside0.mk (qaB (g := gb809) (o := .cells #[.string (⟨#[]⟩ : ByteArray), .string (⟨#[]⟩ : ByteArray), .int .i64 0, .slice none 0 0, .int .i64 0] 48 (0, 0)) (by (with_reducible repeat (first | refine qag ?_ _ | refine qaj ?_ | refine qaf ?_ _)); exact BK809.out) hb); have n1_ := Aside0.mk (qak (by repeat (first | (with_reducible first | exact HB.out | apply qac | apply qaa | apply qab | refine qai ?_ GE809.out) | exact HB.out)) hb); clear BK809; clear HB; have BK809 := n0_; have HB := n1_; clear n0_ n1_; (try clear hb); (try clear hb2); (try clear hk); (try clear hi)))
      go_meet
      case rel => exact ⟨_, (true), (by first | rfl | (simp; done) | (simp [*]; done)), H', ⟨by have := HJ5.out; first | omega | exact Nat.le_refl _⟩, ⟨by (with_reducible repeat (first | refine qag ?_ _ | refine qaj ?_ | refine qaf ?_ _)); exact BK809.out⟩, ⟨by repeat (first | (with_reducible first | exact HB.out | apply qac | apply qaa | apply qab | refine qai ?_ GE809.out) | exact HB.out)⟩⟩
    case rest =>
     clear HC13
     try clear c1
     try clear p2
     try clear c3
     try clear c4
     try clear c5
     try clear c8
     try clear c8b0
     try clear c8b1
     try clear c9
     try clear c9b0
     try clear c9b1
     try clear c10
     try clear c10b0
     try clear c10b1
     try clear c11
     try clear c15
     try clear c17
     try clear c18
     try clear c18b0
     try clear c18b1
     try clear hcz12_0
     try clear hcz12_1
     try clear hcz12_2
     try clear hcz12_3
     try clear hcz12_4
     try clear hfz12_0
     try clear hfz12_1
     try clear hfz12_2
     try clear hfz12_3
     try clear hfz12_4
     try clear p2
     obtain ⟨kq, x32_12, rfl, HA, HJ12, BK809, HB⟩ := hcut
     cases kq with
     | zero => exact absurd HA.out (by simp [qat.j1])
     | succ kj12 =>
      have H := HA.out
      clear HA
      simp only [qat.j1] at H
      by_cases c26 : x32_12 = true
      ·subst c26
       have H1 : (some ((⟨#[]⟩ : ByteArray), (⟨#[]⟩ : ByteArray), 0, ([] : List (S82)), 0, 1)) = some (r1, r2, r3, r4, r5, r6) := by rw [if_pos rfl] at H; exact H
       clear H
       have H := H1
       clear H1
       simp only [Option.some.injEq, Prod.mk.injEq] at H
       obtain ⟨rfl, rfl, rfl, rfl, rfl, rfl⟩ := H
       have hcz27_0 : wc.cell? ⟨gb809, 0, none⟩ = some (.string (⟨#[]⟩ : ByteArray)) := (qah BK809.out 0).trans rfl
       have hcz27_1 : wc.cell? ⟨gb809, 1, none⟩ = some (.string (⟨#[]⟩ : ByteArray)) := (qah BK809.out 1).trans rfl
       have hcz27_2 : wc.cell? ⟨gb809, 2, none⟩ = some (.int .i64 0) := (qah BK809.out 2).trans rfl
       have hcz27_3 : wc.cell? ⟨gb809, 3, none⟩ = some (.slice none 0 0) := (qah BK809.out 3).trans rfl
       have hcz27_4 : wc.cell? ⟨gb809, 4, none⟩ = some (.int .i64 0) := (qah BK809.out 4).trans rfl
       have hfz27_0 := qad BK809.out 0
       have hfz27_1 := qad BK809.out 1
       have hfz27_2 := qad BK809.out 2
       have hfz27_3 := qad BK809.out 3
       have hfz27_4 := qad BK809.out 4
       go_wp2
       refine bodyPost_ret (qbR rfl _ _ gb809 48 #[.string (⟨#[]⟩ : ByteArray), .string (⟨#[]⟩ : ByteArray), .int .i64 0, .slice none 0 0, .int .i64 0] (0, 0) _ rfl (by (with_reducible repeat (first | refine qag ?_ _ | refine qaj ?_ | refine qaf ?_ _)); refine qaI (cs := #[.string (⟨#[]⟩ : ByteArray), .string (⟨#[]⟩ : ByteArray), .int .i64 0, .slice none 0 0, .int .i64 0]) ?_ 4 _ rfl; (with_reducible repeat (first | refine qag ?_ _ | refine qaj ?_ | refine qaf ?_ _)); refine qaI (cs := #[.string (⟨#[]⟩ : ByteArray), .string (⟨#[]⟩ : ByteArray), .int .i64 0, .slice none 0 0, .int .i64 0]) ?_ 3 _ rfl; (with_reducible repeat (first | refine qag ?_ _ | refine qaj ?_ | refine qaf ?_ _)); refine qaI (cs := #[.string (⟨#[]⟩ : ByteArray), .string (⟨#[]⟩ : ByteArray), .int .i64 0, .slice none 0 0, .int .i64 0]) ?_ 2 _ rfl; (with_reducible repeat (first | refine qag ?_ _ | refine qaj ?_ | refine qaf ?_ _)); refine qaI (cs := #[.string (⟨#[]⟩ : ByteArray), .string (⟨#[]⟩ : ByteArray), .int .i64 0, .slice none 0 0, .int .i64 0]) ?_ 1 _ rfl; (with_reducible repeat (first | refine qag ?_ _ | refine qaj ?_ | refine qaf ?_ _)); refine qaI (cs := #[.string (⟨#[]⟩ : ByteArray), .string (⟨#[]⟩ : ByteArray), .int .i64 0, .slice none 0 0, .int .i64 0]) ?_ 0 _ rfl; (with_reducible repeat (first | refine qag ?_ _ | refine qaj ?_ | refine qaf ?_ _)); exact BK809.out) Try.underlying48 rfl (by kernel_rfl)) rfl ?_
       exact ⟨_, by first | rfl | (simp [qam, qan] <;> rfl) | (simp [*, qam, qan] <;> rfl), by first | exact Kd.qc0 _ _ _ _ _ | exact Kd.qdD _ _ _ _ _ | exact Kd.qdE _ _ _ _ _ | exact Kd.qdu _ _ _ _ _ | exact Kd.qdB _ _ _ _ _, by repeat (first | (with_reducible first | exact HB.out | apply qac | apply qaa | apply qab | refine qai ?_ GE809.out) | exact HB.out)⟩
      ·replace c26 := Bool.eq_false_iff.mpr c26
       subst c26
       have H1 : ((qbC.f kj12 a0 a1 a2).bind fun t812 => (if t812 = true then ((qbp.f kj12 a0 a1 a2 l3 l4).bind fun bt813 => (some (bt813.1, bt813.2.1, bt813.2.2.1, bt813.2.2.2.1, bt813.2.2.2.2, 0))) else (some ((⟨#[]⟩ : ByteArray), (⟨#[]⟩ : ByteArray), 0, ([] : List (S82)), 0, 4)))) = some (r1, r2, r3, r4, r5, r6) := by rw [if_neg (show ¬ (false = true) by decide)] at H; exact H
       clear H
       have H := H1
       clear H1
       replace H := Option.bind_eq_some_iff.mp H
       obtain ⟨t812, A280, H⟩ := H
       replace H : (if t812 = true then ((qbp.f kj12 a0 a1 a2 l3 l4).bind fun bt813 => (some (bt813.1, bt813.2.1, bt813.2.2.1, bt813.2.2.2.1, bt813.2.2.2.2, 0))) else (some ((⟨#[]⟩ : ByteArray), (⟨#[]⟩ : ByteArray), 0, ([] : List (S82)), 0, 4))) = some (r1, r2, r3, r4, r5, r6) := H
       have A28 := Aside0.mk A280
       clear A280
       by_cases c29 : t812 = true
       ·subst c29
        have H1 : ((qbp.f kj12 a0 a1 a2 l3 l4).bind fun bt813 => (some (bt813.1, bt813.2.1, bt813.2.2.1, bt813.2.2.2.1, bt813.2.2.2.2, 0))) = some (r1, r2, r3, r4, r5, r6) := by rw [if_pos rfl] at H; exact H
        clear H
        have H := H1
        clear H1
        replace H := Option.bind_eq_some_iff.mp H
        obtain ⟨⟨t813, t814, t815, t816, t819⟩, A300, H⟩ := H
        replace H : (some (t813, t814, t815, t816, t819, 0)) = some (r1, r2, r3, r4, r5, r6) := H
        have A30 := Aside0.mk A300
        clear A300
        simp only [Option.some.injEq, Prod.mk.injEq] at H
        obtain ⟨rfl, rfl, rfl, rfl, rfl, rfl⟩ := H
        go_wp2_with (first | ((with_reducible refine qaz (f := 66) rfl ?_); refine qbf (some 55) rfl rfl Try.func66 (by kernel_rfl) rfl #[.string a0, .string a1, .int .i64 a2] rfl (by (try simp only [List.map_toArray, List.map_cons, List.map_nil]); first | done | rfl | (simp only [List.length_drop, List.length_take]; rfl)) ?_; (with_reducible refine (qbC.calls kj12 a0 a1 a2 true _ A28.out).mono ?_); rintro e w' ⟨rfl, ⟨nd, rfl⟩⟩; refine ⟨_, rfl, ?_⟩; (try (rw [qbG wc]; generalize hq_ : World.drewN wc _ = wc; have n0_ : Aside0 (wc.heap[gb809]? = some (.cells #[.string (⟨#[]⟩ : ByteArray), .string (⟨#[]⟩ : ByteArray), .int .i64 0, .slice none 0 0, .int .i64 0] 48 (0, 0))) := ⟨by rw [← hq_]; exact (by (with_reducible repeat (first | refine qag ?_ _ | refine qaj ?_ | refine qaf ?_ _)); exact BK809.out)⟩; have n1_ : Aside0 (Below w.heap.size w wc) := ⟨by rw [← hq_]; exact (by repeat (first | (with_reducible first | exact HB.out | apply qac | apply qaa | apply qab | refine qai ?_ GE809.out) | exact HB.out))⟩; clear BK809 HB hq_; have BK809 := n0_; have HB := n1_; clear n0_ n1_))) | ((with_reducible refine qaz (f := 72) rfl ?_); refine qbf (some 63) rfl rfl Try.func72 (by kernel_rfl) rfl #[.string a0, .string a1, .int .i64 a2, .slice A3 l3.length c3, .slice A4 l4.length c4] rfl (by (try simp only [List.map_toArray, List.map_cons, List.map_nil]); first | done | rfl | (simp only [List.length_drop, List.length_take]; rfl)) ?_; (with_reducible refine (qbp.calls kj12 a0 a1 a2 _ _ l3 _ _ l4 t813 t814 t815 t816 t819 _ ?side1 ?side2 ?side3 ?side4 A30.out).mono ?_); (case side1 => repeat (first | exact (Kd.qa2 HR3.out HB.out) | (with_reducible refine Kd.qa7 ?_ _) | (with_reducible refine Kd.qa8 ?_ _) | (with_reducible refine Kd.qbm ?_))); (case side2 => exact HC3.out); (case side3 => repeat (first | exact (Kd.qa2 HR4.out HB.out) | (with_reducible refine Kd.qa7 ?_ _) | (with_reducible refine Kd.qa8 ?_ _) | (with_reducible refine Kd.qbm ?_))); (case side4 => exact HC4.out); rintro e w31 ⟨v817, rfl, ho0, hb⟩; refine ⟨_, rfl, ?_⟩; have n0_ := Aside0.mk (Kd.qbL ho0 (qau (by repeat (first | (with_reducible first | exact HB.out | apply qac | apply qaa | apply qab | refine qai ?_ GE809.out) | exact HB.out)))); have n1_ := Aside0.mk (qaB (g := gb809) (o := .cells #[.string (⟨#[]⟩ : ByteArray), .string (⟨#[]⟩ : ByteArray), .int .i64 0, .slice none 0 0, .int .i64 0] 48 (0, 0)) (by (with_reducible repeat (first | refine qag ?_ _ | refine qaj ?_ | refine qaf ?_ _)); exact BK809.out) hb); have n2_ := Aside0.mk (qak (by repeat (first | (with_reducible first | exact HB.out | apply qac | apply qaa | apply qab | refine qai ?_ GE809.out) | exact HB.out)) hb); clear BK809; clear HB; have HO818 := n0_; have BK809 := n1_; have HB := n2_; clear n0_ n1_ n2_; (try clear hb); (try clear hb2); (try clear hk); (try clear hi); (try clear ho0); have hcz32_0 : w31.cell? ⟨gb809, 0, none⟩ = some (.string (⟨#[]⟩ : ByteArray)) := (qah BK809.out 0).trans rfl; have hcz32_1 : w31.cell? ⟨gb809, 1, none⟩ = some (.string (⟨#[]⟩ : ByteArray)) := (qah BK809.out 1).trans rfl; have hcz32_2 : w31.cell? ⟨gb809, 2, none⟩ = some (.int .i64 0) := (qah BK809.out 2).trans rfl; have hcz32_3 : w31.cell? ⟨gb809, 3, none⟩ = some (.slice none 0 0) := (qah BK809.out 3).trans rfl; have hcz32_4 : w31.cell? ⟨gb809, 4, none⟩ = some (.int .i64 0) := (qah BK809.out 4).trans rfl; have hfz32_0 := qad BK809.out 0; have hfz32_1 := qad BK809.out 1; have hfz32_2 := qad BK809.out 2; have hfz32_3 := qad BK809.out 3; have hfz32_4 := qad BK809.out 4; obtain ⟨Ao33, co33, eo33⟩ := Kd.qbN HO818.out; subst eo33))
        refine bodyPost_ret (qbR rfl _ _ gb809 48 #[.string t813, .string t814, .int .i64 t815, .slice Ao33 t816.length co33, .int .i64 t819] (0, 0) _ rfl (by (with_reducible repeat (first | refine qag ?_ _ | refine qaj ?_ | refine qaf ?_ _)); refine qaI (cs := #[.string t813, .string t814, .int .i64 t815, .slice Ao33 t816.length co33, .int .i64 0]) ?_ 4 _ rfl; (with_reducible repeat (first | refine qag ?_ _ | refine qaj ?_ | refine qaf ?_ _)); refine qaI (cs := #[.string t813, .string t814, .int .i64 t815, .slice none 0 0, .int .i64 0]) ?_ 3 _ rfl; (with_reducible repeat (first | refine qag ?_ _ | refine qaj ?_ | refine qaf ?_ _)); refine qaI (cs := #[.string t813, .string t814, .int .i64 0, .slice none 0 0, .int .i64 0]) ?_ 2 _ rfl; (with_reducible repeat (first | refine qag ?_ _ | refine qaj ?_ | refine qaf ?_ _)); refine qaI (cs := #[.string t813, .string (⟨#[]⟩ : ByteArray), .int .i64 0, .slice none 0 0, .int .i64 0]) ?_ 1 _ rfl; (with_reducible repeat (first | refine qag ?_ _ | refine qaj ?_ | refine qaf ?_ _)); refine qaI (cs := #[.string (⟨#[]⟩ : ByteArray), .string (⟨#[]⟩ : ByteArray), .int .i64 0, .slice none 0 0, .int .i64 0]) ?_ 0 _ rfl; (with_reducible repeat (first | refine qag ?_ _ | refine qaj ?_ | refine qaf ?_ _)); exact BK809.out) Try.underlying48 rfl (by kernel_rfl)) rfl ?_
        exact ⟨_, by first | rfl | (simp [qam, qan] <;> rfl) | (simp [*, qam, qan] <;> rfl), by (with_reducible repeat (first | apply Kd.qar | apply Kd.qas | apply Kd.qax)); exact Kd.qbn (Kd.qa0 (p := ⟨gb809, 4, none⟩) (Kd.qa0 (p := ⟨gb809, 3, none⟩) (Kd.qa0 (p := ⟨gb809, 2, none⟩) (Kd.qa0 (p := ⟨gb809, 1, none⟩) (Kd.qa0 (p := ⟨gb809, 0, none⟩) (Kd.qbw HO818.out BK809.out (by decide)) (fun _ hk => hk.2) (.string t813)) (fun _ hk => hk.2) (.string t814)) (fun _ hk => hk.2) (.int .i64 t815)) (fun _ hk => hk.2) (.slice Ao33 t816.length co33)) (fun _ hk => hk.2) (.int .i64 t819)) (fun _ hk => trivial), by repeat (first | (with_reducible first | exact HB.out | apply qac | apply qaa | apply qab | refine qai ?_ GE809.out) | exact HB.out)⟩
       ·replace c29 := Bool.eq_false_iff.mpr c29
        subst c29
        have H1 : (some ((⟨#[]⟩ : ByteArray), (⟨#[]⟩ : ByteArray), 0, ([] : List (S82)), 0, 4)) = some (r1, r2, r3, r4, r5, r6) := by rw [if_neg (show ¬ (false = true) by decide)] at H; exact H
        clear H
        have H := H1
        clear H1
        simp only [Option.some.injEq, Prod.mk.injEq] at H
        obtain ⟨rfl, rfl, rfl, rfl, rfl, rfl⟩ := H
        go_wp2_with (first | ((with_reducible refine qaz (f := 66) rfl ?_); refine qbf (some 55) rfl rfl Try.func66 (by kernel_rfl) rfl #[.string a0, .string a1, .int .i64 a2] rfl (by (try simp only [List.map_toArray, List.map_cons, List.map_nil]); first | done | rfl | (simp only [List.length_drop, List.length_take]; rfl)) ?_; (with_reducible refine (qbC.calls kj12 a0 a1 a2 false _ A28.out).mono ?_); rintro e w' ⟨rfl, ⟨nd, rfl⟩⟩; refine ⟨_, rfl, ?_⟩; (try (rw [qbG wc]; generalize hq_ : World.drewN wc _ = wc; have n0_ : Aside0 (wc.heap[gb809]? = some (.cells #[.string (⟨#[]⟩ : ByteArray), .string (⟨#[]⟩ : ByteArray), .int .i64 0, .slice none 0 0, .int .i64 0] 48 (0, 0))) := ⟨by rw [← hq_]; exact (by (with_reducible repeat (first | refine qag ?_ _ | refine qaj ?_ | refine qaf ?_ _)); exact BK809.out)⟩; have n1_ : Aside0 (Below w.heap.size w wc) := ⟨by rw [← hq_]; exact (by repeat (first | (with_reducible first | exact HB.out | apply qac | apply qaa | apply qab | refine qai ?_ GE809.out) | exact HB.out))⟩; clear BK809 HB hq_; have BK809 := n0_; have HB := n1_; clear n0_ n1_)); have hcz34_0 : wc.cell? ⟨gb809, 0, none⟩ = some (.string (⟨#[]⟩ : ByteArray)) := (qah BK809.out 0).trans rfl; have hcz34_1 : wc.cell? ⟨gb809, 1, none⟩ = some (.string (⟨#[]⟩ : ByteArray)) := (qah BK809.out 1).trans rfl; have hcz34_2 : wc.cell? ⟨gb809, 2, none⟩ = some (.int .i64 0) := (qah BK809.out 2).trans rfl; have hcz34_3 : wc.cell? ⟨gb809, 3, none⟩ = some (.slice none 0 0) := (qah BK809.out 3).trans rfl; have hcz34_4 : wc.cell? ⟨gb809, 4, none⟩ = some (.int .i64 0) := (qah BK809.out 4).trans rfl; have hfz34_0 := qad BK809.out 0; have hfz34_1 := qad BK809.out 1; have hfz34_2 := qad BK809.out 2; have hfz34_3 := qad BK809.out 3; have hfz34_4 := qad BK809.out 4))
        refine bodyPost_ret (qbR rfl _ _ gb809 48 #[.string (⟨#[]⟩ : ByteArray), .string (⟨#[]⟩ : ByteArray), .int .i64 0, .slice none 0 0, .int .i64 0] (0, 0) _ rfl (by (with_reducible repeat (first | refine qag ?_ _ | refine qaj ?_ | refine qaf ?_ _)); refine qaI (cs := #[.string (⟨#[]⟩ : ByteArray), .string (⟨#[]⟩ : ByteArray), .int .i64 0, .slice none 0 0, .int .i64 0]) ?_ 4 _ rfl; (with_reducible repeat (first | refine qag ?_ _ | refine qaj ?_ | refine qaf ?_ _)); refine qaI (cs := #[.string (⟨#[]⟩ : ByteArray), .string (⟨#[]⟩ : ByteArray), .int .i64 0, .slice none 0 0, .int .i64 0]) ?_ 3 _ rfl; (with_reducible repeat (first | refine qag ?_ _ | refine qaj ?_ | refine qaf ?_ _)); refine qaI (cs := #[.string (⟨#[]⟩ : ByteArray), .string (⟨#[]⟩ : ByteArray), .int .i64 0, .slice none 0 0, .int .i64 0]) ?_ 2 _ rfl; (with_reducible repeat (first | refine qag ?_ _ | refine qaj ?_ | refine qaf ?_ _)); refine qaI (cs := #[.string (⟨#[]⟩ : ByteArray), .string (⟨#[]⟩ : ByteArray), .int .i64 0, .slice none 0 0, .int .i64 0]) ?_ 1 _ rfl; (with_reducible repeat (first | refine qag ?_ _ | refine qaj ?_ | refine qaf ?_ _)); refine qaI (cs := #[.string (⟨#[]⟩ : ByteArray), .string (⟨#[]⟩ : ByteArray), .int .i64 0, .slice none 0 0, .int .i64 0]) ?_ 0 _ rfl; (with_reducible repeat (first | refine qag ?_ _ | refine qaj ?_ | refine qaf ?_ _)); exact BK809.out) Try.underlying48 rfl (by kernel_rfl)) rfl ?_
        exact ⟨_, by first | rfl | (simp [qam, qan] <;> rfl) | (simp [*, qam, qan] <;> rfl), by first | exact Kd.qc0 _ _ _ _ _ | exact Kd.qdD _ _ _ _ _ | exact Kd.qdE _ _ _ _ _ | exact Kd.qdu _ _ _ _ _ | exact Kd.qdB _ _ _ _ _, by repeat (first | (with_reducible first | exact HB.out | apply qac | apply qaa | apply qab | refine qai ?_ GE809.out) | exact HB.out)⟩
end Go.Proofs.Ytgcncphdjabjjaa.X
