import Derived.Test.YtgcncphdjabjjaaKFnExactMakeBackup3
import Derived.Test.YtgcncphdjabjjaaKFnExactMakeBackup10
import Derived.Test.YtgcncphdjabjjaaKFnExactMakeBackup11
import Derived.Test.YtgcncphdjabjjaaKFnExactMakeBackup15
namespace Go.Proofs.Ytgcncphdjabjjaa.X
open Go.RowKit Go.Proofs.YtgcncphdjabjjaaW.PrintWords Go.Proofs.YtgcncphdjabjjaaW.PrintLast Go.Proofs.YtgcncphdjabjjaaW.PrintMore
attribute [local go_sem] qaT qaU qaV qaP qaQ qa3 qa4 qaJ qaK qaR qaS
set_option linter.unusedVariables false
set_option linter.unusedSimpArgs false
mutual
def qav.j0 : Nat → ByteArray → ByteArray → Int → List (S76) → List (S76) → Bool → Option (ByteArray × ByteArray × Int × (List (S82)) × Int × Int)
 | 0, _, _, _, _, _, _ => none
 | k + 1, x0, x1, x2, x3, x4, x29 => if x29 = true then (some ((⟨#[]⟩ : ByteArray), (⟨#[]⟩ : ByteArray), 0, ([] : List (S82)), 0, 2)) else ((qaG.f k x3).bind fun t783 => (if t783 = true then ((qaG.f k x4).bind fun t784 => (if t784 = true then (if x0.toList = ([] : List UInt8) then (qav.j1 k x0 x1 x2 x3 x4 (decide ((x3.length : Int) > 0))) else (qav.j1 k x0 x1 x2 x3 x4 false)) else (qav.j1 k x0 x1 x2 x3 x4 true))) else (qav.j1 k x0 x1 x2 x3 x4 true)))
def qav.j1 : Nat → ByteArray → ByteArray → Int → List (S76) → List (S76) → Bool → Option (ByteArray × ByteArray × Int × (List (S82)) × Int × Int)
 | 0, _, _, _, _, _, _ => none
 | k + 1, x0, x1, x2, x3, x4, x47 => if x47 = true then (some ((⟨#[]⟩ : ByteArray), (⟨#[]⟩ : ByteArray), 0, ([] : List (S82)), 0, 1)) else (if x0.toList = ([] : List UInt8) then ((qbd.f k x1).bind fun t785 => (if t785 = true then ((qbt.f x2 0 4294967295).bind fun t786 => (if t786 = true then (if x2 = 0 then ((qbg.f k x0 x1 x2 x3 x4).bind fun bt787 => (some (bt787.1, bt787.2.1, bt787.2.2.1, bt787.2.2.2.1, bt787.2.2.2.2, 0))) else (some ((⟨#[]⟩ : ByteArray), (⟨#[]⟩ : ByteArray), 0, ([] : List (S82)), 0, 4))) else (some ((⟨#[]⟩ : ByteArray), (⟨#[]⟩ : ByteArray), 0, ([] : List (S82)), 0, 4)))) else (some ((⟨#[]⟩ : ByteArray), (⟨#[]⟩ : ByteArray), 0, ([] : List (S82)), 0, 4)))) else ((qbd.f k x0).bind fun t794 => (if t794 = true then ((qbd.f k x1).bind fun t795 => (if t795 = true then ((qbt.f x2 0 4294967295).bind fun t796 => (if t796 = true then ((qbg.f k x0 x1 x2 x3 x4).bind fun bt797 => (some (bt797.1, bt797.2.1, bt797.2.2.1, bt797.2.2.2.1, bt797.2.2.2.2, 0))) else (some ((⟨#[]⟩ : ByteArray), (⟨#[]⟩ : ByteArray), 0, ([] : List (S82)), 0, 4)))) else (some ((⟨#[]⟩ : ByteArray), (⟨#[]⟩ : ByteArray), 0, ([] : List (S82)), 0, 4)))) else (some ((⟨#[]⟩ : ByteArray), (⟨#[]⟩ : ByteArray), 0, ([] : List (S82)), 0, 4)))))
end
def qav.f (k : Nat) (a0 : ByteArray) (a1 : ByteArray) (a2 : Int) (l3 : List (S76)) (l4 : List (S76)) : Option (ByteArray × ByteArray × Int × (List (S82)) × Int × Int) := if (a0.size : Int) > 65536 then (qav.j0 k a0 a1 a2 l3 l4 true) else (if (a1.size : Int) > 65536 then (qav.j0 k a0 a1 a2 l3 l4 true) else (if (l3.length : Int) > 4096 then (qav.j0 k a0 a1 a2 l3 l4 true) else (qav.j0 k a0 a1 a2 l3 l4 (decide ((l4.length : Int) > 4096)))))
theorem qav.qbs : ∀ k, (∀ y0 y1 y2 y3 y4 y5, LeO (qav.j0 k y0 y1 y2 y3 y4 y5) (qav.j0 (k + 1) y0 y1 y2 y3 y4 y5)) ∧ (∀ y0 y1 y2 y3 y4 y5, LeO (qav.j1 k y0 y1 y2 y3 y4 y5) (qav.j1 (k + 1) y0 y1 y2 y3 y4 y5))
 | 0 => ⟨fun _ _ _ _ _ _ r h => by simp [qav.j0] at h, fun _ _ _ _ _ _ r h => by simp [qav.j1] at h⟩
 | k + 1 => by
  obtain ⟨ih0, ih1⟩ := qav.qbs k
  refine ⟨?_, ?_⟩
  ·intro y0 y1 y2 y3 y4 y5
   unfold qav.j0
   repeat' first
   | (with_reducible exact ih0 _ _ _ _ _ _)
   | (with_reducible exact ih1 _ _ _ _ _ _)
   | (with_reducible exact qaG.mono _ _)
   | (with_reducible exact qbd.mono _ _)
   | (with_reducible exact qbg.mono _ _ _ _ _ _)
   | (with_reducible exact LeO.refl _)
   | (with_reducible exact LeO.none _)
   | (with_reducible refine LeO.ite ?_ ?_)
   | (with_reducible refine LeO.bind ?_ (fun _ => ?_))
   | exact ih0 _ _ _ _ _ _
   | exact ih1 _ _ _ _ _ _
   | exact qaG.mono _ _
   | exact qbd.mono _ _
   | exact qbg.mono _ _ _ _ _ _
   | exact LeO.none _
   | refine LeO.ite ?_ ?_
   | refine LeO.bind ?_ (fun _ => ?_)
  ·intro y0 y1 y2 y3 y4 y5
   unfold qav.j1
   repeat' first
   | (with_reducible exact ih0 _ _ _ _ _ _)
   | (with_reducible exact ih1 _ _ _ _ _ _)
   | (with_reducible exact qaG.mono _ _)
   | (with_reducible exact qbd.mono _ _)
   | (with_reducible exact qbg.mono _ _ _ _ _ _)
   | (with_reducible exact LeO.refl _)
   | (with_reducible exact LeO.none _)
   | (with_reducible refine LeO.ite ?_ ?_)
   | (with_reducible refine LeO.bind ?_ (fun _ => ?_))
   | exact ih0 _ _ _ _ _ _
   | exact ih1 _ _ _ _ _ _
   | exact qaG.mono _ _
   | exact qbd.mono _ _
   | exact qbg.mono _ _ _ _ _ _
   | exact LeO.none _
   | refine LeO.ite ?_ ?_
   | refine LeO.bind ?_ (fun _ => ?_)
theorem qav.mono : ∀ a0 a1 a2 a3 a4 k, LeO (qav.f k a0 a1 a2 a3 a4) (qav.f (k + 1) a0 a1 a2 a3 a4) := by
 intro a0 a1 a2 a3 a4 k
 obtain ⟨ih0, ih1⟩ := qav.qbs k
 unfold qav.f
 repeat' first
   | (with_reducible exact ih0 _ _ _ _ _ _)
   | (with_reducible exact ih1 _ _ _ _ _ _)
   | (with_reducible exact qaG.mono _ _)
   | (with_reducible exact qbd.mono _ _)
   | (with_reducible exact qbg.mono _ _ _ _ _ _)
   | (with_reducible exact LeO.refl _)
   | (with_reducible exact LeO.none _)
   | (with_reducible refine LeO.ite ?_ ?_)
   | (with_reducible refine LeO.bind ?_ (fun _ => ?_))
   | exact ih0 _ _ _ _ _ _
   | exact ih1 _ _ _ _ _ _
   | exact qaG.mono _ _
   | exact qbd.mono _ _
   | exact qbg.mono _ _ _ _ _ _
   | exact LeO.none _
   | refine LeO.ite ?_ ?_
   | refine LeO.bind ?_ (fun _ => ?_)
set_option maxHeartbeats 8000000 in
set_option maxRecDepth 100000 in
theorem qav.calls (k : Nat) (a0 : ByteArray) (a1 : ByteArray) (a2 : Int) (A3 : Option Addr) (c3 : Nat) (l3 : List (S76)) (A4 : Option Addr) (c4 : Nat) (l4 : List (S76)) (r1 : ByteArray) (r2 : ByteArray) (r3 : Int) (r4 : List (S82)) (r5 : Int) (r6 : Int) (w : World) (hr3 : Kd.C k76 w A3 l3.length l3) (hc3 : l3.length ≤ c3) (hr4 : Kd.C k76 w A4 l4.length l4) (hc4 : l4.length ≤ c4) (h : qav.f k a0 a1 a2 l3 l4 = some (r1, r2, r3, r4, r5, r6)) :
  Calls Try.prog 38 #[.string a0, .string a1, .int .i64 a2, .slice A3 l3.length c3, .slice A4 l4.length c4] w fun e w' => ∃ v3_ : Value, e = .returned (.tuple #[.agg #[.string r1, .string r2, .int .i64 r3, v3_, .int .i64 r5], .int .i64 r6]) ∧ Kd.R k82 82 w' w.heap.size (fun _ => True) v3_ r4 ∧ Below w.heap.size w w' := by
 have hu48 := Try.underlying48
 have HR3 := Aside0.mk hr3
 have HC3 := Aside0.mk hc3
 clear hr3 hc3
 have HR4 := Aside0.mk hr4
 have HC4 := Aside0.mk hc4
 clear hr4 hc4
 have HB := Aside0.mk (Below.refl w.heap.size w)
 have H : (if (a0.size : Int) > 65536 then (qav.j0 k a0 a1 a2 l3 l4 true) else (if (a1.size : Int) > 65536 then (qav.j0 k a0 a1 a2 l3 l4 true) else (if (l3.length : Int) > 4096 then (qav.j0 k a0 a1 a2 l3 l4 true) else (qav.j0 k a0 a1 a2 l3 l4 (decide ((l4.length : Int) > 4096)))))) = some (r1, r2, r3, r4, r5, r6) := h
 clear h
 have HC6 := Aside0.mk H
 clear H
 go_enter Try.func38, Try.ntmps38
 go_upto_region 1 with (first | ((with_reducible refine qbc (N := 10) rfl ?_); (try (refine qcg (by rfl) ?_; dsimp only)); refine qba ?hg (N := 10) ?hd (cs := #[.string (⟨#[]⟩ : ByteArray), .string (⟨#[]⟩ : ByteArray), .int .i64 0, .slice none 0 0, .int .i64 0]) (t := 48) ?hr ?_; (case hd => rfl); (case hg => rfl); (case hr => first | (go_simp; done) | (go_simp; rfl)); intro gb782 hg w7 hbox hb; have n0_ := Aside0.mk (qak (by repeat (first | (with_reducible first | exact HB.out | apply qac | apply qaa | apply qab) | exact HB.out)) hb); have n1_ := Aside0.mk (hbox); have n2_ := Aside0.mk ((by rw [hg]; exact (qau (by repeat (first | (with_reducible first | exact HB.out | apply qac | apply qaa | apply qab) | exact HB.out))) : w.heap.size ≤ gb782)); have n3_ := Aside0.mk ((by rw [hg]; exact (qau (by repeat (first | (with_reducible first | exact HB.out | apply qac | apply qaa | apply qab) | exact HB.out))) : w.heap.size ≤ gb782)); clear HB; have HB := n0_; have BK782 := n1_; have GW782 := n2_; have GE782 := n3_; clear n0_ n1_ n2_ n3_; clear hb hbox hg))
 (try simp only [Act.put, List.setIfInBounds_toArray, List.set_cons_zero, List.set_cons_succ])
 go_cut [29] (fun v29 wc => ∃ (kq : Nat) (x29_5 : Bool), v29 = .bool x29_5 ∧ Aside0 (qav.j0 kq a0 a1 a2 l3 l4 x29_5 = some (r1, r2, r3, r4, r5, r6)) ∧ Aside0 (kq ≤ k) ∧ Aside0 (wc.heap[gb782]? = some (.cells #[.string (⟨#[]⟩ : ByteArray), .string (⟨#[]⟩ : ByteArray), .int .i64 0, (.slice none 0 0), .int .i64 0] 48 (0, 0))) ∧ Aside0 (Below w.heap.size w wc))
 case first =>
  have H := HC6.out
  clear HC6
  by_cases c8 : (a0.size : Int) > 65536
  ·rw [if_pos c8] at H
   have c8b0 : decide (65536 < (a0.size : Int)) = true := decide_eq_true c8
   have c8b1 : decide (65536 < a0.size) = true := decide_eq_true (by omega)
   clear c8
   (first | rw [c8b0] | (simp only [qbh, qbi]; rw [c8b0]) | skip)
   have H' := Aside0.mk H
   clear H
   go_wp2
   go_meet
   case rel => exact ⟨_, (true), (by first | rfl | (simp; done) | (simp [*]; done)), H', ⟨by first | omega | exact Nat.le_refl _⟩, ⟨by (with_reducible repeat (first | refine qag ?_ _ | refine qaj ?_ | refine qaf ?_ _)); exact BK782.out⟩, ⟨by repeat (first | (with_reducible first | exact HB.out | apply qac | apply qaa | apply qab | refine qai ?_ GE782.out) | exact HB.out)⟩⟩
  ·rw [if_neg c8] at H
   have c8b0 : decide (65536 < (a0.size : Int)) = false := decide_eq_false c8
   have c8b1 : decide (65536 < a0.size) = false := decide_eq_false (by omega)
   clear c8
   (first | rw [c8b0] | (simp only [qbh, qbi]; rw [c8b0]) | skip)
   by_cases c9 : (a1.size : Int) > 65536
   ·rw [if_pos c9] at H
    have c9b0 : decide (65536 < (a1.size : Int)) = true := decide_eq_true c9
    have c9b1 : decide (65536 < a1.size) = true := decide_eq_true (by omega)
    clear c9
    have H' := Aside0.mk H
    clear H
    go_wp2
    go_meet
    case rel => exact ⟨_, (true), (by first | rfl | (simp; done) | (simp [*]; done)), H', ⟨by first | omega | exact Nat.le_refl _⟩, ⟨by (with_reducible repeat (first | refine qag ?_ _ | refine qaj ?_ | refine qaf ?_ _)); exact BK782.out⟩, ⟨by repeat (first | (with_reducible first | exact HB.out | apply qac | apply qaa | apply qab | refine qai ?_ GE782.out) | exact HB.out)⟩⟩
   ·rw [if_neg c9] at H
    have c9b0 : decide (65536 < (a1.size : Int)) = false := decide_eq_false c9
    have c9b1 : decide (65536 < a1.size) = false := decide_eq_false (by omega)
    clear c9
    by_cases c10 : (l3.length : Int) > 4096
    ·rw [if_pos c10] at H
     have c10b0 : decide (4096 < (l3.length : Int)) = true := decide_eq_true c10
     have c10b1 : decide (4096 < l3.length) = true := decide_eq_true (by omega)
     clear c10
     have H' := Aside0.mk H
     clear H
     go_wp2
     go_meet
     case rel => exact ⟨_, (true), (by first | rfl | (simp; done) | (simp [*]; done)), H', ⟨by first | omega | exact Nat.le_refl _⟩, ⟨by (with_reducible repeat (first | refine qag ?_ _ | refine qaj ?_ | refine qaf ?_ _)); exact BK782.out⟩, ⟨by repeat (first | (with_reducible first | exact HB.out | apply qac | apply qaa | apply qab | refine qai ?_ GE782.out) | exact HB.out)⟩⟩
    ·rw [if_neg c10] at H
     have c10b0 : decide (4096 < (l3.length : Int)) = false := decide_eq_false c10
     have c10b1 : decide (4096 < l3.length) = false := decide_eq_false (by omega)
     clear c10
     have H' := Aside0.mk H
     clear H
     go_wp2
     go_meet
     case rel => exact ⟨_, (decide ((l4.length : Int) > 4096)), (by first | rfl | (simp; done) | (simp [*]; done)), H', ⟨by first | omega | exact Nat.le_refl _⟩, ⟨by (with_reducible repeat (first | refine qag ?_ _ | refine qaj ?_ | refine qaf ?_ _)); exact BK782.out⟩, ⟨by repeat (first | (with_reducible first | exact HB.out | apply qac | apply qaa | apply qab | refine qai ?_ GE782.out) | exact HB.out)⟩⟩
 case rest =>
  clear HC6
  try clear c1
  try clear p2
  try clear c3
  try clear c4
  try clear c8
  try clear c8b0
  try clear c8b1
  try clear c9
  try clear c9b0
  try clear c9b1
  try clear c10
  try clear c10b0
  try clear c10b1
  obtain ⟨kq, x29_5, rfl, HA, HJ5, BK782, HB⟩ := hcut
  cases kq with
  | zero => exact absurd HA.out (by simp [qav.j0])
  | succ kj5 =>
   have H := HA.out
   clear HA
   simp only [qav.j0] at H
   by_cases c11 : x29_5 = true
   ·subst c11
    have H1 : (some ((⟨#[]⟩ : ByteArray), (⟨#[]⟩ : ByteArray), 0, ([] : List (S82)), 0, 2)) = some (r1, r2, r3, r4, r5, r6) := by rw [if_pos rfl] at H; exact H
    clear H
    have H := H1
    clear H1
    simp only [Option.some.injEq, Prod.mk.injEq] at H
    obtain ⟨rfl, rfl, rfl, rfl, rfl, rfl⟩ := H
    have hcz12_0 : wc.cell? ⟨gb782, 0, none⟩ = some (.string (⟨#[]⟩ : ByteArray)) := (qah BK782.out 0).trans rfl
    have hcz12_1 : wc.cell? ⟨gb782, 1, none⟩ = some (.string (⟨#[]⟩ : ByteArray)) := (qah BK782.out 1).trans rfl
    have hcz12_2 : wc.cell? ⟨gb782, 2, none⟩ = some (.int .i64 0) := (qah BK782.out 2).trans rfl
    have hcz12_3 : wc.cell? ⟨gb782, 3, none⟩ = some (.slice none 0 0) := (qah BK782.out 3).trans rfl
    have hcz12_4 : wc.cell? ⟨gb782, 4, none⟩ = some (.int .i64 0) := (qah BK782.out 4).trans rfl
    have hfz12_0 := qad BK782.out 0
    have hfz12_1 := qad BK782.out 1
    have hfz12_2 := qad BK782.out 2
    have hfz12_3 := qad BK782.out 3
    have hfz12_4 := qad BK782.out 4
    go_wp2
    refine bodyPost_ret (qbR rfl _ _ gb782 48 #[.string (⟨#[]⟩ : ByteArray), .string (⟨#[]⟩ : ByteArray), .int .i64 0, .slice none 0 0, .int .i64 0] (0, 0) _ rfl (by (with_reducible repeat (first | refine qag ?_ _ | refine qaj ?_ | refine qaf ?_ _)); refine qaI (cs := #[.string (⟨#[]⟩ : ByteArray), .string (⟨#[]⟩ : ByteArray), .int .i64 0, .slice none 0 0, .int .i64 0]) ?_ 4 _ rfl; (with_reducible repeat (first | refine qag ?_ _ | refine qaj ?_ | refine qaf ?_ _)); refine qaI (cs := #[.string (⟨#[]⟩ : ByteArray), .string (⟨#[]⟩ : ByteArray), .int .i64 0, .slice none 0 0, .int .i64 0]) ?_ 3 _ rfl; (with_reducible repeat (first | refine qag ?_ _ | refine qaj ?_ | refine qaf ?_ _)); refine qaI (cs := #[.string (⟨#[]⟩ : ByteArray), .string (⟨#[]⟩ : ByteArray), .int .i64 0, .slice none 0 0, .int .i64 0]) ?_ 2 _ rfl; (with_reducible repeat (first | refine qag ?_ _ | refine qaj ?_ | refine qaf ?_ _)); refine qaI (cs := #[.string (⟨#[]⟩ : ByteArray), .string (⟨#[]⟩ : ByteArray), .int .i64 0, .slice none 0 0, .int .i64 0]) ?_ 1 _ rfl; (with_reducible repeat (first | refine qag ?_ _ | refine qaj ?_ | refine qaf ?_ _)); refine qaI (cs := #[.string (⟨#[]⟩ : ByteArray), .string (⟨#[]⟩ : ByteArray), .int .i64 0, .slice none 0 0, .int .i64 0]) ?_ 0 _ rfl; (with_reducible repeat (first | refine qag ?_ _ | refine qaj ?_ | refine qaf ?_ _)); exact BK782.out) Try.underlying48 rfl (by kernel_rfl)) rfl ?_
    exact ⟨_, by first | rfl | (simp [qam, qan] <;> rfl) | (simp [*, qam, qan] <;> rfl), by first | exact Kd.qc0 _ _ _ _ _ | exact Kd.qdD _ _ _ _ _ | exact Kd.qdE _ _ _ _ _ | exact Kd.qdu _ _ _ _ _ | exact Kd.qdB _ _ _ _ _, by repeat (first | (with_reducible first | exact HB.out | apply qac | apply qaa | apply qab | refine qai ?_ GE782.out) | exact HB.out)⟩
   ·replace c11 := Bool.eq_false_iff.mpr c11
    subst c11
    have H1 : ((qaG.f kj5 l3).bind fun t783 => (if t783 = true then ((qaG.f kj5 l4).bind fun t784 => (if t784 = true then (if a0.toList = ([] : List UInt8) then (qav.j1 kj5 a0 a1 a2 l3 l4 (decide ((l3.length : Int) > 0))) else (qav.j1 kj5 a0 a1 a2 l3 l4 false)) else (qav.j1 kj5 a0 a1 a2 l3 l4 true))) else (qav.j1 kj5 a0 a1 a2 l3 l4 true))) = some (r1, r2, r3, r4, r5, r6) := by rw [if_neg (show ¬ (false = true) by decide)] at H; exact H
    clear H
    have H := H1
    clear H1
    have HC13 := Aside0.mk H
    clear H
    go_upto_region 3 with (fail)
    go_cut [47] (fun v47 wc => ∃ (kq : Nat) (x47_12 : Bool), v47 = .bool x47_12 ∧ Aside0 (qav.j1 kq a0 a1 a2 l3 l4 x47_12 = some (r1, r2, r3, r4, r5, r6)) ∧ Aside0 (kq ≤ kj5) ∧ Aside0 (wc.heap[gb782]? = some (.cells #[.string (⟨#[]⟩ : ByteArray), .string (⟨#[]⟩ : ByteArray), .int .i64 0, (.slice none 0 0), .int .i64 0] 48 (0, 0))) ∧ Aside0 (Below w.heap.size w wc))
    case first =>
     have H := HC13.out
     clear HC13
     replace H := Option.bind_eq_some_iff.mp H
     obtain ⟨t783, A140, H⟩ := H
     replace H : (if t783 = true then ((qaG.f kj5 l4).bind fun t784 => (if t784 = true then (if a0.toList = ([] : List UInt8) then (qav.j1 kj5 a0 a1 a2 l3 l4 (decide ((l3.length : Int) > 0))) else (qav.j1 kj5 a0 a1 a2 l3 l4 false)) else (qav.j1 kj5 a0 a1 a2 l3 l4 true))) else (qav.j1 kj5 a0 a1 a2 l3 l4 true)) = some (r1, r2, r3, r4, r5, r6) := H
     have A14 := Aside0.mk A140
     clear A140
     by_cases c15 : t783 = true
     ·subst c15
      have H1 : ((qaG.f kj5 l4).bind fun t784 => (if t784 = true then (if a0.toList = ([] : List UInt8) then (qav.j1 kj5 a0 a1 a2 l3 l4 (decide ((l3.length : Int) > 0))) else (qav.j1 kj5 a0 a1 a2 l3 l4 false)) else (qav.j1 kj5 a0 a1 a2 l3 l4 true))) = some (r1, r2, r3, r4, r5, r6) := by rw [if_pos rfl] at H; exact H
      clear H
      have H := H1
      clear H1
      replace H := Option.bind_eq_some_iff.mp H
      obtain ⟨t784, A160, H⟩ := H
      replace H : (if t784 = true then (if a0.toList = ([] : List UInt8) then (qav.j1 kj5 a0 a1 a2 l3 l4 (decide ((l3.length : Int) > 0))) else (qav.j1 kj5 a0 a1 a2 l3 l4 false)) else (qav.j1 kj5 a0 a1 a2 l3 l4 true)) = some (r1, r2, r3, r4, r5, r6) := H
      have A16 := Aside0.mk A160
      clear A160
      by_cases c17 : t784 = true
      ·subst c17
       have H1 : (if a0.toList = ([] : List UInt8) then (qav.j1 kj5 a0 a1 a2 l3 l4 (decide ((l3.length : Int) > 0))) else (qav.j1 kj5 a0 a1 a2 l3 l4 false)) = some (r1, r2, r3, r4, r5, r6) := by rw [if_pos rfl] at H; exact H
       clear H
       have H := H1
       clear H1
       by_cases c18 : a0.toList = ([] : List UInt8)
       ·rw [if_pos c18] at H
        have c18b0 : (a0.toList == ([] : List UInt8)) = true := beq_iff_eq.mpr c18
        have c18b1 : (a0.toList != ([] : List UInt8)) = false := bne_eq_false_iff_eq.mpr c18
        clear c18
        (first | rw [c18b0] | (simp only [qbh, qbi]; rw [c18b0]) | skip)
        have H' := Aside0.mk H
        clear H
        go_wp2_with (first | ((with_reducible refine qaz (f := 50) rfl ?_); refine qbf (some 32) rfl rfl Try.func50 (by kernel_rfl) rfl #[.slice A3 l3.length c3] rfl (by (try simp only [List.map_toArray, List.map_cons, List.map_nil]); first | done | rfl | (simp only [List.length_drop, List.length_take]; rfl)) ?_; (with_reducible refine (qaG.calls kj5 _ _ l3 true _ ?side1 ?side2 A14.out).mono ?_); (case side1 => repeat (first | exact (Kd.qa2 HR3.out HB.out) | (with_reducible refine Kd.qa7 ?_ _) | (with_reducible refine Kd.qa8 ?_ _) | (with_reducible refine Kd.qbm ?_))); (case side2 => exact HC3.out); rintro e w19 ⟨rfl, hb⟩; refine ⟨_, rfl, ?_⟩; have n0_ := Aside0.mk (qaB (g := gb782) (o := .cells #[.string (⟨#[]⟩ : ByteArray), .string (⟨#[]⟩ : ByteArray), .int .i64 0, .slice none 0 0, .int .i64 0] 48 (0, 0)) (by (with_reducible repeat (first | refine qag ?_ _ | refine qaj ?_ | refine qaf ?_ _)); exact BK782.out) hb); have n1_ := Aside0.mk (qak (by repeat (first | (with_reducible first | exact HB.out | apply qac | apply qaa | apply qab | refine qai ?_ GE782.out) | exact HB.out)) hb); clear BK782; clear HB; have BK782 := n0_; have HB := n1_; clear n0_ n1_; (try clear hb); (try clear hb2); (try clear hk); (try clear hi)) | (go_at_call 50; (with_reducible refine (qaG.calls kj5 _ _ l4 true _ ?side1 ?side2 A16.out).mono ?_); (case side1 => repeat (first | exact (Kd.qa2 HR4.out HB.out) | (with_reducible refine Kd.qa7 ?_ _) | (with_reducible refine Kd.qa8 ?_ _) | (with_reducible refine Kd.qbm ?_))); (case side2 => exact HC4.out); rintro e w20 ⟨rfl, hb⟩; have n0_ := Aside0.mk (qaB (g := gb782) (o := .cells #[.string (⟨#[]⟩ : ByteArray), .string (⟨#[]⟩ : ByteArray), .int .i64 0, .slice none 0 0, .int .i64 0] 48 (0, 0)) (by (with_reducible repeat (first | refine qag ?_ _ | refine qaj ?_ | refine qaf ?_ _)); exact BK782.out) hb); have n1_ := Aside0.mk (qak (by repeat (first | (with_reducible first | exact HB.out | apply qac | apply qaa | apply qab | refine qai ?_ GE782.out) | exact HB.out)) hb); clear BK782; clear HB; have BK782 := n0_; have HB := n1_; clear n0_ n1_; (try clear hb); (try clear hb2); (try clear hk); (try clear hi)))
        go_meet
        case rel => exact ⟨_, (decide ((l3.length : Int) > 0)), (by first | rfl | (simp; done) | (simp [*]; done)), H', ⟨by have := HJ5.out; first | omega | exact Nat.le_refl _⟩, ⟨by (with_reducible repeat (first | refine qag ?_ _ | refine qaj ?_ | refine qaf ?_ _)); exact BK782.out⟩, ⟨by repeat (first | (with_reducible first | exact HB.out | apply qac | apply qaa | apply qab | refine qai ?_ GE782.out) | exact HB.out)⟩⟩
       ·rw [if_neg c18] at H
        have c18b0 : (a0.toList == ([] : List UInt8)) = false := beq_eq_false_iff_ne.mpr c18
        have c18b1 : (a0.toList != ([] : List UInt8)) = true := bne_iff_ne.mpr c18
        (first | rw [c18b0] | (simp only [qbh, qbi]; rw [c18b0]) | skip)
        have H' := Aside0.mk H
        clear H
        go_wp2_with (first | ((with_reducible refine qaz (f := 50) rfl ?_); refine qbf (some 32) rfl rfl Try.func50 (by kernel_rfl) rfl #[.slice A3 l3.length c3] rfl (by (try simp only [List.map_toArray, List.map_cons, List.map_nil]); first | done | rfl | (simp only [List.length_drop, List.length_take]; rfl)) ?_; (with_reducible refine (qaG.calls kj5 _ _ l3 true _ ?side1 ?side2 A14.out).mono ?_); (case side1 => repeat (first | exact (Kd.qa2 HR3.out HB.out) | (with_reducible refine Kd.qa7 ?_ _) | (with_reducible refine Kd.qa8 ?_ _) | (with_reducible refine Kd.qbm ?_))); (case side2 => exact HC3.out); rintro e w21 ⟨rfl, hb⟩; refine ⟨_, rfl, ?_⟩; have n0_ := Aside0.mk (qaB (g := gb782) (o := .cells #[.string (⟨#[]⟩ : ByteArray), .string (⟨#[]⟩ : ByteArray), .int .i64 0, .slice none 0 0, .int .i64 0] 48 (0, 0)) (by (with_reducible repeat (first | refine qag ?_ _ | refine qaj ?_ | refine qaf ?_ _)); exact BK782.out) hb); have n1_ := Aside0.mk (qak (by repeat (first | (with_reducible first | exact HB.out | apply qac | apply qaa | apply qab | refine qai ?_ GE782.out) | exact HB.out)) hb); clear BK782; clear HB; have BK782 := n0_; have HB := n1_; clear n0_ n1_; (try clear hb); (try clear hb2); (try clear hk); (try clear hi)) | (go_at_call 50; (with_reducible refine (qaG.calls kj5 _ _ l4 true _ ?side1 ?side2 A16.out).mono ?_); (case side1 => repeat (first | exact (Kd.qa2 HR4.out HB.out) | (with_reducible refine Kd.qa7 ?_ _) | (with_reducible refine Kd.qa8 ?_ _) | (with_reducible refine Kd.qbm ?_))); (case side2 => exact HC4.out); rintro e w22 ⟨rfl, hb⟩; have n0_ := Aside0.mk (qaB (g := gb782) (o := .cells #[.string (⟨#[]⟩ : ByteArray), .string (⟨#[]⟩ : ByteArray), .int .i64 0, .slice none 0 0, .int .i64 0] 48 (0, 0)) (by (with_reducible repeat (first | refine qag ?_ _ | refine qaj ?_ | refine qaf ?_ _)); exact BK782.out) hb); have n1_ := Aside0.mk (qak (by repeat (first | (with_reducible first | exact HB.out | apply qac | apply qaa | apply qab | refine qai ?_ GE782.out) | exact HB.out)) hb); clear BK782; clear HB; have BK782 := n0_; have HB := n1_; clear n0_ n1_; (try clear hb); (try clear hb2); (try clear hk); (try clear hi)))
        go_meet
        case rel => exact ⟨_, (false), (by first | rfl | (simp; done) | (simp [*]; done)), H', ⟨by have := HJ5.out; first | omega | exact Nat.le_refl _⟩, ⟨by (with_reducible repeat (first | refine qag ?_ _ | refine qaj ?_ | refine qaf ?_ _)); exact BK782.out⟩, ⟨by repeat (first | (with_reducible first | exact HB.out | apply qac | apply qaa | apply qab | refine qai ?_ GE782.out) | exact HB.out)⟩⟩
      ·replace c17 := Bool.eq_false_iff.mpr c17
       subst c17
       have H1 : (qav.j1 kj5 a0 a1 a2 l3 l4 true) = some (r1, r2, r3, r4, r5, r6) := by rw [if_neg (show ¬ (false = true) by decide)] at H; exact H
       clear H
       have H := H1
       clear H1
       have H' := Aside0.mk H
       clear H
       go_wp2_with (first | ((with_reducible refine qaz (f := 50) rfl ?_); refine qbf (some 32) rfl rfl Try.func50 (by kernel_rfl) rfl #[.slice A3 l3.length c3] rfl (by (try simp only [List.map_toArray, List.map_cons, List.map_nil]); first | done | rfl | (simp only [List.length_drop, List.length_take]; rfl)) ?_; (with_reducible refine (qaG.calls kj5 _ _ l3 true _ ?side1 ?side2 A14.out).mono ?_); (case side1 => repeat (first | exact (Kd.qa2 HR3.out HB.out) | (with_reducible refine Kd.qa7 ?_ _) | (with_reducible refine Kd.qa8 ?_ _) | (with_reducible refine Kd.qbm ?_))); (case side2 => exact HC3.out); rintro e w23 ⟨rfl, hb⟩; refine ⟨_, rfl, ?_⟩; have n0_ := Aside0.mk (qaB (g := gb782) (o := .cells #[.string (⟨#[]⟩ : ByteArray), .string (⟨#[]⟩ : ByteArray), .int .i64 0, .slice none 0 0, .int .i64 0] 48 (0, 0)) (by (with_reducible repeat (first | refine qag ?_ _ | refine qaj ?_ | refine qaf ?_ _)); exact BK782.out) hb); have n1_ := Aside0.mk (qak (by repeat (first | (with_reducible first | exact HB.out | apply qac | apply qaa | apply qab | refine qai ?_ GE782.out) | exact HB.out)) hb); clear BK782; clear HB; have BK782 := n0_; have HB := n1_; clear n0_ n1_; (try clear hb); (try clear hb2); (try clear hk); (try clear hi)) | (go_at_call 50; (with_reducible refine (qaG.calls kj5 _ _ l4 false _ ?side1 ?side2 A16.out).mono ?_); (case side1 => repeat (first | exact (Kd.qa2 HR4.out HB.out) | (with_reducible refine Kd.qa7 ?_ _) | (with_reducible refine Kd.qa8 ?_ _) | (with_reducible refine Kd.qbm ?_))); (case side2 => exact HC4.out); rintro e w24 ⟨rfl, hb⟩; have n0_ := Aside0.mk (qaB (g := gb782) (o := .cells #[.string (⟨#[]⟩ : ByteArray), .string (⟨#[]⟩ : ByteArray), .int .i64 0, .slice none 0 0, .int .i64 0] 48 (0, 0)) (by (with_reducible repeat (first | refine qag ?_ _ | refine qaj ?_ | refine qaf ?_ _)); exact BK782.out) hb); have n1_ := Aside0.mk (qak (by repeat (first | (with_reducible first | exact HB.out | apply qac | apply qaa | apply qab | refine qai ?_ GE782.out) | exact HB.out)) hb); clear BK782; clear HB; have BK782 := n0_; have HB := n1_; clear n0_ n1_; (try clear hb); (try clear hb2); (try clear hk); (try clear hi)))
       go_meet
       case rel => exact ⟨_, (true), (by first | rfl | (simp; done) | (simp [*]; done)), H', ⟨by have := HJ5.out; first | omega | exact Nat.le_refl _⟩, ⟨by (with_reducible repeat (first | refine qag ?_ _ | refine qaj ?_ | refine qaf ?_ _)); exact BK782.out⟩, ⟨by repeat (first | (with_reducible first | exact HB.out | apply qac | apply qaa | apply qab | refine qai ?_ GE782.out) | exact HB.out)⟩⟩
     ·replace c15 := Bool.eq_false_iff.mpr c15
      subst c15
      have H1 : (qav.j1 kj5 a0 a1 a2 l3 l4 true) = some (r1, r2, r3, r4, r5, r6) := by rw [if_neg (show ¬ (false = true) by decide)] at H; exact H
      clear H
      have H := H1
      clear H1
      have H' := Aside0.mk H
      clear H
      go_wp2_with (first | ((with_reducible refine qaz (f := 50) rfl ?_); refine qbf (some 32) rfl rfl Try.func50 (by kernel_rfl) rfl #[.slice A3 l3.length c3] rfl (by (try simp only [List.map_toArray, List.map_cons, List.map_nil]); first | done | rfl | (simp only [List.length_drop, List.length_take]; rfl)) ?_; (with_reducible refine (qaG.calls kj5 _ _ l3 false _ ?side1 ?side2 A14.out).mono ?_); (case side1 => repeat (first | exact (Kd.qa2 HR3.out HB.out) | (with_reducible refine Kd.qa7 ?_ _) | (with_reducible refine Kd.qa8 ?_ _) | (with_reducible refine Kd.qbm ?_))); (case side2 => exact HC3.out); rintro e w25 ⟨rfl, hb⟩; refine ⟨_, rfl, ?_⟩; have n0_ := Aside0.mk (qaB (g := gb782) (o := .cells #[.string (⟨#[]⟩ : ByteArray), .string (⟨#[]⟩ : ByteArray), .int .i64 0, .slice none 0 0, .int .i64 0] 48 (0, 0)) (by (with_reducible repeat (first | refine qag ?_ _ | refine qaj ?_ | refine qaf ?_ _)); exact BK782.out) hb); have n1_ := Aside0.mk (qak (by repeat (first | (with_reducible first | exact HB.out | apply qac | apply qaa | apply qab | refine qai ?_ GE782.out) | exact HB.out)) hb); clear BK782; clear HB; have BK782 := n0_; have HB := n1_; clear n0_ n1_; (try clear hb); (try clear hb2); (try clear hk); (try clear hi)))
      go_meet
      case rel => exact ⟨_, (true), (by first | rfl | (simp; done) | (simp [*]; done)), H', ⟨by have := HJ5.out; first | omega | exact Nat.le_refl _⟩, ⟨by (with_reducible repeat (first | refine qag ?_ _ | refine qaj ?_ | refine qaf ?_ _)); exact BK782.out⟩, ⟨by repeat (first | (with_reducible first | exact HB.out | apply qac | apply qaa | apply qab | refine qai ?_ GE782.out) | exact HB.out)⟩⟩
    case rest =>
     clear HC13
     try clear c1
     try clear p2
     try clear c3
     try clear c4
     try clear c5
     try clear c8
     try clear c8b0
     try clear c8b1
     try clear c9
     try clear c9b0
     try clear c9b1
     try clear c10
     try clear c10b0
     try clear c10b1
     try clear c11
     try clear c15
     try clear c17
     try clear c18
     try clear c18b0
     try clear c18b1
     try clear hcz12_0
     try clear hcz12_1
     try clear hcz12_2
     try clear hcz12_3
     try clear hcz12_4
     try clear hfz12_0
     try clear hfz12_1
     try clear hfz12_2
     try clear hfz12_3
     try clear hfz12_4
     try clear p2
     obtain ⟨kq, x47_12, rfl, HA, HJ12, BK782, HB⟩ := hcut
     cases kq with
     | zero => exact absurd HA.out (by simp [qav.j1])
     | succ kj12 =>
      have H := HA.out
      clear HA
      simp only [qav.j1] at H
      by_cases c26 : x47_12 = true
      ·subst c26
       have H1 : (some ((⟨#[]⟩ : ByteArray), (⟨#[]⟩ : ByteArray), 0, ([] : List (S82)), 0, 1)) = some (r1, r2, r3, r4, r5, r6) := by rw [if_pos rfl] at H; exact H
       clear H
       have H := H1
       clear H1
       simp only [Option.some.injEq, Prod.mk.injEq] at H
       obtain ⟨rfl, rfl, rfl, rfl, rfl, rfl⟩ := H
       have hcz27_0 : wc.cell? ⟨gb782, 0, none⟩ = some (.string (⟨#[]⟩ : ByteArray)) := (qah BK782.out 0).trans rfl
       have hcz27_1 : wc.cell? ⟨gb782, 1, none⟩ = some (.string (⟨#[]⟩ : ByteArray)) := (qah BK782.out 1).trans rfl
       have hcz27_2 : wc.cell? ⟨gb782, 2, none⟩ = some (.int .i64 0) := (qah BK782.out 2).trans rfl
       have hcz27_3 : wc.cell? ⟨gb782, 3, none⟩ = some (.slice none 0 0) := (qah BK782.out 3).trans rfl
       have hcz27_4 : wc.cell? ⟨gb782, 4, none⟩ = some (.int .i64 0) := (qah BK782.out 4).trans rfl
       have hfz27_0 := qad BK782.out 0
       have hfz27_1 := qad BK782.out 1
       have hfz27_2 := qad BK782.out 2
       have hfz27_3 := qad BK782.out 3
       have hfz27_4 := qad BK782.out 4
       go_wp2
       refine bodyPost_ret (qbR rfl _ _ gb782 48 #[.string (⟨#[]⟩ : ByteArray), .string (⟨#[]⟩ : ByteArray), .int .i64 0, .slice none 0 0, .int .i64 0] (0, 0) _ rfl (by (with_reducible repeat (first | refine qag ?_ _ | refine qaj ?_ | refine qaf ?_ _)); refine qaI (cs := #[.string (⟨#[]⟩ : ByteArray), .string (⟨#[]⟩ : ByteArray), .int .i64 0, .slice none 0 0, .int .i64 0]) ?_ 4 _ rfl; (with_reducible repeat (first | refine qag ?_ _ | refine qaj ?_ | refine qaf ?_ _)); refine qaI (cs := #[.string (⟨#[]⟩ : ByteArray), .string (⟨#[]⟩ : ByteArray), .int .i64 0, .slice none 0 0, .int .i64 0]) ?_ 3 _ rfl; (with_reducible repeat (first | refine qag ?_ _ | refine qaj ?_ | refine qaf ?_ _)); refine qaI (cs := #[.string (⟨#[]⟩ : ByteArray), .string (⟨#[]⟩ : ByteArray), .int .i64 0, .slice none 0 0, .int .i64 0]) ?_ 2 _ rfl; (with_reducible repeat (first | refine qag ?_ _ | refine qaj ?_ | refine qaf ?_ _)); refine qaI (cs := #[.string (⟨#[]⟩ : ByteArray), .string (⟨#[]⟩ : ByteArray), .int .i64 0, .slice none 0 0, .int .i64 0]) ?_ 1 _ rfl; (with_reducible repeat (first | refine qag ?_ _ | refine qaj ?_ | refine qaf ?_ _)); refine qaI (cs := #[.string (⟨#[]⟩ : ByteArray), .string (⟨#[]⟩ : ByteArray), .int .i64 0, .slice none 0 0, .int .i64 0]) ?_ 0 _ rfl; (with_reducible repeat (first | refine qag ?_ _ | refine qaj ?_ | refine qaf ?_ _)); exact BK782.out) Try.underlying48 rfl (by kernel_rfl)) rfl ?_
       exact ⟨_, by first | rfl | (simp [qam, qan] <;> rfl) | (simp [*, qam, qan] <;> rfl), by first | exact Kd.qc0 _ _ _ _ _ | exact Kd.qdD _ _ _ _ _ | exact Kd.qdE _ _ _ _ _ | exact Kd.qdu _ _ _ _ _ | exact Kd.qdB _ _ _ _ _, by repeat (first | (with_reducible first | exact HB.out | apply qac | apply qaa | apply qab | refine qai ?_ GE782.out) | exact HB.out)⟩
      ·replace c26 := Bool.eq_false_iff.mpr c26
       subst c26
       have H1 : (if a0.toList = ([] : List UInt8) then ((qbd.f kj12 a1).bind fun t785 => (if t785 = true then ((qbt.f a2 0 4294967295).bind fun t786 => (if t786 = true then (if a2 = 0 then ((qbg.f kj12 a0 a1 a2 l3 l4).bind fun bt787 => (some (bt787.1, bt787.2.1, bt787.2.2.1, bt787.2.2.2.1, bt787.2.2.2.2, 0))) else (some ((⟨#[]⟩ : ByteArray), (⟨#[]⟩ : ByteArray), 0, ([] : List (S82)), 0, 4))) else (some ((⟨#[]⟩ : ByteArray), (⟨#[]⟩ : ByteArray), 0, ([] : List (S82)), 0, 4)))) else (some ((⟨#[]⟩ : ByteArray), (⟨#[]⟩ : ByteArray), 0, ([] : List (S82)), 0, 4)))) else ((qbd.f kj12 a0).bind fun t794 => (if t794 = true then ((qbd.f kj12 a1).bind fun t795 => (if t795 = true then ((qbt.f a2 0 4294967295).bind fun t796 => (if t796 = true then ((qbg.f kj12 a0 a1 a2 l3 l4).bind fun bt797 => (some (bt797.1, bt797.2.1, bt797.2.2.1, bt797.2.2.2.1, bt797.2.2.2.2, 0))) else (some ((⟨#[]⟩ : ByteArray), (⟨#[]⟩ : ByteArray), 0, ([] : List (S82)), 0, 4)))) else (some ((⟨#[]⟩ : ByteArray), (⟨#[]⟩ : ByteArray), 0, ([] : List (S82)), 0, 4)))) else (some ((⟨#[]⟩ : ByteArray), (⟨#[]⟩ : ByteArray), 0, ([] : List (S82)), 0, 4))))) = some (r1, r2, r3, r4, r5, r6) := by rw [if_neg (show ¬ (false = true) by decide)] at H; exact H
       clear H
       have H := H1
       clear H1
       by_cases c28 : a0.toList = ([] : List UInt8)
       ·rw [if_pos c28] at H
        have c28b0 : (a0.toList == ([] : List UInt8)) = true := beq_iff_eq.mpr c28
        have c28b1 : (a0.toList != ([] : List UInt8)) = false := bne_eq_false_iff_eq.mpr c28
        clear c28
        replace H := Option.bind_eq_some_iff.mp H
        obtain ⟨t785, A290, H⟩ := H
        replace H : (if t785 = true then ((qbt.f a2 0 4294967295).bind fun t786 => (if t786 = true then (if a2 = 0 then ((qbg.f kj12 a0 a1 a2 l3 l4).bind fun bt787 => (some (bt787.1, bt787.2.1, bt787.2.2.1, bt787.2.2.2.1, bt787.2.2.2.2, 0))) else (some ((⟨#[]⟩ : ByteArray), (⟨#[]⟩ : ByteArray), 0, ([] : List (S82)), 0, 4))) else (some ((⟨#[]⟩ : ByteArray), (⟨#[]⟩ : ByteArray), 0, ([] : List (S82)), 0, 4)))) else (some ((⟨#[]⟩ : ByteArray), (⟨#[]⟩ : ByteArray), 0, ([] : List (S82)), 0, 4))) = some (r1, r2, r3, r4, r5, r6) := H
        have A29 := Aside0.mk A290
        clear A290
        by_cases c30 : t785 = true
        ·subst c30
         have H1 : ((qbt.f a2 0 4294967295).bind fun t786 => (if t786 = true then (if a2 = 0 then ((qbg.f kj12 a0 a1 a2 l3 l4).bind fun bt787 => (some (bt787.1, bt787.2.1, bt787.2.2.1, bt787.2.2.2.1, bt787.2.2.2.2, 0))) else (some ((⟨#[]⟩ : ByteArray), (⟨#[]⟩ : ByteArray), 0, ([] : List (S82)), 0, 4))) else (some ((⟨#[]⟩ : ByteArray), (⟨#[]⟩ : ByteArray), 0, ([] : List (S82)), 0, 4)))) = some (r1, r2, r3, r4, r5, r6) := by rw [if_pos rfl] at H; exact H
         clear H
         have H := H1
         clear H1
         replace H := Option.bind_eq_some_iff.mp H
         obtain ⟨t786, A310, H⟩ := H
         replace H : (if t786 = true then (if a2 = 0 then ((qbg.f kj12 a0 a1 a2 l3 l4).bind fun bt787 => (some (bt787.1, bt787.2.1, bt787.2.2.1, bt787.2.2.2.1, bt787.2.2.2.2, 0))) else (some ((⟨#[]⟩ : ByteArray), (⟨#[]⟩ : ByteArray), 0, ([] : List (S82)), 0, 4))) else (some ((⟨#[]⟩ : ByteArray), (⟨#[]⟩ : ByteArray), 0, ([] : List (S82)), 0, 4))) = some (r1, r2, r3, r4, r5, r6) := H
         have A31 := Aside0.mk A310
         clear A310
         by_cases c32 : t786 = true
         ·subst c32
          have H1 : (if a2 = 0 then ((qbg.f kj12 a0 a1 a2 l3 l4).bind fun bt787 => (some (bt787.1, bt787.2.1, bt787.2.2.1, bt787.2.2.2.1, bt787.2.2.2.2, 0))) else (some ((⟨#[]⟩ : ByteArray), (⟨#[]⟩ : ByteArray), 0, ([] : List (S82)), 0, 4))) = some (r1, r2, r3, r4, r5, r6) := by rw [if_pos rfl] at H; exact H
          clear H
          have H := H1
          clear H1
          by_cases c33 : a2 = 0
          ·rw [if_pos c33] at H
           have c33b0 : (a2 == 0) = true := beq_iff_eq.mpr c33
           have c33b1 : (a2 != 0) = false := bne_eq_false_iff_eq.mpr c33
           clear c33
           replace H := Option.bind_eq_some_iff.mp H
           obtain ⟨⟨t787, t788, t789, t790, t793⟩, A340, H⟩ := H
           replace H : (some (t787, t788, t789, t790, t793, 0)) = some (r1, r2, r3, r4, r5, r6) := H
           have A34 := Aside0.mk A340
           clear A340
           simp only [Option.some.injEq, Prod.mk.injEq] at H
           obtain ⟨rfl, rfl, rfl, rfl, rfl, rfl⟩ := H
           go_wp2_with (first | (go_at_call 64; (with_reducible refine (qbd.calls kj12 a1 true _ A29.out).mono ?_); rintro e w' ⟨rfl, ⟨nd, rfl⟩⟩; (try (rw [qbG wc]; generalize hq_ : World.drewN wc _ = wc; have n0_ : Aside0 (wc.heap[gb782]? = some (.cells #[.string (⟨#[]⟩ : ByteArray), .string (⟨#[]⟩ : ByteArray), .int .i64 0, .slice none 0 0, .int .i64 0] 48 (0, 0))) := ⟨by rw [← hq_]; exact (by (with_reducible repeat (first | refine qag ?_ _ | refine qaj ?_ | refine qaf ?_ _)); exact BK782.out)⟩; have n1_ : Aside0 (Below w.heap.size w wc) := ⟨by rw [← hq_]; exact (by repeat (first | (with_reducible first | exact HB.out | apply qac | apply qaa | apply qab | refine qai ?_ GE782.out) | exact HB.out))⟩; clear BK782 HB hq_; have BK782 := n0_; have HB := n1_; clear n0_ n1_))) | (go_at_call 65; (with_reducible refine (qbt.calls a2 0 4294967295 true _ A31.out).mono ?_); rintro e w' ⟨rfl, ⟨nd, rfl⟩⟩; (try (rw [qbG wc]; generalize hq_ : World.drewN wc _ = wc; have n0_ : Aside0 (wc.heap[gb782]? = some (.cells #[.string (⟨#[]⟩ : ByteArray), .string (⟨#[]⟩ : ByteArray), .int .i64 0, .slice none 0 0, .int .i64 0] 48 (0, 0))) := ⟨by rw [← hq_]; exact (by (with_reducible repeat (first | refine qag ?_ _ | refine qaj ?_ | refine qaf ?_ _)); exact BK782.out)⟩; have n1_ : Aside0 (Below w.heap.size w wc) := ⟨by rw [← hq_]; exact (by repeat (first | (with_reducible first | exact HB.out | apply qac | apply qaa | apply qab | refine qai ?_ GE782.out) | exact HB.out))⟩; clear BK782 HB hq_; have BK782 := n0_; have HB := n1_; clear n0_ n1_))) | ((with_reducible refine qaz (f := 71) rfl ?_); refine qbf (some 80) rfl rfl Try.func71 (by kernel_rfl) rfl #[.string a0, .string a1, .int .i64 a2, .slice A3 l3.length c3, .slice A4 l4.length c4] rfl (by (try simp only [List.map_toArray, List.map_cons, List.map_nil]); first | done | rfl | (simp only [List.length_drop, List.length_take]; rfl)) ?_; (with_reducible refine (qbg.calls kj12 a0 a1 a2 _ _ l3 _ _ l4 t787 t788 t789 t790 t793 _ ?side1 ?side2 ?side3 ?side4 A34.out).mono ?_); (case side1 => repeat (first | exact (Kd.qa2 HR3.out HB.out) | (with_reducible refine Kd.qa7 ?_ _) | (with_reducible refine Kd.qa8 ?_ _) | (with_reducible refine Kd.qbm ?_))); (case side2 => exact HC3.out); (case side3 => repeat (first | exact (Kd.qa2 HR4.out HB.out) | (with_reducible refine Kd.qa7 ?_ _) | (with_reducible refine Kd.qa8 ?_ _) | (with_reducible refine Kd.qbm ?_))); (case side4 => exact HC4.out); rintro e w35 ⟨v791, rfl, ho0, hb⟩; refine ⟨_, rfl, ?_⟩; have n0_ := Aside0.mk (Kd.qbL ho0 (qau (by repeat (first | (with_reducible first | exact HB.out | apply qac | apply qaa | apply qab | refine qai ?_ GE782.out) | exact HB.out)))); have n1_ := Aside0.mk (qaB (g := gb782) (o := .cells #[.string (⟨#[]⟩ : ByteArray), .string (⟨#[]⟩ : ByteArray), .int .i64 0, .slice none 0 0, .int .i64 0] 48 (0, 0)) (by (with_reducible repeat (first | refine qag ?_ _ | refine qaj ?_ | refine qaf ?_ _)); exact BK782.out) hb); have n2_ := Aside0.mk (qak (by repeat (first | (with_reducible first | exact HB.out | apply qac | apply qaa | apply qab | refine qai ?_ GE782.out) | exact HB.out)) hb); clear BK782; clear HB; have HO792 := n0_; have BK782 := n1_; have HB := n2_; clear n0_ n1_ n2_; (try clear hb); (try clear hb2); (try clear hk); (try clear hi); (try clear ho0); have hcz36_0 : w35.cell? ⟨gb782, 0, none⟩ = some (.string (⟨#[]⟩ : ByteArray)) := (qah BK782.out 0).trans rfl; have hcz36_1 : w35.cell? ⟨gb782, 1, none⟩ = some (.string (⟨#[]⟩ : ByteArray)) := (qah BK782.out 1).trans rfl; have hcz36_2 : w35.cell? ⟨gb782, 2, none⟩ = some (.int .i64 0) := (qah BK782.out 2).trans rfl; have hcz36_3 : w35.cell? ⟨gb782, 3, none⟩ = some (.slice none 0 0) := (qah BK782.out 3).trans rfl; have hcz36_4 : w35.cell? ⟨gb782, 4, none⟩ = some (.int .i64 0) := (qah BK782.out 4).trans rfl; have hfz36_0 := qad BK782.out 0; have hfz36_1 := qad BK782.out 1; have hfz36_2 := qad BK782.out 2; have hfz36_3 := qad BK782.out 3; have hfz36_4 := qad BK782.out 4; obtain ⟨Ao37, co37, eo37⟩ := Kd.qbN HO792.out; subst eo37))
           refine bodyPost_ret (qbR rfl _ _ gb782 48 #[.string t787, .string t788, .int .i64 t789, .slice Ao37 t790.length co37, .int .i64 t793] (0, 0) _ rfl (by (with_reducible repeat (first | refine qag ?_ _ | refine qaj ?_ | refine qaf ?_ _)); refine qaI (cs := #[.string t787, .string t788, .int .i64 t789, .slice Ao37 t790.length co37, .int .i64 0]) ?_ 4 _ rfl; (with_reducible repeat (first | refine qag ?_ _ | refine qaj ?_ | refine qaf ?_ _)); refine qaI (cs := #[.string t787, .string t788, .int .i64 t789, .slice none 0 0, .int .i64 0]) ?_ 3 _ rfl; (with_reducible repeat (first | refine qag ?_ _ | refine qaj ?_ | refine qaf ?_ _)); refine qaI (cs := #[.string t787, .string t788, .int .i64 0, .slice none 0 0, .int .i64 0]) ?_ 2 _ rfl; (with_reducible repeat (first | refine qag ?_ _ | refine qaj ?_ | refine qaf ?_ _)); refine qaI (cs := #[.string t787, .string (⟨#[]⟩ : ByteArray), .int .i64 0, .slice none 0 0, .int .i64 0]) ?_ 1 _ rfl; (with_reducible repeat (first | refine qag ?_ _ | refine qaj ?_ | refine qaf ?_ _)); refine qaI (cs := #[.string (⟨#[]⟩ : ByteArray), .string (⟨#[]⟩ : ByteArray), .int .i64 0, .slice none 0 0, .int .i64 0]) ?_ 0 _ rfl; (with_reducible repeat (first | refine qag ?_ _ | refine qaj ?_ | refine qaf ?_ _)); exact BK782.out) Try.underlying48 rfl (by kernel_rfl)) rfl ?_
           exact ⟨_, by first | rfl | (simp [qam, qan] <;> rfl) | (simp [*, qam, qan] <;> rfl), by (with_reducible repeat (first | apply Kd.qar | apply Kd.qas | apply Kd.qax)); exact Kd.qbn (Kd.qa0 (p := ⟨gb782, 4, none⟩) (Kd.qa0 (p := ⟨gb782, 3, none⟩) (Kd.qa0 (p := ⟨gb782, 2, none⟩) (Kd.qa0 (p := ⟨gb782, 1, none⟩) (Kd.qa0 (p := ⟨gb782, 0, none⟩) (Kd.qbw HO792.out BK782.out (by decide)) (fun _ hk => hk.2) (.string t787)) (fun _ hk => hk.2) (.string t788)) (fun _ hk => hk.2) (.int .i64 t789)) (fun _ hk => hk.2) (.slice Ao37 t790.length co37)) (fun _ hk => hk.2) (.int .i64 t793)) (fun _ hk => trivial), by repeat (first | (with_reducible first | exact HB.out | apply qac | apply qaa | apply qab | refine qai ?_ GE782.out) | exact HB.out)⟩
          ·rw [if_neg c33] at H
           have c33b0 : (a2 == 0) = false := beq_eq_false_iff_ne.mpr c33
           have c33b1 : (a2 != 0) = true := bne_iff_ne.mpr c33
           simp only [Option.some.injEq, Prod.mk.injEq] at H
           obtain ⟨rfl, rfl, rfl, rfl, rfl, rfl⟩ := H
           go_wp2_with (first | (go_at_call 64; (with_reducible refine (qbd.calls kj12 a1 true _ A29.out).mono ?_); rintro e w' ⟨rfl, ⟨nd, rfl⟩⟩; (try (rw [qbG wc]; generalize hq_ : World.drewN wc _ = wc; have n0_ : Aside0 (wc.heap[gb782]? = some (.cells #[.string (⟨#[]⟩ : ByteArray), .string (⟨#[]⟩ : ByteArray), .int .i64 0, .slice none 0 0, .int .i64 0] 48 (0, 0))) := ⟨by rw [← hq_]; exact (by (with_reducible repeat (first | refine qag ?_ _ | refine qaj ?_ | refine qaf ?_ _)); exact BK782.out)⟩; have n1_ : Aside0 (Below w.heap.size w wc) := ⟨by rw [← hq_]; exact (by repeat (first | (with_reducible first | exact HB.out | apply qac | apply qaa | apply qab | refine qai ?_ GE782.out) | exact HB.out))⟩; clear BK782 HB hq_; have BK782 := n0_; have HB := n1_; clear n0_ n1_))) | (go_at_call 65; (with_reducible refine (qbt.calls a2 0 4294967295 true _ A31.out).mono ?_); rintro e w' ⟨rfl, ⟨nd, rfl⟩⟩; (try (rw [qbG wc]; generalize hq_ : World.drewN wc _ = wc; have n0_ : Aside0 (wc.heap[gb782]? = some (.cells #[.string (⟨#[]⟩ : ByteArray), .string (⟨#[]⟩ : ByteArray), .int .i64 0, .slice none 0 0, .int .i64 0] 48 (0, 0))) := ⟨by rw [← hq_]; exact (by (with_reducible repeat (first | refine qag ?_ _ | refine qaj ?_ | refine qaf ?_ _)); exact BK782.out)⟩; have n1_ : Aside0 (Below w.heap.size w wc) := ⟨by rw [← hq_]; exact (by repeat (first | (with_reducible first | exact HB.out | apply qac | apply qaa | apply qab | refine qai ?_ GE782.out) | exact HB.out))⟩; clear BK782 HB hq_; have BK782 := n0_; have HB := n1_; clear n0_ n1_)); have hcz38_0 : wc.cell? ⟨gb782, 0, none⟩ = some (.string (⟨#[]⟩ : ByteArray)) := (qah BK782.out 0).trans rfl; have hcz38_1 : wc.cell? ⟨gb782, 1, none⟩ = some (.string (⟨#[]⟩ : ByteArray)) := (qah BK782.out 1).trans rfl; have hcz38_2 : wc.cell? ⟨gb782, 2, none⟩ = some (.int .i64 0) := (qah BK782.out 2).trans rfl; have hcz38_3 : wc.cell? ⟨gb782, 3, none⟩ = some (.slice none 0 0) := (qah BK782.out 3).trans rfl; have hcz38_4 : wc.cell? ⟨gb782, 4, none⟩ = some (.int .i64 0) := (qah BK782.out 4).trans rfl; have hfz38_0 := qad BK782.out 0; have hfz38_1 := qad BK782.out 1; have hfz38_2 := qad BK782.out 2; have hfz38_3 := qad BK782.out 3; have hfz38_4 := qad BK782.out 4))
           refine bodyPost_ret (qbR rfl _ _ gb782 48 #[.string (⟨#[]⟩ : ByteArray), .string (⟨#[]⟩ : ByteArray), .int .i64 0, .slice none 0 0, .int .i64 0] (0, 0) _ rfl (by (with_reducible repeat (first | refine qag ?_ _ | refine qaj ?_ | refine qaf ?_ _)); refine qaI (cs := #[.string (⟨#[]⟩ : ByteArray), .string (⟨#[]⟩ : ByteArray), .int .i64 0, .slice none 0 0, .int .i64 0]) ?_ 4 _ rfl; (with_reducible repeat (first | refine qag ?_ _ | refine qaj ?_ | refine qaf ?_ _)); refine qaI (cs := #[.string (⟨#[]⟩ : ByteArray), .string (⟨#[]⟩ : ByteArray), .int .i64 0, .slice none 0 0, .int .i64 0]) ?_ 3 _ rfl; (with_reducible repeat (first | refine qag ?_ _ | refine qaj ?_ | refine qaf ?_ _)); refine qaI (cs := #[.string (⟨#[]⟩ : ByteArray), .string (⟨#[]⟩ : ByteArray), .int .i64 0, .slice none 0 0, .int .i64 0]) ?_ 2 _ rfl; (with_reducible repeat (first | refine qag ?_ _ | refine qaj ?_ | refine qaf ?_ _)); refine qaI (cs := #[.string (⟨#[]⟩ : ByteArray), .string (⟨#[]⟩ : ByteArray), .int .i64 0, .slice none 0 0, .int .i64 0]) ?_ 1 _ rfl; (with_reducible repeat (first | refine qag ?_ _ | refine qaj ?_ | refine qaf ?_ _)); refine qaI (cs := #[.string (⟨#[]⟩ : ByteArray), .string (⟨#[]⟩ : ByteArray), .int .i64 0, .slice none 0 0, .int .i64 0]) ?_ 0 _ rfl; (with_reducible repeat (first | refine qag ?_ _ | refine qaj ?_ | refine qaf ?_ _)); exact BK782.out) Try.underlying48 rfl (by kernel_rfl)) rfl ?_
           exact ⟨_, by first | rfl | (simp [qam, qan] <;> rfl) | (simp [*, qam, qan] <;> rfl), by first | exact Kd.qc0 _ _ _ _ _ | exact Kd.qdD _ _ _ _ _ | exact Kd.qdE _ _ _ _ _ | exact Kd.qdu _ _ _ _ _ | exact Kd.qdB _ _ _ _ _, by repeat (first | (with_reducible first | exact HB.out | apply qac | apply qaa | apply qab | refine qai ?_ GE782.out) | exact HB.out)⟩
         ·replace c32 := Bool.eq_false_iff.mpr c32
          subst c32
          have H1 : (some ((⟨#[]⟩ : ByteArray), (⟨#[]⟩ : ByteArray), 0, ([] : List (S82)), 0, 4)) = some (r1, r2, r3, r4, r5, r6) := by rw [if_neg (show ¬ (false = true) by decide)] at H; exact H
          clear H
          have H := H1
          clear H1
          simp only [Option.some.injEq, Prod.mk.injEq] at H
          obtain ⟨rfl, rfl, rfl, rfl, rfl, rfl⟩ := H
          go_wp2_with (first | (go_at_call 64; (with_reducible refine (qbd.calls kj12 a1 true _ A29.out).mono ?_); rintro e w' ⟨rfl, ⟨nd, rfl⟩⟩; (try (rw [qbG wc]; generalize hq_ : World.drewN wc _ = wc; have n0_ : Aside0 (wc.heap[gb782]? = some (.cells #[.string (⟨#[]⟩ : ByteArray), .string (⟨#[]⟩ : ByteArray), .int .i64 0, .slice none 0 0, .int .i64 0] 48 (0, 0))) := ⟨by rw [← hq_]; exact (by (with_reducible repeat (first | refine qag ?_ _ | refine qaj ?_ | refine qaf ?_ _)); exact BK782.out)⟩; have n1_ : Aside0 (Below w.heap.size w wc) := ⟨by rw [← hq_]; exact (by repeat (first | (with_reducible first | exact HB.out | apply qac | apply qaa | apply qab | refine qai ?_ GE782.out) | exact HB.out))⟩; clear BK782 HB hq_; have BK782 := n0_; have HB := n1_; clear n0_ n1_))) | (go_at_call 65; (with_reducible refine (qbt.calls a2 0 4294967295 false _ A31.out).mono ?_); rintro e w' ⟨rfl, ⟨nd, rfl⟩⟩; (try (rw [qbG wc]; generalize hq_ : World.drewN wc _ = wc; have n0_ : Aside0 (wc.heap[gb782]? = some (.cells #[.string (⟨#[]⟩ : ByteArray), .string (⟨#[]⟩ : ByteArray), .int .i64 0, .slice none 0 0, .int .i64 0] 48 (0, 0))) := ⟨by rw [← hq_]; exact (by (with_reducible repeat (first | refine qag ?_ _ | refine qaj ?_ | refine qaf ?_ _)); exact BK782.out)⟩; have n1_ : Aside0 (Below w.heap.size w wc) := ⟨by rw [← hq_]; exact (by repeat (first | (with_reducible first | exact HB.out | apply qac | apply qaa | apply qab | refine qai ?_ GE782.out) | exact HB.out))⟩; clear BK782 HB hq_; have BK782 := n0_; have HB := n1_; clear n0_ n1_)); have hcz39_0 : wc.cell? ⟨gb782, 0, none⟩ = some (.string (⟨#[]⟩ : ByteArray)) := (qah BK782.out 0).trans rfl; have hcz39_1 : wc.cell? ⟨gb782, 1, none⟩ = some (.string (⟨#[]⟩ : ByteArray)) := (qah BK782.out 1).trans rfl; have hcz39_2 : wc.cell? ⟨gb782, 2, none⟩ = some (.int .i64 0) := (qah BK782.out 2).trans rfl; have hcz39_3 : wc.cell? ⟨gb782, 3, none⟩ = some (.slice none 0 0) := (qah BK782.out 3).trans rfl; have hcz39_4 : wc.cell? ⟨gb782, 4, none⟩ = some (.int .i64 0) := (qah BK782.out 4).trans rfl; have hfz39_0 := qad BK782.out 0; have hfz39_1 := qad BK782.out 1; have hfz39_2 := qad BK782.out 2; have hfz39_3 := qad BK782.out 3; have hfz39_4 := qad BK782.out 4))
          refine bodyPost_ret (qbR rfl _ _ gb782 48 #[.string (⟨#[]⟩ : ByteArray), .string (⟨#[]⟩ : ByteArray), .int .i64 0, .slice none 0 0, .int .i64 0] (0, 0) _ rfl (by (with_reducible repeat (first | refine qag ?_ _ | refine qaj ?_ | refine qaf ?_ _)); refine qaI (cs := #[.string (⟨#[]⟩ : ByteArray), .string (⟨#[]⟩ : ByteArray), .int .i64 0, .slice none 0 0, .int .i64 0]) ?_ 4 _ rfl; (with_reducible repeat (first | refine qag ?_ _ | refine qaj ?_ | refine qaf ?_ _)); refine qaI (cs := #[.string (⟨#[]⟩ : ByteArray), .string (⟨#[]⟩ : ByteArray), .int .i64 0, .slice none 0 0, .int .i64 0]) ?_ 3 _ rfl; (with_reducible repeat (first | refine qag ?_ _ | refine qaj ?_ | refine qaf ?_ _)); refine qaI (cs := #[.string (⟨#[]⟩ : ByteArray), .string (⟨#[]⟩ : ByteArray), .int .i64 0, .slice none 0 0, .int .i64 0]) ?_ 2 _ rfl; (with_reducible repeat (first | refine qag ?_ _ | refine qaj ?_ | refine qaf ?_ _)); refine qaI (cs := #[.string (⟨#[]⟩ : ByteArray), .string (⟨#[]⟩ : ByteArray), .int .i64 0, .slice none 0 0, .int .i64 0]) ?_ 1 _ rfl; (with_reducible repeat (first | refine qag ?_ _ | refine qaj ?_ | refine qaf ?_ _)); refine qaI (cs := #[.string (⟨#[]⟩ : ByteArray), .string (⟨#[]⟩ : ByteArray), .int .i64 0, .slice none 0 0, .int .i64 0]) ?_ 0 _ rfl; (with_reducible repeat (first | refine qag ?_ _ | refine qaj ?_ | refine qaf ?_ _)); exact BK782.out) Try.underlying48 rfl (by kernel_rfl)) rfl ?_
          exact ⟨_, by first | rfl | (simp [qam, qan] <;> rfl) | (simp [*, qam, qan] <;> rfl), by first | exact Kd.qc0 _ _ _ _ _ | exact Kd.qdD _ _ _ _ _ | exact Kd.qdE _ _ _ _ _ | exact Kd.qdu _ _ _ _ _ | exact Kd.qdB _ _ _ _ _, by repeat (first | (with_reducible first | exact HB.out | apply qac | apply qaa | apply qab | refine qai ?_ GE782.out) | exact HB.out)⟩
        ·replace c30 := Bool.eq_false_iff.mpr c30
         subst c30
         have H1 : (some ((⟨#[]⟩ : ByteArray), (⟨#[]⟩ : ByteArray), 0, ([] : List (S82)), 0, 4)) = some (r1, r2, r3, r4, r5, r6) := by rw [if_neg (show ¬ (false = true) by decide)] at H; exact H
         clear H
         have H := H1
         clear H1
         simp only [Option.some.injEq, Prod.mk.injEq] at H
         obtain ⟨rfl, rfl, rfl, rfl, rfl, rfl⟩ := H
         go_wp2_with (first | (go_at_call 64; (with_reducible refine (qbd.calls kj12 a1 false _ A29.out).mono ?_); rintro e w' ⟨rfl, ⟨nd, rfl⟩⟩; (try (rw [qbG wc]; generalize hq_ : World.drewN wc _ = wc; have n0_ : Aside0 (wc.heap[gb782]? = some (.cells #[.string (⟨#[]⟩ : ByteArray), .string (⟨#[]⟩ : ByteArray), .int .i64 0, .slice none 0 0, .int .i64 0] 48 (0, 0))) := ⟨by rw [← hq_]; exact (by (with_reducible repeat (first | refine qag ?_ _ | refine qaj ?_ | refine qaf ?_ _)); exact BK782.out)⟩; have n1_ : Aside0 (Below w.heap.size w wc) := ⟨by rw [← hq_]; exact (by repeat (first | (with_reducible first | exact HB.out | apply qac | apply qaa | apply qab | refine qai ?_ GE782.out) | exact HB.out))⟩; clear BK782 HB hq_; have BK782 := n0_; have HB := n1_; clear n0_ n1_)); have hcz40_0 : wc.cell? ⟨gb782, 0, none⟩ = some (.string (⟨#[]⟩ : ByteArray)) := (qah BK782.out 0).trans rfl; have hcz40_1 : wc.cell? ⟨gb782, 1, none⟩ = some (.string (⟨#[]⟩ : ByteArray)) := (qah BK782.out 1).trans rfl; have hcz40_2 : wc.cell? ⟨gb782, 2, none⟩ = some (.int .i64 0) := (qah BK782.out 2).trans rfl; have hcz40_3 : wc.cell? ⟨gb782, 3, none⟩ = some (.slice none 0 0) := (qah BK782.out 3).trans rfl; have hcz40_4 : wc.cell? ⟨gb782, 4, none⟩ = some (.int .i64 0) := (qah BK782.out 4).trans rfl; have hfz40_0 := qad BK782.out 0; have hfz40_1 := qad BK782.out 1; have hfz40_2 := qad BK782.out 2; have hfz40_3 := qad BK782.out 3; have hfz40_4 := qad BK782.out 4))
         refine bodyPost_ret (qbR rfl _ _ gb782 48 #[.string (⟨#[]⟩ : ByteArray), .string (⟨#[]⟩ : ByteArray), .int .i64 0, .slice none 0 0, .int .i64 0] (0, 0) _ rfl (by (with_reducible repeat (first | refine qag ?_ _ | refine qaj ?_ | refine qaf ?_ _)); refine qaI (cs := #[.string (⟨#[]⟩ : ByteArray), .string (⟨#[]⟩ : ByteArray), .int .i64 0, .slice none 0 0, .int .i64 0]) ?_ 4 _ rfl; (with_reducible repeat (first | refine qag ?_ _ | refine qaj ?_ | refine qaf ?_ _)); refine qaI (cs := #[.string (⟨#[]⟩ : ByteArray), .string (⟨#[]⟩ : ByteArray), .int .i64 0, .slice none 0 0, .int .i64 0]) ?_ 3 _ rfl; (with_reducible repeat (first | refine qag ?_ _ | refine qaj ?_ | refine qaf ?_ _)); refine qaI (cs := #[.string (⟨#[]⟩ : ByteArray), .string (⟨#[]⟩ : ByteArray), .int .i64 0, .slice none 0 0, .int .i64 0]) ?_ 2 _ rfl; (with_reducible repeat (first | refine qag ?_ _ | refine qaj ?_ | refine qaf ?_ _)); refine qaI (cs := #[.string (⟨#[]⟩ : ByteArray), .string (⟨#[]⟩ : ByteArray), .int .i64 0, .slice none 0 0, .int .i64 0]) ?_ 1 _ rfl; (with_reducible repeat (first | refine qag ?_ _ | refine qaj ?_ | refine qaf ?_ _)); refine qaI (cs := #[.string (⟨#[]⟩ : ByteArray), .string (⟨#[]⟩ : ByteArray), .int .i64 0, .slice none 0 0, .int .i64 0]) ?_ 0 _ rfl; (with_reducible repeat (first | refine qag ?_ _ | refine qaj ?_ | refine qaf ?_ _)); exact BK782.out) Try.underlying48 rfl (by kernel_rfl)) rfl ?_
         exact ⟨_, by first | rfl | (simp [qam, qan] <;> rfl) | (simp [*, qam, qan] <;> rfl), by first | exact Kd.qc0 _ _ _ _ _ | exact Kd.qdD _ _ _ _ _ | exact Kd.qdE _ _ _ _ _ | exact Kd.qdu _ _ _ _ _ | exact Kd.qdB _ _ _ _ _, by repeat (first | (with_reducible first | exact HB.out | apply qac | apply qaa | apply qab | refine qai ?_ GE782.out) | exact HB.out)⟩
       ·rw [if_neg c28] at H
        have c28b0 : (a0.toList == ([] : List UInt8)) = false := beq_eq_false_iff_ne.mpr c28
        have c28b1 : (a0.toList != ([] : List UInt8)) = true := bne_iff_ne.mpr c28
        replace H := Option.bind_eq_some_iff.mp H
        obtain ⟨t794, A410, H⟩ := H
        replace H : (if t794 = true then ((qbd.f kj12 a1).bind fun t795 => (if t795 = true then ((qbt.f a2 0 4294967295).bind fun t796 => (if t796 = true then ((qbg.f kj12 a0 a1 a2 l3 l4).bind fun bt797 => (some (bt797.1, bt797.2.1, bt797.2.2.1, bt797.2.2.2.1, bt797.2.2.2.2, 0))) else (some ((⟨#[]⟩ : ByteArray), (⟨#[]⟩ : ByteArray), 0, ([] : List (S82)), 0, 4)))) else (some ((⟨#[]⟩ : ByteArray), (⟨#[]⟩ : ByteArray), 0, ([] : List (S82)), 0, 4)))) else (some ((⟨#[]⟩ : ByteArray), (⟨#[]⟩ : ByteArray), 0, ([] : List (S82)), 0, 4))) = some (r1, r2, r3, r4, r5, r6) := H
        have A41 := Aside0.mk A410
        clear A410
        by_cases c42 : t794 = true
        ·subst c42
         have H1 : ((qbd.f kj12 a1).bind fun t795 => (if t795 = true then ((qbt.f a2 0 4294967295).bind fun t796 => (if t796 = true then ((qbg.f kj12 a0 a1 a2 l3 l4).bind fun bt797 => (some (bt797.1, bt797.2.1, bt797.2.2.1, bt797.2.2.2.1, bt797.2.2.2.2, 0))) else (some ((⟨#[]⟩ : ByteArray), (⟨#[]⟩ : ByteArray), 0, ([] : List (S82)), 0, 4)))) else (some ((⟨#[]⟩ : ByteArray), (⟨#[]⟩ : ByteArray), 0, ([] : List (S82)), 0, 4)))) = some (r1, r2, r3, r4, r5, r6) := by rw [if_pos rfl] at H; exact H
         clear H
         have H := H1
         clear H1
         replace H := Option.bind_eq_some_iff.mp H
         obtain ⟨t795, A430, H⟩ := H
         replace H : (if t795 = true then ((qbt.f a2 0 4294967295).bind fun t796 => (if t796 = true then ((qbg.f kj12 a0 a1 a2 l3 l4).bind fun bt797 => (some (bt797.1, bt797.2.1, bt797.2.2.1, bt797.2.2.2.1, bt797.2.2.2.2, 0))) else (some ((⟨#[]⟩ : ByteArray), (⟨#[]⟩ : ByteArray), 0, ([] : List (S82)), 0, 4)))) else (some ((⟨#[]⟩ : ByteArray), (⟨#[]⟩ : ByteArray), 0, ([] : List (S82)), 0, 4))) = some (r1, r2, r3, r4, r5, r6) := H
         have A43 := Aside0.mk A430
         clear A430
         by_cases c44 : t795 = true
         ·subst c44
          have H1 : ((qbt.f a2 0 4294967295).bind fun t796 => (if t796 = true then ((qbg.f kj12 a0 a1 a2 l3 l4).bind fun bt797 => (some (bt797.1, bt797.2.1, bt797.2.2.1, bt797.2.2.2.1, bt797.2.2.2.2, 0))) else (some ((⟨#[]⟩ : ByteArray), (⟨#[]⟩ : ByteArray), 0, ([] : List (S82)), 0, 4)))) = some (r1, r2, r3, r4, r5, r6) := by rw [if_pos rfl] at H; exact H
          clear H
          have H := H1
          clear H1
          replace H := Option.bind_eq_some_iff.mp H
          obtain ⟨t796, A450, H⟩ := H
          replace H : (if t796 = true then ((qbg.f kj12 a0 a1 a2 l3 l4).bind fun bt797 => (some (bt797.1, bt797.2.1, bt797.2.2.1, bt797.2.2.2.1, bt797.2.2.2.2, 0))) else (some ((⟨#[]⟩ : ByteArray), (⟨#[]⟩ : ByteArray), 0, ([] : List (S82)), 0, 4))) = some (r1, r2, r3, r4, r5, r6) := H
          have A45 := Aside0.mk A450
          clear A450
          by_cases c46 : t796 = true
          ·subst c46
           have H1 : ((qbg.f kj12 a0 a1 a2 l3 l4).bind fun bt797 => (some (bt797.1, bt797.2.1, bt797.2.2.1, bt797.2.2.2.1, bt797.2.2.2.2, 0))) = some (r1, r2, r3, r4, r5, r6) := by rw [if_pos rfl] at H; exact H
           clear H
           have H := H1
           clear H1
           replace H := Option.bind_eq_some_iff.mp H
           obtain ⟨⟨t797, t798, t799, t800, t803⟩, A470, H⟩ := H
           replace H : (some (t797, t798, t799, t800, t803, 0)) = some (r1, r2, r3, r4, r5, r6) := H
           have A47 := Aside0.mk A470
           clear A470
           simp only [Option.some.injEq, Prod.mk.injEq] at H
           obtain ⟨rfl, rfl, rfl, rfl, rfl, rfl⟩ := H
           go_wp2_with (first | (go_at_call 64; (with_reducible refine (qbd.calls kj12 a0 true _ A41.out).mono ?_); rintro e w' ⟨rfl, ⟨nd, rfl⟩⟩; (try (rw [qbG wc]; generalize hq_ : World.drewN wc _ = wc; have n0_ : Aside0 (wc.heap[gb782]? = some (.cells #[.string (⟨#[]⟩ : ByteArray), .string (⟨#[]⟩ : ByteArray), .int .i64 0, .slice none 0 0, .int .i64 0] 48 (0, 0))) := ⟨by rw [← hq_]; exact (by (with_reducible repeat (first | refine qag ?_ _ | refine qaj ?_ | refine qaf ?_ _)); exact BK782.out)⟩; have n1_ : Aside0 (Below w.heap.size w wc) := ⟨by rw [← hq_]; exact (by repeat (first | (with_reducible first | exact HB.out | apply qac | apply qaa | apply qab | refine qai ?_ GE782.out) | exact HB.out))⟩; clear BK782 HB hq_; have BK782 := n0_; have HB := n1_; clear n0_ n1_))) | (go_at_call 64; (with_reducible refine (qbd.calls kj12 a1 true _ A43.out).mono ?_); rintro e w' ⟨rfl, ⟨nd, rfl⟩⟩; (try (rw [qbG wc]; generalize hq_ : World.drewN wc _ = wc; have n0_ : Aside0 (wc.heap[gb782]? = some (.cells #[.string (⟨#[]⟩ : ByteArray), .string (⟨#[]⟩ : ByteArray), .int .i64 0, .slice none 0 0, .int .i64 0] 48 (0, 0))) := ⟨by rw [← hq_]; exact (by (with_reducible repeat (first | refine qag ?_ _ | refine qaj ?_ | refine qaf ?_ _)); exact BK782.out)⟩; have n1_ : Aside0 (Below w.heap.size w wc) := ⟨by rw [← hq_]; exact (by repeat (first | (with_reducible first | exact HB.out | apply qac | apply qaa | apply qab | refine qai ?_ GE782.out) | exact HB.out))⟩; clear BK782 HB hq_; have BK782 := n0_; have HB := n1_; clear n0_ n1_))) | (go_at_call 65; (with_reducible refine (qbt.calls a2 0 4294967295 true _ A45.out).mono ?_); rintro e w' ⟨rfl, ⟨nd, rfl⟩⟩; (try (rw [qbG wc]; generalize hq_ : World.drewN wc _ = wc; have n0_ : Aside0 (wc.heap[gb782]? = some (.cells #[.string (⟨#[]⟩ : ByteArray), .string (⟨#[]⟩ : ByteArray), .int .i64 0, .slice none 0 0, .int .i64 0] 48 (0, 0))) := ⟨by rw [← hq_]; exact (by (with_reducible repeat (first | refine qag ?_ _ | refine qaj ?_ | refine qaf ?_ _)); exact BK782.out)⟩; have n1_ : Aside0 (Below w.heap.size w wc) := ⟨by rw [← hq_]; exact (by repeat (first | (with_reducible first | exact HB.out | apply qac | apply qaa | apply qab | refine qai ?_ GE782.out) | exact HB.out))⟩; clear BK782 HB hq_; have BK782 := n0_; have HB := n1_; clear n0_ n1_))) | ((with_reducible refine qaz (f := 71) rfl ?_); refine qbf (some 80) rfl rfl Try.func71 (by kernel_rfl) rfl #[.string a0, .string a1, .int .i64 a2, .slice A3 l3.length c3, .slice A4 l4.length c4] rfl (by (try simp only [List.map_toArray, List.map_cons, List.map_nil]); first | done | rfl | (simp only [List.length_drop, List.length_take]; rfl)) ?_; (with_reducible refine (qbg.calls kj12 a0 a1 a2 _ _ l3 _ _ l4 t797 t798 t799 t800 t803 _ ?side1 ?side2 ?side3 ?side4 A47.out).mono ?_); (case side1 => repeat (first | exact (Kd.qa2 HR3.out HB.out) | (with_reducible refine Kd.qa7 ?_ _) | (with_reducible refine Kd.qa8 ?_ _) | (with_reducible refine Kd.qbm ?_))); (case side2 => exact HC3.out); (case side3 => repeat (first | exact (Kd.qa2 HR4.out HB.out) | (with_reducible refine Kd.qa7 ?_ _) | (with_reducible refine Kd.qa8 ?_ _) | (with_reducible refine Kd.qbm ?_))); (case side4 => exact HC4.out); rintro e w48 ⟨v801, rfl, ho0, hb⟩; refine ⟨_, rfl, ?_⟩; have n0_ := Aside0.mk (Kd.qbL ho0 (qau (by repeat (first | (with_reducible first | exact HB.out | apply qac | apply qaa | apply qab | refine qai ?_ GE782.out) | exact HB.out)))); have n1_ := Aside0.mk (qaB (g := gb782) (o := .cells #[.string (⟨#[]⟩ : ByteArray), .string (⟨#[]⟩ : ByteArray), .int .i64 0, .slice none 0 0, .int .i64 0] 48 (0, 0)) (by (with_reducible repeat (first | refine qag ?_ _ | refine qaj ?_ | refine qaf ?_ _)); exact BK782.out) hb); have n2_ := Aside0.mk (qak (by repeat (first | (with_reducible first | exact HB.out | apply qac | apply qaa | apply qab | refine qai ?_ GE782.out) | exact HB.out)) hb); clear BK782; clear HB; have HO802 := n0_; have BK782 := n1_; have HB := n2_; clear n0_ n1_ n2_; (try clear hb); (try clear hb2); (try clear hk); (try clear hi); (try clear ho0); have hcz49_0 : w48.cell? ⟨gb782, 0, none⟩ = some (.string (⟨#[]⟩ : ByteArray)) := (qah BK782.out 0).trans rfl; have hcz49_1 : w48.cell? ⟨gb782, 1, none⟩ = some (.string (⟨#[]⟩ : ByteArray)) := (qah BK782.out 1).trans rfl; have hcz49_2 : w48.cell? ⟨gb782, 2, none⟩ = some (.int .i64 0) := (qah BK782.out 2).trans rfl; have hcz49_3 : w48.cell? ⟨gb782, 3, none⟩ = some (.slice none 0 0) := (qah BK782.out 3).trans rfl; have hcz49_4 : w48.cell? ⟨gb782, 4, none⟩ = some (.int .i64 0) := (qah BK782.out 4).trans rfl; have hfz49_0 := qad BK782.out 0; have hfz49_1 := qad BK782.out 1; have hfz49_2 := qad BK782.out 2; have hfz49_3 := qad BK782.out 3; have hfz49_4 := qad BK782.out 4; obtain ⟨Ao50, co50, eo50⟩ := Kd.qbN HO802.out; subst eo50))
           refine bodyPost_ret (qbR rfl _ _ gb782 48 #[.string t797, .string t798, .int .i64 t799, .slice Ao50 t800.length co50, .int .i64 t803] (0, 0) _ rfl (by (with_reducible repeat (first | refine qag ?_ _ | refine qaj ?_ | refine qaf ?_ _)); refine qaI (cs := #[.string t797, .string t798, .int .i64 t799, .slice Ao50 t800.length co50, .int .i64 0]) ?_ 4 _ rfl; (with_reducible repeat (first | refine qag ?_ _ | refine qaj ?_ | refine qaf ?_ _)); refine qaI (cs := #[.string t797, .string t798, .int .i64 t799, .slice none 0 0, .int .i64 0]) ?_ 3 _ rfl; (with_reducible repeat (first | refine qag ?_ _ | refine qaj ?_ | refine qaf ?_ _)); refine qaI (cs := #[.string t797, .string t798, .int .i64 0, .slice none 0 0, .int .i64 0]) ?_ 2 _ rfl; (with_reducible repeat (first | refine qag ?_ _ | refine qaj ?_ | refine qaf ?_ _)); refine qaI (cs := #[.string t797, .string (⟨#[]⟩ : ByteArray), .int .i64 0, .slice none 0 0, .int .i64 0]) ?_ 1 _ rfl; (with_reducible repeat (first | refine qag ?_ _ | refine qaj ?_ | refine qaf ?_ _)); refine qaI (cs := #[.string (⟨#[]⟩ : ByteArray), .string (⟨#[]⟩ : ByteArray), .int .i64 0, .slice none 0 0, .int .i64 0]) ?_ 0 _ rfl; (with_reducible repeat (first | refine qag ?_ _ | refine qaj ?_ | refine qaf ?_ _)); exact BK782.out) Try.underlying48 rfl (by kernel_rfl)) rfl ?_
           exact ⟨_, by first | rfl | (simp [qam, qan] <;> rfl) | (simp [*, qam, qan] <;> rfl), by (with_reducible repeat (first | apply Kd.qar | apply Kd.qas | apply Kd.qax)); exact Kd.qbn (Kd.qa0 (p := ⟨gb782, 4, none⟩) (Kd.qa0 (p := ⟨gb782, 3, none⟩) (Kd.qa0 (p := ⟨gb782, 2, none⟩) (Kd.qa0 (p := ⟨gb782, 1, none⟩) (Kd.qa0 (p := ⟨gb782, 0, none⟩) (Kd.qbw HO802.out BK782.out (by decide)) (fun _ hk => hk.2) (.string t797)) (fun _ hk => hk.2) (.string t798)) (fun _ hk => hk.2) (.int .i64 t799)) (fun _ hk => hk.2) (.slice Ao50 t800.length co50)) (fun _ hk => hk.2) (.int .i64 t803)) (fun _ hk => trivial), by repeat (first | (with_reducible first | exact HB.out | apply qac | apply qaa | apply qab | refine qai ?_ GE782.out) | exact HB.out)⟩
          ·replace c46 := Bool.eq_false_iff.mpr c46
           subst c46
           have H1 : (some ((⟨#[]⟩ : ByteArray), (⟨#[]⟩ : ByteArray), 0, ([] : List (S82)), 0, 4)) = some (r1, r2, r3, r4, r5, r6) := by rw [if_neg (show ¬ (false = true) by decide)] at H; exact H
           clear H
           have H := H1
           clear H1
           simp only [Option.some.injEq, Prod.mk.injEq] at H
           obtain ⟨rfl, rfl, rfl, rfl, rfl, rfl⟩ := H
           go_wp2_with (first | (go_at_call 64; (with_reducible refine (qbd.calls kj12 a0 true _ A41.out).mono ?_); rintro e w' ⟨rfl, ⟨nd, rfl⟩⟩; (try (rw [qbG wc]; generalize hq_ : World.drewN wc _ = wc; have n0_ : Aside0 (wc.heap[gb782]? = some (.cells #[.string (⟨#[]⟩ : ByteArray), .string (⟨#[]⟩ : ByteArray), .int .i64 0, .slice none 0 0, .int .i64 0] 48 (0, 0))) := ⟨by rw [← hq_]; exact (by (with_reducible repeat (first | refine qag ?_ _ | refine qaj ?_ | refine qaf ?_ _)); exact BK782.out)⟩; have n1_ : Aside0 (Below w.heap.size w wc) := ⟨by rw [← hq_]; exact (by repeat (first | (with_reducible first | exact HB.out | apply qac | apply qaa | apply qab | refine qai ?_ GE782.out) | exact HB.out))⟩; clear BK782 HB hq_; have BK782 := n0_; have HB := n1_; clear n0_ n1_))) | (go_at_call 64; (with_reducible refine (qbd.calls kj12 a1 true _ A43.out).mono ?_); rintro e w' ⟨rfl, ⟨nd, rfl⟩⟩; (try (rw [qbG wc]; generalize hq_ : World.drewN wc _ = wc; have n0_ : Aside0 (wc.heap[gb782]? = some (.cells #[.string (⟨#[]⟩ : ByteArray), .string (⟨#[]⟩ : ByteArray), .int .i64 0, .slice none 0 0, .int .i64 0] 48 (0, 0))) := ⟨by rw [← hq_]; exact (by (with_reducible repeat (first | refine qag ?_ _ | refine qaj ?_ | refine qaf ?_ _)); exact BK782.out)⟩; have n1_ : Aside0 (Below w.heap.size w wc) := ⟨by rw [← hq_]; exact (by repeat (first | (with_reducible first | exact HB.out | apply qac | apply qaa | apply qab | refine qai ?_ GE782.out) | exact HB.out))⟩; clear BK782 HB hq_; have BK782 := n0_; have HB := n1_; clear n0_ n1_))) | (go_at_call 65; (with_reducible refine (qbt.calls a2 0 4294967295 false _ A45.out).mono ?_); rintro e w' ⟨rfl, ⟨nd, rfl⟩⟩; (try (rw [qbG wc]; generalize hq_ : World.drewN wc _ = wc; have n0_ : Aside0 (wc.heap[gb782]? = some (.cells #[.string (⟨#[]⟩ : ByteArray), .string (⟨#[]⟩ : ByteArray), .int .i64 0, .slice none 0 0, .int .i64 0] 48 (0, 0))) := ⟨by rw [← hq_]; exact (by (with_reducible repeat (first | refine qag ?_ _ | refine qaj ?_ | refine qaf ?_ _)); exact BK782.out)⟩; have n1_ : Aside0 (Below w.heap.size w wc) := ⟨by rw [← hq_]; exact (by repeat (first | (with_reducible first | exact HB.out | apply qac | apply qaa | apply qab | refine qai ?_ GE782.out) | exact HB.out))⟩; clear BK782 HB hq_; have BK782 := n0_; have HB := n1_; clear n0_ n1_)); have hcz51_0 : wc.cell? ⟨gb782, 0, none⟩ = some (.string (⟨#[]⟩ : ByteArray)) := (qah BK782.out 0).trans rfl; have hcz51_1 : wc.cell? ⟨gb782, 1, none⟩ = some (.string (⟨#[]⟩ : ByteArray)) := (qah BK782.out 1).trans rfl; have hcz51_2 : wc.cell? ⟨gb782, 2, none⟩ = some (.int .i64 0) := (qah BK782.out 2).trans rfl; have hcz51_3 : wc.cell? ⟨gb782, 3, none⟩ = some (.slice none 0 0) := (qah BK782.out 3).trans rfl; have hcz51_4 : wc.cell? ⟨gb782, 4, none⟩ = some (.int .i64 0) := (qah BK782.out 4).trans rfl; have hfz51_0 := qad BK782.out 0; have hfz51_1 := qad BK782.out 1; have hfz51_2 := qad BK782.out 2; have hfz51_3 := qad BK782.out 3; have hfz51_4 := qad BK782.out 4))
           refine bodyPost_ret (qbR rfl _ _ gb782 48 #[.string (⟨#[]⟩ : ByteArray), .string (⟨#[]⟩ : ByteArray), .int .i64 0, .slice none 0 0, .int .i64 0] (0, 0) _ rfl (by (with_reducible repeat (first | refine qag ?_ _ | refine qaj ?_ | refine qaf ?_ _)); refine qaI (cs := #[.string (⟨#[]⟩ : ByteArray), .string (⟨#[]⟩ : ByteArray), .int .i64 0, .slice none 0 0, .int .i64 0]) ?_ 4 _ rfl; (with_reducible repeat (first | refine qag ?_ _ | refine qaj ?_ | refine qaf ?_ _)); refine qaI (cs := #[.string (⟨#[]⟩ : ByteArray), .string (⟨#[]⟩ : ByteArray), .int .i64 0, .slice none 0 0, .int .i64 0]) ?_ 3 _ rfl; (with_reducible repeat (first | refine qag ?_ _ | refine qaj ?_ | refine qaf ?_ _)); refine qaI (cs := #[.string (⟨#[]⟩ : ByteArray), .string (⟨#[]⟩ : ByteArray), .int .i64 0, .slice none 0 0, .int .i64 0]) ?_ 2 _ rfl; (with_reducible repeat (first | refine qag ?_ _ | refine qaj ?_ | refine qaf ?_ _)); refine qaI (cs := #[.string (⟨#[]⟩ : ByteArray), .string (⟨#[]⟩ : ByteArray), .int .i64 0, .slice none 0 0, .int .i64 0]) ?_ 1 _ rfl; (with_reducible repeat (first | refine qag ?_ _ | refine qaj ?_ | refine qaf ?_ _)); refine qaI (cs := #[.string (⟨#[]⟩ : ByteArray), .string (⟨#[]⟩ : ByteArray), .int .i64 0, .slice none 0 0, .int .i64 0]) ?_ 0 _ rfl; (with_reducible repeat (first | refine qag ?_ _ | refine qaj ?_ | refine qaf ?_ _)); exact BK782.out) Try.underlying48 rfl (by kernel_rfl)) rfl ?_
           exact ⟨_, by first | rfl | (simp [qam, qan] <;> rfl) | (simp [*, qam, qan] <;> rfl), by first | exact Kd.qc0 _ _ _ _ _ | exact Kd.qdD _ _ _ _ _ | exact Kd.qdE _ _ _ _ _ | exact Kd.qdu _ _ _ _ _ | exact Kd.qdB _ _ _ _ _, by repeat (first | (with_reducible first | exact HB.out | apply qac | apply qaa | apply qab | refine qai ?_ GE782.out) | exact HB.out)⟩
         ·replace c44 := Bool.eq_false_iff.mpr c44
          subst c44
          have H1 : (some ((⟨#[]⟩ : ByteArray), (⟨#[]⟩ : ByteArray), 0, ([] : List (S82)), 0, 4)) = some (r1, r2, r3, r4, r5, r6) := by rw [if_neg (show ¬ (false = true) by decide)] at H; exact H
          clear H
          have H := H1
          clear H1
          simp only [Option.some.injEq, Prod.mk.injEq] at H
          obtain ⟨rfl, rfl, rfl, rfl, rfl, rfl⟩ := H
          go_wp2_with (first | (go_at_call 64; (with_reducible refine (qbd.calls kj12 a0 true _ A41.out).mono ?_); rintro e w' ⟨rfl, ⟨nd, rfl⟩⟩; (try (rw [qbG wc]; generalize hq_ : World.drewN wc _ = wc; have n0_ : Aside0 (wc.heap[gb782]? = some (.cells #[.string (⟨#[]⟩ : ByteArray), .string (⟨#[]⟩ : ByteArray), .int .i64 0, .slice none 0 0, .int .i64 0] 48 (0, 0))) := ⟨by rw [← hq_]; exact (by (with_reducible repeat (first | refine qag ?_ _ | refine qaj ?_ | refine qaf ?_ _)); exact BK782.out)⟩; have n1_ : Aside0 (Below w.heap.size w wc) := ⟨by rw [← hq_]; exact (by repeat (first | (with_reducible first | exact HB.out | apply qac | apply qaa | apply qab | refine qai ?_ GE782.out) | exact HB.out))⟩; clear BK782 HB hq_; have BK782 := n0_; have HB := n1_; clear n0_ n1_))) | (go_at_call 64; (with_reducible refine (qbd.calls kj12 a1 false _ A43.out).mono ?_); rintro e w' ⟨rfl, ⟨nd, rfl⟩⟩; (try (rw [qbG wc]; generalize hq_ : World.drewN wc _ = wc; have n0_ : Aside0 (wc.heap[gb782]? = some (.cells #[.string (⟨#[]⟩ : ByteArray), .string (⟨#[]⟩ : ByteArray), .int .i64 0, .slice none 0 0, .int .i64 0] 48 (0, 0))) := ⟨by rw [← hq_]; exact (by (with_reducible repeat (first | refine qag ?_ _ | refine qaj ?_ | refine qaf ?_ _)); exact BK782.out)⟩; have n1_ : Aside0 (Below w.heap.size w wc) := ⟨by rw [← hq_]; exact (by repeat (first | (with_reducible first | exact HB.out | apply qac | apply qaa | apply qab | refine qai ?_ GE782.out) | exact HB.out))⟩; clear BK782 HB hq_; have BK782 := n0_; have HB := n1_; clear n0_ n1_)); have hcz52_0 : wc.cell? ⟨gb782, 0, none⟩ = some (.string (⟨#[]⟩ : ByteArray)) := (qah BK782.out 0).trans rfl; have hcz52_1 : wc.cell? ⟨gb782, 1, none⟩ = some (.string (⟨#[]⟩ : ByteArray)) := (qah BK782.out 1).trans rfl; have hcz52_2 : wc.cell? ⟨gb782, 2, none⟩ = some (.int .i64 0) := (qah BK782.out 2).trans rfl; have hcz52_3 : wc.cell? ⟨gb782, 3, none⟩ = some (.slice none 0 0) := (qah BK782.out 3).trans rfl; have hcz52_4 : wc.cell? ⟨gb782, 4, none⟩ = some (.int .i64 0) := (qah BK782.out 4).trans rfl; have hfz52_0 := qad BK782.out 0; have hfz52_1 := qad BK782.out 1; have hfz52_2 := qad BK782.out 2; have hfz52_3 := qad BK782.out 3; have hfz52_4 := qad BK782.out 4))
          refine bodyPost_ret (qbR rfl _ _ gb782 48 #[.string (⟨#[]⟩ : ByteArray), .string (⟨#[]⟩ : ByteArray), .int .i64 0, .slice none 0 0, .int .i64 0] (0, 0) _ rfl (by (with_reducible repeat (first | refine qag ?_ _ | refine qaj ?_ | refine qaf ?_ _)); refine qaI (cs := #[.string (⟨#[]⟩ : ByteArray), .string (⟨#[]⟩ : ByteArray), .int .i64 0, .slice none 0 0, .int .i64 0]) ?_ 4 _ rfl; (with_reducible repeat (first | refine qag ?_ _ | refine qaj ?_ | refine qaf ?_ _)); refine qaI (cs := #[.string (⟨#[]⟩ : ByteArray), .string (⟨#[]⟩ : ByteArray), .int .i64 0, .slice none 0 0, .int .i64 0]) ?_ 3 _ rfl; (with_reducible repeat (first | refine qag ?_ _ | refine qaj ?_ | refine qaf ?_ _)); refine qaI (cs := #[.string (⟨#[]⟩ : ByteArray), .string (⟨#[]⟩ : ByteArray), .int .i64 0, .slice none 0 0, .int .i64 0]) ?_ 2 _ rfl; (with_reducible repeat (first | refine qag ?_ _ | refine qaj ?_ | refine qaf ?_ _)); refine qaI (cs := #[.string (⟨#[]⟩ : ByteArray), .string (⟨#[]⟩ : ByteArray), .int .i64 0, .slice none 0 0, .int .i64 0]) ?_ 1 _ rfl; (with_reducible repeat (first | refine qag ?_ _ | refine qaj ?_ | refine qaf ?_ _)); refine qaI (cs := #[.string (⟨#[]⟩ : ByteArray), .string (⟨#[]⟩ : ByteArray), .int .i64 0, .slice none 0 0, .int .i64 0]) ?_ 0 _ rfl; (with_reducible repeat (first | refine qag ?_ _ | refine qaj ?_ | refine qaf ?_ _)); exact BK782.out) Try.underlying48 rfl (by kernel_rfl)) rfl ?_
          exact ⟨_, by first | rfl | (simp [qam, qan] <;> rfl) | (simp [*, qam, qan] <;> rfl), by first | exact Kd.qc0 _ _ _ _ _ | exact Kd.qdD _ _ _ _ _ | exact Kd.qdE _ _ _ _ _ | exact Kd.qdu _ _ _ _ _ | exact Kd.qdB _ _ _ _ _, by repeat (first | (with_reducible first | exact HB.out | apply qac | apply qaa | apply qab | refine qai ?_ GE782.out) | exact HB.out)⟩
        ·replace c42 := Bool.eq_false_iff.mpr c42
         subst c42
         have H1 : (some ((⟨#[]⟩ : ByteArray), (⟨#[]⟩ : ByteArray), 0, ([] : List (S82)), 0, 4)) = some (r1, r2, r3, r4, r5, r6) := by rw [if_neg (show ¬ (false = true) by decide)] at H; exact H
         clear H
         have H := H1
         clear H1
         simp only [Option.some.injEq, Prod.mk.injEq] at H
         obtain ⟨rfl, rfl, rfl, rfl, rfl, rfl⟩ := H
         go_wp2_with (first | (go_at_call 64; (with_reducible refine (qbd.calls kj12 a0 false _ A41.out).mono ?_); rintro e w' ⟨rfl, ⟨nd, rfl⟩⟩; (try (rw [qbG wc]; generalize hq_ : World.drewN wc _ = wc; have n0_ : Aside0 (wc.heap[gb782]? = some (.cells #[.string (⟨#[]⟩ : ByteArray), .string (⟨#[]⟩ : ByteArray), .int .i64 0, .slice none 0 0, .int .i64 0] 48 (0, 0))) := ⟨by rw [← hq_]; exact (by (with_reducible repeat (first | refine qag ?_ _ | refine qaj ?_ | refine qaf ?_ _)); exact BK782.out)⟩; have n1_ : Aside0 (Below w.heap.size w wc) := ⟨by rw [← hq_]; exact (by repeat (first | (with_reducible first | exact HB.out | apply qac | apply qaa | apply qab | refine qai ?_ GE782.out) | exact HB.out))⟩; clear BK782 HB hq_; have BK782 := n0_; have HB := n1_; clear n0_ n1_)); have hcz53_0 : wc.cell? ⟨gb782, 0, none⟩ = some (.string (⟨#[]⟩ : ByteArray)) := (qah BK782.out 0).trans rfl; have hcz53_1 : wc.cell? ⟨gb782, 1, none⟩ = some (.string (⟨#[]⟩ : ByteArray)) := (qah BK782.out 1).trans rfl; have hcz53_2 : wc.cell? ⟨gb782, 2, none⟩ = some (.int .i64 0) := (qah BK782.out 2).trans rfl; have hcz53_3 : wc.cell? ⟨gb782, 3, none⟩ = some (.slice none 0 0) := (qah BK782.out 3).trans rfl; have hcz53_4 : wc.cell? ⟨gb782, 4, none⟩ = some (.int .i64 0) := (qah BK782.out 4).trans rfl; have hfz53_0 := qad BK782.out 0; have hfz53_1 := qad BK782.out 1; have hfz53_2 := qad BK782.out 2; have hfz53_3 := qad BK782.out 3; have hfz53_4 := qad BK782.out 4))
         refine bodyPost_ret (qbR rfl _ _ gb782 48 #[.string (⟨#[]⟩ : ByteArray), .string (⟨#[]⟩ : ByteArray), .int .i64 0, .slice none 0 0, .int .i64 0] (0, 0) _ rfl (by (with_reducible repeat (first | refine qag ?_ _ | refine qaj ?_ | refine qaf ?_ _)); refine qaI (cs := #[.string (⟨#[]⟩ : ByteArray), .string (⟨#[]⟩ : ByteArray), .int .i64 0, .slice none 0 0, .int .i64 0]) ?_ 4 _ rfl; (with_reducible repeat (first | refine qag ?_ _ | refine qaj ?_ | refine qaf ?_ _)); refine qaI (cs := #[.string (⟨#[]⟩ : ByteArray), .string (⟨#[]⟩ : ByteArray), .int .i64 0, .slice none 0 0, .int .i64 0]) ?_ 3 _ rfl; (with_reducible repeat (first | refine qag ?_ _ | refine qaj ?_ | refine qaf ?_ _)); refine qaI (cs := #[.string (⟨#[]⟩ : ByteArray), .string (⟨#[]⟩ : ByteArray), .int .i64 0, .slice none 0 0, .int .i64 0]) ?_ 2 _ rfl; (with_reducible repeat (first | refine qag ?_ _ | refine qaj ?_ | refine qaf ?_ _)); refine qaI (cs := #[.string (⟨#[]⟩ : ByteArray), .string (⟨#[]⟩ : ByteArray), .int .i64 0, .slice none 0 0, .int .i64 0]) ?_ 1 _ rfl; (with_reducible repeat (first | refine qag ?_ _ | refine qaj ?_ | refine qaf ?_ _)); refine qaI (cs := #[.string (⟨#[]⟩ : ByteArray), .string (⟨#[]⟩ : ByteArray), .int .i64 0, .slice none 0 0, .int .i64 0]) ?_ 0 _ rfl; (with_reducible repeat (first | refine qag ?_ _ | refine qaj ?_ | refine qaf ?_ _)); exact BK782.out) Try.underlying48 rfl (by kernel_rfl)) rfl ?_
         exact ⟨_, by first | rfl | (simp [qam, qan] <;> rfl) | (simp [*, qam, qan] <;> rfl), by first | exact Kd.qc0 _ _ _ _ _ | exact Kd.qdD _ _ _ _ _ | exact Kd.qdE _ _ _ _ _ | exact Kd.qdu _ _ _ _ _ | exact Kd.qdB _ _ _ _ _, by repeat (first | (with_reducible first | exact HB.out | apply qac | apply qaa | apply qab | refine qai ?_ GE782.out) | exact HB.out)⟩
end Go.Proofs.Ytgcncphdjabjjaa.X
