import Derived.Test.YtlkdcicpaneakaaKFnExactReplayAll2
import Derived.Test.YtlkdcicpaneakaaKFnExactReplayAll3
import Derived.Test.YtlkdcicpaneakaaKFnExactReplayAll4
import Derived.Test.YtlkdcicpaneakaaKFnExactReplayAll10
import Derived.Test.YtlkdcicpaneakaaKFnExactReplayAll11
import Derived.LoopTactic
import Derived.WalkSpells
namespace Go.Proofs.Ytlkdcicpaneakaa.X
open Go.RowKit Go.Proofs.YtlkdcicpaneakaaW.PrintWords Go.Proofs.YtlkdcicpaneakaaW.PrintLast Go.Proofs.YtlkdcicpaneakaaW.PrintMore
attribute [local go_sem] qaA qaB qaC qaw qax qaH qaI qap qaq qay qaz
set_option linter.unusedVariables false
set_option linter.unusedSimpArgs false
mutual
def qav.j0 : Nat → Bool → ByteArray → ByteArray → Int → List (S56) → Int → Option (Bool)
 | 0, _, _, _, _, _, _ => none
 | k + 1, x24, x400000, x400001, x400002, x400003, x400004 => if x24 = true then (some false) else (qav.l0 k x400003 (x400003.length : Int) 0 x400000 x400001 x400002 x400003 x400004)
def qav.l0 : Nat → List (S56) → Int → Int → ByteArray → ByteArray → Int → List (S56) → Int → Option (Bool)
 | 0, _, _, _, _, _, _, _, _ => none
 | k + 1, x26, x27, x28, x400000, x400001, x400002, x400003, x400004 => if x28 < x27 then (if 0 ≤ x28 then (if x28 < (x26.length : Int) then ((qbt.f ((qaf x26 x28).f0) ((qaf x26 x28).f1) ((qaf x26 x28).f2) ((qaf x26 x28).f3) ((qaf x26 x28).f4)).bind fun t404 => (if t404 = true then (if x28 > 0 then (if 0 ≤ (wrap64 (x28 - 1)) then (if (wrap64 (x28 - 1)) < (x400003.length : Int) then (if ((Op.bytesLess (((qaf x400003 (wrap64 (x28 - 1))).f0).toList) (((qaf x26 x28).f0).toList)) = true) then (qav.l0 k x26 x27 (wrap64 (x28 + 1)) x400000 x400001 x400002 x400003 x400004) else (some false)) else (none)) else (none)) else (qav.l0 k x26 x27 (wrap64 (x28 + 1)) x400000 x400001 x400002 x400003 x400004)) else (some false))) else (none)) else (none)) else (some true)
end
def qav.f (k : Nat) (a0_0 : ByteArray) (a0_1 : ByteArray) (a0_2 : Int) (l0_3 : List (S56)) (a0_4 : Int) : Option (Bool) := (qbE.f k a0_0 a0_1 a0_2).bind fun t400 => (if t400 = true then ((qbf.f a0_4 0 4294967295).bind fun t401 => (if t401 = true then (qav.j0 k (decide ((l0_3.length : Int) > 120)) a0_0 a0_1 a0_2 l0_3 a0_4) else (qav.j0 k true a0_0 a0_1 a0_2 l0_3 a0_4))) else (qav.j0 k true a0_0 a0_1 a0_2 l0_3 a0_4))
theorem qav.qbA : ∀ k, (∀ y0 y1 y2 y3 y4 y5, LeO (qav.j0 k y0 y1 y2 y3 y4 y5) (qav.j0 (k + 1) y0 y1 y2 y3 y4 y5)) ∧ (∀ y0 y1 y2 y3 y4 y5 y6 y7, LeO (qav.l0 k y0 y1 y2 y3 y4 y5 y6 y7) (qav.l0 (k + 1) y0 y1 y2 y3 y4 y5 y6 y7))
 | 0 => ⟨fun _ _ _ _ _ _ r h => by simp [qav.j0] at h, fun _ _ _ _ _ _ _ _ r h => by simp [qav.l0] at h⟩
 | k + 1 => by
  obtain ⟨ih0, ih1⟩ := qav.qbA k
  refine ⟨?_, ?_⟩
  ·intro y0 y1 y2 y3 y4 y5
   unfold qav.j0
   repeat' first
   | (with_reducible exact ih0 _ _ _ _ _ _)
   | (with_reducible exact ih1 _ _ _ _ _ _ _ _)
   | (with_reducible exact qbE.mono _ _ _ _)
   | (with_reducible exact LeO.refl _)
   | (with_reducible exact LeO.none _)
   | (with_reducible refine LeO.ite ?_ ?_)
   | (with_reducible refine LeO.bind ?_ (fun _ => ?_))
   | exact ih0 _ _ _ _ _ _
   | exact ih1 _ _ _ _ _ _ _ _
   | exact qbE.mono _ _ _ _
   | exact LeO.none _
   | refine LeO.ite ?_ ?_
   | refine LeO.bind ?_ (fun _ => ?_)
  ·intro y0 y1 y2 y3 y4 y5 y6 y7
   unfold qav.l0
   repeat' first
   | (with_reducible exact ih0 _ _ _ _ _ _)
   | (with_reducible exact ih1 _ _ _ _ _ _ _ _)
   | (with_reducible exact qbE.mono _ _ _ _)
   | (with_reducible exact LeO.refl _)
   | (with_reducible exact LeO.none _)
   | (with_reducible refine LeO.ite ?_ ?_)
   | (with_reducible refine LeO.bind ?_ (fun _ => ?_))
   | exact ih0 _ _ _ _ _ _
   | exact ih1 _ _ _ _ _ _ _ _
   | exact qbE.mono _ _ _ _
   | exact LeO.none _
   | refine LeO.ite ?_ ?_
   | refine LeO.bind ?_ (fun _ => ?_)
def qav.T6 : Bool × List (List Nat × List Nat) := (true, [([], []), ([0], [0]), ([1], [1]), ([2, 1], [2]), ([3], [3]), ([4, 3], [3, 4]), ([5, 3, 3], [3, 5]), ([6], [6]), ([7, 6], [6, 7]), ([6], [6]), ([9, 6], [6, 9]), ([8, 10, 6], [6, 8, 10]), ([11, 6], [6, 11]), ([12, 6], [6, 12]), ([6], [6]), ([14, 6], [6, 14]), ([13, 15, 6], [6, 13, 15]), ([6, 16, 3], [3, 6, 16]), ([3, 17], [3, 17])])
def qav.B6 : List Nat := [0, 1, 3, 7, 15, 31, 63, 127, 255, 127, 639, 2047, 4095, 8191, 127, 16511, 65535, 131071, 262143]
theorem qav.tab6 : rtab .any (opsOf Try.f20 6) = qav.T6 := by kernel_rfl
theorem qav.bits6 : qcs qav.T6.2 qav.B6 = true := by kernel_rfl
set_option maxHeartbeats 8000000 in
set_option maxRecDepth 100000 in
theorem qav.calls (k : Nat) (a0_0 : ByteArray) (a0_1 : ByteArray) (a0_2 : Int) (A0_3 : Option Addr) (c0_3 : Nat) (l0_3 : List (S56)) (a0_4 : Int) (r : Bool) (w : World) (hr0_3 : Kd.C k56 w A0_3 l0_3.length l0_3) (hc0_3 : l0_3.length ≤ c0_3) (h : qav.f k a0_0 a0_1 a0_2 l0_3 a0_4 = some r) :
  Calls Try.prog 20 #[.agg #[.string a0_0, .string a0_1, .int .i64 a0_2, .slice A0_3 l0_3.length c0_3, .int .i64 a0_4]] w fun e w' => e = .returned (.bool r) ∧ Below w.heap.size w w' := by
 have hu41 := Try.underlying41
 have hu56 := Try.underlying56
 have HR0_3 := Aside0.mk hr0_3
 have HC0_3 := Aside0.mk hc0_3
 clear hr0_3 hc0_3
 have HB := Aside0.mk (Below.refl w.heap.size w)
 have H : ((qbE.f k a0_0 a0_1 a0_2).bind fun t400 => (if t400 = true then ((qbf.f a0_4 0 4294967295).bind fun t401 => (if t401 = true then (qav.j0 k (decide ((l0_3.length : Int) > 120)) a0_0 a0_1 a0_2 l0_3 a0_4) else (qav.j0 k true a0_0 a0_1 a0_2 l0_3 a0_4))) else (qav.j0 k true a0_0 a0_1 a0_2 l0_3 a0_4))) = some r := h
 clear h
 have HC2 := Aside0.mk H
 clear H
 go_enter Try.func20, Try.ntmps20
 go_upto_region 1 with (first | ((with_reducible refine qaM (N := 1) rfl ?_); (try (refine qbZ (by rfl) ?_; dsimp only)); refine qaN ?hg (N := 1) ?hd (cs := #[.string a0_0, .string a0_1, .int .i64 a0_2, .slice A0_3 l0_3.length c0_3, .int .i64 a0_4]) (t := 41) ?hr ?_; (case hd => rfl); (case hg => rfl); (case hr => first | (go_simp; done) | (go_simp; rfl)); intro gb399 hg w3 hbox hb; have n0_ := Aside0.mk (qag (by repeat (first | (with_reducible first | exact HB.out | apply qac | apply qaa | apply qab) | exact HB.out)) hb); have n1_ := Aside0.mk (hbox); have n2_ := Aside0.mk ((by rw [hg]; exact (qak (by repeat (first | (with_reducible first | exact HB.out | apply qac | apply qaa | apply qab) | exact HB.out))) : w.heap.size ≤ gb399)); have n3_ := Aside0.mk ((by rw [hg]; exact (qak (by repeat (first | (with_reducible first | exact HB.out | apply qac | apply qaa | apply qab) | exact HB.out))) : w.heap.size ≤ gb399)); clear HB; have HB := n0_; have BK399 := n1_; have GW399 := n2_; have GE399 := n3_; clear n0_ n1_ n2_ n3_; clear hb hbox hg))
 (try simp only [Act.put, List.setIfInBounds_toArray, List.set_cons_zero, List.set_cons_succ])
 go_cut [24] (fun v24 wc => ∃ (kq : Nat) (x24_1 : Bool), v24 = .bool x24_1 ∧ Aside0 (qav.j0 kq x24_1 a0_0 a0_1 a0_2 l0_3 a0_4 = some r) ∧ Aside0 (kq ≤ k) ∧ Aside0 (wc.heap[gb399]? = some (.cells #[.string a0_0, .string a0_1, .int .i64 a0_2, (.slice A0_3 l0_3.length c0_3), .int .i64 a0_4] 41 (0, 0))) ∧ Aside0 (Below w.heap.size w wc))
 case first =>
  have H := HC2.out
  clear HC2
  replace H := Option.bind_eq_some_iff.mp H
  obtain ⟨t400, A40, H⟩ := H
  try dsimp only at H
  have A4 := Aside0.mk A40
  clear A40
  by_cases c5 : t400 = true
  ·subst c5
   have H1 : ((qbf.f a0_4 0 4294967295).bind fun t401 => (if t401 = true then (qav.j0 k (decide ((l0_3.length : Int) > 120)) a0_0 a0_1 a0_2 l0_3 a0_4) else (qav.j0 k true a0_0 a0_1 a0_2 l0_3 a0_4))) = some r := by rw [if_pos rfl] at H; exact H
   clear H
   have H := H1
   clear H1
   replace H := Option.bind_eq_some_iff.mp H
   obtain ⟨t401, A60, H⟩ := H
   try dsimp only at H
   have A6 := Aside0.mk A60
   clear A60
   by_cases c7 : t401 = true
   ·subst c7
    have H1 : (qav.j0 k (decide ((l0_3.length : Int) > 120)) a0_0 a0_1 a0_2 l0_3 a0_4) = some r := by rw [if_pos rfl] at H; exact H
    clear H
    have H := H1
    clear H1
    have H' := Aside0.mk H
    clear H
    have hcz8_0 : w3.cell? ⟨gb399, 0, none⟩ = some (.string a0_0) := (qad BK399.out 0).trans rfl
    have hcz8_1 : w3.cell? ⟨gb399, 1, none⟩ = some (.string a0_1) := (qad BK399.out 1).trans rfl
    have hcz8_2 : w3.cell? ⟨gb399, 2, none⟩ = some (.int .i64 a0_2) := (qad BK399.out 2).trans rfl
    have hcz8_3 : w3.cell? ⟨gb399, 3, none⟩ = some (.slice A0_3 l0_3.length c0_3) := (qad BK399.out 3).trans rfl
    have hcz8_4 : w3.cell? ⟨gb399, 4, none⟩ = some (.int .i64 a0_4) := (qad BK399.out 4).trans rfl
    have hfz8_0 := qae BK399.out 0
    have hfz8_1 := qae BK399.out 1
    have hfz8_2 := qae BK399.out 2
    have hfz8_3 := qae BK399.out 3
    have hfz8_4 := qae BK399.out 4
    go_wp2_with (first | ((with_reducible refine qaE (f := 37) rfl ?_); refine qbn (some 11) rfl rfl Try.func37 (by kernel_rfl) rfl #[.string a0_0, .string a0_1, .int .i64 a0_2] rfl (by (try simp only [List.map_toArray, List.map_cons, List.map_nil]); first | done | rfl | (simp only [List.length_drop, List.length_take]; rfl)) ?_; (with_reducible refine (qbE.calls k a0_0 a0_1 a0_2 true _ A4.out).mono ?_); rintro e w' ⟨rfl, ⟨nd, rfl⟩⟩; refine ⟨_, rfl, ?_⟩) | (go_at_call 38; (with_reducible refine (qbf.calls a0_4 0 4294967295 true _ A6.out).mono ?_); rintro e w' ⟨rfl, ⟨nd, rfl⟩⟩))
    go_meet
    case rel => exact ⟨_, (decide ((l0_3.length : Int) > 120)), (by first | rfl | (simp; done) | (simp [*]; done)), H', ⟨by first | omega | exact Nat.le_refl _⟩, ⟨by (with_reducible repeat (first | refine qaj ?_ _ | refine qal ?_ | refine qai ?_ _)); exact BK399.out⟩, ⟨by repeat (first | (with_reducible first | exact HB.out | apply qac | apply qaa | apply qab | refine qah ?_ GE399.out) | exact HB.out)⟩⟩
   ·replace c7 := Bool.eq_false_iff.mpr c7
    subst c7
    have H1 : (qav.j0 k true a0_0 a0_1 a0_2 l0_3 a0_4) = some r := by rw [if_neg (show ¬ (false = true) by decide)] at H; exact H
    clear H
    have H := H1
    clear H1
    have H' := Aside0.mk H
    clear H
    have hcz9_0 : w3.cell? ⟨gb399, 0, none⟩ = some (.string a0_0) := (qad BK399.out 0).trans rfl
    have hcz9_1 : w3.cell? ⟨gb399, 1, none⟩ = some (.string a0_1) := (qad BK399.out 1).trans rfl
    have hcz9_2 : w3.cell? ⟨gb399, 2, none⟩ = some (.int .i64 a0_2) := (qad BK399.out 2).trans rfl
    have hcz9_3 : w3.cell? ⟨gb399, 3, none⟩ = some (.slice A0_3 l0_3.length c0_3) := (qad BK399.out 3).trans rfl
    have hcz9_4 : w3.cell? ⟨gb399, 4, none⟩ = some (.int .i64 a0_4) := (qad BK399.out 4).trans rfl
    have hfz9_0 := qae BK399.out 0
    have hfz9_1 := qae BK399.out 1
    have hfz9_2 := qae BK399.out 2
    have hfz9_3 := qae BK399.out 3
    have hfz9_4 := qae BK399.out 4
    go_wp2_with (first | ((with_reducible refine qaE (f := 37) rfl ?_); refine qbn (some 11) rfl rfl Try.func37 (by kernel_rfl) rfl #[.string a0_0, .string a0_1, .int .i64 a0_2] rfl (by (try simp only [List.map_toArray, List.map_cons, List.map_nil]); first | done | rfl | (simp only [List.length_drop, List.length_take]; rfl)) ?_; (with_reducible refine (qbE.calls k a0_0 a0_1 a0_2 true _ A4.out).mono ?_); rintro e w' ⟨rfl, ⟨nd, rfl⟩⟩; refine ⟨_, rfl, ?_⟩) | (go_at_call 38; (with_reducible refine (qbf.calls a0_4 0 4294967295 false _ A6.out).mono ?_); rintro e w' ⟨rfl, ⟨nd, rfl⟩⟩))
    go_meet
    case rel => exact ⟨_, (true), (by first | rfl | (simp; done) | (simp [*]; done)), H', ⟨by first | omega | exact Nat.le_refl _⟩, ⟨by (with_reducible repeat (first | refine qaj ?_ _ | refine qal ?_ | refine qai ?_ _)); exact BK399.out⟩, ⟨by repeat (first | (with_reducible first | exact HB.out | apply qac | apply qaa | apply qab | refine qah ?_ GE399.out) | exact HB.out)⟩⟩
  ·replace c5 := Bool.eq_false_iff.mpr c5
   subst c5
   have H1 : (qav.j0 k true a0_0 a0_1 a0_2 l0_3 a0_4) = some r := by rw [if_neg (show ¬ (false = true) by decide)] at H; exact H
   clear H
   have H := H1
   clear H1
   have H' := Aside0.mk H
   clear H
   have hcz10_0 : w3.cell? ⟨gb399, 0, none⟩ = some (.string a0_0) := (qad BK399.out 0).trans rfl
   have hcz10_1 : w3.cell? ⟨gb399, 1, none⟩ = some (.string a0_1) := (qad BK399.out 1).trans rfl
   have hcz10_2 : w3.cell? ⟨gb399, 2, none⟩ = some (.int .i64 a0_2) := (qad BK399.out 2).trans rfl
   have hcz10_3 : w3.cell? ⟨gb399, 3, none⟩ = some (.slice A0_3 l0_3.length c0_3) := (qad BK399.out 3).trans rfl
   have hcz10_4 : w3.cell? ⟨gb399, 4, none⟩ = some (.int .i64 a0_4) := (qad BK399.out 4).trans rfl
   have hfz10_0 := qae BK399.out 0
   have hfz10_1 := qae BK399.out 1
   have hfz10_2 := qae BK399.out 2
   have hfz10_3 := qae BK399.out 3
   have hfz10_4 := qae BK399.out 4
   go_wp2_with (first | ((with_reducible refine qaE (f := 37) rfl ?_); refine qbn (some 11) rfl rfl Try.func37 (by kernel_rfl) rfl #[.string a0_0, .string a0_1, .int .i64 a0_2] rfl (by (try simp only [List.map_toArray, List.map_cons, List.map_nil]); first | done | rfl | (simp only [List.length_drop, List.length_take]; rfl)) ?_; (with_reducible refine (qbE.calls k a0_0 a0_1 a0_2 false _ A4.out).mono ?_); rintro e w' ⟨rfl, ⟨nd, rfl⟩⟩; refine ⟨_, rfl, ?_⟩))
   go_meet
   case rel => exact ⟨_, (true), (by first | rfl | (simp; done) | (simp [*]; done)), H', ⟨by first | omega | exact Nat.le_refl _⟩, ⟨by (with_reducible repeat (first | refine qaj ?_ _ | refine qal ?_ | refine qai ?_ _)); exact BK399.out⟩, ⟨by repeat (first | (with_reducible first | exact HB.out | apply qac | apply qaa | apply qab | refine qah ?_ GE399.out) | exact HB.out)⟩⟩
 case rest =>
  clear HC2
  try clear c2
  try clear p2
  try clear c3
  try clear c5
  try clear c7
  try clear hcz10_0
  try clear hcz10_1
  try clear hcz10_2
  try clear hcz10_3
  try clear hcz10_4
  try clear hcz8_0
  try clear hcz8_1
  try clear hcz8_2
  try clear hcz8_3
  try clear hcz8_4
  try clear hcz9_0
  try clear hcz9_1
  try clear hcz9_2
  try clear hcz9_3
  try clear hcz9_4
  try clear hfz10_0
  try clear hfz10_1
  try clear hfz10_2
  try clear hfz10_3
  try clear hfz10_4
  try clear hfz8_0
  try clear hfz8_1
  try clear hfz8_2
  try clear hfz8_3
  try clear hfz8_4
  try clear hfz9_0
  try clear hfz9_1
  try clear hfz9_2
  try clear hfz9_3
  try clear hfz9_4
  obtain ⟨kq, x24_1, rfl, HA, HJ1, BK399, HB⟩ := hcut
  cases kq with
  | zero => exact absurd HA.out (by simp [qav.j0])
  | succ kj1 =>
   have H := HA.out
   clear HA
   simp only [qav.j0] at H
   by_cases c11 : x24_1 = true
   ·subst c11
    have H1 : (some false) = some r := by rw [if_pos rfl] at H; exact H
    clear H
    have H := H1
    clear H1
    obtain rfl := Option.some.inj H
    go_wp2
    go_ret
    exact ⟨by first | rfl | (simp [qam, qan] <;> rfl) | (simp [*, qam, qan] <;> rfl), by repeat (first | (with_reducible first | exact HB.out | apply qac | apply qaa | apply qab | refine qah ?_ GE399.out) | exact HB.out)⟩
   ·replace c11 := Bool.eq_false_iff.mpr c11
    subst c11
    have H1 : (qav.l0 kj1 l0_3 (l0_3.length : Int) 0 a0_0 a0_1 a0_2 l0_3 a0_4) = some r := by rw [if_neg (show ¬ (false = true) by decide)] at H; exact H
    clear H
    have H := H1
    clear H1
    have H' := Aside0.mk H
    clear H
    have hcz12_0 : wc.cell? ⟨gb399, 0, none⟩ = some (.string a0_0) := (qad BK399.out 0).trans rfl
    have hcz12_1 : wc.cell? ⟨gb399, 1, none⟩ = some (.string a0_1) := (qad BK399.out 1).trans rfl
    have hcz12_2 : wc.cell? ⟨gb399, 2, none⟩ = some (.int .i64 a0_2) := (qad BK399.out 2).trans rfl
    have hcz12_3 : wc.cell? ⟨gb399, 3, none⟩ = some (.slice A0_3 l0_3.length c0_3) := (qad BK399.out 3).trans rfl
    have hcz12_4 : wc.cell? ⟨gb399, 4, none⟩ = some (.int .i64 a0_4) := (qad BK399.out 4).trans rfl
    have hfz12_0 := qae BK399.out 0
    have hfz12_1 := qae BK399.out 1
    have hfz12_2 := qae BK399.out 2
    have hfz12_3 := qae BK399.out 3
    have hfz12_4 := qae BK399.out 4
    go_wp2
    go_loopg [28] kj1 (fun kq v28 w' => ∃ (x28_2 : Int), v28 = .int .i64 x28_2 ∧ Aside0 (qav.l0 kq l0_3 (l0_3.length : Int) x28_2 a0_0 a0_1 a0_2 l0_3 a0_4 = some r) ∧ Aside0 (kq ≤ kj1) ∧ Aside0 (w'.heap[gb399]? = some (.cells #[.string a0_0, .string a0_1, .int .i64 a0_2, (.slice A0_3 l0_3.length c0_3), .int .i64 a0_4] 41 (0, 0))) ∧ Aside0 (Below w.heap.size w w'))
    case atStart => exact ⟨(0), (by first | rfl | (simp; done) | (simp [*]; done)), H', ⟨Nat.le_refl _⟩, ⟨by (with_reducible repeat (first | refine qaj ?_ _ | refine qal ?_ | refine qai ?_ _)); exact BK399.out⟩, ⟨by repeat (first | (with_reducible first | exact HB.out | apply qac | apply qaa | apply qab | refine qah ?_ GE399.out) | exact HB.out)⟩⟩
    case round =>
     clear H'
     try clear c1
     try clear c2
     try clear p2
     try clear c3
     try clear c5
     try clear c7
     try clear c11
     try clear hcz10_0
     try clear hcz10_1
     try clear hcz10_2
     try clear hcz10_3
     try clear hcz10_4
     try clear hcz12_0
     try clear hcz12_1
     try clear hcz12_2
     try clear hcz12_3
     try clear hcz12_4
     try clear hcz8_0
     try clear hcz8_1
     try clear hcz8_2
     try clear hcz8_3
     try clear hcz8_4
     try clear hcz9_0
     try clear hcz9_1
     try clear hcz9_2
     try clear hcz9_3
     try clear hcz9_4
     try clear hfz10_0
     try clear hfz10_1
     try clear hfz10_2
     try clear hfz10_3
     try clear hfz10_4
     try clear hfz12_0
     try clear hfz12_1
     try clear hfz12_2
     try clear hfz12_3
     try clear hfz12_4
     try clear hfz8_0
     try clear hfz8_1
     try clear hfz8_2
     try clear hfz8_3
     try clear hfz8_4
     try clear hfz9_0
     try clear hfz9_1
     try clear hfz9_2
     try clear hfz9_3
     try clear hfz9_4
     try clear p2
     obtain ⟨x28_2, rfl, HA, HK2, BK399, HB⟩ := hrel
     cases gk with
     | zero => exact absurd HA.out (by simp [qav.l0])
     | succ k2 =>
      have H := HA.out
      clear HA
      simp only [qav.l0] at H
      by_cases c13 : x28_2 < (l0_3.length : Int)
      ·rw [if_pos c13] at H
       have c13b0 : decide (x28_2 < (l0_3.length : Int)) = true := decide_eq_true c13
       clear c13
       by_cases c14 : 0 ≤ x28_2
       ·rw [if_pos c14] at H
        have c14b0 : decide (0 ≤ x28_2) = true := decide_eq_true c14
        clear c14
        by_cases c15 : x28_2 < (l0_3.length : Int)
        ·rw [if_pos c15] at H
         have c15b0 : decide (x28_2 < (l0_3.length : Int)) = true := decide_eq_true c15
         clear c15
         replace H := Option.bind_eq_some_iff.mp H
         obtain ⟨t404, A160, H⟩ := H
         try dsimp only at H
         have A16 := Aside0.mk A160
         clear A160
         by_cases c17 : t404 = true
         ·subst c17
          have H1 : (if x28_2 > 0 then (if 0 ≤ (wrap64 (x28_2 - 1)) then (if (wrap64 (x28_2 - 1)) < (l0_3.length : Int) then (if ((Op.bytesLess (((qaf l0_3 (wrap64 (x28_2 - 1))).f0).toList) (((qaf l0_3 x28_2).f0).toList)) = true) then (qav.l0 k2 l0_3 (l0_3.length : Int) (wrap64 (x28_2 + 1)) a0_0 a0_1 a0_2 l0_3 a0_4) else (some false)) else (none)) else (none)) else (qav.l0 k2 l0_3 (l0_3.length : Int) (wrap64 (x28_2 + 1)) a0_0 a0_1 a0_2 l0_3 a0_4)) = some r := by rw [if_pos rfl] at H; exact H
          clear H
          have H := H1
          clear H1
          by_cases c18 : x28_2 > 0
          ·rw [if_pos c18] at H
           have c18b0 : decide (0 < x28_2) = true := decide_eq_true c18
           clear c18
           obtain ⟨ji19, hji19⟩ : ∃ j_ : Int, (wrap64 (x28_2 - 1)) = j_ := ⟨_, rfl⟩
           replace H : (if 0 ≤ (ji19) then (if (ji19) < (l0_3.length : Int) then (if ((Op.bytesLess (((qaf l0_3 (ji19)).f0).toList) (((qaf l0_3 x28_2).f0).toList)) = true) then (qav.l0 k2 l0_3 (l0_3.length : Int) (wrap64 (x28_2 + 1)) a0_0 a0_1 a0_2 l0_3 a0_4) else (some false)) else (none)) else (none)) = some r := by first | (rw [hji19] at H; exact H) | (simp only [hji19] at H ⊢; exact H)
           (try rw [hji19] at A16)
           have hji19w : (IntKind.i64.wrap (x28_2 - 1)) = ji19 := (qbe _).trans hji19
           by_cases c20 : 0 ≤ (ji19)
           ·rw [if_pos c20] at H
            have c20b0 : decide (0 ≤ (ji19)) = true := decide_eq_true c20
            clear c20
            by_cases c21 : (ji19) < (l0_3.length : Int)
            ·rw [if_pos c21] at H
             have c21b0 : decide ((ji19) < (l0_3.length : Int)) = true := decide_eq_true c21
             clear c21
             by_cases c22 : ((Op.bytesLess (((qaf l0_3 (ji19)).f0).toList) (((qaf l0_3 x28_2).f0).toList)) = true)
             ·rw [if_pos c22] at H
              have c22b0 : (Op.bytesLess (((qaf l0_3 (ji19)).f0).toList) (((qaf l0_3 x28_2).f0).toList)) = true := c22
              clear c22
              have H' := Aside0.mk H
              clear H
              have p402 : 0 ≤ (x28_2 : Int) := of_decide_eq_true (by first | (with_reducible assumption) | assumption)
              have q402 : x28_2 < (l0_3.length : Int) := of_decide_eq_true (by first | (with_reducible assumption) | assumption)
              obtain ⟨ad402, e402, hx402_0, hx402_1, hx402_2, hx402_3, hx402_4⟩ := qdd HR0_3.out x28_2 p402 q402
              cases e402
              replace hx402_0 := (HB.out.cell (World.block_lt_of_cell? w _ hx402_0)).trans hx402_0
              replace hx402_1 := (HB.out.cell (World.block_lt_of_cell? w _ hx402_1)).trans hx402_1
              replace hx402_2 := (HB.out.cell (World.block_lt_of_cell? w _ hx402_2)).trans hx402_2
              replace hx402_3 := (HB.out.cell (World.block_lt_of_cell? w _ hx402_3)).trans hx402_3
              replace hx402_4 := (HB.out.cell (World.block_lt_of_cell? w _ hx402_4)).trans hx402_4
              replace p402 := eq_true p402
              replace q402 := eq_true q402
              try go_wp2_with (first | ((with_reducible refine qaM (N := 4) rfl ?_); (try (refine qbZ (by rfl) ?_; dsimp only)); refine qaN ?hg (N := 4) ?hd (cs := #[.string (⟨#[]⟩ : ByteArray), .string (⟨#[]⟩ : ByteArray), .string (⟨#[]⟩ : ByteArray), .bool false, .bool false]) (t := 56) ?hr ?_; (case hd => rfl); (case hg => rfl); (case hr => first | (go_simp; done) | (go_simp; rfl)); intro gb403 hg w23 hbox hb; have n0_ := Aside0.mk (qao (g := gb399) (o := .cells #[.string a0_0, .string a0_1, .int .i64 a0_2, .slice (some ad402) l0_3.length c0_3, .int .i64 a0_4] 41 (0, 0)) (by (with_reducible repeat (first | refine qaj ?_ _ | refine qal ?_ | refine qai ?_ _)); exact BK399.out) hb); have n1_ := Aside0.mk (qag (by repeat (first | (with_reducible first | exact HB.out | apply qac | apply qaa | apply qab | refine qah ?_ GE399.out) | exact HB.out)) hb); have n2_ := Aside0.mk (hbox); have n3_ := Aside0.mk ((by rw [hg]; exact (qak (by repeat (first | (with_reducible first | exact HB.out | apply qac | apply qaa | apply qab | refine qah ?_ GE399.out) | exact HB.out))) : w.heap.size ≤ gb403)); have n4_ := Aside0.mk ((by rw [hg]; exact (qak (by repeat (first | (with_reducible first | exact HB.out | apply qac | apply qaa | apply qab | refine qah ?_ GE399.out) | exact HB.out))) : w.heap.size ≤ gb403)); have n5_ := Aside0.mk ((by rw [hg]; exact Nat.ne_of_lt (qbm (g := gb399) (o := .cells #[.string a0_0, .string a0_1, .int .i64 a0_2, .slice (some ad402) l0_3.length c0_3, .int .i64 a0_4] 41 (0, 0)) (by (with_reducible repeat (first | refine qaj ?_ _ | refine qal ?_ | refine qai ?_ _)); exact BK399.out)) : gb399 ≠ gb403)); have n6_ := Aside0.mk ((by rw [hg]; exact Nat.ne_of_gt (qbm (g := gb399) (o := .cells #[.string a0_0, .string a0_1, .int .i64 a0_2, .slice (some ad402) l0_3.length c0_3, .int .i64 a0_4] 41 (0, 0)) (by (with_reducible repeat (first | refine qaj ?_ _ | refine qal ?_ | refine qai ?_ _)); exact BK399.out)) : gb403 ≠ gb399)); clear BK399 HB; have BK399 := n0_; have HB := n1_; have BK403 := n2_; have GW403 := n3_; have GE403 := n4_; have NB399_403 := n5_; have NB403_399 := n6_; clear n0_ n1_ n2_ n3_ n4_ n5_ n6_ hb hbox hg; have hnb24 := NB403_399.out; have hnc24 := NB399_403.out; have hcz25_0 : w23.cell? ⟨gb403, 0, none⟩ = some (.string (⟨#[]⟩ : ByteArray)) := (qad BK403.out 0).trans rfl; have hcz25_1 : w23.cell? ⟨gb403, 1, none⟩ = some (.string (⟨#[]⟩ : ByteArray)) := (qad BK403.out 1).trans rfl; have hcz25_2 : w23.cell? ⟨gb403, 2, none⟩ = some (.string (⟨#[]⟩ : ByteArray)) := (qad BK403.out 2).trans rfl; have hcz25_3 : w23.cell? ⟨gb403, 3, none⟩ = some (.bool false) := (qad BK403.out 3).trans rfl; have hcz25_4 : w23.cell? ⟨gb403, 4, none⟩ = some (.bool false) := (qad BK403.out 4).trans rfl; have hfz25_0 := qae BK403.out 0; have hfz25_1 := qae BK403.out 1; have hfz25_2 := qae BK403.out 2; have hfz25_3 := qae BK403.out 3; have hfz25_4 := qae BK403.out 4))
              have n0_ : Aside0 ((((((w23.setCell ⟨gb403, 0, none⟩ (.string ((qaf l0_3 x28_2).f0))).setCell ⟨gb403, 1, none⟩ (.string ((qaf l0_3 x28_2).f1))).setCell ⟨gb403, 2, none⟩ (.string ((qaf l0_3 x28_2).f2))).setCell ⟨gb403, 3, none⟩ (.bool ((qaf l0_3 x28_2).f3))).setCell ⟨gb403, 4, none⟩ (.bool ((qaf l0_3 x28_2).f4))).heap[gb399]? = some (.cells #[.string a0_0, .string a0_1, .int .i64 a0_2, .slice (some ad402) l0_3.length c0_3, .int .i64 a0_4] 41 (0, 0))) := ⟨by (with_reducible repeat (first | refine qaj ?_ _ | refine qal ?_ | refine qai ?_ _)); refine qbH ?_ NB399_403.out _; (with_reducible repeat (first | refine qaj ?_ _ | refine qal ?_ | refine qai ?_ _)); refine qbH ?_ NB399_403.out _; (with_reducible repeat (first | refine qaj ?_ _ | refine qal ?_ | refine qai ?_ _)); refine qbH ?_ NB399_403.out _; (with_reducible repeat (first | refine qaj ?_ _ | refine qal ?_ | refine qai ?_ _)); refine qbH ?_ NB399_403.out _; (with_reducible repeat (first | refine qaj ?_ _ | refine qal ?_ | refine qai ?_ _)); refine qbH ?_ NB399_403.out _; (with_reducible repeat (first | refine qaj ?_ _ | refine qal ?_ | refine qai ?_ _)); exact BK399.out⟩
              have n1_ : Aside0 ((((((w23.setCell ⟨gb403, 0, none⟩ (.string ((qaf l0_3 x28_2).f0))).setCell ⟨gb403, 1, none⟩ (.string ((qaf l0_3 x28_2).f1))).setCell ⟨gb403, 2, none⟩ (.string ((qaf l0_3 x28_2).f2))).setCell ⟨gb403, 3, none⟩ (.bool ((qaf l0_3 x28_2).f3))).setCell ⟨gb403, 4, none⟩ (.bool ((qaf l0_3 x28_2).f4))).heap[gb403]? = some (.cells #[.string ((qaf l0_3 x28_2).f0), .string ((qaf l0_3 x28_2).f1), .string ((qaf l0_3 x28_2).f2), .bool ((qaf l0_3 x28_2).f3), .bool ((qaf l0_3 x28_2).f4)] 56 (0, 0))) := ⟨by (with_reducible repeat (first | refine qaj ?_ _ | refine qal ?_ | refine qai ?_ _)); refine qaY (cs := #[.string ((qaf l0_3 x28_2).f0), .string ((qaf l0_3 x28_2).f1), .string ((qaf l0_3 x28_2).f2), .bool ((qaf l0_3 x28_2).f3), .bool false]) ?_ 4 _ rfl; (with_reducible repeat (first | refine qaj ?_ _ | refine qal ?_ | refine qai ?_ _)); refine qaY (cs := #[.string ((qaf l0_3 x28_2).f0), .string ((qaf l0_3 x28_2).f1), .string ((qaf l0_3 x28_2).f2), .bool false, .bool false]) ?_ 3 _ rfl; (with_reducible repeat (first | refine qaj ?_ _ | refine qal ?_ | refine qai ?_ _)); refine qaY (cs := #[.string ((qaf l0_3 x28_2).f0), .string ((qaf l0_3 x28_2).f1), .string (⟨#[]⟩ : ByteArray), .bool false, .bool false]) ?_ 2 _ rfl; (with_reducible repeat (first | refine qaj ?_ _ | refine qal ?_ | refine qai ?_ _)); refine qaY (cs := #[.string ((qaf l0_3 x28_2).f0), .string (⟨#[]⟩ : ByteArray), .string (⟨#[]⟩ : ByteArray), .bool false, .bool false]) ?_ 1 _ rfl; (with_reducible repeat (first | refine qaj ?_ _ | refine qal ?_ | refine qai ?_ _)); refine qaY (cs := #[.string (⟨#[]⟩ : ByteArray), .string (⟨#[]⟩ : ByteArray), .string (⟨#[]⟩ : ByteArray), .bool false, .bool false]) ?_ 0 _ rfl; (with_reducible repeat (first | refine qaj ?_ _ | refine qal ?_ | refine qai ?_ _)); exact BK403.out⟩
              have n2_ : Aside0 (Below w.heap.size w (((((w23.setCell ⟨gb403, 0, none⟩ (.string ((qaf l0_3 x28_2).f0))).setCell ⟨gb403, 1, none⟩ (.string ((qaf l0_3 x28_2).f1))).setCell ⟨gb403, 2, none⟩ (.string ((qaf l0_3 x28_2).f2))).setCell ⟨gb403, 3, none⟩ (.bool ((qaf l0_3 x28_2).f3))).setCell ⟨gb403, 4, none⟩ (.bool ((qaf l0_3 x28_2).f4)))) := ⟨by repeat (first | (with_reducible first | exact HB.out | apply qac | apply qaa | apply qab | refine qah ?_ GE399.out | refine qah ?_ GE403.out) | exact HB.out)⟩
              (try clear BK399)
              (try clear BK403)
              (try clear HB)
              generalize (((((w23.setCell ⟨gb403, 0, none⟩ (.string ((qaf l0_3 x28_2).f0))).setCell ⟨gb403, 1, none⟩ (.string ((qaf l0_3 x28_2).f1))).setCell ⟨gb403, 2, none⟩ (.string ((qaf l0_3 x28_2).f2))).setCell ⟨gb403, 3, none⟩ (.bool ((qaf l0_3 x28_2).f3))).setCell ⟨gb403, 4, none⟩ (.bool ((qaf l0_3 x28_2).f4))) = w26 at n0_ n1_ n2_ ⊢
              have BK399 := n0_
              have BK403 := n1_
              have HB := n2_
              clear n0_ n1_ n2_
              have n0_ := Aside0.mk (qal BK399.out)
              have n1_ := Aside0.mk (qal BK403.out)
              have n2_ := Aside0.mk (qab HB.out)
              clear BK399 BK403 HB
              have BK399 := n0_
              have BK403 := n1_
              have HB := n2_
              clear n0_ n1_ n2_
              have p405 : 0 ≤ ((ji19) : Int) := of_decide_eq_true (by first | (with_reducible assumption) | assumption)
              have q405 : (ji19) < (l0_3.length : Int) := of_decide_eq_true (by first | (with_reducible assumption) | assumption)
              obtain ⟨ad405, e405, hx405_0, hx405_1, hx405_2, hx405_3, hx405_4⟩ := qdd HR0_3.out (ji19) p405 q405
              have hw405_4 := hx405_4
              have hw405_3 := hx405_3
              have hw405_2 := hx405_2
              have hw405_1 := hx405_1
              have hw405_0 := hx405_0
              obtain rfl : ad402 = ad405 := (by injection e405)
              replace hx405_0 := (HB.out.cell (World.block_lt_of_cell? w _ hx405_0)).trans hx405_0
              replace hx405_1 := (HB.out.cell (World.block_lt_of_cell? w _ hx405_1)).trans hx405_1
              replace hx405_2 := (HB.out.cell (World.block_lt_of_cell? w _ hx405_2)).trans hx405_2
              replace hx405_3 := (HB.out.cell (World.block_lt_of_cell? w _ hx405_3)).trans hx405_3
              replace hx405_4 := (HB.out.cell (World.block_lt_of_cell? w _ hx405_4)).trans hx405_4
              replace p405 := eq_true p405
              replace q405 := eq_true q405
              refine qbq (by kernel_rfl) (by kernel_rfl) ?_
              have hL0_ := Aside0.mk (show w26.drew.cell? ⟨gb403, 0, none⟩ = some (.string ((qaf l0_3 x28_2).f0)) from (qad BK403.out 0).trans rfl)
              have hL1_ := Aside0.mk (show w26.drew.cell? ⟨gb403, 1, none⟩ = some (.string ((qaf l0_3 x28_2).f1)) from (qad BK403.out 1).trans rfl)
              have hL2_ := Aside0.mk (show w26.drew.cell? ⟨gb403, 2, none⟩ = some (.string ((qaf l0_3 x28_2).f2)) from (qad BK403.out 2).trans rfl)
              have hL3_ := Aside0.mk (show w26.drew.cell? ⟨gb403, 3, none⟩ = some (.bool ((qaf l0_3 x28_2).f3)) from (qad BK403.out 3).trans rfl)
              have hL4_ := Aside0.mk (show w26.drew.cell? ⟨gb403, 4, none⟩ = some (.bool ((qaf l0_3 x28_2).f4)) from (qad BK403.out 4).trans rfl)
              have hL5_ := Aside0.mk (show w26.drew.cell? ⟨gb399, 0, none⟩ = some (.string a0_0) from (qad BK399.out 0).trans rfl)
              have hL6_ := Aside0.mk (show w26.drew.cell? ⟨gb399, 1, none⟩ = some (.string a0_1) from (qad BK399.out 1).trans rfl)
              have hL7_ := Aside0.mk (show w26.drew.cell? ⟨gb399, 2, none⟩ = some (.int .i64 a0_2) from (qad BK399.out 2).trans rfl)
              have hL8_ := Aside0.mk (show w26.drew.cell? ⟨gb399, 3, none⟩ = some (.slice (some ad402) l0_3.length c0_3) from (qad BK399.out 3).trans rfl)
              have hL9_ := Aside0.mk (show w26.drew.cell? ⟨gb399, 4, none⟩ = some (.int .i64 a0_4) from (qad BK399.out 4).trans rfl)
              have hL10_ := Aside0.mk (show w26.drew.cell? (ad402.add (((ji19)).toNat * 5)) = some (.string ((qaf l0_3 (ji19)).f0)) from ((HB.out.cell (World.block_lt_of_cell? w _ hw405_0)).trans hw405_0))
              have hL11_ := Aside0.mk (show w26.drew.cell? ⟨(ad402.add (((ji19)).toNat * 5)).block, (ad402.add (((ji19)).toNat * 5)).off + 1, none⟩ = some (.string ((qaf l0_3 (ji19)).f1)) from ((HB.out.cell (World.block_lt_of_cell? w _ hw405_1)).trans hw405_1))
              have hL12_ := Aside0.mk (show w26.drew.cell? ⟨(ad402.add (((ji19)).toNat * 5)).block, (ad402.add (((ji19)).toNat * 5)).off + 2, none⟩ = some (.string ((qaf l0_3 (ji19)).f2)) from ((HB.out.cell (World.block_lt_of_cell? w _ hw405_2)).trans hw405_2))
              have hL13_ := Aside0.mk (show w26.drew.cell? ⟨(ad402.add (((ji19)).toNat * 5)).block, (ad402.add (((ji19)).toNat * 5)).off + 3, none⟩ = some (.bool ((qaf l0_3 (ji19)).f3)) from ((HB.out.cell (World.block_lt_of_cell? w _ hw405_3)).trans hw405_3))
              have hL14_ := Aside0.mk (show w26.drew.cell? ⟨(ad402.add (((ji19)).toNat * 5)).block, (ad402.add (((ji19)).toNat * 5)).off + 4, none⟩ = some (.bool ((qaf l0_3 (ji19)).f4)) from ((HB.out.cell (World.block_lt_of_cell? w _ hw405_4)).trans hw405_4))
              generalize w26.drew = w27 at BK399 BK403 HB hx405_0 hx405_1 hx405_2 hx405_3 hx405_4 hL0_ hL1_ hL2_ hL3_ hL4_ hL5_ hL6_ hL7_ hL8_ hL9_ hL10_ hL11_ hL12_ hL13_ hL14_ ⊢
              clear hx405_0 hx405_1 hx405_2 hx405_3 hx405_4
              have hL0 := fun (p_ : Later w27) => Later.cell p_ hL0_.out
              have hL1 := fun (p_ : Later w27) => Later.cell p_ hL1_.out
              have hL2 := fun (p_ : Later w27) => Later.cell p_ hL2_.out
              have hL3 := fun (p_ : Later w27) => Later.cell p_ hL3_.out
              have hL4 := fun (p_ : Later w27) => Later.cell p_ hL4_.out
              have hL5 := fun (p_ : Later w27) => Later.cell p_ hL5_.out
              have hL6 := fun (p_ : Later w27) => Later.cell p_ hL6_.out
              have hL7 := fun (p_ : Later w27) => Later.cell p_ hL7_.out
              have hL8 := fun (p_ : Later w27) => Later.cell p_ hL8_.out
              have hL9 := fun (p_ : Later w27) => Later.cell p_ hL9_.out
              have hL10 := fun (p_ : Later w27) => Later.cell p_ hL10_.out
              have hL11 := fun (p_ : Later w27) => Later.cell p_ hL11_.out
              have hL12 := fun (p_ : Later w27) => Later.cell p_ hL12_.out
              have hL13 := fun (p_ : Later w27) => Later.cell p_ hL13_.out
              have hL14 := fun (p_ : Later w27) => Later.cell p_ hL14_.out
              clear hL0_ hL1_ hL2_ hL3_ hL4_ hL5_ hL6_ hL7_ hL8_ hL9_ hL10_ hL11_ hL12_ hL13_ hL14_
              repeat (first | go_big_quiet_step ((first | (go_at_call 39; exact Calls.qbI (qbt.calls ((qaf l0_3 x28_2).f0) ((qaf l0_3 x28_2).f1) ((qaf l0_3 x28_2).f2) ((qaf l0_3 x28_2).f3) ((qaf l0_3 x28_2).f4) true _ A16.out)))) | quiet_step ((first | (go_at_call 39; exact Calls.qbI (qbt.calls ((qaf l0_3 x28_2).f0) ((qaf l0_3 x28_2).f1) ((qaf l0_3 x28_2).f2) ((qaf l0_3 x28_2).f3) ((qaf l0_3 x28_2).f4) true _ A16.out)))))
              refine wpQuiet_nil ?_
              rintro w28 ⟨⟨wq_, hbL⟩, hq_⟩
              have hq2_ : w28 = wq_ := hq_
              clear hq_
              subst hq2_
              clear hL0 hL1 hL2 hL3 hL4 hL5 hL6 hL7 hL8 hL9 hL10 hL11 hL12 hL13 hL14
              have nBK399_ := Aside0.mk ((hbL.block _ (qbm BK399.out)).trans BK399.out)
              have nBK403_ := Aside0.mk ((hbL.block _ (qbm BK403.out)).trans BK403.out)
              have nHB_ := Aside0.mk (qag HB.out hbL)
              clear BK399 BK403 HB
              have BK399 := nBK399_
              have BK403 := nBK403_
              have HB := nHB_
              clear nBK399_ nBK403_ nHB_ hbL
              try go_wp2
              go_roundg k2
              case measure => have := HJ1.out; have := HK2.out; omega
              case rel => exact ⟨(wrap64 (x28_2 + 1)), (by first | rfl | (simp; done) | (simp [*]; done)), H', ⟨by have := HJ1.out; have := HK2.out; omega⟩, ⟨by (with_reducible repeat (first | refine qaj ?_ _ | refine qal ?_ | refine qai ?_ _)); exact BK399.out⟩, ⟨by repeat (first | (with_reducible first | exact HB.out | apply qac | apply qaa | apply qab | refine qah ?_ GE399.out | refine qah ?_ GE403.out) | exact HB.out)⟩⟩
             ·rw [if_neg c22] at H
              have c22b0 : (Op.bytesLess (((qaf l0_3 (ji19)).f0).toList) (((qaf l0_3 x28_2).f0).toList)) = false := by simpa using c22
              clear c22
              obtain rfl := Option.some.inj H
              have p402 : 0 ≤ (x28_2 : Int) := of_decide_eq_true (by first | (with_reducible assumption) | assumption)
              have q402 : x28_2 < (l0_3.length : Int) := of_decide_eq_true (by first | (with_reducible assumption) | assumption)
              obtain ⟨ad402, e402, hx402_0, hx402_1, hx402_2, hx402_3, hx402_4⟩ := qdd HR0_3.out x28_2 p402 q402
              cases e402
              replace hx402_0 := (HB.out.cell (World.block_lt_of_cell? w _ hx402_0)).trans hx402_0
              replace hx402_1 := (HB.out.cell (World.block_lt_of_cell? w _ hx402_1)).trans hx402_1
              replace hx402_2 := (HB.out.cell (World.block_lt_of_cell? w _ hx402_2)).trans hx402_2
              replace hx402_3 := (HB.out.cell (World.block_lt_of_cell? w _ hx402_3)).trans hx402_3
              replace hx402_4 := (HB.out.cell (World.block_lt_of_cell? w _ hx402_4)).trans hx402_4
              replace p402 := eq_true p402
              replace q402 := eq_true q402
              try go_wp2_with (first | ((with_reducible refine qaM (N := 4) rfl ?_); (try (refine qbZ (by rfl) ?_; dsimp only)); refine qaN ?hg (N := 4) ?hd (cs := #[.string (⟨#[]⟩ : ByteArray), .string (⟨#[]⟩ : ByteArray), .string (⟨#[]⟩ : ByteArray), .bool false, .bool false]) (t := 56) ?hr ?_; (case hd => rfl); (case hg => rfl); (case hr => first | (go_simp; done) | (go_simp; rfl)); intro gb403 hg w29 hbox hb; have n0_ := Aside0.mk (qao (g := gb399) (o := .cells #[.string a0_0, .string a0_1, .int .i64 a0_2, .slice (some ad402) l0_3.length c0_3, .int .i64 a0_4] 41 (0, 0)) (by (with_reducible repeat (first | refine qaj ?_ _ | refine qal ?_ | refine qai ?_ _)); exact BK399.out) hb); have n1_ := Aside0.mk (qag (by repeat (first | (with_reducible first | exact HB.out | apply qac | apply qaa | apply qab | refine qah ?_ GE399.out) | exact HB.out)) hb); have n2_ := Aside0.mk (hbox); have n3_ := Aside0.mk ((by rw [hg]; exact (qak (by repeat (first | (with_reducible first | exact HB.out | apply qac | apply qaa | apply qab | refine qah ?_ GE399.out) | exact HB.out))) : w.heap.size ≤ gb403)); have n4_ := Aside0.mk ((by rw [hg]; exact (qak (by repeat (first | (with_reducible first | exact HB.out | apply qac | apply qaa | apply qab | refine qah ?_ GE399.out) | exact HB.out))) : w.heap.size ≤ gb403)); have n5_ := Aside0.mk ((by rw [hg]; exact Nat.ne_of_lt (qbm (g := gb399) (o := .cells #[.string a0_0, .string a0_1, .int .i64 a0_2, .slice (some ad402) l0_3.length c0_3, .int .i64 a0_4] 41 (0, 0)) (by (with_reducible repeat (first | refine qaj ?_ _ | refine qal ?_ | refine qai ?_ _)); exact BK399.out)) : gb399 ≠ gb403)); have n6_ := Aside0.mk ((by rw [hg]; exact Nat.ne_of_gt (qbm (g := gb399) (o := .cells #[.string a0_0, .string a0_1, .int .i64 a0_2, .slice (some ad402) l0_3.length c0_3, .int .i64 a0_4] 41 (0, 0)) (by (with_reducible repeat (first | refine qaj ?_ _ | refine qal ?_ | refine qai ?_ _)); exact BK399.out)) : gb403 ≠ gb399)); clear BK399 HB; have BK399 := n0_; have HB := n1_; have BK403 := n2_; have GW403 := n3_; have GE403 := n4_; have NB399_403 := n5_; have NB403_399 := n6_; clear n0_ n1_ n2_ n3_ n4_ n5_ n6_ hb hbox hg; have hnb30 := NB403_399.out; have hnc30 := NB399_403.out; have hcz31_0 : w29.cell? ⟨gb403, 0, none⟩ = some (.string (⟨#[]⟩ : ByteArray)) := (qad BK403.out 0).trans rfl; have hcz31_1 : w29.cell? ⟨gb403, 1, none⟩ = some (.string (⟨#[]⟩ : ByteArray)) := (qad BK403.out 1).trans rfl; have hcz31_2 : w29.cell? ⟨gb403, 2, none⟩ = some (.string (⟨#[]⟩ : ByteArray)) := (qad BK403.out 2).trans rfl; have hcz31_3 : w29.cell? ⟨gb403, 3, none⟩ = some (.bool false) := (qad BK403.out 3).trans rfl; have hcz31_4 : w29.cell? ⟨gb403, 4, none⟩ = some (.bool false) := (qad BK403.out 4).trans rfl; have hfz31_0 := qae BK403.out 0; have hfz31_1 := qae BK403.out 1; have hfz31_2 := qae BK403.out 2; have hfz31_3 := qae BK403.out 3; have hfz31_4 := qae BK403.out 4))
              have n0_ : Aside0 ((((((w29.setCell ⟨gb403, 0, none⟩ (.string ((qaf l0_3 x28_2).f0))).setCell ⟨gb403, 1, none⟩ (.string ((qaf l0_3 x28_2).f1))).setCell ⟨gb403, 2, none⟩ (.string ((qaf l0_3 x28_2).f2))).setCell ⟨gb403, 3, none⟩ (.bool ((qaf l0_3 x28_2).f3))).setCell ⟨gb403, 4, none⟩ (.bool ((qaf l0_3 x28_2).f4))).heap[gb399]? = some (.cells #[.string a0_0, .string a0_1, .int .i64 a0_2, .slice (some ad402) l0_3.length c0_3, .int .i64 a0_4] 41 (0, 0))) := ⟨by (with_reducible repeat (first | refine qaj ?_ _ | refine qal ?_ | refine qai ?_ _)); refine qbH ?_ NB399_403.out _; (with_reducible repeat (first | refine qaj ?_ _ | refine qal ?_ | refine qai ?_ _)); refine qbH ?_ NB399_403.out _; (with_reducible repeat (first | refine qaj ?_ _ | refine qal ?_ | refine qai ?_ _)); refine qbH ?_ NB399_403.out _; (with_reducible repeat (first | refine qaj ?_ _ | refine qal ?_ | refine qai ?_ _)); refine qbH ?_ NB399_403.out _; (with_reducible repeat (first | refine qaj ?_ _ | refine qal ?_ | refine qai ?_ _)); refine qbH ?_ NB399_403.out _; (with_reducible repeat (first | refine qaj ?_ _ | refine qal ?_ | refine qai ?_ _)); exact BK399.out⟩
              have n1_ : Aside0 ((((((w29.setCell ⟨gb403, 0, none⟩ (.string ((qaf l0_3 x28_2).f0))).setCell ⟨gb403, 1, none⟩ (.string ((qaf l0_3 x28_2).f1))).setCell ⟨gb403, 2, none⟩ (.string ((qaf l0_3 x28_2).f2))).setCell ⟨gb403, 3, none⟩ (.bool ((qaf l0_3 x28_2).f3))).setCell ⟨gb403, 4, none⟩ (.bool ((qaf l0_3 x28_2).f4))).heap[gb403]? = some (.cells #[.string ((qaf l0_3 x28_2).f0), .string ((qaf l0_3 x28_2).f1), .string ((qaf l0_3 x28_2).f2), .bool ((qaf l0_3 x28_2).f3), .bool ((qaf l0_3 x28_2).f4)] 56 (0, 0))) := ⟨by (with_reducible repeat (first | refine qaj ?_ _ | refine qal ?_ | refine qai ?_ _)); refine qaY (cs := #[.string ((qaf l0_3 x28_2).f0), .string ((qaf l0_3 x28_2).f1), .string ((qaf l0_3 x28_2).f2), .bool ((qaf l0_3 x28_2).f3), .bool false]) ?_ 4 _ rfl; (with_reducible repeat (first | refine qaj ?_ _ | refine qal ?_ | refine qai ?_ _)); refine qaY (cs := #[.string ((qaf l0_3 x28_2).f0), .string ((qaf l0_3 x28_2).f1), .string ((qaf l0_3 x28_2).f2), .bool false, .bool false]) ?_ 3 _ rfl; (with_reducible repeat (first | refine qaj ?_ _ | refine qal ?_ | refine qai ?_ _)); refine qaY (cs := #[.string ((qaf l0_3 x28_2).f0), .string ((qaf l0_3 x28_2).f1), .string (⟨#[]⟩ : ByteArray), .bool false, .bool false]) ?_ 2 _ rfl; (with_reducible repeat (first | refine qaj ?_ _ | refine qal ?_ | refine qai ?_ _)); refine qaY (cs := #[.string ((qaf l0_3 x28_2).f0), .string (⟨#[]⟩ : ByteArray), .string (⟨#[]⟩ : ByteArray), .bool false, .bool false]) ?_ 1 _ rfl; (with_reducible repeat (first | refine qaj ?_ _ | refine qal ?_ | refine qai ?_ _)); refine qaY (cs := #[.string (⟨#[]⟩ : ByteArray), .string (⟨#[]⟩ : ByteArray), .string (⟨#[]⟩ : ByteArray), .bool false, .bool false]) ?_ 0 _ rfl; (with_reducible repeat (first | refine qaj ?_ _ | refine qal ?_ | refine qai ?_ _)); exact BK403.out⟩
              have n2_ : Aside0 (Below w.heap.size w (((((w29.setCell ⟨gb403, 0, none⟩ (.string ((qaf l0_3 x28_2).f0))).setCell ⟨gb403, 1, none⟩ (.string ((qaf l0_3 x28_2).f1))).setCell ⟨gb403, 2, none⟩ (.string ((qaf l0_3 x28_2).f2))).setCell ⟨gb403, 3, none⟩ (.bool ((qaf l0_3 x28_2).f3))).setCell ⟨gb403, 4, none⟩ (.bool ((qaf l0_3 x28_2).f4)))) := ⟨by repeat (first | (with_reducible first | exact HB.out | apply qac | apply qaa | apply qab | refine qah ?_ GE399.out | refine qah ?_ GE403.out) | exact HB.out)⟩
              (try clear BK399)
              (try clear BK403)
              (try clear HB)
              generalize (((((w29.setCell ⟨gb403, 0, none⟩ (.string ((qaf l0_3 x28_2).f0))).setCell ⟨gb403, 1, none⟩ (.string ((qaf l0_3 x28_2).f1))).setCell ⟨gb403, 2, none⟩ (.string ((qaf l0_3 x28_2).f2))).setCell ⟨gb403, 3, none⟩ (.bool ((qaf l0_3 x28_2).f3))).setCell ⟨gb403, 4, none⟩ (.bool ((qaf l0_3 x28_2).f4))) = w32 at n0_ n1_ n2_ ⊢
              have BK399 := n0_
              have BK403 := n1_
              have HB := n2_
              clear n0_ n1_ n2_
              have n0_ := Aside0.mk (qal BK399.out)
              have n1_ := Aside0.mk (qal BK403.out)
              have n2_ := Aside0.mk (qab HB.out)
              clear BK399 BK403 HB
              have BK399 := n0_
              have BK403 := n1_
              have HB := n2_
              clear n0_ n1_ n2_
              have p405 : 0 ≤ ((ji19) : Int) := of_decide_eq_true (by first | (with_reducible assumption) | assumption)
              have q405 : (ji19) < (l0_3.length : Int) := of_decide_eq_true (by first | (with_reducible assumption) | assumption)
              obtain ⟨ad405, e405, hx405_0, hx405_1, hx405_2, hx405_3, hx405_4⟩ := qdd HR0_3.out (ji19) p405 q405
              have hw405_4 := hx405_4
              have hw405_3 := hx405_3
              have hw405_2 := hx405_2
              have hw405_1 := hx405_1
              have hw405_0 := hx405_0
              obtain rfl : ad402 = ad405 := (by injection e405)
              replace hx405_0 := (HB.out.cell (World.block_lt_of_cell? w _ hx405_0)).trans hx405_0
              replace hx405_1 := (HB.out.cell (World.block_lt_of_cell? w _ hx405_1)).trans hx405_1
              replace hx405_2 := (HB.out.cell (World.block_lt_of_cell? w _ hx405_2)).trans hx405_2
              replace hx405_3 := (HB.out.cell (World.block_lt_of_cell? w _ hx405_3)).trans hx405_3
              replace hx405_4 := (HB.out.cell (World.block_lt_of_cell? w _ hx405_4)).trans hx405_4
              replace p405 := eq_true p405
              replace q405 := eq_true q405
              refine qbq (by kernel_rfl) (by kernel_rfl) ?_
              have hL0_ := Aside0.mk (show w32.drew.cell? ⟨gb403, 0, none⟩ = some (.string ((qaf l0_3 x28_2).f0)) from (qad BK403.out 0).trans rfl)
              have hL1_ := Aside0.mk (show w32.drew.cell? ⟨gb403, 1, none⟩ = some (.string ((qaf l0_3 x28_2).f1)) from (qad BK403.out 1).trans rfl)
              have hL2_ := Aside0.mk (show w32.drew.cell? ⟨gb403, 2, none⟩ = some (.string ((qaf l0_3 x28_2).f2)) from (qad BK403.out 2).trans rfl)
              have hL3_ := Aside0.mk (show w32.drew.cell? ⟨gb403, 3, none⟩ = some (.bool ((qaf l0_3 x28_2).f3)) from (qad BK403.out 3).trans rfl)
              have hL4_ := Aside0.mk (show w32.drew.cell? ⟨gb403, 4, none⟩ = some (.bool ((qaf l0_3 x28_2).f4)) from (qad BK403.out 4).trans rfl)
              have hL5_ := Aside0.mk (show w32.drew.cell? ⟨gb399, 0, none⟩ = some (.string a0_0) from (qad BK399.out 0).trans rfl)
              have hL6_ := Aside0.mk (show w32.drew.cell? ⟨gb399, 1, none⟩ = some (.string a0_1) from (qad BK399.out 1).trans rfl)
              have hL7_ := Aside0.mk (show w32.drew.cell? ⟨gb399, 2, none⟩ = some (.int .i64 a0_2) from (qad BK399.out 2).trans rfl)
              have hL8_ := Aside0.mk (show w32.drew.cell? ⟨gb399, 3, none⟩ = some (.slice (some ad402) l0_3.length c0_3) from (qad BK399.out 3).trans rfl)
              have hL9_ := Aside0.mk (show w32.drew.cell? ⟨gb399, 4, none⟩ = some (.int .i64 a0_4) from (qad BK399.out 4).trans rfl)
              have hL10_ := Aside0.mk (show w32.drew.cell? (ad402.add (((ji19)).toNat * 5)) = some (.string ((qaf l0_3 (ji19)).f0)) from ((HB.out.cell (World.block_lt_of_cell? w _ hw405_0)).trans hw405_0))
              have hL11_ := Aside0.mk (show w32.drew.cell? ⟨(ad402.add (((ji19)).toNat * 5)).block, (ad402.add (((ji19)).toNat * 5)).off + 1, none⟩ = some (.string ((qaf l0_3 (ji19)).f1)) from ((HB.out.cell (World.block_lt_of_cell? w _ hw405_1)).trans hw405_1))
              have hL12_ := Aside0.mk (show w32.drew.cell? ⟨(ad402.add (((ji19)).toNat * 5)).block, (ad402.add (((ji19)).toNat * 5)).off + 2, none⟩ = some (.string ((qaf l0_3 (ji19)).f2)) from ((HB.out.cell (World.block_lt_of_cell? w _ hw405_2)).trans hw405_2))
              have hL13_ := Aside0.mk (show w32.drew.cell? ⟨(ad402.add (((ji19)).toNat * 5)).block, (ad402.add (((ji19)).toNat * 5)).off + 3, none⟩ = some (.bool ((qaf l0_3 (ji19)).f3)) from ((HB.out.cell (World.block_lt_of_cell? w _ hw405_3)).trans hw405_3))
              have hL14_ := Aside0.mk (show w32.drew.cell? ⟨(ad402.add (((ji19)).toNat * 5)).block, (ad402.add (((ji19)).toNat * 5)).off + 4, none⟩ = some (.bool ((qaf l0_3 (ji19)).f4)) from ((HB.out.cell (World.block_lt_of_cell? w _ hw405_4)).trans hw405_4))
              generalize w32.drew = w33 at BK399 BK403 HB hx405_0 hx405_1 hx405_2 hx405_3 hx405_4 hL0_ hL1_ hL2_ hL3_ hL4_ hL5_ hL6_ hL7_ hL8_ hL9_ hL10_ hL11_ hL12_ hL13_ hL14_ ⊢
              clear hx405_0 hx405_1 hx405_2 hx405_3 hx405_4
              have hL0 := fun (p_ : Later w33) => Later.cell p_ hL0_.out
              have hL1 := fun (p_ : Later w33) => Later.cell p_ hL1_.out
              have hL2 := fun (p_ : Later w33) => Later.cell p_ hL2_.out
              have hL3 := fun (p_ : Later w33) => Later.cell p_ hL3_.out
              have hL4 := fun (p_ : Later w33) => Later.cell p_ hL4_.out
              have hL5 := fun (p_ : Later w33) => Later.cell p_ hL5_.out
              have hL6 := fun (p_ : Later w33) => Later.cell p_ hL6_.out
              have hL7 := fun (p_ : Later w33) => Later.cell p_ hL7_.out
              have hL8 := fun (p_ : Later w33) => Later.cell p_ hL8_.out
              have hL9 := fun (p_ : Later w33) => Later.cell p_ hL9_.out
              have hL10 := fun (p_ : Later w33) => Later.cell p_ hL10_.out
              have hL11 := fun (p_ : Later w33) => Later.cell p_ hL11_.out
              have hL12 := fun (p_ : Later w33) => Later.cell p_ hL12_.out
              have hL13 := fun (p_ : Later w33) => Later.cell p_ hL13_.out
              have hL14 := fun (p_ : Later w33) => Later.cell p_ hL14_.out
              clear hL0_ hL1_ hL2_ hL3_ hL4_ hL5_ hL6_ hL7_ hL8_ hL9_ hL10_ hL11_ hL12_ hL13_ hL14_
              repeat (first | go_big_quiet_step ((first | (go_at_call 39; exact Calls.qbI (qbt.calls ((qaf l0_3 x28_2).f0) ((qaf l0_3 x28_2).f1) ((qaf l0_3 x28_2).f2) ((qaf l0_3 x28_2).f3) ((qaf l0_3 x28_2).f4) true _ A16.out)))) | quiet_step ((first | (go_at_call 39; exact Calls.qbI (qbt.calls ((qaf l0_3 x28_2).f0) ((qaf l0_3 x28_2).f1) ((qaf l0_3 x28_2).f2) ((qaf l0_3 x28_2).f3) ((qaf l0_3 x28_2).f4) true _ A16.out)))))
              refine wpQuiet_nil ?_
              rintro w34 ⟨⟨wq_, hbL⟩, hq_⟩
              have hq2_ : w34 = wq_ := hq_
              clear hq_
              subst hq2_
              clear hL0 hL1 hL2 hL3 hL4 hL5 hL6 hL7 hL8 hL9 hL10 hL11 hL12 hL13 hL14
              have nBK399_ := Aside0.mk ((hbL.block _ (qbm BK399.out)).trans BK399.out)
              have nBK403_ := Aside0.mk ((hbL.block _ (qbm BK403.out)).trans BK403.out)
              have nHB_ := Aside0.mk (qag HB.out hbL)
              clear BK399 BK403 HB
              have BK399 := nBK399_
              have BK403 := nBK403_
              have HB := nHB_
              clear nBK399_ nBK403_ nHB_ hbL
              try go_wp2
              go_ret
              exact ⟨by first | rfl | (simp [qam, qan] <;> rfl) | (simp only [← hji19]; first | rfl | (simp [qam, qan] <;> rfl)) | (simp [*, qam, qan] <;> rfl), by repeat (first | (with_reducible first | exact HB.out | apply qac | apply qaa | apply qab | refine qah ?_ GE399.out | refine qah ?_ GE403.out) | exact HB.out)⟩
            ·rw [if_neg c21] at H
             exact absurd H (by simp)
           ·rw [if_neg c20] at H
            exact absurd H (by simp)
          ·rw [if_neg c18] at H
           have c18b0 : decide (0 < x28_2) = false := decide_eq_false c18
           clear c18
           have H' := Aside0.mk H
           clear H
           have p402 : 0 ≤ (x28_2 : Int) := of_decide_eq_true (by first | (with_reducible assumption) | assumption)
           have q402 : x28_2 < (l0_3.length : Int) := of_decide_eq_true (by first | (with_reducible assumption) | assumption)
           obtain ⟨ad402, e402, hx402_0, hx402_1, hx402_2, hx402_3, hx402_4⟩ := qdd HR0_3.out x28_2 p402 q402
           cases e402
           replace hx402_0 := (HB.out.cell (World.block_lt_of_cell? w _ hx402_0)).trans hx402_0
           replace hx402_1 := (HB.out.cell (World.block_lt_of_cell? w _ hx402_1)).trans hx402_1
           replace hx402_2 := (HB.out.cell (World.block_lt_of_cell? w _ hx402_2)).trans hx402_2
           replace hx402_3 := (HB.out.cell (World.block_lt_of_cell? w _ hx402_3)).trans hx402_3
           replace hx402_4 := (HB.out.cell (World.block_lt_of_cell? w _ hx402_4)).trans hx402_4
           replace p402 := eq_true p402
           replace q402 := eq_true q402
           try go_wp2_with (first | ((with_reducible refine qaM (N := 4) rfl ?_); (try (refine qbZ (by rfl) ?_; dsimp only)); refine qaN ?hg (N := 4) ?hd (cs := #[.string (⟨#[]⟩ : ByteArray), .string (⟨#[]⟩ : ByteArray), .string (⟨#[]⟩ : ByteArray), .bool false, .bool false]) (t := 56) ?hr ?_; (case hd => rfl); (case hg => rfl); (case hr => first | (go_simp; done) | (go_simp; rfl)); intro gb403 hg w35 hbox hb; have n0_ := Aside0.mk (qao (g := gb399) (o := .cells #[.string a0_0, .string a0_1, .int .i64 a0_2, .slice (some ad402) l0_3.length c0_3, .int .i64 a0_4] 41 (0, 0)) (by (with_reducible repeat (first | refine qaj ?_ _ | refine qal ?_ | refine qai ?_ _)); exact BK399.out) hb); have n1_ := Aside0.mk (qag (by repeat (first | (with_reducible first | exact HB.out | apply qac | apply qaa | apply qab | refine qah ?_ GE399.out) | exact HB.out)) hb); have n2_ := Aside0.mk (hbox); have n3_ := Aside0.mk ((by rw [hg]; exact (qak (by repeat (first | (with_reducible first | exact HB.out | apply qac | apply qaa | apply qab | refine qah ?_ GE399.out) | exact HB.out))) : w.heap.size ≤ gb403)); have n4_ := Aside0.mk ((by rw [hg]; exact (qak (by repeat (first | (with_reducible first | exact HB.out | apply qac | apply qaa | apply qab | refine qah ?_ GE399.out) | exact HB.out))) : w.heap.size ≤ gb403)); have n5_ := Aside0.mk ((by rw [hg]; exact Nat.ne_of_lt (qbm (g := gb399) (o := .cells #[.string a0_0, .string a0_1, .int .i64 a0_2, .slice (some ad402) l0_3.length c0_3, .int .i64 a0_4] 41 (0, 0)) (by (with_reducible repeat (first | refine qaj ?_ _ | refine qal ?_ | refine qai ?_ _)); exact BK399.out)) : gb399 ≠ gb403)); have n6_ := Aside0.mk ((by rw [hg]; exact Nat.ne_of_gt (qbm (g := gb399) (o := .cells #[.string a0_0, .string a0_1, .int .i64 a0_2, .slice (some ad402) l0_3.length c0_3, .int .i64 a0_4] 41 (0, 0)) (by (with_reducible repeat (first | refine qaj ?_ _ | refine qal ?_ | refine qai ?_ _)); exact BK399.out)) : gb403 ≠ gb399)); clear BK399 HB; have BK399 := n0_; have HB := n1_; have BK403 := n2_; have GW403 := n3_; have GE403 := n4_; have NB399_403 := n5_; have NB403_399 := n6_; clear n0_ n1_ n2_ n3_ n4_ n5_ n6_ hb hbox hg; have hnb36 := NB403_399.out; have hnc36 := NB399_403.out; have hcz37_0 : w35.cell? ⟨gb403, 0, none⟩ = some (.string (⟨#[]⟩ : ByteArray)) := (qad BK403.out 0).trans rfl; have hcz37_1 : w35.cell? ⟨gb403, 1, none⟩ = some (.string (⟨#[]⟩ : ByteArray)) := (qad BK403.out 1).trans rfl; have hcz37_2 : w35.cell? ⟨gb403, 2, none⟩ = some (.string (⟨#[]⟩ : ByteArray)) := (qad BK403.out 2).trans rfl; have hcz37_3 : w35.cell? ⟨gb403, 3, none⟩ = some (.bool false) := (qad BK403.out 3).trans rfl; have hcz37_4 : w35.cell? ⟨gb403, 4, none⟩ = some (.bool false) := (qad BK403.out 4).trans rfl; have hfz37_0 := qae BK403.out 0; have hfz37_1 := qae BK403.out 1; have hfz37_2 := qae BK403.out 2; have hfz37_3 := qae BK403.out 3; have hfz37_4 := qae BK403.out 4))
           have n0_ : Aside0 ((((((w35.setCell ⟨gb403, 0, none⟩ (.string ((qaf l0_3 x28_2).f0))).setCell ⟨gb403, 1, none⟩ (.string ((qaf l0_3 x28_2).f1))).setCell ⟨gb403, 2, none⟩ (.string ((qaf l0_3 x28_2).f2))).setCell ⟨gb403, 3, none⟩ (.bool ((qaf l0_3 x28_2).f3))).setCell ⟨gb403, 4, none⟩ (.bool ((qaf l0_3 x28_2).f4))).heap[gb399]? = some (.cells #[.string a0_0, .string a0_1, .int .i64 a0_2, .slice (some ad402) l0_3.length c0_3, .int .i64 a0_4] 41 (0, 0))) := ⟨by (with_reducible repeat (first | refine qaj ?_ _ | refine qal ?_ | refine qai ?_ _)); refine qbH ?_ NB399_403.out _; (with_reducible repeat (first | refine qaj ?_ _ | refine qal ?_ | refine qai ?_ _)); refine qbH ?_ NB399_403.out _; (with_reducible repeat (first | refine qaj ?_ _ | refine qal ?_ | refine qai ?_ _)); refine qbH ?_ NB399_403.out _; (with_reducible repeat (first | refine qaj ?_ _ | refine qal ?_ | refine qai ?_ _)); refine qbH ?_ NB399_403.out _; (with_reducible repeat (first | refine qaj ?_ _ | refine qal ?_ | refine qai ?_ _)); refine qbH ?_ NB399_403.out _; (with_reducible repeat (first | refine qaj ?_ _ | refine qal ?_ | refine qai ?_ _)); exact BK399.out⟩
           have n1_ : Aside0 ((((((w35.setCell ⟨gb403, 0, none⟩ (.string ((qaf l0_3 x28_2).f0))).setCell ⟨gb403, 1, none⟩ (.string ((qaf l0_3 x28_2).f1))).setCell ⟨gb403, 2, none⟩ (.string ((qaf l0_3 x28_2).f2))).setCell ⟨gb403, 3, none⟩ (.bool ((qaf l0_3 x28_2).f3))).setCell ⟨gb403, 4, none⟩ (.bool ((qaf l0_3 x28_2).f4))).heap[gb403]? = some (.cells #[.string ((qaf l0_3 x28_2).f0), .string ((qaf l0_3 x28_2).f1), .string ((qaf l0_3 x28_2).f2), .bool ((qaf l0_3 x28_2).f3), .bool ((qaf l0_3 x28_2).f4)] 56 (0, 0))) := ⟨by (with_reducible repeat (first | refine qaj ?_ _ | refine qal ?_ | refine qai ?_ _)); refine qaY (cs := #[.string ((qaf l0_3 x28_2).f0), .string ((qaf l0_3 x28_2).f1), .string ((qaf l0_3 x28_2).f2), .bool ((qaf l0_3 x28_2).f3), .bool false]) ?_ 4 _ rfl; (with_reducible repeat (first | refine qaj ?_ _ | refine qal ?_ | refine qai ?_ _)); refine qaY (cs := #[.string ((qaf l0_3 x28_2).f0), .string ((qaf l0_3 x28_2).f1), .string ((qaf l0_3 x28_2).f2), .bool false, .bool false]) ?_ 3 _ rfl; (with_reducible repeat (first | refine qaj ?_ _ | refine qal ?_ | refine qai ?_ _)); refine qaY (cs := #[.string ((qaf l0_3 x28_2).f0), .string ((qaf l0_3 x28_2).f1), .string (⟨#[]⟩ : ByteArray), .bool false, .bool false]) ?_ 2 _ rfl; (with_reducible repeat (first | refine qaj ?_ _ | refine qal ?_ | refine qai ?_ _)); refine qaY (cs := #[.string ((qaf l0_3 x28_2).f0), .string (⟨#[]⟩ : ByteArray), .string (⟨#[]⟩ : ByteArray), .bool false, .bool false]) ?_ 1 _ rfl; (with_reducible repeat (first | refine qaj ?_ _ | refine qal ?_ | refine qai ?_ _)); refine qaY (cs := #[.string (⟨#[]⟩ : ByteArray), .string (⟨#[]⟩ : ByteArray), .string (⟨#[]⟩ : ByteArray), .bool false, .bool false]) ?_ 0 _ rfl; (with_reducible repeat (first | refine qaj ?_ _ | refine qal ?_ | refine qai ?_ _)); exact BK403.out⟩
           have n2_ : Aside0 (Below w.heap.size w (((((w35.setCell ⟨gb403, 0, none⟩ (.string ((qaf l0_3 x28_2).f0))).setCell ⟨gb403, 1, none⟩ (.string ((qaf l0_3 x28_2).f1))).setCell ⟨gb403, 2, none⟩ (.string ((qaf l0_3 x28_2).f2))).setCell ⟨gb403, 3, none⟩ (.bool ((qaf l0_3 x28_2).f3))).setCell ⟨gb403, 4, none⟩ (.bool ((qaf l0_3 x28_2).f4)))) := ⟨by repeat (first | (with_reducible first | exact HB.out | apply qac | apply qaa | apply qab | refine qah ?_ GE399.out | refine qah ?_ GE403.out) | exact HB.out)⟩
           (try clear BK399)
           (try clear BK403)
           (try clear HB)
           generalize (((((w35.setCell ⟨gb403, 0, none⟩ (.string ((qaf l0_3 x28_2).f0))).setCell ⟨gb403, 1, none⟩ (.string ((qaf l0_3 x28_2).f1))).setCell ⟨gb403, 2, none⟩ (.string ((qaf l0_3 x28_2).f2))).setCell ⟨gb403, 3, none⟩ (.bool ((qaf l0_3 x28_2).f3))).setCell ⟨gb403, 4, none⟩ (.bool ((qaf l0_3 x28_2).f4))) = w38 at n0_ n1_ n2_ ⊢
           have BK399 := n0_
           have BK403 := n1_
           have HB := n2_
           clear n0_ n1_ n2_
           have n0_ := Aside0.mk (qal BK399.out)
           have n1_ := Aside0.mk (qal BK403.out)
           have n2_ := Aside0.mk (qab HB.out)
           clear BK399 BK403 HB
           have BK399 := n0_
           have BK403 := n1_
           have HB := n2_
           clear n0_ n1_ n2_
           refine qbq (by kernel_rfl) (by kernel_rfl) ?_
           have hL0_ := Aside0.mk (show w38.drew.cell? ⟨gb403, 0, none⟩ = some (.string ((qaf l0_3 x28_2).f0)) from (qad BK403.out 0).trans rfl)
           have hL1_ := Aside0.mk (show w38.drew.cell? ⟨gb403, 1, none⟩ = some (.string ((qaf l0_3 x28_2).f1)) from (qad BK403.out 1).trans rfl)
           have hL2_ := Aside0.mk (show w38.drew.cell? ⟨gb403, 2, none⟩ = some (.string ((qaf l0_3 x28_2).f2)) from (qad BK403.out 2).trans rfl)
           have hL3_ := Aside0.mk (show w38.drew.cell? ⟨gb403, 3, none⟩ = some (.bool ((qaf l0_3 x28_2).f3)) from (qad BK403.out 3).trans rfl)
           have hL4_ := Aside0.mk (show w38.drew.cell? ⟨gb403, 4, none⟩ = some (.bool ((qaf l0_3 x28_2).f4)) from (qad BK403.out 4).trans rfl)
           generalize w38.drew = w39 at BK399 BK403 HB hL0_ hL1_ hL2_ hL3_ hL4_ ⊢
           have hL0 := fun (p_ : Later w39) => Later.cell p_ hL0_.out
           have hL1 := fun (p_ : Later w39) => Later.cell p_ hL1_.out
           have hL2 := fun (p_ : Later w39) => Later.cell p_ hL2_.out
           have hL3 := fun (p_ : Later w39) => Later.cell p_ hL3_.out
           have hL4 := fun (p_ : Later w39) => Later.cell p_ hL4_.out
           clear hL0_ hL1_ hL2_ hL3_ hL4_
           repeat (first | go_big_quiet_step ((first | (go_at_call 39; exact Calls.qbI (qbt.calls ((qaf l0_3 x28_2).f0) ((qaf l0_3 x28_2).f1) ((qaf l0_3 x28_2).f2) ((qaf l0_3 x28_2).f3) ((qaf l0_3 x28_2).f4) true _ A16.out)))) | quiet_step ((first | (go_at_call 39; exact Calls.qbI (qbt.calls ((qaf l0_3 x28_2).f0) ((qaf l0_3 x28_2).f1) ((qaf l0_3 x28_2).f2) ((qaf l0_3 x28_2).f3) ((qaf l0_3 x28_2).f4) true _ A16.out)))))
           refine wpQuiet_nil ?_
           rintro w40 ⟨⟨wq_, hbL⟩, hq_⟩
           have hq2_ : w40 = wq_ := hq_
           clear hq_
           subst hq2_
           clear hL0 hL1 hL2 hL3 hL4
           have nBK399_ := Aside0.mk ((hbL.block _ (qbm BK399.out)).trans BK399.out)
           have nBK403_ := Aside0.mk ((hbL.block _ (qbm BK403.out)).trans BK403.out)
           have nHB_ := Aside0.mk (qag HB.out hbL)
           clear BK399 BK403 HB
           have BK399 := nBK399_
           have BK403 := nBK403_
           have HB := nHB_
           clear nBK399_ nBK403_ nHB_ hbL
           try go_wp2
           go_roundg k2
           case measure => have := HJ1.out; have := HK2.out; omega
           case rel => exact ⟨(wrap64 (x28_2 + 1)), (by first | rfl | (simp; done) | (simp [*]; done)), H', ⟨by have := HJ1.out; have := HK2.out; omega⟩, ⟨by (with_reducible repeat (first | refine qaj ?_ _ | refine qal ?_ | refine qai ?_ _)); exact BK399.out⟩, ⟨by repeat (first | (with_reducible first | exact HB.out | apply qac | apply qaa | apply qab | refine qah ?_ GE399.out | refine qah ?_ GE403.out) | exact HB.out)⟩⟩
         ·replace c17 := Bool.eq_false_iff.mpr c17
          subst c17
          have H1 : (some false) = some r := by rw [if_neg (show ¬ (false = true) by decide)] at H; exact H
          clear H
          have H := H1
          clear H1
          obtain rfl := Option.some.inj H
          have p402 : 0 ≤ (x28_2 : Int) := of_decide_eq_true (by first | (with_reducible assumption) | assumption)
          have q402 : x28_2 < (l0_3.length : Int) := of_decide_eq_true (by first | (with_reducible assumption) | assumption)
          obtain ⟨ad402, e402, hx402_0, hx402_1, hx402_2, hx402_3, hx402_4⟩ := qdd HR0_3.out x28_2 p402 q402
          cases e402
          replace hx402_0 := (HB.out.cell (World.block_lt_of_cell? w _ hx402_0)).trans hx402_0
          replace hx402_1 := (HB.out.cell (World.block_lt_of_cell? w _ hx402_1)).trans hx402_1
          replace hx402_2 := (HB.out.cell (World.block_lt_of_cell? w _ hx402_2)).trans hx402_2
          replace hx402_3 := (HB.out.cell (World.block_lt_of_cell? w _ hx402_3)).trans hx402_3
          replace hx402_4 := (HB.out.cell (World.block_lt_of_cell? w _ hx402_4)).trans hx402_4
          replace p402 := eq_true p402
          replace q402 := eq_true q402
          try go_wp2_with (first | ((with_reducible refine qaM (N := 4) rfl ?_); (try (refine qbZ (by rfl) ?_; dsimp only)); refine qaN ?hg (N := 4) ?hd (cs := #[.string (⟨#[]⟩ : ByteArray), .string (⟨#[]⟩ : ByteArray), .string (⟨#[]⟩ : ByteArray), .bool false, .bool false]) (t := 56) ?hr ?_; (case hd => rfl); (case hg => rfl); (case hr => first | (go_simp; done) | (go_simp; rfl)); intro gb403 hg w41 hbox hb; have n0_ := Aside0.mk (qao (g := gb399) (o := .cells #[.string a0_0, .string a0_1, .int .i64 a0_2, .slice (some ad402) l0_3.length c0_3, .int .i64 a0_4] 41 (0, 0)) (by (with_reducible repeat (first | refine qaj ?_ _ | refine qal ?_ | refine qai ?_ _)); exact BK399.out) hb); have n1_ := Aside0.mk (qag (by repeat (first | (with_reducible first | exact HB.out | apply qac | apply qaa | apply qab | refine qah ?_ GE399.out) | exact HB.out)) hb); have n2_ := Aside0.mk (hbox); have n3_ := Aside0.mk ((by rw [hg]; exact (qak (by repeat (first | (with_reducible first | exact HB.out | apply qac | apply qaa | apply qab | refine qah ?_ GE399.out) | exact HB.out))) : w.heap.size ≤ gb403)); have n4_ := Aside0.mk ((by rw [hg]; exact (qak (by repeat (first | (with_reducible first | exact HB.out | apply qac | apply qaa | apply qab | refine qah ?_ GE399.out) | exact HB.out))) : w.heap.size ≤ gb403)); have n5_ := Aside0.mk ((by rw [hg]; exact Nat.ne_of_lt (qbm (g := gb399) (o := .cells #[.string a0_0, .string a0_1, .int .i64 a0_2, .slice (some ad402) l0_3.length c0_3, .int .i64 a0_4] 41 (0, 0)) (by (with_reducible repeat (first | refine qaj ?_ _ | refine qal ?_ | refine qai ?_ _)); exact BK399.out)) : gb399 ≠ gb403)); have n6_ := Aside0.mk ((by rw [hg]; exact Nat.ne_of_gt (qbm (g := gb399) (o := .cells #[.string a0_0, .string a0_1, .int .i64 a0_2, .slice (some ad402) l0_3.length c0_3, .int .i64 a0_4] 41 (0, 0)) (by (with_reducible repeat (first | refine qaj ?_ _ | refine qal ?_ | refine qai ?_ _)); exact BK399.out)) : gb403 ≠ gb399)); clear BK399 HB; have BK399 := n0_; have HB := n1_; have BK403 := n2_; have GW403 := n3_; have GE403 := n4_; have NB399_403 := n5_; have NB403_399 := n6_; clear n0_ n1_ n2_ n3_ n4_ n5_ n6_ hb hbox hg; have hnb42 := NB403_399.out; have hnc42 := NB399_403.out; have hcz43_0 : w41.cell? ⟨gb403, 0, none⟩ = some (.string (⟨#[]⟩ : ByteArray)) := (qad BK403.out 0).trans rfl; have hcz43_1 : w41.cell? ⟨gb403, 1, none⟩ = some (.string (⟨#[]⟩ : ByteArray)) := (qad BK403.out 1).trans rfl; have hcz43_2 : w41.cell? ⟨gb403, 2, none⟩ = some (.string (⟨#[]⟩ : ByteArray)) := (qad BK403.out 2).trans rfl; have hcz43_3 : w41.cell? ⟨gb403, 3, none⟩ = some (.bool false) := (qad BK403.out 3).trans rfl; have hcz43_4 : w41.cell? ⟨gb403, 4, none⟩ = some (.bool false) := (qad BK403.out 4).trans rfl; have hfz43_0 := qae BK403.out 0; have hfz43_1 := qae BK403.out 1; have hfz43_2 := qae BK403.out 2; have hfz43_3 := qae BK403.out 3; have hfz43_4 := qae BK403.out 4))
          have n0_ : Aside0 ((((((w41.setCell ⟨gb403, 0, none⟩ (.string ((qaf l0_3 x28_2).f0))).setCell ⟨gb403, 1, none⟩ (.string ((qaf l0_3 x28_2).f1))).setCell ⟨gb403, 2, none⟩ (.string ((qaf l0_3 x28_2).f2))).setCell ⟨gb403, 3, none⟩ (.bool ((qaf l0_3 x28_2).f3))).setCell ⟨gb403, 4, none⟩ (.bool ((qaf l0_3 x28_2).f4))).heap[gb399]? = some (.cells #[.string a0_0, .string a0_1, .int .i64 a0_2, .slice (some ad402) l0_3.length c0_3, .int .i64 a0_4] 41 (0, 0))) := ⟨by (with_reducible repeat (first | refine qaj ?_ _ | refine qal ?_ | refine qai ?_ _)); refine qbH ?_ NB399_403.out _; (with_reducible repeat (first | refine qaj ?_ _ | refine qal ?_ | refine qai ?_ _)); refine qbH ?_ NB399_403.out _; (with_reducible repeat (first | refine qaj ?_ _ | refine qal ?_ | refine qai ?_ _)); refine qbH ?_ NB399_403.out _; (with_reducible repeat (first | refine qaj ?_ _ | refine qal ?_ | refine qai ?_ _)); refine qbH ?_ NB399_403.out _; (with_reducible repeat (first | refine qaj ?_ _ | refine qal ?_ | refine qai ?_ _)); refine qbH ?_ NB399_403.out _; (with_reducible repeat (first | refine qaj ?_ _ | refine qal ?_ | refine qai ?_ _)); exact BK399.out⟩
          have n1_ : Aside0 ((((((w41.setCell ⟨gb403, 0, none⟩ (.string ((qaf l0_3 x28_2).f0))).setCell ⟨gb403, 1, none⟩ (.string ((qaf l0_3 x28_2).f1))).setCell ⟨gb403, 2, none⟩ (.string ((qaf l0_3 x28_2).f2))).setCell ⟨gb403, 3, none⟩ (.bool ((qaf l0_3 x28_2).f3))).setCell ⟨gb403, 4, none⟩ (.bool ((qaf l0_3 x28_2).f4))).heap[gb403]? = some (.cells #[.string ((qaf l0_3 x28_2).f0), .string ((qaf l0_3 x28_2).f1), .string ((qaf l0_3 x28_2).f2), .bool ((qaf l0_3 x28_2).f3), .bool ((qaf l0_3 x28_2).f4)] 56 (0, 0))) := ⟨by (with_reducible repeat (first | refine qaj ?_ _ | refine qal ?_ | refine qai ?_ _)); refine qaY (cs := #[.string ((qaf l0_3 x28_2).f0), .string ((qaf l0_3 x28_2).f1), .string ((qaf l0_3 x28_2).f2), .bool ((qaf l0_3 x28_2).f3), .bool false]) ?_ 4 _ rfl; (with_reducible repeat (first | refine qaj ?_ _ | refine qal ?_ | refine qai ?_ _)); refine qaY (cs := #[.string ((qaf l0_3 x28_2).f0), .string ((qaf l0_3 x28_2).f1), .string ((qaf l0_3 x28_2).f2), .bool false, .bool false]) ?_ 3 _ rfl; (with_reducible repeat (first | refine qaj ?_ _ | refine qal ?_ | refine qai ?_ _)); refine qaY (cs := #[.string ((qaf l0_3 x28_2).f0), .string ((qaf l0_3 x28_2).f1), .string (⟨#[]⟩ : ByteArray), .bool false, .bool false]) ?_ 2 _ rfl; (with_reducible repeat (first | refine qaj ?_ _ | refine qal ?_ | refine qai ?_ _)); refine qaY (cs := #[.string ((qaf l0_3 x28_2).f0), .string (⟨#[]⟩ : ByteArray), .string (⟨#[]⟩ : ByteArray), .bool false, .bool false]) ?_ 1 _ rfl; (with_reducible repeat (first | refine qaj ?_ _ | refine qal ?_ | refine qai ?_ _)); refine qaY (cs := #[.string (⟨#[]⟩ : ByteArray), .string (⟨#[]⟩ : ByteArray), .string (⟨#[]⟩ : ByteArray), .bool false, .bool false]) ?_ 0 _ rfl; (with_reducible repeat (first | refine qaj ?_ _ | refine qal ?_ | refine qai ?_ _)); exact BK403.out⟩
          have n2_ : Aside0 (Below w.heap.size w (((((w41.setCell ⟨gb403, 0, none⟩ (.string ((qaf l0_3 x28_2).f0))).setCell ⟨gb403, 1, none⟩ (.string ((qaf l0_3 x28_2).f1))).setCell ⟨gb403, 2, none⟩ (.string ((qaf l0_3 x28_2).f2))).setCell ⟨gb403, 3, none⟩ (.bool ((qaf l0_3 x28_2).f3))).setCell ⟨gb403, 4, none⟩ (.bool ((qaf l0_3 x28_2).f4)))) := ⟨by repeat (first | (with_reducible first | exact HB.out | apply qac | apply qaa | apply qab | refine qah ?_ GE399.out | refine qah ?_ GE403.out) | exact HB.out)⟩
          (try clear BK399)
          (try clear BK403)
          (try clear HB)
          generalize (((((w41.setCell ⟨gb403, 0, none⟩ (.string ((qaf l0_3 x28_2).f0))).setCell ⟨gb403, 1, none⟩ (.string ((qaf l0_3 x28_2).f1))).setCell ⟨gb403, 2, none⟩ (.string ((qaf l0_3 x28_2).f2))).setCell ⟨gb403, 3, none⟩ (.bool ((qaf l0_3 x28_2).f3))).setCell ⟨gb403, 4, none⟩ (.bool ((qaf l0_3 x28_2).f4))) = w44 at n0_ n1_ n2_ ⊢
          have BK399 := n0_
          have BK403 := n1_
          have HB := n2_
          clear n0_ n1_ n2_
          have n0_ := Aside0.mk (qal BK399.out)
          have n1_ := Aside0.mk (qal BK403.out)
          have n2_ := Aside0.mk (qab HB.out)
          clear BK399 BK403 HB
          have BK399 := n0_
          have BK403 := n1_
          have HB := n2_
          clear n0_ n1_ n2_
          refine qbq (by kernel_rfl) (by kernel_rfl) ?_
          have hL0_ := Aside0.mk (show w44.drew.cell? ⟨gb403, 0, none⟩ = some (.string ((qaf l0_3 x28_2).f0)) from (qad BK403.out 0).trans rfl)
          have hL1_ := Aside0.mk (show w44.drew.cell? ⟨gb403, 1, none⟩ = some (.string ((qaf l0_3 x28_2).f1)) from (qad BK403.out 1).trans rfl)
          have hL2_ := Aside0.mk (show w44.drew.cell? ⟨gb403, 2, none⟩ = some (.string ((qaf l0_3 x28_2).f2)) from (qad BK403.out 2).trans rfl)
          have hL3_ := Aside0.mk (show w44.drew.cell? ⟨gb403, 3, none⟩ = some (.bool ((qaf l0_3 x28_2).f3)) from (qad BK403.out 3).trans rfl)
          have hL4_ := Aside0.mk (show w44.drew.cell? ⟨gb403, 4, none⟩ = some (.bool ((qaf l0_3 x28_2).f4)) from (qad BK403.out 4).trans rfl)
          generalize w44.drew = w45 at BK399 BK403 HB hL0_ hL1_ hL2_ hL3_ hL4_ ⊢
          have hL0 := fun (p_ : Later w45) => Later.cell p_ hL0_.out
          have hL1 := fun (p_ : Later w45) => Later.cell p_ hL1_.out
          have hL2 := fun (p_ : Later w45) => Later.cell p_ hL2_.out
          have hL3 := fun (p_ : Later w45) => Later.cell p_ hL3_.out
          have hL4 := fun (p_ : Later w45) => Later.cell p_ hL4_.out
          clear hL0_ hL1_ hL2_ hL3_ hL4_
          repeat (first | go_big_quiet_step ((first | (go_at_call 39; exact Calls.qbI (qbt.calls ((qaf l0_3 x28_2).f0) ((qaf l0_3 x28_2).f1) ((qaf l0_3 x28_2).f2) ((qaf l0_3 x28_2).f3) ((qaf l0_3 x28_2).f4) false _ A16.out)))) | quiet_step ((first | (go_at_call 39; exact Calls.qbI (qbt.calls ((qaf l0_3 x28_2).f0) ((qaf l0_3 x28_2).f1) ((qaf l0_3 x28_2).f2) ((qaf l0_3 x28_2).f3) ((qaf l0_3 x28_2).f4) false _ A16.out)))))
          refine wpQuiet_nil ?_
          rintro w46 ⟨⟨wq_, hbL⟩, hq_⟩
          have hq2_ : w46 = wq_ := hq_
          clear hq_
          subst hq2_
          clear hL0 hL1 hL2 hL3 hL4
          have nBK399_ := Aside0.mk ((hbL.block _ (qbm BK399.out)).trans BK399.out)
          have nBK403_ := Aside0.mk ((hbL.block _ (qbm BK403.out)).trans BK403.out)
          have nHB_ := Aside0.mk (qag HB.out hbL)
          clear BK399 BK403 HB
          have BK399 := nBK399_
          have BK403 := nBK403_
          have HB := nHB_
          clear nBK399_ nBK403_ nHB_ hbL
          try go_wp2
          go_ret
          exact ⟨by first | rfl | (simp [qam, qan] <;> rfl) | (simp [*, qam, qan] <;> rfl), by repeat (first | (with_reducible first | exact HB.out | apply qac | apply qaa | apply qab | refine qah ?_ GE399.out | refine qah ?_ GE403.out) | exact HB.out)⟩
        ·rw [if_neg c15] at H
         exact absurd H (by simp)
       ·rw [if_neg c14] at H
        exact absurd H (by simp)
      ·rw [if_neg c13] at H
       have c13b0 : decide (x28_2 < (l0_3.length : Int)) = false := decide_eq_false c13
       clear c13
       obtain rfl := Option.some.inj H
       go_wp2
       go_ret
       exact ⟨by first | rfl | (simp [qam, qan] <;> rfl) | (simp [*, qam, qan] <;> rfl), by repeat (first | (with_reducible first | exact HB.out | apply qac | apply qaa | apply qab | refine qah ?_ GE399.out) | exact HB.out)⟩
end Go.Proofs.Ytlkdcicpaneakaa.X
namespace Go.Proofs.Ytlkdcicpaneakaa.X
open Go.RowKit Go.Proofs.YtlkdcicpaneakaaW.PrintWords Go.Proofs.YtlkdcicpaneakaaW.PrintLast Go.Proofs.YtlkdcicpaneakaaW.PrintMore
attribute [local go_sem] qaA qaB qaC qaw qax qaH qaI qap qaq qay qaz
set_option linter.unusedVariables false
set_option linter.unusedSimpArgs false
theorem qeN (a b : ByteArray) (n : Int) (l : List S56) (s : Int) (hl : l.length < 9223372036854775807) : Ev (fun k => qav.l0 k l (l.length : Int) 0 a b n l s) (allB (qbU l) l.length) := by
 refine Ev.same (Ev.all (g := fun k x => qav.l0 k l (l.length : Int) x a b n l s) (qbU l) true l.length ?_ ?_) (by simp)
 ·refine Ev.succ ?_
  simp only [qav.l0]
  exact Ev.neg (by omega) (Ev.is rfl)
 ·intro i hi r h
  refine Ev.succ ?_
  simp only [qav.l0, qgB, Option.bind_some, qcu (n := i) (by omega)]
  refine Ev.pos (by omega) (Ev.pos (by omega) (Ev.pos (by omega) ?_))
  cases h1 : qbW (qaf l i) with
  | false => exact Ev.neg (by simp) (Ev.is (by simp [qbU, h1]))
  | true =>
   refine Ev.pos rfl ?_
   by_cases h0 : i = 0
   ·subst h0
    exact Ev.neg (by omega) (Ev.same h (by simp [qbU] at *; simp [h1]))
   ·simp only [qiy (n := i) (by omega) (by omega)]
    refine Ev.pos (by omega) (Ev.pos (by omega) (Ev.pos (by omega) ?_))
    cases h4 : Op.bytesLess (qaf l ((i - 1 : Nat) : Int)).f0.toList (qaf l i).f0.toList with
    | false => exact Ev.neg (by simp) (Ev.is (by simp [qbU, h4, h0]))
    | true => exact Ev.pos rfl (Ev.same h (by simp [qbU, h1, h4, h0]))
theorem qgb (a b : ByteArray) (n : Int) (l : List S56) (s : Int) (hl : l.length < 9223372036854775807) : Ev (fun k => qav.f k a b n l s) (qdY a b n l s) := by
 have hj : ∀ c : Bool, Ev (fun k => qav.j0 k c a b n l s) (!c && allB (qbU l) l.length) := by
  intro c
  refine Ev.succ ?_
  simp only [qav.j0]
  cases c with
  | true => exact Ev.pos rfl (Ev.is rfl)
  | false => exact Ev.neg (by simp) (Ev.same (qeN a b n l s hl) (by simp))
 unfold qav.f qdY
 simp only [qiz, Option.bind_some]
 refine Ev.bind (qiH a b n) ?_
 cases h1 : headB a b n with
 | false => exact Ev.neg (by simp) (Ev.same (hj true) (by simp))
 | true =>
  refine Ev.pos rfl ?_
  cases h2 : inB s 0 4294967295 with
  | false => exact Ev.neg (by simp) (Ev.same (hj true) (by simp))
  | true =>
   refine Ev.pos rfl (Ev.same (hj _) ?_)
   by_cases h3 : l.length ≤ 120
   ·simp [h3, show ¬ 120 < (l.length : Int) by omega]
   ·simp [h3, show 120 < (l.length : Int) by omega]
theorem qiZ {α : Type} {l : List α} {f g : α → Bool} (h : ∀ x, x ∈ l → f x = g x) : l.any f = l.any g := by
 induction l with
 | nil => rfl
 | cons a l ih => simp only [List.any_cons]; rw [h a List.mem_cons_self, ih fun x hx => h x (List.mem_cons_of_mem _ hx)]
theorem Ev.list {α β : Type} {l : List α} {g : Nat → α → Option β} {v : α → β} (h : ∀ x, x ∈ l → Ev (fun k => g k x) (v x)) : ∃ K, ∀ k, K ≤ k → ∀ x, x ∈ l → g k x = some (v x) := by
 induction l with
 | nil => exact ⟨0, fun k _ x hx => (by cases hx)⟩
 | cons a l ih =>
  obtain ⟨K1, h1⟩ := ih fun x hx => h x (List.mem_cons_of_mem _ hx)
  obtain ⟨K2, h2⟩ := h a List.mem_cons_self
  refine ⟨K1 + K2, fun k hk x hx => ?_⟩
  rcases List.mem_cons.1 hx with rfl | hx
  ·exact h2 k (by omega)
  ·exact h1 k (by omega) x hx
theorem Ev.any {α : Type} {l : List α} {g : Nat → α → Option Bool} {v : α → Bool} (h : ∀ x, x ∈ l → Ev (fun k => g k x) (v x)) : Ev (fun k => if (l.all fun x => (g k x).isSome) = true then some (l.any fun x => (g k x).getD false) else none) (l.any v) := by
 obtain ⟨K, hK⟩ := Ev.list h
 refine ⟨K, fun k hk => ?_⟩
 show (if (l.all fun x => (g k x).isSome) = true then some (l.any fun x => (g k x).getD false) else none) = some (l.any v)
 rw [if_pos (List.all_eq_true.2 fun x hx => by rw [hK k hk x hx]; rfl)]
 exact congrArg some (qiZ fun x hx => by rw [hK k hk x hx]; rfl)
theorem qhg {P : Program} {f : FuncId} {fn : Func} {c : Code} (hf : P.funcs[f]? = some fn) (hname : (fn.name == "runtime.NumGoroutine") = false) (hb : fn.body = some c) (args : Array Value) (w : World) : (callFunc f args).run P w = .ok (.enter f args) w := by
 have h1 : fn.name ≠ "runtime.NumGoroutine" := by simpa using hname
 simp [callFunc, hf, h1, hb, mark]
def qcO.f (k : Nat) (a0_0 : ByteArray) (a0_1 : ByteArray) (a0_2 : Int) (l0_3 : List (S56)) (a0_4 : Int) : Option (Bool) := (qav.f k a0_0 a0_1 a0_2 l0_3 a0_4).bind fun t407 => (some (!t407))
set_option maxHeartbeats 8000000 in
set_option maxRecDepth 100000 in
theorem qcO.calls (k : Nat) (a0_0 : ByteArray) (a0_1 : ByteArray) (a0_2 : Int) (A0_3 : Option Addr) (c0_3 : Nat) (l0_3 : List (S56)) (a0_4 : Int) (r : Bool) (w : World) (hr0_3 : Kd.C k56 w A0_3 l0_3.length l0_3) (hc0_3 : l0_3.length ≤ c0_3) (h : qcO.f k a0_0 a0_1 a0_2 l0_3 a0_4 = some r) :
  Calls Try.prog 19 #[.agg #[.string a0_0, .string a0_1, .int .i64 a0_2, .slice A0_3 l0_3.length c0_3, .int .i64 a0_4]] w fun e w' => e = .returned (.bool r) ∧ Below w.heap.size w w' := by
 have hu41 := Try.underlying41
 have HR0_3 := Aside0.mk hr0_3
 have HC0_3 := Aside0.mk hc0_3
 clear hr0_3 hc0_3
 have HB := Aside0.mk (Below.refl w.heap.size w)
 have H : ((qav.f k a0_0 a0_1 a0_2 l0_3 a0_4).bind fun t407 => (some (!t407))) = some r := h
 clear h
 replace H := Option.bind_eq_some_iff.mp H
 obtain ⟨t407, A20, H⟩ := H
 try dsimp only at H
 have A2 := Aside0.mk A20
 clear A20
 obtain rfl := Option.some.inj H
 go_enter Try.func19, Try.ntmps19
 go_wp2_with (first | ((with_reducible refine qaM (N := 1) rfl ?_); refine qaN ?hg (N := 1) ?hd (cs := #[.string a0_0, .string a0_1, .int .i64 a0_2, .slice A0_3 l0_3.length c0_3, .int .i64 a0_4]) (t := 41) ?hr ?_; (case hd => rfl); (case hg => rfl); (case hr => first | (go_simp; done) | (go_simp; rfl)); intro gb406 hg w3 hbox hb; have n0_ := Aside0.mk (qag (by repeat (first | (with_reducible first | exact HB.out | apply qac | apply qaa | apply qab) | exact HB.out)) hb); have n1_ := Aside0.mk (hbox); have n2_ := Aside0.mk ((by rw [hg]; exact (qak (by repeat (first | (with_reducible first | exact HB.out | apply qac | apply qaa | apply qab) | exact HB.out))) : w.heap.size ≤ gb406)); have n3_ := Aside0.mk ((by rw [hg]; exact (qak (by repeat (first | (with_reducible first | exact HB.out | apply qac | apply qaa | apply qab) | exact HB.out))) : w.heap.size ≤ gb406)); clear HB; have HB := n0_; have BK406 := n1_; have GW406 := n2_; have GE406 := n3_; clear n0_ n1_ n2_ n3_ hb hbox hg; have hcz4_0 : w3.cell? ⟨gb406, 0, none⟩ = some (.string a0_0) := (qad BK406.out 0).trans rfl; have hcz4_1 : w3.cell? ⟨gb406, 1, none⟩ = some (.string a0_1) := (qad BK406.out 1).trans rfl; have hcz4_2 : w3.cell? ⟨gb406, 2, none⟩ = some (.int .i64 a0_2) := (qad BK406.out 2).trans rfl; have hcz4_3 : w3.cell? ⟨gb406, 3, none⟩ = some (.slice A0_3 l0_3.length c0_3) := (qad BK406.out 3).trans rfl; have hcz4_4 : w3.cell? ⟨gb406, 4, none⟩ = some (.int .i64 a0_4) := (qad BK406.out 4).trans rfl; have hfz4_0 := qae BK406.out 0; have hfz4_1 := qae BK406.out 1; have hfz4_2 := qae BK406.out 2; have hfz4_3 := qae BK406.out 3; have hfz4_4 := qae BK406.out 4) | ((with_reducible refine qaE (f := 20) rfl ?_); refine qbn (some 4) rfl rfl Try.func20 (by kernel_rfl) rfl #[.agg #[.string a0_0, .string a0_1, .int .i64 a0_2, .slice A0_3 l0_3.length c0_3, .int .i64 a0_4]] rfl (by (try simp only [List.map_toArray, List.map_cons, List.map_nil]); first | done | rfl | (simp only [List.length_drop, List.length_take]; rfl)) ?_; (with_reducible refine (qav.calls k a0_0 a0_1 a0_2 _ _ l0_3 a0_4 t407 _ ?side1 ?side2 A2.out).mono ?_); (case side1 => repeat (first | exact (Kd.qa8 HR0_3.out HB.out) | (with_reducible refine Kd.qa9 ?_ _) | (with_reducible refine Kd.qba ?_ _) | (with_reducible refine Kd.qbl ?_))); (case side2 => exact HC0_3.out); rintro e w5 ⟨rfl, hb⟩; refine ⟨_, rfl, ?_⟩; have n0_ := Aside0.mk (qao (g := gb406) (o := .cells #[.string a0_0, .string a0_1, .int .i64 a0_2, .slice A0_3 l0_3.length c0_3, .int .i64 a0_4] 41 (0, 0)) (by (with_reducible repeat (first | refine qaj ?_ _ | refine qal ?_ | refine qai ?_ _)); exact BK406.out) hb); have n1_ := Aside0.mk (qag (by repeat (first | (with_reducible first | exact HB.out | apply qac | apply qaa | apply qab | refine qah ?_ GE406.out) | exact HB.out)) hb); clear BK406 HB; have BK406 := n0_; have HB := n1_; clear n0_ n1_; (try clear hb); (try clear hb2); (try clear hk); (try clear hi)))
 go_ret
 exact ⟨by first | rfl | (simp [qam, qan] <;> rfl) | (simp [*, qam, qan] <;> rfl), by repeat (first | (with_reducible first | exact HB.out | apply qac | apply qaa | apply qab | refine qah ?_ GE406.out) | exact HB.out)⟩
theorem qhh {α : Type} (p : α → Bool) (l : List α) : l.any (fun x => !p x) = !l.all p := by
 induction l with
 | nil => rfl
 | cons x l ih => simp only [List.any_cons, List.all_cons, ih, Bool.not_and]
set_option maxHeartbeats 8000000 in
set_option maxRecDepth 100000 in
theorem qfQ (A : Option Addr) (c : Nat) (l : List S41) (w : World) (hr : Kd.C k41 w A l.length l) (hc : l.length ≤ c) (hd : ∀ b, b ∈ l → b.f3.length ≤ 2000000) :
  Calls Try.prog 7 #[.slice A l.length c] w fun e w' => ∃ v0 : Value, e = .returned (.tuple #[v0, .int .i64 (allR l).2]) ∧ Kd.R k48 48 w' w.heap.size (fun _ => True) v0 (allR l).1 ∧ Below w.heap.size w w' := by
 have hu := Try.underlying41
 have hm : l.length ≤ 9223372036854775807 := hr.2.1
 have HR := Aside0.mk hr
 have HD := Aside0.mk hd
 have HB := Aside0.mk (Below.refl w.heap.size w)
 clear hr hd
 by_cases h1 : 4096 < l.length
 ·have c1 : decide (4096 < (l.length : Int)) = true := decide_eq_true (by omega)
  have HE := Aside0.mk (show allR l = ([], 2) from by unfold allR; rw [if_pos h1])
  clear h1
  go_enter Try.func7, Try.ntmps7
  go_wp2_with fail
  go_ret2
  rw [HE.out]
  exact ⟨_, rfl, Kd.qgP _ _ _ _ _, HB.out⟩
 have c1 : decide (4096 < (l.length : Int)) = false := decide_eq_false (by omega)
 by_cases h2 : 20 < l.length
 ·have c2 : decide (20 < (l.length : Int)) = true := decide_eq_true (by omega)
  have HE := Aside0.mk (show allR l = ([], 6) from by unfold allR; rw [if_neg h1, if_pos h2])
  clear h1 h2
  go_enter Try.func7, Try.ntmps7
  go_wp2_with fail
  go_ret2
  rw [HE.out]
  exact ⟨_, rfl, Kd.qgP _ _ _ _ _, HB.out⟩
 have c2 : decide (20 < (l.length : Int)) = false := decide_eq_false (by omega)
 have hE : allR l = if l.all bakB = true then qcY [] ByteArray.empty 0 l else ([], 1) := by unfold allR; rw [if_neg h1, if_neg h2]
 have HCF := Aside0.mk (qef (fun x => !bakB x) 19 #[] (qhg Try.func19 (by kernel_rfl) rfl) A c l w HR.out (fun x W hx hW A3 c3 h3 hc3 => by
  obtain ⟨k, hk⟩ := Ev.rounds (qgb x.f0 x.f1 x.f2 x.f3 x.f4 (by have := HD.out x hx; omega))
  exact qcO.calls k x.f0 x.f1 x.f2 A3 c3 x.f3 x.f4 (!bakB x) W hc3 h3 (by unfold qcO.f; rw [hk]; rfl)))
 have hany : l.any (fun x => !bakB x) = !l.all bakB := qhh bakB l
 rw [hany] at HCF
 cases hall : l.all bakB with
 | false =>
  rw [hall] at HCF
  have HE := Aside0.mk (show allR l = ([], 1) from by rw [hE, hall]; rfl)
  clear hE hall hany h1 h2
  go_enter Try.func7, Try.ntmps7
  go_wp2_with fail
  refine HCF.out.mono ?_
  rintro e w1 ⟨rfl, hb1⟩
  go_wp2_with fail
  go_ret2
  rw [HE.out]
  exact ⟨_, rfl, Kd.qgP _ _ _ _ _, hb1⟩
 | true =>
  rw [hall] at HCF
  have HE := Aside0.mk (show allR l = qcY [] ByteArray.empty 0 l from by rw [hE, hall]; rfl)
  have HALL := Aside0.mk hall
  clear hE hall hany h1 h2
  go_enter Try.func7, Try.ntmps7
  go_wp2_with fail
  refine HCF.out.mono ?_
  rintro e w1 ⟨rfl, hb1⟩
  have HB1 := Aside0.mk hb1
  clear hb1
  go_wp2_with fail
  refine (qhN A c l w1 (Kd.qa8 HR.out HB1.out) hc HALL.out).mono ?_
  rintro e w2 ⟨v0, rfl, ho, hb2⟩
  have HO2 := Aside0.mk (Kd.qbh ho HB1.out.size)
  have HB2 := Aside0.mk (qag HB1.out hb2)
  clear ho hb2
  go_wp2_with fail
  go_ret2
  rw [HE.out]
  exact ⟨_, rfl, HO2.out, HB2.out⟩
end Go.Proofs.Ytlkdcicpaneakaa.X
