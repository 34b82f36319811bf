import Derived.Test.YtgcncphdjabjjaaKFnExactReplay3
import Derived.Test.YtgcncphdjabjjaaKFnExactReplay6
import Derived.Test.YtgcncphdjabjjaaKFnExactReplay15
import Derived.Test.YtgcncphdjabjjaaKFnExactReplay19
namespace Go.Proofs.Ytgcncphdjabjjaa.X
open Go.RowKit Go.Proofs.YtgcncphdjabjjaaW.PrintWords Go.Proofs.YtgcncphdjabjjaaW.PrintLast Go.Proofs.YtgcncphdjabjjaaW.PrintMore
attribute [local go_sem] qaC qaD qaE qay qaz qaN qaO qat qau qaA qaB
set_option linter.unusedVariables false
set_option linter.unusedSimpArgs false
def qbi.j0 : Nat → List (S76) → ByteArray → Int → Bool → ByteArray → ByteArray → Int → List (S82) → Int → Option ((List (S76)) × Int)
 | 0, _, _, _, _, _, _, _, _, _ => none
 | k + 1, x0, x1, x2, x19, x881000, x881001, x881002, x881003, x881004 => if x19 = true then (some ((([] : List (S76))), 2)) else ((qaP.f k x0).bind fun t884 => (if t884 = true then ((qbQ.f x881000 x881001 x881002 x881003 x881004).bind fun t885 => (if t885 = true then ((qbl.f k x0 x1 x2 x881000 x881001 x881002 x881003 x881004).bind fun bt886 => ((some (([] : List (S76)) : List (S76))).bind fun y890 => (if y890.length + bt886.1.length < 4398046511104 then (some ((y890 ++ bt886.1), bt886.2)) else (none)))) else (some ((([] : List (S76))), 1)))) else (some ((([] : List (S76))), 1))))
def qbi.f (k : Nat) (l0 : List (S76)) (a1 : ByteArray) (a2 : Int) (a3_0 : ByteArray) (a3_1 : ByteArray) (a3_2 : Int) (l3_3 : List (S82)) (a3_4 : Int) : Option ((List (S76)) × Int) := if (l0.length : Int) > 4096 then (qbi.j0 k l0 a1 a2 true a3_0 a3_1 a3_2 l3_3 a3_4) else (qbi.j0 k l0 a1 a2 (decide ((a1.size : Int) > 65536)) a3_0 a3_1 a3_2 l3_3 a3_4)
theorem qbi.qbm : ∀ k, (∀ y0 y1 y2 y3 y4 y5 y6 y7 y8, LeO (qbi.j0 k y0 y1 y2 y3 y4 y5 y6 y7 y8) (qbi.j0 (k + 1) y0 y1 y2 y3 y4 y5 y6 y7 y8))
 | 0 => fun _ _ _ _ _ _ _ _ _ r h => by simp [qbi.j0] at h
 | k + 1 => by
  have ih0 := qbi.qbm k
  ·intro y0 y1 y2 y3 y4 y5 y6 y7 y8
   unfold qbi.j0
   repeat' first
   | (with_reducible exact ih0 _ _ _ _ _ _ _ _ _)
   | (with_reducible exact qaP.mono _ _)
   | (with_reducible exact qbl.mono _ _ _ _ _ _ _ _ _)
   | (with_reducible exact LeO.refl _)
   | (with_reducible exact LeO.none _)
   | (with_reducible refine LeO.ite ?_ ?_)
   | (with_reducible refine LeO.bind ?_ (fun _ => ?_))
   | exact ih0 _ _ _ _ _ _ _ _ _
   | exact qaP.mono _ _
   | exact qbl.mono _ _ _ _ _ _ _ _ _
   | exact LeO.none _
   | refine LeO.ite ?_ ?_
   | refine LeO.bind ?_ (fun _ => ?_)
theorem qbi.mono : ∀ a0 a1 a2 a3 a4 a5 a6 a7 k, LeO (qbi.f k a0 a1 a2 a3 a4 a5 a6 a7) (qbi.f (k + 1) a0 a1 a2 a3 a4 a5 a6 a7) := by
 intro a0 a1 a2 a3 a4 a5 a6 a7 k
 have ih0 := qbi.qbm k
 unfold qbi.f
 repeat' first
   | (with_reducible exact ih0 _ _ _ _ _ _ _ _ _)
   | (with_reducible exact qaP.mono _ _)
   | (with_reducible exact qbl.mono _ _ _ _ _ _ _ _ _)
   | (with_reducible exact LeO.refl _)
   | (with_reducible exact LeO.none _)
   | (with_reducible refine LeO.ite ?_ ?_)
   | (with_reducible refine LeO.bind ?_ (fun _ => ?_))
   | exact ih0 _ _ _ _ _ _ _ _ _
   | exact qaP.mono _ _
   | exact qbl.mono _ _ _ _ _ _ _ _ _
   | exact LeO.none _
   | refine LeO.ite ?_ ?_
   | refine LeO.bind ?_ (fun _ => ?_)
set_option maxHeartbeats 8000000 in
set_option maxRecDepth 100000 in
theorem qbi.calls (k : Nat) (P0_ : Nat → Prop) (u9000_ : Value) (l0 : List (S76)) (a1 : ByteArray) (a2 : Int) (a3_0 : ByteArray) (a3_1 : ByteArray) (a3_2 : Int) (A3_3 : Option Addr) (c3_3 : Nat) (l3_3 : List (S82)) (a3_4 : Int) (r1 : List (S76)) (r2 : Int) (w0 w : World) (hB : Below w0.heap.size w0 w) (ho0 : Kd.R k76 76 w w0.heap.size P0_ u9000_ l0) (hr3_3 : ∀ W_, Kept w W_ (fun k_ => P0_ k_) → Kd.C k82 W_ A3_3 l3_3.length l3_3) (hc3_3 : l3_3.length ≤ c3_3) (h : qbi.f k l0 a1 a2 a3_0 a3_1 a3_2 l3_3 a3_4 = some (r1, r2)) :
  Calls Try.prog 41 #[u9000_, .string a1, .int .i64 a2, .agg #[.string a3_0, .string a3_1, .int .i64 a3_2, .slice A3_3 l3_3.length c3_3, .int .i64 a3_4]] w fun e w' => ∃ v0_ : Value, e = .returned (.tuple #[v0_, .int .i64 r2]) ∧ Kd.R k76 76 w' w0.heap.size (fun k_ => (P0_ k_ ∨ w.heap.size ≤ k_)) v0_ r1 ∧ Below w0.heap.size w0 w' ∧ Kept w w' (fun k_ => P0_ k_) := by
 have hu48 := Try.underlying48
 have HO0 := Aside0.mk (show Kd.R k76 76 w w0.heap.size (fun k_ => (P0_ k_ ∨ w.heap.size ≤ k_)) u9000_ l0 from Kd.qbs ho0 (fun k_ hk => (.inl hk)))
 have HR3_3 := Aside0.mk hr3_3
 have HC3_3 := Aside0.mk hc3_3
 clear hr3_3 hc3_3
 have HK := Aside0.mk (Kept.refl w (fun k_ => P0_ k_))
 have HW0 := Aside0.mk hB.size
 have HB := Aside0.mk hB
 clear hB
 have H : (if (l0.length : Int) > 4096 then (qbi.j0 k l0 a1 a2 true a3_0 a3_1 a3_2 l3_3 a3_4) else (qbi.j0 k l0 a1 a2 (decide ((a1.size : Int) > 65536)) a3_0 a3_1 a3_2 l3_3 a3_4)) = some (r1, r2) := h
 clear h
 have HC5 := Aside0.mk H
 clear H
 go_enter Try.func41, Try.ntmps41
 go_upto_region 1 with (first | ((with_reducible refine qaH (N := 7) rfl ?_); (try (refine qbt (by rfl) ?_; dsimp only)); refine qaF ?hg (N := 7) ?hd (cs := #[.string a3_0, .string a3_1, .int .i64 a3_2, .slice A3_3 l3_3.length c3_3, .int .i64 a3_4]) (t := 48) ?hr ?_; (case hd => rfl); (case hg => rfl); (case hr => first | (go_simp; done) | (go_simp; rfl)); intro gb880 hg w6 hbox hb; have n0_ := Aside0.mk (Kd.qaR (by (with_reducible repeat (first | apply Kd.qaw | apply Kd.qax | apply Kd.qaI)); exact HO0.out) hb); have n1_ := Aside0.mk (Kept.below (S := (fun k_ => P0_ k_)) (by repeat (first | (with_reducible first | exact HK.out | apply Kept.alloc | apply Kept.drewN | apply Kept.drew) | exact HK.out)) hb); have n2_ := Aside0.mk (qag (by repeat (first | (with_reducible first | exact HB.out | apply qac | apply qaa | apply qab) | exact HB.out)) hb); have n3_ := Aside0.mk (hbox); have n4_ := Aside0.mk ((by rw [hg]; exact (by first | exact HK.out.1 | exact (show Kept w _ (fun k_ => P0_ k_) from by repeat (first | (with_reducible first | exact HK.out | apply Kept.alloc | apply Kept.drewN | apply Kept.drew) | exact HK.out)).1) : w.heap.size ≤ gb880)); have n5_ := Aside0.mk ((by rw [hg]; exact (qak (by repeat (first | (with_reducible first | exact HB.out | apply qac | apply qaa | apply qab) | exact HB.out))) : w0.heap.size ≤ gb880)); clear HO0; clear HK; clear HB; have HO0 := n0_; have HK := n1_; have HB := n2_; have BK880 := n3_; have GW880 := n4_; have GE880 := n5_; clear n0_ n1_ n2_ n3_ n4_ n5_; clear hb hbox hg))
 (try simp only [Act.put, List.setIfInBounds_toArray, List.set_cons_zero, List.set_cons_succ])
 go_cut [19] (fun v19 wc => ∃ (kq : Nat) (x19_4 : Bool), v19 = .bool x19_4 ∧ Aside0 (qbi.j0 kq l0 a1 a2 x19_4 a3_0 a3_1 a3_2 l3_3 a3_4 = some (r1, r2)) ∧ Aside0 (kq ≤ k) ∧ Aside0 (Kd.R k76 76 wc w0.heap.size (fun k_ => (P0_ k_ ∨ w.heap.size ≤ k_)) u9000_ l0) ∧ Aside0 (wc.heap[gb880]? = some (.cells #[.string a3_0, .string a3_1, .int .i64 a3_2, (.slice A3_3 l3_3.length c3_3), .int .i64 a3_4] 48 (0, 0))) ∧ Aside0 (Kept w wc (fun k_ => P0_ k_)) ∧ Aside0 (Below w0.heap.size w0 wc))
 case first =>
  have H := HC5.out
  clear HC5
  by_cases c7 : (l0.length : Int) > 4096
  ·rw [if_pos c7] at H
   have c7b0 : decide (4096 < (l0.length : Int)) = true := decide_eq_true c7
   have c7b1 : decide (4096 < l0.length) = true := decide_eq_true (by omega)
   clear c7
   (first | rw [c7b0] | (simp only [qbS, qb0]; rw [c7b0]) | skip)
   have H' := Aside0.mk H
   clear H
   obtain ⟨Ao8, co8, eo8⟩ := Kd.qbN HO0.out
   subst eo8
   go_wp2
   go_meet
   case rel => exact ⟨_, (true), (by first | rfl | (simp; done) | (simp [*]; done)), H', ⟨by first | omega | exact Nat.le_refl _⟩, ⟨by (with_reducible repeat (first | apply Kd.qaw | apply Kd.qax | apply Kd.qaI)); exact HO0.out⟩, ⟨by (with_reducible repeat (first | refine qaj ?_ _ | refine qal ?_ | refine qai ?_ _)); exact BK880.out⟩, ⟨by repeat (first | (with_reducible first | exact HK.out | apply Kept.alloc | apply Kept.drewN | apply Kept.drew | refine Kept.setCell ?_ (.inr GW880.out) _) | exact HK.out)⟩, ⟨by repeat (first | (with_reducible first | exact HB.out | apply qac | apply qaa | apply qab | refine qah ?_ GE880.out) | exact HB.out)⟩⟩
  ·rw [if_neg c7] at H
   have c7b0 : decide (4096 < (l0.length : Int)) = false := decide_eq_false c7
   have c7b1 : decide (4096 < l0.length) = false := decide_eq_false (by omega)
   clear c7
   (first | rw [c7b0] | (simp only [qbS, qb0]; rw [c7b0]) | skip)
   have H' := Aside0.mk H
   clear H
   obtain ⟨Ao9, co9, eo9⟩ := Kd.qbN HO0.out
   subst eo9
   go_wp2
   go_meet
   case rel => exact ⟨_, (decide ((a1.size : Int) > 65536)), (by first | rfl | (simp; done) | (simp [*]; done)), H', ⟨by first | omega | exact Nat.le_refl _⟩, ⟨by (with_reducible repeat (first | apply Kd.qaw | apply Kd.qax | apply Kd.qaI)); exact HO0.out⟩, ⟨by (with_reducible repeat (first | refine qaj ?_ _ | refine qal ?_ | refine qai ?_ _)); exact BK880.out⟩, ⟨by repeat (first | (with_reducible first | exact HK.out | apply Kept.alloc | apply Kept.drewN | apply Kept.drew | refine Kept.setCell ?_ (.inr GW880.out) _) | exact HK.out)⟩, ⟨by repeat (first | (with_reducible first | exact HB.out | apply qac | apply qaa | apply qab | refine qah ?_ GE880.out) | exact HB.out)⟩⟩
 case rest =>
  clear HC5
  try clear p2
  try clear c3
  try clear c4
  try clear c7
  try clear c7b0
  try clear c7b1
  obtain ⟨kq, x19_4, rfl, HA, HJ4, HO_0, BK880, HK, HB⟩ := hcut
  cases kq with
  | zero => exact absurd HA.out (by simp [qbi.j0])
  | succ kj4 =>
   have H := HA.out
   clear HA
   simp only [qbi.j0] at H
   by_cases c10 : x19_4 = true
   ·subst c10
    have H1 : (some ((([] : List (S76))), 2)) = some (r1, r2) := by rw [if_pos rfl] at H; exact H
    clear H
    have H := H1
    clear H1
    obtain ⟨y881, hy881⟩ : ∃ y_ : List (S76), y_ = (([] : List (S76))) := ⟨_, rfl⟩
    replace H : (some (y881, 2)) = some (r1, r2) := by first | (rw [hy881]; with_reducible exact H) | (have H2_ := (Option.bind_some _ _).symm.trans H; rw [hy881]; with_reducible exact H2_) | (have H2_ := (Option.bind_some _ _).symm.trans H; with_reducible exact H2_) | with_reducible exact H | (rw [hy881]; exact H) | exact H
    have Ny881 := Aside0.mk hy881
    clear hy881
    simp only [Option.some.injEq, Prod.mk.injEq] at H
    obtain ⟨rfl, rfl⟩ := H
    go_wp2_with (first | ((with_reducible refine qaH (N := 20) rfl ?_); (try (refine qbt (by rfl) ?_; dsimp only)); refine Kd.qdW k76 _ 76 ?hg (N := 20) ?hd (xs := ([] : List (S76))) (inner := []) (ok := fun _ => True) (okp := fun _ => True) ?hr ?hp (fun _ hk => hk) trivial (Below.refl _ _) (Nat.le_refl _) (by simp) ?_; (case hd => rfl); (case hg => rfl); (case hr => first | (go_simp; done) | (go_simp; rfl)); (case hp => exact (Reps.none _ _)); intro v882 w11 ho12 hb hg_ hnew_; clear hg_ hnew_; (first | rw [← Ny881.out] at ho12 | (simp only [Int.reduceToNat] at ho12; rw [← Ny881.out] at ho12)); have n0_ := Aside0.mk (Kd.qch (by (with_reducible repeat (first | apply Kd.qaw | apply Kd.qax | apply Kd.qaI)); exact HO_0.out) (Kd.qcQ ho12) hb); have n1_ := Aside0.mk (Kd.qbp (Kd.qc7 (Kd.qfR (M := fun k_ => (P0_ k_ ∨ w.heap.size ≤ k_)) ho12 (by first | exact HK.out.1 | exact (show Kept w _ (fun k_ => P0_ k_) from by repeat (first | (with_reducible first | exact HK.out | apply Kept.alloc | apply Kept.drewN | apply Kept.drew | refine Kept.setCell ?_ (.inr GW880.out) _) | exact HK.out)).1) (fun k_ h_ => .inr h_)) (Kd.R_lt (by (with_reducible repeat (first | apply Kd.qaw | apply Kd.qax | apply Kd.qaI)); exact HO_0.out))) (qak (by repeat (first | (with_reducible first | exact HB.out | apply qac | apply qaa | apply qab | refine qah ?_ GE880.out) | exact HB.out)))); have n2_ := Aside0.mk (qao (g := gb880) (o := .cells #[.string a3_0, .string a3_1, .int .i64 a3_2, .slice A3_3 l3_3.length c3_3, .int .i64 a3_4] 48 (0, 0)) (by (with_reducible repeat (first | refine qaj ?_ _ | refine qal ?_ | refine qai ?_ _)); exact BK880.out) hb); have n3_ := Aside0.mk (Kept.below (S := (fun k_ => P0_ k_)) (by repeat (first | (with_reducible first | exact HK.out | apply Kept.alloc | apply Kept.drewN | apply Kept.drew | refine Kept.setCell ?_ (.inr GW880.out) _) | exact HK.out)) hb); have n4_ := Aside0.mk (qag (by repeat (first | (with_reducible first | exact HB.out | apply qac | apply qaa | apply qab | refine qah ?_ GE880.out) | exact HB.out)) hb); clear HO_0; clear BK880; clear HK; clear HB; have HO_0 := n0_; have HO883 := n1_; have BK880 := n2_; have HK := n3_; have HB := n4_; clear n0_ n1_ n2_ n3_ n4_; clear hb ho12))
    go_ret2
    exact ⟨_, by first | rfl | (simp [qam, qan] <;> rfl) | (simp [*, qam, qan] <;> rfl), by (with_reducible repeat (first | apply Kd.qaw | apply Kd.qax | apply Kd.qaI)); exact Kd.qbs HO883.out (fun _ hk => hk.1.1), by repeat (first | (with_reducible first | exact HB.out | apply qac | apply qaa | apply qab | refine qah ?_ GE880.out) | exact HB.out), by repeat (first | (with_reducible first | exact HK.out | apply Kept.alloc | apply Kept.drewN | apply Kept.drew | refine Kept.setCell ?_ (.inr GW880.out) _) | exact HK.out)⟩
   ·replace c10 := Bool.eq_false_iff.mpr c10
    subst c10
    have H1 : ((qaP.f kj4 l0).bind fun t884 => (if t884 = true then ((qbQ.f a3_0 a3_1 a3_2 l3_3 a3_4).bind fun t885 => (if t885 = true then ((qbl.f kj4 l0 a1 a2 a3_0 a3_1 a3_2 l3_3 a3_4).bind fun bt886 => ((some (([] : List (S76)) : List (S76))).bind fun y890 => (if y890.length + bt886.1.length < 4398046511104 then (some ((y890 ++ bt886.1), bt886.2)) else (none)))) else (some ((([] : List (S76))), 1)))) else (some ((([] : List (S76))), 1)))) = some (r1, r2) := by rw [if_neg (show ¬ (false = true) by decide)] at H; exact H
    clear H
    have H := H1
    clear H1
    replace H := Option.bind_eq_some_iff.mp H
    obtain ⟨t884, A130, H⟩ := H
    replace H : (if t884 = true then ((qbQ.f a3_0 a3_1 a3_2 l3_3 a3_4).bind fun t885 => (if t885 = true then ((qbl.f kj4 l0 a1 a2 a3_0 a3_1 a3_2 l3_3 a3_4).bind fun bt886 => ((some (([] : List (S76)) : List (S76))).bind fun y890 => (if y890.length + bt886.1.length < 4398046511104 then (some ((y890 ++ bt886.1), bt886.2)) else (none)))) else (some ((([] : List (S76))), 1)))) else (some ((([] : List (S76))), 1))) = some (r1, r2) := H
    have A13 := Aside0.mk A130
    clear A130
    by_cases c14 : t884 = true
    ·subst c14
     have H1 : ((qbQ.f a3_0 a3_1 a3_2 l3_3 a3_4).bind fun t885 => (if t885 = true then ((qbl.f kj4 l0 a1 a2 a3_0 a3_1 a3_2 l3_3 a3_4).bind fun bt886 => ((some (([] : List (S76)) : List (S76))).bind fun y890 => (if y890.length + bt886.1.length < 4398046511104 then (some ((y890 ++ bt886.1), bt886.2)) else (none)))) else (some ((([] : List (S76))), 1)))) = some (r1, r2) := by rw [if_pos rfl] at H; exact H
     clear H
     have H := H1
     clear H1
     replace H := Option.bind_eq_some_iff.mp H
     obtain ⟨t885, A150, H⟩ := H
     replace H : (if t885 = true then ((qbl.f kj4 l0 a1 a2 a3_0 a3_1 a3_2 l3_3 a3_4).bind fun bt886 => ((some (([] : List (S76)) : List (S76))).bind fun y890 => (if y890.length + bt886.1.length < 4398046511104 then (some ((y890 ++ bt886.1), bt886.2)) else (none)))) else (some ((([] : List (S76))), 1))) = some (r1, r2) := H
     have A15 := Aside0.mk A150
     clear A150
     by_cases c16 : t885 = true
     ·subst c16
      have H1 : ((qbl.f kj4 l0 a1 a2 a3_0 a3_1 a3_2 l3_3 a3_4).bind fun bt886 => ((some (([] : List (S76)) : List (S76))).bind fun y890 => (if y890.length + bt886.1.length < 4398046511104 then (some ((y890 ++ bt886.1), bt886.2)) else (none)))) = some (r1, r2) := by rw [if_pos rfl] at H; exact H
      clear H
      have H := H1
      clear H1
      replace H := Option.bind_eq_some_iff.mp H
      obtain ⟨⟨t886, t889⟩, A170, H⟩ := H
      replace H : ((some (([] : List (S76)) : List (S76))).bind fun y890 => (if y890.length + t886.length < 4398046511104 then (some ((y890 ++ t886), t889)) else (none))) = some (r1, r2) := H
      have A17 := Aside0.mk A170
      clear A170
      obtain ⟨y890, hy890⟩ : ∃ y_ : List (S76), y_ = (([] : List (S76))) := ⟨_, rfl⟩
      replace H : (if y890.length + t886.length < 4398046511104 then (some ((y890 ++ t886), t889)) else (none)) = some (r1, r2) := by first | (rw [hy890]; with_reducible exact H) | (have H2_ := (Option.bind_some _ _).symm.trans H; rw [hy890]; with_reducible exact H2_) | (have H2_ := (Option.bind_some _ _).symm.trans H; with_reducible exact H2_) | with_reducible exact H | (rw [hy890]; exact H) | exact H
      have Ny890 := Aside0.mk hy890
      clear hy890
      by_cases c18 : y890.length + t886.length < 4398046511104
      ·rw [if_pos c18] at H
       have LMc18 := Aside0.mk c18
       clear c18
       obtain ⟨y893, hy893⟩ : ∃ y_ : List (S76), y_ = (y890 ++ t886) := ⟨_, rfl⟩
       replace H : (some (y893, t889)) = some (r1, r2) := by first | (rw [hy893]; with_reducible exact H) | (have H2_ := (Option.bind_some _ _).symm.trans H; rw [hy893]; with_reducible exact H2_) | (have H2_ := (Option.bind_some _ _).symm.trans H; with_reducible exact H2_) | with_reducible exact H | (rw [hy893]; exact H) | exact H
       have Ny893 := Aside0.mk hy893
       clear hy893
       simp only [Option.some.injEq, Prod.mk.injEq] at H
       obtain ⟨rfl, rfl⟩ := H
       obtain ⟨Ao19, co19, eo19⟩ := Kd.qbN HO_0.out
       subst eo19
       go_wp2_with (first | ((with_reducible refine qav (f := 50) rfl ?_); refine qbd (some 22) rfl rfl Try.func50 (by kernel_rfl) rfl #[.slice Ao19 l0.length co19] rfl (by (try simp only [List.map_toArray, List.map_cons, List.map_nil]); first | done | rfl | (simp only [List.length_drop, List.length_take]; rfl)) ?_; (with_reducible refine (qaP.calls kj4 _ _ l0 true _ ?side1 ?side2 A13.out).mono ?_); (case side1 => repeat (first | exact (Kd.qaM HO_0.out).2.2 | (with_reducible refine Kd.qa6 ?_ _) | (with_reducible refine Kd.qa7 ?_ _) | (with_reducible refine Kd.qbj ?_))); (case side2 => exact (Kd.qaM HO_0.out).2.1); rintro e w20 ⟨rfl, hb⟩; refine ⟨_, rfl, ?_⟩; have n0_ := Aside0.mk (Kd.qaR (by (with_reducible repeat (first | apply Kd.qaw | apply Kd.qax | apply Kd.qaI)); exact HO_0.out) hb); have n1_ := Aside0.mk (qao (g := gb880) (o := .cells #[.string a3_0, .string a3_1, .int .i64 a3_2, .slice A3_3 l3_3.length c3_3, .int .i64 a3_4] 48 (0, 0)) (by (with_reducible repeat (first | refine qaj ?_ _ | refine qal ?_ | refine qai ?_ _)); exact BK880.out) hb); have n2_ := Aside0.mk (Kept.below (S := (fun k_ => P0_ k_)) (by repeat (first | (with_reducible first | exact HK.out | apply Kept.alloc | apply Kept.drewN | apply Kept.drew | refine Kept.setCell ?_ (.inr GW880.out) _) | exact HK.out)) hb); have n3_ := Aside0.mk (qag (by repeat (first | (with_reducible first | exact HB.out | apply qac | apply qaa | apply qab | refine qah ?_ GE880.out) | exact HB.out)) hb); clear HO_0; clear BK880; clear HK; clear HB; have HO_0 := n0_; have BK880 := n1_; have HK := n2_; have HB := n3_; clear n0_ n1_ n2_ n3_; (try clear hb); (try clear hb2); (try clear hk); (try clear hi); have hcz21_0 : w20.cell? ⟨gb880, 0, none⟩ = some (.string a3_0) := (qad BK880.out 0).trans rfl; have hcz21_1 : w20.cell? ⟨gb880, 1, none⟩ = some (.string a3_1) := (qad BK880.out 1).trans rfl; have hcz21_2 : w20.cell? ⟨gb880, 2, none⟩ = some (.int .i64 a3_2) := (qad BK880.out 2).trans rfl; have hcz21_3 : w20.cell? ⟨gb880, 3, none⟩ = some (.slice A3_3 l3_3.length c3_3) := (qad BK880.out 3).trans rfl; have hcz21_4 : w20.cell? ⟨gb880, 4, none⟩ = some (.int .i64 a3_4) := (qad BK880.out 4).trans rfl; have hfz21_0 := qae BK880.out 0; have hfz21_1 := qae BK880.out 1; have hfz21_2 := qae BK880.out 2; have hfz21_3 := qae BK880.out 3; have hfz21_4 := qae BK880.out 4) | (go_at_call 28; (with_reducible refine (qbQ.calls a3_0 a3_1 a3_2 _ _ l3_3 a3_4 true _ ?side1 ?side2 A15.out).mono ?_); (case side1 => exact Kd.qdm HR3_3.out (by repeat (first | (with_reducible first | exact HK.out | apply Kept.alloc | apply Kept.drewN | apply Kept.drew | refine Kept.setCell ?_ (.inr GW880.out) _) | exact HK.out))); (case side2 => exact HC3_3.out); rintro e w22 ⟨rfl, hb⟩; have n0_ := Aside0.mk (Kd.qaR (by (with_reducible repeat (first | apply Kd.qaw | apply Kd.qax | apply Kd.qaI)); exact HO_0.out) hb); have n1_ := Aside0.mk (qao (g := gb880) (o := .cells #[.string a3_0, .string a3_1, .int .i64 a3_2, .slice A3_3 l3_3.length c3_3, .int .i64 a3_4] 48 (0, 0)) (by (with_reducible repeat (first | refine qaj ?_ _ | refine qal ?_ | refine qai ?_ _)); exact BK880.out) hb); have n2_ := Aside0.mk (Kept.below (S := (fun k_ => P0_ k_)) (by repeat (first | (with_reducible first | exact HK.out | apply Kept.alloc | apply Kept.drewN | apply Kept.drew | refine Kept.setCell ?_ (.inr GW880.out) _) | exact HK.out)) hb); have n3_ := Aside0.mk (qag (by repeat (first | (with_reducible first | exact HB.out | apply qac | apply qaa | apply qab | refine qah ?_ GE880.out) | exact HB.out)) hb); clear HO_0; clear BK880; clear HK; clear HB; have HO_0 := n0_; have BK880 := n1_; have HK := n2_; have HB := n3_; clear n0_ n1_ n2_ n3_; (try clear hb); (try clear hb2); (try clear hk); (try clear hi); have hcz23_0 : w22.cell? ⟨gb880, 0, none⟩ = some (.string a3_0) := (qad BK880.out 0).trans rfl; have hcz23_1 : w22.cell? ⟨gb880, 1, none⟩ = some (.string a3_1) := (qad BK880.out 1).trans rfl; have hcz23_2 : w22.cell? ⟨gb880, 2, none⟩ = some (.int .i64 a3_2) := (qad BK880.out 2).trans rfl; have hcz23_3 : w22.cell? ⟨gb880, 3, none⟩ = some (.slice A3_3 l3_3.length c3_3) := (qad BK880.out 3).trans rfl; have hcz23_4 : w22.cell? ⟨gb880, 4, none⟩ = some (.int .i64 a3_4) := (qad BK880.out 4).trans rfl; have hfz23_0 := qae BK880.out 0; have hfz23_1 := qae BK880.out 1; have hfz23_2 := qae BK880.out 2; have hfz23_3 := qae BK880.out 3; have hfz23_4 := qae BK880.out 4) | ((with_reducible refine qav (f := 73) rfl ?_); refine qbd (some 35) rfl rfl Try.func73 (by kernel_rfl) rfl #[.slice Ao19 l0.length co19, .string a1, .int .i64 a2, .agg #[.string a3_0, .string a3_1, .int .i64 a3_2, .slice A3_3 l3_3.length c3_3, .int .i64 a3_4]] rfl (by (try simp only [List.map_toArray, List.map_cons, List.map_nil]); first | done | rfl | (simp only [List.length_drop, List.length_take]; rfl)) ?_; (with_reducible refine (qbl.calls kj4 (fun k_ => some k_ = (.slice Ao19 l0.length co19 : Value).ownBlock) (.slice Ao19 l0.length co19) l0 a1 a2 a3_0 a3_1 a3_2 _ _ l3_3 a3_4 t886 t889 w0 _ ?side1 ?side2 ?side3 ?side4 A17.out).mono ?_); (case side1 => repeat (first | (with_reducible first | exact HB.out | apply qac | apply qaa | apply qab | refine qah ?_ GE880.out) | exact HB.out)); (case side2 => exact Kd.qcF rfl HO_0.out); (case side3 => exact Kd.qgh HR3_3.out (by repeat (first | (with_reducible first | exact HK.out | apply Kept.alloc | apply Kept.drewN | apply Kept.drew | refine Kept.setCell ?_ (.inr GW880.out) _) | exact HK.out)) (fun k_ hs_ => (fun e_ => (HO_0.out.1 k_ e_.symm)) hs_)); (case side4 => exact HC3_3.out); rintro e w24 ⟨v887, rfl, ho0, hb, hkp⟩; refine ⟨_, rfl, ?_⟩; have n0_ := Aside0.mk (qcs (by (with_reducible repeat (first | refine qaj ?_ _ | refine qal ?_ | refine qai ?_ _)); exact BK880.out) hkp (fun hs_ => (fun e_ => (Kd.R_ne HO_0.out BK880.out (by decide)) e_) hs_)); have n1_ := Aside0.mk (Kd.qe2 (ok' := fun k_ => (P0_ k_ ∨ w.heap.size ≤ k_) ∧ k_ ≠ gb880) ho0 (fun k_ hk_ => ⟨Or.elim hk_ (fun hs_ => (HO_0.out.1 k_ (hs_).symm)) (fun hn_ => (.inr (Nat.le_trans (by first | exact HK.out.1 | exact (show Kept w _ (fun k_ => P0_ k_) from by repeat (first | (with_reducible first | exact HK.out | apply Kept.alloc | apply Kept.drewN | apply Kept.drew | refine Kept.setCell ?_ (.inr GW880.out) _) | exact HK.out)).1) hn_))), Or.elim hk_ (fun hs_ => fun e_ => (Kd.R_ne HO_0.out BK880.out (by decide)) (by rw [← e_]; exact hs_)) (fun hn_ => (Kd.qgI (g := gb880) (o := .cells #[.string a3_0, .string a3_1, .int .i64 a3_2, .slice A3_3 l3_3.length c3_3, .int .i64 a3_4] 48 (0, 0)) (by (with_reducible repeat (first | refine qaj ?_ _ | refine qal ?_ | refine qai ?_ _)); exact BK880.out) k_ hn_))⟩)); have n2_ := Aside0.mk (Kept.qfQ (S := (fun k_ => P0_ k_)) (by repeat (first | (with_reducible first | exact HK.out | apply Kept.alloc | apply Kept.drewN | apply Kept.drew | refine Kept.setCell ?_ (.inr GW880.out) _) | exact HK.out)) hkp (fun k_ hs_ => (fun e_ => (HO_0.out.1 k_ e_.symm)) hs_)); have n3_ := Aside0.mk (hb); clear BK880; clear HK; clear HB; clear HO_0; have BK880 := n0_; have HO888 := n1_; have HK := n2_; have HB := n3_; clear n0_ n1_ n2_ n3_; (try clear hb); (try clear hkp); (try clear ho0)) | ((with_reducible refine qaH (N := 38) rfl ?_); (try (refine qbt (by rfl) ?_; dsimp only)); refine Kd.qdW k76 _ 76 ?hg (N := 38) ?hd (xs := ([] : List (S76))) (inner := []) (ok := fun _ => True) (okp := fun _ => True) ?hr ?hp (fun _ hk => hk) trivial (Below.refl _ _) (Nat.le_refl _) (by simp) ?_; (case hd => rfl); (case hg => rfl); (case hr => first | (go_simp; done) | (go_simp; rfl)); (case hp => exact (Reps.none _ _)); intro v891 w25 ho26 hb hg_ hnew_; clear hg_ hnew_; (first | rw [← Ny890.out] at ho26 | (simp only [Int.reduceToNat] at ho26; rw [← Ny890.out] at ho26)); have n0_ := Aside0.mk (Kd.V_elder' (by (with_reducible repeat (first | apply Kd.qd6 | apply Kd.qey | apply Kd.qex)); exact HO888.out) (Kd.qcQ ho26) hb); have n1_ := Aside0.mk (Kd.qbp (Kd.qfR (M := fun k_ => (P0_ k_ ∨ w.heap.size ≤ k_)) ho26 (by first | exact HK.out.1 | exact (show Kept w _ (fun k_ => P0_ k_) from by repeat (first | (with_reducible first | exact HK.out | apply Kept.alloc | apply Kept.drewN | apply Kept.drew | refine Kept.setCell ?_ (.inr GW880.out) _) | exact HK.out)).1) (fun k_ h_ => .inr h_)) (qak (by repeat (first | (with_reducible first | exact HB.out | apply qac | apply qaa | apply qab | refine qah ?_ GE880.out) | exact HB.out)))); have n2_ := Aside0.mk (qao (g := gb880) (o := .cells #[.string a3_0, .string a3_1, .int .i64 a3_2, .slice A3_3 l3_3.length c3_3, .int .i64 a3_4] 48 (0, 0)) (by (with_reducible repeat (first | refine qaj ?_ _ | refine qal ?_ | refine qai ?_ _)); exact BK880.out) hb); have n3_ := Aside0.mk (Kept.below (S := (fun k_ => P0_ k_)) (by repeat (first | (with_reducible first | exact HK.out | apply Kept.alloc | apply Kept.drewN | apply Kept.drew | refine Kept.setCell ?_ (.inr GW880.out) _) | exact HK.out)) hb); have n4_ := Aside0.mk (qag (by repeat (first | (with_reducible first | exact HB.out | apply qac | apply qaa | apply qab | refine qah ?_ GE880.out) | exact HB.out)) hb); clear HO888; clear BK880; clear HK; clear HB; have HO888 := n0_; have HO892 := n1_; have BK880 := n2_; have HK := n3_; have HB := n4_; clear n0_ n1_ n2_ n3_ n4_; clear hb ho26; obtain ⟨Ao28, co28, eo28⟩ := Kd.qfe HO888.out; subst eo28) | ((with_reducible refine qbM (b := .append) (xs := #[.tmp 38, .tmp 39]) rfl ?_); (try (refine qbt (by rfl) ?_; dsimp only)); at_builtin; refine Kd.qbW k76 (w0 := w0) w0.heap.size rfl (.tmp 38) (.tmp 39) 26 76 (.agg #[(.string ⟨#[]⟩), (.string ⟨#[]⟩)]) 32 rfl Try.underlying26 qcw rfl (by decide) (by omega) v891 y890 t886 _ _ _ (fun k_ => (P0_ k_ ∨ w.heap.size ≤ k_)) (fun _ => False) rfl rfl ?aO ?aR (fun _ _ h => h) (fun _ h => h.elim) ?aF ?aB ?aS ?aL ?_; (case aR => repeat (first | exact (Kd.qcX HO888.out).2.2 | (with_reducible refine Kd.qa6 ?_ _) | (with_reducible refine Kd.qa7 ?_ _) | (with_reducible refine Kd.qbj ?_))); (case aB => exact (by repeat (first | (with_reducible first | exact HB.out | apply qac | apply qaa | apply qab | refine qah ?_ GE880.out) | exact HB.out))); (case aF => exact (fun k_ hk => (.inr (Nat.le_trans (by first | exact HK.out.1 | exact (show Kept w _ (fun k_ => P0_ k_) from by repeat (first | (with_reducible first | exact HK.out | apply Kept.alloc | apply Kept.drewN | apply Kept.drew | refine Kept.setCell ?_ (.inr GW880.out) _) | exact HK.out)).1) hk)))); (case aO => exact (by (with_reducible repeat (first | apply Kd.qaw | apply Kd.qax | apply Kd.qaI)); exact Kd.qbs HO892.out (fun _ hk => hk.1))); (case aS => exact (qak (by repeat (first | (with_reducible first | exact HB.out | apply qac | apply qaa | apply qab | refine qah ?_ GE880.out) | exact HB.out)))); (case aL => have := LMc18.out; omega); intro v894 w27 ho hb hg hat; rw [← Ny893.out] at ho; have n0_ := Aside0.mk (qfD (g := gb880) (o := .cells #[.string a3_0, .string a3_1, .int .i64 a3_2, .slice A3_3 l3_3.length c3_3, .int .i64 a3_4] 48 (0, 0)) (by (with_reducible repeat (first | refine qaj ?_ _ | refine qal ?_ | refine qai ?_ _)); exact BK880.out) hg (Kd.R_ne HO892.out BK880.out (by decide))); have n1_ := Aside0.mk (Kd.V_afterv (ok := (fun k_ => (P0_ k_ ∨ w.heap.size ≤ k_) ∧ k_ ≠ gb880)) (by (with_reducible repeat (first | apply Kd.qd6 | apply Kd.qey | apply Kd.qex)); exact HO888.out) hg hat); have n2_ := Aside0.mk (hb); have n3_ := Aside0.mk (Kept.qcg (S := (fun k_ => P0_ k_)) hg (by repeat (first | (with_reducible first | exact HK.out | apply Kept.alloc | apply Kept.drewN | apply Kept.drew | refine Kept.setCell ?_ (.inr GW880.out) _) | exact HK.out)) (fun k_ e_ => (HO892.out.1 k_ e_).1)); have n4_ := Aside0.mk (ho); clear BK880; clear HO888; clear HB; clear HK; clear HO892; have BK880 := n0_; have HO888 := n1_; have HB := n2_; have HK := n3_; have HO895 := n4_; clear n0_ n1_ n2_ n3_ n4_; clear ho hb hg hat))
       go_ret2
       exact ⟨_, by first | rfl | (simp [qam, qan] <;> rfl) | (simp [*, qam, qan] <;> rfl), by (with_reducible repeat (first | apply Kd.qaw | apply Kd.qax | apply Kd.qaI)); exact HO895.out, by repeat (first | (with_reducible first | exact HB.out | apply qac | apply qaa | apply qab | refine qah ?_ GE880.out) | exact HB.out), by repeat (first | (with_reducible first | exact HK.out | apply Kept.alloc | apply Kept.drewN | apply Kept.drew | refine Kept.setCell ?_ (.inr GW880.out) _) | exact HK.out)⟩
      ·rw [if_neg c18] at H
       exact absurd H (by simp)
     ·replace c16 := Bool.eq_false_iff.mpr c16
      subst c16
      have H1 : (some ((([] : List (S76))), 1)) = some (r1, r2) := by rw [if_neg (show ¬ (false = true) by decide)] at H; exact H
      clear H
      have H := H1
      clear H1
      obtain ⟨y896, hy896⟩ : ∃ y_ : List (S76), y_ = (([] : List (S76))) := ⟨_, rfl⟩
      replace H : (some (y896, 1)) = some (r1, r2) := by first | (rw [hy896]; with_reducible exact H) | (have H2_ := (Option.bind_some _ _).symm.trans H; rw [hy896]; with_reducible exact H2_) | (have H2_ := (Option.bind_some _ _).symm.trans H; with_reducible exact H2_) | with_reducible exact H | (rw [hy896]; exact H) | exact H
      have Ny896 := Aside0.mk hy896
      clear hy896
      simp only [Option.some.injEq, Prod.mk.injEq] at H
      obtain ⟨rfl, rfl⟩ := H
      obtain ⟨Ao29, co29, eo29⟩ := Kd.qbN HO_0.out
      subst eo29
      go_wp2_with (first | ((with_reducible refine qav (f := 50) rfl ?_); refine qbd (some 22) rfl rfl Try.func50 (by kernel_rfl) rfl #[.slice Ao29 l0.length co29] rfl (by (try simp only [List.map_toArray, List.map_cons, List.map_nil]); first | done | rfl | (simp only [List.length_drop, List.length_take]; rfl)) ?_; (with_reducible refine (qaP.calls kj4 _ _ l0 true _ ?side1 ?side2 A13.out).mono ?_); (case side1 => repeat (first | exact (Kd.qaM HO_0.out).2.2 | (with_reducible refine Kd.qa6 ?_ _) | (with_reducible refine Kd.qa7 ?_ _) | (with_reducible refine Kd.qbj ?_))); (case side2 => exact (Kd.qaM HO_0.out).2.1); rintro e w30 ⟨rfl, hb⟩; refine ⟨_, rfl, ?_⟩; have n0_ := Aside0.mk (Kd.qaR (by (with_reducible repeat (first | apply Kd.qaw | apply Kd.qax | apply Kd.qaI)); exact HO_0.out) hb); have n1_ := Aside0.mk (qao (g := gb880) (o := .cells #[.string a3_0, .string a3_1, .int .i64 a3_2, .slice A3_3 l3_3.length c3_3, .int .i64 a3_4] 48 (0, 0)) (by (with_reducible repeat (first | refine qaj ?_ _ | refine qal ?_ | refine qai ?_ _)); exact BK880.out) hb); have n2_ := Aside0.mk (Kept.below (S := (fun k_ => P0_ k_)) (by repeat (first | (with_reducible first | exact HK.out | apply Kept.alloc | apply Kept.drewN | apply Kept.drew | refine Kept.setCell ?_ (.inr GW880.out) _) | exact HK.out)) hb); have n3_ := Aside0.mk (qag (by repeat (first | (with_reducible first | exact HB.out | apply qac | apply qaa | apply qab | refine qah ?_ GE880.out) | exact HB.out)) hb); clear HO_0; clear BK880; clear HK; clear HB; have HO_0 := n0_; have BK880 := n1_; have HK := n2_; have HB := n3_; clear n0_ n1_ n2_ n3_; (try clear hb); (try clear hb2); (try clear hk); (try clear hi); have hcz31_0 : w30.cell? ⟨gb880, 0, none⟩ = some (.string a3_0) := (qad BK880.out 0).trans rfl; have hcz31_1 : w30.cell? ⟨gb880, 1, none⟩ = some (.string a3_1) := (qad BK880.out 1).trans rfl; have hcz31_2 : w30.cell? ⟨gb880, 2, none⟩ = some (.int .i64 a3_2) := (qad BK880.out 2).trans rfl; have hcz31_3 : w30.cell? ⟨gb880, 3, none⟩ = some (.slice A3_3 l3_3.length c3_3) := (qad BK880.out 3).trans rfl; have hcz31_4 : w30.cell? ⟨gb880, 4, none⟩ = some (.int .i64 a3_4) := (qad BK880.out 4).trans rfl; have hfz31_0 := qae BK880.out 0; have hfz31_1 := qae BK880.out 1; have hfz31_2 := qae BK880.out 2; have hfz31_3 := qae BK880.out 3; have hfz31_4 := qae BK880.out 4) | (go_at_call 28; (with_reducible refine (qbQ.calls a3_0 a3_1 a3_2 _ _ l3_3 a3_4 false _ ?side1 ?side2 A15.out).mono ?_); (case side1 => exact Kd.qdm HR3_3.out (by repeat (first | (with_reducible first | exact HK.out | apply Kept.alloc | apply Kept.drewN | apply Kept.drew | refine Kept.setCell ?_ (.inr GW880.out) _) | exact HK.out))); (case side2 => exact HC3_3.out); rintro e w32 ⟨rfl, hb⟩; have n0_ := Aside0.mk (Kd.qaR (by (with_reducible repeat (first | apply Kd.qaw | apply Kd.qax | apply Kd.qaI)); exact HO_0.out) hb); have n1_ := Aside0.mk (qao (g := gb880) (o := .cells #[.string a3_0, .string a3_1, .int .i64 a3_2, .slice A3_3 l3_3.length c3_3, .int .i64 a3_4] 48 (0, 0)) (by (with_reducible repeat (first | refine qaj ?_ _ | refine qal ?_ | refine qai ?_ _)); exact BK880.out) hb); have n2_ := Aside0.mk (Kept.below (S := (fun k_ => P0_ k_)) (by repeat (first | (with_reducible first | exact HK.out | apply Kept.alloc | apply Kept.drewN | apply Kept.drew | refine Kept.setCell ?_ (.inr GW880.out) _) | exact HK.out)) hb); have n3_ := Aside0.mk (qag (by repeat (first | (with_reducible first | exact HB.out | apply qac | apply qaa | apply qab | refine qah ?_ GE880.out) | exact HB.out)) hb); clear HO_0; clear BK880; clear HK; clear HB; have HO_0 := n0_; have BK880 := n1_; have HK := n2_; have HB := n3_; clear n0_ n1_ n2_ n3_; (try clear hb); (try clear hb2); (try clear hk); (try clear hi)) | ((with_reducible refine qaH (N := 29) rfl ?_); (try (refine qbt (by rfl) ?_; dsimp only)); refine Kd.qdW k76 _ 76 ?hg (N := 29) ?hd (xs := ([] : List (S76))) (inner := []) (ok := fun _ => True) (okp := fun _ => True) ?hr ?hp (fun _ hk => hk) trivial (Below.refl _ _) (Nat.le_refl _) (by simp) ?_; (case hd => rfl); (case hg => rfl); (case hr => first | (go_simp; done) | (go_simp; rfl)); (case hp => exact (Reps.none _ _)); intro v897 w33 ho34 hb hg_ hnew_; clear hg_ hnew_; (first | rw [← Ny896.out] at ho34 | (simp only [Int.reduceToNat] at ho34; rw [← Ny896.out] at ho34)); have n0_ := Aside0.mk (Kd.qch (by (with_reducible repeat (first | apply Kd.qaw | apply Kd.qax | apply Kd.qaI)); exact HO_0.out) (Kd.qcQ ho34) hb); have n1_ := Aside0.mk (Kd.qbp (Kd.qc7 (Kd.qfR (M := fun k_ => (P0_ k_ ∨ w.heap.size ≤ k_)) ho34 (by first | exact HK.out.1 | exact (show Kept w _ (fun k_ => P0_ k_) from by repeat (first | (with_reducible first | exact HK.out | apply Kept.alloc | apply Kept.drewN | apply Kept.drew | refine Kept.setCell ?_ (.inr GW880.out) _) | exact HK.out)).1) (fun k_ h_ => .inr h_)) (Kd.R_lt (by (with_reducible repeat (first | apply Kd.qaw | apply Kd.qax | apply Kd.qaI)); exact HO_0.out))) (qak (by repeat (first | (with_reducible first | exact HB.out | apply qac | apply qaa | apply qab | refine qah ?_ GE880.out) | exact HB.out)))); have n2_ := Aside0.mk (qao (g := gb880) (o := .cells #[.string a3_0, .string a3_1, .int .i64 a3_2, .slice A3_3 l3_3.length c3_3, .int .i64 a3_4] 48 (0, 0)) (by (with_reducible repeat (first | refine qaj ?_ _ | refine qal ?_ | refine qai ?_ _)); exact BK880.out) hb); have n3_ := Aside0.mk (Kept.below (S := (fun k_ => P0_ k_)) (by repeat (first | (with_reducible first | exact HK.out | apply Kept.alloc | apply Kept.drewN | apply Kept.drew | refine Kept.setCell ?_ (.inr GW880.out) _) | exact HK.out)) hb); have n4_ := Aside0.mk (qag (by repeat (first | (with_reducible first | exact HB.out | apply qac | apply qaa | apply qab | refine qah ?_ GE880.out) | exact HB.out)) hb); clear HO_0; clear BK880; clear HK; clear HB; have HO_0 := n0_; have HO898 := n1_; have BK880 := n2_; have HK := n3_; have HB := n4_; clear n0_ n1_ n2_ n3_ n4_; clear hb ho34))
      go_ret2
      exact ⟨_, by first | rfl | (simp [qam, qan] <;> rfl) | (simp [*, qam, qan] <;> rfl), by (with_reducible repeat (first | apply Kd.qaw | apply Kd.qax | apply Kd.qaI)); exact Kd.qbs HO898.out (fun _ hk => hk.1.1), by repeat (first | (with_reducible first | exact HB.out | apply qac | apply qaa | apply qab | refine qah ?_ GE880.out) | exact HB.out), by repeat (first | (with_reducible first | exact HK.out | apply Kept.alloc | apply Kept.drewN | apply Kept.drew | refine Kept.setCell ?_ (.inr GW880.out) _) | exact HK.out)⟩
    ·replace c14 := Bool.eq_false_iff.mpr c14
     subst c14
     have H1 : (some ((([] : List (S76))), 1)) = some (r1, r2) := by rw [if_neg (show ¬ (false = true) by decide)] at H; exact H
     clear H
     have H := H1
     clear H1
     obtain ⟨y899, hy899⟩ : ∃ y_ : List (S76), y_ = (([] : List (S76))) := ⟨_, rfl⟩
     replace H : (some (y899, 1)) = some (r1, r2) := by first | (rw [hy899]; with_reducible exact H) | (have H2_ := (Option.bind_some _ _).symm.trans H; rw [hy899]; with_reducible exact H2_) | (have H2_ := (Option.bind_some _ _).symm.trans H; with_reducible exact H2_) | with_reducible exact H | (rw [hy899]; exact H) | exact H
     have Ny899 := Aside0.mk hy899
     clear hy899
     simp only [Option.some.injEq, Prod.mk.injEq] at H
     obtain ⟨rfl, rfl⟩ := H
     obtain ⟨Ao35, co35, eo35⟩ := Kd.qbN HO_0.out
     subst eo35
     go_wp2_with (first | ((with_reducible refine qav (f := 50) rfl ?_); refine qbd (some 22) rfl rfl Try.func50 (by kernel_rfl) rfl #[.slice Ao35 l0.length co35] rfl (by (try simp only [List.map_toArray, List.map_cons, List.map_nil]); first | done | rfl | (simp only [List.length_drop, List.length_take]; rfl)) ?_; (with_reducible refine (qaP.calls kj4 _ _ l0 false _ ?side1 ?side2 A13.out).mono ?_); (case side1 => repeat (first | exact (Kd.qaM HO_0.out).2.2 | (with_reducible refine Kd.qa6 ?_ _) | (with_reducible refine Kd.qa7 ?_ _) | (with_reducible refine Kd.qbj ?_))); (case side2 => exact (Kd.qaM HO_0.out).2.1); rintro e w36 ⟨rfl, hb⟩; refine ⟨_, rfl, ?_⟩; have n0_ := Aside0.mk (Kd.qaR (by (with_reducible repeat (first | apply Kd.qaw | apply Kd.qax | apply Kd.qaI)); exact HO_0.out) hb); have n1_ := Aside0.mk (qao (g := gb880) (o := .cells #[.string a3_0, .string a3_1, .int .i64 a3_2, .slice A3_3 l3_3.length c3_3, .int .i64 a3_4] 48 (0, 0)) (by (with_reducible repeat (first | refine qaj ?_ _ | refine qal ?_ | refine qai ?_ _)); exact BK880.out) hb); have n2_ := Aside0.mk (Kept.below (S := (fun k_ => P0_ k_)) (by repeat (first | (with_reducible first | exact HK.out | apply Kept.alloc | apply Kept.drewN | apply Kept.drew | refine Kept.setCell ?_ (.inr GW880.out) _) | exact HK.out)) hb); have n3_ := Aside0.mk (qag (by repeat (first | (with_reducible first | exact HB.out | apply qac | apply qaa | apply qab | refine qah ?_ GE880.out) | exact HB.out)) hb); clear HO_0; clear BK880; clear HK; clear HB; have HO_0 := n0_; have BK880 := n1_; have HK := n2_; have HB := n3_; clear n0_ n1_ n2_ n3_; (try clear hb); (try clear hb2); (try clear hk); (try clear hi)) | ((with_reducible refine qaH (N := 29) rfl ?_); (try (refine qbt (by rfl) ?_; dsimp only)); refine Kd.qdW k76 _ 76 ?hg (N := 29) ?hd (xs := ([] : List (S76))) (inner := []) (ok := fun _ => True) (okp := fun _ => True) ?hr ?hp (fun _ hk => hk) trivial (Below.refl _ _) (Nat.le_refl _) (by simp) ?_; (case hd => rfl); (case hg => rfl); (case hr => first | (go_simp; done) | (go_simp; rfl)); (case hp => exact (Reps.none _ _)); intro v900 w37 ho38 hb hg_ hnew_; clear hg_ hnew_; (first | rw [← Ny899.out] at ho38 | (simp only [Int.reduceToNat] at ho38; rw [← Ny899.out] at ho38)); have n0_ := Aside0.mk (Kd.qch (by (with_reducible repeat (first | apply Kd.qaw | apply Kd.qax | apply Kd.qaI)); exact HO_0.out) (Kd.qcQ ho38) hb); have n1_ := Aside0.mk (Kd.qbp (Kd.qc7 (Kd.qfR (M := fun k_ => (P0_ k_ ∨ w.heap.size ≤ k_)) ho38 (by first | exact HK.out.1 | exact (show Kept w _ (fun k_ => P0_ k_) from by repeat (first | (with_reducible first | exact HK.out | apply Kept.alloc | apply Kept.drewN | apply Kept.drew | refine Kept.setCell ?_ (.inr GW880.out) _) | exact HK.out)).1) (fun k_ h_ => .inr h_)) (Kd.R_lt (by (with_reducible repeat (first | apply Kd.qaw | apply Kd.qax | apply Kd.qaI)); exact HO_0.out))) (qak (by repeat (first | (with_reducible first | exact HB.out | apply qac | apply qaa | apply qab | refine qah ?_ GE880.out) | exact HB.out)))); have n2_ := Aside0.mk (qao (g := gb880) (o := .cells #[.string a3_0, .string a3_1, .int .i64 a3_2, .slice A3_3 l3_3.length c3_3, .int .i64 a3_4] 48 (0, 0)) (by (with_reducible repeat (first | refine qaj ?_ _ | refine qal ?_ | refine qai ?_ _)); exact BK880.out) hb); have n3_ := Aside0.mk (Kept.below (S := (fun k_ => P0_ k_)) (by repeat (first | (with_reducible first | exact HK.out | apply Kept.alloc | apply Kept.drewN | apply Kept.drew | refine Kept.setCell ?_ (.inr GW880.out) _) | exact HK.out)) hb); have n4_ := Aside0.mk (qag (by repeat (first | (with_reducible first | exact HB.out | apply qac | apply qaa | apply qab | refine qah ?_ GE880.out) | exact HB.out)) hb); clear HO_0; clear BK880; clear HK; clear HB; have HO_0 := n0_; have HO901 := n1_; have BK880 := n2_; have HK := n3_; have HB := n4_; clear n0_ n1_ n2_ n3_ n4_; clear hb ho38))
     go_ret2
     exact ⟨_, by first | rfl | (simp [qam, qan] <;> rfl) | (simp [*, qam, qan] <;> rfl), by (with_reducible repeat (first | apply Kd.qaw | apply Kd.qax | apply Kd.qaI)); exact Kd.qbs HO901.out (fun _ hk => hk.1.1), by repeat (first | (with_reducible first | exact HB.out | apply qac | apply qaa | apply qab | refine qah ?_ GE880.out) | exact HB.out), by repeat (first | (with_reducible first | exact HK.out | apply Kept.alloc | apply Kept.drewN | apply Kept.drew | refine Kept.setCell ?_ (.inr GW880.out) _) | exact HK.out)⟩
end Go.Proofs.Ytgcncphdjabjjaa.X
