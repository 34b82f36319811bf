import Derived.Test.YtenfomejccfkgaaKFnExactNodeBytes3
import Derived.Test.YtenfomejccfkgaaKFnExactNodeBytes4
import Derived.Test.YtenfomejccfkgaaKFnExactNodeBytes13
namespace Go.Proofs.Ytenfomejccfkgaa.X
open Go.RowKit Go.Proofs.YtenfomejccfkgaaW.PrintWords Go.Proofs.YtenfomejccfkgaaW.PrintLast Go.Proofs.YtenfomejccfkgaaW.PrintMore
attribute [local go_sem] qaE qaF qaG qaz qaA qaS qaT qau qav qaB qaC
set_option linter.unusedVariables false
set_option linter.unusedSimpArgs false
mutual
def qao.l0 : Nat → List ByteArray → List (S99) → Int → Int → Option (ByteArray)
 | 0, _, _, _, _ => none
 | k + 1, x3, x12, x13, x14 => if x14 < x13 then (if 0 ≤ x14 then (if x14 < (x12.length : Int) then ((some (([(qap x12 x14).f0, (qap x12 x14).f1] : List ByteArray) : List ByteArray)).bind fun y404 => (if x3.length + y404.length < 8796093022208 then (qao.l0 k (x3 ++ y404) x12 x13 (wrap64 (x14 + 1))) else (none))) else (none)) else (none)) else ((qbW.f x3).bind fun t410 => (if 1 + t410.size ≤ 9223372036854775807 then ((qbj.f k ((⟨#[108]⟩ : ByteArray) ++ t410)).bind fun t411 => (some t411)) else (none)))
def qao.l1 : Nat → List ByteArray → List Int → Int → Int → Bool → List (S99) → List ByteArray → List Int → Option (ByteArray)
 | 0, _, _, _, _, _, _, _, _ => none
 | k + 1, x3, x31, x32, x33, x399000, x399001, x399002, x399003 => if x33 < x32 then (if 0 ≤ x33 then (if x33 < (x31.length : Int) then ((some (([(rd x31 x33) % 256] : List Int) : List Int)).bind fun y413 => (if x33 < (x399002.length : Int) then (if (strOfNums y413).size + (rdOf ByteArray.empty x399002 x33).size ≤ 9223372036854775807 then (if x3.length < 8796093022208 then (qao.l1 k (x3 ++ [(strOfNums y413) ++ (rdOf ByteArray.empty x399002 x33)]) x31 x32 (wrap64 (x33 + 1)) x399000 x399001 x399002 x399003) else (none)) else (none)) else (none))) else (none)) else (none)) else ((qbW.f x3).bind fun t420 => (if 1 + t420.size ≤ 9223372036854775807 then ((qbj.f k ((⟨#[105]⟩ : ByteArray) ++ t420)).bind fun t421 => (some t421)) else (none)))
end
def qao.f (k : Nat) (a0_0 : Bool) (l0_1 : List (S99)) (l0_2 : List ByteArray) (l0_3 : List Int) : Option (ByteArray) := (some (([] : List ByteArray) : List ByteArray)).bind fun y399 => (if a0_0 = true then (qao.l0 k y399 l0_1 (l0_1.length : Int) 0) else (qao.l1 k y399 l0_3 (l0_3.length : Int) 0 a0_0 l0_1 l0_2 l0_3))
theorem qao.qbf : ∀ k, (∀ y0 y1 y2 y3, LeO (qao.l0 k y0 y1 y2 y3) (qao.l0 (k + 1) y0 y1 y2 y3)) ∧ (∀ y0 y1 y2 y3 y4 y5 y6 y7, LeO (qao.l1 k y0 y1 y2 y3 y4 y5 y6 y7) (qao.l1 (k + 1) y0 y1 y2 y3 y4 y5 y6 y7))
 | 0 => ⟨fun _ _ _ _ r h => by simp [qao.l0] at h, fun _ _ _ _ _ _ _ _ r h => by simp [qao.l1] at h⟩
 | k + 1 => by
  obtain ⟨ih0, ih1⟩ := qao.qbf k
  refine ⟨?_, ?_⟩
  ·intro y0 y1 y2 y3
   unfold qao.l0
   repeat' first
   | (with_reducible exact ih0 _ _ _ _)
   | (with_reducible exact ih1 _ _ _ _ _ _ _ _)
   | (with_reducible exact qbj.mono _ _)
   | (with_reducible exact LeO.refl _)
   | (with_reducible exact LeO.none _)
   | (with_reducible refine LeO.ite ?_ ?_)
   | (with_reducible refine LeO.bind ?_ (fun _ => ?_))
   | exact ih0 _ _ _ _
   | exact ih1 _ _ _ _ _ _ _ _
   | exact qbj.mono _ _
   | exact LeO.none _
   | refine LeO.ite ?_ ?_
   | refine LeO.bind ?_ (fun _ => ?_)
  ·intro y0 y1 y2 y3 y4 y5 y6 y7
   unfold qao.l1
   repeat' first
   | (with_reducible exact ih0 _ _ _ _)
   | (with_reducible exact ih1 _ _ _ _ _ _ _ _)
   | (with_reducible exact qbj.mono _ _)
   | (with_reducible exact LeO.refl _)
   | (with_reducible exact LeO.none _)
   | (with_reducible refine LeO.ite ?_ ?_)
   | (with_reducible refine LeO.bind ?_ (fun _ => ?_))
   | exact ih0 _ _ _ _
   | exact ih1 _ _ _ _ _ _ _ _
   | exact qbj.mono _ _
   | exact LeO.none _
   | refine LeO.ite ?_ ?_
   | refine LeO.bind ?_ (fun _ => ?_)
theorem qao.mono : ∀ a0 a1 a2 a3 k, LeO (qao.f k a0 a1 a2 a3) (qao.f (k + 1) a0 a1 a2 a3) := by
 intro a0 a1 a2 a3 k
 obtain ⟨ih0, ih1⟩ := qao.qbf k
 unfold qao.f
 repeat' first
   | (with_reducible exact ih0 _ _ _ _)
   | (with_reducible exact ih1 _ _ _ _ _ _ _ _)
   | (with_reducible exact qbj.mono _ _)
   | (with_reducible exact LeO.refl _)
   | (with_reducible exact LeO.none _)
   | (with_reducible refine LeO.ite ?_ ?_)
   | (with_reducible refine LeO.bind ?_ (fun _ => ?_))
   | exact ih0 _ _ _ _
   | exact ih1 _ _ _ _ _ _ _ _
   | exact qbj.mono _ _
   | exact LeO.none _
   | refine LeO.ite ?_ ?_
   | refine LeO.bind ?_ (fun _ => ?_)
def qao.T12 : Bool × List (List Nat × List Nat) := (true, [([], []), ([], []), ([1], [1]), ([2], [2]), ([3], [3]), ([], []), ([5], [5]), ([], []), ([6, 7], [6, 7]), ([8], [8]), ([4, 9], [4, 9]), ([10], [10]), ([0, 11], [0, 11]), ([12, 12, 0, 1, 2, 3, 4, 5, 6, 7, 8, 9, 10, 11, 12], [0, 12])])
def qao.B12 : List Nat := [0, 0, 2, 6, 14, 0, 32, 0, 224, 480, 1022, 2046, 4095, 8191]
theorem qao.tab12 : rtab .any (opsOf Try.f84 12) = qao.T12 := by kernel_rfl
theorem qao.qgH : qcd qao.T12.2 qao.B12 = true := by kernel_rfl
set_option maxHeartbeats 8000000 in
set_option maxRecDepth 100000 in
theorem qao.calls (k : Nat) (a0_0 : Bool) (A0_1 : Option Addr) (c0_1 : Nat) (l0_1 : List (S99)) (A0_2 : Option Addr) (c0_2 : Nat) (l0_2 : List ByteArray) (A0_3 : Option Addr) (c0_3 : Nat) (l0_3 : List Int) (r : ByteArray) (w : World) (hr0_1 : Kd.C k99 w A0_1 l0_1.length l0_1) (hc0_1 : l0_1.length ≤ c0_1) (hr0_2 : Kd.C Kd.string w A0_2 l0_2.length l0_2) (hc0_2 : l0_2.length ≤ c0_2) (hr0_3 : Kd.C (Kd.int .i64) w A0_3 l0_3.length l0_3) (hc0_3 : l0_3.length ≤ c0_3) (h : qao.f k a0_0 l0_1 l0_2 l0_3 = some r) :
  Calls Try.prog 84 #[.agg #[.bool a0_0, .slice A0_1 l0_1.length c0_1, .slice A0_2 l0_2.length c0_2, .slice A0_3 l0_3.length c0_3]] w fun e w' => e = .returned (.string r) ∧ Below w.heap.size w w' := by
 have hu56 := Try.underlying56
 have hu99 := Try.underlying99
 have HR0_1 := Aside0.mk hr0_1
 have HC0_1 := Aside0.mk hc0_1
 clear hr0_1 hc0_1
 have HR0_2 := Aside0.mk hr0_2
 have HC0_2 := Aside0.mk hc0_2
 clear hr0_2 hc0_2
 have HR0_3 := Aside0.mk hr0_3
 have HC0_3 := Aside0.mk hc0_3
 clear hr0_3 hc0_3
 have HB := Aside0.mk (Below.refl w.heap.size w)
 have H : ((some (([] : List ByteArray) : List ByteArray)).bind fun y399 => (if a0_0 = true then (qao.l0 k y399 l0_1 (l0_1.length : Int) 0) else (qao.l1 k y399 l0_3 (l0_3.length : Int) 0 a0_0 l0_1 l0_2 l0_3))) = some r := h
 clear h
 obtain ⟨y399, hy399⟩ : ∃ y_ : List ByteArray, y_ = (([] : List ByteArray)) := ⟨_, rfl⟩
 replace H : (if a0_0 = true then (qao.l0 k y399 l0_1 (l0_1.length : Int) 0) else (qao.l1 k y399 l0_3 (l0_3.length : Int) 0 a0_0 l0_1 l0_2 l0_3)) = some r := by first | (rw [hy399]; with_reducible exact H) | (have H2_ := (Option.bind_some _ _).symm.trans H; rw [hy399]; with_reducible exact H2_) | (have H2_ := (Option.bind_some _ _).symm.trans H; with_reducible exact H2_) | with_reducible exact H | (rw [hy399]; exact H) | exact H
 have Ny399 := Aside0.mk hy399
 clear hy399
 by_cases c2 : a0_0 = true
 ·subst c2
  have H1 : (qao.l0 k y399 l0_1 (l0_1.length : Int) 0) = some r := by rw [if_pos rfl] at H; exact H
  clear H
  have H := H1
  clear H1
  have H' := Aside0.mk H
  clear H
  go_enter Try.func84, Try.ntmps84
  go_wp2_with (first | ((with_reducible refine qaK (N := 1) rfl ?_); refine qaJ ?hg (N := 1) ?hd (cs := #[.bool true, .slice A0_1 l0_1.length c0_1, .slice A0_2 l0_2.length c0_2, .slice A0_3 l0_3.length c0_3]) (t := 56) ?hr ?_; (case hd => rfl); (case hg => rfl); (case hr => first | (go_simp; done) | (go_simp; rfl)); intro gb398 hg w3 hbox hb; have n0_ := Aside0.mk (qag (by repeat (first | (with_reducible first | exact HB.out | apply qac | apply qaa | apply qab) | exact HB.out)) hb); have n1_ := Aside0.mk (hbox); have n2_ := Aside0.mk ((by rw [hg]; exact (qah (by repeat (first | (with_reducible first | exact HB.out | apply qac | apply qaa | apply qab) | exact HB.out))) : w.heap.size ≤ gb398)); have n3_ := Aside0.mk ((by rw [hg]; exact (qah (by repeat (first | (with_reducible first | exact HB.out | apply qac | apply qaa | apply qab) | exact HB.out))) : w.heap.size ≤ gb398)); clear HB; have HB := n0_; have BK398 := n1_; have GW398 := n2_; have GE398 := n3_; clear n0_ n1_ n2_ n3_; clear hb hbox hg) | ((with_reducible refine qaK (N := 8) rfl ?_); refine Kd.qd1 Kd.string _ 9 ?hg (N := 8) ?hd (xs := ([] : List ByteArray)) (inner := []) (ok := fun _ => True) (okp := fun _ => True) ?hr ?hp (fun _ hk => hk) trivial (Below.refl _ _) (Nat.le_refl _) (by simp) ?_; (case hd => rfl); (case hg => rfl); (case hr => first | (go_simp; done) | (go_simp; rfl)); (case hp => exact (Reps.none _ _)); intro v400 w4 ho5 hb hg_ hnew_; clear hg_ hnew_; (first | rw [← Ny399.out] at ho5 | (simp only [Int.reduceToNat] at ho5; rw [← Ny399.out] at ho5)); have n0_ := Aside0.mk (Kd.qbt ho5 (qah (by repeat (first | (with_reducible first | exact HB.out | apply qac | apply qaa | apply qab | refine qaf ?_ GE398.out) | exact HB.out)))); have n1_ := Aside0.mk (qas (g := gb398) (o := .cells #[.bool true, .slice A0_1 l0_1.length c0_1, .slice A0_2 l0_2.length c0_2, .slice A0_3 l0_3.length c0_3] 56 (0, 0)) (by (with_reducible repeat (first | refine qal ?_ _ | refine qam ?_ | refine qak ?_ _)); exact BK398.out) hb); have n2_ := Aside0.mk (qag (by repeat (first | (with_reducible first | exact HB.out | apply qac | apply qaa | apply qab | refine qaf ?_ GE398.out) | exact HB.out)) hb); clear BK398; clear HB; have HO401 := n0_; have BK398 := n1_; have HB := n2_; clear n0_ n1_ n2_; clear hb ho5; have hcz6_0 : w4.cell? ⟨gb398, 0, none⟩ = some (.bool true) := (qae BK398.out 0).trans rfl; have hcz6_1 : w4.cell? ⟨gb398, 1, none⟩ = some (.slice A0_1 l0_1.length c0_1) := (qae BK398.out 1).trans rfl; have hcz6_2 : w4.cell? ⟨gb398, 2, none⟩ = some (.slice A0_2 l0_2.length c0_2) := (qae BK398.out 2).trans rfl; have hcz6_3 : w4.cell? ⟨gb398, 3, none⟩ = some (.slice A0_3 l0_3.length c0_3) := (qae BK398.out 3).trans rfl; have hfz6_0 := qad BK398.out 0; have hfz6_1 := qad BK398.out 1; have hfz6_2 := qad BK398.out 2; have hfz6_3 := qad BK398.out 3))
  go_loopg [3, 14] k (fun kq v3 v14 w' => ∃ (x3_1 : List ByteArray) (x14_1 : Int), v14 = .int .i64 x14_1 ∧ Aside0 (qao.l0 kq x3_1 l0_1 (l0_1.length : Int) x14_1 = some r) ∧ Aside0 (kq ≤ k) ∧ Aside0 (Kd.R Kd.string 9 w' w.heap.size (fun _ => True) v3 x3_1) ∧ Aside0 (w'.heap[gb398]? = some (.cells #[.bool true, (.slice A0_1 l0_1.length c0_1), (.slice A0_2 l0_2.length c0_2), (.slice A0_3 l0_3.length c0_3)] 56 (0, 0))) ∧ Aside0 (Below w.heap.size w w'))
  case atStart => exact ⟨(y399), (0), (by first | rfl | (simp; done) | (simp [*]; done)), H', ⟨Nat.le_refl _⟩, ⟨by (with_reducible repeat (first | apply Kd.qaY | apply Kd.qa1 | apply Kd.qa9)); exact HO401.out⟩, ⟨by (with_reducible repeat (first | refine qal ?_ _ | refine qam ?_ | refine qak ?_ _)); exact BK398.out⟩, ⟨by repeat (first | (with_reducible first | exact HB.out | apply qac | apply qaa | apply qab | refine qaf ?_ GE398.out) | exact HB.out)⟩⟩
  case round =>
   clear H'
   try clear c2
   try clear p2
   try clear hcz6_0
   try clear hcz6_1
   try clear hcz6_2
   try clear hcz6_3
   try clear hfz6_0
   try clear hfz6_1
   try clear hfz6_2
   try clear hfz6_3
   obtain ⟨x3_1, x14_1, rfl, HA, HK1, HO_3, BK398, HB⟩ := hrel
   cases gk with
   | zero => exact absurd HA.out (by simp [qao.l0])
   | succ k1 =>
    have H := HA.out
    clear HA
    simp only [qao.l0] at H
    by_cases c7 : x14_1 < (l0_1.length : Int)
    ·rw [if_pos c7] at H
     have c7b0 : decide (x14_1 < (l0_1.length : Int)) = true := decide_eq_true c7
     clear c7
     by_cases c8 : 0 ≤ x14_1
     ·rw [if_pos c8] at H
      have c8b0 : decide (0 ≤ x14_1) = true := decide_eq_true c8
      clear c8
      by_cases c9 : x14_1 < (l0_1.length : Int)
      ·rw [if_pos c9] at H
       have c9b0 : decide (x14_1 < (l0_1.length : Int)) = true := decide_eq_true c9
       clear c9
       obtain ⟨y404, hy404⟩ : ∃ y_ : List ByteArray, y_ = (([(qap l0_1 x14_1).f0, (qap l0_1 x14_1).f1] : List ByteArray)) := ⟨_, rfl⟩
       replace H : (if x3_1.length + y404.length < 8796093022208 then (qao.l0 k1 (x3_1 ++ y404) l0_1 (l0_1.length : Int) (wrap64 (x14_1 + 1))) else (none)) = some r := by first | (rw [hy404]; with_reducible exact H) | (have H2_ := (Option.bind_some _ _).symm.trans H; rw [hy404]; with_reducible exact H2_) | (have H2_ := (Option.bind_some _ _).symm.trans H; with_reducible exact H2_) | with_reducible exact H | (rw [hy404]; exact H) | exact H
       have Ny404 := Aside0.mk hy404
       clear hy404
       by_cases c10 : x3_1.length + y404.length < 8796093022208
       ·rw [if_pos c10] at H
        have LMc10 := Aside0.mk c10
        clear c10
        obtain ⟨y407, hy407⟩ : ∃ y_ : List ByteArray, y_ = (x3_1 ++ y404) := ⟨_, rfl⟩
        replace H : (qao.l0 k1 y407 l0_1 (l0_1.length : Int) (wrap64 (x14_1 + 1))) = some r := by first | (rw [hy407]; with_reducible exact H) | (have H2_ := (Option.bind_some _ _).symm.trans H; rw [hy407]; with_reducible exact H2_) | (have H2_ := (Option.bind_some _ _).symm.trans H; with_reducible exact H2_) | with_reducible exact H | (rw [hy407]; exact H) | exact H
        have Ny407 := Aside0.mk hy407
        clear hy407
        have H' := Aside0.mk H
        clear H
        have p402 : 0 ≤ (x14_1 : Int) := of_decide_eq_true (by first | (with_reducible assumption) | assumption)
        have q402 : x14_1 < (l0_1.length : Int) := of_decide_eq_true (by first | (with_reducible assumption) | assumption)
        obtain ⟨ad402, e402, hx402_0, hx402_1⟩ := qb7 HR0_1.out x14_1 p402 q402
        cases e402
        replace hx402_0 := (HB.out.cell (World.block_lt_of_cell? w _ hx402_0)).trans hx402_0
        replace hx402_1 := (HB.out.cell (World.block_lt_of_cell? w _ hx402_1)).trans hx402_1
        replace p402 := eq_true p402
        replace q402 := eq_true q402
        go_wp2_with (first | ((with_reducible refine qaK (N := 5) rfl ?_); refine qaJ ?hg (N := 5) ?hd (cs := #[.string (⟨#[]⟩ : ByteArray), .string (⟨#[]⟩ : ByteArray)]) (t := 99) ?hr ?_; (case hd => rfl); (case hg => rfl); (case hr => first | (go_simp; done) | (go_simp; rfl)); intro gb403 hg w11 hbox hb; have n0_ := Aside0.mk (Kd.qbe (by (with_reducible repeat (first | apply Kd.qaY | apply Kd.qa1 | apply Kd.qa9)); exact HO_3.out) hb); have n1_ := Aside0.mk (qas (g := gb398) (o := .cells #[.bool true, .slice (some ad402) l0_1.length c0_1, .slice A0_2 l0_2.length c0_2, .slice A0_3 l0_3.length c0_3] 56 (0, 0)) (by (with_reducible repeat (first | refine qal ?_ _ | refine qam ?_ | refine qak ?_ _)); exact BK398.out) hb); have n2_ := Aside0.mk (qag (by repeat (first | (with_reducible first | exact HB.out | apply qac | apply qaa | apply qab | refine qaf ?_ GE398.out) | exact HB.out)) hb); have n3_ := Aside0.mk (hbox); have n4_ := Aside0.mk ((by rw [hg]; exact (qah (by repeat (first | (with_reducible first | exact HB.out | apply qac | apply qaa | apply qab | refine qaf ?_ GE398.out) | exact HB.out))) : w.heap.size ≤ gb403)); have n5_ := Aside0.mk ((by rw [hg]; exact (qah (by repeat (first | (with_reducible first | exact HB.out | apply qac | apply qaa | apply qab | refine qaf ?_ GE398.out) | exact HB.out))) : w.heap.size ≤ gb403)); have n6_ := Aside0.mk ((by rw [hg]; exact Nat.ne_of_lt (qbs (g := gb398) (o := .cells #[.bool true, .slice (some ad402) l0_1.length c0_1, .slice A0_2 l0_2.length c0_2, .slice A0_3 l0_3.length c0_3] 56 (0, 0)) (by (with_reducible repeat (first | refine qal ?_ _ | refine qam ?_ | refine qak ?_ _)); exact BK398.out)) : gb398 ≠ gb403)); have n7_ := Aside0.mk ((by rw [hg]; exact Nat.ne_of_gt (qbs (g := gb398) (o := .cells #[.bool true, .slice (some ad402) l0_1.length c0_1, .slice A0_2 l0_2.length c0_2, .slice A0_3 l0_3.length c0_3] 56 (0, 0)) (by (with_reducible repeat (first | refine qal ?_ _ | refine qam ?_ | refine qak ?_ _)); exact BK398.out)) : gb403 ≠ gb398)); clear HO_3; clear BK398; clear HB; have HO_3 := n0_; have BK398 := n1_; have HB := n2_; have BK403 := n3_; have GW403 := n4_; have GE403 := n5_; have NB398_403 := n6_; have NB403_398 := n7_; clear n0_ n1_ n2_ n3_ n4_ n5_ n6_ n7_; clear hb hbox hg; have hnb12 := NB403_398.out; have hnc12 := NB398_403.out; have hcz13_0 : w11.cell? ⟨gb403, 0, none⟩ = some (.string (⟨#[]⟩ : ByteArray)) := (qae BK403.out 0).trans rfl; have hcz13_1 : w11.cell? ⟨gb403, 1, none⟩ = some (.string (⟨#[]⟩ : ByteArray)) := (qae BK403.out 1).trans rfl; have hfz13_0 := qad BK403.out 0; have hfz13_1 := qad BK403.out 1) | ((with_reducible refine qaK (N := 23) rfl ?_); refine Kd.qd1 Kd.string _ 9 ?hg (N := 23) ?hd (xs := ([(qap l0_1 x14_1).f0, (qap l0_1 x14_1).f1] : List ByteArray)) (inner := [.string ((qap l0_1 x14_1).f0), .string ((qap l0_1 x14_1).f1)]) (ok := fun _ => True) (okp := fun _ => True) ?hr ?hp (fun _ hk => hk) trivial (Below.refl _ _) (Nat.le_refl _) (by simp) ?_; (case hd => rfl); (case hg => rfl); (case hr => first | (go_simp; done) | (go_simp; rfl)); (case hp => exact (Reps.one (show Kd.M Kd.string _ _ _ ((qap l0_1 x14_1).f0) [.string ((qap l0_1 x14_1).f0)] from rfl) (Reps.one (show Kd.M Kd.string _ _ _ ((qap l0_1 x14_1).f1) [.string ((qap l0_1 x14_1).f1)] from rfl) (Reps.none _ _)))); intro v405 w14 ho15 hb hg_ hnew_; clear hg_ hnew_; (first | rw [← Ny404.out] at ho15 | (simp only [Int.reduceToNat] at ho15; rw [← Ny404.out] at ho15)); have n0_ := Aside0.mk (Kd.qfx (by (with_reducible repeat (first | apply Kd.qaY | apply Kd.qa1 | apply Kd.qa9)); exact (Kd.qbp (Kd.qcq (p := ⟨gb403, 1, none⟩) (Kd.qcq (p := ⟨gb403, 0, none⟩) (Kd.qck HO_3.out BK403.out (by decide)) (fun _ hk => hk.2) (.string ((qap l0_1 x14_1).f0))) (fun _ hk => hk.2) (.string ((qap l0_1 x14_1).f1))) (fun _ h_ => h_.1))) (Kd.R_base ho15) hb); have n1_ := Aside0.mk (Kd.qbt (Kd.R_new' ho15 (Kd.R_lt (by (with_reducible repeat (first | apply Kd.qaY | apply Kd.qa1 | apply Kd.qa9)); exact (Kd.qbp (Kd.qcq (p := ⟨gb403, 1, none⟩) (Kd.qcq (p := ⟨gb403, 0, none⟩) (Kd.qck HO_3.out BK403.out (by decide)) (fun _ hk => hk.2) (.string ((qap l0_1 x14_1).f0))) (fun _ hk => hk.2) (.string ((qap l0_1 x14_1).f1))) (fun _ h_ => h_.1))))) (qah (by repeat (first | (with_reducible first | exact HB.out | apply qac | apply qaa | apply qab | refine qaf ?_ GE398.out | refine qaf ?_ GE403.out) | exact HB.out)))); have n2_ := Aside0.mk (qas (g := gb398) (o := .cells #[.bool true, .slice (some ad402) l0_1.length c0_1, .slice A0_2 l0_2.length c0_2, .slice A0_3 l0_3.length c0_3] 56 (0, 0)) (by (with_reducible repeat (first | refine qal ?_ _ | refine qam ?_ | refine qak ?_ _)); refine qch ?_ NB398_403.out _; (with_reducible repeat (first | refine qal ?_ _ | refine qam ?_ | refine qak ?_ _)); refine qch ?_ NB398_403.out _; (with_reducible repeat (first | refine qal ?_ _ | refine qam ?_ | refine qak ?_ _)); exact BK398.out) hb); have n3_ := Aside0.mk (qas (g := gb403) (o := .cells #[.string ((qap l0_1 x14_1).f0), .string ((qap l0_1 x14_1).f1)] 99 (0, 0)) (by (with_reducible repeat (first | refine qal ?_ _ | refine qam ?_ | refine qak ?_ _)); refine qbq (cs := #[.string ((qap l0_1 x14_1).f0), .string (⟨#[]⟩ : ByteArray)]) ?_ 1 _ rfl; (with_reducible repeat (first | refine qal ?_ _ | refine qam ?_ | refine qak ?_ _)); refine qbq (cs := #[.string (⟨#[]⟩ : ByteArray), .string (⟨#[]⟩ : ByteArray)]) ?_ 0 _ rfl; (with_reducible repeat (first | refine qal ?_ _ | refine qam ?_ | refine qak ?_ _)); exact BK403.out) hb); have n4_ := Aside0.mk (qag (by repeat (first | (with_reducible first | exact HB.out | apply qac | apply qaa | apply qab | refine qaf ?_ GE398.out | refine qaf ?_ GE403.out) | exact HB.out)) hb); clear HO_3; clear BK398; clear BK403; clear HB; have HO_3 := n0_; have HO406 := n1_; have BK398 := n2_; have BK403 := n3_; have HB := n4_; clear n0_ n1_ n2_ n3_ n4_; clear hb ho15; obtain ⟨Ao17, co17, eo17⟩ := Kd.qbT HO406.out; subst eo17) | ((with_reducible refine qcL (b := .append) (xs := #[.tmp 18, .tmp 23]) rfl ?_); at_builtin; refine Kd.qcB Kd.string (w0 := w) w.heap.size rfl (.tmp 18) (.tmp 23) 48 9 (.string ⟨#[]⟩) 16 rfl Try.underlying48 info9 rfl (by decide) (by omega) u3 x3_1 y404 _ _ _ (fun k_ => some k_ ≠ (.slice Ao17 y404.length co17 : Value).ownBlock) (fun _ => False) rfl rfl ?aO ?aR (fun _ _ h => h) (fun _ h => h.elim) ?aF ?aB ?aS ?aL ?_; (case aR => repeat (first | exact (Kd.qa3 HO406.out).2.2 | (with_reducible refine Kd.qaQ ?_ _) | (with_reducible refine Kd.qaR ?_ _) | (with_reducible refine Kd.qa6 ?_))); (case aB => exact (by repeat (first | (with_reducible first | exact HB.out | apply qac | apply qaa | apply qab | refine qaf ?_ GE398.out | refine qaf ?_ GE403.out) | exact HB.out))); (case aF => exact (fun k_ hk => Kd.fresh' (Kd.R_lt (by (with_reducible repeat (first | apply Kd.qaY | apply Kd.qa1 | apply Kd.qa9)); exact HO406.out)) k_ hk)); (case aO => exact (by (with_reducible repeat (first | apply Kd.qaY | apply Kd.qa1 | apply Kd.qa9)); exact Kd.qbp HO_3.out (fun _ hk => hk.2))); (case aS => exact (qah (by repeat (first | (with_reducible first | exact HB.out | apply qac | apply qaa | apply qab | refine qaf ?_ GE398.out | refine qaf ?_ GE403.out) | exact HB.out)))); (case aL => have := LMc10.out; omega); intro v408 w16 ho hb hg hat; rw [← Ny407.out] at ho; have n0_ := Aside0.mk (qb9 (g := gb398) (o := .cells #[.bool true, .slice (some ad402) l0_1.length c0_1, .slice A0_2 l0_2.length c0_2, .slice A0_3 l0_3.length c0_3] 56 (0, 0)) (by (with_reducible repeat (first | refine qal ?_ _ | refine qam ?_ | refine qak ?_ _)); exact BK398.out) hg (Kd.R_ne HO_3.out BK398.out (by decide))); have n1_ := Aside0.mk (qb9 (g := gb403) (o := .cells #[.string ((qap l0_1 x14_1).f0), .string ((qap l0_1 x14_1).f1)] 99 (0, 0)) (by (with_reducible repeat (first | refine qal ?_ _ | refine qam ?_ | refine qak ?_ _)); exact BK403.out) hg (Kd.R_ne HO_3.out BK403.out (by decide))); have n2_ := Aside0.mk (Kd.qga (ok := (fun _ => True)) (by (with_reducible repeat (first | apply Kd.qaY | apply Kd.qa1 | apply Kd.qa9)); exact HO406.out) hg hat); have n3_ := Aside0.mk (hb); have n4_ := Aside0.mk (ho); clear BK398; clear BK403; clear HO406; clear HB; clear HO_3; have BK398 := n0_; have BK403 := n1_; have HO406 := n2_; have HB := n3_; have HO409 := n4_; clear n0_ n1_ n2_ n3_ n4_; clear ho hb hg hat))
        go_roundg k1
        case measure => have := HK1.out; omega
        case rel => exact ⟨(y407), (wrap64 (x14_1 + 1)), (by first | rfl | (simp; done) | (simp [*]; done)), H', ⟨by have := HK1.out; omega⟩, ⟨by (with_reducible repeat (first | apply Kd.qaY | apply Kd.qa1 | apply Kd.qa9)); exact Kd.qbp HO409.out (fun _ hk => trivial)⟩, ⟨by (with_reducible repeat (first | refine qal ?_ _ | refine qam ?_ | refine qak ?_ _)); exact BK398.out⟩, ⟨by repeat (first | (with_reducible first | exact HB.out | apply qac | apply qaa | apply qab | refine qaf ?_ GE398.out | refine qaf ?_ GE403.out) | exact HB.out)⟩⟩
       ·rw [if_neg c10] at H
        exact absurd H (by simp)
      ·rw [if_neg c9] at H
       exact absurd H (by simp)
     ·rw [if_neg c8] at H
      exact absurd H (by simp)
    ·rw [if_neg c7] at H
     have c7b0 : decide (x14_1 < (l0_1.length : Int)) = false := decide_eq_false c7
     clear c7
     replace H := Option.bind_eq_some_iff.mp H
     obtain ⟨t410, A180, H⟩ := H
     replace H : (if 1 + t410.size ≤ 9223372036854775807 then ((qbj.f k1 ((⟨#[108]⟩ : ByteArray) ++ t410)).bind fun t411 => (some t411)) else (none)) = some r := H
     have A18 := Aside0.mk A180
     clear A180
     by_cases c19 : 1 + t410.size ≤ 9223372036854775807
     ·rw [if_pos c19] at H
      have c19b0 := eq_true c19
      have c19b1 : decide (1 + t410.size ≤ 9223372036854775807) = true := decide_eq_true c19
      try have c19b2 : (9223372036854775807 < 1 + t410.size) = False := eq_false (Nat.not_lt.2 c19)
      replace H := Option.bind_eq_some_iff.mp H
      obtain ⟨t411, A200, H⟩ := H
      replace H : (some t411) = some r := H
      have A20 := Aside0.mk A200
      clear A200
      obtain rfl := Option.some.inj H
      obtain ⟨Ao21, co21, eo21⟩ := Kd.qbT HO_3.out
      subst eo21
      go_wp2_with (first | ((with_reducible refine qaq (f := 131) rfl ?_); refine qbd (some 27) rfl rfl Try.func131 (by kernel_rfl) rfl #[.slice Ao21 x3_1.length co21] rfl (by (try simp only [List.map_toArray, List.map_cons, List.map_nil]); first | done | rfl | (simp only [List.length_drop, List.length_take]; rfl)) ?_; (with_reducible refine (qbW.calls _ _ x3_1 t410 _ ?side1 ?side2 A18.out).mono ?_); (case side1 => repeat (first | exact (Kd.qa3 HO_3.out).2.2 | (with_reducible refine Kd.qaQ ?_ _) | (with_reducible refine Kd.qaR ?_ _) | (with_reducible refine Kd.qa6 ?_))); (case side2 => exact (Kd.qa3 HO_3.out).2.1); rintro e w22 ⟨rfl, hb⟩; refine ⟨_, rfl, ?_⟩; have n0_ := Aside0.mk (Kd.qbe (by (with_reducible repeat (first | apply Kd.qaY | apply Kd.qa1 | apply Kd.qa9)); exact HO_3.out) hb); have n1_ := Aside0.mk (qas (g := gb398) (o := .cells #[.bool true, .slice A0_1 l0_1.length c0_1, .slice A0_2 l0_2.length c0_2, .slice A0_3 l0_3.length c0_3] 56 (0, 0)) (by (with_reducible repeat (first | refine qal ?_ _ | refine qam ?_ | refine qak ?_ _)); exact BK398.out) hb); have n2_ := Aside0.mk (qag (by repeat (first | (with_reducible first | exact HB.out | apply qac | apply qaa | apply qab | refine qaf ?_ GE398.out) | exact HB.out)) hb); clear HO_3; clear BK398; clear HB; have HO_3 := n0_; have BK398 := n1_; have HB := n2_; clear n0_ n1_ n2_; (try clear hb); (try clear hb2); (try clear hk); (try clear hi)) | ((with_reducible refine qaq (f := 130) rfl ?_); refine qbd (some 29) rfl rfl Try.func130 (by kernel_rfl) rfl #[.string ((⟨#[108]⟩ : ByteArray) ++ t410)] rfl (by (try simp only [List.map_toArray, List.map_cons, List.map_nil]); first | done | rfl | (simp only [List.length_drop, List.length_take]; rfl)) ?_; (with_reducible refine (qbj.calls k1 ((⟨#[108]⟩ : ByteArray) ++ t410) t411 _ A20.out).mono ?_); rintro e w23 ⟨rfl, hb⟩; refine ⟨_, rfl, ?_⟩; have n0_ := Aside0.mk (Kd.qbe (by (with_reducible repeat (first | apply Kd.qaY | apply Kd.qa1 | apply Kd.qa9)); exact HO_3.out) hb); have n1_ := Aside0.mk (qas (g := gb398) (o := .cells #[.bool true, .slice A0_1 l0_1.length c0_1, .slice A0_2 l0_2.length c0_2, .slice A0_3 l0_3.length c0_3] 56 (0, 0)) (by (with_reducible repeat (first | refine qal ?_ _ | refine qam ?_ | refine qak ?_ _)); exact BK398.out) hb); have n2_ := Aside0.mk (qag (by repeat (first | (with_reducible first | exact HB.out | apply qac | apply qaa | apply qab | refine qaf ?_ GE398.out) | exact HB.out)) hb); clear HO_3; clear BK398; clear HB; have HO_3 := n0_; have BK398 := n1_; have HB := n2_; clear n0_ n1_ n2_; (try clear hb); (try clear hb2); (try clear hk); (try clear hi)))
      go_ret
      exact ⟨by first | rfl | (simp [qai, qaj] <;> rfl) | (simp [*, qai, qaj] <;> rfl), by repeat (first | (with_reducible first | exact HB.out | apply qac | apply qaa | apply qab | refine qaf ?_ GE398.out) | exact HB.out)⟩
     ·rw [if_neg c19] at H
      exact absurd H (by simp)
 ·replace c2 := Bool.eq_false_iff.mpr c2
  subst c2
  have H1 : (qao.l1 k y399 l0_3 (l0_3.length : Int) 0 false l0_1 l0_2 l0_3) = some r := by rw [if_neg (show ¬ (false = true) by decide)] at H; exact H
  clear H
  have H := H1
  clear H1
  have H' := Aside0.mk H
  clear H
  go_enter Try.func84, Try.ntmps84
  go_wp2_with (first | ((with_reducible refine qaK (N := 1) rfl ?_); refine qaJ ?hg (N := 1) ?hd (cs := #[.bool false, .slice A0_1 l0_1.length c0_1, .slice A0_2 l0_2.length c0_2, .slice A0_3 l0_3.length c0_3]) (t := 56) ?hr ?_; (case hd => rfl); (case hg => rfl); (case hr => first | (go_simp; done) | (go_simp; rfl)); intro gb398 hg w24 hbox hb; have n0_ := Aside0.mk (qag (by repeat (first | (with_reducible first | exact HB.out | apply qac | apply qaa | apply qab) | exact HB.out)) hb); have n1_ := Aside0.mk (hbox); have n2_ := Aside0.mk ((by rw [hg]; exact (qah (by repeat (first | (with_reducible first | exact HB.out | apply qac | apply qaa | apply qab) | exact HB.out))) : w.heap.size ≤ gb398)); have n3_ := Aside0.mk ((by rw [hg]; exact (qah (by repeat (first | (with_reducible first | exact HB.out | apply qac | apply qaa | apply qab) | exact HB.out))) : w.heap.size ≤ gb398)); clear HB; have HB := n0_; have BK398 := n1_; have GW398 := n2_; have GE398 := n3_; clear n0_ n1_ n2_ n3_; clear hb hbox hg) | ((with_reducible refine qaK (N := 8) rfl ?_); refine Kd.qd1 Kd.string _ 9 ?hg (N := 8) ?hd (xs := ([] : List ByteArray)) (inner := []) (ok := fun _ => True) (okp := fun _ => True) ?hr ?hp (fun _ hk => hk) trivial (Below.refl _ _) (Nat.le_refl _) (by simp) ?_; (case hd => rfl); (case hg => rfl); (case hr => first | (go_simp; done) | (go_simp; rfl)); (case hp => exact (Reps.none _ _)); intro v400 w25 ho26 hb hg_ hnew_; clear hg_ hnew_; (first | rw [← Ny399.out] at ho26 | (simp only [Int.reduceToNat] at ho26; rw [← Ny399.out] at ho26)); have n0_ := Aside0.mk (Kd.qbt ho26 (qah (by repeat (first | (with_reducible first | exact HB.out | apply qac | apply qaa | apply qab | refine qaf ?_ GE398.out) | exact HB.out)))); have n1_ := Aside0.mk (qas (g := gb398) (o := .cells #[.bool false, .slice A0_1 l0_1.length c0_1, .slice A0_2 l0_2.length c0_2, .slice A0_3 l0_3.length c0_3] 56 (0, 0)) (by (with_reducible repeat (first | refine qal ?_ _ | refine qam ?_ | refine qak ?_ _)); exact BK398.out) hb); have n2_ := Aside0.mk (qag (by repeat (first | (with_reducible first | exact HB.out | apply qac | apply qaa | apply qab | refine qaf ?_ GE398.out) | exact HB.out)) hb); clear BK398; clear HB; have HO401 := n0_; have BK398 := n1_; have HB := n2_; clear n0_ n1_ n2_; clear hb ho26; have hcz27_0 : w25.cell? ⟨gb398, 0, none⟩ = some (.bool false) := (qae BK398.out 0).trans rfl; have hcz27_1 : w25.cell? ⟨gb398, 1, none⟩ = some (.slice A0_1 l0_1.length c0_1) := (qae BK398.out 1).trans rfl; have hcz27_2 : w25.cell? ⟨gb398, 2, none⟩ = some (.slice A0_2 l0_2.length c0_2) := (qae BK398.out 2).trans rfl; have hcz27_3 : w25.cell? ⟨gb398, 3, none⟩ = some (.slice A0_3 l0_3.length c0_3) := (qae BK398.out 3).trans rfl; have hfz27_0 := qad BK398.out 0; have hfz27_1 := qad BK398.out 1; have hfz27_2 := qad BK398.out 2; have hfz27_3 := qad BK398.out 3))
  go_loopg [3, 33] k (fun kq v3 v33 w' => ∃ (x3_1 : List ByteArray) (x33_1 : Int), v33 = .int .i64 x33_1 ∧ Aside0 (qao.l1 kq x3_1 l0_3 (l0_3.length : Int) x33_1 false l0_1 l0_2 l0_3 = some r) ∧ Aside0 (kq ≤ k) ∧ Aside0 (Kd.R Kd.string 9 w' w.heap.size (fun _ => True) v3 x3_1) ∧ Aside0 (w'.heap[gb398]? = some (.cells #[.bool false, (.slice A0_1 l0_1.length c0_1), (.slice A0_2 l0_2.length c0_2), (.slice A0_3 l0_3.length c0_3)] 56 (0, 0))) ∧ Aside0 (Below w.heap.size w w'))
  case atStart => exact ⟨(y399), (0), (by first | rfl | (simp; done) | (simp [*]; done)), H', ⟨Nat.le_refl _⟩, ⟨by (with_reducible repeat (first | apply Kd.qaY | apply Kd.qa1 | apply Kd.qa9)); exact HO401.out⟩, ⟨by (with_reducible repeat (first | refine qal ?_ _ | refine qam ?_ | refine qak ?_ _)); exact BK398.out⟩, ⟨by repeat (first | (with_reducible first | exact HB.out | apply qac | apply qaa | apply qab | refine qaf ?_ GE398.out) | exact HB.out)⟩⟩
  case round =>
   clear H'
   try clear c1
   try clear c2
   try clear p2
   try clear p4
   try clear q4
   try clear hx4
   try clear p6
   try clear c7
   try clear c7b0
   try clear c8
   try clear c8b0
   try clear c9
   try clear c9b0
   try clear c10
   try clear c12
   try clear c13
   try clear c19
   try clear c19b0
   try clear c19b1
   try clear c19b2
   try clear hcz13_0
   try clear hcz13_1
   try clear hcz27_0
   try clear hcz27_1
   try clear hcz27_2
   try clear hcz27_3
   try clear hcz6_0
   try clear hcz6_1
   try clear hcz6_2
   try clear hcz6_3
   try clear hfz13_0
   try clear hfz13_1
   try clear hfz27_0
   try clear hfz27_1
   try clear hfz27_2
   try clear hfz27_3
   try clear hfz6_0
   try clear hfz6_1
   try clear hfz6_2
   try clear hfz6_3
   try clear hx402_0
   try clear hx402_1
   try clear p2
   try clear p402
   try clear q402
   obtain ⟨x3_1, x33_1, rfl, HA, HK1, HO_3, BK398, HB⟩ := hrel
   cases gk with
   | zero => exact absurd HA.out (by simp [qao.l1])
   | succ k1 =>
    have H := HA.out
    clear HA
    simp only [qao.l1] at H
    by_cases c28 : x33_1 < (l0_3.length : Int)
    ·rw [if_pos c28] at H
     have c28b0 : decide (x33_1 < (l0_3.length : Int)) = true := decide_eq_true c28
     clear c28
     by_cases c29 : 0 ≤ x33_1
     ·rw [if_pos c29] at H
      have c29b0 : decide (0 ≤ x33_1) = true := decide_eq_true c29
      clear c29
      by_cases c30 : x33_1 < (l0_3.length : Int)
      ·rw [if_pos c30] at H
       have c30b0 : decide (x33_1 < (l0_3.length : Int)) = true := decide_eq_true c30
       clear c30
       obtain ⟨y413, hy413⟩ : ∃ y_ : List Int, y_ = (([(rd l0_3 x33_1) % 256] : List Int)) := ⟨_, rfl⟩
       replace H : (if x33_1 < (l0_2.length : Int) then (if (strOfNums y413).size + (rdOf ByteArray.empty l0_2 x33_1).size ≤ 9223372036854775807 then (if x3_1.length < 8796093022208 then (qao.l1 k1 (x3_1 ++ [(strOfNums y413) ++ (rdOf ByteArray.empty l0_2 x33_1)]) l0_3 (l0_3.length : Int) (wrap64 (x33_1 + 1)) false l0_1 l0_2 l0_3) else (none)) else (none)) else (none)) = some r := by first | (rw [hy413]; with_reducible exact H) | (have H2_ := (Option.bind_some _ _).symm.trans H; rw [hy413]; with_reducible exact H2_) | (have H2_ := (Option.bind_some _ _).symm.trans H; with_reducible exact H2_) | with_reducible exact H | (rw [hy413]; exact H) | exact H
       have Ny413 := Aside0.mk hy413
       clear hy413
       by_cases c31 : x33_1 < (l0_2.length : Int)
       ·rw [if_pos c31] at H
        have c31b0 : decide (x33_1 < (l0_2.length : Int)) = true := decide_eq_true c31
        clear c31
        by_cases c32 : (strOfNums y413).size + (rdOf ByteArray.empty l0_2 x33_1).size ≤ 9223372036854775807
        ·rw [if_pos c32] at H
         have c32b0 := eq_true c32
         have c32b1 : decide ((strOfNums y413).size + (rdOf ByteArray.empty l0_2 x33_1).size ≤ 9223372036854775807) = true := decide_eq_true c32
         try have c32b2 : (9223372036854775807 < (strOfNums y413).size + (rdOf ByteArray.empty l0_2 x33_1).size) = False := eq_false (Nat.not_lt.2 c32)
         by_cases c33 : x3_1.length < 8796093022208
         ·rw [if_pos c33] at H
          have LMc33 := Aside0.mk c33
          clear c33
          obtain ⟨y417, hy417⟩ : ∃ y_ : List ByteArray, y_ = (x3_1 ++ [(strOfNums y413) ++ (rdOf ByteArray.empty l0_2 x33_1)]) := ⟨_, rfl⟩
          replace H : (qao.l1 k1 y417 l0_3 (l0_3.length : Int) (wrap64 (x33_1 + 1)) false l0_1 l0_2 l0_3) = some r := by first | (rw [hy417]; with_reducible exact H) | (have H2_ := (Option.bind_some _ _).symm.trans H; rw [hy417]; with_reducible exact H2_) | (have H2_ := (Option.bind_some _ _).symm.trans H; with_reducible exact H2_) | with_reducible exact H | (rw [hy417]; exact H) | exact H
          have Ny417 := Aside0.mk hy417
          clear hy417
          have H' := Aside0.mk H
          clear H
          have p412 : 0 ≤ (x33_1 : Int) := of_decide_eq_true (by first | (with_reducible assumption) | assumption)
          have q412 : x33_1 < (l0_3.length : Int) := of_decide_eq_true (by first | (with_reducible assumption) | assumption)
          obtain ⟨ad412, e412, hx412_0⟩ := Kd.qb1 HR0_3.out x33_1 p412 q412
          cases e412
          replace hx412_0 := (HB.out.cell (World.block_lt_of_cell? w _ hx412_0)).trans hx412_0
          replace p412 := eq_true p412
          replace q412 := eq_true q412
          try go_wp2
          have n0_ := Aside0.mk (Kd.qa9 HO_3.out)
          have n1_ := Aside0.mk (qam BK398.out)
          have n2_ := Aside0.mk (qab HB.out)
          clear HO_3
          clear BK398
          clear HB
          have HO_3 := n0_
          have BK398 := n1_
          have HB := n2_
          clear n0_ n1_ n2_
          have p416 : 0 ≤ (x33_1 : Int) := of_decide_eq_true (by first | (with_reducible assumption) | assumption)
          have q416 : x33_1 < (l0_2.length : Int) := of_decide_eq_true (by first | (with_reducible assumption) | assumption)
          obtain ⟨ad416, e416, hx416_0⟩ := Kd.qbn HR0_2.out x33_1 p416 q416
          have hw416_0 := hx416_0
          cases e416
          replace hx416_0 := (HB.out.cell (World.block_lt_of_cell? w _ hx416_0)).trans hx416_0
          replace p416 := eq_true p416
          replace q416 := eq_true q416
          refine qgc (n := 14) (S := fun w' => w'.cell? ⟨gb398, 0, none⟩ = some (.bool false) ∧ w'.cell? ⟨gb398, 1, none⟩ = some (.slice A0_1 l0_1.length c0_1) ∧ w'.cell? ⟨gb398, 2, none⟩ = some (.slice (some ad416) l0_2.length c0_2) ∧ w'.cell? ⟨gb398, 3, none⟩ = some (.slice (some ad412) l0_3.length c0_3) ∧ w'.cell? (ad416.add (x33_1).toNat) = some (.string (rdOf ByteArray.empty l0_2 x33_1))) (ds := []) #[false, false, false, false, false, false, false, false, false, false, false, false, false, false] (by kernel_rfl) rfl rfl ⟨(qae BK398.out 0).trans rfl, (qae BK398.out 1).trans rfl, (qae BK398.out 2).trans rfl, (qae BK398.out 3).trans rfl, ((HB.out.cell (World.block_lt_of_cell? w _ hw416_0)).trans hw416_0)⟩ (fun hHeld => ?_); refine qdH qao.tab12 qao.qgH (fun HT_ HW_ => ?_)
          generalize wr.drew = w34 at HO_3 BK398 HB hx416_0 hHeld ⊢
          refine qeO (i := 0) (N := some 38) (v := ?_) (a' := ?_) #[true, false, false, false, false, false, false, false, false, false, false, false, false, false] rfl rfl (qdr HT_.out (by kernel_rfl)) (fun _ _ _ h => h) (Or.inl ⟨by rfl, ?_⟩) ?_ ?_
          rotate_left
          ·intro w'
           go_simp
           with_reducible rfl
          rotate_left
          ·simp only [Act.put, List.setIfInBounds_toArray, List.set_cons_zero, List.set_cons_succ, qbF, qcJ]
           rfl
          refine qeO (i := 1) (N := some 39) (v := ?_) (a' := ?_) #[true, true, false, false, false, false, false, false, false, false, false, false, false, false] rfl rfl (qdr HT_.out (by kernel_rfl)) (fun _ _ _ h => h) (Or.inl ⟨by rfl, ?_⟩) ?_ ?_
          rotate_left
          ·intro w'
           go_simp
           with_reducible rfl
          rotate_left
          ·simp only [Act.put, List.setIfInBounds_toArray, List.set_cons_zero, List.set_cons_succ, qbF, qcJ]
           rfl
          refine qeO (i := 2) (N := some 40) (v := ?_) (a' := ?_) #[true, true, true, false, false, false, false, false, false, false, false, false, false, false] rfl rfl (qdr HT_.out (by kernel_rfl)) (fun _ _ _ h => h) (Or.inl ⟨by rfl, ?_⟩) ?_ ?_
          rotate_left
          ·intro w'
           go_simp
           with_reducible rfl
          rotate_left
          ·simp only [Act.put, List.setIfInBounds_toArray, List.set_cons_zero, List.set_cons_succ, qbF, qcJ]
           rfl
          refine qeO (i := 5) (N := some 43) (v := ?_) (a' := ?_) #[true, true, true, false, false, true, false, false, false, false, false, false, false, false] rfl rfl (qdr HT_.out (by kernel_rfl)) (fun _ _ _ h => h) (Or.inl ⟨by rfl, ?_⟩) ?_ ?_
          rotate_left
          ·intro w'
           go_simp
           with_reducible rfl
          rotate_left
          ·simp only [Act.put, List.setIfInBounds_toArray, List.set_cons_zero, List.set_cons_succ, qbF, qcJ]
           rfl
          refine qeO (i := 7) (N := some 45) (v := ?_) (a' := ?_) #[true, true, true, false, false, true, false, true, false, false, false, false, false, false] rfl rfl (qdr HT_.out (by kernel_rfl)) (fun _ _ _ h => h) (Or.inl ⟨by rfl, ?_⟩) ?_ ?_
          rotate_left
          ·intro w'
           go_simp
           with_reducible rfl
          rotate_left
          ·simp only [Act.put, List.setIfInBounds_toArray, List.set_cons_zero, List.set_cons_succ, qbF, qcJ]
           rfl
          refine take_ (i := 6) (N := some 44) (v := ?_) (a' := ?_) #[true, true, true, false, false, true, true, true, false, false, false, false, false, false] rfl rfl (qfB HT_.out HW_.out (by kernel_rfl)) (fun _ _ _ h => h) (Or.inl ⟨by rfl, ?_⟩) hHeld ?_ ?_
          rotate_left
          ·rintro w' ⟨s0, s1, s2, s3, s4⟩
           go_simp
           with_reducible rfl
          rotate_left
          ·simp only [Act.put, List.setIfInBounds_toArray, List.set_cons_zero, List.set_cons_succ, qbF, qcJ]
           rfl
          refine qeO (i := 8) (N := some 46) (v := ?_) (a' := ?_) #[true, true, true, false, false, true, true, true, true, false, false, false, false, false] rfl rfl (qdr HT_.out (by kernel_rfl)) (fun _ _ _ h => h) (Or.inl ⟨by rfl, ?_⟩) ?_ ?_
          rotate_left
          ·intro w'
           go_simp
           with_reducible rfl
          rotate_left
          ·simp only [Act.put, List.setIfInBounds_toArray, List.set_cons_zero, List.set_cons_succ, qbF, qcJ]
           rfl
          refine take_ (i := 9) (N := some 47) (v := ?_) (a' := ?_) #[true, true, true, false, false, true, true, true, true, true, false, false, false, false] rfl rfl (qfB HT_.out HW_.out (by kernel_rfl)) (fun _ _ _ h => h) (Or.inl ⟨by rfl, ?_⟩) hHeld ?_ ?_
          rotate_left
          ·rintro w' ⟨s0, s1, s2, s3, s4⟩
           go_simp
           with_reducible rfl
          rotate_left
          ·simp only [Act.put, List.setIfInBounds_toArray, List.set_cons_zero, List.set_cons_succ, qbF, qcJ]
           rfl
          refine one_ (i := 3) (N := some 41) #[true, true, true, true, false, true, true, true, true, true, false, false, false, false] rfl rfl (qfA HT_.out (by kernel_rfl)) (by decide) (fun K hK => ?_)
          refine Kd.qcS (Kd.int .u8) _ 5 ?hg (N := 41) ?hd (xs := ([(rd l0_3 x33_1) % 256] : List Int)) (inner := [.int .u8 ((rd l0_3 x33_1) % 256)]) (ok := fun _ => True) (okp := fun _ => True) ?hr ?hp (fun _ hk => hk) trivial (Below.refl _ _) (Nat.le_refl _) (by simp) ?_; (case hd => rfl); (case hg => rfl); (case hr => first | (go_simp; done) | (go_simp; rfl)); (case hp => exact (Reps.one (show Kd.M (Kd.int .u8) _ _ _ ((rd l0_3 x33_1) % 256) [.int .u8 ((rd l0_3 x33_1) % 256)] from rfl) (Reps.none _ _)))
          intro v414 w35 ho36 hb hg_ hnew_
          clear hg_ hnew_
          (first | rw [← Ny413.out] at ho36 | (simp only [Int.reduceToNat] at ho36; rw [← Ny413.out] at ho36))
          have n0_ := Aside0.mk (Kd.qbe (by (with_reducible repeat (first | apply Kd.qaY | apply Kd.qa1 | apply Kd.qa9)); exact HO_3.out) hb)
          have n1_ := Aside0.mk (Kd.qbt ho36 (qah (by repeat (first | (with_reducible first | exact HB.out | apply qac | apply qaa | apply qab | refine qaf ?_ GE398.out) | exact HB.out))))
          have n2_ := Aside0.mk (qas (g := gb398) (o := .cells #[.bool false, .slice A0_1 l0_1.length c0_1, .slice (some ad416) l0_2.length c0_2, .slice (some ad412) l0_3.length c0_3] 56 (0, 0)) (by (with_reducible repeat (first | refine qal ?_ _ | refine qam ?_ | refine qak ?_ _)); exact BK398.out) hb)
          have n3_ := Aside0.mk (qag (by repeat (first | (with_reducible first | exact HB.out | apply qac | apply qaa | apply qab | refine qaf ?_ GE398.out) | exact HB.out)) hb)
          clear HO_3
          clear BK398
          clear HB
          have HO_3 := n0_
          have HO415 := n1_
          have BK398 := n2_
          have HB := n3_
          clear n0_ n1_ n2_ n3_
          clear hb ho36
          refine hK.out _ _ ⟨(qae BK398.out 0).trans rfl, (qae BK398.out 1).trans rfl, (qae BK398.out 2).trans rfl, (qae BK398.out 3).trans rfl, ((HB.out.cell (World.block_lt_of_cell? w _ hw416_0)).trans hw416_0)⟩ (fun hHeld => ?_)
          clear hK K
          refine norm_ (a' := ?_) ?_ ?_
          rotate_left
          ·show Act.put _ (some 41) _ = _
           simp only [Act.put, List.setIfInBounds_toArray, List.set_cons_zero, List.set_cons_succ, qbF, qcJ]
           rfl
          refine one_ (i := 4) (N := some 42) #[true, true, true, true, true, true, true, true, true, true, false, false, false, false] rfl rfl (qfA HT_.out (by kernel_rfl)) (by decide) (fun K hK => ?_)
          have hcv37 := qcQ (P := Try.prog) Try.underlying52 Try.underlying5 Try.underlying9 (Kd.qcA HO415.out)
          refine qbI (w1 := ?_) (v := ?_) (by rfl) rfl ?_ ?_
          rotate_left 2
          ·go_simp
           constructor
           ·rfl
           ·rfl
          clear hcv37
          refine hK.out _ _ ⟨(qae BK398.out 0).trans rfl, (qae BK398.out 1).trans rfl, (qae BK398.out 2).trans rfl, (qae BK398.out 3).trans rfl, ((HB.out.cell (World.block_lt_of_cell? w _ hw416_0)).trans hw416_0)⟩ (fun hHeld => ?_)
          clear hK K
          refine norm_ (a' := ?_) ?_ ?_
          rotate_left
          ·show Act.put _ (some 42) _ = _
           simp only [Act.put, List.setIfInBounds_toArray, List.set_cons_zero, List.set_cons_succ, qbF, qcJ]
           rfl
          refine qeO (i := 10) (N := some 48) (v := ?_) (a' := ?_) #[true, true, true, true, true, true, true, true, true, true, true, false, false, false] rfl rfl (qdr HT_.out (by kernel_rfl)) (fun _ _ _ h => h) (Or.inl ⟨by rfl, ?_⟩) ?_ ?_
          rotate_left
          ·intro w'
           go_simp
           with_reducible rfl
          rotate_left
          ·simp only [Act.put, List.setIfInBounds_toArray, List.set_cons_zero, List.set_cons_succ, qbF, qcJ]
           rfl
          refine one_ (i := 11) (N := some 49) #[true, true, true, true, true, true, true, true, true, true, true, true, false, false] rfl rfl (qfA HT_.out (by kernel_rfl)) (by decide) (fun K hK => ?_)
          refine qbI (w1 := ?_) (v := ?_) (by rfl) rfl ?_ ?_
          rotate_left 2
          ·go_simp
           constructor
           ·rfl
           ·rfl
          refine hK.out _ _ ⟨(qae (qak BK398.out _) 0).trans rfl, (qae (qak BK398.out _) 1).trans rfl, (qae (qak BK398.out _) 2).trans rfl, (qae (qak BK398.out _) 3).trans rfl, (World.cell?_alloc_lt _ _ _ (World.block_lt_of_cell? _ _ (((HB.out.cell (World.block_lt_of_cell? w _ hw416_0)).trans hw416_0)))).trans (((HB.out.cell (World.block_lt_of_cell? w _ hw416_0)).trans hw416_0))⟩ (fun hHeld => ?_)
          clear hK K
          refine norm_ (a' := ?_) ?_ ?_
          rotate_left
          ·show Act.put _ (some 49) _ = _
           simp only [Act.put, List.setIfInBounds_toArray, List.set_cons_zero, List.set_cons_succ, qbF, qcJ]
           rfl
          refine one_ (i := 12) (N := some 50) #[true, true, true, true, true, true, true, true, true, true, true, true, true, false] rfl rfl (qfA HT_.out (by kernel_rfl)) (by decide) (fun K hK => ?_)
          refine Kd.qes Kd.string (w0 := w) w.heap.size (by rfl) (.tmp 38) (.tmp 49) 48 9 (.string ⟨#[]⟩) 16 rfl Try.underlying48 info9 rfl (by decide) (by omega) u3 x3_1 ((strOfNums y413) ++ (rdOf ByteArray.empty l0_2 x33_1)) [.string ((strOfNums y413) ++ (rdOf ByteArray.empty l0_2 x33_1))] (fun _ => True) (fun _ => False) rfl rfl ?aP (fun _ hk => hk.elim) ?aF ?aO ?aB ?aS ?aL ?_
          (case aP => exact rfl)
          (case aB => exact (by repeat (first | (with_reducible first | exact HB.out | apply qac | apply qaa | apply qab | refine qaf ?_ GE398.out) | exact HB.out)))
          (case aF => exact (fun _ _ => trivial))
          (case aO => exact (by (with_reducible repeat (first | apply Kd.qaY | apply Kd.qa1 | apply Kd.qa9)); exact HO_3.out))
          (case aS => exact (qah (by repeat (first | (with_reducible first | exact HB.out | apply qac | apply qaa | apply qab | refine qaf ?_ GE398.out) | exact HB.out))))
          (case aL => have := LMc33.out; omega)
          intro v418 w38 ho hb hg hat
          rw [← Ny417.out] at ho
          have n0_ := Aside0.mk (qb9 (g := gb398) (o := .cells #[.bool false, .slice A0_1 l0_1.length c0_1, .slice (some ad416) l0_2.length c0_2, .slice (some ad412) l0_3.length c0_3] 56 (0, 0)) (by (with_reducible repeat (first | refine qal ?_ _ | refine qam ?_ | refine qak ?_ _)); exact BK398.out) hg (Kd.R_ne HO_3.out BK398.out (by decide)))
          have n1_ := Aside0.mk (Kd.R_over' (by (with_reducible repeat (first | apply Kd.qaY | apply Kd.qa1 | apply Kd.qa9)); exact HO415.out) (Kd.qcZ (by (with_reducible repeat (first | apply Kd.qaY | apply Kd.qa1 | apply Kd.qa9)); exact HO_3.out)) (by decide) hg)
          have n2_ := Aside0.mk (hb)
          have n3_ := Aside0.mk (ho)
          clear BK398
          clear HO415
          clear HB
          clear HO_3
          have BK398 := n0_
          have HO415 := n1_
          have HB := n2_
          have HO419 := n3_
          clear n0_ n1_ n2_ n3_
          clear ho hb hg hat
          refine hK.out _ _ ⟨(qae BK398.out 0).trans rfl, (qae BK398.out 1).trans rfl, (qae BK398.out 2).trans rfl, (qae BK398.out 3).trans rfl, ((HB.out.cell (World.block_lt_of_cell? w _ hw416_0)).trans hw416_0)⟩ (fun hHeld => ?_)
          clear hK K
          refine norm_ (a' := ?_) ?_ ?_
          rotate_left
          ·show Act.put _ (some 50) _ = _
           simp only [Act.put, List.setIfInBounds_toArray, List.set_cons_zero, List.set_cons_succ, qbF, qcJ]
           rfl
          refine qeO (i := 13) (N := some 3) (v := ?_) (a' := ?_) #[true, true, true, true, true, true, true, true, true, true, true, true, true, true] rfl rfl (qdr HT_.out (by kernel_rfl)) (fun _ _ _ h => h) (Or.inl ⟨by rfl, ?_⟩) ?_ ?_
          rotate_left
          ·intro w'
           go_simp
           with_reducible rfl
          rotate_left
          ·simp only [Act.put, List.setIfInBounds_toArray, List.set_cons_zero, List.set_cons_succ, qbF, qcJ]
           rfl
          refine done_ (done_of HT_.out (by kernel_rfl)) ?_
          try go_wp2
          go_roundg k1
          case measure => have := HK1.out; omega
          case rel => exact ⟨(y417), (wrap64 (x33_1 + 1)), (by first | rfl | (simp; done) | (simp [*]; done)), H', ⟨by have := HK1.out; omega⟩, ⟨by (with_reducible repeat (first | apply Kd.qaY | apply Kd.qa1 | apply Kd.qa9)); exact HO419.out⟩, ⟨by (with_reducible repeat (first | refine qal ?_ _ | refine qam ?_ | refine qak ?_ _)); exact BK398.out⟩, ⟨by repeat (first | (with_reducible first | exact HB.out | apply qac | apply qaa | apply qab | refine qaf ?_ GE398.out) | exact HB.out)⟩⟩
         ·rw [if_neg c33] at H
          exact absurd H (by simp)
        ·rw [if_neg c32] at H
         exact absurd H (by simp)
       ·rw [if_neg c31] at H
        exact absurd H (by simp)
      ·rw [if_neg c30] at H
       exact absurd H (by simp)
     ·rw [if_neg c29] at H
      exact absurd H (by simp)
    ·rw [if_neg c28] at H
     have c28b0 : decide (x33_1 < (l0_3.length : Int)) = false := decide_eq_false c28
     clear c28
     replace H := Option.bind_eq_some_iff.mp H
     obtain ⟨t420, A390, H⟩ := H
     replace H : (if 1 + t420.size ≤ 9223372036854775807 then ((qbj.f k1 ((⟨#[105]⟩ : ByteArray) ++ t420)).bind fun t421 => (some t421)) else (none)) = some r := H
     have A39 := Aside0.mk A390
     clear A390
     by_cases c40 : 1 + t420.size ≤ 9223372036854775807
     ·rw [if_pos c40] at H
      have c40b0 := eq_true c40
      have c40b1 : decide (1 + t420.size ≤ 9223372036854775807) = true := decide_eq_true c40
      try have c40b2 : (9223372036854775807 < 1 + t420.size) = False := eq_false (Nat.not_lt.2 c40)
      replace H := Option.bind_eq_some_iff.mp H
      obtain ⟨t421, A410, H⟩ := H
      replace H : (some t421) = some r := H
      have A41 := Aside0.mk A410
      clear A410
      obtain rfl := Option.some.inj H
      obtain ⟨Ao42, co42, eo42⟩ := Kd.qbT HO_3.out
      subst eo42
      go_wp2_with (first | ((with_reducible refine qaq (f := 131) rfl ?_); refine qbd (some 53) rfl rfl Try.func131 (by kernel_rfl) rfl #[.slice Ao42 x3_1.length co42] rfl (by (try simp only [List.map_toArray, List.map_cons, List.map_nil]); first | done | rfl | (simp only [List.length_drop, List.length_take]; rfl)) ?_; (with_reducible refine (qbW.calls _ _ x3_1 t420 _ ?side1 ?side2 A39.out).mono ?_); (case side1 => repeat (first | exact (Kd.qa3 HO_3.out).2.2 | (with_reducible refine Kd.qaQ ?_ _) | (with_reducible refine Kd.qaR ?_ _) | (with_reducible refine Kd.qa6 ?_))); (case side2 => exact (Kd.qa3 HO_3.out).2.1); rintro e w43 ⟨rfl, hb⟩; refine ⟨_, rfl, ?_⟩; have n0_ := Aside0.mk (Kd.qbe (by (with_reducible repeat (first | apply Kd.qaY | apply Kd.qa1 | apply Kd.qa9)); exact HO_3.out) hb); have n1_ := Aside0.mk (qas (g := gb398) (o := .cells #[.bool false, .slice A0_1 l0_1.length c0_1, .slice A0_2 l0_2.length c0_2, .slice A0_3 l0_3.length c0_3] 56 (0, 0)) (by (with_reducible repeat (first | refine qal ?_ _ | refine qam ?_ | refine qak ?_ _)); exact BK398.out) hb); have n2_ := Aside0.mk (qag (by repeat (first | (with_reducible first | exact HB.out | apply qac | apply qaa | apply qab | refine qaf ?_ GE398.out) | exact HB.out)) hb); clear HO_3; clear BK398; clear HB; have HO_3 := n0_; have BK398 := n1_; have HB := n2_; clear n0_ n1_ n2_; (try clear hb); (try clear hb2); (try clear hk); (try clear hi)) | ((with_reducible refine qaq (f := 130) rfl ?_); refine qbd (some 55) rfl rfl Try.func130 (by kernel_rfl) rfl #[.string ((⟨#[105]⟩ : ByteArray) ++ t420)] rfl (by (try simp only [List.map_toArray, List.map_cons, List.map_nil]); first | done | rfl | (simp only [List.length_drop, List.length_take]; rfl)) ?_; (with_reducible refine (qbj.calls k1 ((⟨#[105]⟩ : ByteArray) ++ t420) t421 _ A41.out).mono ?_); rintro e w44 ⟨rfl, hb⟩; refine ⟨_, rfl, ?_⟩; have n0_ := Aside0.mk (Kd.qbe (by (with_reducible repeat (first | apply Kd.qaY | apply Kd.qa1 | apply Kd.qa9)); exact HO_3.out) hb); have n1_ := Aside0.mk (qas (g := gb398) (o := .cells #[.bool false, .slice A0_1 l0_1.length c0_1, .slice A0_2 l0_2.length c0_2, .slice A0_3 l0_3.length c0_3] 56 (0, 0)) (by (with_reducible repeat (first | refine qal ?_ _ | refine qam ?_ | refine qak ?_ _)); exact BK398.out) hb); have n2_ := Aside0.mk (qag (by repeat (first | (with_reducible first | exact HB.out | apply qac | apply qaa | apply qab | refine qaf ?_ GE398.out) | exact HB.out)) hb); clear HO_3; clear BK398; clear HB; have HO_3 := n0_; have BK398 := n1_; have HB := n2_; clear n0_ n1_ n2_; (try clear hb); (try clear hb2); (try clear hk); (try clear hi)))
      go_ret
      exact ⟨by first | rfl | (simp [qai, qaj] <;> rfl) | (simp [*, qai, qaj] <;> rfl), by repeat (first | (with_reducible first | exact HB.out | apply qac | apply qaa | apply qab | refine qaf ?_ GE398.out) | exact HB.out)⟩
     ·rw [if_neg c40] at H
      exact absurd H (by simp)
end Go.Proofs.Ytenfomejccfkgaa.X
