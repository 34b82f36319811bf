import Derived.Test.YtlkdcicpaneakaaKFnExactReplayAll2
import Derived.Test.YtlkdcicpaneakaaKFnExactReplayAll4
import Derived.Test.YtlkdcicpaneakaaKFnExactReplayAll6
import Derived.Test.YtlkdcicpaneakaaKFnExactReplayAll7
import Derived.Test.YtlkdcicpaneakaaKFnExactReplayAll8
namespace Go.Proofs.Ytlkdcicpaneakaa.X
open Go.RowKit Go.Proofs.YtlkdcicpaneakaaW.PrintWords Go.Proofs.YtlkdcicpaneakaaW.PrintLast Go.Proofs.YtlkdcicpaneakaaW.PrintMore
attribute [local go_sem] qaA qaB qaC qaw qax qaH qaI qap qaq qay qaz
set_option linter.unusedVariables false
set_option linter.unusedSimpArgs false
mutual
def qat.l0 : Nat → List (S48) → List (S48) → List (S56) → Int → Int → Option ((List (S48)) × Int)
 | 0, _, _, _, _, _ => none
 | k + 1, x0, x6, x13, x14, x15 => if x15 < x14 then (if 0 ≤ x15 then (if x15 < (x13.length : Int) then ((qbt.f ((qaf x13 x15).f0) ((qaf x13 x15).f1) ((qaf x13 x15).f2) ((qaf x13 x15).f3) ((qaf x13 x15).f4)).bind fun t339 => (if t339 = true then ((qbw.f x6 ((qaf x13 x15).f0)).bind fun bt343 => (if (bt343.2 != ((qaf x13 x15).f3)) = true then (qat.j1 k x0 x6 x13 x14 x15 true ((qaf x13 x15).f0) ((qaf x13 x15).f1) ((qaf x13 x15).f2) ((qaf x13 x15).f3) ((qaf x13 x15).f4)) else (if bt343.2 = true then (if 0 ≤ bt343.1 then (if bt343.1 < (x6.length : Int) then (qat.j1 k x0 x6 x13 x14 x15 (((qaK x6 bt343.1).f1).toList != ((qaf x13 x15).f1).toList) ((qaf x13 x15).f0) ((qaf x13 x15).f1) ((qaf x13 x15).f2) ((qaf x13 x15).f3) ((qaf x13 x15).f4)) else (none)) else (none)) else (qat.j1 k x0 x6 x13 x14 x15 false ((qaf x13 x15).f0) ((qaf x13 x15).f1) ((qaf x13 x15).f2) ((qaf x13 x15).f3) ((qaf x13 x15).f4))))) else ((qaV.f x0).bind fun t340 => (some (t340, 3))))) else (none)) else (none)) else (if (x6.length : Int) > 60 then ((qaV.f x0).bind fun t334 => (some (t334, 7))) else (some (x6, 0)))
def qat.j1 : Nat → List (S48) → List (S48) → List (S56) → Int → Int → Bool → ByteArray → ByteArray → ByteArray → Bool → Bool → Option ((List (S48)) × Int)
 | 0, _, _, _, _, _, _, _, _, _, _, _ => none
 | k + 1, x0, x6, x13, x14, x15, x47, x339000, x339001, x339002, x339003, x339004 => if x47 = true then ((qaV.f x0).bind fun t346 => (some (t346, 18))) else (if x339004 = true then ((qcl.f x6 x339000 x339002).bind fun t349 => (qat.l0 k x0 t349 x13 x14 (wrap64 (x15 + 1)))) else ((qcd.f x6 x339000).bind fun t352 => (qat.l0 k x0 t352 x13 x14 (wrap64 (x15 + 1)))))
end
def qat.f (k : Nat) (l0 : List (S48)) (l1 : List (S56)) : Option ((List (S48)) × Int) := (qaV.f l0).bind fun t331 => (qat.l0 k l0 t331 l1 (l1.length : Int) 0)
theorem qat.qbA : ∀ k, (∀ y0 y1 y2 y3 y4, LeO (qat.l0 k y0 y1 y2 y3 y4) (qat.l0 (k + 1) y0 y1 y2 y3 y4)) ∧ (∀ y0 y1 y2 y3 y4 y5 y6 y7 y8 y9 y10, LeO (qat.j1 k y0 y1 y2 y3 y4 y5 y6 y7 y8 y9 y10) (qat.j1 (k + 1) y0 y1 y2 y3 y4 y5 y6 y7 y8 y9 y10))
 | 0 => ⟨fun _ _ _ _ _ r h => by simp [qat.l0] at h, fun _ _ _ _ _ _ _ _ _ _ _ r h => by simp [qat.j1] at h⟩
 | k + 1 => by
  obtain ⟨ih0, ih1⟩ := qat.qbA k
  refine ⟨?_, ?_⟩
  ·intro y0 y1 y2 y3 y4
   unfold qat.l0
   repeat' first
   | (with_reducible exact ih0 _ _ _ _ _)
   | (with_reducible exact ih1 _ _ _ _ _ _ _ _ _ _ _)
   | (with_reducible exact LeO.refl _)
   | (with_reducible exact LeO.none _)
   | (with_reducible refine LeO.ite ?_ ?_)
   | (with_reducible refine LeO.bind ?_ (fun _ => ?_))
   | exact ih0 _ _ _ _ _
   | exact ih1 _ _ _ _ _ _ _ _ _ _ _
   | exact LeO.none _
   | refine LeO.ite ?_ ?_
   | refine LeO.bind ?_ (fun _ => ?_)
  ·intro y0 y1 y2 y3 y4 y5 y6 y7 y8 y9 y10
   unfold qat.j1
   repeat' first
   | (with_reducible exact ih0 _ _ _ _ _)
   | (with_reducible exact ih1 _ _ _ _ _ _ _ _ _ _ _)
   | (with_reducible exact LeO.refl _)
   | (with_reducible exact LeO.none _)
   | (with_reducible refine LeO.ite ?_ ?_)
   | (with_reducible refine LeO.bind ?_ (fun _ => ?_))
   | exact ih0 _ _ _ _ _
   | exact ih1 _ _ _ _ _ _ _ _ _ _ _
   | exact LeO.none _
   | refine LeO.ite ?_ ?_
   | refine LeO.bind ?_ (fun _ => ?_)
set_option maxHeartbeats 8000000 in
set_option maxRecDepth 100000 in
theorem qat.calls (k : Nat) (A0 : Option Addr) (c0 : Nat) (l0 : List (S48)) (A1 : Option Addr) (c1 : Nat) (l1 : List (S56)) (r1 : List (S48)) (r2 : Int) (w : World) (hr0 : Kd.C k48 w A0 l0.length l0) (hc0 : l0.length ≤ c0) (hr1 : Kd.C k56 w A1 l1.length l1) (hc1 : l1.length ≤ c1) (h : qat.f k l0 l1 = some (r1, r2)) :
  Calls Try.prog 55 #[.slice A0 l0.length c0, .slice A1 l1.length c1] w fun e w' => ∃ v0_ : Value, e = .returned (.tuple #[v0_, .int .i64 r2]) ∧ Kd.R k48 48 w' w.heap.size (fun _ => True) v0_ r1 ∧ Below w.heap.size w w' := by
 have hu56 := Try.underlying56
 have HR0 := Aside0.mk hr0
 have HC0 := Aside0.mk hc0
 clear hr0 hc0
 have HR1 := Aside0.mk hr1
 have HC1 := Aside0.mk hc1
 clear hr1 hc1
 have HB := Aside0.mk (Below.refl w.heap.size w)
 have H : ((qaV.f l0).bind fun t331 => (qat.l0 k l0 t331 l1 (l1.length : Int) 0)) = some (r1, r2) := h
 clear h
 replace H := Option.bind_eq_some_iff.mp H
 obtain ⟨t331, A30, H⟩ := H
 try dsimp only at H
 have A3 := Aside0.mk A30
 clear A30
 have H' := Aside0.mk H
 clear H
 go_enter Try.func55, Try.ntmps55
 go_wp2_with (first | (go_at_call 54; (with_reducible refine (qaV.calls _ _ l0 t331 _ ?side1 ?side2 A3.out).mono ?_); (case side1 => repeat (first | exact HR0.out | (with_reducible refine Kd.qa9 ?_ _) | (with_reducible refine Kd.qba ?_ _) | (with_reducible refine Kd.qbl ?_))); (case side2 => exact HC0.out); rintro e w4 ⟨v332, rfl, ho0, hb⟩; have n0_ := Aside0.mk (Kd.qbh ho0 (qak (by repeat (first | (with_reducible first | exact HB.out | apply qac | apply qaa | apply qab) | exact HB.out)))); have n1_ := Aside0.mk (qag (by repeat (first | (with_reducible first | exact HB.out | apply qac | apply qaa | apply qab) | exact HB.out)) hb); clear HB; have HO333 := n0_; have HB := n1_; clear n0_ n1_; (try clear hb); (try clear hb2); (try clear hk); (try clear hi); (try clear ho0)))
 repeat (go_quiet (first | (go_at_call 54; (with_reducible refine (qaV.calls _ _ l0 t331 _ ?side1 ?side2 A3.out).mono ?_); (case side1 => repeat (first | exact HR0.out | (with_reducible refine Kd.qa9 ?_ _) | (with_reducible refine Kd.qba ?_ _) | (with_reducible refine Kd.qbl ?_))); (case side2 => exact HC0.out); rintro e w4 ⟨v332, rfl, ho0, hb⟩; have n0_ := Aside0.mk (Kd.qbh ho0 (qak (by repeat (first | (with_reducible first | exact HB.out | apply qac | apply qaa | apply qab) | exact HB.out)))); have n1_ := Aside0.mk (qag (by repeat (first | (with_reducible first | exact HB.out | apply qac | apply qaa | apply qab) | exact HB.out)) hb); clear HB; have HO333 := n0_; have HB := n1_; clear n0_ n1_; (try clear hb); (try clear hb2); (try clear hk); (try clear hi); (try clear ho0))); try go_wp2_with (first | (go_at_call 54; (with_reducible refine (qaV.calls _ _ l0 t331 _ ?side1 ?side2 A3.out).mono ?_); (case side1 => repeat (first | exact HR0.out | (with_reducible refine Kd.qa9 ?_ _) | (with_reducible refine Kd.qba ?_ _) | (with_reducible refine Kd.qbl ?_))); (case side2 => exact HC0.out); rintro e w4 ⟨v332, rfl, ho0, hb⟩; have n0_ := Aside0.mk (Kd.qbh ho0 (qak (by repeat (first | (with_reducible first | exact HB.out | apply qac | apply qaa | apply qab) | exact HB.out)))); have n1_ := Aside0.mk (qag (by repeat (first | (with_reducible first | exact HB.out | apply qac | apply qaa | apply qab) | exact HB.out)) hb); clear HB; have HO333 := n0_; have HB := n1_; clear n0_ n1_; (try clear hb); (try clear hb2); (try clear hk); (try clear hi); (try clear ho0))))
 go_loopg [6, 15] k (fun kq v6 v15 w' => ∃ (x6_1 : List (S48)) (x15_1 : Int), v15 = .int .i64 x15_1 ∧ Aside0 (qat.l0 kq l0 x6_1 l1 (l1.length : Int) x15_1 = some (r1, r2)) ∧ Aside0 (kq ≤ k) ∧ Aside0 (Kd.R k48 48 w' w.heap.size (fun _ => True) v6 x6_1) ∧ Aside0 (Below w.heap.size w w'))
 case atStart => exact ⟨(t331), (0), (by first | rfl | (simp; done) | (simp [*]; done)), H', ⟨Nat.le_refl _⟩, ⟨by (with_reducible repeat (first | apply Kd.qar | apply Kd.qas | apply Kd.qaD)); exact HO333.out⟩, ⟨by repeat (first | (with_reducible first | exact HB.out | apply qac | apply qaa | apply qab) | exact HB.out)⟩⟩
 case round =>
  clear H'
  try clear c1
  try clear p2
  obtain ⟨x6_1, x15_1, rfl, HA, HK1, HO_6, HB⟩ := hrel
  cases gk with
  | zero => exact absurd HA.out (by simp [qat.l0])
  | succ k1 =>
   have H := HA.out
   clear HA
   simp only [qat.l0] at H
   by_cases c5 : x15_1 < (l1.length : Int)
   ·rw [if_pos c5] at H
    have c5b0 : decide (x15_1 < (l1.length : Int)) = true := decide_eq_true c5
    clear c5
    by_cases c6 : 0 ≤ x15_1
    ·rw [if_pos c6] at H
     have c6b0 : decide (0 ≤ x15_1) = true := decide_eq_true c6
     clear c6
     by_cases c7 : x15_1 < (l1.length : Int)
     ·rw [if_pos c7] at H
      have c7b0 : decide (x15_1 < (l1.length : Int)) = true := decide_eq_true c7
      clear c7
      replace H := Option.bind_eq_some_iff.mp H
      obtain ⟨t339, A80, H⟩ := H
      try dsimp only at H
      have A8 := Aside0.mk A80
      clear A80
      by_cases c9 : t339 = true
      ·subst c9
       have H1 : ((qbw.f x6_1 ((qaf l1 x15_1).f0)).bind fun bt343 => (if (bt343.2 != ((qaf l1 x15_1).f3)) = true then (qat.j1 k1 l0 x6_1 l1 (l1.length : Int) x15_1 true ((qaf l1 x15_1).f0) ((qaf l1 x15_1).f1) ((qaf l1 x15_1).f2) ((qaf l1 x15_1).f3) ((qaf l1 x15_1).f4)) else (if bt343.2 = true then (if 0 ≤ bt343.1 then (if bt343.1 < (x6_1.length : Int) then (qat.j1 k1 l0 x6_1 l1 (l1.length : Int) x15_1 (((qaK x6_1 bt343.1).f1).toList != ((qaf l1 x15_1).f1).toList) ((qaf l1 x15_1).f0) ((qaf l1 x15_1).f1) ((qaf l1 x15_1).f2) ((qaf l1 x15_1).f3) ((qaf l1 x15_1).f4)) else (none)) else (none)) else (qat.j1 k1 l0 x6_1 l1 (l1.length : Int) x15_1 false ((qaf l1 x15_1).f0) ((qaf l1 x15_1).f1) ((qaf l1 x15_1).f2) ((qaf l1 x15_1).f3) ((qaf l1 x15_1).f4))))) = some (r1, r2) := by rw [if_pos rfl] at H; exact H
       clear H
       have H := H1
       clear H1
       replace H := Option.bind_eq_some_iff.mp H
       obtain ⟨⟨t343, t344⟩, A100, H⟩ := H
       try dsimp only at H
       have A10 := Aside0.mk A100
       clear A100
       have HC11 := Aside0.mk H
       clear H
       have p337 : 0 ≤ (x15_1 : Int) := of_decide_eq_true (by first | (with_reducible assumption) | assumption)
       have q337 : x15_1 < (l1.length : Int) := of_decide_eq_true (by first | (with_reducible assumption) | assumption)
       obtain ⟨ad337, e337, hx337_0, hx337_1, hx337_2, hx337_3, hx337_4⟩ := qdd HR1.out x15_1 p337 q337
       cases e337
       replace hx337_0 := (HB.out.cell (World.block_lt_of_cell? w _ hx337_0)).trans hx337_0
       replace hx337_1 := (HB.out.cell (World.block_lt_of_cell? w _ hx337_1)).trans hx337_1
       replace hx337_2 := (HB.out.cell (World.block_lt_of_cell? w _ hx337_2)).trans hx337_2
       replace hx337_3 := (HB.out.cell (World.block_lt_of_cell? w _ hx337_3)).trans hx337_3
       replace hx337_4 := (HB.out.cell (World.block_lt_of_cell? w _ hx337_4)).trans hx337_4
       replace p337 := eq_true p337
       replace q337 := eq_true q337
       go_upto_region 8 with (first | ((with_reducible refine qaM (N := 8) rfl ?_); refine qaN ?hg (N := 8) ?hd (cs := #[.string (⟨#[]⟩ : ByteArray), .string (⟨#[]⟩ : ByteArray), .string (⟨#[]⟩ : ByteArray), .bool false, .bool false]) (t := 56) ?hr ?_; (case hd => rfl); (case hg => rfl); (case hr => first | (go_simp; done) | (go_simp; rfl)); intro gb338 hg w12 hbox hb; have n0_ := Aside0.mk (Kd.qaX (by (with_reducible repeat (first | apply Kd.qar | apply Kd.qas | apply Kd.qaD)); exact HO_6.out) hb); have n1_ := Aside0.mk (qag (by repeat (first | (with_reducible first | exact HB.out | apply qac | apply qaa | apply qab) | exact HB.out)) hb); have n2_ := Aside0.mk (hbox); have n3_ := Aside0.mk ((by rw [hg]; exact (qak (by repeat (first | (with_reducible first | exact HB.out | apply qac | apply qaa | apply qab) | exact HB.out))) : w.heap.size ≤ gb338)); have n4_ := Aside0.mk ((by rw [hg]; exact (qak (by repeat (first | (with_reducible first | exact HB.out | apply qac | apply qaa | apply qab) | exact HB.out))) : w.heap.size ≤ gb338)); clear HO_6 HB; have HO_6 := n0_; have HB := n1_; have BK338 := n2_; have GW338 := n3_; have GE338 := n4_; clear n0_ n1_ n2_ n3_ n4_ hb hbox hg; have hcz13_0 : w12.cell? ⟨gb338, 0, none⟩ = some (.string (⟨#[]⟩ : ByteArray)) := (qad BK338.out 0).trans rfl; have hcz13_1 : w12.cell? ⟨gb338, 1, none⟩ = some (.string (⟨#[]⟩ : ByteArray)) := (qad BK338.out 1).trans rfl; have hcz13_2 : w12.cell? ⟨gb338, 2, none⟩ = some (.string (⟨#[]⟩ : ByteArray)) := (qad BK338.out 2).trans rfl; have hcz13_3 : w12.cell? ⟨gb338, 3, none⟩ = some (.bool false) := (qad BK338.out 3).trans rfl; have hcz13_4 : w12.cell? ⟨gb338, 4, none⟩ = some (.bool false) := (qad BK338.out 4).trans rfl; have hfz13_0 := qae BK338.out 0; have hfz13_1 := qae BK338.out 1; have hfz13_2 := qae BK338.out 2; have hfz13_3 := qae BK338.out 3; have hfz13_4 := qae BK338.out 4) | (go_at_call 39; (with_reducible refine (qbt.calls ((qaf l1 x15_1).f0) ((qaf l1 x15_1).f1) ((qaf l1 x15_1).f2) ((qaf l1 x15_1).f3) ((qaf l1 x15_1).f4) true _ A8.out).mono ?_); rintro e w14 ⟨rfl, hb⟩; have n0_ := Aside0.mk (Kd.qaX (by (with_reducible repeat (first | apply Kd.qar | apply Kd.qas | apply Kd.qaD)); exact (Kd.qbr (Kd.qcq (p := ⟨gb338, 4, none⟩) (Kd.qcq (p := ⟨gb338, 3, none⟩) (Kd.qcq (p := ⟨gb338, 2, none⟩) (Kd.qcq (p := ⟨gb338, 1, none⟩) (Kd.qcq (p := ⟨gb338, 0, none⟩) (Kd.qdL HO_6.out BK338.out (by decide)) (fun _ hk => hk.2) (.string ((qaf l1 x15_1).f0))) (fun _ hk => hk.2) (.string ((qaf l1 x15_1).f1))) (fun _ hk => hk.2) (.string ((qaf l1 x15_1).f2))) (fun _ hk => hk.2) (.bool ((qaf l1 x15_1).f3))) (fun _ hk => hk.2) (.bool ((qaf l1 x15_1).f4))) (fun _ h_ => h_.1))) hb); have n1_ := Aside0.mk (qao (g := gb338) (o := .cells #[.string ((qaf l1 x15_1).f0), .string ((qaf l1 x15_1).f1), .string ((qaf l1 x15_1).f2), .bool ((qaf l1 x15_1).f3), .bool ((qaf l1 x15_1).f4)] 56 (0, 0)) (by (with_reducible repeat (first | refine qaj ?_ _ | refine qal ?_ | refine qai ?_ _)); refine qaY (cs := #[.string ((qaf l1 x15_1).f0), .string ((qaf l1 x15_1).f1), .string ((qaf l1 x15_1).f2), .bool ((qaf l1 x15_1).f3), .bool false]) ?_ 4 _ rfl; (with_reducible repeat (first | refine qaj ?_ _ | refine qal ?_ | refine qai ?_ _)); refine qaY (cs := #[.string ((qaf l1 x15_1).f0), .string ((qaf l1 x15_1).f1), .string ((qaf l1 x15_1).f2), .bool false, .bool false]) ?_ 3 _ rfl; (with_reducible repeat (first | refine qaj ?_ _ | refine qal ?_ | refine qai ?_ _)); refine qaY (cs := #[.string ((qaf l1 x15_1).f0), .string ((qaf l1 x15_1).f1), .string (⟨#[]⟩ : ByteArray), .bool false, .bool false]) ?_ 2 _ rfl; (with_reducible repeat (first | refine qaj ?_ _ | refine qal ?_ | refine qai ?_ _)); refine qaY (cs := #[.string ((qaf l1 x15_1).f0), .string (⟨#[]⟩ : ByteArray), .string (⟨#[]⟩ : ByteArray), .bool false, .bool false]) ?_ 1 _ rfl; (with_reducible repeat (first | refine qaj ?_ _ | refine qal ?_ | refine qai ?_ _)); refine qaY (cs := #[.string (⟨#[]⟩ : ByteArray), .string (⟨#[]⟩ : ByteArray), .string (⟨#[]⟩ : ByteArray), .bool false, .bool false]) ?_ 0 _ rfl; (with_reducible repeat (first | refine qaj ?_ _ | refine qal ?_ | refine qai ?_ _)); exact BK338.out) hb); have n2_ := Aside0.mk (qag (by repeat (first | (with_reducible first | exact HB.out | apply qac | apply qaa | apply qab | refine qah ?_ GE338.out) | exact HB.out)) hb); clear HO_6 BK338 HB; have HO_6 := n0_; have BK338 := n1_; have HB := n2_; clear n0_ n1_ n2_; (try clear hb); (try clear hb2); (try clear hk); (try clear hi); have hcz15_0 : w14.cell? ⟨gb338, 0, none⟩ = some (.string ((qaf l1 x15_1).f0)) := (qad BK338.out 0).trans rfl; have hcz15_1 : w14.cell? ⟨gb338, 1, none⟩ = some (.string ((qaf l1 x15_1).f1)) := (qad BK338.out 1).trans rfl; have hcz15_2 : w14.cell? ⟨gb338, 2, none⟩ = some (.string ((qaf l1 x15_1).f2)) := (qad BK338.out 2).trans rfl; have hcz15_3 : w14.cell? ⟨gb338, 3, none⟩ = some (.bool ((qaf l1 x15_1).f3)) := (qad BK338.out 3).trans rfl; have hcz15_4 : w14.cell? ⟨gb338, 4, none⟩ = some (.bool ((qaf l1 x15_1).f4)) := (qad BK338.out 4).trans rfl; have hfz15_0 := qae BK338.out 0; have hfz15_1 := qae BK338.out 1; have hfz15_2 := qae BK338.out 2; have hfz15_3 := qae BK338.out 3; have hfz15_4 := qae BK338.out 4; obtain ⟨Ao16, co16, eo16⟩ := Kd.qbN HO_6.out; subst eo16) | (go_at_call 65; (with_reducible refine (qbw.calls _ _ x6_1 ((qaf l1 x15_1).f0) t343 t344 _ ?side1 ?side2 A10.out).mono ?_); (case side1 => repeat (first | exact (Kd.qaO HO_6.out).2.2 | (with_reducible refine Kd.qa9 ?_ _) | (with_reducible refine Kd.qba ?_ _) | (with_reducible refine Kd.qbl ?_))); (case side2 => exact (Kd.qaO HO_6.out).2.1); rintro e w17 ⟨rfl, hb⟩; have n0_ := Aside0.mk (Kd.qaX (by (with_reducible repeat (first | apply Kd.qar | apply Kd.qas | apply Kd.qaD)); exact HO_6.out) hb); have n1_ := Aside0.mk (qao (g := gb338) (o := .cells #[.string ((qaf l1 x15_1).f0), .string ((qaf l1 x15_1).f1), .string ((qaf l1 x15_1).f2), .bool ((qaf l1 x15_1).f3), .bool ((qaf l1 x15_1).f4)] 56 (0, 0)) (by (with_reducible repeat (first | refine qaj ?_ _ | refine qal ?_ | refine qai ?_ _)); exact BK338.out) hb); have n2_ := Aside0.mk (qag (by repeat (first | (with_reducible first | exact HB.out | apply qac | apply qaa | apply qab | refine qah ?_ GE338.out) | exact HB.out)) hb); clear HO_6 BK338 HB; have HO_6 := n0_; have BK338 := n1_; have HB := n2_; clear n0_ n1_ n2_; (try clear hb); (try clear hb2); (try clear hk); (try clear hi)))
       repeat (go_quiet (first | ((with_reducible refine qaM (N := 8) rfl ?_); refine qaN ?hg (N := 8) ?hd (cs := #[.string (⟨#[]⟩ : ByteArray), .string (⟨#[]⟩ : ByteArray), .string (⟨#[]⟩ : ByteArray), .bool false, .bool false]) (t := 56) ?hr ?_; (case hd => rfl); (case hg => rfl); (case hr => first | (go_simp; done) | (go_simp; rfl)); intro gb338 hg w12 hbox hb; have n0_ := Aside0.mk (Kd.qaX (by (with_reducible repeat (first | apply Kd.qar | apply Kd.qas | apply Kd.qaD)); exact HO_6.out) hb); have n1_ := Aside0.mk (qag (by repeat (first | (with_reducible first | exact HB.out | apply qac | apply qaa | apply qab) | exact HB.out)) hb); have n2_ := Aside0.mk (hbox); have n3_ := Aside0.mk ((by rw [hg]; exact (qak (by repeat (first | (with_reducible first | exact HB.out | apply qac | apply qaa | apply qab) | exact HB.out))) : w.heap.size ≤ gb338)); have n4_ := Aside0.mk ((by rw [hg]; exact (qak (by repeat (first | (with_reducible first | exact HB.out | apply qac | apply qaa | apply qab) | exact HB.out))) : w.heap.size ≤ gb338)); clear HO_6 HB; have HO_6 := n0_; have HB := n1_; have BK338 := n2_; have GW338 := n3_; have GE338 := n4_; clear n0_ n1_ n2_ n3_ n4_ hb hbox hg; have hcz13_0 : w12.cell? ⟨gb338, 0, none⟩ = some (.string (⟨#[]⟩ : ByteArray)) := (qad BK338.out 0).trans rfl; have hcz13_1 : w12.cell? ⟨gb338, 1, none⟩ = some (.string (⟨#[]⟩ : ByteArray)) := (qad BK338.out 1).trans rfl; have hcz13_2 : w12.cell? ⟨gb338, 2, none⟩ = some (.string (⟨#[]⟩ : ByteArray)) := (qad BK338.out 2).trans rfl; have hcz13_3 : w12.cell? ⟨gb338, 3, none⟩ = some (.bool false) := (qad BK338.out 3).trans rfl; have hcz13_4 : w12.cell? ⟨gb338, 4, none⟩ = some (.bool false) := (qad BK338.out 4).trans rfl; have hfz13_0 := qae BK338.out 0; have hfz13_1 := qae BK338.out 1; have hfz13_2 := qae BK338.out 2; have hfz13_3 := qae BK338.out 3; have hfz13_4 := qae BK338.out 4) | (go_at_call 39; (with_reducible refine (qbt.calls ((qaf l1 x15_1).f0) ((qaf l1 x15_1).f1) ((qaf l1 x15_1).f2) ((qaf l1 x15_1).f3) ((qaf l1 x15_1).f4) true _ A8.out).mono ?_); rintro e w14 ⟨rfl, hb⟩; have n0_ := Aside0.mk (Kd.qaX (by (with_reducible repeat (first | apply Kd.qar | apply Kd.qas | apply Kd.qaD)); exact (Kd.qbr (Kd.qcq (p := ⟨gb338, 4, none⟩) (Kd.qcq (p := ⟨gb338, 3, none⟩) (Kd.qcq (p := ⟨gb338, 2, none⟩) (Kd.qcq (p := ⟨gb338, 1, none⟩) (Kd.qcq (p := ⟨gb338, 0, none⟩) (Kd.qdL HO_6.out BK338.out (by decide)) (fun _ hk => hk.2) (.string ((qaf l1 x15_1).f0))) (fun _ hk => hk.2) (.string ((qaf l1 x15_1).f1))) (fun _ hk => hk.2) (.string ((qaf l1 x15_1).f2))) (fun _ hk => hk.2) (.bool ((qaf l1 x15_1).f3))) (fun _ hk => hk.2) (.bool ((qaf l1 x15_1).f4))) (fun _ h_ => h_.1))) hb); have n1_ := Aside0.mk (qao (g := gb338) (o := .cells #[.string ((qaf l1 x15_1).f0), .string ((qaf l1 x15_1).f1), .string ((qaf l1 x15_1).f2), .bool ((qaf l1 x15_1).f3), .bool ((qaf l1 x15_1).f4)] 56 (0, 0)) (by (with_reducible repeat (first | refine qaj ?_ _ | refine qal ?_ | refine qai ?_ _)); refine qaY (cs := #[.string ((qaf l1 x15_1).f0), .string ((qaf l1 x15_1).f1), .string ((qaf l1 x15_1).f2), .bool ((qaf l1 x15_1).f3), .bool false]) ?_ 4 _ rfl; (with_reducible repeat (first | refine qaj ?_ _ | refine qal ?_ | refine qai ?_ _)); refine qaY (cs := #[.string ((qaf l1 x15_1).f0), .string ((qaf l1 x15_1).f1), .string ((qaf l1 x15_1).f2), .bool false, .bool false]) ?_ 3 _ rfl; (with_reducible repeat (first | refine qaj ?_ _ | refine qal ?_ | refine qai ?_ _)); refine qaY (cs := #[.string ((qaf l1 x15_1).f0), .string ((qaf l1 x15_1).f1), .string (⟨#[]⟩ : ByteArray), .bool false, .bool false]) ?_ 2 _ rfl; (with_reducible repeat (first | refine qaj ?_ _ | refine qal ?_ | refine qai ?_ _)); refine qaY (cs := #[.string ((qaf l1 x15_1).f0), .string (⟨#[]⟩ : ByteArray), .string (⟨#[]⟩ : ByteArray), .bool false, .bool false]) ?_ 1 _ rfl; (with_reducible repeat (first | refine qaj ?_ _ | refine qal ?_ | refine qai ?_ _)); refine qaY (cs := #[.string (⟨#[]⟩ : ByteArray), .string (⟨#[]⟩ : ByteArray), .string (⟨#[]⟩ : ByteArray), .bool false, .bool false]) ?_ 0 _ rfl; (with_reducible repeat (first | refine qaj ?_ _ | refine qal ?_ | refine qai ?_ _)); exact BK338.out) hb); have n2_ := Aside0.mk (qag (by repeat (first | (with_reducible first | exact HB.out | apply qac | apply qaa | apply qab | refine qah ?_ GE338.out) | exact HB.out)) hb); clear HO_6 BK338 HB; have HO_6 := n0_; have BK338 := n1_; have HB := n2_; clear n0_ n1_ n2_; (try clear hb); (try clear hb2); (try clear hk); (try clear hi); have hcz15_0 : w14.cell? ⟨gb338, 0, none⟩ = some (.string ((qaf l1 x15_1).f0)) := (qad BK338.out 0).trans rfl; have hcz15_1 : w14.cell? ⟨gb338, 1, none⟩ = some (.string ((qaf l1 x15_1).f1)) := (qad BK338.out 1).trans rfl; have hcz15_2 : w14.cell? ⟨gb338, 2, none⟩ = some (.string ((qaf l1 x15_1).f2)) := (qad BK338.out 2).trans rfl; have hcz15_3 : w14.cell? ⟨gb338, 3, none⟩ = some (.bool ((qaf l1 x15_1).f3)) := (qad BK338.out 3).trans rfl; have hcz15_4 : w14.cell? ⟨gb338, 4, none⟩ = some (.bool ((qaf l1 x15_1).f4)) := (qad BK338.out 4).trans rfl; have hfz15_0 := qae BK338.out 0; have hfz15_1 := qae BK338.out 1; have hfz15_2 := qae BK338.out 2; have hfz15_3 := qae BK338.out 3; have hfz15_4 := qae BK338.out 4; obtain ⟨Ao16, co16, eo16⟩ := Kd.qbN HO_6.out; subst eo16) | (go_at_call 65; (with_reducible refine (qbw.calls _ _ x6_1 ((qaf l1 x15_1).f0) t343 t344 _ ?side1 ?side2 A10.out).mono ?_); (case side1 => repeat (first | exact (Kd.qaO HO_6.out).2.2 | (with_reducible refine Kd.qa9 ?_ _) | (with_reducible refine Kd.qba ?_ _) | (with_reducible refine Kd.qbl ?_))); (case side2 => exact (Kd.qaO HO_6.out).2.1); rintro e w17 ⟨rfl, hb⟩; have n0_ := Aside0.mk (Kd.qaX (by (with_reducible repeat (first | apply Kd.qar | apply Kd.qas | apply Kd.qaD)); exact HO_6.out) hb); have n1_ := Aside0.mk (qao (g := gb338) (o := .cells #[.string ((qaf l1 x15_1).f0), .string ((qaf l1 x15_1).f1), .string ((qaf l1 x15_1).f2), .bool ((qaf l1 x15_1).f3), .bool ((qaf l1 x15_1).f4)] 56 (0, 0)) (by (with_reducible repeat (first | refine qaj ?_ _ | refine qal ?_ | refine qai ?_ _)); exact BK338.out) hb); have n2_ := Aside0.mk (qag (by repeat (first | (with_reducible first | exact HB.out | apply qac | apply qaa | apply qab | refine qah ?_ GE338.out) | exact HB.out)) hb); clear HO_6 BK338 HB; have HO_6 := n0_; have BK338 := n1_; have HB := n2_; clear n0_ n1_ n2_; (try clear hb); (try clear hb2); (try clear hk); (try clear hi))); go_upto_region 8 with (first | ((with_reducible refine qaM (N := 8) rfl ?_); refine qaN ?hg (N := 8) ?hd (cs := #[.string (⟨#[]⟩ : ByteArray), .string (⟨#[]⟩ : ByteArray), .string (⟨#[]⟩ : ByteArray), .bool false, .bool false]) (t := 56) ?hr ?_; (case hd => rfl); (case hg => rfl); (case hr => first | (go_simp; done) | (go_simp; rfl)); intro gb338 hg w12 hbox hb; have n0_ := Aside0.mk (Kd.qaX (by (with_reducible repeat (first | apply Kd.qar | apply Kd.qas | apply Kd.qaD)); exact HO_6.out) hb); have n1_ := Aside0.mk (qag (by repeat (first | (with_reducible first | exact HB.out | apply qac | apply qaa | apply qab) | exact HB.out)) hb); have n2_ := Aside0.mk (hbox); have n3_ := Aside0.mk ((by rw [hg]; exact (qak (by repeat (first | (with_reducible first | exact HB.out | apply qac | apply qaa | apply qab) | exact HB.out))) : w.heap.size ≤ gb338)); have n4_ := Aside0.mk ((by rw [hg]; exact (qak (by repeat (first | (with_reducible first | exact HB.out | apply qac | apply qaa | apply qab) | exact HB.out))) : w.heap.size ≤ gb338)); clear HO_6 HB; have HO_6 := n0_; have HB := n1_; have BK338 := n2_; have GW338 := n3_; have GE338 := n4_; clear n0_ n1_ n2_ n3_ n4_ hb hbox hg; have hcz13_0 : w12.cell? ⟨gb338, 0, none⟩ = some (.string (⟨#[]⟩ : ByteArray)) := (qad BK338.out 0).trans rfl; have hcz13_1 : w12.cell? ⟨gb338, 1, none⟩ = some (.string (⟨#[]⟩ : ByteArray)) := (qad BK338.out 1).trans rfl; have hcz13_2 : w12.cell? ⟨gb338, 2, none⟩ = some (.string (⟨#[]⟩ : ByteArray)) := (qad BK338.out 2).trans rfl; have hcz13_3 : w12.cell? ⟨gb338, 3, none⟩ = some (.bool false) := (qad BK338.out 3).trans rfl; have hcz13_4 : w12.cell? ⟨gb338, 4, none⟩ = some (.bool false) := (qad BK338.out 4).trans rfl; have hfz13_0 := qae BK338.out 0; have hfz13_1 := qae BK338.out 1; have hfz13_2 := qae BK338.out 2; have hfz13_3 := qae BK338.out 3; have hfz13_4 := qae BK338.out 4) | (go_at_call 39; (with_reducible refine (qbt.calls ((qaf l1 x15_1).f0) ((qaf l1 x15_1).f1) ((qaf l1 x15_1).f2) ((qaf l1 x15_1).f3) ((qaf l1 x15_1).f4) true _ A8.out).mono ?_); rintro e w14 ⟨rfl, hb⟩; have n0_ := Aside0.mk (Kd.qaX (by (with_reducible repeat (first | apply Kd.qar | apply Kd.qas | apply Kd.qaD)); exact (Kd.qbr (Kd.qcq (p := ⟨gb338, 4, none⟩) (Kd.qcq (p := ⟨gb338, 3, none⟩) (Kd.qcq (p := ⟨gb338, 2, none⟩) (Kd.qcq (p := ⟨gb338, 1, none⟩) (Kd.qcq (p := ⟨gb338, 0, none⟩) (Kd.qdL HO_6.out BK338.out (by decide)) (fun _ hk => hk.2) (.string ((qaf l1 x15_1).f0))) (fun _ hk => hk.2) (.string ((qaf l1 x15_1).f1))) (fun _ hk => hk.2) (.string ((qaf l1 x15_1).f2))) (fun _ hk => hk.2) (.bool ((qaf l1 x15_1).f3))) (fun _ hk => hk.2) (.bool ((qaf l1 x15_1).f4))) (fun _ h_ => h_.1))) hb); have n1_ := Aside0.mk (qao (g := gb338) (o := .cells #[.string ((qaf l1 x15_1).f0), .string ((qaf l1 x15_1).f1), .string ((qaf l1 x15_1).f2), .bool ((qaf l1 x15_1).f3), .bool ((qaf l1 x15_1).f4)] 56 (0, 0)) (by (with_reducible repeat (first | refine qaj ?_ _ | refine qal ?_ | refine qai ?_ _)); refine qaY (cs := #[.string ((qaf l1 x15_1).f0), .string ((qaf l1 x15_1).f1), .string ((qaf l1 x15_1).f2), .bool ((qaf l1 x15_1).f3), .bool false]) ?_ 4 _ rfl; (with_reducible repeat (first | refine qaj ?_ _ | refine qal ?_ | refine qai ?_ _)); refine qaY (cs := #[.string ((qaf l1 x15_1).f0), .string ((qaf l1 x15_1).f1), .string ((qaf l1 x15_1).f2), .bool false, .bool false]) ?_ 3 _ rfl; (with_reducible repeat (first | refine qaj ?_ _ | refine qal ?_ | refine qai ?_ _)); refine qaY (cs := #[.string ((qaf l1 x15_1).f0), .string ((qaf l1 x15_1).f1), .string (⟨#[]⟩ : ByteArray), .bool false, .bool false]) ?_ 2 _ rfl; (with_reducible repeat (first | refine qaj ?_ _ | refine qal ?_ | refine qai ?_ _)); refine qaY (cs := #[.string ((qaf l1 x15_1).f0), .string (⟨#[]⟩ : ByteArray), .string (⟨#[]⟩ : ByteArray), .bool false, .bool false]) ?_ 1 _ rfl; (with_reducible repeat (first | refine qaj ?_ _ | refine qal ?_ | refine qai ?_ _)); refine qaY (cs := #[.string (⟨#[]⟩ : ByteArray), .string (⟨#[]⟩ : ByteArray), .string (⟨#[]⟩ : ByteArray), .bool false, .bool false]) ?_ 0 _ rfl; (with_reducible repeat (first | refine qaj ?_ _ | refine qal ?_ | refine qai ?_ _)); exact BK338.out) hb); have n2_ := Aside0.mk (qag (by repeat (first | (with_reducible first | exact HB.out | apply qac | apply qaa | apply qab | refine qah ?_ GE338.out) | exact HB.out)) hb); clear HO_6 BK338 HB; have HO_6 := n0_; have BK338 := n1_; have HB := n2_; clear n0_ n1_ n2_; (try clear hb); (try clear hb2); (try clear hk); (try clear hi); have hcz15_0 : w14.cell? ⟨gb338, 0, none⟩ = some (.string ((qaf l1 x15_1).f0)) := (qad BK338.out 0).trans rfl; have hcz15_1 : w14.cell? ⟨gb338, 1, none⟩ = some (.string ((qaf l1 x15_1).f1)) := (qad BK338.out 1).trans rfl; have hcz15_2 : w14.cell? ⟨gb338, 2, none⟩ = some (.string ((qaf l1 x15_1).f2)) := (qad BK338.out 2).trans rfl; have hcz15_3 : w14.cell? ⟨gb338, 3, none⟩ = some (.bool ((qaf l1 x15_1).f3)) := (qad BK338.out 3).trans rfl; have hcz15_4 : w14.cell? ⟨gb338, 4, none⟩ = some (.bool ((qaf l1 x15_1).f4)) := (qad BK338.out 4).trans rfl; have hfz15_0 := qae BK338.out 0; have hfz15_1 := qae BK338.out 1; have hfz15_2 := qae BK338.out 2; have hfz15_3 := qae BK338.out 3; have hfz15_4 := qae BK338.out 4; obtain ⟨Ao16, co16, eo16⟩ := Kd.qbN HO_6.out; subst eo16) | (go_at_call 65; (with_reducible refine (qbw.calls _ _ x6_1 ((qaf l1 x15_1).f0) t343 t344 _ ?side1 ?side2 A10.out).mono ?_); (case side1 => repeat (first | exact (Kd.qaO HO_6.out).2.2 | (with_reducible refine Kd.qa9 ?_ _) | (with_reducible refine Kd.qba ?_ _) | (with_reducible refine Kd.qbl ?_))); (case side2 => exact (Kd.qaO HO_6.out).2.1); rintro e w17 ⟨rfl, hb⟩; have n0_ := Aside0.mk (Kd.qaX (by (with_reducible repeat (first | apply Kd.qar | apply Kd.qas | apply Kd.qaD)); exact HO_6.out) hb); have n1_ := Aside0.mk (qao (g := gb338) (o := .cells #[.string ((qaf l1 x15_1).f0), .string ((qaf l1 x15_1).f1), .string ((qaf l1 x15_1).f2), .bool ((qaf l1 x15_1).f3), .bool ((qaf l1 x15_1).f4)] 56 (0, 0)) (by (with_reducible repeat (first | refine qaj ?_ _ | refine qal ?_ | refine qai ?_ _)); exact BK338.out) hb); have n2_ := Aside0.mk (qag (by repeat (first | (with_reducible first | exact HB.out | apply qac | apply qaa | apply qab | refine qah ?_ GE338.out) | exact HB.out)) hb); clear HO_6 BK338 HB; have HO_6 := n0_; have BK338 := n1_; have HB := n2_; clear n0_ n1_ n2_; (try clear hb); (try clear hb2); (try clear hk); (try clear hi))))
       (try simp only [Act.put, List.setIfInBounds_toArray, List.set_cons_zero, List.set_cons_succ])
       go_cut [47] (fun v47 wc => ∃ (kq : Nat) (x47_10 : Bool), v47 = .bool x47_10 ∧ Aside0 (qat.j1 kq l0 x6_1 l1 (l1.length : Int) x15_1 x47_10 ((qaf l1 x15_1).f0) ((qaf l1 x15_1).f1) ((qaf l1 x15_1).f2) ((qaf l1 x15_1).f3) ((qaf l1 x15_1).f4) = some (r1, r2)) ∧ Aside0 (kq ≤ k1) ∧ Aside0 (Kd.R k48 48 wc w.heap.size (fun _ => True) (.slice Ao16 x6_1.length co16) x6_1) ∧ Aside0 (wc.heap[gb338]? = some (.cells #[.string ((qaf l1 x15_1).f0), .string ((qaf l1 x15_1).f1), .string ((qaf l1 x15_1).f2), .bool ((qaf l1 x15_1).f3), .bool ((qaf l1 x15_1).f4)] 56 (0, 0))) ∧ Aside0 (Below w.heap.size w wc))
       case first =>
        have H := HC11.out
        clear HC11
        by_cases c18 : (t344 != ((qaf l1 x15_1).f3)) = true
        ·rw [if_pos c18] at H
         have c18b0 : (t344 != ((qaf l1 x15_1).f3)) = true := c18
         (try (have c18b1 : decide (t344 = ((qaf l1 x15_1).f3)) = false := by simpa using c18))
         (try (have c18b2 : (t344 == ((qaf l1 x15_1).f3)) = false := by simpa using c18))
         (try (have c18b3 : ¬ (t344 = ((qaf l1 x15_1).f3)) := by simpa using c18))
         clear c18
         (first | rw [c18b0] | (simp only [qbe, qbo]; rw [c18b0]) | skip)
         have H' := Aside0.mk H
         clear H
         have hcz19_0 : w17.cell? ⟨gb338, 0, none⟩ = some (.string ((qaf l1 x15_1).f0)) := (qad BK338.out 0).trans rfl
         have hcz19_1 : w17.cell? ⟨gb338, 1, none⟩ = some (.string ((qaf l1 x15_1).f1)) := (qad BK338.out 1).trans rfl
         have hcz19_2 : w17.cell? ⟨gb338, 2, none⟩ = some (.string ((qaf l1 x15_1).f2)) := (qad BK338.out 2).trans rfl
         have hcz19_3 : w17.cell? ⟨gb338, 3, none⟩ = some (.bool ((qaf l1 x15_1).f3)) := (qad BK338.out 3).trans rfl
         have hcz19_4 : w17.cell? ⟨gb338, 4, none⟩ = some (.bool ((qaf l1 x15_1).f4)) := (qad BK338.out 4).trans rfl
         have hfz19_0 := qae BK338.out 0
         have hfz19_1 := qae BK338.out 1
         have hfz19_2 := qae BK338.out 2
         have hfz19_3 := qae BK338.out 3
         have hfz19_4 := qae BK338.out 4
         go_wp2
         repeat (go_quiet (fail); try go_wp2)
         go_meet
         case rel => exact ⟨_, (true), (by first | rfl | (simp; done) | (simp [*]; done)), H', ⟨by have := HK1.out; first | omega | exact Nat.le_refl _⟩, ⟨by (with_reducible repeat (first | apply Kd.qar | apply Kd.qas | apply Kd.qaD)); exact HO_6.out⟩, ⟨by (with_reducible repeat (first | refine qaj ?_ _ | refine qal ?_ | refine qai ?_ _)); exact BK338.out⟩, ⟨by repeat (first | (with_reducible first | exact HB.out | apply qac | apply qaa | apply qab | refine qah ?_ GE338.out) | exact HB.out)⟩⟩
        ·rw [if_neg c18] at H
         have c18b0 : (t344 != ((qaf l1 x15_1).f3)) = false := by simpa using c18
         (try (have c18b1 : decide (t344 = ((qaf l1 x15_1).f3)) = true := by simpa using c18))
         (try (have c18b2 : (t344 == ((qaf l1 x15_1).f3)) = true := by simpa using c18))
         clear c18
         (first | rw [c18b0] | (simp only [qbe, qbo]; rw [c18b0]) | skip)
         by_cases c20 : t344 = true
         ·subst c20
          have H1 : (if 0 ≤ t343 then (if t343 < (x6_1.length : Int) then (qat.j1 k1 l0 x6_1 l1 (l1.length : Int) x15_1 (((qaK x6_1 t343).f1).toList != ((qaf l1 x15_1).f1).toList) ((qaf l1 x15_1).f0) ((qaf l1 x15_1).f1) ((qaf l1 x15_1).f2) ((qaf l1 x15_1).f3) ((qaf l1 x15_1).f4)) else (none)) else (none)) = some (r1, r2) := by rw [if_pos rfl] at H; exact H
          clear H
          have H := H1
          clear H1
          by_cases c21 : 0 ≤ t343
          ·rw [if_pos c21] at H
           have c21b0 : decide (0 ≤ t343) = true := decide_eq_true c21
           clear c21
           by_cases c22 : t343 < (x6_1.length : Int)
           ·rw [if_pos c22] at H
            have c22b0 : decide (t343 < (x6_1.length : Int)) = true := decide_eq_true c22
            clear c22
            have H' := Aside0.mk H
            clear H
            have hcz23_0 : w17.cell? ⟨gb338, 0, none⟩ = some (.string ((qaf l1 x15_1).f0)) := (qad BK338.out 0).trans rfl
            have hcz23_1 : w17.cell? ⟨gb338, 1, none⟩ = some (.string ((qaf l1 x15_1).f1)) := (qad BK338.out 1).trans rfl
            have hcz23_2 : w17.cell? ⟨gb338, 2, none⟩ = some (.string ((qaf l1 x15_1).f2)) := (qad BK338.out 2).trans rfl
            have hcz23_3 : w17.cell? ⟨gb338, 3, none⟩ = some (.bool ((qaf l1 x15_1).f3)) := (qad BK338.out 3).trans rfl
            have hcz23_4 : w17.cell? ⟨gb338, 4, none⟩ = some (.bool ((qaf l1 x15_1).f4)) := (qad BK338.out 4).trans rfl
            have hfz23_0 := qae BK338.out 0
            have hfz23_1 := qae BK338.out 1
            have hfz23_2 := qae BK338.out 2
            have hfz23_3 := qae BK338.out 3
            have hfz23_4 := qae BK338.out 4
            have p345 : 0 ≤ (t343 : Int) := of_decide_eq_true (by first | (with_reducible assumption) | assumption)
            have q345 : t343 < (x6_1.length : Int) := of_decide_eq_true (by first | (with_reducible assumption) | assumption)
            obtain ⟨ad345, e345, hx345_0, hx345_1⟩ := qcz (Kd.qaO HO_6.out).2.2 t343 p345 q345
            cases e345
            replace p345 := eq_true p345
            replace q345 := eq_true q345
            go_wp2
            repeat (go_quiet (fail); try go_wp2)
            go_meet
            case rel => exact ⟨_, ((((qaK x6_1 t343).f1).toList != ((qaf l1 x15_1).f1).toList)), (by first | rfl | (simp; done) | (simp [*]; done)), H', ⟨by have := HK1.out; first | omega | exact Nat.le_refl _⟩, ⟨by (with_reducible repeat (first | apply Kd.qar | apply Kd.qas | apply Kd.qaD)); exact HO_6.out⟩, ⟨by (with_reducible repeat (first | refine qaj ?_ _ | refine qal ?_ | refine qai ?_ _)); exact BK338.out⟩, ⟨by repeat (first | (with_reducible first | exact HB.out | apply qac | apply qaa | apply qab | refine qah ?_ GE338.out) | exact HB.out)⟩⟩
           ·rw [if_neg c22] at H
            exact absurd H (by simp)
          ·rw [if_neg c21] at H
           exact absurd H (by simp)
         ·replace c20 := Bool.eq_false_iff.mpr c20
          subst c20
          have H1 : (qat.j1 k1 l0 x6_1 l1 (l1.length : Int) x15_1 false ((qaf l1 x15_1).f0) ((qaf l1 x15_1).f1) ((qaf l1 x15_1).f2) ((qaf l1 x15_1).f3) ((qaf l1 x15_1).f4)) = some (r1, r2) := by rw [if_neg (show ¬ (false = true) by decide)] at H; exact H
          clear H
          have H := H1
          clear H1
          have H' := Aside0.mk H
          clear H
          have hcz24_0 : w17.cell? ⟨gb338, 0, none⟩ = some (.string ((qaf l1 x15_1).f0)) := (qad BK338.out 0).trans rfl
          have hcz24_1 : w17.cell? ⟨gb338, 1, none⟩ = some (.string ((qaf l1 x15_1).f1)) := (qad BK338.out 1).trans rfl
          have hcz24_2 : w17.cell? ⟨gb338, 2, none⟩ = some (.string ((qaf l1 x15_1).f2)) := (qad BK338.out 2).trans rfl
          have hcz24_3 : w17.cell? ⟨gb338, 3, none⟩ = some (.bool ((qaf l1 x15_1).f3)) := (qad BK338.out 3).trans rfl
          have hcz24_4 : w17.cell? ⟨gb338, 4, none⟩ = some (.bool ((qaf l1 x15_1).f4)) := (qad BK338.out 4).trans rfl
          have hfz24_0 := qae BK338.out 0
          have hfz24_1 := qae BK338.out 1
          have hfz24_2 := qae BK338.out 2
          have hfz24_3 := qae BK338.out 3
          have hfz24_4 := qae BK338.out 4
          go_wp2
          repeat (go_quiet (fail); try go_wp2)
          go_meet
          case rel => exact ⟨_, (false), (by first | rfl | (simp; done) | (simp [*]; done)), H', ⟨by have := HK1.out; first | omega | exact Nat.le_refl _⟩, ⟨by (with_reducible repeat (first | apply Kd.qar | apply Kd.qas | apply Kd.qaD)); exact HO_6.out⟩, ⟨by (with_reducible repeat (first | refine qaj ?_ _ | refine qal ?_ | refine qai ?_ _)); exact BK338.out⟩, ⟨by repeat (first | (with_reducible first | exact HB.out | apply qac | apply qaa | apply qab | refine qah ?_ GE338.out) | exact HB.out)⟩⟩
       case rest =>
        clear HC11
        try clear c1
        try clear c2
        try clear p2
        try clear p3
        try clear q3
        try clear hx3
        try clear c5
        try clear c5b0
        try clear c6
        try clear c6b0
        try clear c7
        try clear c7b0
        try clear c9
        try clear c18
        try clear c18b0
        try clear c18b1
        try clear c18b2
        try clear c20
        try clear c21
        try clear c21b0
        try clear c22
        try clear c22b0
        try clear hcz13_0
        try clear hcz13_1
        try clear hcz13_2
        try clear hcz13_3
        try clear hcz13_4
        try clear hcz15_0
        try clear hcz15_1
        try clear hcz15_2
        try clear hcz15_3
        try clear hcz15_4
        try clear hcz19_0
        try clear hcz19_1
        try clear hcz19_2
        try clear hcz19_3
        try clear hcz19_4
        try clear hcz23_0
        try clear hcz23_1
        try clear hcz23_2
        try clear hcz23_3
        try clear hcz23_4
        try clear hcz24_0
        try clear hcz24_1
        try clear hcz24_2
        try clear hcz24_3
        try clear hcz24_4
        try clear hfz13_0
        try clear hfz13_1
        try clear hfz13_2
        try clear hfz13_3
        try clear hfz13_4
        try clear hfz15_0
        try clear hfz15_1
        try clear hfz15_2
        try clear hfz15_3
        try clear hfz15_4
        try clear hfz19_0
        try clear hfz19_1
        try clear hfz19_2
        try clear hfz19_3
        try clear hfz19_4
        try clear hfz23_0
        try clear hfz23_1
        try clear hfz23_2
        try clear hfz23_3
        try clear hfz23_4
        try clear hfz24_0
        try clear hfz24_1
        try clear hfz24_2
        try clear hfz24_3
        try clear hfz24_4
        try clear hx337_0
        try clear hx337_1
        try clear hx337_2
        try clear hx337_3
        try clear hx337_4
        try clear hx345_0
        try clear hx345_1
        try clear p2
        try clear p337
        try clear p345
        try clear q337
        try clear q345
        obtain ⟨kq, x47_10, rfl, HA, HJ10, HO_6, BK338, HB⟩ := hcut
        cases kq with
        | zero => exact absurd HA.out (by simp [qat.j1])
        | succ kj10 =>
         have H := HA.out
         clear HA
         simp only [qat.j1] at H
         by_cases c25 : x47_10 = true
         ·subst c25
          have H1 : ((qaV.f l0).bind fun t346 => (some (t346, 18))) = some (r1, r2) := by rw [if_pos rfl] at H; exact H
          clear H
          have H := H1
          clear H1
          replace H := Option.bind_eq_some_iff.mp H
          obtain ⟨t346, A260, H⟩ := H
          try dsimp only at H
          have A26 := Aside0.mk A260
          clear A260
          simp only [Option.some.injEq, Prod.mk.injEq] at H
          obtain ⟨rfl, rfl⟩ := H
          go_wp2_with (first | (go_at_call 54; (with_reducible refine (qaV.calls _ _ l0 t346 _ ?side1 ?side2 A26.out).mono ?_); (case side1 => repeat (first | exact (Kd.qa8 HR0.out HB.out) | (with_reducible refine Kd.qa9 ?_ _) | (with_reducible refine Kd.qba ?_ _) | (with_reducible refine Kd.qbl ?_))); (case side2 => exact HC0.out); rintro e w27 ⟨v347, rfl, ho0, hb⟩; have n0_ := Aside0.mk (Kd.qch (by (with_reducible repeat (first | apply Kd.qar | apply Kd.qas | apply Kd.qaD)); exact HO_6.out) (Kd.qcT ho0) hb); have n1_ := Aside0.mk (Kd.qbh (Kd.qdb ho0 (Kd.R_lt (by (with_reducible repeat (first | apply Kd.qar | apply Kd.qas | apply Kd.qaD)); exact HO_6.out))) (qak (by repeat (first | (with_reducible first | exact HB.out | apply qac | apply qaa | apply qab | refine qah ?_ GE338.out) | exact HB.out)))); have n2_ := Aside0.mk (qao (g := gb338) (o := .cells #[.string ((qaf l1 x15_1).f0), .string ((qaf l1 x15_1).f1), .string ((qaf l1 x15_1).f2), .bool ((qaf l1 x15_1).f3), .bool ((qaf l1 x15_1).f4)] 56 (0, 0)) (by (with_reducible repeat (first | refine qaj ?_ _ | refine qal ?_ | refine qai ?_ _)); exact BK338.out) hb); have n3_ := Aside0.mk (qag (by repeat (first | (with_reducible first | exact HB.out | apply qac | apply qaa | apply qab | refine qah ?_ GE338.out) | exact HB.out)) hb); clear HO_6 BK338 HB; have HO_6 := n0_; have HO348 := n1_; have BK338 := n2_; have HB := n3_; clear n0_ n1_ n2_ n3_; (try clear hb); (try clear hb2); (try clear hk); (try clear hi); (try clear ho0)))
          repeat (go_quiet (first | (go_at_call 54; (with_reducible refine (qaV.calls _ _ l0 t346 _ ?side1 ?side2 A26.out).mono ?_); (case side1 => repeat (first | exact (Kd.qa8 HR0.out HB.out) | (with_reducible refine Kd.qa9 ?_ _) | (with_reducible refine Kd.qba ?_ _) | (with_reducible refine Kd.qbl ?_))); (case side2 => exact HC0.out); rintro e w27 ⟨v347, rfl, ho0, hb⟩; have n0_ := Aside0.mk (Kd.qch (by (with_reducible repeat (first | apply Kd.qar | apply Kd.qas | apply Kd.qaD)); exact HO_6.out) (Kd.qcT ho0) hb); have n1_ := Aside0.mk (Kd.qbh (Kd.qdb ho0 (Kd.R_lt (by (with_reducible repeat (first | apply Kd.qar | apply Kd.qas | apply Kd.qaD)); exact HO_6.out))) (qak (by repeat (first | (with_reducible first | exact HB.out | apply qac | apply qaa | apply qab | refine qah ?_ GE338.out) | exact HB.out)))); have n2_ := Aside0.mk (qao (g := gb338) (o := .cells #[.string ((qaf l1 x15_1).f0), .string ((qaf l1 x15_1).f1), .string ((qaf l1 x15_1).f2), .bool ((qaf l1 x15_1).f3), .bool ((qaf l1 x15_1).f4)] 56 (0, 0)) (by (with_reducible repeat (first | refine qaj ?_ _ | refine qal ?_ | refine qai ?_ _)); exact BK338.out) hb); have n3_ := Aside0.mk (qag (by repeat (first | (with_reducible first | exact HB.out | apply qac | apply qaa | apply qab | refine qah ?_ GE338.out) | exact HB.out)) hb); clear HO_6 BK338 HB; have HO_6 := n0_; have HO348 := n1_; have BK338 := n2_; have HB := n3_; clear n0_ n1_ n2_ n3_; (try clear hb); (try clear hb2); (try clear hk); (try clear hi); (try clear ho0))); try go_wp2_with (first | (go_at_call 54; (with_reducible refine (qaV.calls _ _ l0 t346 _ ?side1 ?side2 A26.out).mono ?_); (case side1 => repeat (first | exact (Kd.qa8 HR0.out HB.out) | (with_reducible refine Kd.qa9 ?_ _) | (with_reducible refine Kd.qba ?_ _) | (with_reducible refine Kd.qbl ?_))); (case side2 => exact HC0.out); rintro e w27 ⟨v347, rfl, ho0, hb⟩; have n0_ := Aside0.mk (Kd.qch (by (with_reducible repeat (first | apply Kd.qar | apply Kd.qas | apply Kd.qaD)); exact HO_6.out) (Kd.qcT ho0) hb); have n1_ := Aside0.mk (Kd.qbh (Kd.qdb ho0 (Kd.R_lt (by (with_reducible repeat (first | apply Kd.qar | apply Kd.qas | apply Kd.qaD)); exact HO_6.out))) (qak (by repeat (first | (with_reducible first | exact HB.out | apply qac | apply qaa | apply qab | refine qah ?_ GE338.out) | exact HB.out)))); have n2_ := Aside0.mk (qao (g := gb338) (o := .cells #[.string ((qaf l1 x15_1).f0), .string ((qaf l1 x15_1).f1), .string ((qaf l1 x15_1).f2), .bool ((qaf l1 x15_1).f3), .bool ((qaf l1 x15_1).f4)] 56 (0, 0)) (by (with_reducible repeat (first | refine qaj ?_ _ | refine qal ?_ | refine qai ?_ _)); exact BK338.out) hb); have n3_ := Aside0.mk (qag (by repeat (first | (with_reducible first | exact HB.out | apply qac | apply qaa | apply qab | refine qah ?_ GE338.out) | exact HB.out)) hb); clear HO_6 BK338 HB; have HO_6 := n0_; have HO348 := n1_; have BK338 := n2_; have HB := n3_; clear n0_ n1_ n2_ n3_; (try clear hb); (try clear hb2); (try clear hk); (try clear hi); (try clear ho0))))
          go_ret2
          exact ⟨_, by first | rfl | (simp [qam, qan] <;> rfl) | (simp [*, qam, qan] <;> rfl), by (with_reducible repeat (first | apply Kd.qar | apply Kd.qas | apply Kd.qaD)); exact Kd.qbr HO348.out (fun _ hk => trivial), by repeat (first | (with_reducible first | exact HB.out | apply qac | apply qaa | apply qab | refine qah ?_ GE338.out) | exact HB.out)⟩
         ·replace c25 := Bool.eq_false_iff.mpr c25
          subst c25
          have H1 : (if ((qaf l1 x15_1).f4) = true then ((qcl.f x6_1 ((qaf l1 x15_1).f0) ((qaf l1 x15_1).f2)).bind fun t349 => (qat.l0 kj10 l0 t349 l1 (l1.length : Int) (wrap64 (x15_1 + 1)))) else ((qcd.f x6_1 ((qaf l1 x15_1).f0)).bind fun t352 => (qat.l0 kj10 l0 t352 l1 (l1.length : Int) (wrap64 (x15_1 + 1))))) = some (r1, r2) := by rw [if_neg (show ¬ (false = true) by decide)] at H; exact H
          clear H
          have H := H1
          clear H1
          by_cases c28 : ((qaf l1 x15_1).f4) = true
          ·rw [if_pos c28] at H
           have c28b0 : ((qaf l1 x15_1).f4) = true := c28
           clear c28
           replace H := Option.bind_eq_some_iff.mp H
           obtain ⟨t349, A290, H⟩ := H
           try dsimp only at H
           have A29 := Aside0.mk A290
           clear A290
           have H' := Aside0.mk H
           clear H
           have hcz30_0 : wc.cell? ⟨gb338, 0, none⟩ = some (.string ((qaf l1 x15_1).f0)) := (qad BK338.out 0).trans rfl
           have hcz30_1 : wc.cell? ⟨gb338, 1, none⟩ = some (.string ((qaf l1 x15_1).f1)) := (qad BK338.out 1).trans rfl
           have hcz30_2 : wc.cell? ⟨gb338, 2, none⟩ = some (.string ((qaf l1 x15_1).f2)) := (qad BK338.out 2).trans rfl
           have hcz30_3 : wc.cell? ⟨gb338, 3, none⟩ = some (.bool ((qaf l1 x15_1).f3)) := (qad BK338.out 3).trans rfl
           have hcz30_4 : wc.cell? ⟨gb338, 4, none⟩ = some (.bool ((qaf l1 x15_1).f4)) := (qad BK338.out 4).trans rfl
           have hfz30_0 := qae BK338.out 0
           have hfz30_1 := qae BK338.out 1
           have hfz30_2 := qae BK338.out 2
           have hfz30_3 := qae BK338.out 3
           have hfz30_4 := qae BK338.out 4
           go_wp2_with (first | (go_at_call 66; (with_reducible refine (qcl.calls (fun k_ => some k_ = (.slice Ao16 x6_1.length co16 : Value).ownBlock) (.slice Ao16 x6_1.length co16) x6_1 ((qaf l1 x15_1).f0) ((qaf l1 x15_1).f2) t349 w _ ?side1 ?side2 A29.out).mono ?_); (case side1 => repeat (first | (with_reducible first | exact HB.out | apply qac | apply qaa | apply qab | refine qah ?_ GE338.out) | exact HB.out)); (case side2 => exact Kd.qde rfl HO_6.out); rintro e w31 ⟨v350, rfl, ho0, hb, hkp⟩; have n0_ := Aside0.mk (qd1 (by (with_reducible repeat (first | refine qaj ?_ _ | refine qal ?_ | refine qai ?_ _)); exact BK338.out) hkp (fun hs_ => (fun e_ => (Kd.R_ne HO_6.out BK338.out (by decide)) e_) hs_)); have n1_ := Aside0.mk (Kd.qbr (ok' := fun k_ => True) ho0 (fun k_ hk_ => trivial)); have n2_ := Aside0.mk (hb); clear BK338 HB HO_6; have BK338 := n0_; have HO351 := n1_; have HB := n2_; clear n0_ n1_ n2_; (try clear hb); (try clear hkp); (try clear ho0)))
           repeat (go_quiet (first | (go_at_call 66; (with_reducible refine (qcl.calls (fun k_ => some k_ = (.slice Ao16 x6_1.length co16 : Value).ownBlock) (.slice Ao16 x6_1.length co16) x6_1 ((qaf l1 x15_1).f0) ((qaf l1 x15_1).f2) t349 w _ ?side1 ?side2 A29.out).mono ?_); (case side1 => repeat (first | (with_reducible first | exact HB.out | apply qac | apply qaa | apply qab | refine qah ?_ GE338.out) | exact HB.out)); (case side2 => exact Kd.qde rfl HO_6.out); rintro e w31 ⟨v350, rfl, ho0, hb, hkp⟩; have n0_ := Aside0.mk (qd1 (by (with_reducible repeat (first | refine qaj ?_ _ | refine qal ?_ | refine qai ?_ _)); exact BK338.out) hkp (fun hs_ => (fun e_ => (Kd.R_ne HO_6.out BK338.out (by decide)) e_) hs_)); have n1_ := Aside0.mk (Kd.qbr (ok' := fun k_ => True) ho0 (fun k_ hk_ => trivial)); have n2_ := Aside0.mk (hb); clear BK338 HB HO_6; have BK338 := n0_; have HO351 := n1_; have HB := n2_; clear n0_ n1_ n2_; (try clear hb); (try clear hkp); (try clear ho0))); try go_wp2_with (first | (go_at_call 66; (with_reducible refine (qcl.calls (fun k_ => some k_ = (.slice Ao16 x6_1.length co16 : Value).ownBlock) (.slice Ao16 x6_1.length co16) x6_1 ((qaf l1 x15_1).f0) ((qaf l1 x15_1).f2) t349 w _ ?side1 ?side2 A29.out).mono ?_); (case side1 => repeat (first | (with_reducible first | exact HB.out | apply qac | apply qaa | apply qab | refine qah ?_ GE338.out) | exact HB.out)); (case side2 => exact Kd.qde rfl HO_6.out); rintro e w31 ⟨v350, rfl, ho0, hb, hkp⟩; have n0_ := Aside0.mk (qd1 (by (with_reducible repeat (first | refine qaj ?_ _ | refine qal ?_ | refine qai ?_ _)); exact BK338.out) hkp (fun hs_ => (fun e_ => (Kd.R_ne HO_6.out BK338.out (by decide)) e_) hs_)); have n1_ := Aside0.mk (Kd.qbr (ok' := fun k_ => True) ho0 (fun k_ hk_ => trivial)); have n2_ := Aside0.mk (hb); clear BK338 HB HO_6; have BK338 := n0_; have HO351 := n1_; have HB := n2_; clear n0_ n1_ n2_; (try clear hb); (try clear hkp); (try clear ho0))))
           go_roundg kj10
           case measure => have := HK1.out; have := HJ10.out; omega
           case rel => exact ⟨(t349), (wrap64 (x15_1 + 1)), (by first | rfl | (simp; done) | (simp [*]; done)), H', ⟨by have := HK1.out; have := HJ10.out; omega⟩, ⟨by (with_reducible repeat (first | apply Kd.qar | apply Kd.qas | apply Kd.qaD)); exact HO351.out⟩, ⟨by repeat (first | (with_reducible first | exact HB.out | apply qac | apply qaa | apply qab | refine qah ?_ GE338.out) | exact HB.out)⟩⟩
          ·rw [if_neg c28] at H
           have c28b0 : ((qaf l1 x15_1).f4) = false := by simpa using c28
           clear c28
           replace H := Option.bind_eq_some_iff.mp H
           obtain ⟨t352, A320, H⟩ := H
           try dsimp only at H
           have A32 := Aside0.mk A320
           clear A320
           have H' := Aside0.mk H
           clear H
           have hcz33_0 : wc.cell? ⟨gb338, 0, none⟩ = some (.string ((qaf l1 x15_1).f0)) := (qad BK338.out 0).trans rfl
           have hcz33_1 : wc.cell? ⟨gb338, 1, none⟩ = some (.string ((qaf l1 x15_1).f1)) := (qad BK338.out 1).trans rfl
           have hcz33_2 : wc.cell? ⟨gb338, 2, none⟩ = some (.string ((qaf l1 x15_1).f2)) := (qad BK338.out 2).trans rfl
           have hcz33_3 : wc.cell? ⟨gb338, 3, none⟩ = some (.bool ((qaf l1 x15_1).f3)) := (qad BK338.out 3).trans rfl
           have hcz33_4 : wc.cell? ⟨gb338, 4, none⟩ = some (.bool ((qaf l1 x15_1).f4)) := (qad BK338.out 4).trans rfl
           have hfz33_0 := qae BK338.out 0
           have hfz33_1 := qae BK338.out 1
           have hfz33_2 := qae BK338.out 2
           have hfz33_3 := qae BK338.out 3
           have hfz33_4 := qae BK338.out 4
           go_wp2_with (first | (go_at_call 67; (with_reducible refine (qcd.calls (fun k_ => some k_ = (.slice Ao16 x6_1.length co16 : Value).ownBlock) (.slice Ao16 x6_1.length co16) x6_1 ((qaf l1 x15_1).f0) t352 w _ ?side1 ?side2 A32.out).mono ?_); (case side1 => repeat (first | (with_reducible first | exact HB.out | apply qac | apply qaa | apply qab | refine qah ?_ GE338.out) | exact HB.out)); (case side2 => exact Kd.qde rfl HO_6.out); rintro e w34 ⟨v353, rfl, ho0, hb, hkp⟩; have n0_ := Aside0.mk (qd1 (by (with_reducible repeat (first | refine qaj ?_ _ | refine qal ?_ | refine qai ?_ _)); exact BK338.out) hkp (fun hs_ => (fun e_ => (Kd.R_ne HO_6.out BK338.out (by decide)) e_) hs_)); have n1_ := Aside0.mk (Kd.qbr (ok' := fun k_ => True) ho0 (fun k_ hk_ => trivial)); have n2_ := Aside0.mk (hb); clear BK338 HB HO_6; have BK338 := n0_; have HO354 := n1_; have HB := n2_; clear n0_ n1_ n2_; (try clear hb); (try clear hkp); (try clear ho0)))
           repeat (go_quiet (first | (go_at_call 67; (with_reducible refine (qcd.calls (fun k_ => some k_ = (.slice Ao16 x6_1.length co16 : Value).ownBlock) (.slice Ao16 x6_1.length co16) x6_1 ((qaf l1 x15_1).f0) t352 w _ ?side1 ?side2 A32.out).mono ?_); (case side1 => repeat (first | (with_reducible first | exact HB.out | apply qac | apply qaa | apply qab | refine qah ?_ GE338.out) | exact HB.out)); (case side2 => exact Kd.qde rfl HO_6.out); rintro e w34 ⟨v353, rfl, ho0, hb, hkp⟩; have n0_ := Aside0.mk (qd1 (by (with_reducible repeat (first | refine qaj ?_ _ | refine qal ?_ | refine qai ?_ _)); exact BK338.out) hkp (fun hs_ => (fun e_ => (Kd.R_ne HO_6.out BK338.out (by decide)) e_) hs_)); have n1_ := Aside0.mk (Kd.qbr (ok' := fun k_ => True) ho0 (fun k_ hk_ => trivial)); have n2_ := Aside0.mk (hb); clear BK338 HB HO_6; have BK338 := n0_; have HO354 := n1_; have HB := n2_; clear n0_ n1_ n2_; (try clear hb); (try clear hkp); (try clear ho0))); try go_wp2_with (first | (go_at_call 67; (with_reducible refine (qcd.calls (fun k_ => some k_ = (.slice Ao16 x6_1.length co16 : Value).ownBlock) (.slice Ao16 x6_1.length co16) x6_1 ((qaf l1 x15_1).f0) t352 w _ ?side1 ?side2 A32.out).mono ?_); (case side1 => repeat (first | (with_reducible first | exact HB.out | apply qac | apply qaa | apply qab | refine qah ?_ GE338.out) | exact HB.out)); (case side2 => exact Kd.qde rfl HO_6.out); rintro e w34 ⟨v353, rfl, ho0, hb, hkp⟩; have n0_ := Aside0.mk (qd1 (by (with_reducible repeat (first | refine qaj ?_ _ | refine qal ?_ | refine qai ?_ _)); exact BK338.out) hkp (fun hs_ => (fun e_ => (Kd.R_ne HO_6.out BK338.out (by decide)) e_) hs_)); have n1_ := Aside0.mk (Kd.qbr (ok' := fun k_ => True) ho0 (fun k_ hk_ => trivial)); have n2_ := Aside0.mk (hb); clear BK338 HB HO_6; have BK338 := n0_; have HO354 := n1_; have HB := n2_; clear n0_ n1_ n2_; (try clear hb); (try clear hkp); (try clear ho0))))
           go_roundg kj10
           case measure => have := HK1.out; have := HJ10.out; omega
           case rel => exact ⟨(t352), (wrap64 (x15_1 + 1)), (by first | rfl | (simp; done) | (simp [*]; done)), H', ⟨by have := HK1.out; have := HJ10.out; omega⟩, ⟨by (with_reducible repeat (first | apply Kd.qar | apply Kd.qas | apply Kd.qaD)); exact HO354.out⟩, ⟨by repeat (first | (with_reducible first | exact HB.out | apply qac | apply qaa | apply qab | refine qah ?_ GE338.out) | exact HB.out)⟩⟩
      ·replace c9 := Bool.eq_false_iff.mpr c9
       subst c9
       have H1 : ((qaV.f l0).bind fun t340 => (some (t340, 3))) = some (r1, r2) := by rw [if_neg (show ¬ (false = true) by decide)] at H; exact H
       clear H
       have H := H1
       clear H1
       replace H := Option.bind_eq_some_iff.mp H
       obtain ⟨t340, A350, H⟩ := H
       try dsimp only at H
       have A35 := Aside0.mk A350
       clear A350
       simp only [Option.some.injEq, Prod.mk.injEq] at H
       obtain ⟨rfl, rfl⟩ := H
       have p337 : 0 ≤ (x15_1 : Int) := of_decide_eq_true (by first | (with_reducible assumption) | assumption)
       have q337 : x15_1 < (l1.length : Int) := of_decide_eq_true (by first | (with_reducible assumption) | assumption)
       obtain ⟨ad337, e337, hx337_0, hx337_1, hx337_2, hx337_3, hx337_4⟩ := qdd HR1.out x15_1 p337 q337
       cases e337
       replace hx337_0 := (HB.out.cell (World.block_lt_of_cell? w _ hx337_0)).trans hx337_0
       replace hx337_1 := (HB.out.cell (World.block_lt_of_cell? w _ hx337_1)).trans hx337_1
       replace hx337_2 := (HB.out.cell (World.block_lt_of_cell? w _ hx337_2)).trans hx337_2
       replace hx337_3 := (HB.out.cell (World.block_lt_of_cell? w _ hx337_3)).trans hx337_3
       replace hx337_4 := (HB.out.cell (World.block_lt_of_cell? w _ hx337_4)).trans hx337_4
       replace p337 := eq_true p337
       replace q337 := eq_true q337
       go_wp2_with (first | ((with_reducible refine qaM (N := 8) rfl ?_); refine qaN ?hg (N := 8) ?hd (cs := #[.string (⟨#[]⟩ : ByteArray), .string (⟨#[]⟩ : ByteArray), .string (⟨#[]⟩ : ByteArray), .bool false, .bool false]) (t := 56) ?hr ?_; (case hd => rfl); (case hg => rfl); (case hr => first | (go_simp; done) | (go_simp; rfl)); intro gb338 hg w36 hbox hb; have n0_ := Aside0.mk (Kd.qaX (by (with_reducible repeat (first | apply Kd.qar | apply Kd.qas | apply Kd.qaD)); exact HO_6.out) hb); have n1_ := Aside0.mk (qag (by repeat (first | (with_reducible first | exact HB.out | apply qac | apply qaa | apply qab) | exact HB.out)) hb); have n2_ := Aside0.mk (hbox); have n3_ := Aside0.mk ((by rw [hg]; exact (qak (by repeat (first | (with_reducible first | exact HB.out | apply qac | apply qaa | apply qab) | exact HB.out))) : w.heap.size ≤ gb338)); have n4_ := Aside0.mk ((by rw [hg]; exact (qak (by repeat (first | (with_reducible first | exact HB.out | apply qac | apply qaa | apply qab) | exact HB.out))) : w.heap.size ≤ gb338)); clear HO_6 HB; have HO_6 := n0_; have HB := n1_; have BK338 := n2_; have GW338 := n3_; have GE338 := n4_; clear n0_ n1_ n2_ n3_ n4_ hb hbox hg; have hcz37_0 : w36.cell? ⟨gb338, 0, none⟩ = some (.string (⟨#[]⟩ : ByteArray)) := (qad BK338.out 0).trans rfl; have hcz37_1 : w36.cell? ⟨gb338, 1, none⟩ = some (.string (⟨#[]⟩ : ByteArray)) := (qad BK338.out 1).trans rfl; have hcz37_2 : w36.cell? ⟨gb338, 2, none⟩ = some (.string (⟨#[]⟩ : ByteArray)) := (qad BK338.out 2).trans rfl; have hcz37_3 : w36.cell? ⟨gb338, 3, none⟩ = some (.bool false) := (qad BK338.out 3).trans rfl; have hcz37_4 : w36.cell? ⟨gb338, 4, none⟩ = some (.bool false) := (qad BK338.out 4).trans rfl; have hfz37_0 := qae BK338.out 0; have hfz37_1 := qae BK338.out 1; have hfz37_2 := qae BK338.out 2; have hfz37_3 := qae BK338.out 3; have hfz37_4 := qae BK338.out 4) | (go_at_call 39; (with_reducible refine (qbt.calls ((qaf l1 x15_1).f0) ((qaf l1 x15_1).f1) ((qaf l1 x15_1).f2) ((qaf l1 x15_1).f3) ((qaf l1 x15_1).f4) false _ A8.out).mono ?_); rintro e w38 ⟨rfl, hb⟩; have n0_ := Aside0.mk (Kd.qaX (by (with_reducible repeat (first | apply Kd.qar | apply Kd.qas | apply Kd.qaD)); exact (Kd.qbr (Kd.qcq (p := ⟨gb338, 4, none⟩) (Kd.qcq (p := ⟨gb338, 3, none⟩) (Kd.qcq (p := ⟨gb338, 2, none⟩) (Kd.qcq (p := ⟨gb338, 1, none⟩) (Kd.qcq (p := ⟨gb338, 0, none⟩) (Kd.qdL HO_6.out BK338.out (by decide)) (fun _ hk => hk.2) (.string ((qaf l1 x15_1).f0))) (fun _ hk => hk.2) (.string ((qaf l1 x15_1).f1))) (fun _ hk => hk.2) (.string ((qaf l1 x15_1).f2))) (fun _ hk => hk.2) (.bool ((qaf l1 x15_1).f3))) (fun _ hk => hk.2) (.bool ((qaf l1 x15_1).f4))) (fun _ h_ => h_.1))) hb); have n1_ := Aside0.mk (qao (g := gb338) (o := .cells #[.string ((qaf l1 x15_1).f0), .string ((qaf l1 x15_1).f1), .string ((qaf l1 x15_1).f2), .bool ((qaf l1 x15_1).f3), .bool ((qaf l1 x15_1).f4)] 56 (0, 0)) (by (with_reducible repeat (first | refine qaj ?_ _ | refine qal ?_ | refine qai ?_ _)); refine qaY (cs := #[.string ((qaf l1 x15_1).f0), .string ((qaf l1 x15_1).f1), .string ((qaf l1 x15_1).f2), .bool ((qaf l1 x15_1).f3), .bool false]) ?_ 4 _ rfl; (with_reducible repeat (first | refine qaj ?_ _ | refine qal ?_ | refine qai ?_ _)); refine qaY (cs := #[.string ((qaf l1 x15_1).f0), .string ((qaf l1 x15_1).f1), .string ((qaf l1 x15_1).f2), .bool false, .bool false]) ?_ 3 _ rfl; (with_reducible repeat (first | refine qaj ?_ _ | refine qal ?_ | refine qai ?_ _)); refine qaY (cs := #[.string ((qaf l1 x15_1).f0), .string ((qaf l1 x15_1).f1), .string (⟨#[]⟩ : ByteArray), .bool false, .bool false]) ?_ 2 _ rfl; (with_reducible repeat (first | refine qaj ?_ _ | refine qal ?_ | refine qai ?_ _)); refine qaY (cs := #[.string ((qaf l1 x15_1).f0), .string (⟨#[]⟩ : ByteArray), .string (⟨#[]⟩ : ByteArray), .bool false, .bool false]) ?_ 1 _ rfl; (with_reducible repeat (first | refine qaj ?_ _ | refine qal ?_ | refine qai ?_ _)); refine qaY (cs := #[.string (⟨#[]⟩ : ByteArray), .string (⟨#[]⟩ : ByteArray), .string (⟨#[]⟩ : ByteArray), .bool false, .bool false]) ?_ 0 _ rfl; (with_reducible repeat (first | refine qaj ?_ _ | refine qal ?_ | refine qai ?_ _)); exact BK338.out) hb); have n2_ := Aside0.mk (qag (by repeat (first | (with_reducible first | exact HB.out | apply qac | apply qaa | apply qab | refine qah ?_ GE338.out) | exact HB.out)) hb); clear HO_6 BK338 HB; have HO_6 := n0_; have BK338 := n1_; have HB := n2_; clear n0_ n1_ n2_; (try clear hb); (try clear hb2); (try clear hk); (try clear hi)) | (go_at_call 54; (with_reducible refine (qaV.calls _ _ l0 t340 _ ?side1 ?side2 A35.out).mono ?_); (case side1 => repeat (first | exact (Kd.qa8 HR0.out HB.out) | (with_reducible refine Kd.qa9 ?_ _) | (with_reducible refine Kd.qba ?_ _) | (with_reducible refine Kd.qbl ?_))); (case side2 => exact HC0.out); rintro e w39 ⟨v341, rfl, ho0, hb⟩; have n0_ := Aside0.mk (Kd.qch (by (with_reducible repeat (first | apply Kd.qar | apply Kd.qas | apply Kd.qaD)); exact HO_6.out) (Kd.qcT ho0) hb); have n1_ := Aside0.mk (Kd.qbh (Kd.qdb ho0 (Kd.R_lt (by (with_reducible repeat (first | apply Kd.qar | apply Kd.qas | apply Kd.qaD)); exact HO_6.out))) (qak (by repeat (first | (with_reducible first | exact HB.out | apply qac | apply qaa | apply qab | refine qah ?_ GE338.out) | exact HB.out)))); have n2_ := Aside0.mk (qao (g := gb338) (o := .cells #[.string ((qaf l1 x15_1).f0), .string ((qaf l1 x15_1).f1), .string ((qaf l1 x15_1).f2), .bool ((qaf l1 x15_1).f3), .bool ((qaf l1 x15_1).f4)] 56 (0, 0)) (by (with_reducible repeat (first | refine qaj ?_ _ | refine qal ?_ | refine qai ?_ _)); exact BK338.out) hb); have n3_ := Aside0.mk (qag (by repeat (first | (with_reducible first | exact HB.out | apply qac | apply qaa | apply qab | refine qah ?_ GE338.out) | exact HB.out)) hb); clear HO_6 BK338 HB; have HO_6 := n0_; have HO342 := n1_; have BK338 := n2_; have HB := n3_; clear n0_ n1_ n2_ n3_; (try clear hb); (try clear hb2); (try clear hk); (try clear hi); (try clear ho0)))
       repeat (go_quiet (first | ((with_reducible refine qaM (N := 8) rfl ?_); refine qaN ?hg (N := 8) ?hd (cs := #[.string (⟨#[]⟩ : ByteArray), .string (⟨#[]⟩ : ByteArray), .string (⟨#[]⟩ : ByteArray), .bool false, .bool false]) (t := 56) ?hr ?_; (case hd => rfl); (case hg => rfl); (case hr => first | (go_simp; done) | (go_simp; rfl)); intro gb338 hg w36 hbox hb; have n0_ := Aside0.mk (Kd.qaX (by (with_reducible repeat (first | apply Kd.qar | apply Kd.qas | apply Kd.qaD)); exact HO_6.out) hb); have n1_ := Aside0.mk (qag (by repeat (first | (with_reducible first | exact HB.out | apply qac | apply qaa | apply qab) | exact HB.out)) hb); have n2_ := Aside0.mk (hbox); have n3_ := Aside0.mk ((by rw [hg]; exact (qak (by repeat (first | (with_reducible first | exact HB.out | apply qac | apply qaa | apply qab) | exact HB.out))) : w.heap.size ≤ gb338)); have n4_ := Aside0.mk ((by rw [hg]; exact (qak (by repeat (first | (with_reducible first | exact HB.out | apply qac | apply qaa | apply qab) | exact HB.out))) : w.heap.size ≤ gb338)); clear HO_6 HB; have HO_6 := n0_; have HB := n1_; have BK338 := n2_; have GW338 := n3_; have GE338 := n4_; clear n0_ n1_ n2_ n3_ n4_ hb hbox hg; have hcz37_0 : w36.cell? ⟨gb338, 0, none⟩ = some (.string (⟨#[]⟩ : ByteArray)) := (qad BK338.out 0).trans rfl; have hcz37_1 : w36.cell? ⟨gb338, 1, none⟩ = some (.string (⟨#[]⟩ : ByteArray)) := (qad BK338.out 1).trans rfl; have hcz37_2 : w36.cell? ⟨gb338, 2, none⟩ = some (.string (⟨#[]⟩ : ByteArray)) := (qad BK338.out 2).trans rfl; have hcz37_3 : w36.cell? ⟨gb338, 3, none⟩ = some (.bool false) := (qad BK338.out 3).trans rfl; have hcz37_4 : w36.cell? ⟨gb338, 4, none⟩ = some (.bool false) := (qad BK338.out 4).trans rfl; have hfz37_0 := qae BK338.out 0; have hfz37_1 := qae BK338.out 1; have hfz37_2 := qae BK338.out 2; have hfz37_3 := qae BK338.out 3; have hfz37_4 := qae BK338.out 4) | (go_at_call 39; (with_reducible refine (qbt.calls ((qaf l1 x15_1).f0) ((qaf l1 x15_1).f1) ((qaf l1 x15_1).f2) ((qaf l1 x15_1).f3) ((qaf l1 x15_1).f4) false _ A8.out).mono ?_); rintro e w38 ⟨rfl, hb⟩; have n0_ := Aside0.mk (Kd.qaX (by (with_reducible repeat (first | apply Kd.qar | apply Kd.qas | apply Kd.qaD)); exact (Kd.qbr (Kd.qcq (p := ⟨gb338, 4, none⟩) (Kd.qcq (p := ⟨gb338, 3, none⟩) (Kd.qcq (p := ⟨gb338, 2, none⟩) (Kd.qcq (p := ⟨gb338, 1, none⟩) (Kd.qcq (p := ⟨gb338, 0, none⟩) (Kd.qdL HO_6.out BK338.out (by decide)) (fun _ hk => hk.2) (.string ((qaf l1 x15_1).f0))) (fun _ hk => hk.2) (.string ((qaf l1 x15_1).f1))) (fun _ hk => hk.2) (.string ((qaf l1 x15_1).f2))) (fun _ hk => hk.2) (.bool ((qaf l1 x15_1).f3))) (fun _ hk => hk.2) (.bool ((qaf l1 x15_1).f4))) (fun _ h_ => h_.1))) hb); have n1_ := Aside0.mk (qao (g := gb338) (o := .cells #[.string ((qaf l1 x15_1).f0), .string ((qaf l1 x15_1).f1), .string ((qaf l1 x15_1).f2), .bool ((qaf l1 x15_1).f3), .bool ((qaf l1 x15_1).f4)] 56 (0, 0)) (by (with_reducible repeat (first | refine qaj ?_ _ | refine qal ?_ | refine qai ?_ _)); refine qaY (cs := #[.string ((qaf l1 x15_1).f0), .string ((qaf l1 x15_1).f1), .string ((qaf l1 x15_1).f2), .bool ((qaf l1 x15_1).f3), .bool false]) ?_ 4 _ rfl; (with_reducible repeat (first | refine qaj ?_ _ | refine qal ?_ | refine qai ?_ _)); refine qaY (cs := #[.string ((qaf l1 x15_1).f0), .string ((qaf l1 x15_1).f1), .string ((qaf l1 x15_1).f2), .bool false, .bool false]) ?_ 3 _ rfl; (with_reducible repeat (first | refine qaj ?_ _ | refine qal ?_ | refine qai ?_ _)); refine qaY (cs := #[.string ((qaf l1 x15_1).f0), .string ((qaf l1 x15_1).f1), .string (⟨#[]⟩ : ByteArray), .bool false, .bool false]) ?_ 2 _ rfl; (with_reducible repeat (first | refine qaj ?_ _ | refine qal ?_ | refine qai ?_ _)); refine qaY (cs := #[.string ((qaf l1 x15_1).f0), .string (⟨#[]⟩ : ByteArray), .string (⟨#[]⟩ : ByteArray), .bool false, .bool false]) ?_ 1 _ rfl; (with_reducible repeat (first | refine qaj ?_ _ | refine qal ?_ | refine qai ?_ _)); refine qaY (cs := #[.string (⟨#[]⟩ : ByteArray), .string (⟨#[]⟩ : ByteArray), .string (⟨#[]⟩ : ByteArray), .bool false, .bool false]) ?_ 0 _ rfl; (with_reducible repeat (first | refine qaj ?_ _ | refine qal ?_ | refine qai ?_ _)); exact BK338.out) hb); have n2_ := Aside0.mk (qag (by repeat (first | (with_reducible first | exact HB.out | apply qac | apply qaa | apply qab | refine qah ?_ GE338.out) | exact HB.out)) hb); clear HO_6 BK338 HB; have HO_6 := n0_; have BK338 := n1_; have HB := n2_; clear n0_ n1_ n2_; (try clear hb); (try clear hb2); (try clear hk); (try clear hi)) | (go_at_call 54; (with_reducible refine (qaV.calls _ _ l0 t340 _ ?side1 ?side2 A35.out).mono ?_); (case side1 => repeat (first | exact (Kd.qa8 HR0.out HB.out) | (with_reducible refine Kd.qa9 ?_ _) | (with_reducible refine Kd.qba ?_ _) | (with_reducible refine Kd.qbl ?_))); (case side2 => exact HC0.out); rintro e w39 ⟨v341, rfl, ho0, hb⟩; have n0_ := Aside0.mk (Kd.qch (by (with_reducible repeat (first | apply Kd.qar | apply Kd.qas | apply Kd.qaD)); exact HO_6.out) (Kd.qcT ho0) hb); have n1_ := Aside0.mk (Kd.qbh (Kd.qdb ho0 (Kd.R_lt (by (with_reducible repeat (first | apply Kd.qar | apply Kd.qas | apply Kd.qaD)); exact HO_6.out))) (qak (by repeat (first | (with_reducible first | exact HB.out | apply qac | apply qaa | apply qab | refine qah ?_ GE338.out) | exact HB.out)))); have n2_ := Aside0.mk (qao (g := gb338) (o := .cells #[.string ((qaf l1 x15_1).f0), .string ((qaf l1 x15_1).f1), .string ((qaf l1 x15_1).f2), .bool ((qaf l1 x15_1).f3), .bool ((qaf l1 x15_1).f4)] 56 (0, 0)) (by (with_reducible repeat (first | refine qaj ?_ _ | refine qal ?_ | refine qai ?_ _)); exact BK338.out) hb); have n3_ := Aside0.mk (qag (by repeat (first | (with_reducible first | exact HB.out | apply qac | apply qaa | apply qab | refine qah ?_ GE338.out) | exact HB.out)) hb); clear HO_6 BK338 HB; have HO_6 := n0_; have HO342 := n1_; have BK338 := n2_; have HB := n3_; clear n0_ n1_ n2_ n3_; (try clear hb); (try clear hb2); (try clear hk); (try clear hi); (try clear ho0))); try go_wp2_with (first | ((with_reducible refine qaM (N := 8) rfl ?_); refine qaN ?hg (N := 8) ?hd (cs := #[.string (⟨#[]⟩ : ByteArray), .string (⟨#[]⟩ : ByteArray), .string (⟨#[]⟩ : ByteArray), .bool false, .bool false]) (t := 56) ?hr ?_; (case hd => rfl); (case hg => rfl); (case hr => first | (go_simp; done) | (go_simp; rfl)); intro gb338 hg w36 hbox hb; have n0_ := Aside0.mk (Kd.qaX (by (with_reducible repeat (first | apply Kd.qar | apply Kd.qas | apply Kd.qaD)); exact HO_6.out) hb); have n1_ := Aside0.mk (qag (by repeat (first | (with_reducible first | exact HB.out | apply qac | apply qaa | apply qab) | exact HB.out)) hb); have n2_ := Aside0.mk (hbox); have n3_ := Aside0.mk ((by rw [hg]; exact (qak (by repeat (first | (with_reducible first | exact HB.out | apply qac | apply qaa | apply qab) | exact HB.out))) : w.heap.size ≤ gb338)); have n4_ := Aside0.mk ((by rw [hg]; exact (qak (by repeat (first | (with_reducible first | exact HB.out | apply qac | apply qaa | apply qab) | exact HB.out))) : w.heap.size ≤ gb338)); clear HO_6 HB; have HO_6 := n0_; have HB := n1_; have BK338 := n2_; have GW338 := n3_; have GE338 := n4_; clear n0_ n1_ n2_ n3_ n4_ hb hbox hg; have hcz37_0 : w36.cell? ⟨gb338, 0, none⟩ = some (.string (⟨#[]⟩ : ByteArray)) := (qad BK338.out 0).trans rfl; have hcz37_1 : w36.cell? ⟨gb338, 1, none⟩ = some (.string (⟨#[]⟩ : ByteArray)) := (qad BK338.out 1).trans rfl; have hcz37_2 : w36.cell? ⟨gb338, 2, none⟩ = some (.string (⟨#[]⟩ : ByteArray)) := (qad BK338.out 2).trans rfl; have hcz37_3 : w36.cell? ⟨gb338, 3, none⟩ = some (.bool false) := (qad BK338.out 3).trans rfl; have hcz37_4 : w36.cell? ⟨gb338, 4, none⟩ = some (.bool false) := (qad BK338.out 4).trans rfl; have hfz37_0 := qae BK338.out 0; have hfz37_1 := qae BK338.out 1; have hfz37_2 := qae BK338.out 2; have hfz37_3 := qae BK338.out 3; have hfz37_4 := qae BK338.out 4) | (go_at_call 39; (with_reducible refine (qbt.calls ((qaf l1 x15_1).f0) ((qaf l1 x15_1).f1) ((qaf l1 x15_1).f2) ((qaf l1 x15_1).f3) ((qaf l1 x15_1).f4) false _ A8.out).mono ?_); rintro e w38 ⟨rfl, hb⟩; have n0_ := Aside0.mk (Kd.qaX (by (with_reducible repeat (first | apply Kd.qar | apply Kd.qas | apply Kd.qaD)); exact (Kd.qbr (Kd.qcq (p := ⟨gb338, 4, none⟩) (Kd.qcq (p := ⟨gb338, 3, none⟩) (Kd.qcq (p := ⟨gb338, 2, none⟩) (Kd.qcq (p := ⟨gb338, 1, none⟩) (Kd.qcq (p := ⟨gb338, 0, none⟩) (Kd.qdL HO_6.out BK338.out (by decide)) (fun _ hk => hk.2) (.string ((qaf l1 x15_1).f0))) (fun _ hk => hk.2) (.string ((qaf l1 x15_1).f1))) (fun _ hk => hk.2) (.string ((qaf l1 x15_1).f2))) (fun _ hk => hk.2) (.bool ((qaf l1 x15_1).f3))) (fun _ hk => hk.2) (.bool ((qaf l1 x15_1).f4))) (fun _ h_ => h_.1))) hb); have n1_ := Aside0.mk (qao (g := gb338) (o := .cells #[.string ((qaf l1 x15_1).f0), .string ((qaf l1 x15_1).f1), .string ((qaf l1 x15_1).f2), .bool ((qaf l1 x15_1).f3), .bool ((qaf l1 x15_1).f4)] 56 (0, 0)) (by (with_reducible repeat (first | refine qaj ?_ _ | refine qal ?_ | refine qai ?_ _)); refine qaY (cs := #[.string ((qaf l1 x15_1).f0), .string ((qaf l1 x15_1).f1), .string ((qaf l1 x15_1).f2), .bool ((qaf l1 x15_1).f3), .bool false]) ?_ 4 _ rfl; (with_reducible repeat (first | refine qaj ?_ _ | refine qal ?_ | refine qai ?_ _)); refine qaY (cs := #[.string ((qaf l1 x15_1).f0), .string ((qaf l1 x15_1).f1), .string ((qaf l1 x15_1).f2), .bool false, .bool false]) ?_ 3 _ rfl; (with_reducible repeat (first | refine qaj ?_ _ | refine qal ?_ | refine qai ?_ _)); refine qaY (cs := #[.string ((qaf l1 x15_1).f0), .string ((qaf l1 x15_1).f1), .string (⟨#[]⟩ : ByteArray), .bool false, .bool false]) ?_ 2 _ rfl; (with_reducible repeat (first | refine qaj ?_ _ | refine qal ?_ | refine qai ?_ _)); refine qaY (cs := #[.string ((qaf l1 x15_1).f0), .string (⟨#[]⟩ : ByteArray), .string (⟨#[]⟩ : ByteArray), .bool false, .bool false]) ?_ 1 _ rfl; (with_reducible repeat (first | refine qaj ?_ _ | refine qal ?_ | refine qai ?_ _)); refine qaY (cs := #[.string (⟨#[]⟩ : ByteArray), .string (⟨#[]⟩ : ByteArray), .string (⟨#[]⟩ : ByteArray), .bool false, .bool false]) ?_ 0 _ rfl; (with_reducible repeat (first | refine qaj ?_ _ | refine qal ?_ | refine qai ?_ _)); exact BK338.out) hb); have n2_ := Aside0.mk (qag (by repeat (first | (with_reducible first | exact HB.out | apply qac | apply qaa | apply qab | refine qah ?_ GE338.out) | exact HB.out)) hb); clear HO_6 BK338 HB; have HO_6 := n0_; have BK338 := n1_; have HB := n2_; clear n0_ n1_ n2_; (try clear hb); (try clear hb2); (try clear hk); (try clear hi)) | (go_at_call 54; (with_reducible refine (qaV.calls _ _ l0 t340 _ ?side1 ?side2 A35.out).mono ?_); (case side1 => repeat (first | exact (Kd.qa8 HR0.out HB.out) | (with_reducible refine Kd.qa9 ?_ _) | (with_reducible refine Kd.qba ?_ _) | (with_reducible refine Kd.qbl ?_))); (case side2 => exact HC0.out); rintro e w39 ⟨v341, rfl, ho0, hb⟩; have n0_ := Aside0.mk (Kd.qch (by (with_reducible repeat (first | apply Kd.qar | apply Kd.qas | apply Kd.qaD)); exact HO_6.out) (Kd.qcT ho0) hb); have n1_ := Aside0.mk (Kd.qbh (Kd.qdb ho0 (Kd.R_lt (by (with_reducible repeat (first | apply Kd.qar | apply Kd.qas | apply Kd.qaD)); exact HO_6.out))) (qak (by repeat (first | (with_reducible first | exact HB.out | apply qac | apply qaa | apply qab | refine qah ?_ GE338.out) | exact HB.out)))); have n2_ := Aside0.mk (qao (g := gb338) (o := .cells #[.string ((qaf l1 x15_1).f0), .string ((qaf l1 x15_1).f1), .string ((qaf l1 x15_1).f2), .bool ((qaf l1 x15_1).f3), .bool ((qaf l1 x15_1).f4)] 56 (0, 0)) (by (with_reducible repeat (first | refine qaj ?_ _ | refine qal ?_ | refine qai ?_ _)); exact BK338.out) hb); have n3_ := Aside0.mk (qag (by repeat (first | (with_reducible first | exact HB.out | apply qac | apply qaa | apply qab | refine qah ?_ GE338.out) | exact HB.out)) hb); clear HO_6 BK338 HB; have HO_6 := n0_; have HO342 := n1_; have BK338 := n2_; have HB := n3_; clear n0_ n1_ n2_ n3_; (try clear hb); (try clear hb2); (try clear hk); (try clear hi); (try clear ho0))))
       go_ret2
       exact ⟨_, by first | rfl | (simp [qam, qan] <;> rfl) | (simp [*, qam, qan] <;> rfl), by (with_reducible repeat (first | apply Kd.qar | apply Kd.qas | apply Kd.qaD)); exact Kd.qbr HO342.out (fun _ hk => trivial), by repeat (first | (with_reducible first | exact HB.out | apply qac | apply qaa | apply qab | refine qah ?_ GE338.out) | exact HB.out)⟩
     ·rw [if_neg c7] at H
      exact absurd H (by simp)
    ·rw [if_neg c6] at H
     exact absurd H (by simp)
   ·rw [if_neg c5] at H
    have c5b0 : decide (x15_1 < (l1.length : Int)) = false := decide_eq_false c5
    clear c5
    by_cases c40 : (x6_1.length : Int) > 60
    ·rw [if_pos c40] at H
     have c40b0 : decide (60 < (x6_1.length : Int)) = true := decide_eq_true c40
     have c40b1 : decide (60 < x6_1.length) = true := decide_eq_true (by omega)
     clear c40
     replace H := Option.bind_eq_some_iff.mp H
     obtain ⟨t334, A410, H⟩ := H
     try dsimp only at H
     have A41 := Aside0.mk A410
     clear A410
     simp only [Option.some.injEq, Prod.mk.injEq] at H
     obtain ⟨rfl, rfl⟩ := H
     obtain ⟨Ao42, co42, eo42⟩ := Kd.qbN HO_6.out
     subst eo42
     go_wp2_with (first | (go_at_call 54; (with_reducible refine (qaV.calls _ _ l0 t334 _ ?side1 ?side2 A41.out).mono ?_); (case side1 => repeat (first | exact (Kd.qa8 HR0.out HB.out) | (with_reducible refine Kd.qa9 ?_ _) | (with_reducible refine Kd.qba ?_ _) | (with_reducible refine Kd.qbl ?_))); (case side2 => exact HC0.out); rintro e w43 ⟨v335, rfl, ho0, hb⟩; have n0_ := Aside0.mk (Kd.qch (by (with_reducible repeat (first | apply Kd.qar | apply Kd.qas | apply Kd.qaD)); exact HO_6.out) (Kd.qcT ho0) hb); have n1_ := Aside0.mk (Kd.qbh (Kd.qdb ho0 (Kd.R_lt (by (with_reducible repeat (first | apply Kd.qar | apply Kd.qas | apply Kd.qaD)); exact HO_6.out))) (qak (by repeat (first | (with_reducible first | exact HB.out | apply qac | apply qaa | apply qab) | exact HB.out)))); have n2_ := Aside0.mk (qag (by repeat (first | (with_reducible first | exact HB.out | apply qac | apply qaa | apply qab) | exact HB.out)) hb); clear HO_6 HB; have HO_6 := n0_; have HO336 := n1_; have HB := n2_; clear n0_ n1_ n2_; (try clear hb); (try clear hb2); (try clear hk); (try clear hi); (try clear ho0)))
     repeat (go_quiet (first | (go_at_call 54; (with_reducible refine (qaV.calls _ _ l0 t334 _ ?side1 ?side2 A41.out).mono ?_); (case side1 => repeat (first | exact (Kd.qa8 HR0.out HB.out) | (with_reducible refine Kd.qa9 ?_ _) | (with_reducible refine Kd.qba ?_ _) | (with_reducible refine Kd.qbl ?_))); (case side2 => exact HC0.out); rintro e w43 ⟨v335, rfl, ho0, hb⟩; have n0_ := Aside0.mk (Kd.qch (by (with_reducible repeat (first | apply Kd.qar | apply Kd.qas | apply Kd.qaD)); exact HO_6.out) (Kd.qcT ho0) hb); have n1_ := Aside0.mk (Kd.qbh (Kd.qdb ho0 (Kd.R_lt (by (with_reducible repeat (first | apply Kd.qar | apply Kd.qas | apply Kd.qaD)); exact HO_6.out))) (qak (by repeat (first | (with_reducible first | exact HB.out | apply qac | apply qaa | apply qab) | exact HB.out)))); have n2_ := Aside0.mk (qag (by repeat (first | (with_reducible first | exact HB.out | apply qac | apply qaa | apply qab) | exact HB.out)) hb); clear HO_6 HB; have HO_6 := n0_; have HO336 := n1_; have HB := n2_; clear n0_ n1_ n2_; (try clear hb); (try clear hb2); (try clear hk); (try clear hi); (try clear ho0))); try go_wp2_with (first | (go_at_call 54; (with_reducible refine (qaV.calls _ _ l0 t334 _ ?side1 ?side2 A41.out).mono ?_); (case side1 => repeat (first | exact (Kd.qa8 HR0.out HB.out) | (with_reducible refine Kd.qa9 ?_ _) | (with_reducible refine Kd.qba ?_ _) | (with_reducible refine Kd.qbl ?_))); (case side2 => exact HC0.out); rintro e w43 ⟨v335, rfl, ho0, hb⟩; have n0_ := Aside0.mk (Kd.qch (by (with_reducible repeat (first | apply Kd.qar | apply Kd.qas | apply Kd.qaD)); exact HO_6.out) (Kd.qcT ho0) hb); have n1_ := Aside0.mk (Kd.qbh (Kd.qdb ho0 (Kd.R_lt (by (with_reducible repeat (first | apply Kd.qar | apply Kd.qas | apply Kd.qaD)); exact HO_6.out))) (qak (by repeat (first | (with_reducible first | exact HB.out | apply qac | apply qaa | apply qab) | exact HB.out)))); have n2_ := Aside0.mk (qag (by repeat (first | (with_reducible first | exact HB.out | apply qac | apply qaa | apply qab) | exact HB.out)) hb); clear HO_6 HB; have HO_6 := n0_; have HO336 := n1_; have HB := n2_; clear n0_ n1_ n2_; (try clear hb); (try clear hb2); (try clear hk); (try clear hi); (try clear ho0))))
     go_ret2
     exact ⟨_, by first | rfl | (simp [qam, qan] <;> rfl) | (simp [*, qam, qan] <;> rfl), by (with_reducible repeat (first | apply Kd.qar | apply Kd.qas | apply Kd.qaD)); exact Kd.qbr HO336.out (fun _ hk => trivial), by repeat (first | (with_reducible first | exact HB.out | apply qac | apply qaa | apply qab) | exact HB.out)⟩
    ·rw [if_neg c40] at H
     have c40b0 : decide (60 < (x6_1.length : Int)) = false := decide_eq_false c40
     have c40b1 : decide (60 < x6_1.length) = false := decide_eq_false (by omega)
     clear c40
     simp only [Option.some.injEq, Prod.mk.injEq] at H
     obtain ⟨rfl, rfl⟩ := H
     obtain ⟨Ao44, co44, eo44⟩ := Kd.qbN HO_6.out
     subst eo44
     go_wp2
     repeat (go_quiet (fail); try go_wp2)
     go_ret2
     exact ⟨_, by first | rfl | (simp [qam, qan] <;> rfl) | (simp [*, qam, qan] <;> rfl), by (with_reducible repeat (first | apply Kd.qar | apply Kd.qas | apply Kd.qaD)); exact HO_6.out, by repeat (first | (with_reducible first | exact HB.out | apply qac | apply qaa | apply qab) | exact HB.out)⟩
end Go.Proofs.Ytlkdcicpaneakaa.X
namespace Go.Proofs.Ytlkdcicpaneakaa.X
open Go.RowKit Go.Proofs.YtlkdcicpaneakaaW.PrintWords Go.Proofs.YtlkdcicpaneakaaW.PrintLast Go.Proofs.YtlkdcicpaneakaaW.PrintMore
attribute [local go_sem] qaA qaB qaC qaw qax qaH qaI qap qaq qay qaz
set_option linter.unusedVariables false
set_option linter.unusedSimpArgs false
theorem qfk (l0 : List S48) (hl0 : l0.length ≤ 1000000) (rest : List S56) : ∀ (pre : List S56) (out : List S48), (pre ++ rest).length ≤ 1000000 → out.length + rest.length ≤ 1000000 → Fine out →
  Ev (fun k => qat.l0 k l0 out (pre ++ rest) ((pre ++ rest).length : Int) ((pre.length : Nat) : Int)) (qbP l0 out rest) := by
 induction rest with
 | nil =>
  intro pre out hl ho hf
  refine Ev.succ ?_
  simp only [qat.l0, List.append_nil]
  refine Ev.neg (by omega) ?_
  unfold qbP
  by_cases h : (out.length : Int) > 60
  ·exact Ev.pos h (Ev.bindk (qdB l0 hl0) (Ev.is (by rw [if_pos (by omega)])))
  ·exact Ev.neg h (Ev.is (by rw [if_neg (by omega)]))
 | cons d r ih =>
  intro pre out hl ho hf
  have hx : qaf (pre ++ d :: r) ((pre.length : Nat) : Int) = d := by simp [qaf, List.getD_eq_getElem?_getD]
  have hlt : ((pre.length : Nat) : Int) < ((pre ++ d :: r).length : Int) := by simp; omega
  have e1 : pre ++ d :: r = (pre ++ [d]) ++ r := by simp
  have hpl : pre.length < 1000000 := by simp at hl; omega
  have hol : out.length + r.length + 1 ≤ 1000000 := by simp at ho; omega
  have hnext : ∀ out2 : List S48, out2.length + r.length ≤ 1000000 → Fine out2 → Ev (fun k => qat.l0 k l0 out2 (pre ++ d :: r) ((pre ++ d :: r).length : Int) (wrap64 (((pre.length : Nat) : Int) + 1))) (qbP l0 out2 r) := by
   intro out2 h2 hf2
   rw [qcu (by omega), e1, qcp (x := d)]
   exact ih (pre ++ [d]) out2 (by rw [← e1]; exact hl) h2 hf2
  have hj : ∀ b : Bool, qbW d = true → b = !fitsB out d → Ev (fun k => qat.j1 k l0 out (pre ++ d :: r) ((pre ++ d :: r).length : Int) ((pre.length : Nat) : Int) b d.f0 d.f1 d.f2 d.f3 d.f4) (qbP l0 out (d :: r)) := by
   intro b hd hb
   refine Ev.succ ?_
   simp only [qat.j1]
   unfold qbP
   refine Ev.same ?_ (if_pos hd).symm
   cases hfb : fitsB out d with
   | false =>
    rw [hb, hfb]
    exact Ev.pos rfl (Ev.bindk (qdB l0 hl0) (Ev.is (by simp)))
   | true =>
    rw [hb, hfb]
    refine Ev.neg (by simp) (Ev.same ?_ (if_pos rfl).symm)
    have hsl := qdv out d
    have hsf := qdC hf hd
    have hn := hnext (stepD out d) (by omega) hsf
    unfold stepD at hn ⊢
    cases h4 : d.f4 with
    | true =>
     rw [h4] at hn
     exact Ev.pos rfl (Ev.bindk (impl_put d.f0 d.f2 hf.2 (by omega)) hn)
    | false =>
     rw [h4] at hn
     exact Ev.neg (by simp) (Ev.bindk (qiT d.f0 hf.2 (by omega)) hn)
  refine Ev.succ ?_
  simp only [qat.l0, hx]
  refine Ev.pos hlt (Ev.pos (by omega) (Ev.pos hlt (Ev.bindk (qgB d) ?_)))
  cases hd : qbW d with
  | false => exact Ev.neg (by simp) (Ev.bindk (qdB l0 hl0) (Ev.is (by simp [qbP, hd])))
  | true =>
   refine Ev.pos rfl (Ev.bindk (qg9 d.f0 hf.2 (by omega)) ?_)
   cases hh : hasAt out d.f0 with
   | false =>
    cases h3 : d.f3 with
    | true =>
     have := hj true hd (by simp [fitsB, hh, h3])
     rw [h3] at this
     exact Ev.pos (by simp) this
    | false =>
     have := hj false hd (by simp [fitsB, hh, h3])
     rw [h3] at this
     exact Ev.neg (by simp) (Ev.neg (by simp) this)
   | true =>
    cases h3 : d.f3 with
    | false =>
     have := hj true hd (by simp [fitsB, hh, h3])
     rw [h3] at this
     exact Ev.pos (by simp) this
    | true =>
     have hal := qd6 hh
     have := hj (((qaK out (lowAt out d.f0 : Int)).f1).toList != (d.f1).toList) hd (by simp [fitsB, hh, h3, getV, bne_dec])
     rw [h3] at this
     exact Ev.neg (by simp) (Ev.pos rfl (Ev.pos (by simp only; omega) (Ev.pos (by simp only; omega) this)))
theorem qhL (l : List S48) (ds : List S56) (hl : l.length ≤ 100000) (hd : ds.length ≤ 100000) (hf : Fine l) : Ev (fun k => qat.f k l ds) (qbP l l ds) := by
 unfold qat.f
 have h := qfk l (by omega) ds [] l (by simp; omega) (by omega) hf
 exact Ev.bindk (qdB l (by omega)) (by simpa using h)
end Go.Proofs.Ytlkdcicpaneakaa.X
