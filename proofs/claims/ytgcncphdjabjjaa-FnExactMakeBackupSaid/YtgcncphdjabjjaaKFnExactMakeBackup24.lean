import Derived.Test.YtgcncphdjabjjaaKFnExactMakeBackup3
import Derived.Test.YtgcncphdjabjjaaKFnExactMakeBackup4
import Derived.Test.YtgcncphdjabjjaaKFnExactMakeBackup5
import Derived.Test.YtgcncphdjabjjaaKFnExactMakeBackup8
import Derived.Test.YtgcncphdjabjjaaKFnExactMakeBackup9
import Derived.Test.YtgcncphdjabjjaaKFnExactMakeBackup16
import Derived.Test.YtgcncphdjabjjaaKFnExactMakeBackup21
import Derived.Test.YtgcncphdjabjjaaKFnExactMakeBackup23
namespace Go.Proofs.Ytgcncphdjabjjaa.X
open Go.RowKit Go.Proofs.YtgcncphdjabjjaaW.PrintWords Go.Proofs.YtgcncphdjabjjaaW.PrintLast Go.Proofs.YtgcncphdjabjjaaW.PrintMore
attribute [local go_sem] qaT qaU qaV qaP qaQ qa3 qa4 qaJ qaK qaR qaS
set_option linter.unusedVariables false
set_option linter.unusedSimpArgs false
mutual
def qae.j0 : Nat → ByteArray → ByteArray → Int → List (S73) → List (S73) → Int → List (S76) → List (S76) → Int → Bool → ByteArray → ByteArray → Int → List (S82) → Int → ByteArray → ByteArray → Int → List (S82) → Int → Option (Bool)
 | 0, _, _, _, _, _, _, _, _, _, _, _, _, _, _, _, _, _, _, _, _ => none
 | k + 1, x0, x1, x2, x3, x4, x13, x14, x15, x17, x71, x839000, x839001, x839002, x839003, x839004, x854000, x854001, x854002, x854003, x854004 => if x71 = true then (some false) else ((qay.f k x3).bind fun t855 => ((qaL.f k x14 t855).bind fun t858 => (if t858 = true then ((qay.f k x4).bind fun t859 => ((qaL.f k x15 t859).bind fun t862 => (if t862 = true then ((qaC.f k x14 1).bind fun bt863 => ((qaC.f k x15 bt863.1).bind fun bt865 => (if bt865.1 < 0 then (qae.j1 k x0 x1 x2 x3 x4 x13 true x839000 x839001 x839002 x839003 x839004 x854000 x854001 x854002 x854003 x854004) else ((qaO.f k x854000 x854001 x854002 x854003 x854004 x839000 x839001 x839002 x839003 x839004).bind fun t867 => (if t867 = true then (qae.j1 k x0 x1 x2 x3 x4 x13 (x17 != x13) x839000 x839001 x839002 x839003 x839004 x854000 x854001 x854002 x854003 x854004) else (qae.j1 k x0 x1 x2 x3 x4 x13 true x839000 x839001 x839002 x839003 x839004 x854000 x854001 x854002 x854003 x854004)))))) else (some false)))) else (some false))))
def qae.j1 : Nat → ByteArray → ByteArray → Int → List (S73) → List (S73) → Int → Bool → ByteArray → ByteArray → Int → List (S82) → Int → ByteArray → ByteArray → Int → List (S82) → Int → Option (Bool)
 | 0, _, _, _, _, _, _, _, _, _, _, _, _, _, _, _, _, _ => none
 | k + 1, x0, x1, x2, x3, x4, x13, x100, x839000, x839001, x839002, x839003, x839004, x854000, x854001, x854002, x854003, x854004 => if x100 = true then (some false) else ((qbk.f k x854000 x854001 x854002 x854003 x854004 1).bind fun bt868 => ((qa9.f k x854000 x854001 x854002 bt868.2 x854004 1).bind fun t870 => (if t870 < 0 then (some false) else (if t870 = bt868.1 then ((qay.f k x3).bind fun t871 => ((qay.f k x4).bind fun t874 => ((qat.f k x0 x1 x2 t871 t874).bind fun bt877 => ((qaO.f k bt877.1 bt877.2.1 bt877.2.2.1 bt877.2.2.2.1 bt877.2.2.2.2.1 x839000 x839001 x839002 x839003 x839004).bind fun t886 => (if t886 = true then (qae.j2 k bt868.1 (bt877.2.2.2.2.2 != x13) x854000 x854001 x854002 bt868.2 x854004) else (qae.j2 k bt868.1 true x854000 x854001 x854002 bt868.2 x854004)))))) else (some false)))))
def qae.j2 : Nat → Int → Bool → ByteArray → ByteArray → Int → List (S82) → Int → Option (Bool)
 | 0, _, _, _, _, _, _, _ => none
 | k + 1, x19, x131, x854000, x854001, x854002, x854003, x854004 => if x131 = true then (some false) else ((qa9.f k x854000 x854001 x854002 x854003 x854004 1).bind fun t887 => (if t887 < 0 then (some false) else (if t887 = x19 then (some true) else (some false))))
end
def qae.f (k : Nat) (a0 : ByteArray) (a1 : ByteArray) (a2 : Int) (l3 : List (S73)) (l4 : List (S73)) : Option (Bool) := if (a0.size : Int) > 1048576 then (some true) else (if (a1.size : Int) > 1048576 then (some true) else ((qaY.f k l3 1048576).bind fun t822 => (if t822 < 0 then (some true) else ((qaY.f k l4 t822).bind fun t823 => (if t823 < 0 then (some true) else ((qay.f k l3).bind fun t824 => ((qay.f k l4).bind fun t827 => ((qav.f k a0 a1 a2 t824 t827).bind fun bt830 => ((qay.f k l3).bind fun t839 => ((qay.f k l4).bind fun t842 => ((qat.f k a0 a1 a2 t839 t842).bind fun bt845 => ((qaO.f k bt845.1 bt845.2.1 bt845.2.2.1 bt845.2.2.2.1 bt845.2.2.2.2.1 bt830.1 bt830.2.1 bt830.2.2.1 bt830.2.2.2.1 bt830.2.2.2.2.1).bind fun t854 => (if t854 = true then (qae.j0 k a0 a1 a2 l3 l4 bt830.2.2.2.2.2 t839 t842 bt845.2.2.2.2.2 (bt845.2.2.2.2.2 != bt830.2.2.2.2.2) bt830.1 bt830.2.1 bt830.2.2.1 bt830.2.2.2.1 bt830.2.2.2.2.1 bt845.1 bt845.2.1 bt845.2.2.1 bt845.2.2.2.1 bt845.2.2.2.2.1) else (qae.j0 k a0 a1 a2 l3 l4 bt830.2.2.2.2.2 t839 t842 bt845.2.2.2.2.2 true bt830.1 bt830.2.1 bt830.2.2.1 bt830.2.2.2.1 bt830.2.2.2.2.1 bt845.1 bt845.2.1 bt845.2.2.1 bt845.2.2.2.1 bt845.2.2.2.2.1))))))))))))))
theorem qae.qbs : ∀ k, (∀ y0 y1 y2 y3 y4 y5 y6 y7 y8 y9 y10 y11 y12 y13 y14 y15 y16 y17 y18 y19, LeO (qae.j0 k y0 y1 y2 y3 y4 y5 y6 y7 y8 y9 y10 y11 y12 y13 y14 y15 y16 y17 y18 y19) (qae.j0 (k + 1) y0 y1 y2 y3 y4 y5 y6 y7 y8 y9 y10 y11 y12 y13 y14 y15 y16 y17 y18 y19)) ∧ (∀ y0 y1 y2 y3 y4 y5 y6 y7 y8 y9 y10 y11 y12 y13 y14 y15 y16, LeO (qae.j1 k y0 y1 y2 y3 y4 y5 y6 y7 y8 y9 y10 y11 y12 y13 y14 y15 y16) (qae.j1 (k + 1) y0 y1 y2 y3 y4 y5 y6 y7 y8 y9 y10 y11 y12 y13 y14 y15 y16)) ∧ (∀ y0 y1 y2 y3 y4 y5 y6, LeO (qae.j2 k y0 y1 y2 y3 y4 y5 y6) (qae.j2 (k + 1) y0 y1 y2 y3 y4 y5 y6))
 | 0 => ⟨fun _ _ _ _ _ _ _ _ _ _ _ _ _ _ _ _ _ _ _ _ r h => by simp [qae.j0] at h, fun _ _ _ _ _ _ _ _ _ _ _ _ _ _ _ _ _ r h => by simp [qae.j1] at h, fun _ _ _ _ _ _ _ r h => by simp [qae.j2] at h⟩
 | k + 1 => by
  obtain ⟨ih0, ih1, ih2⟩ := qae.qbs k
  refine ⟨?_, ?_, ?_⟩
  ·intro y0 y1 y2 y3 y4 y5 y6 y7 y8 y9 y10 y11 y12 y13 y14 y15 y16 y17 y18 y19
   unfold qae.j0
   repeat' first
   | (with_reducible exact ih0 _ _ _ _ _ _ _ _ _ _ _ _ _ _ _ _ _ _ _ _)
   | (with_reducible exact ih1 _ _ _ _ _ _ _ _ _ _ _ _ _ _ _ _ _)
   | (with_reducible exact ih2 _ _ _ _ _ _ _)
   | (with_reducible exact qat.mono _ _ _ _ _ _)
   | (with_reducible exact qaO.mono _ _ _ _ _ _ _ _ _ _ _)
   | (with_reducible exact qaL.mono _ _ _)
   | (with_reducible exact qa9.mono _ _ _ _ _ _ _)
   | (with_reducible exact qbk.mono _ _ _ _ _ _ _)
   | (with_reducible exact qaC.mono _ _ _)
   | (with_reducible exact qaY.mono _ _ _)
   | (with_reducible exact qay.mono _ _)
   | (with_reducible exact qav.mono _ _ _ _ _ _)
   | (with_reducible exact LeO.refl _)
   | (with_reducible exact LeO.none _)
   | (with_reducible refine LeO.ite ?_ ?_)
   | (with_reducible refine LeO.bind ?_ (fun _ => ?_))
   | exact ih0 _ _ _ _ _ _ _ _ _ _ _ _ _ _ _ _ _ _ _ _
   | exact ih1 _ _ _ _ _ _ _ _ _ _ _ _ _ _ _ _ _
   | exact ih2 _ _ _ _ _ _ _
   | exact qat.mono _ _ _ _ _ _
   | exact qaO.mono _ _ _ _ _ _ _ _ _ _ _
   | exact qaL.mono _ _ _
   | exact qa9.mono _ _ _ _ _ _ _
   | exact qbk.mono _ _ _ _ _ _ _
   | exact qaC.mono _ _ _
   | exact qaY.mono _ _ _
   | exact qay.mono _ _
   | exact qav.mono _ _ _ _ _ _
   | exact LeO.none _
   | refine LeO.ite ?_ ?_
   | refine LeO.bind ?_ (fun _ => ?_)
  ·intro y0 y1 y2 y3 y4 y5 y6 y7 y8 y9 y10 y11 y12 y13 y14 y15 y16
   unfold qae.j1
   repeat' first
   | (with_reducible exact ih0 _ _ _ _ _ _ _ _ _ _ _ _ _ _ _ _ _ _ _ _)
   | (with_reducible exact ih1 _ _ _ _ _ _ _ _ _ _ _ _ _ _ _ _ _)
   | (with_reducible exact ih2 _ _ _ _ _ _ _)
   | (with_reducible exact qat.mono _ _ _ _ _ _)
   | (with_reducible exact qaO.mono _ _ _ _ _ _ _ _ _ _ _)
   | (with_reducible exact qaL.mono _ _ _)
   | (with_reducible exact qa9.mono _ _ _ _ _ _ _)
   | (with_reducible exact qbk.mono _ _ _ _ _ _ _)
   | (with_reducible exact qaC.mono _ _ _)
   | (with_reducible exact qaY.mono _ _ _)
   | (with_reducible exact qay.mono _ _)
   | (with_reducible exact qav.mono _ _ _ _ _ _)
   | (with_reducible exact LeO.refl _)
   | (with_reducible exact LeO.none _)
   | (with_reducible refine LeO.ite ?_ ?_)
   | (with_reducible refine LeO.bind ?_ (fun _ => ?_))
   | exact ih0 _ _ _ _ _ _ _ _ _ _ _ _ _ _ _ _ _ _ _ _
   | exact ih1 _ _ _ _ _ _ _ _ _ _ _ _ _ _ _ _ _
   | exact ih2 _ _ _ _ _ _ _
   | exact qat.mono _ _ _ _ _ _
   | exact qaO.mono _ _ _ _ _ _ _ _ _ _ _
   | exact qaL.mono _ _ _
   | exact qa9.mono _ _ _ _ _ _ _
   | exact qbk.mono _ _ _ _ _ _ _
   | exact qaC.mono _ _ _
   | exact qaY.mono _ _ _
   | exact qay.mono _ _
   | exact qav.mono _ _ _ _ _ _
   | exact LeO.none _
   | refine LeO.ite ?_ ?_
   | refine LeO.bind ?_ (fun _ => ?_)
  ·intro y0 y1 y2 y3 y4 y5 y6
   unfold qae.j2
   repeat' first
   | (with_reducible exact ih0 _ _ _ _ _ _ _ _ _ _ _ _ _ _ _ _ _ _ _ _)
   | (with_reducible exact ih1 _ _ _ _ _ _ _ _ _ _ _ _ _ _ _ _ _)
   | (with_reducible exact ih2 _ _ _ _ _ _ _)
   | (with_reducible exact qat.mono _ _ _ _ _ _)
   | (with_reducible exact qaO.mono _ _ _ _ _ _ _ _ _ _ _)
   | (with_reducible exact qaL.mono _ _ _)
   | (with_reducible exact qa9.mono _ _ _ _ _ _ _)
   | (with_reducible exact qbk.mono _ _ _ _ _ _ _)
   | (with_reducible exact qaC.mono _ _ _)
   | (with_reducible exact qaY.mono _ _ _)
   | (with_reducible exact qay.mono _ _)
   | (with_reducible exact qav.mono _ _ _ _ _ _)
   | (with_reducible exact LeO.refl _)
   | (with_reducible exact LeO.none _)
   | (with_reducible refine LeO.ite ?_ ?_)
   | (with_reducible refine LeO.bind ?_ (fun _ => ?_))
   | exact ih0 _ _ _ _ _ _ _ _ _ _ _ _ _ _ _ _ _ _ _ _
   | exact ih1 _ _ _ _ _ _ _ _ _ _ _ _ _ _ _ _ _
   | exact ih2 _ _ _ _ _ _ _
   | exact qat.mono _ _ _ _ _ _
   | exact qaO.mono _ _ _ _ _ _ _ _ _ _ _
   | exact qaL.mono _ _ _
   | exact qa9.mono _ _ _ _ _ _ _
   | exact qbk.mono _ _ _ _ _ _ _
   | exact qaC.mono _ _ _
   | exact qaY.mono _ _ _
   | exact qay.mono _ _
   | exact qav.mono _ _ _ _ _ _
   | exact LeO.none _
   | refine LeO.ite ?_ ?_
   | refine LeO.bind ?_ (fun _ => ?_)
theorem qae.mono : ∀ a0 a1 a2 a3 a4 k, LeO (qae.f k a0 a1 a2 a3 a4) (qae.f (k + 1) a0 a1 a2 a3 a4) := by
 intro a0 a1 a2 a3 a4 k
 obtain ⟨ih0, ih1, ih2⟩ := qae.qbs k
 unfold qae.f
 repeat' first
   | (with_reducible exact ih0 _ _ _ _ _ _ _ _ _ _ _ _ _ _ _ _ _ _ _ _)
   | (with_reducible exact ih1 _ _ _ _ _ _ _ _ _ _ _ _ _ _ _ _ _)
   | (with_reducible exact ih2 _ _ _ _ _ _ _)
   | (with_reducible exact qat.mono _ _ _ _ _ _)
   | (with_reducible exact qaO.mono _ _ _ _ _ _ _ _ _ _ _)
   | (with_reducible exact qaL.mono _ _ _)
   | (with_reducible exact qa9.mono _ _ _ _ _ _ _)
   | (with_reducible exact qbk.mono _ _ _ _ _ _ _)
   | (with_reducible exact qaC.mono _ _ _)
   | (with_reducible exact qaY.mono _ _ _)
   | (with_reducible exact qay.mono _ _)
   | (with_reducible exact qav.mono _ _ _ _ _ _)
   | (with_reducible exact LeO.refl _)
   | (with_reducible exact LeO.none _)
   | (with_reducible refine LeO.ite ?_ ?_)
   | (with_reducible refine LeO.bind ?_ (fun _ => ?_))
   | exact ih0 _ _ _ _ _ _ _ _ _ _ _ _ _ _ _ _ _ _ _ _
   | exact ih1 _ _ _ _ _ _ _ _ _ _ _ _ _ _ _ _ _
   | exact ih2 _ _ _ _ _ _ _
   | exact qat.mono _ _ _ _ _ _
   | exact qaO.mono _ _ _ _ _ _ _ _ _ _ _
   | exact qaL.mono _ _ _
   | exact qa9.mono _ _ _ _ _ _ _
   | exact qbk.mono _ _ _ _ _ _ _
   | exact qaC.mono _ _ _
   | exact qaY.mono _ _ _
   | exact qay.mono _ _
   | exact qav.mono _ _ _ _ _ _
   | exact LeO.none _
   | refine LeO.ite ?_ ?_
   | refine LeO.bind ?_ (fun _ => ?_)
set_option maxHeartbeats 8000000 in
set_option maxRecDepth 100000 in
theorem qae.calls (k : Nat) (a0 : ByteArray) (a1 : ByteArray) (a2 : Int) (A3 : Option Addr) (c3 : Nat) (l3 : List (S73)) (A4 : Option Addr) (c4 : Nat) (l4 : List (S73)) (r : Bool) (w : World) (hr3 : Kd.C k73 w A3 l3.length l3) (hc3 : l3.length ≤ c3) (hr4 : Kd.C k73 w A4 l4.length l4) (hc4 : l4.length ≤ c4) (h : qae.f k a0 a1 a2 l3 l4 = some r) :
  Calls Try.prog 8 #[.string a0, .string a1, .int .i64 a2, .slice A3 l3.length c3, .slice A4 l4.length c4] w fun e w' => e = .returned (.bool r) ∧ Below w.heap.size w w' := by
 have hu48 := Try.underlying48
 have HR3 := Aside0.mk hr3
 have HC3 := Aside0.mk hc3
 clear hr3 hc3
 have HR4 := Aside0.mk hr4
 have HC4 := Aside0.mk hc4
 clear hr4 hc4
 have HB := Aside0.mk (Below.refl w.heap.size w)
 have H : (if (a0.size : Int) > 1048576 then (some true) else (if (a1.size : Int) > 1048576 then (some true) else ((qaY.f k l3 1048576).bind fun t822 => (if t822 < 0 then (some true) else ((qaY.f k l4 t822).bind fun t823 => (if t823 < 0 then (some true) else ((qay.f k l3).bind fun t824 => ((qay.f k l4).bind fun t827 => ((qav.f k a0 a1 a2 t824 t827).bind fun bt830 => ((qay.f k l3).bind fun t839 => ((qay.f k l4).bind fun t842 => ((qat.f k a0 a1 a2 t839 t842).bind fun bt845 => ((qaO.f k bt845.1 bt845.2.1 bt845.2.2.1 bt845.2.2.2.1 bt845.2.2.2.2.1 bt830.1 bt830.2.1 bt830.2.2.1 bt830.2.2.2.1 bt830.2.2.2.2.1).bind fun t854 => (if t854 = true then (qae.j0 k a0 a1 a2 l3 l4 bt830.2.2.2.2.2 t839 t842 bt845.2.2.2.2.2 (bt845.2.2.2.2.2 != bt830.2.2.2.2.2) bt830.1 bt830.2.1 bt830.2.2.1 bt830.2.2.2.1 bt830.2.2.2.2.1 bt845.1 bt845.2.1 bt845.2.2.1 bt845.2.2.2.1 bt845.2.2.2.2.1) else (qae.j0 k a0 a1 a2 l3 l4 bt830.2.2.2.2.2 t839 t842 bt845.2.2.2.2.2 true bt830.1 bt830.2.1 bt830.2.2.1 bt830.2.2.2.1 bt830.2.2.2.2.1 bt845.1 bt845.2.1 bt845.2.2.1 bt845.2.2.2.1 bt845.2.2.2.2.1))))))))))))))) = some r := h
 clear h
 by_cases c6 : (a0.size : Int) > 1048576
 ·rw [if_pos c6] at H
  have c6b0 : decide (1048576 < (a0.size : Int)) = true := decide_eq_true c6
  have c6b1 : decide (1048576 < a0.size) = true := decide_eq_true (by omega)
  clear c6
  obtain rfl := Option.some.inj H
  go_enter Try.func8, Try.ntmps8
  go_wp2
  go_ret
  exact ⟨by first | rfl | (simp [qam, qan] <;> rfl) | (simp [*, qam, qan] <;> rfl), by repeat (first | (with_reducible first | exact HB.out | apply qac | apply qaa | apply qab) | exact HB.out)⟩
 ·rw [if_neg c6] at H
  have c6b0 : decide (1048576 < (a0.size : Int)) = false := decide_eq_false c6
  have c6b1 : decide (1048576 < a0.size) = false := decide_eq_false (by omega)
  clear c6
  by_cases c7 : (a1.size : Int) > 1048576
  ·rw [if_pos c7] at H
   have c7b0 : decide (1048576 < (a1.size : Int)) = true := decide_eq_true c7
   have c7b1 : decide (1048576 < a1.size) = true := decide_eq_true (by omega)
   clear c7
   obtain rfl := Option.some.inj H
   go_enter Try.func8, Try.ntmps8
   go_wp2
   go_ret
   exact ⟨by first | rfl | (simp [qam, qan] <;> rfl) | (simp [*, qam, qan] <;> rfl), by repeat (first | (with_reducible first | exact HB.out | apply qac | apply qaa | apply qab) | exact HB.out)⟩
  ·rw [if_neg c7] at H
   have c7b0 : decide (1048576 < (a1.size : Int)) = false := decide_eq_false c7
   have c7b1 : decide (1048576 < a1.size) = false := decide_eq_false (by omega)
   clear c7
   replace H := Option.bind_eq_some_iff.mp H
   obtain ⟨t822, A80, H⟩ := H
   replace H : (if t822 < 0 then (some true) else ((qaY.f k l4 t822).bind fun t823 => (if t823 < 0 then (some true) else ((qay.f k l3).bind fun t824 => ((qay.f k l4).bind fun t827 => ((qav.f k a0 a1 a2 t824 t827).bind fun bt830 => ((qay.f k l3).bind fun t839 => ((qay.f k l4).bind fun t842 => ((qat.f k a0 a1 a2 t839 t842).bind fun bt845 => ((qaO.f k bt845.1 bt845.2.1 bt845.2.2.1 bt845.2.2.2.1 bt845.2.2.2.2.1 bt830.1 bt830.2.1 bt830.2.2.1 bt830.2.2.2.1 bt830.2.2.2.2.1).bind fun t854 => (if t854 = true then (qae.j0 k a0 a1 a2 l3 l4 bt830.2.2.2.2.2 t839 t842 bt845.2.2.2.2.2 (bt845.2.2.2.2.2 != bt830.2.2.2.2.2) bt830.1 bt830.2.1 bt830.2.2.1 bt830.2.2.2.1 bt830.2.2.2.2.1 bt845.1 bt845.2.1 bt845.2.2.1 bt845.2.2.2.1 bt845.2.2.2.2.1) else (qae.j0 k a0 a1 a2 l3 l4 bt830.2.2.2.2.2 t839 t842 bt845.2.2.2.2.2 true bt830.1 bt830.2.1 bt830.2.2.1 bt830.2.2.2.1 bt830.2.2.2.2.1 bt845.1 bt845.2.1 bt845.2.2.1 bt845.2.2.2.1 bt845.2.2.2.2.1)))))))))))) = some r := H
   have A8 := Aside0.mk A80
   clear A80
   by_cases c9 : t822 < 0
   ·rw [if_pos c9] at H
    have c9b0 : decide (t822 < 0) = true := decide_eq_true c9
    clear c9
    obtain rfl := Option.some.inj H
    go_enter Try.func8, Try.ntmps8
    go_wp2_with (first | ((with_reducible refine qaz (f := 11) rfl ?_); refine qbf (some 31) rfl rfl Try.func11 (by kernel_rfl) rfl #[.slice A3 l3.length c3, .int .i64 1048576] rfl (by (try simp only [List.map_toArray, List.map_cons, List.map_nil]); first | done | rfl | (simp only [List.length_drop, List.length_take]; rfl)) ?_; (with_reducible refine (qaY.calls k _ _ l3 1048576 t822 _ ?side1 ?side2 A8.out).mono ?_); (case side1 => repeat (first | exact HR3.out | (with_reducible refine Kd.qa7 ?_ _) | (with_reducible refine Kd.qa8 ?_ _) | (with_reducible refine Kd.qbm ?_))); (case side2 => exact HC3.out); rintro e w10 ⟨rfl, hb⟩; refine ⟨_, rfl, ?_⟩; have n0_ := Aside0.mk (qak (by repeat (first | (with_reducible first | exact HB.out | apply qac | apply qaa | apply qab) | exact HB.out)) hb); clear HB; have HB := n0_; clear n0_; (try clear hb); (try clear hb2); (try clear hk); (try clear hi)))
    go_ret
    exact ⟨by first | rfl | (simp [qam, qan] <;> rfl) | (simp [*, qam, qan] <;> rfl), by repeat (first | (with_reducible first | exact HB.out | apply qac | apply qaa | apply qab) | exact HB.out)⟩
   ·rw [if_neg c9] at H
    have c9b0 : decide (t822 < 0) = false := decide_eq_false c9
    clear c9
    replace H := Option.bind_eq_some_iff.mp H
    obtain ⟨t823, A110, H⟩ := H
    replace H : (if t823 < 0 then (some true) else ((qay.f k l3).bind fun t824 => ((qay.f k l4).bind fun t827 => ((qav.f k a0 a1 a2 t824 t827).bind fun bt830 => ((qay.f k l3).bind fun t839 => ((qay.f k l4).bind fun t842 => ((qat.f k a0 a1 a2 t839 t842).bind fun bt845 => ((qaO.f k bt845.1 bt845.2.1 bt845.2.2.1 bt845.2.2.2.1 bt845.2.2.2.2.1 bt830.1 bt830.2.1 bt830.2.2.1 bt830.2.2.2.1 bt830.2.2.2.2.1).bind fun t854 => (if t854 = true then (qae.j0 k a0 a1 a2 l3 l4 bt830.2.2.2.2.2 t839 t842 bt845.2.2.2.2.2 (bt845.2.2.2.2.2 != bt830.2.2.2.2.2) bt830.1 bt830.2.1 bt830.2.2.1 bt830.2.2.2.1 bt830.2.2.2.2.1 bt845.1 bt845.2.1 bt845.2.2.1 bt845.2.2.2.1 bt845.2.2.2.2.1) else (qae.j0 k a0 a1 a2 l3 l4 bt830.2.2.2.2.2 t839 t842 bt845.2.2.2.2.2 true bt830.1 bt830.2.1 bt830.2.2.1 bt830.2.2.2.1 bt830.2.2.2.2.1 bt845.1 bt845.2.1 bt845.2.2.1 bt845.2.2.2.1 bt845.2.2.2.2.1)))))))))) = some r := H
    have A11 := Aside0.mk A110
    clear A110
    by_cases c12 : t823 < 0
    ·rw [if_pos c12] at H
     have c12b0 : decide (t823 < 0) = true := decide_eq_true c12
     clear c12
     obtain rfl := Option.some.inj H
     go_enter Try.func8, Try.ntmps8
     go_wp2_with (first | ((with_reducible refine qaz (f := 11) rfl ?_); refine qbf (some 31) rfl rfl Try.func11 (by kernel_rfl) rfl #[.slice A3 l3.length c3, .int .i64 1048576] rfl (by (try simp only [List.map_toArray, List.map_cons, List.map_nil]); first | done | rfl | (simp only [List.length_drop, List.length_take]; rfl)) ?_; (with_reducible refine (qaY.calls k _ _ l3 1048576 t822 _ ?side1 ?side2 A8.out).mono ?_); (case side1 => repeat (first | exact HR3.out | (with_reducible refine Kd.qa7 ?_ _) | (with_reducible refine Kd.qa8 ?_ _) | (with_reducible refine Kd.qbm ?_))); (case side2 => exact HC3.out); rintro e w13 ⟨rfl, hb⟩; refine ⟨_, rfl, ?_⟩; have n0_ := Aside0.mk (qak (by repeat (first | (with_reducible first | exact HB.out | apply qac | apply qaa | apply qab) | exact HB.out)) hb); clear HB; have HB := n0_; clear n0_; (try clear hb); (try clear hb2); (try clear hk); (try clear hi)) | ((with_reducible refine qaz (f := 11) rfl ?_); refine qbf (some 36) rfl rfl Try.func11 (by kernel_rfl) rfl #[.slice A4 l4.length c4, .int .i64 t822] rfl (by (try simp only [List.map_toArray, List.map_cons, List.map_nil]); first | done | rfl | (simp only [List.length_drop, List.length_take]; rfl)) ?_; (with_reducible refine (qaY.calls k _ _ l4 t822 t823 _ ?side1 ?side2 A11.out).mono ?_); (case side1 => repeat (first | exact (Kd.qa2 HR4.out HB.out) | (with_reducible refine Kd.qa7 ?_ _) | (with_reducible refine Kd.qa8 ?_ _) | (with_reducible refine Kd.qbm ?_))); (case side2 => exact HC4.out); rintro e w14 ⟨rfl, hb⟩; refine ⟨_, rfl, ?_⟩; have n0_ := Aside0.mk (qak (by repeat (first | (with_reducible first | exact HB.out | apply qac | apply qaa | apply qab) | exact HB.out)) hb); clear HB; have HB := n0_; clear n0_; (try clear hb); (try clear hb2); (try clear hk); (try clear hi)))
     go_ret
     exact ⟨by first | rfl | (simp [qam, qan] <;> rfl) | (simp [*, qam, qan] <;> rfl), by repeat (first | (with_reducible first | exact HB.out | apply qac | apply qaa | apply qab) | exact HB.out)⟩
    ·rw [if_neg c12] at H
     have c12b0 : decide (t823 < 0) = false := decide_eq_false c12
     clear c12
     replace H := Option.bind_eq_some_iff.mp H
     obtain ⟨t824, A150, H⟩ := H
     replace H : ((qay.f k l4).bind fun t827 => ((qav.f k a0 a1 a2 t824 t827).bind fun bt830 => ((qay.f k l3).bind fun t839 => ((qay.f k l4).bind fun t842 => ((qat.f k a0 a1 a2 t839 t842).bind fun bt845 => ((qaO.f k bt845.1 bt845.2.1 bt845.2.2.1 bt845.2.2.2.1 bt845.2.2.2.2.1 bt830.1 bt830.2.1 bt830.2.2.1 bt830.2.2.2.1 bt830.2.2.2.2.1).bind fun t854 => (if t854 = true then (qae.j0 k a0 a1 a2 l3 l4 bt830.2.2.2.2.2 t839 t842 bt845.2.2.2.2.2 (bt845.2.2.2.2.2 != bt830.2.2.2.2.2) bt830.1 bt830.2.1 bt830.2.2.1 bt830.2.2.2.1 bt830.2.2.2.2.1 bt845.1 bt845.2.1 bt845.2.2.1 bt845.2.2.2.1 bt845.2.2.2.2.1) else (qae.j0 k a0 a1 a2 l3 l4 bt830.2.2.2.2.2 t839 t842 bt845.2.2.2.2.2 true bt830.1 bt830.2.1 bt830.2.2.1 bt830.2.2.2.1 bt830.2.2.2.2.1 bt845.1 bt845.2.1 bt845.2.2.1 bt845.2.2.2.1 bt845.2.2.2.2.1)))))))) = some r := H
     have A15 := Aside0.mk A150
     clear A150
     replace H := Option.bind_eq_some_iff.mp H
     obtain ⟨t827, A160, H⟩ := H
     replace H : ((qav.f k a0 a1 a2 t824 t827).bind fun bt830 => ((qay.f k l3).bind fun t839 => ((qay.f k l4).bind fun t842 => ((qat.f k a0 a1 a2 t839 t842).bind fun bt845 => ((qaO.f k bt845.1 bt845.2.1 bt845.2.2.1 bt845.2.2.2.1 bt845.2.2.2.2.1 bt830.1 bt830.2.1 bt830.2.2.1 bt830.2.2.2.1 bt830.2.2.2.2.1).bind fun t854 => (if t854 = true then (qae.j0 k a0 a1 a2 l3 l4 bt830.2.2.2.2.2 t839 t842 bt845.2.2.2.2.2 (bt845.2.2.2.2.2 != bt830.2.2.2.2.2) bt830.1 bt830.2.1 bt830.2.2.1 bt830.2.2.2.1 bt830.2.2.2.2.1 bt845.1 bt845.2.1 bt845.2.2.1 bt845.2.2.2.1 bt845.2.2.2.2.1) else (qae.j0 k a0 a1 a2 l3 l4 bt830.2.2.2.2.2 t839 t842 bt845.2.2.2.2.2 true bt830.1 bt830.2.1 bt830.2.2.1 bt830.2.2.2.1 bt830.2.2.2.2.1 bt845.1 bt845.2.1 bt845.2.2.1 bt845.2.2.2.1 bt845.2.2.2.2.1))))))) = some r := H
     have A16 := Aside0.mk A160
     clear A160
     replace H := Option.bind_eq_some_iff.mp H
     obtain ⟨⟨t830, t831, t832, t833, t836, t837⟩, A170, H⟩ := H
     replace H : ((qay.f k l3).bind fun t839 => ((qay.f k l4).bind fun t842 => ((qat.f k a0 a1 a2 t839 t842).bind fun bt845 => ((qaO.f k bt845.1 bt845.2.1 bt845.2.2.1 bt845.2.2.2.1 bt845.2.2.2.2.1 t830 t831 t832 t833 t836).bind fun t854 => (if t854 = true then (qae.j0 k a0 a1 a2 l3 l4 t837 t839 t842 bt845.2.2.2.2.2 (bt845.2.2.2.2.2 != t837) t830 t831 t832 t833 t836 bt845.1 bt845.2.1 bt845.2.2.1 bt845.2.2.2.1 bt845.2.2.2.2.1) else (qae.j0 k a0 a1 a2 l3 l4 t837 t839 t842 bt845.2.2.2.2.2 true t830 t831 t832 t833 t836 bt845.1 bt845.2.1 bt845.2.2.1 bt845.2.2.2.1 bt845.2.2.2.2.1)))))) = some r := H
     have A17 := Aside0.mk A170
     clear A170
     replace H := Option.bind_eq_some_iff.mp H
     obtain ⟨t839, A180, H⟩ := H
     replace H : ((qay.f k l4).bind fun t842 => ((qat.f k a0 a1 a2 t839 t842).bind fun bt845 => ((qaO.f k bt845.1 bt845.2.1 bt845.2.2.1 bt845.2.2.2.1 bt845.2.2.2.2.1 t830 t831 t832 t833 t836).bind fun t854 => (if t854 = true then (qae.j0 k a0 a1 a2 l3 l4 t837 t839 t842 bt845.2.2.2.2.2 (bt845.2.2.2.2.2 != t837) t830 t831 t832 t833 t836 bt845.1 bt845.2.1 bt845.2.2.1 bt845.2.2.2.1 bt845.2.2.2.2.1) else (qae.j0 k a0 a1 a2 l3 l4 t837 t839 t842 bt845.2.2.2.2.2 true t830 t831 t832 t833 t836 bt845.1 bt845.2.1 bt845.2.2.1 bt845.2.2.2.1 bt845.2.2.2.2.1))))) = some r := H
     have A18 := Aside0.mk A180
     clear A180
     replace H := Option.bind_eq_some_iff.mp H
     obtain ⟨t842, A190, H⟩ := H
     replace H : ((qat.f k a0 a1 a2 t839 t842).bind fun bt845 => ((qaO.f k bt845.1 bt845.2.1 bt845.2.2.1 bt845.2.2.2.1 bt845.2.2.2.2.1 t830 t831 t832 t833 t836).bind fun t854 => (if t854 = true then (qae.j0 k a0 a1 a2 l3 l4 t837 t839 t842 bt845.2.2.2.2.2 (bt845.2.2.2.2.2 != t837) t830 t831 t832 t833 t836 bt845.1 bt845.2.1 bt845.2.2.1 bt845.2.2.2.1 bt845.2.2.2.2.1) else (qae.j0 k a0 a1 a2 l3 l4 t837 t839 t842 bt845.2.2.2.2.2 true t830 t831 t832 t833 t836 bt845.1 bt845.2.1 bt845.2.2.1 bt845.2.2.2.1 bt845.2.2.2.2.1)))) = some r := H
     have A19 := Aside0.mk A190
     clear A190
     replace H := Option.bind_eq_some_iff.mp H
     obtain ⟨⟨t845, t846, t847, t848, t851, t852⟩, A200, H⟩ := H
     replace H : ((qaO.f k t845 t846 t847 t848 t851 t830 t831 t832 t833 t836).bind fun t854 => (if t854 = true then (qae.j0 k a0 a1 a2 l3 l4 t837 t839 t842 t852 (t852 != t837) t830 t831 t832 t833 t836 t845 t846 t847 t848 t851) else (qae.j0 k a0 a1 a2 l3 l4 t837 t839 t842 t852 true t830 t831 t832 t833 t836 t845 t846 t847 t848 t851))) = some r := H
     have A20 := Aside0.mk A200
     clear A200
     have HC21 := Aside0.mk H
     clear H
     go_enter Try.func8, Try.ntmps8
     go_upto_region 16 with (first | ((with_reducible refine qaz (f := 11) rfl ?_); refine qbf (some 31) rfl rfl Try.func11 (by kernel_rfl) rfl #[.slice A3 l3.length c3, .int .i64 1048576] rfl (by (try simp only [List.map_toArray, List.map_cons, List.map_nil]); first | done | rfl | (simp only [List.length_drop, List.length_take]; rfl)) ?_; (with_reducible refine (qaY.calls k _ _ l3 1048576 t822 _ ?side1 ?side2 A8.out).mono ?_); (case side1 => repeat (first | exact HR3.out | (with_reducible refine Kd.qa7 ?_ _) | (with_reducible refine Kd.qa8 ?_ _) | (with_reducible refine Kd.qbm ?_))); (case side2 => exact HC3.out); rintro e w22 ⟨rfl, hb⟩; refine ⟨_, rfl, ?_⟩; have n0_ := Aside0.mk (qak (by repeat (first | (with_reducible first | exact HB.out | apply qac | apply qaa | apply qab) | exact HB.out)) hb); clear HB; have HB := n0_; clear n0_; (try clear hb); (try clear hb2); (try clear hk); (try clear hi)) | ((with_reducible refine qaz (f := 11) rfl ?_); refine qbf (some 36) rfl rfl Try.func11 (by kernel_rfl) rfl #[.slice A4 l4.length c4, .int .i64 t822] rfl (by (try simp only [List.map_toArray, List.map_cons, List.map_nil]); first | done | rfl | (simp only [List.length_drop, List.length_take]; rfl)) ?_; (with_reducible refine (qaY.calls k _ _ l4 t822 t823 _ ?side1 ?side2 A11.out).mono ?_); (case side1 => repeat (first | exact (Kd.qa2 HR4.out HB.out) | (with_reducible refine Kd.qa7 ?_ _) | (with_reducible refine Kd.qa8 ?_ _) | (with_reducible refine Kd.qbm ?_))); (case side2 => exact HC4.out); rintro e w23 ⟨rfl, hb⟩; refine ⟨_, rfl, ?_⟩; have n0_ := Aside0.mk (qak (by repeat (first | (with_reducible first | exact HB.out | apply qac | apply qaa | apply qab) | exact HB.out)) hb); clear HB; have HB := n0_; clear n0_; (try clear hb); (try clear hb2); (try clear hk); (try clear hi)) | ((with_reducible refine qaz (f := 13) rfl ?_); refine qbf (some 44) rfl rfl Try.func13 (by kernel_rfl) rfl #[.slice A3 l3.length c3] rfl (by (try simp only [List.map_toArray, List.map_cons, List.map_nil]); first | done | rfl | (simp only [List.length_drop, List.length_take]; rfl)) ?_; (with_reducible refine (qay.calls k _ _ l3 t824 _ ?side1 ?side2 A15.out).mono ?_); (case side1 => repeat (first | exact (Kd.qa2 HR3.out HB.out) | (with_reducible refine Kd.qa7 ?_ _) | (with_reducible refine Kd.qa8 ?_ _) | (with_reducible refine Kd.qbm ?_))); (case side2 => exact HC3.out); rintro e w24 ⟨v825, rfl, ho0, hb⟩; refine ⟨_, rfl, ?_⟩; have n0_ := Aside0.mk (Kd.qbL ho0 (qau (by repeat (first | (with_reducible first | exact HB.out | apply qac | apply qaa | apply qab) | exact HB.out)))); have n1_ := Aside0.mk (qak (by repeat (first | (with_reducible first | exact HB.out | apply qac | apply qaa | apply qab) | exact HB.out)) hb); clear HB; have HO826 := n0_; have HB := n1_; clear n0_ n1_; (try clear hb); (try clear hb2); (try clear hk); (try clear hi); (try clear ho0)) | ((with_reducible refine qaz (f := 13) rfl ?_); refine qbf (some 46) rfl rfl Try.func13 (by kernel_rfl) rfl #[.slice A4 l4.length c4] rfl (by (try simp only [List.map_toArray, List.map_cons, List.map_nil]); first | done | rfl | (simp only [List.length_drop, List.length_take]; rfl)) ?_; (with_reducible refine (qay.calls k _ _ l4 t827 _ ?side1 ?side2 A16.out).mono ?_); (case side1 => repeat (first | exact (Kd.qa2 HR4.out HB.out) | (with_reducible refine Kd.qa7 ?_ _) | (with_reducible refine Kd.qa8 ?_ _) | (with_reducible refine Kd.qbm ?_))); (case side2 => exact HC4.out); rintro e w25 ⟨v828, rfl, ho0, hb⟩; refine ⟨_, rfl, ?_⟩; have n0_ := Aside0.mk (Kd.qbM (by (with_reducible repeat (first | apply Kd.qar | apply Kd.qas | apply Kd.qax)); exact HO826.out) (Kd.qb2 ho0) hb); have n1_ := Aside0.mk (Kd.qbL (Kd.qb4 ho0 (Kd.R_lt (by (with_reducible repeat (first | apply Kd.qar | apply Kd.qas | apply Kd.qax)); exact HO826.out))) (qau (by repeat (first | (with_reducible first | exact HB.out | apply qac | apply qaa | apply qab) | exact HB.out)))); have n2_ := Aside0.mk (qak (by repeat (first | (with_reducible first | exact HB.out | apply qac | apply qaa | apply qab) | exact HB.out)) hb); clear HO826; clear HB; have HO826 := n0_; have HO829 := n1_; have HB := n2_; clear n0_ n1_ n2_; (try clear hb); (try clear hb2); (try clear hk); (try clear hi); (try clear ho0); obtain ⟨Ao26, co26, eo26⟩ := Kd.qbN HO826.out; subst eo26; obtain ⟨Ao27, co27, eo27⟩ := Kd.qbN HO829.out; subst eo27) | ((with_reducible refine qaz (f := 38) rfl ?_); refine qbf (some 47) rfl rfl Try.func38 (by kernel_rfl) rfl #[.string a0, .string a1, .int .i64 a2, .slice Ao26 t824.length co26, .slice Ao27 t827.length co27] rfl (by (try simp only [List.map_toArray, List.map_cons, List.map_nil]); first | done | rfl | (simp only [List.length_drop, List.length_take]; rfl)) ?_; (with_reducible refine (qav.calls k a0 a1 a2 _ _ t824 _ _ t827 t830 t831 t832 t833 t836 t837 _ ?side1 ?side2 ?side3 ?side4 A17.out).mono ?_); (case side1 => repeat (first | exact (Kd.qaM HO826.out).2.2 | (with_reducible refine Kd.qa7 ?_ _) | (with_reducible refine Kd.qa8 ?_ _) | (with_reducible refine Kd.qbm ?_))); (case side2 => exact (Kd.qaM HO826.out).2.1); (case side3 => repeat (first | exact (Kd.qaM HO829.out).2.2 | (with_reducible refine Kd.qa7 ?_ _) | (with_reducible refine Kd.qa8 ?_ _) | (with_reducible refine Kd.qbm ?_))); (case side4 => exact (Kd.qaM HO829.out).2.1); rintro e w28 ⟨v834, rfl, ho0, hb⟩; refine ⟨_, rfl, ?_⟩; have n0_ := Aside0.mk (Kd.qaA (by (with_reducible repeat (first | apply Kd.qar | apply Kd.qas | apply Kd.qax)); exact HO826.out) hb); have n1_ := Aside0.mk (Kd.qaA (by (with_reducible repeat (first | apply Kd.qar | apply Kd.qas | apply Kd.qax)); exact HO829.out) hb); have n2_ := Aside0.mk (Kd.qbL ho0 (qau (by repeat (first | (with_reducible first | exact HB.out | apply qac | apply qaa | apply qab) | exact HB.out)))); have n3_ := Aside0.mk (qak (by repeat (first | (with_reducible first | exact HB.out | apply qac | apply qaa | apply qab) | exact HB.out)) hb); clear HO826; clear HO829; clear HB; have HO826 := n0_; have HO829 := n1_; have HO835 := n2_; have HB := n3_; clear n0_ n1_ n2_ n3_; (try clear hb); (try clear hb2); (try clear hk); (try clear hi); (try clear ho0)) | ((with_reducible refine qbc (N := 12) rfl ?_); refine qba ?hg (N := 12) ?hd (cs := #[.string (⟨#[]⟩ : ByteArray), .string (⟨#[]⟩ : ByteArray), .int .i64 0, .slice none 0 0, .int .i64 0]) (t := 48) ?hr ?_; (case hd => rfl); (case hg => rfl); (case hr => first | (go_simp; done) | (go_simp; rfl)); intro gb838 hg w29 hbox hb; have n0_ := Aside0.mk (Kd.qaA (by (with_reducible repeat (first | apply Kd.qar | apply Kd.qas | apply Kd.qax)); exact HO826.out) hb); have n1_ := Aside0.mk (Kd.qaA (by (with_reducible repeat (first | apply Kd.qar | apply Kd.qas | apply Kd.qax)); exact HO829.out) hb); have n2_ := Aside0.mk (Kd.qaA (by (with_reducible repeat (first | apply Kd.qar | apply Kd.qas | apply Kd.qax)); exact HO835.out) hb); have n3_ := Aside0.mk (qak (by repeat (first | (with_reducible first | exact HB.out | apply qac | apply qaa | apply qab) | exact HB.out)) hb); have n4_ := Aside0.mk (hbox); have n5_ := Aside0.mk ((by rw [hg]; exact (qau (by repeat (first | (with_reducible first | exact HB.out | apply qac | apply qaa | apply qab) | exact HB.out))) : w.heap.size ≤ gb838)); have n6_ := Aside0.mk ((by rw [hg]; exact (qau (by repeat (first | (with_reducible first | exact HB.out | apply qac | apply qaa | apply qab) | exact HB.out))) : w.heap.size ≤ gb838)); clear HO826; clear HO829; clear HO835; clear HB; have HO826 := n0_; have HO829 := n1_; have HO835 := n2_; have HB := n3_; have BK838 := n4_; have GW838 := n5_; have GE838 := n6_; clear n0_ n1_ n2_ n3_ n4_ n5_ n6_; clear hb hbox hg; have hcz30_0 : w29.cell? ⟨gb838, 0, none⟩ = some (.string (⟨#[]⟩ : ByteArray)) := (qah BK838.out 0).trans rfl; have hcz30_1 : w29.cell? ⟨gb838, 1, none⟩ = some (.string (⟨#[]⟩ : ByteArray)) := (qah BK838.out 1).trans rfl; have hcz30_2 : w29.cell? ⟨gb838, 2, none⟩ = some (.int .i64 0) := (qah BK838.out 2).trans rfl; have hcz30_3 : w29.cell? ⟨gb838, 3, none⟩ = some (.slice none 0 0) := (qah BK838.out 3).trans rfl; have hcz30_4 : w29.cell? ⟨gb838, 4, none⟩ = some (.int .i64 0) := (qah BK838.out 4).trans rfl; have hfz30_0 := qad BK838.out 0; have hfz30_1 := qad BK838.out 1; have hfz30_2 := qad BK838.out 2; have hfz30_3 := qad BK838.out 3; have hfz30_4 := qad BK838.out 4; obtain ⟨Ao31, co31, eo31⟩ := Kd.qbN HO835.out; subst eo31) | ((with_reducible refine qaz (f := 13) rfl ?_); refine qbf (some 51) rfl rfl Try.func13 (by kernel_rfl) rfl #[.slice A3 l3.length c3] rfl (by (try simp only [List.map_toArray, List.map_cons, List.map_nil]); first | done | rfl | (simp only [List.length_drop, List.length_take]; rfl)) ?_; (with_reducible refine (qay.calls k _ _ l3 t839 _ ?side1 ?side2 A18.out).mono ?_); (case side1 => exact Kd.qa2 HR3.out (by repeat (first | (with_reducible first | exact HB.out | apply qac | apply qaa | apply qab | refine qai ?_ GE838.out) | exact HB.out))); (case side2 => exact HC3.out); rintro e w32 ⟨v840, rfl, ho0, hb⟩; refine ⟨_, rfl, ?_⟩; have n0_ := Aside0.mk (Kd.qbM (by (with_reducible repeat (first | apply Kd.qar | apply Kd.qas | apply Kd.qax)); exact (Kd.qbn (Kd.qa0 (p := ⟨gb838, 4, none⟩) (Kd.qa0 (p := ⟨gb838, 3, none⟩) (Kd.qa0 (p := ⟨gb838, 2, none⟩) (Kd.qa0 (p := ⟨gb838, 1, none⟩) (Kd.qa0 (p := ⟨gb838, 0, none⟩) (Kd.qbw HO826.out BK838.out (by decide)) (fun _ hk => hk.2) (.string t830)) (fun _ hk => hk.2) (.string t831)) (fun _ hk => hk.2) (.int .i64 t832)) (fun _ hk => hk.2) (.slice Ao31 t833.length co31)) (fun _ hk => hk.2) (.int .i64 t836)) (fun _ h_ => h_.1))) (Kd.qb2 ho0) hb); have n1_ := Aside0.mk (Kd.qbM (by (with_reducible repeat (first | apply Kd.qar | apply Kd.qas | apply Kd.qax)); exact (Kd.qbn (Kd.qa0 (p := ⟨gb838, 4, none⟩) (Kd.qa0 (p := ⟨gb838, 3, none⟩) (Kd.qa0 (p := ⟨gb838, 2, none⟩) (Kd.qa0 (p := ⟨gb838, 1, none⟩) (Kd.qa0 (p := ⟨gb838, 0, none⟩) (Kd.qbw HO829.out BK838.out (by decide)) (fun _ hk => hk.2) (.string t830)) (fun _ hk => hk.2) (.string t831)) (fun _ hk => hk.2) (.int .i64 t832)) (fun _ hk => hk.2) (.slice Ao31 t833.length co31)) (fun _ hk => hk.2) (.int .i64 t836)) (fun _ h_ => h_.1))) (Kd.qb2 ho0) hb); have n2_ := Aside0.mk (Kd.qaA (by (with_reducible repeat (first | apply Kd.qar | apply Kd.qas | apply Kd.qax)); exact (Kd.qbn (Kd.qa0 (p := ⟨gb838, 4, none⟩) (Kd.qa0 (p := ⟨gb838, 3, none⟩) (Kd.qa0 (p := ⟨gb838, 2, none⟩) (Kd.qa0 (p := ⟨gb838, 1, none⟩) (Kd.qa0 (p := ⟨gb838, 0, none⟩) (Kd.qbw HO835.out BK838.out (by decide)) (fun _ hk => hk.2) (.string t830)) (fun _ hk => hk.2) (.string t831)) (fun _ hk => hk.2) (.int .i64 t832)) (fun _ hk => hk.2) (.slice Ao31 t833.length co31)) (fun _ hk => hk.2) (.int .i64 t836)) (fun _ h_ => h_.1))) hb); have n3_ := Aside0.mk (Kd.qbL (Kd.qb4 (Kd.qb4 ho0 (Kd.R_lt (by (with_reducible repeat (first | apply Kd.qar | apply Kd.qas | apply Kd.qax)); exact (Kd.qbn (Kd.qa0 (p := ⟨gb838, 4, none⟩) (Kd.qa0 (p := ⟨gb838, 3, none⟩) (Kd.qa0 (p := ⟨gb838, 2, none⟩) (Kd.qa0 (p := ⟨gb838, 1, none⟩) (Kd.qa0 (p := ⟨gb838, 0, none⟩) (Kd.qbw HO826.out BK838.out (by decide)) (fun _ hk => hk.2) (.string t830)) (fun _ hk => hk.2) (.string t831)) (fun _ hk => hk.2) (.int .i64 t832)) (fun _ hk => hk.2) (.slice Ao31 t833.length co31)) (fun _ hk => hk.2) (.int .i64 t836)) (fun _ h_ => h_.1))))) (Kd.R_lt (by (with_reducible repeat (first | apply Kd.qar | apply Kd.qas | apply Kd.qax)); exact (Kd.qbn (Kd.qa0 (p := ⟨gb838, 4, none⟩) (Kd.qa0 (p := ⟨gb838, 3, none⟩) (Kd.qa0 (p := ⟨gb838, 2, none⟩) (Kd.qa0 (p := ⟨gb838, 1, none⟩) (Kd.qa0 (p := ⟨gb838, 0, none⟩) (Kd.qbw HO829.out BK838.out (by decide)) (fun _ hk => hk.2) (.string t830)) (fun _ hk => hk.2) (.string t831)) (fun _ hk => hk.2) (.int .i64 t832)) (fun _ hk => hk.2) (.slice Ao31 t833.length co31)) (fun _ hk => hk.2) (.int .i64 t836)) (fun _ h_ => h_.1))))) (qau (by repeat (first | (with_reducible first | exact HB.out | apply qac | apply qaa | apply qab | refine qai ?_ GE838.out) | exact HB.out)))); have n4_ := Aside0.mk (qaB (g := gb838) (o := .cells #[.string t830, .string t831, .int .i64 t832, .slice Ao31 t833.length co31, .int .i64 t836] 48 (0, 0)) (by (with_reducible repeat (first | refine qag ?_ _ | refine qaj ?_ | refine qaf ?_ _)); refine qaI (cs := #[.string t830, .string t831, .int .i64 t832, .slice Ao31 t833.length co31, .int .i64 0]) ?_ 4 _ rfl; (with_reducible repeat (first | refine qag ?_ _ | refine qaj ?_ | refine qaf ?_ _)); refine qaI (cs := #[.string t830, .string t831, .int .i64 t832, .slice none 0 0, .int .i64 0]) ?_ 3 _ rfl; (with_reducible repeat (first | refine qag ?_ _ | refine qaj ?_ | refine qaf ?_ _)); refine qaI (cs := #[.string t830, .string t831, .int .i64 0, .slice none 0 0, .int .i64 0]) ?_ 2 _ rfl; (with_reducible repeat (first | refine qag ?_ _ | refine qaj ?_ | refine qaf ?_ _)); refine qaI (cs := #[.string t830, .string (⟨#[]⟩ : ByteArray), .int .i64 0, .slice none 0 0, .int .i64 0]) ?_ 1 _ rfl; (with_reducible repeat (first | refine qag ?_ _ | refine qaj ?_ | refine qaf ?_ _)); refine qaI (cs := #[.string (⟨#[]⟩ : ByteArray), .string (⟨#[]⟩ : ByteArray), .int .i64 0, .slice none 0 0, .int .i64 0]) ?_ 0 _ rfl; (with_reducible repeat (first | refine qag ?_ _ | refine qaj ?_ | refine qaf ?_ _)); exact BK838.out) hb); have n5_ := Aside0.mk (qak (by repeat (first | (with_reducible first | exact HB.out | apply qac | apply qaa | apply qab | refine qai ?_ GE838.out) | exact HB.out)) hb); clear HO826; clear HO829; clear HO835; clear BK838; clear HB; have HO826 := n0_; have HO829 := n1_; have HO835 := n2_; have HO841 := n3_; have BK838 := n4_; have HB := n5_; clear n0_ n1_ n2_ n3_ n4_ n5_; (try clear hb); (try clear hb2); (try clear hk); (try clear hi); (try clear ho0)) | ((with_reducible refine qaz (f := 13) rfl ?_); refine qbf (some 53) rfl rfl Try.func13 (by kernel_rfl) rfl #[.slice A4 l4.length c4] rfl (by (try simp only [List.map_toArray, List.map_cons, List.map_nil]); first | done | rfl | (simp only [List.length_drop, List.length_take]; rfl)) ?_; (with_reducible refine (qay.calls k _ _ l4 t842 _ ?side1 ?side2 A19.out).mono ?_); (case side1 => repeat (first | exact (Kd.qa2 HR4.out HB.out) | (with_reducible refine Kd.qa7 ?_ _) | (with_reducible refine Kd.qa8 ?_ _) | (with_reducible refine Kd.qbm ?_))); (case side2 => exact HC4.out); rintro e w33 ⟨v843, rfl, ho0, hb⟩; refine ⟨_, rfl, ?_⟩; have n0_ := Aside0.mk (Kd.qbM (by (with_reducible repeat (first | apply Kd.qar | apply Kd.qas | apply Kd.qax)); exact HO826.out) (Kd.qb2 ho0) hb); have n1_ := Aside0.mk (Kd.qbM (by (with_reducible repeat (first | apply Kd.qar | apply Kd.qas | apply Kd.qax)); exact HO829.out) (Kd.qb2 ho0) hb); have n2_ := Aside0.mk (Kd.qaA (by (with_reducible repeat (first | apply Kd.qar | apply Kd.qas | apply Kd.qax)); exact HO835.out) hb); have n3_ := Aside0.mk (Kd.qbM (by (with_reducible repeat (first | apply Kd.qar | apply Kd.qas | apply Kd.qax)); exact HO841.out) (Kd.qb2 ho0) hb); have n4_ := Aside0.mk (Kd.qbL (Kd.qb4 (Kd.qb4 (Kd.qb4 ho0 (Kd.R_lt (by (with_reducible repeat (first | apply Kd.qar | apply Kd.qas | apply Kd.qax)); exact HO826.out))) (Kd.R_lt (by (with_reducible repeat (first | apply Kd.qar | apply Kd.qas | apply Kd.qax)); exact HO829.out))) (Kd.R_lt (by (with_reducible repeat (first | apply Kd.qar | apply Kd.qas | apply Kd.qax)); exact HO841.out))) (qau (by repeat (first | (with_reducible first | exact HB.out | apply qac | apply qaa | apply qab | refine qai ?_ GE838.out) | exact HB.out)))); have n5_ := Aside0.mk (qaB (g := gb838) (o := .cells #[.string t830, .string t831, .int .i64 t832, .slice Ao31 t833.length co31, .int .i64 t836] 48 (0, 0)) (by (with_reducible repeat (first | refine qag ?_ _ | refine qaj ?_ | refine qaf ?_ _)); exact BK838.out) hb); have n6_ := Aside0.mk (qak (by repeat (first | (with_reducible first | exact HB.out | apply qac | apply qaa | apply qab | refine qai ?_ GE838.out) | exact HB.out)) hb); clear HO826; clear HO829; clear HO835; clear HO841; clear BK838; clear HB; have HO826 := n0_; have HO829 := n1_; have HO835 := n2_; have HO841 := n3_; have HO844 := n4_; have BK838 := n5_; have HB := n6_; clear n0_ n1_ n2_ n3_ n4_ n5_ n6_; (try clear hb); (try clear hb2); (try clear hk); (try clear hi); (try clear ho0); obtain ⟨Ao34, co34, eo34⟩ := Kd.qbN HO841.out; subst eo34; obtain ⟨Ao35, co35, eo35⟩ := Kd.qbN HO844.out; subst eo35) | ((with_reducible refine qaz (f := 39) rfl ?_); refine qbf (some 60) rfl rfl Try.func39 (by kernel_rfl) rfl #[.string a0, .string a1, .int .i64 a2, .slice Ao34 t839.length co34, .slice Ao35 t842.length co35] rfl (by (try simp only [List.map_toArray, List.map_cons, List.map_nil]); first | done | rfl | (simp only [List.length_drop, List.length_take]; rfl)) ?_; (with_reducible refine (qat.calls k a0 a1 a2 _ _ t839 _ _ t842 t845 t846 t847 t848 t851 t852 _ ?side1 ?side2 ?side3 ?side4 A20.out).mono ?_); (case side1 => repeat (first | exact (Kd.qaM HO841.out).2.2 | (with_reducible refine Kd.qa7 ?_ _) | (with_reducible refine Kd.qa8 ?_ _) | (with_reducible refine Kd.qbm ?_))); (case side2 => exact (Kd.qaM HO841.out).2.1); (case side3 => repeat (first | exact (Kd.qaM HO844.out).2.2 | (with_reducible refine Kd.qa7 ?_ _) | (with_reducible refine Kd.qa8 ?_ _) | (with_reducible refine Kd.qbm ?_))); (case side4 => exact (Kd.qaM HO844.out).2.1); rintro e w36 ⟨v849, rfl, ho0, hb⟩; refine ⟨_, rfl, ?_⟩; have n0_ := Aside0.mk (Kd.qaA (by (with_reducible repeat (first | apply Kd.qar | apply Kd.qas | apply Kd.qax)); exact HO826.out) hb); have n1_ := Aside0.mk (Kd.qaA (by (with_reducible repeat (first | apply Kd.qar | apply Kd.qas | apply Kd.qax)); exact HO829.out) hb); have n2_ := Aside0.mk (Kd.qbM (by (with_reducible repeat (first | apply Kd.qar | apply Kd.qas | apply Kd.qax)); exact HO835.out) (Kd.qb2 ho0) hb); have n3_ := Aside0.mk (Kd.qaA (by (with_reducible repeat (first | apply Kd.qar | apply Kd.qas | apply Kd.qax)); exact HO841.out) hb); have n4_ := Aside0.mk (Kd.qaA (by (with_reducible repeat (first | apply Kd.qar | apply Kd.qas | apply Kd.qax)); exact HO844.out) hb); have n5_ := Aside0.mk (Kd.qbL (Kd.qb4 ho0 (Kd.R_lt (by (with_reducible repeat (first | apply Kd.qar | apply Kd.qas | apply Kd.qax)); exact HO835.out))) (qau (by repeat (first | (with_reducible first | exact HB.out | apply qac | apply qaa | apply qab | refine qai ?_ GE838.out) | exact HB.out)))); have n6_ := Aside0.mk (qaB (g := gb838) (o := .cells #[.string t830, .string t831, .int .i64 t832, .slice Ao31 t833.length co31, .int .i64 t836] 48 (0, 0)) (by (with_reducible repeat (first | refine qag ?_ _ | refine qaj ?_ | refine qaf ?_ _)); exact BK838.out) hb); have n7_ := Aside0.mk (qak (by repeat (first | (with_reducible first | exact HB.out | apply qac | apply qaa | apply qab | refine qai ?_ GE838.out) | exact HB.out)) hb); clear HO826; clear HO829; clear HO835; clear HO841; clear HO844; clear BK838; clear HB; have HO826 := n0_; have HO829 := n1_; have HO835 := n2_; have HO841 := n3_; have HO844 := n4_; have HO850 := n5_; have BK838 := n6_; have HB := n7_; clear n0_ n1_ n2_ n3_ n4_ n5_ n6_ n7_; (try clear hb); (try clear hb2); (try clear hk); (try clear hi); (try clear ho0)) | ((with_reducible refine qbc (N := 16) rfl ?_); refine qba ?hg (N := 16) ?hd (cs := #[.string (⟨#[]⟩ : ByteArray), .string (⟨#[]⟩ : ByteArray), .int .i64 0, .slice none 0 0, .int .i64 0]) (t := 48) ?hr ?_; (case hd => rfl); (case hg => rfl); (case hr => first | (go_simp; done) | (go_simp; rfl)); intro gb853 hg w37 hbox hb; have n0_ := Aside0.mk (Kd.qaA (by (with_reducible repeat (first | apply Kd.qar | apply Kd.qas | apply Kd.qax)); exact HO826.out) hb); have n1_ := Aside0.mk (Kd.qaA (by (with_reducible repeat (first | apply Kd.qar | apply Kd.qas | apply Kd.qax)); exact HO829.out) hb); have n2_ := Aside0.mk (Kd.qaA (by (with_reducible repeat (first | apply Kd.qar | apply Kd.qas | apply Kd.qax)); exact HO835.out) hb); have n3_ := Aside0.mk (Kd.qaA (by (with_reducible repeat (first | apply Kd.qar | apply Kd.qas | apply Kd.qax)); exact HO841.out) hb); have n4_ := Aside0.mk (Kd.qaA (by (with_reducible repeat (first | apply Kd.qar | apply Kd.qas | apply Kd.qax)); exact HO844.out) hb); have n5_ := Aside0.mk (Kd.qaA (by (with_reducible repeat (first | apply Kd.qar | apply Kd.qas | apply Kd.qax)); exact HO850.out) hb); have n6_ := Aside0.mk (qaB (g := gb838) (o := .cells #[.string t830, .string t831, .int .i64 t832, .slice Ao31 t833.length co31, .int .i64 t836] 48 (0, 0)) (by (with_reducible repeat (first | refine qag ?_ _ | refine qaj ?_ | refine qaf ?_ _)); exact BK838.out) hb); have n7_ := Aside0.mk (qak (by repeat (first | (with_reducible first | exact HB.out | apply qac | apply qaa | apply qab | refine qai ?_ GE838.out) | exact HB.out)) hb); have n8_ := Aside0.mk (hbox); have n9_ := Aside0.mk ((by rw [hg]; exact (qau (by repeat (first | (with_reducible first | exact HB.out | apply qac | apply qaa | apply qab | refine qai ?_ GE838.out) | exact HB.out))) : w.heap.size ≤ gb853)); have n10_ := Aside0.mk ((by rw [hg]; exact (qau (by repeat (first | (with_reducible first | exact HB.out | apply qac | apply qaa | apply qab | refine qai ?_ GE838.out) | exact HB.out))) : w.heap.size ≤ gb853)); have n11_ := Aside0.mk ((by rw [hg]; exact Nat.ne_of_lt (qbj (g := gb838) (o := .cells #[.string t830, .string t831, .int .i64 t832, .slice Ao31 t833.length co31, .int .i64 t836] 48 (0, 0)) (by (with_reducible repeat (first | refine qag ?_ _ | refine qaj ?_ | refine qaf ?_ _)); exact BK838.out)) : gb838 ≠ gb853)); have n12_ := Aside0.mk ((by rw [hg]; exact Nat.ne_of_gt (qbj (g := gb838) (o := .cells #[.string t830, .string t831, .int .i64 t832, .slice Ao31 t833.length co31, .int .i64 t836] 48 (0, 0)) (by (with_reducible repeat (first | refine qag ?_ _ | refine qaj ?_ | refine qaf ?_ _)); exact BK838.out)) : gb853 ≠ gb838)); clear HO826; clear HO829; clear HO835; clear HO841; clear HO844; clear HO850; clear BK838; clear HB; have HO826 := n0_; have HO829 := n1_; have HO835 := n2_; have HO841 := n3_; have HO844 := n4_; have HO850 := n5_; have BK838 := n6_; have HB := n7_; have BK853 := n8_; have GW853 := n9_; have GE853 := n10_; have NB838_853 := n11_; have NB853_838 := n12_; clear n0_ n1_ n2_ n3_ n4_ n5_ n6_ n7_ n8_ n9_ n10_ n11_ n12_; clear hb hbox hg; have hnb38 := NB853_838.out; have hnc38 := NB838_853.out; have hcz39_0 : w37.cell? ⟨gb853, 0, none⟩ = some (.string (⟨#[]⟩ : ByteArray)) := (qah BK853.out 0).trans rfl; have hcz39_1 : w37.cell? ⟨gb853, 1, none⟩ = some (.string (⟨#[]⟩ : ByteArray)) := (qah BK853.out 1).trans rfl; have hcz39_2 : w37.cell? ⟨gb853, 2, none⟩ = some (.int .i64 0) := (qah BK853.out 2).trans rfl; have hcz39_3 : w37.cell? ⟨gb853, 3, none⟩ = some (.slice none 0 0) := (qah BK853.out 3).trans rfl; have hcz39_4 : w37.cell? ⟨gb853, 4, none⟩ = some (.int .i64 0) := (qah BK853.out 4).trans rfl; have hfz39_0 := qad BK853.out 0; have hfz39_1 := qad BK853.out 1; have hfz39_2 := qad BK853.out 2; have hfz39_3 := qad BK853.out 3; have hfz39_4 := qad BK853.out 4; obtain ⟨Ao40, co40, eo40⟩ := Kd.qbN HO850.out; subst eo40))
     (try simp only [Act.put, List.setIfInBounds_toArray, List.set_cons_zero, List.set_cons_succ])
     go_cut [71] (fun v71 wc => ∃ (kq : Nat) (x71_20 : Bool), v71 = .bool x71_20 ∧ Aside0 (qae.j0 kq a0 a1 a2 l3 l4 t837 t839 t842 t852 x71_20 t830 t831 t832 t833 t836 t845 t846 t847 t848 t851 = some r) ∧ Aside0 (kq ≤ k) ∧ Aside0 (Kd.R k76 76 wc w.heap.size (fun k_ => some k_ ≠ ((.slice Ao35 t842.length co35) : Value).ownBlock) (.slice Ao34 t839.length co34) t839) ∧ Aside0 (Kd.R k76 76 wc w.heap.size (fun k_ => some k_ ≠ ((.slice Ao34 t839.length co34) : Value).ownBlock) (.slice Ao35 t842.length co35) t842) ∧ Aside0 (Kd.R k82 82 wc w.heap.size (fun k_ => some k_ ≠ ((.slice Ao40 t848.length co40) : Value).ownBlock) (.slice Ao31 t833.length co31) t833) ∧ Aside0 (Kd.R k82 82 wc w.heap.size (fun k_ => some k_ ≠ ((.slice Ao31 t833.length co31) : Value).ownBlock) (.slice Ao40 t848.length co40) t848) ∧ Aside0 (wc.heap[gb838]? = some (.cells #[.string t830, .string t831, .int .i64 t832, (.slice Ao31 t833.length co31), .int .i64 t836] 48 (0, 0))) ∧ Aside0 (wc.heap[gb853]? = some (.cells #[.string t845, .string t846, .int .i64 t847, (.slice Ao40 t848.length co40), .int .i64 t851] 48 (0, 0))) ∧ Aside0 (Below w.heap.size w wc))
     case first =>
      have H := HC21.out
      clear HC21
      replace H := Option.bind_eq_some_iff.mp H
      obtain ⟨t854, A410, H⟩ := H
      replace H : (if t854 = true then (qae.j0 k a0 a1 a2 l3 l4 t837 t839 t842 t852 (t852 != t837) t830 t831 t832 t833 t836 t845 t846 t847 t848 t851) else (qae.j0 k a0 a1 a2 l3 l4 t837 t839 t842 t852 true t830 t831 t832 t833 t836 t845 t846 t847 t848 t851)) = some r := H
      have A41 := Aside0.mk A410
      clear A410
      by_cases c42 : t854 = true
      ·subst c42
       have H1 : (qae.j0 k a0 a1 a2 l3 l4 t837 t839 t842 t852 (t852 != t837) t830 t831 t832 t833 t836 t845 t846 t847 t848 t851) = some r := by rw [if_pos rfl] at H; exact H
       clear H
       have H := H1
       clear H1
       have H' := Aside0.mk H
       clear H
       have hnb43 := NB853_838.out
       have hnc43 := NB838_853.out
       have hcz44_0 : w37.cell? ⟨gb853, 0, none⟩ = some (.string (⟨#[]⟩ : ByteArray)) := (qah BK853.out 0).trans rfl
       have hcz44_1 : w37.cell? ⟨gb853, 1, none⟩ = some (.string (⟨#[]⟩ : ByteArray)) := (qah BK853.out 1).trans rfl
       have hcz44_2 : w37.cell? ⟨gb853, 2, none⟩ = some (.int .i64 0) := (qah BK853.out 2).trans rfl
       have hcz44_3 : w37.cell? ⟨gb853, 3, none⟩ = some (.slice none 0 0) := (qah BK853.out 3).trans rfl
       have hcz44_4 : w37.cell? ⟨gb853, 4, none⟩ = some (.int .i64 0) := (qah BK853.out 4).trans rfl
       have hfz44_0 := qad BK853.out 0
       have hfz44_1 := qad BK853.out 1
       have hfz44_2 := qad BK853.out 2
       have hfz44_3 := qad BK853.out 3
       have hfz44_4 := qad BK853.out 4
       have hcz45_0 : w37.cell? ⟨gb838, 0, none⟩ = some (.string t830) := (qah BK838.out 0).trans rfl
       have hcz45_1 : w37.cell? ⟨gb838, 1, none⟩ = some (.string t831) := (qah BK838.out 1).trans rfl
       have hcz45_2 : w37.cell? ⟨gb838, 2, none⟩ = some (.int .i64 t832) := (qah BK838.out 2).trans rfl
       have hcz45_3 : w37.cell? ⟨gb838, 3, none⟩ = some (.slice Ao31 t833.length co31) := (qah BK838.out 3).trans rfl
       have hcz45_4 : w37.cell? ⟨gb838, 4, none⟩ = some (.int .i64 t836) := (qah BK838.out 4).trans rfl
       have hfz45_0 := qad BK838.out 0
       have hfz45_1 := qad BK838.out 1
       have hfz45_2 := qad BK838.out 2
       have hfz45_3 := qad BK838.out 3
       have hfz45_4 := qad BK838.out 4
       go_wp2_with (first | ((with_reducible refine qaz (f := 31) rfl ?_); refine qbf (some 65) rfl rfl Try.func31 (by kernel_rfl) rfl #[.agg #[.string t845, .string t846, .int .i64 t847, .slice Ao40 t848.length co40, .int .i64 t851], .agg #[.string t830, .string t831, .int .i64 t832, .slice Ao31 t833.length co31, .int .i64 t836]] rfl (by (try simp only [List.map_toArray, List.map_cons, List.map_nil]); first | done | rfl | (simp only [List.length_drop, List.length_take]; rfl)) ?_; (with_reducible refine (qaO.calls k t845 t846 t847 _ _ t848 t851 t830 t831 t832 _ _ t833 t836 true _ ?side1 ?side2 ?side3 ?side4 A41.out).mono ?_); (case side1 => refine (Kd.qaM (e := 82) (base := w.heap.size) (ok := fun k_ => (True ∧ some k_ ≠ (.slice Ao31 t833.length co31 : Value).ownBlock)) (n := t848.length) (c := co40) ?_).2.2; exact (by (with_reducible repeat (first | apply Kd.qar | apply Kd.qas | apply Kd.qax)); exact (Kd.qbn (Kd.qa0 (p := ⟨gb853, 4, none⟩) (Kd.qa0 (p := ⟨gb853, 3, none⟩) (Kd.qa0 (p := ⟨gb853, 2, none⟩) (Kd.qa0 (p := ⟨gb853, 1, none⟩) (Kd.qa0 (p := ⟨gb853, 0, none⟩) (Kd.qbw HO850.out BK853.out (by decide)) (fun _ hk => hk.2) (.string t845)) (fun _ hk => hk.2) (.string t846)) (fun _ hk => hk.2) (.int .i64 t847)) (fun _ hk => hk.2) (.slice Ao40 t848.length co40)) (fun _ hk => hk.2) (.int .i64 t851)) (fun _ h_ => h_.1)))); (case side2 => exact (Kd.qaM HO850.out).2.1); (case side3 => refine (Kd.qaM (e := 82) (base := w.heap.size) (ok := fun k_ => (True ∧ some k_ ≠ (.slice Ao40 t848.length co40 : Value).ownBlock)) (n := t833.length) (c := co31) ?_).2.2; exact (by (with_reducible repeat (first | apply Kd.qar | apply Kd.qas | apply Kd.qax)); exact (Kd.qbn (Kd.qa0 (p := ⟨gb853, 4, none⟩) (Kd.qa0 (p := ⟨gb853, 3, none⟩) (Kd.qa0 (p := ⟨gb853, 2, none⟩) (Kd.qa0 (p := ⟨gb853, 1, none⟩) (Kd.qa0 (p := ⟨gb853, 0, none⟩) (Kd.qbw HO835.out BK853.out (by decide)) (fun _ hk => hk.2) (.string t845)) (fun _ hk => hk.2) (.string t846)) (fun _ hk => hk.2) (.int .i64 t847)) (fun _ hk => hk.2) (.slice Ao40 t848.length co40)) (fun _ hk => hk.2) (.int .i64 t851)) (fun _ h_ => h_.1)))); (case side4 => exact (Kd.qaM HO835.out).2.1); rintro e w46 ⟨rfl, hb⟩; refine ⟨_, rfl, ?_⟩; have n0_ := Aside0.mk (Kd.qaA (by (with_reducible repeat (first | apply Kd.qar | apply Kd.qas | apply Kd.qax)); exact (Kd.qbn (Kd.qa0 (p := ⟨gb853, 4, none⟩) (Kd.qa0 (p := ⟨gb853, 3, none⟩) (Kd.qa0 (p := ⟨gb853, 2, none⟩) (Kd.qa0 (p := ⟨gb853, 1, none⟩) (Kd.qa0 (p := ⟨gb853, 0, none⟩) (Kd.qbw HO826.out BK853.out (by decide)) (fun _ hk => hk.2) (.string t845)) (fun _ hk => hk.2) (.string t846)) (fun _ hk => hk.2) (.int .i64 t847)) (fun _ hk => hk.2) (.slice Ao40 t848.length co40)) (fun _ hk => hk.2) (.int .i64 t851)) (fun _ h_ => h_.1))) hb); have n1_ := Aside0.mk (Kd.qaA (by (with_reducible repeat (first | apply Kd.qar | apply Kd.qas | apply Kd.qax)); exact (Kd.qbn (Kd.qa0 (p := ⟨gb853, 4, none⟩) (Kd.qa0 (p := ⟨gb853, 3, none⟩) (Kd.qa0 (p := ⟨gb853, 2, none⟩) (Kd.qa0 (p := ⟨gb853, 1, none⟩) (Kd.qa0 (p := ⟨gb853, 0, none⟩) (Kd.qbw HO829.out BK853.out (by decide)) (fun _ hk => hk.2) (.string t845)) (fun _ hk => hk.2) (.string t846)) (fun _ hk => hk.2) (.int .i64 t847)) (fun _ hk => hk.2) (.slice Ao40 t848.length co40)) (fun _ hk => hk.2) (.int .i64 t851)) (fun _ h_ => h_.1))) hb); have n2_ := Aside0.mk (Kd.qaA (by (with_reducible repeat (first | apply Kd.qar | apply Kd.qas | apply Kd.qax)); exact (Kd.qbn (Kd.qa0 (p := ⟨gb853, 4, none⟩) (Kd.qa0 (p := ⟨gb853, 3, none⟩) (Kd.qa0 (p := ⟨gb853, 2, none⟩) (Kd.qa0 (p := ⟨gb853, 1, none⟩) (Kd.qa0 (p := ⟨gb853, 0, none⟩) (Kd.qbw HO835.out BK853.out (by decide)) (fun _ hk => hk.2) (.string t845)) (fun _ hk => hk.2) (.string t846)) (fun _ hk => hk.2) (.int .i64 t847)) (fun _ hk => hk.2) (.slice Ao40 t848.length co40)) (fun _ hk => hk.2) (.int .i64 t851)) (fun _ h_ => h_.1))) hb); have n3_ := Aside0.mk (Kd.qaA (by (with_reducible repeat (first | apply Kd.qar | apply Kd.qas | apply Kd.qax)); exact (Kd.qbn (Kd.qa0 (p := ⟨gb853, 4, none⟩) (Kd.qa0 (p := ⟨gb853, 3, none⟩) (Kd.qa0 (p := ⟨gb853, 2, none⟩) (Kd.qa0 (p := ⟨gb853, 1, none⟩) (Kd.qa0 (p := ⟨gb853, 0, none⟩) (Kd.qbw HO841.out BK853.out (by decide)) (fun _ hk => hk.2) (.string t845)) (fun _ hk => hk.2) (.string t846)) (fun _ hk => hk.2) (.int .i64 t847)) (fun _ hk => hk.2) (.slice Ao40 t848.length co40)) (fun _ hk => hk.2) (.int .i64 t851)) (fun _ h_ => h_.1))) hb); have n4_ := Aside0.mk (Kd.qaA (by (with_reducible repeat (first | apply Kd.qar | apply Kd.qas | apply Kd.qax)); exact (Kd.qbn (Kd.qa0 (p := ⟨gb853, 4, none⟩) (Kd.qa0 (p := ⟨gb853, 3, none⟩) (Kd.qa0 (p := ⟨gb853, 2, none⟩) (Kd.qa0 (p := ⟨gb853, 1, none⟩) (Kd.qa0 (p := ⟨gb853, 0, none⟩) (Kd.qbw HO844.out BK853.out (by decide)) (fun _ hk => hk.2) (.string t845)) (fun _ hk => hk.2) (.string t846)) (fun _ hk => hk.2) (.int .i64 t847)) (fun _ hk => hk.2) (.slice Ao40 t848.length co40)) (fun _ hk => hk.2) (.int .i64 t851)) (fun _ h_ => h_.1))) hb); have n5_ := Aside0.mk (Kd.qaA (by (with_reducible repeat (first | apply Kd.qar | apply Kd.qas | apply Kd.qax)); exact (Kd.qbn (Kd.qa0 (p := ⟨gb853, 4, none⟩) (Kd.qa0 (p := ⟨gb853, 3, none⟩) (Kd.qa0 (p := ⟨gb853, 2, none⟩) (Kd.qa0 (p := ⟨gb853, 1, none⟩) (Kd.qa0 (p := ⟨gb853, 0, none⟩) (Kd.qbw HO850.out BK853.out (by decide)) (fun _ hk => hk.2) (.string t845)) (fun _ hk => hk.2) (.string t846)) (fun _ hk => hk.2) (.int .i64 t847)) (fun _ hk => hk.2) (.slice Ao40 t848.length co40)) (fun _ hk => hk.2) (.int .i64 t851)) (fun _ h_ => h_.1))) hb); have n6_ := Aside0.mk (qaB (g := gb838) (o := .cells #[.string t830, .string t831, .int .i64 t832, .slice Ao31 t833.length co31, .int .i64 t836] 48 (0, 0)) (by (with_reducible repeat (first | refine qag ?_ _ | refine qaj ?_ | refine qaf ?_ _)); refine qbE ?_ NB838_853.out _; (with_reducible repeat (first | refine qag ?_ _ | refine qaj ?_ | refine qaf ?_ _)); refine qbE ?_ NB838_853.out _; (with_reducible repeat (first | refine qag ?_ _ | refine qaj ?_ | refine qaf ?_ _)); refine qbE ?_ NB838_853.out _; (with_reducible repeat (first | refine qag ?_ _ | refine qaj ?_ | refine qaf ?_ _)); refine qbE ?_ NB838_853.out _; (with_reducible repeat (first | refine qag ?_ _ | refine qaj ?_ | refine qaf ?_ _)); refine qbE ?_ NB838_853.out _; (with_reducible repeat (first | refine qag ?_ _ | refine qaj ?_ | refine qaf ?_ _)); exact BK838.out) hb); have n7_ := Aside0.mk (qaB (g := gb853) (o := .cells #[.string t845, .string t846, .int .i64 t847, .slice Ao40 t848.length co40, .int .i64 t851] 48 (0, 0)) (by (with_reducible repeat (first | refine qag ?_ _ | refine qaj ?_ | refine qaf ?_ _)); refine qaI (cs := #[.string t845, .string t846, .int .i64 t847, .slice Ao40 t848.length co40, .int .i64 0]) ?_ 4 _ rfl; (with_reducible repeat (first | refine qag ?_ _ | refine qaj ?_ | refine qaf ?_ _)); refine qaI (cs := #[.string t845, .string t846, .int .i64 t847, .slice none 0 0, .int .i64 0]) ?_ 3 _ rfl; (with_reducible repeat (first | refine qag ?_ _ | refine qaj ?_ | refine qaf ?_ _)); refine qaI (cs := #[.string t845, .string t846, .int .i64 0, .slice none 0 0, .int .i64 0]) ?_ 2 _ rfl; (with_reducible repeat (first | refine qag ?_ _ | refine qaj ?_ | refine qaf ?_ _)); refine qaI (cs := #[.string t845, .string (⟨#[]⟩ : ByteArray), .int .i64 0, .slice none 0 0, .int .i64 0]) ?_ 1 _ rfl; (with_reducible repeat (first | refine qag ?_ _ | refine qaj ?_ | refine qaf ?_ _)); refine qaI (cs := #[.string (⟨#[]⟩ : ByteArray), .string (⟨#[]⟩ : ByteArray), .int .i64 0, .slice none 0 0, .int .i64 0]) ?_ 0 _ rfl; (with_reducible repeat (first | refine qag ?_ _ | refine qaj ?_ | refine qaf ?_ _)); exact BK853.out) hb); have n8_ := Aside0.mk (qak (by repeat (first | (with_reducible first | exact HB.out | apply qac | apply qaa | apply qab | refine qai ?_ GE838.out | refine qai ?_ GE853.out) | exact HB.out)) hb); clear HO826; clear HO829; clear HO835; clear HO841; clear HO844; clear HO850; clear BK838; clear BK853; clear HB; have HO826 := n0_; have HO829 := n1_; have HO835 := n2_; have HO841 := n3_; have HO844 := n4_; have HO850 := n5_; have BK838 := n6_; have BK853 := n7_; have HB := n8_; clear n0_ n1_ n2_ n3_ n4_ n5_ n6_ n7_ n8_; (try clear hb); (try clear hb2); (try clear hk); (try clear hi)))
       go_meet
       case rel => exact ⟨_, ((t852 != t837)), (by first | rfl | (simp; done) | (simp [*]; done)), H', ⟨by first | omega | exact Nat.le_refl _⟩, ⟨by (with_reducible repeat (first | apply Kd.qar | apply Kd.qas | apply Kd.qax)); exact Kd.qbn HO841.out (fun _ hk => hk.2)⟩, ⟨by (with_reducible repeat (first | apply Kd.qar | apply Kd.qas | apply Kd.qax)); exact Kd.qbn HO844.out (fun _ hk => hk.2)⟩, ⟨by (with_reducible repeat (first | apply Kd.qar | apply Kd.qas | apply Kd.qax)); exact Kd.qbn HO835.out (fun _ hk => hk.2)⟩, ⟨by (with_reducible repeat (first | apply Kd.qar | apply Kd.qas | apply Kd.qax)); exact Kd.qbn HO850.out (fun _ hk => hk.2)⟩, ⟨by (with_reducible repeat (first | refine qag ?_ _ | refine qaj ?_ | refine qaf ?_ _)); exact BK838.out⟩, ⟨by (with_reducible repeat (first | refine qag ?_ _ | refine qaj ?_ | refine qaf ?_ _)); exact BK853.out⟩, ⟨by repeat (first | (with_reducible first | exact HB.out | apply qac | apply qaa | apply qab | refine qai ?_ GE838.out | refine qai ?_ GE853.out) | exact HB.out)⟩⟩
      ·replace c42 := Bool.eq_false_iff.mpr c42
       subst c42
       have H1 : (qae.j0 k a0 a1 a2 l3 l4 t837 t839 t842 t852 true t830 t831 t832 t833 t836 t845 t846 t847 t848 t851) = some r := by rw [if_neg (show ¬ (false = true) by decide)] at H; exact H
       clear H
       have H := H1
       clear H1
       have H' := Aside0.mk H
       clear H
       have hnb47 := NB853_838.out
       have hnc47 := NB838_853.out
       have hcz48_0 : w37.cell? ⟨gb853, 0, none⟩ = some (.string (⟨#[]⟩ : ByteArray)) := (qah BK853.out 0).trans rfl
       have hcz48_1 : w37.cell? ⟨gb853, 1, none⟩ = some (.string (⟨#[]⟩ : ByteArray)) := (qah BK853.out 1).trans rfl
       have hcz48_2 : w37.cell? ⟨gb853, 2, none⟩ = some (.int .i64 0) := (qah BK853.out 2).trans rfl
       have hcz48_3 : w37.cell? ⟨gb853, 3, none⟩ = some (.slice none 0 0) := (qah BK853.out 3).trans rfl
       have hcz48_4 : w37.cell? ⟨gb853, 4, none⟩ = some (.int .i64 0) := (qah BK853.out 4).trans rfl
       have hfz48_0 := qad BK853.out 0
       have hfz48_1 := qad BK853.out 1
       have hfz48_2 := qad BK853.out 2
       have hfz48_3 := qad BK853.out 3
       have hfz48_4 := qad BK853.out 4
       have hcz49_0 : w37.cell? ⟨gb838, 0, none⟩ = some (.string t830) := (qah BK838.out 0).trans rfl
       have hcz49_1 : w37.cell? ⟨gb838, 1, none⟩ = some (.string t831) := (qah BK838.out 1).trans rfl
       have hcz49_2 : w37.cell? ⟨gb838, 2, none⟩ = some (.int .i64 t832) := (qah BK838.out 2).trans rfl
       have hcz49_3 : w37.cell? ⟨gb838, 3, none⟩ = some (.slice Ao31 t833.length co31) := (qah BK838.out 3).trans rfl
       have hcz49_4 : w37.cell? ⟨gb838, 4, none⟩ = some (.int .i64 t836) := (qah BK838.out 4).trans rfl
       have hfz49_0 := qad BK838.out 0
       have hfz49_1 := qad BK838.out 1
       have hfz49_2 := qad BK838.out 2
       have hfz49_3 := qad BK838.out 3
       have hfz49_4 := qad BK838.out 4
       go_wp2_with (first | ((with_reducible refine qaz (f := 31) rfl ?_); refine qbf (some 65) rfl rfl Try.func31 (by kernel_rfl) rfl #[.agg #[.string t845, .string t846, .int .i64 t847, .slice Ao40 t848.length co40, .int .i64 t851], .agg #[.string t830, .string t831, .int .i64 t832, .slice Ao31 t833.length co31, .int .i64 t836]] rfl (by (try simp only [List.map_toArray, List.map_cons, List.map_nil]); first | done | rfl | (simp only [List.length_drop, List.length_take]; rfl)) ?_; (with_reducible refine (qaO.calls k t845 t846 t847 _ _ t848 t851 t830 t831 t832 _ _ t833 t836 false _ ?side1 ?side2 ?side3 ?side4 A41.out).mono ?_); (case side1 => refine (Kd.qaM (e := 82) (base := w.heap.size) (ok := fun k_ => (True ∧ some k_ ≠ (.slice Ao31 t833.length co31 : Value).ownBlock)) (n := t848.length) (c := co40) ?_).2.2; exact (by (with_reducible repeat (first | apply Kd.qar | apply Kd.qas | apply Kd.qax)); exact (Kd.qbn (Kd.qa0 (p := ⟨gb853, 4, none⟩) (Kd.qa0 (p := ⟨gb853, 3, none⟩) (Kd.qa0 (p := ⟨gb853, 2, none⟩) (Kd.qa0 (p := ⟨gb853, 1, none⟩) (Kd.qa0 (p := ⟨gb853, 0, none⟩) (Kd.qbw HO850.out BK853.out (by decide)) (fun _ hk => hk.2) (.string t845)) (fun _ hk => hk.2) (.string t846)) (fun _ hk => hk.2) (.int .i64 t847)) (fun _ hk => hk.2) (.slice Ao40 t848.length co40)) (fun _ hk => hk.2) (.int .i64 t851)) (fun _ h_ => h_.1)))); (case side2 => exact (Kd.qaM HO850.out).2.1); (case side3 => refine (Kd.qaM (e := 82) (base := w.heap.size) (ok := fun k_ => (True ∧ some k_ ≠ (.slice Ao40 t848.length co40 : Value).ownBlock)) (n := t833.length) (c := co31) ?_).2.2; exact (by (with_reducible repeat (first | apply Kd.qar | apply Kd.qas | apply Kd.qax)); exact (Kd.qbn (Kd.qa0 (p := ⟨gb853, 4, none⟩) (Kd.qa0 (p := ⟨gb853, 3, none⟩) (Kd.qa0 (p := ⟨gb853, 2, none⟩) (Kd.qa0 (p := ⟨gb853, 1, none⟩) (Kd.qa0 (p := ⟨gb853, 0, none⟩) (Kd.qbw HO835.out BK853.out (by decide)) (fun _ hk => hk.2) (.string t845)) (fun _ hk => hk.2) (.string t846)) (fun _ hk => hk.2) (.int .i64 t847)) (fun _ hk => hk.2) (.slice Ao40 t848.length co40)) (fun _ hk => hk.2) (.int .i64 t851)) (fun _ h_ => h_.1)))); (case side4 => exact (Kd.qaM HO835.out).2.1); rintro e w50 ⟨rfl, hb⟩; refine ⟨_, rfl, ?_⟩; have n0_ := Aside0.mk (Kd.qaA (by (with_reducible repeat (first | apply Kd.qar | apply Kd.qas | apply Kd.qax)); exact (Kd.qbn (Kd.qa0 (p := ⟨gb853, 4, none⟩) (Kd.qa0 (p := ⟨gb853, 3, none⟩) (Kd.qa0 (p := ⟨gb853, 2, none⟩) (Kd.qa0 (p := ⟨gb853, 1, none⟩) (Kd.qa0 (p := ⟨gb853, 0, none⟩) (Kd.qbw HO826.out BK853.out (by decide)) (fun _ hk => hk.2) (.string t845)) (fun _ hk => hk.2) (.string t846)) (fun _ hk => hk.2) (.int .i64 t847)) (fun _ hk => hk.2) (.slice Ao40 t848.length co40)) (fun _ hk => hk.2) (.int .i64 t851)) (fun _ h_ => h_.1))) hb); have n1_ := Aside0.mk (Kd.qaA (by (with_reducible repeat (first | apply Kd.qar | apply Kd.qas | apply Kd.qax)); exact (Kd.qbn (Kd.qa0 (p := ⟨gb853, 4, none⟩) (Kd.qa0 (p := ⟨gb853, 3, none⟩) (Kd.qa0 (p := ⟨gb853, 2, none⟩) (Kd.qa0 (p := ⟨gb853, 1, none⟩) (Kd.qa0 (p := ⟨gb853, 0, none⟩) (Kd.qbw HO829.out BK853.out (by decide)) (fun _ hk => hk.2) (.string t845)) (fun _ hk => hk.2) (.string t846)) (fun _ hk => hk.2) (.int .i64 t847)) (fun _ hk => hk.2) (.slice Ao40 t848.length co40)) (fun _ hk => hk.2) (.int .i64 t851)) (fun _ h_ => h_.1))) hb); have n2_ := Aside0.mk (Kd.qaA (by (with_reducible repeat (first | apply Kd.qar | apply Kd.qas | apply Kd.qax)); exact (Kd.qbn (Kd.qa0 (p := ⟨gb853, 4, none⟩) (Kd.qa0 (p := ⟨gb853, 3, none⟩) (Kd.qa0 (p := ⟨gb853, 2, none⟩) (Kd.qa0 (p := ⟨gb853, 1, none⟩) (Kd.qa0 (p := ⟨gb853, 0, none⟩) (Kd.qbw HO835.out BK853.out (by decide)) (fun _ hk => hk.2) (.string t845)) (fun _ hk => hk.2) (.string t846)) (fun _ hk => hk.2) (.int .i64 t847)) (fun _ hk => hk.2) (.slice Ao40 t848.length co40)) (fun _ hk => hk.2) (.int .i64 t851)) (fun _ h_ => h_.1))) hb); have n3_ := Aside0.mk (Kd.qaA (by (with_reducible repeat (first | apply Kd.qar | apply Kd.qas | apply Kd.qax)); exact (Kd.qbn (Kd.qa0 (p := ⟨gb853, 4, none⟩) (Kd.qa0 (p := ⟨gb853, 3, none⟩) (Kd.qa0 (p := ⟨gb853, 2, none⟩) (Kd.qa0 (p := ⟨gb853, 1, none⟩) (Kd.qa0 (p := ⟨gb853, 0, none⟩) (Kd.qbw HO841.out BK853.out (by decide)) (fun _ hk => hk.2) (.string t845)) (fun _ hk => hk.2) (.string t846)) (fun _ hk => hk.2) (.int .i64 t847)) (fun _ hk => hk.2) (.slice Ao40 t848.length co40)) (fun _ hk => hk.2) (.int .i64 t851)) (fun _ h_ => h_.1))) hb); have n4_ := Aside0.mk (Kd.qaA (by (with_reducible repeat (first | apply Kd.qar | apply Kd.qas | apply Kd.qax)); exact (Kd.qbn (Kd.qa0 (p := ⟨gb853, 4, none⟩) (Kd.qa0 (p := ⟨gb853, 3, none⟩) (Kd.qa0 (p := ⟨gb853, 2, none⟩) (Kd.qa0 (p := ⟨gb853, 1, none⟩) (Kd.qa0 (p := ⟨gb853, 0, none⟩) (Kd.qbw HO844.out BK853.out (by decide)) (fun _ hk => hk.2) (.string t845)) (fun _ hk => hk.2) (.string t846)) (fun _ hk => hk.2) (.int .i64 t847)) (fun _ hk => hk.2) (.slice Ao40 t848.length co40)) (fun _ hk => hk.2) (.int .i64 t851)) (fun _ h_ => h_.1))) hb); have n5_ := Aside0.mk (Kd.qaA (by (with_reducible repeat (first | apply Kd.qar | apply Kd.qas | apply Kd.qax)); exact (Kd.qbn (Kd.qa0 (p := ⟨gb853, 4, none⟩) (Kd.qa0 (p := ⟨gb853, 3, none⟩) (Kd.qa0 (p := ⟨gb853, 2, none⟩) (Kd.qa0 (p := ⟨gb853, 1, none⟩) (Kd.qa0 (p := ⟨gb853, 0, none⟩) (Kd.qbw HO850.out BK853.out (by decide)) (fun _ hk => hk.2) (.string t845)) (fun _ hk => hk.2) (.string t846)) (fun _ hk => hk.2) (.int .i64 t847)) (fun _ hk => hk.2) (.slice Ao40 t848.length co40)) (fun _ hk => hk.2) (.int .i64 t851)) (fun _ h_ => h_.1))) hb); have n6_ := Aside0.mk (qaB (g := gb838) (o := .cells #[.string t830, .string t831, .int .i64 t832, .slice Ao31 t833.length co31, .int .i64 t836] 48 (0, 0)) (by (with_reducible repeat (first | refine qag ?_ _ | refine qaj ?_ | refine qaf ?_ _)); refine qbE ?_ NB838_853.out _; (with_reducible repeat (first | refine qag ?_ _ | refine qaj ?_ | refine qaf ?_ _)); refine qbE ?_ NB838_853.out _; (with_reducible repeat (first | refine qag ?_ _ | refine qaj ?_ | refine qaf ?_ _)); refine qbE ?_ NB838_853.out _; (with_reducible repeat (first | refine qag ?_ _ | refine qaj ?_ | refine qaf ?_ _)); refine qbE ?_ NB838_853.out _; (with_reducible repeat (first | refine qag ?_ _ | refine qaj ?_ | refine qaf ?_ _)); refine qbE ?_ NB838_853.out _; (with_reducible repeat (first | refine qag ?_ _ | refine qaj ?_ | refine qaf ?_ _)); exact BK838.out) hb); have n7_ := Aside0.mk (qaB (g := gb853) (o := .cells #[.string t845, .string t846, .int .i64 t847, .slice Ao40 t848.length co40, .int .i64 t851] 48 (0, 0)) (by (with_reducible repeat (first | refine qag ?_ _ | refine qaj ?_ | refine qaf ?_ _)); refine qaI (cs := #[.string t845, .string t846, .int .i64 t847, .slice Ao40 t848.length co40, .int .i64 0]) ?_ 4 _ rfl; (with_reducible repeat (first | refine qag ?_ _ | refine qaj ?_ | refine qaf ?_ _)); refine qaI (cs := #[.string t845, .string t846, .int .i64 t847, .slice none 0 0, .int .i64 0]) ?_ 3 _ rfl; (with_reducible repeat (first | refine qag ?_ _ | refine qaj ?_ | refine qaf ?_ _)); refine qaI (cs := #[.string t845, .string t846, .int .i64 0, .slice none 0 0, .int .i64 0]) ?_ 2 _ rfl; (with_reducible repeat (first | refine qag ?_ _ | refine qaj ?_ | refine qaf ?_ _)); refine qaI (cs := #[.string t845, .string (⟨#[]⟩ : ByteArray), .int .i64 0, .slice none 0 0, .int .i64 0]) ?_ 1 _ rfl; (with_reducible repeat (first | refine qag ?_ _ | refine qaj ?_ | refine qaf ?_ _)); refine qaI (cs := #[.string (⟨#[]⟩ : ByteArray), .string (⟨#[]⟩ : ByteArray), .int .i64 0, .slice none 0 0, .int .i64 0]) ?_ 0 _ rfl; (with_reducible repeat (first | refine qag ?_ _ | refine qaj ?_ | refine qaf ?_ _)); exact BK853.out) hb); have n8_ := Aside0.mk (qak (by repeat (first | (with_reducible first | exact HB.out | apply qac | apply qaa | apply qab | refine qai ?_ GE838.out | refine qai ?_ GE853.out) | exact HB.out)) hb); clear HO826; clear HO829; clear HO835; clear HO841; clear HO844; clear HO850; clear BK838; clear BK853; clear HB; have HO826 := n0_; have HO829 := n1_; have HO835 := n2_; have HO841 := n3_; have HO844 := n4_; have HO850 := n5_; have BK838 := n6_; have BK853 := n7_; have HB := n8_; clear n0_ n1_ n2_ n3_ n4_ n5_ n6_ n7_ n8_; (try clear hb); (try clear hb2); (try clear hk); (try clear hi)))
       go_meet
       case rel => exact ⟨_, (true), (by first | rfl | (simp; done) | (simp [*]; done)), H', ⟨by first | omega | exact Nat.le_refl _⟩, ⟨by (with_reducible repeat (first | apply Kd.qar | apply Kd.qas | apply Kd.qax)); exact Kd.qbn HO841.out (fun _ hk => hk.2)⟩, ⟨by (with_reducible repeat (first | apply Kd.qar | apply Kd.qas | apply Kd.qax)); exact Kd.qbn HO844.out (fun _ hk => hk.2)⟩, ⟨by (with_reducible repeat (first | apply Kd.qar | apply Kd.qas | apply Kd.qax)); exact Kd.qbn HO835.out (fun _ hk => hk.2)⟩, ⟨by (with_reducible repeat (first | apply Kd.qar | apply Kd.qas | apply Kd.qax)); exact Kd.qbn HO850.out (fun _ hk => hk.2)⟩, ⟨by (with_reducible repeat (first | refine qag ?_ _ | refine qaj ?_ | refine qaf ?_ _)); exact BK838.out⟩, ⟨by (with_reducible repeat (first | refine qag ?_ _ | refine qaj ?_ | refine qaf ?_ _)); exact BK853.out⟩, ⟨by repeat (first | (with_reducible first | exact HB.out | apply qac | apply qaa | apply qab | refine qai ?_ GE838.out | refine qai ?_ GE853.out) | exact HB.out)⟩⟩
     case rest =>
      clear HC21
      try clear c1
      try clear p2
      try clear c3
      try clear c4
      try clear c6
      try clear c6b0
      try clear c6b1
      try clear c7
      try clear c7b0
      try clear c7b1
      try clear c8
      try clear c9
      try clear c9b0
      try clear c11
      try clear c12
      try clear c12b0
      try clear c13
      try clear c31
      try clear c38
      try clear c39
      try clear c42
      try clear c43
      try clear c47
      try clear hcz30_0
      try clear hcz30_1
      try clear hcz30_2
      try clear hcz30_3
      try clear hcz30_4
      try clear hcz39_0
      try clear hcz39_1
      try clear hcz39_2
      try clear hcz39_3
      try clear hcz39_4
      try clear hcz44_0
      try clear hcz44_1
      try clear hcz44_2
      try clear hcz44_3
      try clear hcz44_4
      try clear hcz45_0
      try clear hcz45_1
      try clear hcz45_2
      try clear hcz45_3
      try clear hcz45_4
      try clear hcz48_0
      try clear hcz48_1
      try clear hcz48_2
      try clear hcz48_3
      try clear hcz48_4
      try clear hcz49_0
      try clear hcz49_1
      try clear hcz49_2
      try clear hcz49_3
      try clear hcz49_4
      try clear hfz30_0
      try clear hfz30_1
      try clear hfz30_2
      try clear hfz30_3
      try clear hfz30_4
      try clear hfz39_0
      try clear hfz39_1
      try clear hfz39_2
      try clear hfz39_3
      try clear hfz39_4
      try clear hfz44_0
      try clear hfz44_1
      try clear hfz44_2
      try clear hfz44_3
      try clear hfz44_4
      try clear hfz45_0
      try clear hfz45_1
      try clear hfz45_2
      try clear hfz45_3
      try clear hfz45_4
      try clear hfz48_0
      try clear hfz48_1
      try clear hfz48_2
      try clear hfz48_3
      try clear hfz48_4
      try clear hfz49_0
      try clear hfz49_1
      try clear hfz49_2
      try clear hfz49_3
      try clear hfz49_4
      obtain ⟨kq, x71_20, rfl, HA, HJ20, HO_14, HO_15, HO_839003, HO_854003, BK838, BK853, HB⟩ := hcut
      cases kq with
      | zero => exact absurd HA.out (by simp [qae.j0])
      | succ kj20 =>
       have H := HA.out
       clear HA
       simp only [qae.j0] at H
       by_cases c51 : x71_20 = true
       ·subst c51
        have H1 : (some false) = some r := by rw [if_pos rfl] at H; exact H
        clear H
        have H := H1
        clear H1
        obtain rfl := Option.some.inj H
        go_wp2
        go_ret
        exact ⟨by first | rfl | (simp [qam, qan] <;> rfl) | (simp [*, qam, qan] <;> rfl), by repeat (first | (with_reducible first | exact HB.out | apply qac | apply qaa | apply qab | refine qai ?_ GE838.out | refine qai ?_ GE853.out) | exact HB.out)⟩
       ·replace c51 := Bool.eq_false_iff.mpr c51
        subst c51
        have H1 : ((qay.f kj20 l3).bind fun t855 => ((qaL.f kj20 t839 t855).bind fun t858 => (if t858 = true then ((qay.f kj20 l4).bind fun t859 => ((qaL.f kj20 t842 t859).bind fun t862 => (if t862 = true then ((qaC.f kj20 t839 1).bind fun bt863 => ((qaC.f kj20 t842 bt863.1).bind fun bt865 => (if bt865.1 < 0 then (qae.j1 kj20 a0 a1 a2 l3 l4 t837 true t830 t831 t832 t833 t836 t845 t846 t847 t848 t851) else ((qaO.f kj20 t845 t846 t847 t848 t851 t830 t831 t832 t833 t836).bind fun t867 => (if t867 = true then (qae.j1 kj20 a0 a1 a2 l3 l4 t837 (t852 != t837) t830 t831 t832 t833 t836 t845 t846 t847 t848 t851) else (qae.j1 kj20 a0 a1 a2 l3 l4 t837 true t830 t831 t832 t833 t836 t845 t846 t847 t848 t851)))))) else (some false)))) else (some false)))) = some r := by rw [if_neg (show ¬ (false = true) by decide)] at H; exact H
        clear H
        have H := H1
        clear H1
        replace H := Option.bind_eq_some_iff.mp H
        obtain ⟨t855, A520, H⟩ := H
        replace H : ((qaL.f kj20 t839 t855).bind fun t858 => (if t858 = true then ((qay.f kj20 l4).bind fun t859 => ((qaL.f kj20 t842 t859).bind fun t862 => (if t862 = true then ((qaC.f kj20 t839 1).bind fun bt863 => ((qaC.f kj20 t842 bt863.1).bind fun bt865 => (if bt865.1 < 0 then (qae.j1 kj20 a0 a1 a2 l3 l4 t837 true t830 t831 t832 t833 t836 t845 t846 t847 t848 t851) else ((qaO.f kj20 t845 t846 t847 t848 t851 t830 t831 t832 t833 t836).bind fun t867 => (if t867 = true then (qae.j1 kj20 a0 a1 a2 l3 l4 t837 (t852 != t837) t830 t831 t832 t833 t836 t845 t846 t847 t848 t851) else (qae.j1 kj20 a0 a1 a2 l3 l4 t837 true t830 t831 t832 t833 t836 t845 t846 t847 t848 t851)))))) else (some false)))) else (some false))) = some r := H
        have A52 := Aside0.mk A520
        clear A520
        replace H := Option.bind_eq_some_iff.mp H
        obtain ⟨t858, A530, H⟩ := H
        replace H : (if t858 = true then ((qay.f kj20 l4).bind fun t859 => ((qaL.f kj20 t842 t859).bind fun t862 => (if t862 = true then ((qaC.f kj20 t839 1).bind fun bt863 => ((qaC.f kj20 t842 bt863.1).bind fun bt865 => (if bt865.1 < 0 then (qae.j1 kj20 a0 a1 a2 l3 l4 t837 true t830 t831 t832 t833 t836 t845 t846 t847 t848 t851) else ((qaO.f kj20 t845 t846 t847 t848 t851 t830 t831 t832 t833 t836).bind fun t867 => (if t867 = true then (qae.j1 kj20 a0 a1 a2 l3 l4 t837 (t852 != t837) t830 t831 t832 t833 t836 t845 t846 t847 t848 t851) else (qae.j1 kj20 a0 a1 a2 l3 l4 t837 true t830 t831 t832 t833 t836 t845 t846 t847 t848 t851)))))) else (some false)))) else (some false)) = some r := H
        have A53 := Aside0.mk A530
        clear A530
        by_cases c54 : t858 = true
        ·subst c54
         have H1 : ((qay.f kj20 l4).bind fun t859 => ((qaL.f kj20 t842 t859).bind fun t862 => (if t862 = true then ((qaC.f kj20 t839 1).bind fun bt863 => ((qaC.f kj20 t842 bt863.1).bind fun bt865 => (if bt865.1 < 0 then (qae.j1 kj20 a0 a1 a2 l3 l4 t837 true t830 t831 t832 t833 t836 t845 t846 t847 t848 t851) else ((qaO.f kj20 t845 t846 t847 t848 t851 t830 t831 t832 t833 t836).bind fun t867 => (if t867 = true then (qae.j1 kj20 a0 a1 a2 l3 l4 t837 (t852 != t837) t830 t831 t832 t833 t836 t845 t846 t847 t848 t851) else (qae.j1 kj20 a0 a1 a2 l3 l4 t837 true t830 t831 t832 t833 t836 t845 t846 t847 t848 t851)))))) else (some false)))) = some r := by rw [if_pos rfl] at H; exact H
         clear H
         have H := H1
         clear H1
         replace H := Option.bind_eq_some_iff.mp H
         obtain ⟨t859, A550, H⟩ := H
         replace H : ((qaL.f kj20 t842 t859).bind fun t862 => (if t862 = true then ((qaC.f kj20 t839 1).bind fun bt863 => ((qaC.f kj20 t842 bt863.1).bind fun bt865 => (if bt865.1 < 0 then (qae.j1 kj20 a0 a1 a2 l3 l4 t837 true t830 t831 t832 t833 t836 t845 t846 t847 t848 t851) else ((qaO.f kj20 t845 t846 t847 t848 t851 t830 t831 t832 t833 t836).bind fun t867 => (if t867 = true then (qae.j1 kj20 a0 a1 a2 l3 l4 t837 (t852 != t837) t830 t831 t832 t833 t836 t845 t846 t847 t848 t851) else (qae.j1 kj20 a0 a1 a2 l3 l4 t837 true t830 t831 t832 t833 t836 t845 t846 t847 t848 t851)))))) else (some false))) = some r := H
         have A55 := Aside0.mk A550
         clear A550
         replace H := Option.bind_eq_some_iff.mp H
         obtain ⟨t862, A560, H⟩ := H
         replace H : (if t862 = true then ((qaC.f kj20 t839 1).bind fun bt863 => ((qaC.f kj20 t842 bt863.1).bind fun bt865 => (if bt865.1 < 0 then (qae.j1 kj20 a0 a1 a2 l3 l4 t837 true t830 t831 t832 t833 t836 t845 t846 t847 t848 t851) else ((qaO.f kj20 t845 t846 t847 t848 t851 t830 t831 t832 t833 t836).bind fun t867 => (if t867 = true then (qae.j1 kj20 a0 a1 a2 l3 l4 t837 (t852 != t837) t830 t831 t832 t833 t836 t845 t846 t847 t848 t851) else (qae.j1 kj20 a0 a1 a2 l3 l4 t837 true t830 t831 t832 t833 t836 t845 t846 t847 t848 t851)))))) else (some false)) = some r := H
         have A56 := Aside0.mk A560
         clear A560
         by_cases c57 : t862 = true
         ·subst c57
          have H1 : ((qaC.f kj20 t839 1).bind fun bt863 => ((qaC.f kj20 t842 bt863.1).bind fun bt865 => (if bt865.1 < 0 then (qae.j1 kj20 a0 a1 a2 l3 l4 t837 true t830 t831 t832 t833 t836 t845 t846 t847 t848 t851) else ((qaO.f kj20 t845 t846 t847 t848 t851 t830 t831 t832 t833 t836).bind fun t867 => (if t867 = true then (qae.j1 kj20 a0 a1 a2 l3 l4 t837 (t852 != t837) t830 t831 t832 t833 t836 t845 t846 t847 t848 t851) else (qae.j1 kj20 a0 a1 a2 l3 l4 t837 true t830 t831 t832 t833 t836 t845 t846 t847 t848 t851)))))) = some r := by rw [if_pos rfl] at H; exact H
          clear H
          have H := H1
          clear H1
          replace H := Option.bind_eq_some_iff.mp H
          obtain ⟨⟨t863, t864⟩, A580, H⟩ := H
          replace H : ((qaC.f kj20 t842 t863).bind fun bt865 => (if bt865.1 < 0 then (qae.j1 kj20 a0 a1 a2 l3 l4 t837 true t830 t831 t832 t833 t836 t845 t846 t847 t848 t851) else ((qaO.f kj20 t845 t846 t847 t848 t851 t830 t831 t832 t833 t836).bind fun t867 => (if t867 = true then (qae.j1 kj20 a0 a1 a2 l3 l4 t837 (t852 != t837) t830 t831 t832 t833 t836 t845 t846 t847 t848 t851) else (qae.j1 kj20 a0 a1 a2 l3 l4 t837 true t830 t831 t832 t833 t836 t845 t846 t847 t848 t851))))) = some r := H
          have A58 := Aside0.mk A580
          clear A580
          replace H := Option.bind_eq_some_iff.mp H
          obtain ⟨⟨t865, t866⟩, A590, H⟩ := H
          replace H : (if t865 < 0 then (qae.j1 kj20 a0 a1 a2 l3 l4 t837 true t830 t831 t832 t833 t836 t845 t846 t847 t848 t851) else ((qaO.f kj20 t845 t846 t847 t848 t851 t830 t831 t832 t833 t836).bind fun t867 => (if t867 = true then (qae.j1 kj20 a0 a1 a2 l3 l4 t837 (t852 != t837) t830 t831 t832 t833 t836 t845 t846 t847 t848 t851) else (qae.j1 kj20 a0 a1 a2 l3 l4 t837 true t830 t831 t832 t833 t836 t845 t846 t847 t848 t851)))) = some r := H
          have A59 := Aside0.mk A590
          clear A590
          have HC60 := Aside0.mk H
          clear H
          go_upto_region 25 with (first | ((with_reducible refine qaz (f := 13) rfl ?_); refine qbf (some 74) rfl rfl Try.func13 (by kernel_rfl) rfl #[.slice A3 l3.length c3] rfl (by (try simp only [List.map_toArray, List.map_cons, List.map_nil]); first | done | rfl | (simp only [List.length_drop, List.length_take]; rfl)) ?_; (with_reducible refine (qay.calls kj20 _ _ l3 t855 _ ?side1 ?side2 A52.out).mono ?_); (case side1 => repeat (first | exact (Kd.qa2 HR3.out HB.out) | (with_reducible refine Kd.qa7 ?_ _) | (with_reducible refine Kd.qa8 ?_ _) | (with_reducible refine Kd.qbm ?_))); (case side2 => exact HC3.out); rintro e w61 ⟨v856, rfl, ho0, hb⟩; refine ⟨_, rfl, ?_⟩; have n0_ := Aside0.mk (Kd.qbM (by (with_reducible repeat (first | apply Kd.qar | apply Kd.qas | apply Kd.qax)); exact HO_14.out) (Kd.qb2 ho0) hb); have n1_ := Aside0.mk (Kd.qbM (by (with_reducible repeat (first | apply Kd.qar | apply Kd.qas | apply Kd.qax)); exact HO_15.out) (Kd.qb2 ho0) hb); have n2_ := Aside0.mk (Kd.qaA (by (with_reducible repeat (first | apply Kd.qar | apply Kd.qas | apply Kd.qax)); exact HO_839003.out) hb); have n3_ := Aside0.mk (Kd.qaA (by (with_reducible repeat (first | apply Kd.qar | apply Kd.qas | apply Kd.qax)); exact HO_854003.out) hb); have n4_ := Aside0.mk (Kd.qbL (Kd.qb4 (Kd.qb4 ho0 (Kd.R_lt (by (with_reducible repeat (first | apply Kd.qar | apply Kd.qas | apply Kd.qax)); exact HO_14.out))) (Kd.R_lt (by (with_reducible repeat (first | apply Kd.qar | apply Kd.qas | apply Kd.qax)); exact HO_15.out))) (qau (by repeat (first | (with_reducible first | exact HB.out | apply qac | apply qaa | apply qab | refine qai ?_ GE838.out | refine qai ?_ GE853.out) | exact HB.out)))); have n5_ := Aside0.mk (qaB (g := gb838) (o := .cells #[.string t830, .string t831, .int .i64 t832, .slice Ao31 t833.length co31, .int .i64 t836] 48 (0, 0)) (by (with_reducible repeat (first | refine qag ?_ _ | refine qaj ?_ | refine qaf ?_ _)); exact BK838.out) hb); have n6_ := Aside0.mk (qaB (g := gb853) (o := .cells #[.string t845, .string t846, .int .i64 t847, .slice Ao40 t848.length co40, .int .i64 t851] 48 (0, 0)) (by (with_reducible repeat (first | refine qag ?_ _ | refine qaj ?_ | refine qaf ?_ _)); exact BK853.out) hb); have n7_ := Aside0.mk (qak (by repeat (first | (with_reducible first | exact HB.out | apply qac | apply qaa | apply qab | refine qai ?_ GE838.out | refine qai ?_ GE853.out) | exact HB.out)) hb); clear HO_14; clear HO_15; clear HO_839003; clear HO_854003; clear BK838; clear BK853; clear HB; have HO_14 := n0_; have HO_15 := n1_; have HO_839003 := n2_; have HO_854003 := n3_; have HO857 := n4_; have BK838 := n5_; have BK853 := n6_; have HB := n7_; clear n0_ n1_ n2_ n3_ n4_ n5_ n6_ n7_; (try clear hb); (try clear hb2); (try clear hk); (try clear hi); (try clear ho0); obtain ⟨Ao62, co62, eo62⟩ := Kd.qbN HO857.out; subst eo62) | ((with_reducible refine qaz (f := 15) rfl ?_); refine qbf (some 75) rfl rfl Try.func15 (by kernel_rfl) rfl #[.slice Ao34 t839.length co34, .slice Ao62 t855.length co62] rfl (by (try simp only [List.map_toArray, List.map_cons, List.map_nil]); first | done | rfl | (simp only [List.length_drop, List.length_take]; rfl)) ?_; (with_reducible refine (qaL.calls kj20 _ _ t839 _ _ t855 true _ ?side1 ?side2 ?side3 ?side4 A53.out).mono ?_); (case side1 => repeat (first | exact (Kd.qaM HO_14.out).2.2 | (with_reducible refine Kd.qa7 ?_ _) | (with_reducible refine Kd.qa8 ?_ _) | (with_reducible refine Kd.qbm ?_))); (case side2 => exact (Kd.qaM HO_14.out).2.1); (case side3 => repeat (first | exact (Kd.qaM HO857.out).2.2 | (with_reducible refine Kd.qa7 ?_ _) | (with_reducible refine Kd.qa8 ?_ _) | (with_reducible refine Kd.qbm ?_))); (case side4 => exact (Kd.qaM HO857.out).2.1); rintro e w63 ⟨rfl, hb⟩; refine ⟨_, rfl, ?_⟩; have n0_ := Aside0.mk (Kd.qaA (by (with_reducible repeat (first | apply Kd.qar | apply Kd.qas | apply Kd.qax)); exact HO_14.out) hb); have n1_ := Aside0.mk (Kd.qaA (by (with_reducible repeat (first | apply Kd.qar | apply Kd.qas | apply Kd.qax)); exact HO_15.out) hb); have n2_ := Aside0.mk (Kd.qaA (by (with_reducible repeat (first | apply Kd.qar | apply Kd.qas | apply Kd.qax)); exact HO_839003.out) hb); have n3_ := Aside0.mk (Kd.qaA (by (with_reducible repeat (first | apply Kd.qar | apply Kd.qas | apply Kd.qax)); exact HO_854003.out) hb); have n4_ := Aside0.mk (Kd.qaA (by (with_reducible repeat (first | apply Kd.qar | apply Kd.qas | apply Kd.qax)); exact HO857.out) hb); have n5_ := Aside0.mk (qaB (g := gb838) (o := .cells #[.string t830, .string t831, .int .i64 t832, .slice Ao31 t833.length co31, .int .i64 t836] 48 (0, 0)) (by (with_reducible repeat (first | refine qag ?_ _ | refine qaj ?_ | refine qaf ?_ _)); exact BK838.out) hb); have n6_ := Aside0.mk (qaB (g := gb853) (o := .cells #[.string t845, .string t846, .int .i64 t847, .slice Ao40 t848.length co40, .int .i64 t851] 48 (0, 0)) (by (with_reducible repeat (first | refine qag ?_ _ | refine qaj ?_ | refine qaf ?_ _)); exact BK853.out) hb); have n7_ := Aside0.mk (qak (by repeat (first | (with_reducible first | exact HB.out | apply qac | apply qaa | apply qab | refine qai ?_ GE838.out | refine qai ?_ GE853.out) | exact HB.out)) hb); clear HO_14; clear HO_15; clear HO_839003; clear HO_854003; clear HO857; clear BK838; clear BK853; clear HB; have HO_14 := n0_; have HO_15 := n1_; have HO_839003 := n2_; have HO_854003 := n3_; have HO857 := n4_; have BK838 := n5_; have BK853 := n6_; have HB := n7_; clear n0_ n1_ n2_ n3_ n4_ n5_ n6_ n7_; (try clear hb); (try clear hb2); (try clear hk); (try clear hi)) | ((with_reducible refine qaz (f := 13) rfl ?_); refine qbf (some 79) rfl rfl Try.func13 (by kernel_rfl) rfl #[.slice A4 l4.length c4] rfl (by (try simp only [List.map_toArray, List.map_cons, List.map_nil]); first | done | rfl | (simp only [List.length_drop, List.length_take]; rfl)) ?_; (with_reducible refine (qay.calls kj20 _ _ l4 t859 _ ?side1 ?side2 A55.out).mono ?_); (case side1 => repeat (first | exact (Kd.qa2 HR4.out HB.out) | (with_reducible refine Kd.qa7 ?_ _) | (with_reducible refine Kd.qa8 ?_ _) | (with_reducible refine Kd.qbm ?_))); (case side2 => exact HC4.out); rintro e w64 ⟨v860, rfl, ho0, hb⟩; refine ⟨_, rfl, ?_⟩; have n0_ := Aside0.mk (Kd.qbM (by (with_reducible repeat (first | apply Kd.qar | apply Kd.qas | apply Kd.qax)); exact HO_14.out) (Kd.qb2 ho0) hb); have n1_ := Aside0.mk (Kd.qbM (by (with_reducible repeat (first | apply Kd.qar | apply Kd.qas | apply Kd.qax)); exact HO_15.out) (Kd.qb2 ho0) hb); have n2_ := Aside0.mk (Kd.qaA (by (with_reducible repeat (first | apply Kd.qar | apply Kd.qas | apply Kd.qax)); exact HO_839003.out) hb); have n3_ := Aside0.mk (Kd.qaA (by (with_reducible repeat (first | apply Kd.qar | apply Kd.qas | apply Kd.qax)); exact HO_854003.out) hb); have n4_ := Aside0.mk (Kd.qbM (by (with_reducible repeat (first | apply Kd.qar | apply Kd.qas | apply Kd.qax)); exact HO857.out) (Kd.qb2 ho0) hb); have n5_ := Aside0.mk (Kd.qbL (Kd.qb4 (Kd.qb4 (Kd.qb4 ho0 (Kd.R_lt (by (with_reducible repeat (first | apply Kd.qar | apply Kd.qas | apply Kd.qax)); exact HO_14.out))) (Kd.R_lt (by (with_reducible repeat (first | apply Kd.qar | apply Kd.qas | apply Kd.qax)); exact HO_15.out))) (Kd.R_lt (by (with_reducible repeat (first | apply Kd.qar | apply Kd.qas | apply Kd.qax)); exact HO857.out))) (qau (by repeat (first | (with_reducible first | exact HB.out | apply qac | apply qaa | apply qab | refine qai ?_ GE838.out | refine qai ?_ GE853.out) | exact HB.out)))); have n6_ := Aside0.mk (qaB (g := gb838) (o := .cells #[.string t830, .string t831, .int .i64 t832, .slice Ao31 t833.length co31, .int .i64 t836] 48 (0, 0)) (by (with_reducible repeat (first | refine qag ?_ _ | refine qaj ?_ | refine qaf ?_ _)); exact BK838.out) hb); have n7_ := Aside0.mk (qaB (g := gb853) (o := .cells #[.string t845, .string t846, .int .i64 t847, .slice Ao40 t848.length co40, .int .i64 t851] 48 (0, 0)) (by (with_reducible repeat (first | refine qag ?_ _ | refine qaj ?_ | refine qaf ?_ _)); exact BK853.out) hb); have n8_ := Aside0.mk (qak (by repeat (first | (with_reducible first | exact HB.out | apply qac | apply qaa | apply qab | refine qai ?_ GE838.out | refine qai ?_ GE853.out) | exact HB.out)) hb); clear HO_14; clear HO_15; clear HO_839003; clear HO_854003; clear HO857; clear BK838; clear BK853; clear HB; have HO_14 := n0_; have HO_15 := n1_; have HO_839003 := n2_; have HO_854003 := n3_; have HO857 := n4_; have HO861 := n5_; have BK838 := n6_; have BK853 := n7_; have HB := n8_; clear n0_ n1_ n2_ n3_ n4_ n5_ n6_ n7_ n8_; (try clear hb); (try clear hb2); (try clear hk); (try clear hi); (try clear ho0); obtain ⟨Ao65, co65, eo65⟩ := Kd.qbN HO861.out; subst eo65) | ((with_reducible refine qaz (f := 15) rfl ?_); refine qbf (some 80) rfl rfl Try.func15 (by kernel_rfl) rfl #[.slice Ao35 t842.length co35, .slice Ao65 t859.length co65] rfl (by (try simp only [List.map_toArray, List.map_cons, List.map_nil]); first | done | rfl | (simp only [List.length_drop, List.length_take]; rfl)) ?_; (with_reducible refine (qaL.calls kj20 _ _ t842 _ _ t859 true _ ?side1 ?side2 ?side3 ?side4 A56.out).mono ?_); (case side1 => repeat (first | exact (Kd.qaM HO_15.out).2.2 | (with_reducible refine Kd.qa7 ?_ _) | (with_reducible refine Kd.qa8 ?_ _) | (with_reducible refine Kd.qbm ?_))); (case side2 => exact (Kd.qaM HO_15.out).2.1); (case side3 => repeat (first | exact (Kd.qaM HO861.out).2.2 | (with_reducible refine Kd.qa7 ?_ _) | (with_reducible refine Kd.qa8 ?_ _) | (with_reducible refine Kd.qbm ?_))); (case side4 => exact (Kd.qaM HO861.out).2.1); rintro e w66 ⟨rfl, hb⟩; refine ⟨_, rfl, ?_⟩; have n0_ := Aside0.mk (Kd.qaA (by (with_reducible repeat (first | apply Kd.qar | apply Kd.qas | apply Kd.qax)); exact HO_14.out) hb); have n1_ := Aside0.mk (Kd.qaA (by (with_reducible repeat (first | apply Kd.qar | apply Kd.qas | apply Kd.qax)); exact HO_15.out) hb); have n2_ := Aside0.mk (Kd.qaA (by (with_reducible repeat (first | apply Kd.qar | apply Kd.qas | apply Kd.qax)); exact HO_839003.out) hb); have n3_ := Aside0.mk (Kd.qaA (by (with_reducible repeat (first | apply Kd.qar | apply Kd.qas | apply Kd.qax)); exact HO_854003.out) hb); have n4_ := Aside0.mk (Kd.qaA (by (with_reducible repeat (first | apply Kd.qar | apply Kd.qas | apply Kd.qax)); exact HO857.out) hb); have n5_ := Aside0.mk (Kd.qaA (by (with_reducible repeat (first | apply Kd.qar | apply Kd.qas | apply Kd.qax)); exact HO861.out) hb); have n6_ := Aside0.mk (qaB (g := gb838) (o := .cells #[.string t830, .string t831, .int .i64 t832, .slice Ao31 t833.length co31, .int .i64 t836] 48 (0, 0)) (by (with_reducible repeat (first | refine qag ?_ _ | refine qaj ?_ | refine qaf ?_ _)); exact BK838.out) hb); have n7_ := Aside0.mk (qaB (g := gb853) (o := .cells #[.string t845, .string t846, .int .i64 t847, .slice Ao40 t848.length co40, .int .i64 t851] 48 (0, 0)) (by (with_reducible repeat (first | refine qag ?_ _ | refine qaj ?_ | refine qaf ?_ _)); exact BK853.out) hb); have n8_ := Aside0.mk (qak (by repeat (first | (with_reducible first | exact HB.out | apply qac | apply qaa | apply qab | refine qai ?_ GE838.out | refine qai ?_ GE853.out) | exact HB.out)) hb); clear HO_14; clear HO_15; clear HO_839003; clear HO_854003; clear HO857; clear HO861; clear BK838; clear BK853; clear HB; have HO_14 := n0_; have HO_15 := n1_; have HO_839003 := n2_; have HO_854003 := n3_; have HO857 := n4_; have HO861 := n5_; have BK838 := n6_; have BK853 := n7_; have HB := n8_; clear n0_ n1_ n2_ n3_ n4_ n5_ n6_ n7_ n8_; (try clear hb); (try clear hb2); (try clear hk); (try clear hi)) | ((with_reducible refine qaz (f := 19) rfl ?_); refine qbf (some 84) rfl rfl Try.func19 (by kernel_rfl) rfl #[.slice Ao34 t839.length co34, .int .i64 1] rfl (by (try simp only [List.map_toArray, List.map_cons, List.map_nil]); first | done | rfl | (simp only [List.length_drop, List.length_take]; rfl)) ?_; (with_reducible refine (qaC.calls kj20 (fun k_ => some k_ = (.slice Ao34 t839.length co34 : Value).ownBlock) (.slice Ao34 t839.length co34) t839 1 t863 t864 w _ ?side1 ?side2 A58.out).mono ?_); (case side1 => repeat (first | (with_reducible first | exact HB.out | apply qac | apply qaa | apply qab | refine qai ?_ GE838.out | refine qai ?_ GE853.out) | exact HB.out)); (case side2 => exact Kd.qcV rfl HO_14.out); rintro e w67 ⟨rfl, hy0, hb, hkp⟩; refine ⟨_, rfl, ?_⟩; have n0_ := Aside0.mk (Kd.qd3 rfl hy0 (fun k_ e_ => HO_14.out.1 k_ e_)); have n1_ := Aside0.mk (Kd.qbn (ok' := fun k_ => some k_ ≠ (.slice Ao34 t839.length co34 : Value).ownBlock ∧ some k_ ≠ (.slice Ao62 t855.length co62 : Value).ownBlock ∧ some k_ ≠ (.slice Ao65 t859.length co65 : Value).ownBlock) (Kd.qck (HO_15.out) hkp (fun k_ hk_ hs_ => (hk_.1.1) hs_)) (fun k_ hk_ => ⟨hk_.1.1.1, hk_.1.1.2, hk_.1.2⟩)); have n2_ := Aside0.mk (Kd.qbn (ok' := fun k_ => some k_ ≠ (.slice Ao40 t848.length co40 : Value).ownBlock) (Kd.qck ((Kd.qdp HO_839003.out (Kd.qdv HO_14.out) (by decide))) hkp (fun k_ hk_ hs_ => (hk_.2) hs_)) (fun k_ hk_ => hk_.1.1)); have n3_ := Aside0.mk (Kd.qbn (ok' := fun k_ => some k_ ≠ (.slice Ao31 t833.length co31 : Value).ownBlock) (Kd.qck ((Kd.qdp HO_854003.out (Kd.qdv HO_14.out) (by decide))) hkp (fun k_ hk_ hs_ => (hk_.2) hs_)) (fun k_ hk_ => hk_.1.1)); have n4_ := Aside0.mk (qci (by (with_reducible repeat (first | refine qag ?_ _ | refine qaj ?_ | refine qaf ?_ _)); exact BK838.out) hkp (fun hs_ => (fun e_ => (Kd.R_ne HO_14.out BK838.out (by decide)) e_) hs_)); have n5_ := Aside0.mk (qci (by (with_reducible repeat (first | refine qag ?_ _ | refine qaj ?_ | refine qaf ?_ _)); exact BK853.out) hkp (fun hs_ => (fun e_ => (Kd.R_ne HO_14.out BK853.out (by decide)) e_) hs_)); have n6_ := Aside0.mk (Kd.qbn (ok' := fun k_ => some k_ ≠ (.slice Ao34 t839.length co34 : Value).ownBlock ∧ some k_ ≠ (.slice Ao35 t842.length co35 : Value).ownBlock ∧ some k_ ≠ (.slice Ao65 t859.length co65 : Value).ownBlock) (Kd.qck (HO857.out) hkp (fun k_ hk_ hs_ => (hk_.1.1.2) hs_)) (fun k_ hk_ => ⟨hk_.1.1.1.2, hk_.1.1.2, hk_.1.2⟩)); have n7_ := Aside0.mk (Kd.qbn (ok' := fun k_ => some k_ ≠ (.slice Ao34 t839.length co34 : Value).ownBlock ∧ some k_ ≠ (.slice Ao35 t842.length co35 : Value).ownBlock ∧ some k_ ≠ (.slice Ao62 t855.length co62 : Value).ownBlock) (Kd.qck (HO861.out) hkp (fun k_ hk_ hs_ => (hk_.1.1.2) hs_)) (fun k_ hk_ => ⟨hk_.1.1.1.2, hk_.1.1.2, hk_.1.2⟩)); have n8_ := Aside0.mk (hb); clear HO_14; clear HO_15; clear HO_839003; clear HO_854003; clear BK838; clear BK853; clear HO857; clear HO861; clear HB; have HO_14 := n0_; have HO_15 := n1_; have HO_839003 := n2_; have HO_854003 := n3_; have BK838 := n4_; have BK853 := n5_; have HO857 := n6_; have HO861 := n7_; have HB := n8_; clear n0_ n1_ n2_ n3_ n4_ n5_ n6_ n7_ n8_; (try clear hb); (try clear hkp); (try clear hy0)) | ((with_reducible refine qaz (f := 19) rfl ?_); refine qbf (some 87) rfl rfl Try.func19 (by kernel_rfl) rfl #[.slice Ao35 t842.length co35, .int .i64 t863] rfl (by (try simp only [List.map_toArray, List.map_cons, List.map_nil]); first | done | rfl | (simp only [List.length_drop, List.length_take]; rfl)) ?_; (with_reducible refine (qaC.calls kj20 (fun k_ => some k_ = (.slice Ao35 t842.length co35 : Value).ownBlock) (.slice Ao35 t842.length co35) t842 t863 t865 t866 w _ ?side1 ?side2 A59.out).mono ?_); (case side1 => repeat (first | (with_reducible first | exact HB.out | apply qac | apply qaa | apply qab | refine qai ?_ GE838.out | refine qai ?_ GE853.out) | exact HB.out)); (case side2 => exact Kd.qcV rfl HO_15.out); rintro e w68 ⟨rfl, hy0, hb, hkp⟩; refine ⟨_, rfl, ?_⟩; have n0_ := Aside0.mk (Kd.qbn (ok' := fun k_ => some k_ ≠ (.slice Ao35 t842.length co35 : Value).ownBlock ∧ some k_ ≠ (.slice Ao62 t855.length co62 : Value).ownBlock ∧ some k_ ≠ (.slice Ao65 t859.length co65 : Value).ownBlock) (Kd.qck (HO_14.out) hkp (fun k_ hk_ hs_ => (hk_.1.1) hs_)) (fun k_ hk_ => ⟨hk_.1.1.1, hk_.1.1.2, hk_.1.2⟩)); have n1_ := Aside0.mk (Kd.qd3 rfl hy0 (fun k_ e_ => HO_15.out.1 k_ e_)); have n2_ := Aside0.mk (Kd.qbn (ok' := fun k_ => some k_ ≠ (.slice Ao40 t848.length co40 : Value).ownBlock) (Kd.qck ((Kd.qdp HO_839003.out (Kd.qdv HO_15.out) (by decide))) hkp (fun k_ hk_ hs_ => (hk_.2) hs_)) (fun k_ hk_ => hk_.1.1)); have n3_ := Aside0.mk (Kd.qbn (ok' := fun k_ => some k_ ≠ (.slice Ao31 t833.length co31 : Value).ownBlock) (Kd.qck ((Kd.qdp HO_854003.out (Kd.qdv HO_15.out) (by decide))) hkp (fun k_ hk_ hs_ => (hk_.2) hs_)) (fun k_ hk_ => hk_.1.1)); have n4_ := Aside0.mk (qci (by (with_reducible repeat (first | refine qag ?_ _ | refine qaj ?_ | refine qaf ?_ _)); exact BK838.out) hkp (fun hs_ => (fun e_ => (Kd.R_ne HO_15.out BK838.out (by decide)) e_) hs_)); have n5_ := Aside0.mk (qci (by (with_reducible repeat (first | refine qag ?_ _ | refine qaj ?_ | refine qaf ?_ _)); exact BK853.out) hkp (fun hs_ => (fun e_ => (Kd.R_ne HO_15.out BK853.out (by decide)) e_) hs_)); have n6_ := Aside0.mk (Kd.qbn (ok' := fun k_ => some k_ ≠ (.slice Ao34 t839.length co34 : Value).ownBlock ∧ some k_ ≠ (.slice Ao35 t842.length co35 : Value).ownBlock ∧ some k_ ≠ (.slice Ao65 t859.length co65 : Value).ownBlock) (Kd.qck (HO857.out) hkp (fun k_ hk_ hs_ => (hk_.2.1) hs_)) (fun k_ hk_ => ⟨hk_.1.1, hk_.1.2.1, hk_.1.2.2⟩)); have n7_ := Aside0.mk (Kd.qbn (ok' := fun k_ => some k_ ≠ (.slice Ao34 t839.length co34 : Value).ownBlock ∧ some k_ ≠ (.slice Ao35 t842.length co35 : Value).ownBlock ∧ some k_ ≠ (.slice Ao62 t855.length co62 : Value).ownBlock) (Kd.qck (HO861.out) hkp (fun k_ hk_ hs_ => (hk_.2.1) hs_)) (fun k_ hk_ => ⟨hk_.1.1, hk_.1.2.1, hk_.1.2.2⟩)); have n8_ := Aside0.mk (hb); clear HO_14; clear HO_15; clear HO_839003; clear HO_854003; clear BK838; clear BK853; clear HO857; clear HO861; clear HB; have HO_14 := n0_; have HO_15 := n1_; have HO_839003 := n2_; have HO_854003 := n3_; have BK838 := n4_; have BK853 := n5_; have HO857 := n6_; have HO861 := n7_; have HB := n8_; clear n0_ n1_ n2_ n3_ n4_ n5_ n6_ n7_ n8_; (try clear hb); (try clear hkp); (try clear hy0)))
          (try simp only [Act.put, List.setIfInBounds_toArray, List.set_cons_zero, List.set_cons_succ])
          go_cut [100] (fun v100 wc => ∃ (kq : Nat) (x100_59 : Bool), v100 = .bool x100_59 ∧ Aside0 (qae.j1 kq a0 a1 a2 l3 l4 t837 x100_59 t830 t831 t832 t833 t836 t845 t846 t847 t848 t851 = some r) ∧ Aside0 (kq ≤ kj20) ∧ Aside0 (Kd.R k82 82 wc w.heap.size (fun k_ => some k_ ≠ ((.slice Ao40 t848.length co40) : Value).ownBlock) (.slice Ao31 t833.length co31) t833) ∧ Aside0 (Kd.R k82 82 wc w.heap.size (fun k_ => some k_ ≠ ((.slice Ao31 t833.length co31) : Value).ownBlock) (.slice Ao40 t848.length co40) t848) ∧ Aside0 (wc.heap[gb838]? = some (.cells #[.string t830, .string t831, .int .i64 t832, (.slice Ao31 t833.length co31), .int .i64 t836] 48 (0, 0))) ∧ Aside0 (wc.heap[gb853]? = some (.cells #[.string t845, .string t846, .int .i64 t847, (.slice Ao40 t848.length co40), .int .i64 t851] 48 (0, 0))) ∧ Aside0 (Below w.heap.size w wc))
          case first =>
           have H := HC60.out
           clear HC60
           by_cases c69 : t865 < 0
           ·rw [if_pos c69] at H
            have c69b0 : decide (t865 < 0) = true := decide_eq_true c69
            clear c69
            (first | rw [c69b0] | (simp only [qbh, qbi]; rw [c69b0]) | skip)
            have H' := Aside0.mk H
            clear H
            go_wp2
            go_meet
            case rel => exact ⟨_, (true), (by first | rfl | (simp; done) | (simp [*]; done)), H', ⟨by have := HJ20.out; first | omega | exact Nat.le_refl _⟩, ⟨by (with_reducible repeat (first | apply Kd.qar | apply Kd.qas | apply Kd.qax)); exact HO_839003.out⟩, ⟨by (with_reducible repeat (first | apply Kd.qar | apply Kd.qas | apply Kd.qax)); exact HO_854003.out⟩, ⟨by (with_reducible repeat (first | refine qag ?_ _ | refine qaj ?_ | refine qaf ?_ _)); exact BK838.out⟩, ⟨by (with_reducible repeat (first | refine qag ?_ _ | refine qaj ?_ | refine qaf ?_ _)); exact BK853.out⟩, ⟨by repeat (first | (with_reducible first | exact HB.out | apply qac | apply qaa | apply qab | refine qai ?_ GE838.out | refine qai ?_ GE853.out) | exact HB.out)⟩⟩
           ·rw [if_neg c69] at H
            have c69b0 : decide (t865 < 0) = false := decide_eq_false c69
            clear c69
            (first | rw [c69b0] | (simp only [qbh, qbi]; rw [c69b0]) | skip)
            replace H := Option.bind_eq_some_iff.mp H
            obtain ⟨t867, A700, H⟩ := H
            replace H : (if t867 = true then (qae.j1 kj20 a0 a1 a2 l3 l4 t837 (t852 != t837) t830 t831 t832 t833 t836 t845 t846 t847 t848 t851) else (qae.j1 kj20 a0 a1 a2 l3 l4 t837 true t830 t831 t832 t833 t836 t845 t846 t847 t848 t851)) = some r := H
            have A70 := Aside0.mk A700
            clear A700
            by_cases c71 : t867 = true
            ·subst c71
             have H1 : (qae.j1 kj20 a0 a1 a2 l3 l4 t837 (t852 != t837) t830 t831 t832 t833 t836 t845 t846 t847 t848 t851) = some r := by rw [if_pos rfl] at H; exact H
             clear H
             have H := H1
             clear H1
             have H' := Aside0.mk H
             clear H
             have hnb72 := NB853_838.out
             have hnc72 := NB838_853.out
             have hcz73_0 : w68.cell? ⟨gb853, 0, none⟩ = some (.string t845) := (qah BK853.out 0).trans rfl
             have hcz73_1 : w68.cell? ⟨gb853, 1, none⟩ = some (.string t846) := (qah BK853.out 1).trans rfl
             have hcz73_2 : w68.cell? ⟨gb853, 2, none⟩ = some (.int .i64 t847) := (qah BK853.out 2).trans rfl
             have hcz73_3 : w68.cell? ⟨gb853, 3, none⟩ = some (.slice Ao40 t848.length co40) := (qah BK853.out 3).trans rfl
             have hcz73_4 : w68.cell? ⟨gb853, 4, none⟩ = some (.int .i64 t851) := (qah BK853.out 4).trans rfl
             have hfz73_0 := qad BK853.out 0
             have hfz73_1 := qad BK853.out 1
             have hfz73_2 := qad BK853.out 2
             have hfz73_3 := qad BK853.out 3
             have hfz73_4 := qad BK853.out 4
             have hcz74_0 : w68.cell? ⟨gb838, 0, none⟩ = some (.string t830) := (qah BK838.out 0).trans rfl
             have hcz74_1 : w68.cell? ⟨gb838, 1, none⟩ = some (.string t831) := (qah BK838.out 1).trans rfl
             have hcz74_2 : w68.cell? ⟨gb838, 2, none⟩ = some (.int .i64 t832) := (qah BK838.out 2).trans rfl
             have hcz74_3 : w68.cell? ⟨gb838, 3, none⟩ = some (.slice Ao31 t833.length co31) := (qah BK838.out 3).trans rfl
             have hcz74_4 : w68.cell? ⟨gb838, 4, none⟩ = some (.int .i64 t836) := (qah BK838.out 4).trans rfl
             have hfz74_0 := qad BK838.out 0
             have hfz74_1 := qad BK838.out 1
             have hfz74_2 := qad BK838.out 2
             have hfz74_3 := qad BK838.out 3
             have hfz74_4 := qad BK838.out 4
             go_wp2_with (first | (go_at_call 31; (with_reducible refine (qaO.calls kj20 t845 t846 t847 _ _ t848 t851 t830 t831 t832 _ _ t833 t836 true _ ?side1 ?side2 ?side3 ?side4 A70.out).mono ?_); (case side1 => repeat (first | exact (Kd.qaM HO_854003.out).2.2 | (with_reducible refine Kd.qa7 ?_ _) | (with_reducible refine Kd.qa8 ?_ _) | (with_reducible refine Kd.qbm ?_))); (case side2 => exact (Kd.qaM HO_854003.out).2.1); (case side3 => repeat (first | exact (Kd.qaM HO_839003.out).2.2 | (with_reducible refine Kd.qa7 ?_ _) | (with_reducible refine Kd.qa8 ?_ _) | (with_reducible refine Kd.qbm ?_))); (case side4 => exact (Kd.qaM HO_839003.out).2.1); rintro e w75 ⟨rfl, hb⟩; have n0_ := Aside0.mk (Kd.qaA (by (with_reducible repeat (first | apply Kd.qar | apply Kd.qas | apply Kd.qax)); exact HO_14.out) hb); have n1_ := Aside0.mk (Kd.qaA (by (with_reducible repeat (first | apply Kd.qar | apply Kd.qas | apply Kd.qax)); exact HO_15.out) hb); have n2_ := Aside0.mk (Kd.qaA (by (with_reducible repeat (first | apply Kd.qar | apply Kd.qas | apply Kd.qax)); exact HO_839003.out) hb); have n3_ := Aside0.mk (Kd.qaA (by (with_reducible repeat (first | apply Kd.qar | apply Kd.qas | apply Kd.qax)); exact HO_854003.out) hb); have n4_ := Aside0.mk (Kd.qaA (by (with_reducible repeat (first | apply Kd.qar | apply Kd.qas | apply Kd.qax)); exact HO857.out) hb); have n5_ := Aside0.mk (Kd.qaA (by (with_reducible repeat (first | apply Kd.qar | apply Kd.qas | apply Kd.qax)); exact HO861.out) hb); have n6_ := Aside0.mk (qaB (g := gb838) (o := .cells #[.string t830, .string t831, .int .i64 t832, .slice Ao31 t833.length co31, .int .i64 t836] 48 (0, 0)) (by (with_reducible repeat (first | refine qag ?_ _ | refine qaj ?_ | refine qaf ?_ _)); exact BK838.out) hb); have n7_ := Aside0.mk (qaB (g := gb853) (o := .cells #[.string t845, .string t846, .int .i64 t847, .slice Ao40 t848.length co40, .int .i64 t851] 48 (0, 0)) (by (with_reducible repeat (first | refine qag ?_ _ | refine qaj ?_ | refine qaf ?_ _)); exact BK853.out) hb); have n8_ := Aside0.mk (qak (by repeat (first | (with_reducible first | exact HB.out | apply qac | apply qaa | apply qab | refine qai ?_ GE838.out | refine qai ?_ GE853.out) | exact HB.out)) hb); clear HO_14; clear HO_15; clear HO_839003; clear HO_854003; clear HO857; clear HO861; clear BK838; clear BK853; clear HB; have HO_14 := n0_; have HO_15 := n1_; have HO_839003 := n2_; have HO_854003 := n3_; have HO857 := n4_; have HO861 := n5_; have BK838 := n6_; have BK853 := n7_; have HB := n8_; clear n0_ n1_ n2_ n3_ n4_ n5_ n6_ n7_ n8_; (try clear hb); (try clear hb2); (try clear hk); (try clear hi)))
             go_meet
             case rel => exact ⟨_, ((t852 != t837)), (by first | rfl | (simp; done) | (simp [*]; done)), H', ⟨by have := HJ20.out; first | omega | exact Nat.le_refl _⟩, ⟨by (with_reducible repeat (first | apply Kd.qar | apply Kd.qas | apply Kd.qax)); exact HO_839003.out⟩, ⟨by (with_reducible repeat (first | apply Kd.qar | apply Kd.qas | apply Kd.qax)); exact HO_854003.out⟩, ⟨by (with_reducible repeat (first | refine qag ?_ _ | refine qaj ?_ | refine qaf ?_ _)); exact BK838.out⟩, ⟨by (with_reducible repeat (first | refine qag ?_ _ | refine qaj ?_ | refine qaf ?_ _)); exact BK853.out⟩, ⟨by repeat (first | (with_reducible first | exact HB.out | apply qac | apply qaa | apply qab | refine qai ?_ GE838.out | refine qai ?_ GE853.out) | exact HB.out)⟩⟩
            ·replace c71 := Bool.eq_false_iff.mpr c71
             subst c71
             have H1 : (qae.j1 kj20 a0 a1 a2 l3 l4 t837 true t830 t831 t832 t833 t836 t845 t846 t847 t848 t851) = some r := by rw [if_neg (show ¬ (false = true) by decide)] at H; exact H
             clear H
             have H := H1
             clear H1
             have H' := Aside0.mk H
             clear H
             have hnb76 := NB853_838.out
             have hnc76 := NB838_853.out
             have hcz77_0 : w68.cell? ⟨gb853, 0, none⟩ = some (.string t845) := (qah BK853.out 0).trans rfl
             have hcz77_1 : w68.cell? ⟨gb853, 1, none⟩ = some (.string t846) := (qah BK853.out 1).trans rfl
             have hcz77_2 : w68.cell? ⟨gb853, 2, none⟩ = some (.int .i64 t847) := (qah BK853.out 2).trans rfl
             have hcz77_3 : w68.cell? ⟨gb853, 3, none⟩ = some (.slice Ao40 t848.length co40) := (qah BK853.out 3).trans rfl
             have hcz77_4 : w68.cell? ⟨gb853, 4, none⟩ = some (.int .i64 t851) := (qah BK853.out 4).trans rfl
             have hfz77_0 := qad BK853.out 0
             have hfz77_1 := qad BK853.out 1
             have hfz77_2 := qad BK853.out 2
             have hfz77_3 := qad BK853.out 3
             have hfz77_4 := qad BK853.out 4
             have hcz78_0 : w68.cell? ⟨gb838, 0, none⟩ = some (.string t830) := (qah BK838.out 0).trans rfl
             have hcz78_1 : w68.cell? ⟨gb838, 1, none⟩ = some (.string t831) := (qah BK838.out 1).trans rfl
             have hcz78_2 : w68.cell? ⟨gb838, 2, none⟩ = some (.int .i64 t832) := (qah BK838.out 2).trans rfl
             have hcz78_3 : w68.cell? ⟨gb838, 3, none⟩ = some (.slice Ao31 t833.length co31) := (qah BK838.out 3).trans rfl
             have hcz78_4 : w68.cell? ⟨gb838, 4, none⟩ = some (.int .i64 t836) := (qah BK838.out 4).trans rfl
             have hfz78_0 := qad BK838.out 0
             have hfz78_1 := qad BK838.out 1
             have hfz78_2 := qad BK838.out 2
             have hfz78_3 := qad BK838.out 3
             have hfz78_4 := qad BK838.out 4
             go_wp2_with (first | (go_at_call 31; (with_reducible refine (qaO.calls kj20 t845 t846 t847 _ _ t848 t851 t830 t831 t832 _ _ t833 t836 false _ ?side1 ?side2 ?side3 ?side4 A70.out).mono ?_); (case side1 => repeat (first | exact (Kd.qaM HO_854003.out).2.2 | (with_reducible refine Kd.qa7 ?_ _) | (with_reducible refine Kd.qa8 ?_ _) | (with_reducible refine Kd.qbm ?_))); (case side2 => exact (Kd.qaM HO_854003.out).2.1); (case side3 => repeat (first | exact (Kd.qaM HO_839003.out).2.2 | (with_reducible refine Kd.qa7 ?_ _) | (with_reducible refine Kd.qa8 ?_ _) | (with_reducible refine Kd.qbm ?_))); (case side4 => exact (Kd.qaM HO_839003.out).2.1); rintro e w79 ⟨rfl, hb⟩; have n0_ := Aside0.mk (Kd.qaA (by (with_reducible repeat (first | apply Kd.qar | apply Kd.qas | apply Kd.qax)); exact HO_14.out) hb); have n1_ := Aside0.mk (Kd.qaA (by (with_reducible repeat (first | apply Kd.qar | apply Kd.qas | apply Kd.qax)); exact HO_15.out) hb); have n2_ := Aside0.mk (Kd.qaA (by (with_reducible repeat (first | apply Kd.qar | apply Kd.qas | apply Kd.qax)); exact HO_839003.out) hb); have n3_ := Aside0.mk (Kd.qaA (by (with_reducible repeat (first | apply Kd.qar | apply Kd.qas | apply Kd.qax)); exact HO_854003.out) hb); have n4_ := Aside0.mk (Kd.qaA (by (with_reducible repeat (first | apply Kd.qar | apply Kd.qas | apply Kd.qax)); exact HO857.out) hb); have n5_ := Aside0.mk (Kd.qaA (by (with_reducible repeat (first | apply Kd.qar | apply Kd.qas | apply Kd.qax)); exact HO861.out) hb); have n6_ := Aside0.mk (qaB (g := gb838) (o := .cells #[.string t830, .string t831, .int .i64 t832, .slice Ao31 t833.length co31, .int .i64 t836] 48 (0, 0)) (by (with_reducible repeat (first | refine qag ?_ _ | refine qaj ?_ | refine qaf ?_ _)); exact BK838.out) hb); have n7_ := Aside0.mk (qaB (g := gb853) (o := .cells #[.string t845, .string t846, .int .i64 t847, .slice Ao40 t848.length co40, .int .i64 t851] 48 (0, 0)) (by (with_reducible repeat (first | refine qag ?_ _ | refine qaj ?_ | refine qaf ?_ _)); exact BK853.out) hb); have n8_ := Aside0.mk (qak (by repeat (first | (with_reducible first | exact HB.out | apply qac | apply qaa | apply qab | refine qai ?_ GE838.out | refine qai ?_ GE853.out) | exact HB.out)) hb); clear HO_14; clear HO_15; clear HO_839003; clear HO_854003; clear HO857; clear HO861; clear BK838; clear BK853; clear HB; have HO_14 := n0_; have HO_15 := n1_; have HO_839003 := n2_; have HO_854003 := n3_; have HO857 := n4_; have HO861 := n5_; have BK838 := n6_; have BK853 := n7_; have HB := n8_; clear n0_ n1_ n2_ n3_ n4_ n5_ n6_ n7_ n8_; (try clear hb); (try clear hb2); (try clear hk); (try clear hi)))
             go_meet
             case rel => exact ⟨_, (true), (by first | rfl | (simp; done) | (simp [*]; done)), H', ⟨by have := HJ20.out; first | omega | exact Nat.le_refl _⟩, ⟨by (with_reducible repeat (first | apply Kd.qar | apply Kd.qas | apply Kd.qax)); exact HO_839003.out⟩, ⟨by (with_reducible repeat (first | apply Kd.qar | apply Kd.qas | apply Kd.qax)); exact HO_854003.out⟩, ⟨by (with_reducible repeat (first | refine qag ?_ _ | refine qaj ?_ | refine qaf ?_ _)); exact BK838.out⟩, ⟨by (with_reducible repeat (first | refine qag ?_ _ | refine qaj ?_ | refine qaf ?_ _)); exact BK853.out⟩, ⟨by repeat (first | (with_reducible first | exact HB.out | apply qac | apply qaa | apply qab | refine qai ?_ GE838.out | refine qai ?_ GE853.out) | exact HB.out)⟩⟩
          case rest =>
           clear HC60
           try clear c1
           try clear p2
           try clear c3
           try clear c4
           try clear c5
           try clear c6
           try clear c6b0
           try clear c6b1
           try clear c7
           try clear c7b0
           try clear c7b1
           try clear c8
           try clear c9
           try clear c9b0
           try clear c11
           try clear c12
           try clear c12b0
           try clear c13
           try clear c15
           try clear c19
           try clear c31
           try clear c38
           try clear c39
           try clear c42
           try clear c43
           try clear c47
           try clear c51
           try clear c54
           try clear c57
           try clear c69
           try clear c69b0
           try clear c71
           try clear c72
           try clear c76
           try clear hcz30_0
           try clear hcz30_1
           try clear hcz30_2
           try clear hcz30_3
           try clear hcz30_4
           try clear hcz39_0
           try clear hcz39_1
           try clear hcz39_2
           try clear hcz39_3
           try clear hcz39_4
           try clear hcz44_0
           try clear hcz44_1
           try clear hcz44_2
           try clear hcz44_3
           try clear hcz44_4
           try clear hcz45_0
           try clear hcz45_1
           try clear hcz45_2
           try clear hcz45_3
           try clear hcz45_4
           try clear hcz48_0
           try clear hcz48_1
           try clear hcz48_2
           try clear hcz48_3
           try clear hcz48_4
           try clear hcz49_0
           try clear hcz49_1
           try clear hcz49_2
           try clear hcz49_3
           try clear hcz49_4
           try clear hcz73_0
           try clear hcz73_1
           try clear hcz73_2
           try clear hcz73_3
           try clear hcz73_4
           try clear hcz74_0
           try clear hcz74_1
           try clear hcz74_2
           try clear hcz74_3
           try clear hcz74_4
           try clear hcz77_0
           try clear hcz77_1
           try clear hcz77_2
           try clear hcz77_3
           try clear hcz77_4
           try clear hcz78_0
           try clear hcz78_1
           try clear hcz78_2
           try clear hcz78_3
           try clear hcz78_4
           try clear hfz30_0
           try clear hfz30_1
           try clear hfz30_2
           try clear hfz30_3
           try clear hfz30_4
           try clear hfz39_0
           try clear hfz39_1
           try clear hfz39_2
           try clear hfz39_3
           try clear hfz39_4
           try clear hfz44_0
           try clear hfz44_1
           try clear hfz44_2
           try clear hfz44_3
           try clear hfz44_4
           try clear hfz45_0
           try clear hfz45_1
           try clear hfz45_2
           try clear hfz45_3
           try clear hfz45_4
           try clear hfz48_0
           try clear hfz48_1
           try clear hfz48_2
           try clear hfz48_3
           try clear hfz48_4
           try clear hfz49_0
           try clear hfz49_1
           try clear hfz49_2
           try clear hfz49_3
           try clear hfz49_4
           try clear hfz73_0
           try clear hfz73_1
           try clear hfz73_2
           try clear hfz73_3
           try clear hfz73_4
           try clear hfz74_0
           try clear hfz74_1
           try clear hfz74_2
           try clear hfz74_3
           try clear hfz74_4
           try clear hfz77_0
           try clear hfz77_1
           try clear hfz77_2
           try clear hfz77_3
           try clear hfz77_4
           try clear hfz78_0
           try clear hfz78_1
           try clear hfz78_2
           try clear hfz78_3
           try clear hfz78_4
           try clear p2
           obtain ⟨kq, x100_59, rfl, HA, HJ59, HO_839003, HO_854003, BK838, BK853, HB⟩ := hcut
           cases kq with
           | zero => exact absurd HA.out (by simp [qae.j1])
           | succ kj59 =>
            have H := HA.out
            clear HA
            simp only [qae.j1] at H
            by_cases c80 : x100_59 = true
            ·subst c80
             have H1 : (some false) = some r := by rw [if_pos rfl] at H; exact H
             clear H
             have H := H1
             clear H1
             obtain rfl := Option.some.inj H
             go_wp2
             go_ret
             exact ⟨by first | rfl | (simp [qam, qan] <;> rfl) | (simp [*, qam, qan] <;> rfl), by repeat (first | (with_reducible first | exact HB.out | apply qac | apply qaa | apply qab | refine qai ?_ GE838.out | refine qai ?_ GE853.out) | exact HB.out)⟩
            ·replace c80 := Bool.eq_false_iff.mpr c80
             subst c80
             have H1 : ((qbk.f kj59 t845 t846 t847 t848 t851 1).bind fun bt868 => ((qa9.f kj59 t845 t846 t847 bt868.2 t851 1).bind fun t870 => (if t870 < 0 then (some false) else (if t870 = bt868.1 then ((qay.f kj59 l3).bind fun t871 => ((qay.f kj59 l4).bind fun t874 => ((qat.f kj59 a0 a1 a2 t871 t874).bind fun bt877 => ((qaO.f kj59 bt877.1 bt877.2.1 bt877.2.2.1 bt877.2.2.2.1 bt877.2.2.2.2.1 t830 t831 t832 t833 t836).bind fun t886 => (if t886 = true then (qae.j2 kj59 bt868.1 (bt877.2.2.2.2.2 != t837) t845 t846 t847 bt868.2 t851) else (qae.j2 kj59 bt868.1 true t845 t846 t847 bt868.2 t851)))))) else (some false))))) = some r := by rw [if_neg (show ¬ (false = true) by decide)] at H; exact H
             clear H
             have H := H1
             clear H1
             replace H := Option.bind_eq_some_iff.mp H
             obtain ⟨⟨t868, t869⟩, A810, H⟩ := H
             replace H : ((qa9.f kj59 t845 t846 t847 t869 t851 1).bind fun t870 => (if t870 < 0 then (some false) else (if t870 = t868 then ((qay.f kj59 l3).bind fun t871 => ((qay.f kj59 l4).bind fun t874 => ((qat.f kj59 a0 a1 a2 t871 t874).bind fun bt877 => ((qaO.f kj59 bt877.1 bt877.2.1 bt877.2.2.1 bt877.2.2.2.1 bt877.2.2.2.2.1 t830 t831 t832 t833 t836).bind fun t886 => (if t886 = true then (qae.j2 kj59 t868 (bt877.2.2.2.2.2 != t837) t845 t846 t847 t869 t851) else (qae.j2 kj59 t868 true t845 t846 t847 t869 t851)))))) else (some false)))) = some r := H
             have A81 := Aside0.mk A810
             clear A810
             replace H := Option.bind_eq_some_iff.mp H
             obtain ⟨t870, A820, H⟩ := H
             replace H : (if t870 < 0 then (some false) else (if t870 = t868 then ((qay.f kj59 l3).bind fun t871 => ((qay.f kj59 l4).bind fun t874 => ((qat.f kj59 a0 a1 a2 t871 t874).bind fun bt877 => ((qaO.f kj59 bt877.1 bt877.2.1 bt877.2.2.1 bt877.2.2.2.1 bt877.2.2.2.2.1 t830 t831 t832 t833 t836).bind fun t886 => (if t886 = true then (qae.j2 kj59 t868 (bt877.2.2.2.2.2 != t837) t845 t846 t847 t869 t851) else (qae.j2 kj59 t868 true t845 t846 t847 t869 t851)))))) else (some false))) = some r := H
             have A82 := Aside0.mk A820
             clear A820
             by_cases c83 : t870 < 0
             ·rw [if_pos c83] at H
              have c83b0 : decide (t870 < 0) = true := decide_eq_true c83
              clear c83
              obtain rfl := Option.some.inj H
              have hnb84 := NB853_838.out
              have hnc84 := NB838_853.out
              have hcz85_0 : wc.cell? ⟨gb853, 0, none⟩ = some (.string t845) := (qah BK853.out 0).trans rfl
              have hcz85_1 : wc.cell? ⟨gb853, 1, none⟩ = some (.string t846) := (qah BK853.out 1).trans rfl
              have hcz85_2 : wc.cell? ⟨gb853, 2, none⟩ = some (.int .i64 t847) := (qah BK853.out 2).trans rfl
              have hcz85_3 : wc.cell? ⟨gb853, 3, none⟩ = some (.slice Ao40 t848.length co40) := (qah BK853.out 3).trans rfl
              have hcz85_4 : wc.cell? ⟨gb853, 4, none⟩ = some (.int .i64 t851) := (qah BK853.out 4).trans rfl
              have hfz85_0 := qad BK853.out 0
              have hfz85_1 := qad BK853.out 1
              have hfz85_2 := qad BK853.out 2
              have hfz85_3 := qad BK853.out 3
              have hfz85_4 := qad BK853.out 4
              go_wp2_with (first | ((with_reducible refine qaz (f := 35) rfl ?_); refine qbf (some 103) rfl rfl Try.func35 (by kernel_rfl) rfl #[.agg #[.string t845, .string t846, .int .i64 t847, .slice Ao40 t848.length co40, .int .i64 t851], .int .i64 1] rfl (by (try simp only [List.map_toArray, List.map_cons, List.map_nil]); first | done | rfl | (simp only [List.length_drop, List.length_take]; rfl)) ?_; (with_reducible refine (qbk.calls kj59 t845 t846 t847 (fun k_ => some k_ = (.slice Ao40 t848.length co40 : Value).ownBlock) (.slice Ao40 t848.length co40) t848 t851 1 t868 t869 w _ ?side1 ?side2 A81.out).mono ?_); (case side1 => repeat (first | (with_reducible first | exact HB.out | apply qac | apply qaa | apply qab | refine qai ?_ GE838.out | refine qai ?_ GE853.out) | exact HB.out)); (case side2 => exact Kd.qcV rfl HO_854003.out); rintro e w86 ⟨rfl, hy0, hb, hkp⟩; refine ⟨_, rfl, ?_⟩; have n0_ := Aside0.mk (Kd.qbn (ok' := fun k_ => some k_ ≠ (.slice Ao40 t848.length co40 : Value).ownBlock) (Kd.qck (HO_839003.out) hkp (fun k_ hk_ hs_ => (hk_) hs_)) (fun k_ hk_ => hk_.1)); have n1_ := Aside0.mk (Kd.qd3 rfl hy0 (fun k_ e_ => HO_854003.out.1 k_ e_)); have n2_ := Aside0.mk (qci (by (with_reducible repeat (first | refine qag ?_ _ | refine qaj ?_ | refine qaf ?_ _)); exact BK838.out) hkp (fun hs_ => (fun e_ => (Kd.R_ne HO_854003.out BK838.out (by decide)) e_) hs_)); have n3_ := Aside0.mk (qci (by (with_reducible repeat (first | refine qag ?_ _ | refine qaj ?_ | refine qaf ?_ _)); exact BK853.out) hkp (fun hs_ => (fun e_ => (Kd.R_ne HO_854003.out BK853.out (by decide)) e_) hs_)); have n4_ := Aside0.mk (hb); clear HO_839003; clear HO_854003; clear BK838; clear BK853; clear HB; have HO_839003 := n0_; have HO_854003 := n1_; have BK838 := n2_; have BK853 := n3_; have HB := n4_; clear n0_ n1_ n2_ n3_ n4_; (try clear hb); (try clear hkp); (try clear hy0); have hcz87_0 : w86.cell? ⟨gb853, 0, none⟩ = some (.string t845) := (qah BK853.out 0).trans rfl; have hcz87_1 : w86.cell? ⟨gb853, 1, none⟩ = some (.string t846) := (qah BK853.out 1).trans rfl; have hcz87_2 : w86.cell? ⟨gb853, 2, none⟩ = some (.int .i64 t847) := (qah BK853.out 2).trans rfl; have hcz87_3 : w86.cell? ⟨gb853, 3, none⟩ = some (.slice Ao40 t848.length co40) := (qah BK853.out 3).trans rfl; have hcz87_4 : w86.cell? ⟨gb853, 4, none⟩ = some (.int .i64 t851) := (qah BK853.out 4).trans rfl; have hfz87_0 := qad BK853.out 0; have hfz87_1 := qad BK853.out 1; have hfz87_2 := qad BK853.out 2; have hfz87_3 := qad BK853.out 3; have hfz87_4 := qad BK853.out 4) | ((with_reducible refine qaz (f := 40) rfl ?_); refine qbf (some 106) rfl rfl Try.func40 (by kernel_rfl) rfl #[.agg #[.string t845, .string t846, .int .i64 t847, .slice Ao40 t869.length co40, .int .i64 t851], .int .i64 1] rfl (by (try simp only [List.map_toArray, List.map_cons, List.map_nil]); first | done | (rw [show t869.length = t848.length from (Kd.qaM HO_854003.out).1.symm] <;> rfl) | rfl | (simp only [List.length_drop, List.length_take]; rfl)) ?_; (with_reducible refine (qa9.calls kj59 t845 t846 t847 _ _ t869 t851 1 t870 _ ?side1 ?side2 A82.out).mono ?_); (case side1 => repeat (first | exact (Kd.qaM HO_854003.out).2.2 | (with_reducible refine Kd.qa7 ?_ _) | (with_reducible refine Kd.qa8 ?_ _) | (with_reducible refine Kd.qbm ?_))); (case side2 => rw [show t869.length = t848.length from (Kd.qaM HO_854003.out).1.symm]; exact (Kd.qaM HO_854003.out).2.1); rintro e w88 ⟨rfl, hb⟩; refine ⟨_, rfl, ?_⟩; have n0_ := Aside0.mk (Kd.qaA (by (with_reducible repeat (first | apply Kd.qar | apply Kd.qas | apply Kd.qax)); exact HO_839003.out) hb); have n1_ := Aside0.mk (Kd.qaA (by (with_reducible repeat (first | apply Kd.qar | apply Kd.qas | apply Kd.qax)); exact HO_854003.out) hb); have n2_ := Aside0.mk (qaB (g := gb838) (o := .cells #[.string t830, .string t831, .int .i64 t832, .slice Ao31 t833.length co31, .int .i64 t836] 48 (0, 0)) (by (with_reducible repeat (first | refine qag ?_ _ | refine qaj ?_ | refine qaf ?_ _)); exact BK838.out) hb); have n3_ := Aside0.mk (qaB (g := gb853) (o := .cells #[.string t845, .string t846, .int .i64 t847, .slice Ao40 t848.length co40, .int .i64 t851] 48 (0, 0)) (by (with_reducible repeat (first | refine qag ?_ _ | refine qaj ?_ | refine qaf ?_ _)); exact BK853.out) hb); have n4_ := Aside0.mk (qak (by repeat (first | (with_reducible first | exact HB.out | apply qac | apply qaa | apply qab | refine qai ?_ GE838.out | refine qai ?_ GE853.out) | exact HB.out)) hb); clear HO_839003; clear HO_854003; clear BK838; clear BK853; clear HB; have HO_839003 := n0_; have HO_854003 := n1_; have BK838 := n2_; have BK853 := n3_; have HB := n4_; clear n0_ n1_ n2_ n3_ n4_; (try clear hb); (try clear hb2); (try clear hk); (try clear hi)))
              go_ret
              exact ⟨by first | rfl | (simp [qam, qan] <;> rfl) | (simp [*, qam, qan] <;> rfl), by repeat (first | (with_reducible first | exact HB.out | apply qac | apply qaa | apply qab | refine qai ?_ GE838.out | refine qai ?_ GE853.out) | exact HB.out)⟩
             ·rw [if_neg c83] at H
              have c83b0 : decide (t870 < 0) = false := decide_eq_false c83
              clear c83
              by_cases c89 : t870 = t868
              ·rw [if_pos c89] at H
               have c89b0 : (t870 == t868) = true := beq_iff_eq.mpr c89
               have c89b1 : (t870 != t868) = false := bne_eq_false_iff_eq.mpr c89
               clear c89
               replace H := Option.bind_eq_some_iff.mp H
               obtain ⟨t871, A900, H⟩ := H
               replace H : ((qay.f kj59 l4).bind fun t874 => ((qat.f kj59 a0 a1 a2 t871 t874).bind fun bt877 => ((qaO.f kj59 bt877.1 bt877.2.1 bt877.2.2.1 bt877.2.2.2.1 bt877.2.2.2.2.1 t830 t831 t832 t833 t836).bind fun t886 => (if t886 = true then (qae.j2 kj59 t868 (bt877.2.2.2.2.2 != t837) t845 t846 t847 t869 t851) else (qae.j2 kj59 t868 true t845 t846 t847 t869 t851))))) = some r := H
               have A90 := Aside0.mk A900
               clear A900
               replace H := Option.bind_eq_some_iff.mp H
               obtain ⟨t874, A910, H⟩ := H
               replace H : ((qat.f kj59 a0 a1 a2 t871 t874).bind fun bt877 => ((qaO.f kj59 bt877.1 bt877.2.1 bt877.2.2.1 bt877.2.2.2.1 bt877.2.2.2.2.1 t830 t831 t832 t833 t836).bind fun t886 => (if t886 = true then (qae.j2 kj59 t868 (bt877.2.2.2.2.2 != t837) t845 t846 t847 t869 t851) else (qae.j2 kj59 t868 true t845 t846 t847 t869 t851)))) = some r := H
               have A91 := Aside0.mk A910
               clear A910
               replace H := Option.bind_eq_some_iff.mp H
               obtain ⟨⟨t877, t878, t879, t880, t883, t884⟩, A920, H⟩ := H
               replace H : ((qaO.f kj59 t877 t878 t879 t880 t883 t830 t831 t832 t833 t836).bind fun t886 => (if t886 = true then (qae.j2 kj59 t868 (t884 != t837) t845 t846 t847 t869 t851) else (qae.j2 kj59 t868 true t845 t846 t847 t869 t851))) = some r := H
               have A92 := Aside0.mk A920
               clear A920
               have HC93 := Aside0.mk H
               clear H
               have hnb94 := NB853_838.out
               have hnc94 := NB838_853.out
               have hcz95_0 : wc.cell? ⟨gb853, 0, none⟩ = some (.string t845) := (qah BK853.out 0).trans rfl
               have hcz95_1 : wc.cell? ⟨gb853, 1, none⟩ = some (.string t846) := (qah BK853.out 1).trans rfl
               have hcz95_2 : wc.cell? ⟨gb853, 2, none⟩ = some (.int .i64 t847) := (qah BK853.out 2).trans rfl
               have hcz95_3 : wc.cell? ⟨gb853, 3, none⟩ = some (.slice Ao40 t848.length co40) := (qah BK853.out 3).trans rfl
               have hcz95_4 : wc.cell? ⟨gb853, 4, none⟩ = some (.int .i64 t851) := (qah BK853.out 4).trans rfl
               have hfz95_0 := qad BK853.out 0
               have hfz95_1 := qad BK853.out 1
               have hfz95_2 := qad BK853.out 2
               have hfz95_3 := qad BK853.out 3
               have hfz95_4 := qad BK853.out 4
               go_upto_region 36 with (first | ((with_reducible refine qaz (f := 35) rfl ?_); refine qbf (some 103) rfl rfl Try.func35 (by kernel_rfl) rfl #[.agg #[.string t845, .string t846, .int .i64 t847, .slice Ao40 t848.length co40, .int .i64 t851], .int .i64 1] rfl (by (try simp only [List.map_toArray, List.map_cons, List.map_nil]); first | done | rfl | (simp only [List.length_drop, List.length_take]; rfl)) ?_; (with_reducible refine (qbk.calls kj59 t845 t846 t847 (fun k_ => some k_ = (.slice Ao40 t848.length co40 : Value).ownBlock) (.slice Ao40 t848.length co40) t848 t851 1 t868 t869 w _ ?side1 ?side2 A81.out).mono ?_); (case side1 => repeat (first | (with_reducible first | exact HB.out | apply qac | apply qaa | apply qab | refine qai ?_ GE838.out | refine qai ?_ GE853.out) | exact HB.out)); (case side2 => exact Kd.qcV rfl HO_854003.out); rintro e w96 ⟨rfl, hy0, hb, hkp⟩; refine ⟨_, rfl, ?_⟩; have n0_ := Aside0.mk (Kd.qbn (ok' := fun k_ => some k_ ≠ (.slice Ao40 t848.length co40 : Value).ownBlock) (Kd.qck (HO_839003.out) hkp (fun k_ hk_ hs_ => (hk_) hs_)) (fun k_ hk_ => hk_.1)); have n1_ := Aside0.mk (Kd.qd3 rfl hy0 (fun k_ e_ => HO_854003.out.1 k_ e_)); have n2_ := Aside0.mk (qci (by (with_reducible repeat (first | refine qag ?_ _ | refine qaj ?_ | refine qaf ?_ _)); exact BK838.out) hkp (fun hs_ => (fun e_ => (Kd.R_ne HO_854003.out BK838.out (by decide)) e_) hs_)); have n3_ := Aside0.mk (qci (by (with_reducible repeat (first | refine qag ?_ _ | refine qaj ?_ | refine qaf ?_ _)); exact BK853.out) hkp (fun hs_ => (fun e_ => (Kd.R_ne HO_854003.out BK853.out (by decide)) e_) hs_)); have n4_ := Aside0.mk (hb); clear HO_839003; clear HO_854003; clear BK838; clear BK853; clear HB; have HO_839003 := n0_; have HO_854003 := n1_; have BK838 := n2_; have BK853 := n3_; have HB := n4_; clear n0_ n1_ n2_ n3_ n4_; (try clear hb); (try clear hkp); (try clear hy0); have hcz97_0 : w96.cell? ⟨gb853, 0, none⟩ = some (.string t845) := (qah BK853.out 0).trans rfl; have hcz97_1 : w96.cell? ⟨gb853, 1, none⟩ = some (.string t846) := (qah BK853.out 1).trans rfl; have hcz97_2 : w96.cell? ⟨gb853, 2, none⟩ = some (.int .i64 t847) := (qah BK853.out 2).trans rfl; have hcz97_3 : w96.cell? ⟨gb853, 3, none⟩ = some (.slice Ao40 t848.length co40) := (qah BK853.out 3).trans rfl; have hcz97_4 : w96.cell? ⟨gb853, 4, none⟩ = some (.int .i64 t851) := (qah BK853.out 4).trans rfl; have hfz97_0 := qad BK853.out 0; have hfz97_1 := qad BK853.out 1; have hfz97_2 := qad BK853.out 2; have hfz97_3 := qad BK853.out 3; have hfz97_4 := qad BK853.out 4) | ((with_reducible refine qaz (f := 40) rfl ?_); refine qbf (some 106) rfl rfl Try.func40 (by kernel_rfl) rfl #[.agg #[.string t845, .string t846, .int .i64 t847, .slice Ao40 t869.length co40, .int .i64 t851], .int .i64 1] rfl (by (try simp only [List.map_toArray, List.map_cons, List.map_nil]); first | done | (rw [show t869.length = t848.length from (Kd.qaM HO_854003.out).1.symm] <;> rfl) | rfl | (simp only [List.length_drop, List.length_take]; rfl)) ?_; (with_reducible refine (qa9.calls kj59 t845 t846 t847 _ _ t869 t851 1 t870 _ ?side1 ?side2 A82.out).mono ?_); (case side1 => repeat (first | exact (Kd.qaM HO_854003.out).2.2 | (with_reducible refine Kd.qa7 ?_ _) | (with_reducible refine Kd.qa8 ?_ _) | (with_reducible refine Kd.qbm ?_))); (case side2 => rw [show t869.length = t848.length from (Kd.qaM HO_854003.out).1.symm]; exact (Kd.qaM HO_854003.out).2.1); rintro e w98 ⟨rfl, hb⟩; refine ⟨_, rfl, ?_⟩; have n0_ := Aside0.mk (Kd.qaA (by (with_reducible repeat (first | apply Kd.qar | apply Kd.qas | apply Kd.qax)); exact HO_839003.out) hb); have n1_ := Aside0.mk (Kd.qaA (by (with_reducible repeat (first | apply Kd.qar | apply Kd.qas | apply Kd.qax)); exact HO_854003.out) hb); have n2_ := Aside0.mk (qaB (g := gb838) (o := .cells #[.string t830, .string t831, .int .i64 t832, .slice Ao31 t833.length co31, .int .i64 t836] 48 (0, 0)) (by (with_reducible repeat (first | refine qag ?_ _ | refine qaj ?_ | refine qaf ?_ _)); exact BK838.out) hb); have n3_ := Aside0.mk (qaB (g := gb853) (o := .cells #[.string t845, .string t846, .int .i64 t847, .slice Ao40 t848.length co40, .int .i64 t851] 48 (0, 0)) (by (with_reducible repeat (first | refine qag ?_ _ | refine qaj ?_ | refine qaf ?_ _)); exact BK853.out) hb); have n4_ := Aside0.mk (qak (by repeat (first | (with_reducible first | exact HB.out | apply qac | apply qaa | apply qab | refine qai ?_ GE838.out | refine qai ?_ GE853.out) | exact HB.out)) hb); clear HO_839003; clear HO_854003; clear BK838; clear BK853; clear HB; have HO_839003 := n0_; have HO_854003 := n1_; have BK838 := n2_; have BK853 := n3_; have HB := n4_; clear n0_ n1_ n2_ n3_ n4_; (try clear hb); (try clear hb2); (try clear hk); (try clear hi)) | ((with_reducible refine qaz (f := 13) rfl ?_); refine qbf (some 117) rfl rfl Try.func13 (by kernel_rfl) rfl #[.slice A3 l3.length c3] rfl (by (try simp only [List.map_toArray, List.map_cons, List.map_nil]); first | done | rfl | (simp only [List.length_drop, List.length_take]; rfl)) ?_; (with_reducible refine (qay.calls kj59 _ _ l3 t871 _ ?side1 ?side2 A90.out).mono ?_); (case side1 => repeat (first | exact (Kd.qa2 HR3.out HB.out) | (with_reducible refine Kd.qa7 ?_ _) | (with_reducible refine Kd.qa8 ?_ _) | (with_reducible refine Kd.qbm ?_))); (case side2 => exact HC3.out); rintro e w99 ⟨v872, rfl, ho0, hb⟩; refine ⟨_, rfl, ?_⟩; have n0_ := Aside0.mk (Kd.qaA (by (with_reducible repeat (first | apply Kd.qar | apply Kd.qas | apply Kd.qax)); exact HO_839003.out) hb); have n1_ := Aside0.mk (Kd.qaA (by (with_reducible repeat (first | apply Kd.qar | apply Kd.qas | apply Kd.qax)); exact HO_854003.out) hb); have n2_ := Aside0.mk (Kd.qbL ho0 (qau (by repeat (first | (with_reducible first | exact HB.out | apply qac | apply qaa | apply qab | refine qai ?_ GE838.out | refine qai ?_ GE853.out) | exact HB.out)))); have n3_ := Aside0.mk (qaB (g := gb838) (o := .cells #[.string t830, .string t831, .int .i64 t832, .slice Ao31 t833.length co31, .int .i64 t836] 48 (0, 0)) (by (with_reducible repeat (first | refine qag ?_ _ | refine qaj ?_ | refine qaf ?_ _)); exact BK838.out) hb); have n4_ := Aside0.mk (qaB (g := gb853) (o := .cells #[.string t845, .string t846, .int .i64 t847, .slice Ao40 t848.length co40, .int .i64 t851] 48 (0, 0)) (by (with_reducible repeat (first | refine qag ?_ _ | refine qaj ?_ | refine qaf ?_ _)); exact BK853.out) hb); have n5_ := Aside0.mk (qak (by repeat (first | (with_reducible first | exact HB.out | apply qac | apply qaa | apply qab | refine qai ?_ GE838.out | refine qai ?_ GE853.out) | exact HB.out)) hb); clear HO_839003; clear HO_854003; clear BK838; clear BK853; clear HB; have HO_839003 := n0_; have HO_854003 := n1_; have HO873 := n2_; have BK838 := n3_; have BK853 := n4_; have HB := n5_; clear n0_ n1_ n2_ n3_ n4_ n5_; (try clear hb); (try clear hb2); (try clear hk); (try clear hi); (try clear ho0)) | ((with_reducible refine qaz (f := 13) rfl ?_); refine qbf (some 119) rfl rfl Try.func13 (by kernel_rfl) rfl #[.slice A4 l4.length c4] rfl (by (try simp only [List.map_toArray, List.map_cons, List.map_nil]); first | done | rfl | (simp only [List.length_drop, List.length_take]; rfl)) ?_; (with_reducible refine (qay.calls kj59 _ _ l4 t874 _ ?side1 ?side2 A91.out).mono ?_); (case side1 => repeat (first | exact (Kd.qa2 HR4.out HB.out) | (with_reducible refine Kd.qa7 ?_ _) | (with_reducible refine Kd.qa8 ?_ _) | (with_reducible refine Kd.qbm ?_))); (case side2 => exact HC4.out); rintro e w100 ⟨v875, rfl, ho0, hb⟩; refine ⟨_, rfl, ?_⟩; have n0_ := Aside0.mk (Kd.qaA (by (with_reducible repeat (first | apply Kd.qar | apply Kd.qas | apply Kd.qax)); exact HO_839003.out) hb); have n1_ := Aside0.mk (Kd.qaA (by (with_reducible repeat (first | apply Kd.qar | apply Kd.qas | apply Kd.qax)); exact HO_854003.out) hb); have n2_ := Aside0.mk (Kd.qbM (by (with_reducible repeat (first | apply Kd.qar | apply Kd.qas | apply Kd.qax)); exact HO873.out) (Kd.qb2 ho0) hb); have n3_ := Aside0.mk (Kd.qbL (Kd.qb4 ho0 (Kd.R_lt (by (with_reducible repeat (first | apply Kd.qar | apply Kd.qas | apply Kd.qax)); exact HO873.out))) (qau (by repeat (first | (with_reducible first | exact HB.out | apply qac | apply qaa | apply qab | refine qai ?_ GE838.out | refine qai ?_ GE853.out) | exact HB.out)))); have n4_ := Aside0.mk (qaB (g := gb838) (o := .cells #[.string t830, .string t831, .int .i64 t832, .slice Ao31 t833.length co31, .int .i64 t836] 48 (0, 0)) (by (with_reducible repeat (first | refine qag ?_ _ | refine qaj ?_ | refine qaf ?_ _)); exact BK838.out) hb); have n5_ := Aside0.mk (qaB (g := gb853) (o := .cells #[.string t845, .string t846, .int .i64 t847, .slice Ao40 t848.length co40, .int .i64 t851] 48 (0, 0)) (by (with_reducible repeat (first | refine qag ?_ _ | refine qaj ?_ | refine qaf ?_ _)); exact BK853.out) hb); have n6_ := Aside0.mk (qak (by repeat (first | (with_reducible first | exact HB.out | apply qac | apply qaa | apply qab | refine qai ?_ GE838.out | refine qai ?_ GE853.out) | exact HB.out)) hb); clear HO_839003; clear HO_854003; clear HO873; clear BK838; clear BK853; clear HB; have HO_839003 := n0_; have HO_854003 := n1_; have HO873 := n2_; have HO876 := n3_; have BK838 := n4_; have BK853 := n5_; have HB := n6_; clear n0_ n1_ n2_ n3_ n4_ n5_ n6_; (try clear hb); (try clear hb2); (try clear hk); (try clear hi); (try clear ho0); obtain ⟨Ao101, co101, eo101⟩ := Kd.qbN HO873.out; subst eo101; obtain ⟨Ao102, co102, eo102⟩ := Kd.qbN HO876.out; subst eo102) | ((with_reducible refine qaz (f := 39) rfl ?_); refine qbf (some 120) rfl rfl Try.func39 (by kernel_rfl) rfl #[.string a0, .string a1, .int .i64 a2, .slice Ao101 t871.length co101, .slice Ao102 t874.length co102] rfl (by (try simp only [List.map_toArray, List.map_cons, List.map_nil]); first | done | rfl | (simp only [List.length_drop, List.length_take]; rfl)) ?_; (with_reducible refine (qat.calls kj59 a0 a1 a2 _ _ t871 _ _ t874 t877 t878 t879 t880 t883 t884 _ ?side1 ?side2 ?side3 ?side4 A92.out).mono ?_); (case side1 => repeat (first | exact (Kd.qaM HO873.out).2.2 | (with_reducible refine Kd.qa7 ?_ _) | (with_reducible refine Kd.qa8 ?_ _) | (with_reducible refine Kd.qbm ?_))); (case side2 => exact (Kd.qaM HO873.out).2.1); (case side3 => repeat (first | exact (Kd.qaM HO876.out).2.2 | (with_reducible refine Kd.qa7 ?_ _) | (with_reducible refine Kd.qa8 ?_ _) | (with_reducible refine Kd.qbm ?_))); (case side4 => exact (Kd.qaM HO876.out).2.1); rintro e w103 ⟨v881, rfl, ho0, hb⟩; refine ⟨_, rfl, ?_⟩; have n0_ := Aside0.mk (Kd.qbM (by (with_reducible repeat (first | apply Kd.qar | apply Kd.qas | apply Kd.qax)); exact HO_839003.out) (Kd.qb2 ho0) hb); have n1_ := Aside0.mk (Kd.qbM (by (with_reducible repeat (first | apply Kd.qar | apply Kd.qas | apply Kd.qax)); exact HO_854003.out) (Kd.qb2 ho0) hb); have n2_ := Aside0.mk (Kd.qaA (by (with_reducible repeat (first | apply Kd.qar | apply Kd.qas | apply Kd.qax)); exact HO873.out) hb); have n3_ := Aside0.mk (Kd.qaA (by (with_reducible repeat (first | apply Kd.qar | apply Kd.qas | apply Kd.qax)); exact HO876.out) hb); have n4_ := Aside0.mk (Kd.qbL (Kd.qb4 (Kd.qb4 ho0 (Kd.R_lt (by (with_reducible repeat (first | apply Kd.qar | apply Kd.qas | apply Kd.qax)); exact HO_839003.out))) (Kd.R_lt (by (with_reducible repeat (first | apply Kd.qar | apply Kd.qas | apply Kd.qax)); exact HO_854003.out))) (qau (by repeat (first | (with_reducible first | exact HB.out | apply qac | apply qaa | apply qab | refine qai ?_ GE838.out | refine qai ?_ GE853.out) | exact HB.out)))); have n5_ := Aside0.mk (qaB (g := gb838) (o := .cells #[.string t830, .string t831, .int .i64 t832, .slice Ao31 t833.length co31, .int .i64 t836] 48 (0, 0)) (by (with_reducible repeat (first | refine qag ?_ _ | refine qaj ?_ | refine qaf ?_ _)); exact BK838.out) hb); have n6_ := Aside0.mk (qaB (g := gb853) (o := .cells #[.string t845, .string t846, .int .i64 t847, .slice Ao40 t848.length co40, .int .i64 t851] 48 (0, 0)) (by (with_reducible repeat (first | refine qag ?_ _ | refine qaj ?_ | refine qaf ?_ _)); exact BK853.out) hb); have n7_ := Aside0.mk (qak (by repeat (first | (with_reducible first | exact HB.out | apply qac | apply qaa | apply qab | refine qai ?_ GE838.out | refine qai ?_ GE853.out) | exact HB.out)) hb); clear HO_839003; clear HO_854003; clear HO873; clear HO876; clear BK838; clear BK853; clear HB; have HO_839003 := n0_; have HO_854003 := n1_; have HO873 := n2_; have HO876 := n3_; have HO882 := n4_; have BK838 := n5_; have BK853 := n6_; have HB := n7_; clear n0_ n1_ n2_ n3_ n4_ n5_ n6_ n7_; (try clear hb); (try clear hb2); (try clear hk); (try clear hi); (try clear ho0)) | ((with_reducible refine qbc (N := 21) rfl ?_); refine qba ?hg (N := 21) ?hd (cs := #[.string (⟨#[]⟩ : ByteArray), .string (⟨#[]⟩ : ByteArray), .int .i64 0, .slice none 0 0, .int .i64 0]) (t := 48) ?hr ?_; (case hd => rfl); (case hg => rfl); (case hr => first | (go_simp; done) | (go_simp; rfl)); intro gb885 hg w104 hbox hb; have n0_ := Aside0.mk (Kd.qaA (by (with_reducible repeat (first | apply Kd.qar | apply Kd.qas | apply Kd.qax)); exact HO_839003.out) hb); have n1_ := Aside0.mk (Kd.qaA (by (with_reducible repeat (first | apply Kd.qar | apply Kd.qas | apply Kd.qax)); exact HO_854003.out) hb); have n2_ := Aside0.mk (Kd.qaA (by (with_reducible repeat (first | apply Kd.qar | apply Kd.qas | apply Kd.qax)); exact HO873.out) hb); have n3_ := Aside0.mk (Kd.qaA (by (with_reducible repeat (first | apply Kd.qar | apply Kd.qas | apply Kd.qax)); exact HO876.out) hb); have n4_ := Aside0.mk (Kd.qaA (by (with_reducible repeat (first | apply Kd.qar | apply Kd.qas | apply Kd.qax)); exact HO882.out) hb); have n5_ := Aside0.mk (qaB (g := gb838) (o := .cells #[.string t830, .string t831, .int .i64 t832, .slice Ao31 t833.length co31, .int .i64 t836] 48 (0, 0)) (by (with_reducible repeat (first | refine qag ?_ _ | refine qaj ?_ | refine qaf ?_ _)); exact BK838.out) hb); have n6_ := Aside0.mk (qaB (g := gb853) (o := .cells #[.string t845, .string t846, .int .i64 t847, .slice Ao40 t848.length co40, .int .i64 t851] 48 (0, 0)) (by (with_reducible repeat (first | refine qag ?_ _ | refine qaj ?_ | refine qaf ?_ _)); exact BK853.out) hb); have n7_ := Aside0.mk (qak (by repeat (first | (with_reducible first | exact HB.out | apply qac | apply qaa | apply qab | refine qai ?_ GE838.out | refine qai ?_ GE853.out) | exact HB.out)) hb); have n8_ := Aside0.mk (hbox); have n9_ := Aside0.mk ((by rw [hg]; exact (qau (by repeat (first | (with_reducible first | exact HB.out | apply qac | apply qaa | apply qab | refine qai ?_ GE838.out | refine qai ?_ GE853.out) | exact HB.out))) : w.heap.size ≤ gb885)); have n10_ := Aside0.mk ((by rw [hg]; exact (qau (by repeat (first | (with_reducible first | exact HB.out | apply qac | apply qaa | apply qab | refine qai ?_ GE838.out | refine qai ?_ GE853.out) | exact HB.out))) : w.heap.size ≤ gb885)); have n11_ := Aside0.mk ((by rw [hg]; exact Nat.ne_of_lt (qbj (g := gb838) (o := .cells #[.string t830, .string t831, .int .i64 t832, .slice Ao31 t833.length co31, .int .i64 t836] 48 (0, 0)) (by (with_reducible repeat (first | refine qag ?_ _ | refine qaj ?_ | refine qaf ?_ _)); exact BK838.out)) : gb838 ≠ gb885)); have n12_ := Aside0.mk ((by rw [hg]; exact Nat.ne_of_gt (qbj (g := gb838) (o := .cells #[.string t830, .string t831, .int .i64 t832, .slice Ao31 t833.length co31, .int .i64 t836] 48 (0, 0)) (by (with_reducible repeat (first | refine qag ?_ _ | refine qaj ?_ | refine qaf ?_ _)); exact BK838.out)) : gb885 ≠ gb838)); have n13_ := Aside0.mk ((by rw [hg]; exact Nat.ne_of_lt (qbj (g := gb853) (o := .cells #[.string t845, .string t846, .int .i64 t847, .slice Ao40 t848.length co40, .int .i64 t851] 48 (0, 0)) (by (with_reducible repeat (first | refine qag ?_ _ | refine qaj ?_ | refine qaf ?_ _)); exact BK853.out)) : gb853 ≠ gb885)); have n14_ := Aside0.mk ((by rw [hg]; exact Nat.ne_of_gt (qbj (g := gb853) (o := .cells #[.string t845, .string t846, .int .i64 t847, .slice Ao40 t848.length co40, .int .i64 t851] 48 (0, 0)) (by (with_reducible repeat (first | refine qag ?_ _ | refine qaj ?_ | refine qaf ?_ _)); exact BK853.out)) : gb885 ≠ gb853)); clear HO_839003; clear HO_854003; clear HO873; clear HO876; clear HO882; clear BK838; clear BK853; clear HB; have HO_839003 := n0_; have HO_854003 := n1_; have HO873 := n2_; have HO876 := n3_; have HO882 := n4_; have BK838 := n5_; have BK853 := n6_; have HB := n7_; have BK885 := n8_; have GW885 := n9_; have GE885 := n10_; have NB838_885 := n11_; have NB885_838 := n12_; have NB853_885 := n13_; have NB885_853 := n14_; clear n0_ n1_ n2_ n3_ n4_ n5_ n6_ n7_ n8_ n9_ n10_ n11_ n12_ n13_ n14_; clear hb hbox hg; have hnb105 := NB885_838.out; have hnc105 := NB838_885.out; have hnb106 := NB885_853.out; have hnc106 := NB853_885.out; have hcz107_0 : w104.cell? ⟨gb885, 0, none⟩ = some (.string (⟨#[]⟩ : ByteArray)) := (qah BK885.out 0).trans rfl; have hcz107_1 : w104.cell? ⟨gb885, 1, none⟩ = some (.string (⟨#[]⟩ : ByteArray)) := (qah BK885.out 1).trans rfl; have hcz107_2 : w104.cell? ⟨gb885, 2, none⟩ = some (.int .i64 0) := (qah BK885.out 2).trans rfl; have hcz107_3 : w104.cell? ⟨gb885, 3, none⟩ = some (.slice none 0 0) := (qah BK885.out 3).trans rfl; have hcz107_4 : w104.cell? ⟨gb885, 4, none⟩ = some (.int .i64 0) := (qah BK885.out 4).trans rfl; have hfz107_0 := qad BK885.out 0; have hfz107_1 := qad BK885.out 1; have hfz107_2 := qad BK885.out 2; have hfz107_3 := qad BK885.out 3; have hfz107_4 := qad BK885.out 4; obtain ⟨Ao108, co108, eo108⟩ := Kd.qbN HO882.out; subst eo108))
               (try simp only [Act.put, List.setIfInBounds_toArray, List.set_cons_zero, List.set_cons_succ])
               go_cut [131] (fun v131 wc => ∃ (kq : Nat) (x131_92 : Bool), v131 = .bool x131_92 ∧ Aside0 (qae.j2 kq t868 x131_92 t845 t846 t847 t869 t851 = some r) ∧ Aside0 (kq ≤ kj59) ∧ Aside0 (Kd.R k82 82 wc w.heap.size (fun k_ => some k_ ≠ ((.slice Ao40 t848.length co40) : Value).ownBlock ∧ some k_ ≠ ((.slice Ao108 t880.length co108) : Value).ownBlock) (.slice Ao31 t833.length co31) t833) ∧ Aside0 (Kd.R k82 82 wc w.heap.size (fun k_ => some k_ ≠ ((.slice Ao31 t833.length co31) : Value).ownBlock ∧ some k_ ≠ ((.slice Ao108 t880.length co108) : Value).ownBlock) (.slice Ao40 t848.length co40) t869) ∧ Aside0 (Kd.R k82 82 wc w.heap.size (fun k_ => some k_ ≠ ((.slice Ao31 t833.length co31) : Value).ownBlock ∧ some k_ ≠ ((.slice Ao40 t848.length co40) : Value).ownBlock) (.slice Ao108 t880.length co108) t880) ∧ Aside0 (wc.heap[gb838]? = some (.cells #[.string t830, .string t831, .int .i64 t832, (.slice Ao31 t833.length co31), .int .i64 t836] 48 (0, 0))) ∧ Aside0 (wc.heap[gb853]? = some (.cells #[.string t845, .string t846, .int .i64 t847, (.slice Ao40 t848.length co40), .int .i64 t851] 48 (0, 0))) ∧ Aside0 (wc.heap[gb885]? = some (.cells #[.string t877, .string t878, .int .i64 t879, (.slice Ao108 t880.length co108), .int .i64 t883] 48 (0, 0))) ∧ Aside0 (Below w.heap.size w wc))
               case first =>
                have H := HC93.out
                clear HC93
                replace H := Option.bind_eq_some_iff.mp H
                obtain ⟨t886, A1090, H⟩ := H
                replace H : (if t886 = true then (qae.j2 kj59 t868 (t884 != t837) t845 t846 t847 t869 t851) else (qae.j2 kj59 t868 true t845 t846 t847 t869 t851)) = some r := H
                have A109 := Aside0.mk A1090
                clear A1090
                by_cases c110 : t886 = true
                ·subst c110
                 have H1 : (qae.j2 kj59 t868 (t884 != t837) t845 t846 t847 t869 t851) = some r := by rw [if_pos rfl] at H; exact H
                 clear H
                 have H := H1
                 clear H1
                 have H' := Aside0.mk H
                 clear H
                 have hnb111 := NB885_838.out
                 have hnc111 := NB838_885.out
                 have hnb112 := NB885_853.out
                 have hnc112 := NB853_885.out
                 have hcz113_0 : w104.cell? ⟨gb885, 0, none⟩ = some (.string (⟨#[]⟩ : ByteArray)) := (qah BK885.out 0).trans rfl
                 have hcz113_1 : w104.cell? ⟨gb885, 1, none⟩ = some (.string (⟨#[]⟩ : ByteArray)) := (qah BK885.out 1).trans rfl
                 have hcz113_2 : w104.cell? ⟨gb885, 2, none⟩ = some (.int .i64 0) := (qah BK885.out 2).trans rfl
                 have hcz113_3 : w104.cell? ⟨gb885, 3, none⟩ = some (.slice none 0 0) := (qah BK885.out 3).trans rfl
                 have hcz113_4 : w104.cell? ⟨gb885, 4, none⟩ = some (.int .i64 0) := (qah BK885.out 4).trans rfl
                 have hfz113_0 := qad BK885.out 0
                 have hfz113_1 := qad BK885.out 1
                 have hfz113_2 := qad BK885.out 2
                 have hfz113_3 := qad BK885.out 3
                 have hfz113_4 := qad BK885.out 4
                 have hnb114 := NB838_853.out
                 have hnc114 := NB853_838.out
                 have hcz115_0 : w104.cell? ⟨gb838, 0, none⟩ = some (.string t830) := (qah BK838.out 0).trans rfl
                 have hcz115_1 : w104.cell? ⟨gb838, 1, none⟩ = some (.string t831) := (qah BK838.out 1).trans rfl
                 have hcz115_2 : w104.cell? ⟨gb838, 2, none⟩ = some (.int .i64 t832) := (qah BK838.out 2).trans rfl
                 have hcz115_3 : w104.cell? ⟨gb838, 3, none⟩ = some (.slice Ao31 t833.length co31) := (qah BK838.out 3).trans rfl
                 have hcz115_4 : w104.cell? ⟨gb838, 4, none⟩ = some (.int .i64 t836) := (qah BK838.out 4).trans rfl
                 have hfz115_0 := qad BK838.out 0
                 have hfz115_1 := qad BK838.out 1
                 have hfz115_2 := qad BK838.out 2
                 have hfz115_3 := qad BK838.out 3
                 have hfz115_4 := qad BK838.out 4
                 go_wp2_with (first | ((with_reducible refine qaz (f := 31) rfl ?_); refine qbf (some 125) rfl rfl Try.func31 (by kernel_rfl) rfl #[.agg #[.string t877, .string t878, .int .i64 t879, .slice Ao108 t880.length co108, .int .i64 t883], .agg #[.string t830, .string t831, .int .i64 t832, .slice Ao31 t833.length co31, .int .i64 t836]] rfl (by (try simp only [List.map_toArray, List.map_cons, List.map_nil]); first | done | rfl | (simp only [List.length_drop, List.length_take]; rfl)) ?_; (with_reducible refine (qaO.calls kj59 t877 t878 t879 _ _ t880 t883 t830 t831 t832 _ _ t833 t836 true _ ?side1 ?side2 ?side3 ?side4 A109.out).mono ?_); (case side1 => refine (Kd.qaM (e := 82) (base := w.heap.size) (ok := fun k_ => ((True ∧ some k_ ≠ (.slice Ao31 t833.length co31 : Value).ownBlock) ∧ some k_ ≠ (.slice Ao40 t848.length co40 : Value).ownBlock)) (n := t880.length) (c := co108) ?_).2.2; exact (by (with_reducible repeat (first | apply Kd.qar | apply Kd.qas | apply Kd.qax)); exact (Kd.qbn (Kd.qa0 (p := ⟨gb885, 4, none⟩) (Kd.qa0 (p := ⟨gb885, 3, none⟩) (Kd.qa0 (p := ⟨gb885, 2, none⟩) (Kd.qa0 (p := ⟨gb885, 1, none⟩) (Kd.qa0 (p := ⟨gb885, 0, none⟩) (Kd.qbw HO882.out BK885.out (by decide)) (fun _ hk => hk.2) (.string t877)) (fun _ hk => hk.2) (.string t878)) (fun _ hk => hk.2) (.int .i64 t879)) (fun _ hk => hk.2) (.slice Ao108 t880.length co108)) (fun _ hk => hk.2) (.int .i64 t883)) (fun _ h_ => h_.1)))); (case side2 => exact (Kd.qaM HO882.out).2.1); (case side3 => refine (Kd.qaM (e := 82) (base := w.heap.size) (ok := fun k_ => (some k_ ≠ (.slice Ao40 t848.length co40 : Value).ownBlock ∧ some k_ ≠ (.slice Ao108 t880.length co108 : Value).ownBlock)) (n := t833.length) (c := co31) ?_).2.2; exact (by (with_reducible repeat (first | apply Kd.qar | apply Kd.qas | apply Kd.qax)); exact (Kd.qbn (Kd.qa0 (p := ⟨gb885, 4, none⟩) (Kd.qa0 (p := ⟨gb885, 3, none⟩) (Kd.qa0 (p := ⟨gb885, 2, none⟩) (Kd.qa0 (p := ⟨gb885, 1, none⟩) (Kd.qa0 (p := ⟨gb885, 0, none⟩) (Kd.qbw HO_839003.out BK885.out (by decide)) (fun _ hk => hk.2) (.string t877)) (fun _ hk => hk.2) (.string t878)) (fun _ hk => hk.2) (.int .i64 t879)) (fun _ hk => hk.2) (.slice Ao108 t880.length co108)) (fun _ hk => hk.2) (.int .i64 t883)) (fun _ h_ => h_.1)))); (case side4 => exact (Kd.qaM HO_839003.out).2.1); rintro e w116 ⟨rfl, hb⟩; refine ⟨_, rfl, ?_⟩; have n0_ := Aside0.mk (Kd.qaA (by (with_reducible repeat (first | apply Kd.qar | apply Kd.qas | apply Kd.qax)); exact (Kd.qbn (Kd.qa0 (p := ⟨gb885, 4, none⟩) (Kd.qa0 (p := ⟨gb885, 3, none⟩) (Kd.qa0 (p := ⟨gb885, 2, none⟩) (Kd.qa0 (p := ⟨gb885, 1, none⟩) (Kd.qa0 (p := ⟨gb885, 0, none⟩) (Kd.qbw HO_839003.out BK885.out (by decide)) (fun _ hk => hk.2) (.string t877)) (fun _ hk => hk.2) (.string t878)) (fun _ hk => hk.2) (.int .i64 t879)) (fun _ hk => hk.2) (.slice Ao108 t880.length co108)) (fun _ hk => hk.2) (.int .i64 t883)) (fun _ h_ => h_.1))) hb); have n1_ := Aside0.mk (Kd.qaA (by (with_reducible repeat (first | apply Kd.qar | apply Kd.qas | apply Kd.qax)); exact (Kd.qbn (Kd.qa0 (p := ⟨gb885, 4, none⟩) (Kd.qa0 (p := ⟨gb885, 3, none⟩) (Kd.qa0 (p := ⟨gb885, 2, none⟩) (Kd.qa0 (p := ⟨gb885, 1, none⟩) (Kd.qa0 (p := ⟨gb885, 0, none⟩) (Kd.qbw HO_854003.out BK885.out (by decide)) (fun _ hk => hk.2) (.string t877)) (fun _ hk => hk.2) (.string t878)) (fun _ hk => hk.2) (.int .i64 t879)) (fun _ hk => hk.2) (.slice Ao108 t880.length co108)) (fun _ hk => hk.2) (.int .i64 t883)) (fun _ h_ => h_.1))) hb); have n2_ := Aside0.mk (Kd.qaA (by (with_reducible repeat (first | apply Kd.qar | apply Kd.qas | apply Kd.qax)); exact (Kd.qbn (Kd.qa0 (p := ⟨gb885, 4, none⟩) (Kd.qa0 (p := ⟨gb885, 3, none⟩) (Kd.qa0 (p := ⟨gb885, 2, none⟩) (Kd.qa0 (p := ⟨gb885, 1, none⟩) (Kd.qa0 (p := ⟨gb885, 0, none⟩) (Kd.qbw HO873.out BK885.out (by decide)) (fun _ hk => hk.2) (.string t877)) (fun _ hk => hk.2) (.string t878)) (fun _ hk => hk.2) (.int .i64 t879)) (fun _ hk => hk.2) (.slice Ao108 t880.length co108)) (fun _ hk => hk.2) (.int .i64 t883)) (fun _ h_ => h_.1))) hb); have n3_ := Aside0.mk (Kd.qaA (by (with_reducible repeat (first | apply Kd.qar | apply Kd.qas | apply Kd.qax)); exact (Kd.qbn (Kd.qa0 (p := ⟨gb885, 4, none⟩) (Kd.qa0 (p := ⟨gb885, 3, none⟩) (Kd.qa0 (p := ⟨gb885, 2, none⟩) (Kd.qa0 (p := ⟨gb885, 1, none⟩) (Kd.qa0 (p := ⟨gb885, 0, none⟩) (Kd.qbw HO876.out BK885.out (by decide)) (fun _ hk => hk.2) (.string t877)) (fun _ hk => hk.2) (.string t878)) (fun _ hk => hk.2) (.int .i64 t879)) (fun _ hk => hk.2) (.slice Ao108 t880.length co108)) (fun _ hk => hk.2) (.int .i64 t883)) (fun _ h_ => h_.1))) hb); have n4_ := Aside0.mk (Kd.qaA (by (with_reducible repeat (first | apply Kd.qar | apply Kd.qas | apply Kd.qax)); exact (Kd.qbn (Kd.qa0 (p := ⟨gb885, 4, none⟩) (Kd.qa0 (p := ⟨gb885, 3, none⟩) (Kd.qa0 (p := ⟨gb885, 2, none⟩) (Kd.qa0 (p := ⟨gb885, 1, none⟩) (Kd.qa0 (p := ⟨gb885, 0, none⟩) (Kd.qbw HO882.out BK885.out (by decide)) (fun _ hk => hk.2) (.string t877)) (fun _ hk => hk.2) (.string t878)) (fun _ hk => hk.2) (.int .i64 t879)) (fun _ hk => hk.2) (.slice Ao108 t880.length co108)) (fun _ hk => hk.2) (.int .i64 t883)) (fun _ h_ => h_.1))) hb); have n5_ := Aside0.mk (qaB (g := gb838) (o := .cells #[.string t830, .string t831, .int .i64 t832, .slice Ao31 t833.length co31, .int .i64 t836] 48 (0, 0)) (by (with_reducible repeat (first | refine qag ?_ _ | refine qaj ?_ | refine qaf ?_ _)); refine qbE ?_ NB838_885.out _; (with_reducible repeat (first | refine qag ?_ _ | refine qaj ?_ | refine qaf ?_ _)); refine qbE ?_ NB838_885.out _; (with_reducible repeat (first | refine qag ?_ _ | refine qaj ?_ | refine qaf ?_ _)); refine qbE ?_ NB838_885.out _; (with_reducible repeat (first | refine qag ?_ _ | refine qaj ?_ | refine qaf ?_ _)); refine qbE ?_ NB838_885.out _; (with_reducible repeat (first | refine qag ?_ _ | refine qaj ?_ | refine qaf ?_ _)); refine qbE ?_ NB838_885.out _; (with_reducible repeat (first | refine qag ?_ _ | refine qaj ?_ | refine qaf ?_ _)); exact BK838.out) hb); have n6_ := Aside0.mk (qaB (g := gb853) (o := .cells #[.string t845, .string t846, .int .i64 t847, .slice Ao40 t848.length co40, .int .i64 t851] 48 (0, 0)) (by (with_reducible repeat (first | refine qag ?_ _ | refine qaj ?_ | refine qaf ?_ _)); refine qbE ?_ NB853_885.out _; (with_reducible repeat (first | refine qag ?_ _ | refine qaj ?_ | refine qaf ?_ _)); refine qbE ?_ NB853_885.out _; (with_reducible repeat (first | refine qag ?_ _ | refine qaj ?_ | refine qaf ?_ _)); refine qbE ?_ NB853_885.out _; (with_reducible repeat (first | refine qag ?_ _ | refine qaj ?_ | refine qaf ?_ _)); refine qbE ?_ NB853_885.out _; (with_reducible repeat (first | refine qag ?_ _ | refine qaj ?_ | refine qaf ?_ _)); refine qbE ?_ NB853_885.out _; (with_reducible repeat (first | refine qag ?_ _ | refine qaj ?_ | refine qaf ?_ _)); exact BK853.out) hb); have n7_ := Aside0.mk (qaB (g := gb885) (o := .cells #[.string t877, .string t878, .int .i64 t879, .slice Ao108 t880.length co108, .int .i64 t883] 48 (0, 0)) (by (with_reducible repeat (first | refine qag ?_ _ | refine qaj ?_ | refine qaf ?_ _)); refine qaI (cs := #[.string t877, .string t878, .int .i64 t879, .slice Ao108 t880.length co108, .int .i64 0]) ?_ 4 _ rfl; (with_reducible repeat (first | refine qag ?_ _ | refine qaj ?_ | refine qaf ?_ _)); refine qaI (cs := #[.string t877, .string t878, .int .i64 t879, .slice none 0 0, .int .i64 0]) ?_ 3 _ rfl; (with_reducible repeat (first | refine qag ?_ _ | refine qaj ?_ | refine qaf ?_ _)); refine qaI (cs := #[.string t877, .string t878, .int .i64 0, .slice none 0 0, .int .i64 0]) ?_ 2 _ rfl; (with_reducible repeat (first | refine qag ?_ _ | refine qaj ?_ | refine qaf ?_ _)); refine qaI (cs := #[.string t877, .string (⟨#[]⟩ : ByteArray), .int .i64 0, .slice none 0 0, .int .i64 0]) ?_ 1 _ rfl; (with_reducible repeat (first | refine qag ?_ _ | refine qaj ?_ | refine qaf ?_ _)); refine qaI (cs := #[.string (⟨#[]⟩ : ByteArray), .string (⟨#[]⟩ : ByteArray), .int .i64 0, .slice none 0 0, .int .i64 0]) ?_ 0 _ rfl; (with_reducible repeat (first | refine qag ?_ _ | refine qaj ?_ | refine qaf ?_ _)); exact BK885.out) hb); have n8_ := Aside0.mk (qak (by repeat (first | (with_reducible first | exact HB.out | apply qac | apply qaa | apply qab | refine qai ?_ GE838.out | refine qai ?_ GE853.out | refine qai ?_ GE885.out) | exact HB.out)) hb); clear HO_839003; clear HO_854003; clear HO873; clear HO876; clear HO882; clear BK838; clear BK853; clear BK885; clear HB; have HO_839003 := n0_; have HO_854003 := n1_; have HO873 := n2_; have HO876 := n3_; have HO882 := n4_; have BK838 := n5_; have BK853 := n6_; have BK885 := n7_; have HB := n8_; clear n0_ n1_ n2_ n3_ n4_ n5_ n6_ n7_ n8_; (try clear hb); (try clear hb2); (try clear hk); (try clear hi)))
                 go_meet
                 case rel => exact ⟨_, ((t884 != t837)), (by first | rfl | (simp; done) | (simp [*]; done)), H', ⟨by have := HJ20.out; have := HJ59.out; first | omega | exact Nat.le_refl _⟩, ⟨by (with_reducible repeat (first | apply Kd.qar | apply Kd.qas | apply Kd.qax)); exact HO_839003.out⟩, ⟨by (with_reducible repeat (first | apply Kd.qar | apply Kd.qas | apply Kd.qax)); exact HO_854003.out⟩, ⟨by (with_reducible repeat (first | apply Kd.qar | apply Kd.qas | apply Kd.qax)); exact Kd.qbn HO882.out (fun _ hk => ⟨hk.1.2, hk.2⟩)⟩, ⟨by (with_reducible repeat (first | refine qag ?_ _ | refine qaj ?_ | refine qaf ?_ _)); exact BK838.out⟩, ⟨by (with_reducible repeat (first | refine qag ?_ _ | refine qaj ?_ | refine qaf ?_ _)); exact BK853.out⟩, ⟨by (with_reducible repeat (first | refine qag ?_ _ | refine qaj ?_ | refine qaf ?_ _)); exact BK885.out⟩, ⟨by repeat (first | (with_reducible first | exact HB.out | apply qac | apply qaa | apply qab | refine qai ?_ GE838.out | refine qai ?_ GE853.out | refine qai ?_ GE885.out) | exact HB.out)⟩⟩
                ·replace c110 := Bool.eq_false_iff.mpr c110
                 subst c110
                 have H1 : (qae.j2 kj59 t868 true t845 t846 t847 t869 t851) = some r := by rw [if_neg (show ¬ (false = true) by decide)] at H; exact H
                 clear H
                 have H := H1
                 clear H1
                 have H' := Aside0.mk H
                 clear H
                 have hnb117 := NB885_838.out
                 have hnc117 := NB838_885.out
                 have hnb118 := NB885_853.out
                 have hnc118 := NB853_885.out
                 have hcz119_0 : w104.cell? ⟨gb885, 0, none⟩ = some (.string (⟨#[]⟩ : ByteArray)) := (qah BK885.out 0).trans rfl
                 have hcz119_1 : w104.cell? ⟨gb885, 1, none⟩ = some (.string (⟨#[]⟩ : ByteArray)) := (qah BK885.out 1).trans rfl
                 have hcz119_2 : w104.cell? ⟨gb885, 2, none⟩ = some (.int .i64 0) := (qah BK885.out 2).trans rfl
                 have hcz119_3 : w104.cell? ⟨gb885, 3, none⟩ = some (.slice none 0 0) := (qah BK885.out 3).trans rfl
                 have hcz119_4 : w104.cell? ⟨gb885, 4, none⟩ = some (.int .i64 0) := (qah BK885.out 4).trans rfl
                 have hfz119_0 := qad BK885.out 0
                 have hfz119_1 := qad BK885.out 1
                 have hfz119_2 := qad BK885.out 2
                 have hfz119_3 := qad BK885.out 3
                 have hfz119_4 := qad BK885.out 4
                 have hnb120 := NB838_853.out
                 have hnc120 := NB853_838.out
                 have hcz121_0 : w104.cell? ⟨gb838, 0, none⟩ = some (.string t830) := (qah BK838.out 0).trans rfl
                 have hcz121_1 : w104.cell? ⟨gb838, 1, none⟩ = some (.string t831) := (qah BK838.out 1).trans rfl
                 have hcz121_2 : w104.cell? ⟨gb838, 2, none⟩ = some (.int .i64 t832) := (qah BK838.out 2).trans rfl
                 have hcz121_3 : w104.cell? ⟨gb838, 3, none⟩ = some (.slice Ao31 t833.length co31) := (qah BK838.out 3).trans rfl
                 have hcz121_4 : w104.cell? ⟨gb838, 4, none⟩ = some (.int .i64 t836) := (qah BK838.out 4).trans rfl
                 have hfz121_0 := qad BK838.out 0
                 have hfz121_1 := qad BK838.out 1
                 have hfz121_2 := qad BK838.out 2
                 have hfz121_3 := qad BK838.out 3
                 have hfz121_4 := qad BK838.out 4
                 go_wp2_with (first | ((with_reducible refine qaz (f := 31) rfl ?_); refine qbf (some 125) rfl rfl Try.func31 (by kernel_rfl) rfl #[.agg #[.string t877, .string t878, .int .i64 t879, .slice Ao108 t880.length co108, .int .i64 t883], .agg #[.string t830, .string t831, .int .i64 t832, .slice Ao31 t833.length co31, .int .i64 t836]] rfl (by (try simp only [List.map_toArray, List.map_cons, List.map_nil]); first | done | rfl | (simp only [List.length_drop, List.length_take]; rfl)) ?_; (with_reducible refine (qaO.calls kj59 t877 t878 t879 _ _ t880 t883 t830 t831 t832 _ _ t833 t836 false _ ?side1 ?side2 ?side3 ?side4 A109.out).mono ?_); (case side1 => refine (Kd.qaM (e := 82) (base := w.heap.size) (ok := fun k_ => ((True ∧ some k_ ≠ (.slice Ao31 t833.length co31 : Value).ownBlock) ∧ some k_ ≠ (.slice Ao40 t848.length co40 : Value).ownBlock)) (n := t880.length) (c := co108) ?_).2.2; exact (by (with_reducible repeat (first | apply Kd.qar | apply Kd.qas | apply Kd.qax)); exact (Kd.qbn (Kd.qa0 (p := ⟨gb885, 4, none⟩) (Kd.qa0 (p := ⟨gb885, 3, none⟩) (Kd.qa0 (p := ⟨gb885, 2, none⟩) (Kd.qa0 (p := ⟨gb885, 1, none⟩) (Kd.qa0 (p := ⟨gb885, 0, none⟩) (Kd.qbw HO882.out BK885.out (by decide)) (fun _ hk => hk.2) (.string t877)) (fun _ hk => hk.2) (.string t878)) (fun _ hk => hk.2) (.int .i64 t879)) (fun _ hk => hk.2) (.slice Ao108 t880.length co108)) (fun _ hk => hk.2) (.int .i64 t883)) (fun _ h_ => h_.1)))); (case side2 => exact (Kd.qaM HO882.out).2.1); (case side3 => refine (Kd.qaM (e := 82) (base := w.heap.size) (ok := fun k_ => (some k_ ≠ (.slice Ao40 t848.length co40 : Value).ownBlock ∧ some k_ ≠ (.slice Ao108 t880.length co108 : Value).ownBlock)) (n := t833.length) (c := co31) ?_).2.2; exact (by (with_reducible repeat (first | apply Kd.qar | apply Kd.qas | apply Kd.qax)); exact (Kd.qbn (Kd.qa0 (p := ⟨gb885, 4, none⟩) (Kd.qa0 (p := ⟨gb885, 3, none⟩) (Kd.qa0 (p := ⟨gb885, 2, none⟩) (Kd.qa0 (p := ⟨gb885, 1, none⟩) (Kd.qa0 (p := ⟨gb885, 0, none⟩) (Kd.qbw HO_839003.out BK885.out (by decide)) (fun _ hk => hk.2) (.string t877)) (fun _ hk => hk.2) (.string t878)) (fun _ hk => hk.2) (.int .i64 t879)) (fun _ hk => hk.2) (.slice Ao108 t880.length co108)) (fun _ hk => hk.2) (.int .i64 t883)) (fun _ h_ => h_.1)))); (case side4 => exact (Kd.qaM HO_839003.out).2.1); rintro e w122 ⟨rfl, hb⟩; refine ⟨_, rfl, ?_⟩; have n0_ := Aside0.mk (Kd.qaA (by (with_reducible repeat (first | apply Kd.qar | apply Kd.qas | apply Kd.qax)); exact (Kd.qbn (Kd.qa0 (p := ⟨gb885, 4, none⟩) (Kd.qa0 (p := ⟨gb885, 3, none⟩) (Kd.qa0 (p := ⟨gb885, 2, none⟩) (Kd.qa0 (p := ⟨gb885, 1, none⟩) (Kd.qa0 (p := ⟨gb885, 0, none⟩) (Kd.qbw HO_839003.out BK885.out (by decide)) (fun _ hk => hk.2) (.string t877)) (fun _ hk => hk.2) (.string t878)) (fun _ hk => hk.2) (.int .i64 t879)) (fun _ hk => hk.2) (.slice Ao108 t880.length co108)) (fun _ hk => hk.2) (.int .i64 t883)) (fun _ h_ => h_.1))) hb); have n1_ := Aside0.mk (Kd.qaA (by (with_reducible repeat (first | apply Kd.qar | apply Kd.qas | apply Kd.qax)); exact (Kd.qbn (Kd.qa0 (p := ⟨gb885, 4, none⟩) (Kd.qa0 (p := ⟨gb885, 3, none⟩) (Kd.qa0 (p := ⟨gb885, 2, none⟩) (Kd.qa0 (p := ⟨gb885, 1, none⟩) (Kd.qa0 (p := ⟨gb885, 0, none⟩) (Kd.qbw HO_854003.out BK885.out (by decide)) (fun _ hk => hk.2) (.string t877)) (fun _ hk => hk.2) (.string t878)) (fun _ hk => hk.2) (.int .i64 t879)) (fun _ hk => hk.2) (.slice Ao108 t880.length co108)) (fun _ hk => hk.2) (.int .i64 t883)) (fun _ h_ => h_.1))) hb); have n2_ := Aside0.mk (Kd.qaA (by (with_reducible repeat (first | apply Kd.qar | apply Kd.qas | apply Kd.qax)); exact (Kd.qbn (Kd.qa0 (p := ⟨gb885, 4, none⟩) (Kd.qa0 (p := ⟨gb885, 3, none⟩) (Kd.qa0 (p := ⟨gb885, 2, none⟩) (Kd.qa0 (p := ⟨gb885, 1, none⟩) (Kd.qa0 (p := ⟨gb885, 0, none⟩) (Kd.qbw HO873.out BK885.out (by decide)) (fun _ hk => hk.2) (.string t877)) (fun _ hk => hk.2) (.string t878)) (fun _ hk => hk.2) (.int .i64 t879)) (fun _ hk => hk.2) (.slice Ao108 t880.length co108)) (fun _ hk => hk.2) (.int .i64 t883)) (fun _ h_ => h_.1))) hb); have n3_ := Aside0.mk (Kd.qaA (by (with_reducible repeat (first | apply Kd.qar | apply Kd.qas | apply Kd.qax)); exact (Kd.qbn (Kd.qa0 (p := ⟨gb885, 4, none⟩) (Kd.qa0 (p := ⟨gb885, 3, none⟩) (Kd.qa0 (p := ⟨gb885, 2, none⟩) (Kd.qa0 (p := ⟨gb885, 1, none⟩) (Kd.qa0 (p := ⟨gb885, 0, none⟩) (Kd.qbw HO876.out BK885.out (by decide)) (fun _ hk => hk.2) (.string t877)) (fun _ hk => hk.2) (.string t878)) (fun _ hk => hk.2) (.int .i64 t879)) (fun _ hk => hk.2) (.slice Ao108 t880.length co108)) (fun _ hk => hk.2) (.int .i64 t883)) (fun _ h_ => h_.1))) hb); have n4_ := Aside0.mk (Kd.qaA (by (with_reducible repeat (first | apply Kd.qar | apply Kd.qas | apply Kd.qax)); exact (Kd.qbn (Kd.qa0 (p := ⟨gb885, 4, none⟩) (Kd.qa0 (p := ⟨gb885, 3, none⟩) (Kd.qa0 (p := ⟨gb885, 2, none⟩) (Kd.qa0 (p := ⟨gb885, 1, none⟩) (Kd.qa0 (p := ⟨gb885, 0, none⟩) (Kd.qbw HO882.out BK885.out (by decide)) (fun _ hk => hk.2) (.string t877)) (fun _ hk => hk.2) (.string t878)) (fun _ hk => hk.2) (.int .i64 t879)) (fun _ hk => hk.2) (.slice Ao108 t880.length co108)) (fun _ hk => hk.2) (.int .i64 t883)) (fun _ h_ => h_.1))) hb); have n5_ := Aside0.mk (qaB (g := gb838) (o := .cells #[.string t830, .string t831, .int .i64 t832, .slice Ao31 t833.length co31, .int .i64 t836] 48 (0, 0)) (by (with_reducible repeat (first | refine qag ?_ _ | refine qaj ?_ | refine qaf ?_ _)); refine qbE ?_ NB838_885.out _; (with_reducible repeat (first | refine qag ?_ _ | refine qaj ?_ | refine qaf ?_ _)); refine qbE ?_ NB838_885.out _; (with_reducible repeat (first | refine qag ?_ _ | refine qaj ?_ | refine qaf ?_ _)); refine qbE ?_ NB838_885.out _; (with_reducible repeat (first | refine qag ?_ _ | refine qaj ?_ | refine qaf ?_ _)); refine qbE ?_ NB838_885.out _; (with_reducible repeat (first | refine qag ?_ _ | refine qaj ?_ | refine qaf ?_ _)); refine qbE ?_ NB838_885.out _; (with_reducible repeat (first | refine qag ?_ _ | refine qaj ?_ | refine qaf ?_ _)); exact BK838.out) hb); have n6_ := Aside0.mk (qaB (g := gb853) (o := .cells #[.string t845, .string t846, .int .i64 t847, .slice Ao40 t848.length co40, .int .i64 t851] 48 (0, 0)) (by (with_reducible repeat (first | refine qag ?_ _ | refine qaj ?_ | refine qaf ?_ _)); refine qbE ?_ NB853_885.out _; (with_reducible repeat (first | refine qag ?_ _ | refine qaj ?_ | refine qaf ?_ _)); refine qbE ?_ NB853_885.out _; (with_reducible repeat (first | refine qag ?_ _ | refine qaj ?_ | refine qaf ?_ _)); refine qbE ?_ NB853_885.out _; (with_reducible repeat (first | refine qag ?_ _ | refine qaj ?_ | refine qaf ?_ _)); refine qbE ?_ NB853_885.out _; (with_reducible repeat (first | refine qag ?_ _ | refine qaj ?_ | refine qaf ?_ _)); refine qbE ?_ NB853_885.out _; (with_reducible repeat (first | refine qag ?_ _ | refine qaj ?_ | refine qaf ?_ _)); exact BK853.out) hb); have n7_ := Aside0.mk (qaB (g := gb885) (o := .cells #[.string t877, .string t878, .int .i64 t879, .slice Ao108 t880.length co108, .int .i64 t883] 48 (0, 0)) (by (with_reducible repeat (first | refine qag ?_ _ | refine qaj ?_ | refine qaf ?_ _)); refine qaI (cs := #[.string t877, .string t878, .int .i64 t879, .slice Ao108 t880.length co108, .int .i64 0]) ?_ 4 _ rfl; (with_reducible repeat (first | refine qag ?_ _ | refine qaj ?_ | refine qaf ?_ _)); refine qaI (cs := #[.string t877, .string t878, .int .i64 t879, .slice none 0 0, .int .i64 0]) ?_ 3 _ rfl; (with_reducible repeat (first | refine qag ?_ _ | refine qaj ?_ | refine qaf ?_ _)); refine qaI (cs := #[.string t877, .string t878, .int .i64 0, .slice none 0 0, .int .i64 0]) ?_ 2 _ rfl; (with_reducible repeat (first | refine qag ?_ _ | refine qaj ?_ | refine qaf ?_ _)); refine qaI (cs := #[.string t877, .string (⟨#[]⟩ : ByteArray), .int .i64 0, .slice none 0 0, .int .i64 0]) ?_ 1 _ rfl; (with_reducible repeat (first | refine qag ?_ _ | refine qaj ?_ | refine qaf ?_ _)); refine qaI (cs := #[.string (⟨#[]⟩ : ByteArray), .string (⟨#[]⟩ : ByteArray), .int .i64 0, .slice none 0 0, .int .i64 0]) ?_ 0 _ rfl; (with_reducible repeat (first | refine qag ?_ _ | refine qaj ?_ | refine qaf ?_ _)); exact BK885.out) hb); have n8_ := Aside0.mk (qak (by repeat (first | (with_reducible first | exact HB.out | apply qac | apply qaa | apply qab | refine qai ?_ GE838.out | refine qai ?_ GE853.out | refine qai ?_ GE885.out) | exact HB.out)) hb); clear HO_839003; clear HO_854003; clear HO873; clear HO876; clear HO882; clear BK838; clear BK853; clear BK885; clear HB; have HO_839003 := n0_; have HO_854003 := n1_; have HO873 := n2_; have HO876 := n3_; have HO882 := n4_; have BK838 := n5_; have BK853 := n6_; have BK885 := n7_; have HB := n8_; clear n0_ n1_ n2_ n3_ n4_ n5_ n6_ n7_ n8_; (try clear hb); (try clear hb2); (try clear hk); (try clear hi)))
                 go_meet
                 case rel => exact ⟨_, (true), (by first | rfl | (simp; done) | (simp [*]; done)), H', ⟨by have := HJ20.out; have := HJ59.out; first | omega | exact Nat.le_refl _⟩, ⟨by (with_reducible repeat (first | apply Kd.qar | apply Kd.qas | apply Kd.qax)); exact HO_839003.out⟩, ⟨by (with_reducible repeat (first | apply Kd.qar | apply Kd.qas | apply Kd.qax)); exact HO_854003.out⟩, ⟨by (with_reducible repeat (first | apply Kd.qar | apply Kd.qas | apply Kd.qax)); exact Kd.qbn HO882.out (fun _ hk => ⟨hk.1.2, hk.2⟩)⟩, ⟨by (with_reducible repeat (first | refine qag ?_ _ | refine qaj ?_ | refine qaf ?_ _)); exact BK838.out⟩, ⟨by (with_reducible repeat (first | refine qag ?_ _ | refine qaj ?_ | refine qaf ?_ _)); exact BK853.out⟩, ⟨by (with_reducible repeat (first | refine qag ?_ _ | refine qaj ?_ | refine qaf ?_ _)); exact BK885.out⟩, ⟨by repeat (first | (with_reducible first | exact HB.out | apply qac | apply qaa | apply qab | refine qai ?_ GE838.out | refine qai ?_ GE853.out | refine qai ?_ GE885.out) | exact HB.out)⟩⟩
               case rest =>
                clear HC93
                try clear c1
                try clear p2
                try clear c3
                try clear c4
                try clear c5
                try clear c6
                try clear c6b0
                try clear c6b1
                try clear c7
                try clear c7b0
                try clear c7b1
                try clear c8
                try clear c9
                try clear c9b0
                try clear c10
                try clear c11
                try clear c12
                try clear c12b0
                try clear c13
                try clear c15
                try clear c19
                try clear c31
                try clear c35
                try clear c38
                try clear c39
                try clear c40
                try clear c42
                try clear c43
                try clear c47
                try clear c51
                try clear c54
                try clear c57
                try clear c69
                try clear c69b0
                try clear c71
                try clear c72
                try clear c76
                try clear c80
                try clear c83
                try clear c83b0
                try clear c84
                try clear c89
                try clear c89b0
                try clear c89b1
                try clear c94
                try clear c105
                try clear c106
                try clear c110
                try clear c111
                try clear c112
                try clear c114
                try clear c117
                try clear c118
                try clear c120
                try clear hcz107_0
                try clear hcz107_1
                try clear hcz107_2
                try clear hcz107_3
                try clear hcz107_4
                try clear hcz113_0
                try clear hcz113_1
                try clear hcz113_2
                try clear hcz113_3
                try clear hcz113_4
                try clear hcz115_0
                try clear hcz115_1
                try clear hcz115_2
                try clear hcz115_3
                try clear hcz115_4
                try clear hcz119_0
                try clear hcz119_1
                try clear hcz119_2
                try clear hcz119_3
                try clear hcz119_4
                try clear hcz121_0
                try clear hcz121_1
                try clear hcz121_2
                try clear hcz121_3
                try clear hcz121_4
                try clear hcz30_0
                try clear hcz30_1
                try clear hcz30_2
                try clear hcz30_3
                try clear hcz30_4
                try clear hcz39_0
                try clear hcz39_1
                try clear hcz39_2
                try clear hcz39_3
                try clear hcz39_4
                try clear hcz44_0
                try clear hcz44_1
                try clear hcz44_2
                try clear hcz44_3
                try clear hcz44_4
                try clear hcz45_0
                try clear hcz45_1
                try clear hcz45_2
                try clear hcz45_3
                try clear hcz45_4
                try clear hcz48_0
                try clear hcz48_1
                try clear hcz48_2
                try clear hcz48_3
                try clear hcz48_4
                try clear hcz49_0
                try clear hcz49_1
                try clear hcz49_2
                try clear hcz49_3
                try clear hcz49_4
                try clear hcz73_0
                try clear hcz73_1
                try clear hcz73_2
                try clear hcz73_3
                try clear hcz73_4
                try clear hcz74_0
                try clear hcz74_1
                try clear hcz74_2
                try clear hcz74_3
                try clear hcz74_4
                try clear hcz77_0
                try clear hcz77_1
                try clear hcz77_2
                try clear hcz77_3
                try clear hcz77_4
                try clear hcz78_0
                try clear hcz78_1
                try clear hcz78_2
                try clear hcz78_3
                try clear hcz78_4
                try clear hcz85_0
                try clear hcz85_1
                try clear hcz85_2
                try clear hcz85_3
                try clear hcz85_4
                try clear hcz87_0
                try clear hcz87_1
                try clear hcz87_2
                try clear hcz87_3
                try clear hcz87_4
                try clear hcz95_0
                try clear hcz95_1
                try clear hcz95_2
                try clear hcz95_3
                try clear hcz95_4
                try clear hcz97_0
                try clear hcz97_1
                try clear hcz97_2
                try clear hcz97_3
                try clear hcz97_4
                try clear hfz107_0
                try clear hfz107_1
                try clear hfz107_2
                try clear hfz107_3
                try clear hfz107_4
                try clear hfz113_0
                try clear hfz113_1
                try clear hfz113_2
                try clear hfz113_3
                try clear hfz113_4
                try clear hfz115_0
                try clear hfz115_1
                try clear hfz115_2
                try clear hfz115_3
                try clear hfz115_4
                try clear hfz119_0
                try clear hfz119_1
                try clear hfz119_2
                try clear hfz119_3
                try clear hfz119_4
                try clear hfz121_0
                try clear hfz121_1
                try clear hfz121_2
                try clear hfz121_3
                try clear hfz121_4
                try clear hfz30_0
                try clear hfz30_1
                try clear hfz30_2
                try clear hfz30_3
                try clear hfz30_4
                try clear hfz39_0
                try clear hfz39_1
                try clear hfz39_2
                try clear hfz39_3
                try clear hfz39_4
                try clear hfz44_0
                try clear hfz44_1
                try clear hfz44_2
                try clear hfz44_3
                try clear hfz44_4
                try clear hfz45_0
                try clear hfz45_1
                try clear hfz45_2
                try clear hfz45_3
                try clear hfz45_4
                try clear hfz48_0
                try clear hfz48_1
                try clear hfz48_2
                try clear hfz48_3
                try clear hfz48_4
                try clear hfz49_0
                try clear hfz49_1
                try clear hfz49_2
                try clear hfz49_3
                try clear hfz49_4
                try clear hfz73_0
                try clear hfz73_1
                try clear hfz73_2
                try clear hfz73_3
                try clear hfz73_4
                try clear hfz74_0
                try clear hfz74_1
                try clear hfz74_2
                try clear hfz74_3
                try clear hfz74_4
                try clear hfz77_0
                try clear hfz77_1
                try clear hfz77_2
                try clear hfz77_3
                try clear hfz77_4
                try clear hfz78_0
                try clear hfz78_1
                try clear hfz78_2
                try clear hfz78_3
                try clear hfz78_4
                try clear hfz85_0
                try clear hfz85_1
                try clear hfz85_2
                try clear hfz85_3
                try clear hfz85_4
                try clear hfz87_0
                try clear hfz87_1
                try clear hfz87_2
                try clear hfz87_3
                try clear hfz87_4
                try clear hfz95_0
                try clear hfz95_1
                try clear hfz95_2
                try clear hfz95_3
                try clear hfz95_4
                try clear hfz97_0
                try clear hfz97_1
                try clear hfz97_2
                try clear hfz97_3
                try clear hfz97_4
                try clear p2
                obtain ⟨kq, x131_92, rfl, HA, HJ92, HO_839003, HO_854003, HO_886003, BK838, BK853, BK885, HB⟩ := hcut
                have hl854003_92 := (Kd.qaM HO_854003.out).1
                rw [hl854003_92] at HO_854003
                (try simp only [hl854003_92])
                (try simp only [hl854003_92] at BK838)
                (try simp only [hl854003_92] at BK853)
                (try simp only [hl854003_92] at BK885)
                (try simp only [hl854003_92] at HO_839003)
                (try simp only [hl854003_92] at HO_886003)
                cases kq with
                | zero => exact absurd HA.out (by simp [qae.j2])
                | succ kj92 =>
                 have H := HA.out
                 clear HA
                 simp only [qae.j2] at H
                 by_cases c123 : x131_92 = true
                 ·subst c123
                  have H1 : (some false) = some r := by rw [if_pos rfl] at H; exact H
                  clear H
                  have H := H1
                  clear H1
                  obtain rfl := Option.some.inj H
                  go_wp2
                  go_ret
                  exact ⟨by first | rfl | (simp [qam, qan] <;> rfl) | (simp [*, qam, qan] <;> rfl), by repeat (first | (with_reducible first | exact HB.out | apply qac | apply qaa | apply qab | refine qai ?_ GE838.out | refine qai ?_ GE853.out | refine qai ?_ GE885.out) | exact HB.out)⟩
                 ·replace c123 := Bool.eq_false_iff.mpr c123
                  subst c123
                  have H1 : ((qa9.f kj92 t845 t846 t847 t869 t851 1).bind fun t887 => (if t887 < 0 then (some false) else (if t887 = t868 then (some true) else (some false)))) = some r := by rw [if_neg (show ¬ (false = true) by decide)] at H; exact H
                  clear H
                  have H := H1
                  clear H1
                  replace H := Option.bind_eq_some_iff.mp H
                  obtain ⟨t887, A1240, H⟩ := H
                  replace H : (if t887 < 0 then (some false) else (if t887 = t868 then (some true) else (some false))) = some r := H
                  have A124 := Aside0.mk A1240
                  clear A1240
                  by_cases c125 : t887 < 0
                  ·rw [if_pos c125] at H
                   have c125b0 : decide (t887 < 0) = true := decide_eq_true c125
                   clear c125
                   obtain rfl := Option.some.inj H
                   have hnb126 := NB853_838.out
                   have hnc126 := NB838_853.out
                   have hnb127 := NB853_885.out
                   have hnc127 := NB885_853.out
                   have hcz128_0 : wc.cell? ⟨gb853, 0, none⟩ = some (.string t845) := (qah BK853.out 0).trans rfl
                   have hcz128_1 : wc.cell? ⟨gb853, 1, none⟩ = some (.string t846) := (qah BK853.out 1).trans rfl
                   have hcz128_2 : wc.cell? ⟨gb853, 2, none⟩ = some (.int .i64 t847) := (qah BK853.out 2).trans rfl
                   have hcz128_3 : wc.cell? ⟨gb853, 3, none⟩ = some (.slice Ao40 t869.length co40) := (qah BK853.out 3).trans rfl
                   have hcz128_4 : wc.cell? ⟨gb853, 4, none⟩ = some (.int .i64 t851) := (qah BK853.out 4).trans rfl
                   have hfz128_0 := qad BK853.out 0
                   have hfz128_1 := qad BK853.out 1
                   have hfz128_2 := qad BK853.out 2
                   have hfz128_3 := qad BK853.out 3
                   have hfz128_4 := qad BK853.out 4
                   go_wp2_with (first | ((with_reducible refine qaz (f := 40) rfl ?_); refine qbf (some 134) rfl rfl Try.func40 (by kernel_rfl) rfl #[.agg #[.string t845, .string t846, .int .i64 t847, .slice Ao40 t869.length co40, .int .i64 t851], .int .i64 1] rfl (by (try simp only [List.map_toArray, List.map_cons, List.map_nil]); first | done | rfl | (simp only [List.length_drop, List.length_take]; rfl)) ?_; (with_reducible refine (qa9.calls kj92 t845 t846 t847 _ _ t869 t851 1 t887 _ ?side1 ?side2 A124.out).mono ?_); (case side1 => repeat (first | exact (Kd.qaM HO_854003.out).2.2 | (with_reducible refine Kd.qa7 ?_ _) | (with_reducible refine Kd.qa8 ?_ _) | (with_reducible refine Kd.qbm ?_))); (case side2 => exact (Kd.qaM HO_854003.out).2.1); rintro e w129 ⟨rfl, hb⟩; refine ⟨_, rfl, ?_⟩; have n0_ := Aside0.mk (Kd.qaA (by (with_reducible repeat (first | apply Kd.qar | apply Kd.qas | apply Kd.qax)); exact HO_839003.out) hb); have n1_ := Aside0.mk (Kd.qaA (by (with_reducible repeat (first | apply Kd.qar | apply Kd.qas | apply Kd.qax)); exact HO_854003.out) hb); have n2_ := Aside0.mk (Kd.qaA (by (with_reducible repeat (first | apply Kd.qar | apply Kd.qas | apply Kd.qax)); exact HO_886003.out) hb); have n3_ := Aside0.mk (qaB (g := gb838) (o := .cells #[.string t830, .string t831, .int .i64 t832, .slice Ao31 t833.length co31, .int .i64 t836] 48 (0, 0)) (by (with_reducible repeat (first | refine qag ?_ _ | refine qaj ?_ | refine qaf ?_ _)); exact BK838.out) hb); have n4_ := Aside0.mk (qaB (g := gb853) (o := .cells #[.string t845, .string t846, .int .i64 t847, .slice Ao40 t869.length co40, .int .i64 t851] 48 (0, 0)) (by (with_reducible repeat (first | refine qag ?_ _ | refine qaj ?_ | refine qaf ?_ _)); exact BK853.out) hb); have n5_ := Aside0.mk (qaB (g := gb885) (o := .cells #[.string t877, .string t878, .int .i64 t879, .slice Ao108 t880.length co108, .int .i64 t883] 48 (0, 0)) (by (with_reducible repeat (first | refine qag ?_ _ | refine qaj ?_ | refine qaf ?_ _)); exact BK885.out) hb); have n6_ := Aside0.mk (qak (by repeat (first | (with_reducible first | exact HB.out | apply qac | apply qaa | apply qab | refine qai ?_ GE838.out | refine qai ?_ GE853.out | refine qai ?_ GE885.out) | exact HB.out)) hb); clear HO_839003; clear HO_854003; clear HO_886003; clear BK838; clear BK853; clear BK885; clear HB; have HO_839003 := n0_; have HO_854003 := n1_; have HO_886003 := n2_; have BK838 := n3_; have BK853 := n4_; have BK885 := n5_; have HB := n6_; clear n0_ n1_ n2_ n3_ n4_ n5_ n6_; (try clear hb); (try clear hb2); (try clear hk); (try clear hi)))
                   go_ret
                   exact ⟨by first | rfl | (simp [qam, qan] <;> rfl) | (simp [*, qam, qan] <;> rfl), by repeat (first | (with_reducible first | exact HB.out | apply qac | apply qaa | apply qab | refine qai ?_ GE838.out | refine qai ?_ GE853.out | refine qai ?_ GE885.out) | exact HB.out)⟩
                  ·rw [if_neg c125] at H
                   have c125b0 : decide (t887 < 0) = false := decide_eq_false c125
                   clear c125
                   by_cases c130 : t887 = t868
                   ·rw [if_pos c130] at H
                    have c130b0 : (t887 == t868) = true := beq_iff_eq.mpr c130
                    have c130b1 : (t887 != t868) = false := bne_eq_false_iff_eq.mpr c130
                    clear c130
                    obtain rfl := Option.some.inj H
                    have hnb131 := NB853_838.out
                    have hnc131 := NB838_853.out
                    have hnb132 := NB853_885.out
                    have hnc132 := NB885_853.out
                    have hcz133_0 : wc.cell? ⟨gb853, 0, none⟩ = some (.string t845) := (qah BK853.out 0).trans rfl
                    have hcz133_1 : wc.cell? ⟨gb853, 1, none⟩ = some (.string t846) := (qah BK853.out 1).trans rfl
                    have hcz133_2 : wc.cell? ⟨gb853, 2, none⟩ = some (.int .i64 t847) := (qah BK853.out 2).trans rfl
                    have hcz133_3 : wc.cell? ⟨gb853, 3, none⟩ = some (.slice Ao40 t869.length co40) := (qah BK853.out 3).trans rfl
                    have hcz133_4 : wc.cell? ⟨gb853, 4, none⟩ = some (.int .i64 t851) := (qah BK853.out 4).trans rfl
                    have hfz133_0 := qad BK853.out 0
                    have hfz133_1 := qad BK853.out 1
                    have hfz133_2 := qad BK853.out 2
                    have hfz133_3 := qad BK853.out 3
                    have hfz133_4 := qad BK853.out 4
                    go_wp2_with (first | ((with_reducible refine qaz (f := 40) rfl ?_); refine qbf (some 134) rfl rfl Try.func40 (by kernel_rfl) rfl #[.agg #[.string t845, .string t846, .int .i64 t847, .slice Ao40 t869.length co40, .int .i64 t851], .int .i64 1] rfl (by (try simp only [List.map_toArray, List.map_cons, List.map_nil]); first | done | rfl | (simp only [List.length_drop, List.length_take]; rfl)) ?_; (with_reducible refine (qa9.calls kj92 t845 t846 t847 _ _ t869 t851 1 t887 _ ?side1 ?side2 A124.out).mono ?_); (case side1 => repeat (first | exact (Kd.qaM HO_854003.out).2.2 | (with_reducible refine Kd.qa7 ?_ _) | (with_reducible refine Kd.qa8 ?_ _) | (with_reducible refine Kd.qbm ?_))); (case side2 => exact (Kd.qaM HO_854003.out).2.1); rintro e w134 ⟨rfl, hb⟩; refine ⟨_, rfl, ?_⟩; have n0_ := Aside0.mk (Kd.qaA (by (with_reducible repeat (first | apply Kd.qar | apply Kd.qas | apply Kd.qax)); exact HO_839003.out) hb); have n1_ := Aside0.mk (Kd.qaA (by (with_reducible repeat (first | apply Kd.qar | apply Kd.qas | apply Kd.qax)); exact HO_854003.out) hb); have n2_ := Aside0.mk (Kd.qaA (by (with_reducible repeat (first | apply Kd.qar | apply Kd.qas | apply Kd.qax)); exact HO_886003.out) hb); have n3_ := Aside0.mk (qaB (g := gb838) (o := .cells #[.string t830, .string t831, .int .i64 t832, .slice Ao31 t833.length co31, .int .i64 t836] 48 (0, 0)) (by (with_reducible repeat (first | refine qag ?_ _ | refine qaj ?_ | refine qaf ?_ _)); exact BK838.out) hb); have n4_ := Aside0.mk (qaB (g := gb853) (o := .cells #[.string t845, .string t846, .int .i64 t847, .slice Ao40 t869.length co40, .int .i64 t851] 48 (0, 0)) (by (with_reducible repeat (first | refine qag ?_ _ | refine qaj ?_ | refine qaf ?_ _)); exact BK853.out) hb); have n5_ := Aside0.mk (qaB (g := gb885) (o := .cells #[.string t877, .string t878, .int .i64 t879, .slice Ao108 t880.length co108, .int .i64 t883] 48 (0, 0)) (by (with_reducible repeat (first | refine qag ?_ _ | refine qaj ?_ | refine qaf ?_ _)); exact BK885.out) hb); have n6_ := Aside0.mk (qak (by repeat (first | (with_reducible first | exact HB.out | apply qac | apply qaa | apply qab | refine qai ?_ GE838.out | refine qai ?_ GE853.out | refine qai ?_ GE885.out) | exact HB.out)) hb); clear HO_839003; clear HO_854003; clear HO_886003; clear BK838; clear BK853; clear BK885; clear HB; have HO_839003 := n0_; have HO_854003 := n1_; have HO_886003 := n2_; have BK838 := n3_; have BK853 := n4_; have BK885 := n5_; have HB := n6_; clear n0_ n1_ n2_ n3_ n4_ n5_ n6_; (try clear hb); (try clear hb2); (try clear hk); (try clear hi)))
                    go_ret
                    exact ⟨by first | rfl | (simp [qam, qan] <;> rfl) | (simp [*, qam, qan] <;> rfl), by repeat (first | (with_reducible first | exact HB.out | apply qac | apply qaa | apply qab | refine qai ?_ GE838.out | refine qai ?_ GE853.out | refine qai ?_ GE885.out) | exact HB.out)⟩
                   ·rw [if_neg c130] at H
                    have c130b0 : (t887 == t868) = false := beq_eq_false_iff_ne.mpr c130
                    have c130b1 : (t887 != t868) = true := bne_iff_ne.mpr c130
                    obtain rfl := Option.some.inj H
                    have hnb135 := NB853_838.out
                    have hnc135 := NB838_853.out
                    have hnb136 := NB853_885.out
                    have hnc136 := NB885_853.out
                    have hcz137_0 : wc.cell? ⟨gb853, 0, none⟩ = some (.string t845) := (qah BK853.out 0).trans rfl
                    have hcz137_1 : wc.cell? ⟨gb853, 1, none⟩ = some (.string t846) := (qah BK853.out 1).trans rfl
                    have hcz137_2 : wc.cell? ⟨gb853, 2, none⟩ = some (.int .i64 t847) := (qah BK853.out 2).trans rfl
                    have hcz137_3 : wc.cell? ⟨gb853, 3, none⟩ = some (.slice Ao40 t869.length co40) := (qah BK853.out 3).trans rfl
                    have hcz137_4 : wc.cell? ⟨gb853, 4, none⟩ = some (.int .i64 t851) := (qah BK853.out 4).trans rfl
                    have hfz137_0 := qad BK853.out 0
                    have hfz137_1 := qad BK853.out 1
                    have hfz137_2 := qad BK853.out 2
                    have hfz137_3 := qad BK853.out 3
                    have hfz137_4 := qad BK853.out 4
                    go_wp2_with (first | ((with_reducible refine qaz (f := 40) rfl ?_); refine qbf (some 134) rfl rfl Try.func40 (by kernel_rfl) rfl #[.agg #[.string t845, .string t846, .int .i64 t847, .slice Ao40 t869.length co40, .int .i64 t851], .int .i64 1] rfl (by (try simp only [List.map_toArray, List.map_cons, List.map_nil]); first | done | rfl | (simp only [List.length_drop, List.length_take]; rfl)) ?_; (with_reducible refine (qa9.calls kj92 t845 t846 t847 _ _ t869 t851 1 t887 _ ?side1 ?side2 A124.out).mono ?_); (case side1 => repeat (first | exact (Kd.qaM HO_854003.out).2.2 | (with_reducible refine Kd.qa7 ?_ _) | (with_reducible refine Kd.qa8 ?_ _) | (with_reducible refine Kd.qbm ?_))); (case side2 => exact (Kd.qaM HO_854003.out).2.1); rintro e w138 ⟨rfl, hb⟩; refine ⟨_, rfl, ?_⟩; have n0_ := Aside0.mk (Kd.qaA (by (with_reducible repeat (first | apply Kd.qar | apply Kd.qas | apply Kd.qax)); exact HO_839003.out) hb); have n1_ := Aside0.mk (Kd.qaA (by (with_reducible repeat (first | apply Kd.qar | apply Kd.qas | apply Kd.qax)); exact HO_854003.out) hb); have n2_ := Aside0.mk (Kd.qaA (by (with_reducible repeat (first | apply Kd.qar | apply Kd.qas | apply Kd.qax)); exact HO_886003.out) hb); have n3_ := Aside0.mk (qaB (g := gb838) (o := .cells #[.string t830, .string t831, .int .i64 t832, .slice Ao31 t833.length co31, .int .i64 t836] 48 (0, 0)) (by (with_reducible repeat (first | refine qag ?_ _ | refine qaj ?_ | refine qaf ?_ _)); exact BK838.out) hb); have n4_ := Aside0.mk (qaB (g := gb853) (o := .cells #[.string t845, .string t846, .int .i64 t847, .slice Ao40 t869.length co40, .int .i64 t851] 48 (0, 0)) (by (with_reducible repeat (first | refine qag ?_ _ | refine qaj ?_ | refine qaf ?_ _)); exact BK853.out) hb); have n5_ := Aside0.mk (qaB (g := gb885) (o := .cells #[.string t877, .string t878, .int .i64 t879, .slice Ao108 t880.length co108, .int .i64 t883] 48 (0, 0)) (by (with_reducible repeat (first | refine qag ?_ _ | refine qaj ?_ | refine qaf ?_ _)); exact BK885.out) hb); have n6_ := Aside0.mk (qak (by repeat (first | (with_reducible first | exact HB.out | apply qac | apply qaa | apply qab | refine qai ?_ GE838.out | refine qai ?_ GE853.out | refine qai ?_ GE885.out) | exact HB.out)) hb); clear HO_839003; clear HO_854003; clear HO_886003; clear BK838; clear BK853; clear BK885; clear HB; have HO_839003 := n0_; have HO_854003 := n1_; have HO_886003 := n2_; have BK838 := n3_; have BK853 := n4_; have BK885 := n5_; have HB := n6_; clear n0_ n1_ n2_ n3_ n4_ n5_ n6_; (try clear hb); (try clear hb2); (try clear hk); (try clear hi)))
                    go_ret
                    exact ⟨by first | rfl | (simp [qam, qan] <;> rfl) | (simp [*, qam, qan] <;> rfl), by repeat (first | (with_reducible first | exact HB.out | apply qac | apply qaa | apply qab | refine qai ?_ GE838.out | refine qai ?_ GE853.out | refine qai ?_ GE885.out) | exact HB.out)⟩
              ·rw [if_neg c89] at H
               have c89b0 : (t870 == t868) = false := beq_eq_false_iff_ne.mpr c89
               have c89b1 : (t870 != t868) = true := bne_iff_ne.mpr c89
               obtain rfl := Option.some.inj H
               have hnb139 := NB853_838.out
               have hnc139 := NB838_853.out
               have hcz140_0 : wc.cell? ⟨gb853, 0, none⟩ = some (.string t845) := (qah BK853.out 0).trans rfl
               have hcz140_1 : wc.cell? ⟨gb853, 1, none⟩ = some (.string t846) := (qah BK853.out 1).trans rfl
               have hcz140_2 : wc.cell? ⟨gb853, 2, none⟩ = some (.int .i64 t847) := (qah BK853.out 2).trans rfl
               have hcz140_3 : wc.cell? ⟨gb853, 3, none⟩ = some (.slice Ao40 t848.length co40) := (qah BK853.out 3).trans rfl
               have hcz140_4 : wc.cell? ⟨gb853, 4, none⟩ = some (.int .i64 t851) := (qah BK853.out 4).trans rfl
               have hfz140_0 := qad BK853.out 0
               have hfz140_1 := qad BK853.out 1
               have hfz140_2 := qad BK853.out 2
               have hfz140_3 := qad BK853.out 3
               have hfz140_4 := qad BK853.out 4
               go_wp2_with (first | ((with_reducible refine qaz (f := 35) rfl ?_); refine qbf (some 103) rfl rfl Try.func35 (by kernel_rfl) rfl #[.agg #[.string t845, .string t846, .int .i64 t847, .slice Ao40 t848.length co40, .int .i64 t851], .int .i64 1] rfl (by (try simp only [List.map_toArray, List.map_cons, List.map_nil]); first | done | rfl | (simp only [List.length_drop, List.length_take]; rfl)) ?_; (with_reducible refine (qbk.calls kj59 t845 t846 t847 (fun k_ => some k_ = (.slice Ao40 t848.length co40 : Value).ownBlock) (.slice Ao40 t848.length co40) t848 t851 1 t868 t869 w _ ?side1 ?side2 A81.out).mono ?_); (case side1 => repeat (first | (with_reducible first | exact HB.out | apply qac | apply qaa | apply qab | refine qai ?_ GE838.out | refine qai ?_ GE853.out) | exact HB.out)); (case side2 => exact Kd.qcV rfl HO_854003.out); rintro e w141 ⟨rfl, hy0, hb, hkp⟩; refine ⟨_, rfl, ?_⟩; have n0_ := Aside0.mk (Kd.qbn (ok' := fun k_ => some k_ ≠ (.slice Ao40 t848.length co40 : Value).ownBlock) (Kd.qck (HO_839003.out) hkp (fun k_ hk_ hs_ => (hk_) hs_)) (fun k_ hk_ => hk_.1)); have n1_ := Aside0.mk (Kd.qd3 rfl hy0 (fun k_ e_ => HO_854003.out.1 k_ e_)); have n2_ := Aside0.mk (qci (by (with_reducible repeat (first | refine qag ?_ _ | refine qaj ?_ | refine qaf ?_ _)); exact BK838.out) hkp (fun hs_ => (fun e_ => (Kd.R_ne HO_854003.out BK838.out (by decide)) e_) hs_)); have n3_ := Aside0.mk (qci (by (with_reducible repeat (first | refine qag ?_ _ | refine qaj ?_ | refine qaf ?_ _)); exact BK853.out) hkp (fun hs_ => (fun e_ => (Kd.R_ne HO_854003.out BK853.out (by decide)) e_) hs_)); have n4_ := Aside0.mk (hb); clear HO_839003; clear HO_854003; clear BK838; clear BK853; clear HB; have HO_839003 := n0_; have HO_854003 := n1_; have BK838 := n2_; have BK853 := n3_; have HB := n4_; clear n0_ n1_ n2_ n3_ n4_; (try clear hb); (try clear hkp); (try clear hy0); have hcz142_0 : w141.cell? ⟨gb853, 0, none⟩ = some (.string t845) := (qah BK853.out 0).trans rfl; have hcz142_1 : w141.cell? ⟨gb853, 1, none⟩ = some (.string t846) := (qah BK853.out 1).trans rfl; have hcz142_2 : w141.cell? ⟨gb853, 2, none⟩ = some (.int .i64 t847) := (qah BK853.out 2).trans rfl; have hcz142_3 : w141.cell? ⟨gb853, 3, none⟩ = some (.slice Ao40 t848.length co40) := (qah BK853.out 3).trans rfl; have hcz142_4 : w141.cell? ⟨gb853, 4, none⟩ = some (.int .i64 t851) := (qah BK853.out 4).trans rfl; have hfz142_0 := qad BK853.out 0; have hfz142_1 := qad BK853.out 1; have hfz142_2 := qad BK853.out 2; have hfz142_3 := qad BK853.out 3; have hfz142_4 := qad BK853.out 4) | ((with_reducible refine qaz (f := 40) rfl ?_); refine qbf (some 106) rfl rfl Try.func40 (by kernel_rfl) rfl #[.agg #[.string t845, .string t846, .int .i64 t847, .slice Ao40 t869.length co40, .int .i64 t851], .int .i64 1] rfl (by (try simp only [List.map_toArray, List.map_cons, List.map_nil]); first | done | (rw [show t869.length = t848.length from (Kd.qaM HO_854003.out).1.symm] <;> rfl) | rfl | (simp only [List.length_drop, List.length_take]; rfl)) ?_; (with_reducible refine (qa9.calls kj59 t845 t846 t847 _ _ t869 t851 1 t870 _ ?side1 ?side2 A82.out).mono ?_); (case side1 => repeat (first | exact (Kd.qaM HO_854003.out).2.2 | (with_reducible refine Kd.qa7 ?_ _) | (with_reducible refine Kd.qa8 ?_ _) | (with_reducible refine Kd.qbm ?_))); (case side2 => rw [show t869.length = t848.length from (Kd.qaM HO_854003.out).1.symm]; exact (Kd.qaM HO_854003.out).2.1); rintro e w143 ⟨rfl, hb⟩; refine ⟨_, rfl, ?_⟩; have n0_ := Aside0.mk (Kd.qaA (by (with_reducible repeat (first | apply Kd.qar | apply Kd.qas | apply Kd.qax)); exact HO_839003.out) hb); have n1_ := Aside0.mk (Kd.qaA (by (with_reducible repeat (first | apply Kd.qar | apply Kd.qas | apply Kd.qax)); exact HO_854003.out) hb); have n2_ := Aside0.mk (qaB (g := gb838) (o := .cells #[.string t830, .string t831, .int .i64 t832, .slice Ao31 t833.length co31, .int .i64 t836] 48 (0, 0)) (by (with_reducible repeat (first | refine qag ?_ _ | refine qaj ?_ | refine qaf ?_ _)); exact BK838.out) hb); have n3_ := Aside0.mk (qaB (g := gb853) (o := .cells #[.string t845, .string t846, .int .i64 t847, .slice Ao40 t848.length co40, .int .i64 t851] 48 (0, 0)) (by (with_reducible repeat (first | refine qag ?_ _ | refine qaj ?_ | refine qaf ?_ _)); exact BK853.out) hb); have n4_ := Aside0.mk (qak (by repeat (first | (with_reducible first | exact HB.out | apply qac | apply qaa | apply qab | refine qai ?_ GE838.out | refine qai ?_ GE853.out) | exact HB.out)) hb); clear HO_839003; clear HO_854003; clear BK838; clear BK853; clear HB; have HO_839003 := n0_; have HO_854003 := n1_; have BK838 := n2_; have BK853 := n3_; have HB := n4_; clear n0_ n1_ n2_ n3_ n4_; (try clear hb); (try clear hb2); (try clear hk); (try clear hi)))
               go_ret
               exact ⟨by first | rfl | (simp [qam, qan] <;> rfl) | (simp [*, qam, qan] <;> rfl), by repeat (first | (with_reducible first | exact HB.out | apply qac | apply qaa | apply qab | refine qai ?_ GE838.out | refine qai ?_ GE853.out) | exact HB.out)⟩
         ·replace c57 := Bool.eq_false_iff.mpr c57
          subst c57
          have H1 : (some false) = some r := by rw [if_neg (show ¬ (false = true) by decide)] at H; exact H
          clear H
          have H := H1
          clear H1
          obtain rfl := Option.some.inj H
          go_wp2_with (first | ((with_reducible refine qaz (f := 13) rfl ?_); refine qbf (some 74) rfl rfl Try.func13 (by kernel_rfl) rfl #[.slice A3 l3.length c3] rfl (by (try simp only [List.map_toArray, List.map_cons, List.map_nil]); first | done | rfl | (simp only [List.length_drop, List.length_take]; rfl)) ?_; (with_reducible refine (qay.calls kj20 _ _ l3 t855 _ ?side1 ?side2 A52.out).mono ?_); (case side1 => repeat (first | exact (Kd.qa2 HR3.out HB.out) | (with_reducible refine Kd.qa7 ?_ _) | (with_reducible refine Kd.qa8 ?_ _) | (with_reducible refine Kd.qbm ?_))); (case side2 => exact HC3.out); rintro e w144 ⟨v856, rfl, ho0, hb⟩; refine ⟨_, rfl, ?_⟩; have n0_ := Aside0.mk (Kd.qbM (by (with_reducible repeat (first | apply Kd.qar | apply Kd.qas | apply Kd.qax)); exact HO_14.out) (Kd.qb2 ho0) hb); have n1_ := Aside0.mk (Kd.qbM (by (with_reducible repeat (first | apply Kd.qar | apply Kd.qas | apply Kd.qax)); exact HO_15.out) (Kd.qb2 ho0) hb); have n2_ := Aside0.mk (Kd.qaA (by (with_reducible repeat (first | apply Kd.qar | apply Kd.qas | apply Kd.qax)); exact HO_839003.out) hb); have n3_ := Aside0.mk (Kd.qaA (by (with_reducible repeat (first | apply Kd.qar | apply Kd.qas | apply Kd.qax)); exact HO_854003.out) hb); have n4_ := Aside0.mk (Kd.qbL (Kd.qb4 (Kd.qb4 ho0 (Kd.R_lt (by (with_reducible repeat (first | apply Kd.qar | apply Kd.qas | apply Kd.qax)); exact HO_14.out))) (Kd.R_lt (by (with_reducible repeat (first | apply Kd.qar | apply Kd.qas | apply Kd.qax)); exact HO_15.out))) (qau (by repeat (first | (with_reducible first | exact HB.out | apply qac | apply qaa | apply qab | refine qai ?_ GE838.out | refine qai ?_ GE853.out) | exact HB.out)))); have n5_ := Aside0.mk (qaB (g := gb838) (o := .cells #[.string t830, .string t831, .int .i64 t832, .slice Ao31 t833.length co31, .int .i64 t836] 48 (0, 0)) (by (with_reducible repeat (first | refine qag ?_ _ | refine qaj ?_ | refine qaf ?_ _)); exact BK838.out) hb); have n6_ := Aside0.mk (qaB (g := gb853) (o := .cells #[.string t845, .string t846, .int .i64 t847, .slice Ao40 t848.length co40, .int .i64 t851] 48 (0, 0)) (by (with_reducible repeat (first | refine qag ?_ _ | refine qaj ?_ | refine qaf ?_ _)); exact BK853.out) hb); have n7_ := Aside0.mk (qak (by repeat (first | (with_reducible first | exact HB.out | apply qac | apply qaa | apply qab | refine qai ?_ GE838.out | refine qai ?_ GE853.out) | exact HB.out)) hb); clear HO_14; clear HO_15; clear HO_839003; clear HO_854003; clear BK838; clear BK853; clear HB; have HO_14 := n0_; have HO_15 := n1_; have HO_839003 := n2_; have HO_854003 := n3_; have HO857 := n4_; have BK838 := n5_; have BK853 := n6_; have HB := n7_; clear n0_ n1_ n2_ n3_ n4_ n5_ n6_ n7_; (try clear hb); (try clear hb2); (try clear hk); (try clear hi); (try clear ho0); obtain ⟨Ao145, co145, eo145⟩ := Kd.qbN HO857.out; subst eo145) | ((with_reducible refine qaz (f := 15) rfl ?_); refine qbf (some 75) rfl rfl Try.func15 (by kernel_rfl) rfl #[.slice Ao34 t839.length co34, .slice Ao145 t855.length co145] rfl (by (try simp only [List.map_toArray, List.map_cons, List.map_nil]); first | done | rfl | (simp only [List.length_drop, List.length_take]; rfl)) ?_; (with_reducible refine (qaL.calls kj20 _ _ t839 _ _ t855 true _ ?side1 ?side2 ?side3 ?side4 A53.out).mono ?_); (case side1 => repeat (first | exact (Kd.qaM HO_14.out).2.2 | (with_reducible refine Kd.qa7 ?_ _) | (with_reducible refine Kd.qa8 ?_ _) | (with_reducible refine Kd.qbm ?_))); (case side2 => exact (Kd.qaM HO_14.out).2.1); (case side3 => repeat (first | exact (Kd.qaM HO857.out).2.2 | (with_reducible refine Kd.qa7 ?_ _) | (with_reducible refine Kd.qa8 ?_ _) | (with_reducible refine Kd.qbm ?_))); (case side4 => exact (Kd.qaM HO857.out).2.1); rintro e w146 ⟨rfl, hb⟩; refine ⟨_, rfl, ?_⟩; have n0_ := Aside0.mk (Kd.qaA (by (with_reducible repeat (first | apply Kd.qar | apply Kd.qas | apply Kd.qax)); exact HO_14.out) hb); have n1_ := Aside0.mk (Kd.qaA (by (with_reducible repeat (first | apply Kd.qar | apply Kd.qas | apply Kd.qax)); exact HO_15.out) hb); have n2_ := Aside0.mk (Kd.qaA (by (with_reducible repeat (first | apply Kd.qar | apply Kd.qas | apply Kd.qax)); exact HO_839003.out) hb); have n3_ := Aside0.mk (Kd.qaA (by (with_reducible repeat (first | apply Kd.qar | apply Kd.qas | apply Kd.qax)); exact HO_854003.out) hb); have n4_ := Aside0.mk (Kd.qaA (by (with_reducible repeat (first | apply Kd.qar | apply Kd.qas | apply Kd.qax)); exact HO857.out) hb); have n5_ := Aside0.mk (qaB (g := gb838) (o := .cells #[.string t830, .string t831, .int .i64 t832, .slice Ao31 t833.length co31, .int .i64 t836] 48 (0, 0)) (by (with_reducible repeat (first | refine qag ?_ _ | refine qaj ?_ | refine qaf ?_ _)); exact BK838.out) hb); have n6_ := Aside0.mk (qaB (g := gb853) (o := .cells #[.string t845, .string t846, .int .i64 t847, .slice Ao40 t848.length co40, .int .i64 t851] 48 (0, 0)) (by (with_reducible repeat (first | refine qag ?_ _ | refine qaj ?_ | refine qaf ?_ _)); exact BK853.out) hb); have n7_ := Aside0.mk (qak (by repeat (first | (with_reducible first | exact HB.out | apply qac | apply qaa | apply qab | refine qai ?_ GE838.out | refine qai ?_ GE853.out) | exact HB.out)) hb); clear HO_14; clear HO_15; clear HO_839003; clear HO_854003; clear HO857; clear BK838; clear BK853; clear HB; have HO_14 := n0_; have HO_15 := n1_; have HO_839003 := n2_; have HO_854003 := n3_; have HO857 := n4_; have BK838 := n5_; have BK853 := n6_; have HB := n7_; clear n0_ n1_ n2_ n3_ n4_ n5_ n6_ n7_; (try clear hb); (try clear hb2); (try clear hk); (try clear hi)) | ((with_reducible refine qaz (f := 13) rfl ?_); refine qbf (some 79) rfl rfl Try.func13 (by kernel_rfl) rfl #[.slice A4 l4.length c4] rfl (by (try simp only [List.map_toArray, List.map_cons, List.map_nil]); first | done | rfl | (simp only [List.length_drop, List.length_take]; rfl)) ?_; (with_reducible refine (qay.calls kj20 _ _ l4 t859 _ ?side1 ?side2 A55.out).mono ?_); (case side1 => repeat (first | exact (Kd.qa2 HR4.out HB.out) | (with_reducible refine Kd.qa7 ?_ _) | (with_reducible refine Kd.qa8 ?_ _) | (with_reducible refine Kd.qbm ?_))); (case side2 => exact HC4.out); rintro e w147 ⟨v860, rfl, ho0, hb⟩; refine ⟨_, rfl, ?_⟩; have n0_ := Aside0.mk (Kd.qbM (by (with_reducible repeat (first | apply Kd.qar | apply Kd.qas | apply Kd.qax)); exact HO_14.out) (Kd.qb2 ho0) hb); have n1_ := Aside0.mk (Kd.qbM (by (with_reducible repeat (first | apply Kd.qar | apply Kd.qas | apply Kd.qax)); exact HO_15.out) (Kd.qb2 ho0) hb); have n2_ := Aside0.mk (Kd.qaA (by (with_reducible repeat (first | apply Kd.qar | apply Kd.qas | apply Kd.qax)); exact HO_839003.out) hb); have n3_ := Aside0.mk (Kd.qaA (by (with_reducible repeat (first | apply Kd.qar | apply Kd.qas | apply Kd.qax)); exact HO_854003.out) hb); have n4_ := Aside0.mk (Kd.qbM (by (with_reducible repeat (first | apply Kd.qar | apply Kd.qas | apply Kd.qax)); exact HO857.out) (Kd.qb2 ho0) hb); have n5_ := Aside0.mk (Kd.qbL (Kd.qb4 (Kd.qb4 (Kd.qb4 ho0 (Kd.R_lt (by (with_reducible repeat (first | apply Kd.qar | apply Kd.qas | apply Kd.qax)); exact HO_14.out))) (Kd.R_lt (by (with_reducible repeat (first | apply Kd.qar | apply Kd.qas | apply Kd.qax)); exact HO_15.out))) (Kd.R_lt (by (with_reducible repeat (first | apply Kd.qar | apply Kd.qas | apply Kd.qax)); exact HO857.out))) (qau (by repeat (first | (with_reducible first | exact HB.out | apply qac | apply qaa | apply qab | refine qai ?_ GE838.out | refine qai ?_ GE853.out) | exact HB.out)))); have n6_ := Aside0.mk (qaB (g := gb838) (o := .cells #[.string t830, .string t831, .int .i64 t832, .slice Ao31 t833.length co31, .int .i64 t836] 48 (0, 0)) (by (with_reducible repeat (first | refine qag ?_ _ | refine qaj ?_ | refine qaf ?_ _)); exact BK838.out) hb); have n7_ := Aside0.mk (qaB (g := gb853) (o := .cells #[.string t845, .string t846, .int .i64 t847, .slice Ao40 t848.length co40, .int .i64 t851] 48 (0, 0)) (by (with_reducible repeat (first | refine qag ?_ _ | refine qaj ?_ | refine qaf ?_ _)); exact BK853.out) hb); have n8_ := Aside0.mk (qak (by repeat (first | (with_reducible first | exact HB.out | apply qac | apply qaa | apply qab | refine qai ?_ GE838.out | refine qai ?_ GE853.out) | exact HB.out)) hb); clear HO_14; clear HO_15; clear HO_839003; clear HO_854003; clear HO857; clear BK838; clear BK853; clear HB; have HO_14 := n0_; have HO_15 := n1_; have HO_839003 := n2_; have HO_854003 := n3_; have HO857 := n4_; have HO861 := n5_; have BK838 := n6_; have BK853 := n7_; have HB := n8_; clear n0_ n1_ n2_ n3_ n4_ n5_ n6_ n7_ n8_; (try clear hb); (try clear hb2); (try clear hk); (try clear hi); (try clear ho0); obtain ⟨Ao148, co148, eo148⟩ := Kd.qbN HO861.out; subst eo148) | ((with_reducible refine qaz (f := 15) rfl ?_); refine qbf (some 80) rfl rfl Try.func15 (by kernel_rfl) rfl #[.slice Ao35 t842.length co35, .slice Ao148 t859.length co148] rfl (by (try simp only [List.map_toArray, List.map_cons, List.map_nil]); first | done | rfl | (simp only [List.length_drop, List.length_take]; rfl)) ?_; (with_reducible refine (qaL.calls kj20 _ _ t842 _ _ t859 false _ ?side1 ?side2 ?side3 ?side4 A56.out).mono ?_); (case side1 => repeat (first | exact (Kd.qaM HO_15.out).2.2 | (with_reducible refine Kd.qa7 ?_ _) | (with_reducible refine Kd.qa8 ?_ _) | (with_reducible refine Kd.qbm ?_))); (case side2 => exact (Kd.qaM HO_15.out).2.1); (case side3 => repeat (first | exact (Kd.qaM HO861.out).2.2 | (with_reducible refine Kd.qa7 ?_ _) | (with_reducible refine Kd.qa8 ?_ _) | (with_reducible refine Kd.qbm ?_))); (case side4 => exact (Kd.qaM HO861.out).2.1); rintro e w149 ⟨rfl, hb⟩; refine ⟨_, rfl, ?_⟩; have n0_ := Aside0.mk (Kd.qaA (by (with_reducible repeat (first | apply Kd.qar | apply Kd.qas | apply Kd.qax)); exact HO_14.out) hb); have n1_ := Aside0.mk (Kd.qaA (by (with_reducible repeat (first | apply Kd.qar | apply Kd.qas | apply Kd.qax)); exact HO_15.out) hb); have n2_ := Aside0.mk (Kd.qaA (by (with_reducible repeat (first | apply Kd.qar | apply Kd.qas | apply Kd.qax)); exact HO_839003.out) hb); have n3_ := Aside0.mk (Kd.qaA (by (with_reducible repeat (first | apply Kd.qar | apply Kd.qas | apply Kd.qax)); exact HO_854003.out) hb); have n4_ := Aside0.mk (Kd.qaA (by (with_reducible repeat (first | apply Kd.qar | apply Kd.qas | apply Kd.qax)); exact HO857.out) hb); have n5_ := Aside0.mk (Kd.qaA (by (with_reducible repeat (first | apply Kd.qar | apply Kd.qas | apply Kd.qax)); exact HO861.out) hb); have n6_ := Aside0.mk (qaB (g := gb838) (o := .cells #[.string t830, .string t831, .int .i64 t832, .slice Ao31 t833.length co31, .int .i64 t836] 48 (0, 0)) (by (with_reducible repeat (first | refine qag ?_ _ | refine qaj ?_ | refine qaf ?_ _)); exact BK838.out) hb); have n7_ := Aside0.mk (qaB (g := gb853) (o := .cells #[.string t845, .string t846, .int .i64 t847, .slice Ao40 t848.length co40, .int .i64 t851] 48 (0, 0)) (by (with_reducible repeat (first | refine qag ?_ _ | refine qaj ?_ | refine qaf ?_ _)); exact BK853.out) hb); have n8_ := Aside0.mk (qak (by repeat (first | (with_reducible first | exact HB.out | apply qac | apply qaa | apply qab | refine qai ?_ GE838.out | refine qai ?_ GE853.out) | exact HB.out)) hb); clear HO_14; clear HO_15; clear HO_839003; clear HO_854003; clear HO857; clear HO861; clear BK838; clear BK853; clear HB; have HO_14 := n0_; have HO_15 := n1_; have HO_839003 := n2_; have HO_854003 := n3_; have HO857 := n4_; have HO861 := n5_; have BK838 := n6_; have BK853 := n7_; have HB := n8_; clear n0_ n1_ n2_ n3_ n4_ n5_ n6_ n7_ n8_; (try clear hb); (try clear hb2); (try clear hk); (try clear hi)))
          go_ret
          exact ⟨by first | rfl | (simp [qam, qan] <;> rfl) | (simp [*, qam, qan] <;> rfl), by repeat (first | (with_reducible first | exact HB.out | apply qac | apply qaa | apply qab | refine qai ?_ GE838.out | refine qai ?_ GE853.out) | exact HB.out)⟩
        ·replace c54 := Bool.eq_false_iff.mpr c54
         subst c54
         have H1 : (some false) = some r := by rw [if_neg (show ¬ (false = true) by decide)] at H; exact H
         clear H
         have H := H1
         clear H1
         obtain rfl := Option.some.inj H
         go_wp2_with (first | ((with_reducible refine qaz (f := 13) rfl ?_); refine qbf (some 74) rfl rfl Try.func13 (by kernel_rfl) rfl #[.slice A3 l3.length c3] rfl (by (try simp only [List.map_toArray, List.map_cons, List.map_nil]); first | done | rfl | (simp only [List.length_drop, List.length_take]; rfl)) ?_; (with_reducible refine (qay.calls kj20 _ _ l3 t855 _ ?side1 ?side2 A52.out).mono ?_); (case side1 => repeat (first | exact (Kd.qa2 HR3.out HB.out) | (with_reducible refine Kd.qa7 ?_ _) | (with_reducible refine Kd.qa8 ?_ _) | (with_reducible refine Kd.qbm ?_))); (case side2 => exact HC3.out); rintro e w150 ⟨v856, rfl, ho0, hb⟩; refine ⟨_, rfl, ?_⟩; have n0_ := Aside0.mk (Kd.qbM (by (with_reducible repeat (first | apply Kd.qar | apply Kd.qas | apply Kd.qax)); exact HO_14.out) (Kd.qb2 ho0) hb); have n1_ := Aside0.mk (Kd.qbM (by (with_reducible repeat (first | apply Kd.qar | apply Kd.qas | apply Kd.qax)); exact HO_15.out) (Kd.qb2 ho0) hb); have n2_ := Aside0.mk (Kd.qaA (by (with_reducible repeat (first | apply Kd.qar | apply Kd.qas | apply Kd.qax)); exact HO_839003.out) hb); have n3_ := Aside0.mk (Kd.qaA (by (with_reducible repeat (first | apply Kd.qar | apply Kd.qas | apply Kd.qax)); exact HO_854003.out) hb); have n4_ := Aside0.mk (Kd.qbL (Kd.qb4 (Kd.qb4 ho0 (Kd.R_lt (by (with_reducible repeat (first | apply Kd.qar | apply Kd.qas | apply Kd.qax)); exact HO_14.out))) (Kd.R_lt (by (with_reducible repeat (first | apply Kd.qar | apply Kd.qas | apply Kd.qax)); exact HO_15.out))) (qau (by repeat (first | (with_reducible first | exact HB.out | apply qac | apply qaa | apply qab | refine qai ?_ GE838.out | refine qai ?_ GE853.out) | exact HB.out)))); have n5_ := Aside0.mk (qaB (g := gb838) (o := .cells #[.string t830, .string t831, .int .i64 t832, .slice Ao31 t833.length co31, .int .i64 t836] 48 (0, 0)) (by (with_reducible repeat (first | refine qag ?_ _ | refine qaj ?_ | refine qaf ?_ _)); exact BK838.out) hb); have n6_ := Aside0.mk (qaB (g := gb853) (o := .cells #[.string t845, .string t846, .int .i64 t847, .slice Ao40 t848.length co40, .int .i64 t851] 48 (0, 0)) (by (with_reducible repeat (first | refine qag ?_ _ | refine qaj ?_ | refine qaf ?_ _)); exact BK853.out) hb); have n7_ := Aside0.mk (qak (by repeat (first | (with_reducible first | exact HB.out | apply qac | apply qaa | apply qab | refine qai ?_ GE838.out | refine qai ?_ GE853.out) | exact HB.out)) hb); clear HO_14; clear HO_15; clear HO_839003; clear HO_854003; clear BK838; clear BK853; clear HB; have HO_14 := n0_; have HO_15 := n1_; have HO_839003 := n2_; have HO_854003 := n3_; have HO857 := n4_; have BK838 := n5_; have BK853 := n6_; have HB := n7_; clear n0_ n1_ n2_ n3_ n4_ n5_ n6_ n7_; (try clear hb); (try clear hb2); (try clear hk); (try clear hi); (try clear ho0); obtain ⟨Ao151, co151, eo151⟩ := Kd.qbN HO857.out; subst eo151) | ((with_reducible refine qaz (f := 15) rfl ?_); refine qbf (some 75) rfl rfl Try.func15 (by kernel_rfl) rfl #[.slice Ao34 t839.length co34, .slice Ao151 t855.length co151] rfl (by (try simp only [List.map_toArray, List.map_cons, List.map_nil]); first | done | rfl | (simp only [List.length_drop, List.length_take]; rfl)) ?_; (with_reducible refine (qaL.calls kj20 _ _ t839 _ _ t855 false _ ?side1 ?side2 ?side3 ?side4 A53.out).mono ?_); (case side1 => repeat (first | exact (Kd.qaM HO_14.out).2.2 | (with_reducible refine Kd.qa7 ?_ _) | (with_reducible refine Kd.qa8 ?_ _) | (with_reducible refine Kd.qbm ?_))); (case side2 => exact (Kd.qaM HO_14.out).2.1); (case side3 => repeat (first | exact (Kd.qaM HO857.out).2.2 | (with_reducible refine Kd.qa7 ?_ _) | (with_reducible refine Kd.qa8 ?_ _) | (with_reducible refine Kd.qbm ?_))); (case side4 => exact (Kd.qaM HO857.out).2.1); rintro e w152 ⟨rfl, hb⟩; refine ⟨_, rfl, ?_⟩; have n0_ := Aside0.mk (Kd.qaA (by (with_reducible repeat (first | apply Kd.qar | apply Kd.qas | apply Kd.qax)); exact HO_14.out) hb); have n1_ := Aside0.mk (Kd.qaA (by (with_reducible repeat (first | apply Kd.qar | apply Kd.qas | apply Kd.qax)); exact HO_15.out) hb); have n2_ := Aside0.mk (Kd.qaA (by (with_reducible repeat (first | apply Kd.qar | apply Kd.qas | apply Kd.qax)); exact HO_839003.out) hb); have n3_ := Aside0.mk (Kd.qaA (by (with_reducible repeat (first | apply Kd.qar | apply Kd.qas | apply Kd.qax)); exact HO_854003.out) hb); have n4_ := Aside0.mk (Kd.qaA (by (with_reducible repeat (first | apply Kd.qar | apply Kd.qas | apply Kd.qax)); exact HO857.out) hb); have n5_ := Aside0.mk (qaB (g := gb838) (o := .cells #[.string t830, .string t831, .int .i64 t832, .slice Ao31 t833.length co31, .int .i64 t836] 48 (0, 0)) (by (with_reducible repeat (first | refine qag ?_ _ | refine qaj ?_ | refine qaf ?_ _)); exact BK838.out) hb); have n6_ := Aside0.mk (qaB (g := gb853) (o := .cells #[.string t845, .string t846, .int .i64 t847, .slice Ao40 t848.length co40, .int .i64 t851] 48 (0, 0)) (by (with_reducible repeat (first | refine qag ?_ _ | refine qaj ?_ | refine qaf ?_ _)); exact BK853.out) hb); have n7_ := Aside0.mk (qak (by repeat (first | (with_reducible first | exact HB.out | apply qac | apply qaa | apply qab | refine qai ?_ GE838.out | refine qai ?_ GE853.out) | exact HB.out)) hb); clear HO_14; clear HO_15; clear HO_839003; clear HO_854003; clear HO857; clear BK838; clear BK853; clear HB; have HO_14 := n0_; have HO_15 := n1_; have HO_839003 := n2_; have HO_854003 := n3_; have HO857 := n4_; have BK838 := n5_; have BK853 := n6_; have HB := n7_; clear n0_ n1_ n2_ n3_ n4_ n5_ n6_ n7_; (try clear hb); (try clear hb2); (try clear hk); (try clear hi)))
         go_ret
         exact ⟨by first | rfl | (simp [qam, qan] <;> rfl) | (simp [*, qam, qan] <;> rfl), by repeat (first | (with_reducible first | exact HB.out | apply qac | apply qaa | apply qab | refine qai ?_ GE838.out | refine qai ?_ GE853.out) | exact HB.out)⟩
end Go.Proofs.Ytgcncphdjabjjaa.X
