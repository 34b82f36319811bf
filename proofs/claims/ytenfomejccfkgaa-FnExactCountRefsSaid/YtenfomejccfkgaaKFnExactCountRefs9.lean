import Derived.Test.YtenfomejccfkgaaKFnExactCountRefs4
import Derived.Test.YtenfomejccfkgaaKFnExactCountRefs6
import Derived.Test.YtenfomejccfkgaaKFnExactCountRefs8
namespace Go.Proofs.Ytenfomejccfkgaa.X
open Go.RowKit Go.Proofs.YtenfomejccfkgaaW.PrintWords Go.Proofs.YtenfomejccfkgaaW.PrintLast Go.Proofs.YtenfomejccfkgaaW.PrintMore
attribute [local go_sem] qaC qaD qaE qay qaz qaO qaP qas qat qaA qaB
set_option linter.unusedVariables false
set_option linter.unusedSimpArgs false
mutual
def qaw.j0 : Nat → Bool → Bool → List (S99) → List ByteArray → List Int → Option (Bool)
 | 0, _, _, _, _, _ => none
 | k + 1, x48, x121000, x121001, x121002, x121003 => if x48 = true then (some false) else (qaw.l0 k 0 x121000 x121001 x121002 x121003)
def qaw.l0 : Nat → Int → Bool → List (S99) → List ByteArray → List Int → Option (Bool)
 | 0, _, _, _, _, _ => none
 | k + 1, x3, x121000, x121001, x121002, x121003 => if x3 < (x121003.length : Int) then (if 0 ≤ x3 then ((qaK.f (rd x121003 x3) 0 49).bind fun t126 => (if t126 = true then (if x3 < (x121002.length : Int) then ((qaK.f ((rdOf ByteArray.empty x121002 x3).size : Int) 1 30).bind fun t128 => (if t128 = true then (if x3 > 0 then (if 0 ≤ (wrap64 (x3 - 1)) then (if (wrap64 (x3 - 1)) < (x121002.length : Int) then (if ((Op.bytesLess ((rdOf ByteArray.empty x121002 (wrap64 (x3 - 1))).toList) ((rdOf ByteArray.empty x121002 x3).toList)) = true) then (qaw.l0 k (wrap64 (x3 + 1)) x121000 x121001 x121002 x121003) else (some false)) else (none)) else (none)) else (qaw.l0 k (wrap64 (x3 + 1)) x121000 x121001 x121002 x121003)) else (some false))) else (none)) else (some false))) else (none)) else (some true)
end
def qaw.f (k : Nat) (a0_0 : Bool) (l0_1 : List (S99)) (l0_2 : List ByteArray) (l0_3 : List Int) : Option (Bool) := (qbz.f a0_0 l0_1 l0_2 l0_3).bind fun t121 => (if t121 = true then (some true) else (if a0_0 = true then ((qaK.f (l0_1.length : Int) 1 3).bind fun t122 => (if t122 = true then ((qaI.f k l0_1).bind fun t123 => (if t123 = true then (if (l0_2.length : Int) = 0 then (some ((l0_3.length : Int) == 0)) else (some false)) else (some false))) else (some false))) else (if (l0_1.length : Int) = 0 then ((qaK.f (l0_3.length : Int) 1 4).bind fun t124 => (if t124 = true then (qaw.j0 k ((l0_2.length : Int) != (l0_3.length : Int)) a0_0 l0_1 l0_2 l0_3) else (qaw.j0 k true a0_0 l0_1 l0_2 l0_3))) else (qaw.j0 k true a0_0 l0_1 l0_2 l0_3))))
theorem qaw.qbm : ∀ k, (∀ y0 y1 y2 y3 y4, LeO (qaw.j0 k y0 y1 y2 y3 y4) (qaw.j0 (k + 1) y0 y1 y2 y3 y4)) ∧ (∀ y0 y1 y2 y3 y4, LeO (qaw.l0 k y0 y1 y2 y3 y4) (qaw.l0 (k + 1) y0 y1 y2 y3 y4))
 | 0 => ⟨fun _ _ _ _ _ r h => by simp [qaw.j0] at h, fun _ _ _ _ _ r h => by simp [qaw.l0] at h⟩
 | k + 1 => by
  obtain ⟨ih0, ih1⟩ := qaw.qbm k
  refine ⟨?_, ?_⟩
  ·intro y0 y1 y2 y3 y4
   unfold qaw.j0
   repeat' first
   | (with_reducible exact ih0 _ _ _ _ _)
   | (with_reducible exact ih1 _ _ _ _ _)
   | (with_reducible exact qaI.mono _ _)
   | (with_reducible exact LeO.refl _)
   | (with_reducible exact LeO.none _)
   | (with_reducible refine LeO.ite ?_ ?_)
   | (with_reducible refine LeO.bind ?_ (fun _ => ?_))
   | exact ih0 _ _ _ _ _
   | exact ih1 _ _ _ _ _
   | exact qaI.mono _ _
   | exact LeO.none _
   | refine LeO.ite ?_ ?_
   | refine LeO.bind ?_ (fun _ => ?_)
  ·intro y0 y1 y2 y3 y4
   unfold qaw.l0
   repeat' first
   | (with_reducible exact ih0 _ _ _ _ _)
   | (with_reducible exact ih1 _ _ _ _ _)
   | (with_reducible exact qaI.mono _ _)
   | (with_reducible exact LeO.refl _)
   | (with_reducible exact LeO.none _)
   | (with_reducible refine LeO.ite ?_ ?_)
   | (with_reducible refine LeO.bind ?_ (fun _ => ?_))
   | exact ih0 _ _ _ _ _
   | exact ih1 _ _ _ _ _
   | exact qaI.mono _ _
   | exact LeO.none _
   | refine LeO.ite ?_ ?_
   | refine LeO.bind ?_ (fun _ => ?_)
theorem qaw.mono : ∀ a0 a1 a2 a3 k, LeO (qaw.f k a0 a1 a2 a3) (qaw.f (k + 1) a0 a1 a2 a3) := by
 intro a0 a1 a2 a3 k
 obtain ⟨ih0, ih1⟩ := qaw.qbm k
 unfold qaw.f
 repeat' first
   | (with_reducible exact ih0 _ _ _ _ _)
   | (with_reducible exact ih1 _ _ _ _ _)
   | (with_reducible exact qaI.mono _ _)
   | (with_reducible exact LeO.refl _)
   | (with_reducible exact LeO.none _)
   | (with_reducible refine LeO.ite ?_ ?_)
   | (with_reducible refine LeO.bind ?_ (fun _ => ?_))
   | exact ih0 _ _ _ _ _
   | exact ih1 _ _ _ _ _
   | exact qaI.mono _ _
   | exact LeO.none _
   | refine LeO.ite ?_ ?_
   | refine LeO.bind ?_ (fun _ => ?_)
def qaw.T10 : Bool × List (List Nat × List Nat) := (true, [([], []), ([0], [0]), ([], []), ([1, 2], [1, 2]), ([3], [3]), ([4], [4]), ([5], [5]), ([6, 5], [6]), ([7], [7]), ([8, 7], [7, 8]), ([7], [7]), ([9, 10, 7], [7, 9, 10]), ([11, 7], [7, 11]), ([12, 7], [7, 12]), ([13, 7, 7], [7, 13]), ([14, 7], [7, 14]), ([7, 15], [7, 15]), ([16, 14], [16]), ([17], [17]), ([18, 17], [17, 18]), ([19, 17, 17], [17, 19]), ([20], [20]), ([21, 20], [20, 21]), ([20], [20]), ([23, 20], [20, 23]), ([22, 24, 20], [20, 22, 24]), ([25, 20], [20, 25]), ([20], [20]), ([27, 20], [20, 27]), ([20], [20]), ([28, 29, 20], [20, 28, 29]), ([30, 20], [20, 30]), ([26, 31, 20], [20, 26, 31]), ([20, 32, 17], [17, 20, 32]), ([17, 33], [17, 33])])
def qaw.B10 : List Nat := [0, 1, 0, 7, 15, 31, 63, 127, 255, 511, 255, 2047, 4095, 8191, 16383, 32767, 65535, 131071, 262143, 524287, 1048575, 2097151, 4194303, 2097151, 10485759, 33554431, 67108863, 2097151, 136314879, 2097151, 941621247, 2015363071, 4294967295, 8589934591, 17179869183]
theorem qaw.tab10 : rtab .any (opsOf Try.f77 10) = qaw.T10 := by kernel_rfl
theorem qaw.qhg : qbX qaw.T10.2 qaw.B10 = true := by kernel_rfl
set_option maxHeartbeats 8000000 in
set_option maxRecDepth 100000 in
theorem qaw.calls (k : Nat) (a0_0 : Bool) (A0_1 : Option Addr) (c0_1 : Nat) (l0_1 : List (S99)) (A0_2 : Option Addr) (c0_2 : Nat) (l0_2 : List ByteArray) (A0_3 : Option Addr) (c0_3 : Nat) (l0_3 : List Int) (r : Bool) (w : World) (hr0_1 : Kd.C k99 w A0_1 l0_1.length l0_1) (hc0_1 : l0_1.length ≤ c0_1) (hr0_2 : Kd.C Kd.string w A0_2 l0_2.length l0_2) (hc0_2 : l0_2.length ≤ c0_2) (hr0_3 : Kd.C (Kd.int .i64) w A0_3 l0_3.length l0_3) (hc0_3 : l0_3.length ≤ c0_3) (h : qaw.f k a0_0 l0_1 l0_2 l0_3 = some r) :
  Calls Try.prog 77 #[.agg #[.bool a0_0, .slice A0_1 l0_1.length c0_1, .slice A0_2 l0_2.length c0_2, .slice A0_3 l0_3.length c0_3]] w fun e w' => e = .returned (.bool r) ∧ Below w.heap.size w w' := by
 have hu56 := Try.underlying56
 have HR0_1 := Aside0.mk hr0_1
 have HC0_1 := Aside0.mk hc0_1
 clear hr0_1 hc0_1
 have HR0_2 := Aside0.mk hr0_2
 have HC0_2 := Aside0.mk hc0_2
 clear hr0_2 hc0_2
 have HR0_3 := Aside0.mk hr0_3
 have HC0_3 := Aside0.mk hc0_3
 clear hr0_3 hc0_3
 have HB := Aside0.mk (Below.refl w.heap.size w)
 have H : ((qbz.f a0_0 l0_1 l0_2 l0_3).bind fun t121 => (if t121 = true then (some true) else (if a0_0 = true then ((qaK.f (l0_1.length : Int) 1 3).bind fun t122 => (if t122 = true then ((qaI.f k l0_1).bind fun t123 => (if t123 = true then (if (l0_2.length : Int) = 0 then (some ((l0_3.length : Int) == 0)) else (some false)) else (some false))) else (some false))) else (if (l0_1.length : Int) = 0 then ((qaK.f (l0_3.length : Int) 1 4).bind fun t124 => (if t124 = true then (qaw.j0 k ((l0_2.length : Int) != (l0_3.length : Int)) a0_0 l0_1 l0_2 l0_3) else (qaw.j0 k true a0_0 l0_1 l0_2 l0_3))) else (qaw.j0 k true a0_0 l0_1 l0_2 l0_3))))) = some r := h
 clear h
 replace H := Option.bind_eq_some_iff.mp H
 obtain ⟨t121, A20, H⟩ := H
 replace H : (if t121 = true then (some true) else (if a0_0 = true then ((qaK.f (l0_1.length : Int) 1 3).bind fun t122 => (if t122 = true then ((qaI.f k l0_1).bind fun t123 => (if t123 = true then (if (l0_2.length : Int) = 0 then (some ((l0_3.length : Int) == 0)) else (some false)) else (some false))) else (some false))) else (if (l0_1.length : Int) = 0 then ((qaK.f (l0_3.length : Int) 1 4).bind fun t124 => (if t124 = true then (qaw.j0 k ((l0_2.length : Int) != (l0_3.length : Int)) a0_0 l0_1 l0_2 l0_3) else (qaw.j0 k true a0_0 l0_1 l0_2 l0_3))) else (qaw.j0 k true a0_0 l0_1 l0_2 l0_3)))) = some r := H
 have A2 := Aside0.mk A20
 clear A20
 by_cases c3 : t121 = true
 ·subst c3
  have H1 : (some true) = some r := by rw [if_pos rfl] at H; exact H
  clear H
  have H := H1
  clear H1
  obtain rfl := Option.some.inj H
  go_enter Try.func77, Try.ntmps77
  go_wp2_with (first | ((with_reducible refine qaQ (N := 1) rfl ?_); (try (refine qbo (by rfl) ?_; dsimp only)); refine qaL ?hg (N := 1) ?hd (cs := #[.bool a0_0, .slice A0_1 l0_1.length c0_1, .slice A0_2 l0_2.length c0_2, .slice A0_3 l0_3.length c0_3]) (t := 56) ?hr ?_; (case hd => rfl); (case hg => rfl); (case hr => first | (go_simp; done) | (go_simp; rfl)); intro gb120 hg w4 hbox hb; have n0_ := Aside0.mk (qai (by repeat (first | (with_reducible first | exact HB.out | apply qab | apply qaa | apply qac) | exact HB.out)) hb); have n1_ := Aside0.mk (hbox); have n2_ := Aside0.mk ((by rw [hg]; exact (qaj (by repeat (first | (with_reducible first | exact HB.out | apply qab | apply qaa | apply qac) | exact HB.out))) : w.heap.size ≤ gb120)); have n3_ := Aside0.mk ((by rw [hg]; exact (qaj (by repeat (first | (with_reducible first | exact HB.out | apply qab | apply qaa | apply qac) | exact HB.out))) : w.heap.size ≤ gb120)); clear HB; have HB := n0_; have BK120 := n1_; have GW120 := n2_; have GE120 := n3_; clear n0_ n1_ n2_ n3_; clear hb hbox hg; have hcz5_0 : w4.cell? ⟨gb120, 0, none⟩ = some (.bool a0_0) := (qae BK120.out 0).trans rfl; have hcz5_1 : w4.cell? ⟨gb120, 1, none⟩ = some (.slice A0_1 l0_1.length c0_1) := (qae BK120.out 1).trans rfl; have hcz5_2 : w4.cell? ⟨gb120, 2, none⟩ = some (.slice A0_2 l0_2.length c0_2) := (qae BK120.out 2).trans rfl; have hcz5_3 : w4.cell? ⟨gb120, 3, none⟩ = some (.slice A0_3 l0_3.length c0_3) := (qae BK120.out 3).trans rfl; have hfz5_0 := qad BK120.out 0; have hfz5_1 := qad BK120.out 1; have hfz5_2 := qad BK120.out 2; have hfz5_3 := qad BK120.out 3) | ((with_reducible refine qax (f := 78) rfl ?_); refine qbl (some 5) rfl rfl Try.func78 (by kernel_rfl) rfl #[.agg #[.bool a0_0, .slice A0_1 l0_1.length c0_1, .slice A0_2 l0_2.length c0_2, .slice A0_3 l0_3.length c0_3]] rfl (by (try simp only [List.map_toArray, List.map_cons, List.map_nil]); first | done | rfl | (simp only [List.length_drop, List.length_take]; rfl)) ?_; (with_reducible refine (qbz.calls a0_0 _ _ l0_1 _ _ l0_2 _ _ l0_3 true _ ?side1 ?side2 ?side3 ?side4 ?side5 ?side6 A2.out).mono ?_); (case side1 => repeat (first | exact (Kd.qav HR0_1.out HB.out) | (with_reducible refine Kd.qaM ?_ _) | (with_reducible refine Kd.qaN ?_ _) | (with_reducible refine Kd.qa2 ?_))); (case side2 => exact HC0_1.out); (case side3 => repeat (first | exact (Kd.qav HR0_2.out HB.out) | (with_reducible refine Kd.qaM ?_ _) | (with_reducible refine Kd.qaN ?_ _) | (with_reducible refine Kd.qa2 ?_))); (case side4 => exact HC0_2.out); (case side5 => repeat (first | exact (Kd.qav HR0_3.out HB.out) | (with_reducible refine Kd.qaM ?_ _) | (with_reducible refine Kd.qaN ?_ _) | (with_reducible refine Kd.qa2 ?_))); (case side6 => exact HC0_3.out); rintro e w6 ⟨rfl, hb⟩; refine ⟨_, rfl, ?_⟩; have n0_ := Aside0.mk (qar (g := gb120) (o := .cells #[.bool a0_0, .slice A0_1 l0_1.length c0_1, .slice A0_2 l0_2.length c0_2, .slice A0_3 l0_3.length c0_3] 56 (0, 0)) (by (with_reducible repeat (first | refine qan ?_ _ | refine qao ?_ | refine qak ?_ _)); exact BK120.out) hb); have n1_ := Aside0.mk (qai (by repeat (first | (with_reducible first | exact HB.out | apply qab | apply qaa | apply qac | refine qaf ?_ GE120.out) | exact HB.out)) hb); clear BK120; clear HB; have BK120 := n0_; have HB := n1_; clear n0_ n1_; (try clear hb); (try clear hb2); (try clear hk); (try clear hi)))
  go_ret
  exact ⟨by first | rfl | (simp [qal, qam] <;> rfl) | (simp [*, qal, qam] <;> rfl), by repeat (first | (with_reducible first | exact HB.out | apply qab | apply qaa | apply qac | refine qaf ?_ GE120.out) | exact HB.out)⟩
 ·replace c3 := Bool.eq_false_iff.mpr c3
  subst c3
  have H1 : (if a0_0 = true then ((qaK.f (l0_1.length : Int) 1 3).bind fun t122 => (if t122 = true then ((qaI.f k l0_1).bind fun t123 => (if t123 = true then (if (l0_2.length : Int) = 0 then (some ((l0_3.length : Int) == 0)) else (some false)) else (some false))) else (some false))) else (if (l0_1.length : Int) = 0 then ((qaK.f (l0_3.length : Int) 1 4).bind fun t124 => (if t124 = true then (qaw.j0 k ((l0_2.length : Int) != (l0_3.length : Int)) a0_0 l0_1 l0_2 l0_3) else (qaw.j0 k true a0_0 l0_1 l0_2 l0_3))) else (qaw.j0 k true a0_0 l0_1 l0_2 l0_3))) = some r := by rw [if_neg (show ¬ (false = true) by decide)] at H; exact H
  clear H
  have H := H1
  clear H1
  by_cases c7 : a0_0 = true
  ·subst c7
   have H1 : ((qaK.f (l0_1.length : Int) 1 3).bind fun t122 => (if t122 = true then ((qaI.f k l0_1).bind fun t123 => (if t123 = true then (if (l0_2.length : Int) = 0 then (some ((l0_3.length : Int) == 0)) else (some false)) else (some false))) else (some false))) = some r := by rw [if_pos rfl] at H; exact H
   clear H
   have H := H1
   clear H1
   replace H := Option.bind_eq_some_iff.mp H
   obtain ⟨t122, A80, H⟩ := H
   replace H : (if t122 = true then ((qaI.f k l0_1).bind fun t123 => (if t123 = true then (if (l0_2.length : Int) = 0 then (some ((l0_3.length : Int) == 0)) else (some false)) else (some false))) else (some false)) = some r := H
   have A8 := Aside0.mk A80
   clear A80
   by_cases c9 : t122 = true
   ·subst c9
    have H1 : ((qaI.f k l0_1).bind fun t123 => (if t123 = true then (if (l0_2.length : Int) = 0 then (some ((l0_3.length : Int) == 0)) else (some false)) else (some false))) = some r := by rw [if_pos rfl] at H; exact H
    clear H
    have H := H1
    clear H1
    replace H := Option.bind_eq_some_iff.mp H
    obtain ⟨t123, A100, H⟩ := H
    replace H : (if t123 = true then (if (l0_2.length : Int) = 0 then (some ((l0_3.length : Int) == 0)) else (some false)) else (some false)) = some r := H
    have A10 := Aside0.mk A100
    clear A100
    by_cases c11 : t123 = true
    ·subst c11
     have H1 : (if (l0_2.length : Int) = 0 then (some ((l0_3.length : Int) == 0)) else (some false)) = some r := by rw [if_pos rfl] at H; exact H
     clear H
     have H := H1
     clear H1
     by_cases c12 : (l0_2.length : Int) = 0
     ·rw [if_pos c12] at H
      have c12b0 : ((l0_2.length : Int) == 0) = true := beq_iff_eq.mpr c12
      have c12b1 : ((l0_2.length : Int) != 0) = false := bne_eq_false_iff_eq.mpr c12
      clear c12
      obtain rfl := Option.some.inj H
      go_enter Try.func77, Try.ntmps77
      go_wp2_with (first | ((with_reducible refine qaQ (N := 1) rfl ?_); (try (refine qbo (by rfl) ?_; dsimp only)); refine qaL ?hg (N := 1) ?hd (cs := #[.bool true, .slice A0_1 l0_1.length c0_1, .slice A0_2 l0_2.length c0_2, .slice A0_3 l0_3.length c0_3]) (t := 56) ?hr ?_; (case hd => rfl); (case hg => rfl); (case hr => first | (go_simp; done) | (go_simp; rfl)); intro gb120 hg w13 hbox hb; have n0_ := Aside0.mk (qai (by repeat (first | (with_reducible first | exact HB.out | apply qab | apply qaa | apply qac) | exact HB.out)) hb); have n1_ := Aside0.mk (hbox); have n2_ := Aside0.mk ((by rw [hg]; exact (qaj (by repeat (first | (with_reducible first | exact HB.out | apply qab | apply qaa | apply qac) | exact HB.out))) : w.heap.size ≤ gb120)); have n3_ := Aside0.mk ((by rw [hg]; exact (qaj (by repeat (first | (with_reducible first | exact HB.out | apply qab | apply qaa | apply qac) | exact HB.out))) : w.heap.size ≤ gb120)); clear HB; have HB := n0_; have BK120 := n1_; have GW120 := n2_; have GE120 := n3_; clear n0_ n1_ n2_ n3_; clear hb hbox hg; have hcz14_0 : w13.cell? ⟨gb120, 0, none⟩ = some (.bool true) := (qae BK120.out 0).trans rfl; have hcz14_1 : w13.cell? ⟨gb120, 1, none⟩ = some (.slice A0_1 l0_1.length c0_1) := (qae BK120.out 1).trans rfl; have hcz14_2 : w13.cell? ⟨gb120, 2, none⟩ = some (.slice A0_2 l0_2.length c0_2) := (qae BK120.out 2).trans rfl; have hcz14_3 : w13.cell? ⟨gb120, 3, none⟩ = some (.slice A0_3 l0_3.length c0_3) := (qae BK120.out 3).trans rfl; have hfz14_0 := qad BK120.out 0; have hfz14_1 := qad BK120.out 1; have hfz14_2 := qad BK120.out 2; have hfz14_3 := qad BK120.out 3) | ((with_reducible refine qax (f := 78) rfl ?_); refine qbl (some 5) rfl rfl Try.func78 (by kernel_rfl) rfl #[.agg #[.bool true, .slice A0_1 l0_1.length c0_1, .slice A0_2 l0_2.length c0_2, .slice A0_3 l0_3.length c0_3]] rfl (by (try simp only [List.map_toArray, List.map_cons, List.map_nil]); first | done | rfl | (simp only [List.length_drop, List.length_take]; rfl)) ?_; (with_reducible refine (qbz.calls true _ _ l0_1 _ _ l0_2 _ _ l0_3 false _ ?side1 ?side2 ?side3 ?side4 ?side5 ?side6 A2.out).mono ?_); (case side1 => repeat (first | exact (Kd.qav HR0_1.out HB.out) | (with_reducible refine Kd.qaM ?_ _) | (with_reducible refine Kd.qaN ?_ _) | (with_reducible refine Kd.qa2 ?_))); (case side2 => exact HC0_1.out); (case side3 => repeat (first | exact (Kd.qav HR0_2.out HB.out) | (with_reducible refine Kd.qaM ?_ _) | (with_reducible refine Kd.qaN ?_ _) | (with_reducible refine Kd.qa2 ?_))); (case side4 => exact HC0_2.out); (case side5 => repeat (first | exact (Kd.qav HR0_3.out HB.out) | (with_reducible refine Kd.qaM ?_ _) | (with_reducible refine Kd.qaN ?_ _) | (with_reducible refine Kd.qa2 ?_))); (case side6 => exact HC0_3.out); rintro e w15 ⟨rfl, hb⟩; refine ⟨_, rfl, ?_⟩; have n0_ := Aside0.mk (qar (g := gb120) (o := .cells #[.bool true, .slice A0_1 l0_1.length c0_1, .slice A0_2 l0_2.length c0_2, .slice A0_3 l0_3.length c0_3] 56 (0, 0)) (by (with_reducible repeat (first | refine qan ?_ _ | refine qao ?_ | refine qak ?_ _)); exact BK120.out) hb); have n1_ := Aside0.mk (qai (by repeat (first | (with_reducible first | exact HB.out | apply qab | apply qaa | apply qac | refine qaf ?_ GE120.out) | exact HB.out)) hb); clear BK120; clear HB; have BK120 := n0_; have HB := n1_; clear n0_ n1_; (try clear hb); (try clear hb2); (try clear hk); (try clear hi); have hcz16_0 : w15.cell? ⟨gb120, 0, none⟩ = some (.bool true) := (qae BK120.out 0).trans rfl; have hcz16_1 : w15.cell? ⟨gb120, 1, none⟩ = some (.slice A0_1 l0_1.length c0_1) := (qae BK120.out 1).trans rfl; have hcz16_2 : w15.cell? ⟨gb120, 2, none⟩ = some (.slice A0_2 l0_2.length c0_2) := (qae BK120.out 2).trans rfl; have hcz16_3 : w15.cell? ⟨gb120, 3, none⟩ = some (.slice A0_3 l0_3.length c0_3) := (qae BK120.out 3).trans rfl; have hfz16_0 := qad BK120.out 0; have hfz16_1 := qad BK120.out 1; have hfz16_2 := qad BK120.out 2; have hfz16_3 := qad BK120.out 3) | ((with_reducible refine qax (f := 69) rfl ?_); refine qbl (some 11) rfl rfl Try.func69 (by kernel_rfl) rfl #[.int .i64 (l0_1.length : Int), .int .i64 1, .int .i64 3] rfl (by (try simp only [List.map_toArray, List.map_cons, List.map_nil]); first | done | rfl | (simp only [List.length_drop, List.length_take]; rfl)) ?_; (with_reducible refine (qaK.calls (l0_1.length : Int) 1 3 true _ A8.out).mono ?_); rintro e w' ⟨rfl, ⟨nd, rfl⟩⟩; refine ⟨_, rfl, ?_⟩) | (go_at_call 125; (with_reducible refine (qaI.calls k _ _ l0_1 true _ ?side1 ?side2 A10.out).mono ?_); (case side1 => repeat (first | exact (Kd.qav HR0_1.out (by repeat (first | (with_reducible first | exact HB.out | apply qab | apply qaa | apply qac | refine qaf ?_ GE120.out) | exact HB.out))) | (with_reducible refine Kd.qaM ?_ _) | (with_reducible refine Kd.qaN ?_ _) | (with_reducible refine Kd.qa2 ?_))); (case side2 => exact HC0_1.out); rintro e w17 ⟨rfl, hb⟩; have n0_ := Aside0.mk (qar (g := gb120) (o := .cells #[.bool true, .slice A0_1 l0_1.length c0_1, .slice A0_2 l0_2.length c0_2, .slice A0_3 l0_3.length c0_3] 56 (0, 0)) (by (with_reducible repeat (first | refine qan ?_ _ | refine qao ?_ | refine qak ?_ _)); exact BK120.out) hb); have n1_ := Aside0.mk (qai (by repeat (first | (with_reducible first | exact HB.out | apply qab | apply qaa | apply qac | refine qaf ?_ GE120.out) | exact HB.out)) hb); clear BK120; clear HB; have BK120 := n0_; have HB := n1_; clear n0_ n1_; (try clear hb); (try clear hb2); (try clear hk); (try clear hi); have hcz18_0 : w17.cell? ⟨gb120, 0, none⟩ = some (.bool true) := (qae BK120.out 0).trans rfl; have hcz18_1 : w17.cell? ⟨gb120, 1, none⟩ = some (.slice A0_1 l0_1.length c0_1) := (qae BK120.out 1).trans rfl; have hcz18_2 : w17.cell? ⟨gb120, 2, none⟩ = some (.slice A0_2 l0_2.length c0_2) := (qae BK120.out 2).trans rfl; have hcz18_3 : w17.cell? ⟨gb120, 3, none⟩ = some (.slice A0_3 l0_3.length c0_3) := (qae BK120.out 3).trans rfl; have hfz18_0 := qad BK120.out 0; have hfz18_1 := qad BK120.out 1; have hfz18_2 := qad BK120.out 2; have hfz18_3 := qad BK120.out 3))
      go_ret
      exact ⟨by first | rfl | (simp [qal, qam] <;> rfl) | (simp [*, qal, qam] <;> rfl), by repeat (first | (with_reducible first | exact HB.out | apply qab | apply qaa | apply qac | refine qaf ?_ GE120.out) | exact HB.out)⟩
     ·rw [if_neg c12] at H
      have c12b0 : ((l0_2.length : Int) == 0) = false := beq_eq_false_iff_ne.mpr c12
      have c12b1 : ((l0_2.length : Int) != 0) = true := bne_iff_ne.mpr c12
      have c12b2 : ¬ (l0_2 = []) := fun h_ => c12 (by rw [h_]; rfl)
      obtain rfl := Option.some.inj H
      go_enter Try.func77, Try.ntmps77
      go_wp2_with (first | ((with_reducible refine qaQ (N := 1) rfl ?_); (try (refine qbo (by rfl) ?_; dsimp only)); refine qaL ?hg (N := 1) ?hd (cs := #[.bool true, .slice A0_1 l0_1.length c0_1, .slice A0_2 l0_2.length c0_2, .slice A0_3 l0_3.length c0_3]) (t := 56) ?hr ?_; (case hd => rfl); (case hg => rfl); (case hr => first | (go_simp; done) | (go_simp; rfl)); intro gb120 hg w19 hbox hb; have n0_ := Aside0.mk (qai (by repeat (first | (with_reducible first | exact HB.out | apply qab | apply qaa | apply qac) | exact HB.out)) hb); have n1_ := Aside0.mk (hbox); have n2_ := Aside0.mk ((by rw [hg]; exact (qaj (by repeat (first | (with_reducible first | exact HB.out | apply qab | apply qaa | apply qac) | exact HB.out))) : w.heap.size ≤ gb120)); have n3_ := Aside0.mk ((by rw [hg]; exact (qaj (by repeat (first | (with_reducible first | exact HB.out | apply qab | apply qaa | apply qac) | exact HB.out))) : w.heap.size ≤ gb120)); clear HB; have HB := n0_; have BK120 := n1_; have GW120 := n2_; have GE120 := n3_; clear n0_ n1_ n2_ n3_; clear hb hbox hg; have hcz20_0 : w19.cell? ⟨gb120, 0, none⟩ = some (.bool true) := (qae BK120.out 0).trans rfl; have hcz20_1 : w19.cell? ⟨gb120, 1, none⟩ = some (.slice A0_1 l0_1.length c0_1) := (qae BK120.out 1).trans rfl; have hcz20_2 : w19.cell? ⟨gb120, 2, none⟩ = some (.slice A0_2 l0_2.length c0_2) := (qae BK120.out 2).trans rfl; have hcz20_3 : w19.cell? ⟨gb120, 3, none⟩ = some (.slice A0_3 l0_3.length c0_3) := (qae BK120.out 3).trans rfl; have hfz20_0 := qad BK120.out 0; have hfz20_1 := qad BK120.out 1; have hfz20_2 := qad BK120.out 2; have hfz20_3 := qad BK120.out 3) | ((with_reducible refine qax (f := 78) rfl ?_); refine qbl (some 5) rfl rfl Try.func78 (by kernel_rfl) rfl #[.agg #[.bool true, .slice A0_1 l0_1.length c0_1, .slice A0_2 l0_2.length c0_2, .slice A0_3 l0_3.length c0_3]] rfl (by (try simp only [List.map_toArray, List.map_cons, List.map_nil]); first | done | rfl | (simp only [List.length_drop, List.length_take]; rfl)) ?_; (with_reducible refine (qbz.calls true _ _ l0_1 _ _ l0_2 _ _ l0_3 false _ ?side1 ?side2 ?side3 ?side4 ?side5 ?side6 A2.out).mono ?_); (case side1 => repeat (first | exact (Kd.qav HR0_1.out HB.out) | (with_reducible refine Kd.qaM ?_ _) | (with_reducible refine Kd.qaN ?_ _) | (with_reducible refine Kd.qa2 ?_))); (case side2 => exact HC0_1.out); (case side3 => repeat (first | exact (Kd.qav HR0_2.out HB.out) | (with_reducible refine Kd.qaM ?_ _) | (with_reducible refine Kd.qaN ?_ _) | (with_reducible refine Kd.qa2 ?_))); (case side4 => exact HC0_2.out); (case side5 => repeat (first | exact (Kd.qav HR0_3.out HB.out) | (with_reducible refine Kd.qaM ?_ _) | (with_reducible refine Kd.qaN ?_ _) | (with_reducible refine Kd.qa2 ?_))); (case side6 => exact HC0_3.out); rintro e w21 ⟨rfl, hb⟩; refine ⟨_, rfl, ?_⟩; have n0_ := Aside0.mk (qar (g := gb120) (o := .cells #[.bool true, .slice A0_1 l0_1.length c0_1, .slice A0_2 l0_2.length c0_2, .slice A0_3 l0_3.length c0_3] 56 (0, 0)) (by (with_reducible repeat (first | refine qan ?_ _ | refine qao ?_ | refine qak ?_ _)); exact BK120.out) hb); have n1_ := Aside0.mk (qai (by repeat (first | (with_reducible first | exact HB.out | apply qab | apply qaa | apply qac | refine qaf ?_ GE120.out) | exact HB.out)) hb); clear BK120; clear HB; have BK120 := n0_; have HB := n1_; clear n0_ n1_; (try clear hb); (try clear hb2); (try clear hk); (try clear hi); have hcz22_0 : w21.cell? ⟨gb120, 0, none⟩ = some (.bool true) := (qae BK120.out 0).trans rfl; have hcz22_1 : w21.cell? ⟨gb120, 1, none⟩ = some (.slice A0_1 l0_1.length c0_1) := (qae BK120.out 1).trans rfl; have hcz22_2 : w21.cell? ⟨gb120, 2, none⟩ = some (.slice A0_2 l0_2.length c0_2) := (qae BK120.out 2).trans rfl; have hcz22_3 : w21.cell? ⟨gb120, 3, none⟩ = some (.slice A0_3 l0_3.length c0_3) := (qae BK120.out 3).trans rfl; have hfz22_0 := qad BK120.out 0; have hfz22_1 := qad BK120.out 1; have hfz22_2 := qad BK120.out 2; have hfz22_3 := qad BK120.out 3) | ((with_reducible refine qax (f := 69) rfl ?_); refine qbl (some 11) rfl rfl Try.func69 (by kernel_rfl) rfl #[.int .i64 (l0_1.length : Int), .int .i64 1, .int .i64 3] rfl (by (try simp only [List.map_toArray, List.map_cons, List.map_nil]); first | done | rfl | (simp only [List.length_drop, List.length_take]; rfl)) ?_; (with_reducible refine (qaK.calls (l0_1.length : Int) 1 3 true _ A8.out).mono ?_); rintro e w' ⟨rfl, ⟨nd, rfl⟩⟩; refine ⟨_, rfl, ?_⟩) | (go_at_call 125; (with_reducible refine (qaI.calls k _ _ l0_1 true _ ?side1 ?side2 A10.out).mono ?_); (case side1 => repeat (first | exact (Kd.qav HR0_1.out (by repeat (first | (with_reducible first | exact HB.out | apply qab | apply qaa | apply qac | refine qaf ?_ GE120.out) | exact HB.out))) | (with_reducible refine Kd.qaM ?_ _) | (with_reducible refine Kd.qaN ?_ _) | (with_reducible refine Kd.qa2 ?_))); (case side2 => exact HC0_1.out); rintro e w23 ⟨rfl, hb⟩; have n0_ := Aside0.mk (qar (g := gb120) (o := .cells #[.bool true, .slice A0_1 l0_1.length c0_1, .slice A0_2 l0_2.length c0_2, .slice A0_3 l0_3.length c0_3] 56 (0, 0)) (by (with_reducible repeat (first | refine qan ?_ _ | refine qao ?_ | refine qak ?_ _)); exact BK120.out) hb); have n1_ := Aside0.mk (qai (by repeat (first | (with_reducible first | exact HB.out | apply qab | apply qaa | apply qac | refine qaf ?_ GE120.out) | exact HB.out)) hb); clear BK120; clear HB; have BK120 := n0_; have HB := n1_; clear n0_ n1_; (try clear hb); (try clear hb2); (try clear hk); (try clear hi); have hcz24_0 : w23.cell? ⟨gb120, 0, none⟩ = some (.bool true) := (qae BK120.out 0).trans rfl; have hcz24_1 : w23.cell? ⟨gb120, 1, none⟩ = some (.slice A0_1 l0_1.length c0_1) := (qae BK120.out 1).trans rfl; have hcz24_2 : w23.cell? ⟨gb120, 2, none⟩ = some (.slice A0_2 l0_2.length c0_2) := (qae BK120.out 2).trans rfl; have hcz24_3 : w23.cell? ⟨gb120, 3, none⟩ = some (.slice A0_3 l0_3.length c0_3) := (qae BK120.out 3).trans rfl; have hfz24_0 := qad BK120.out 0; have hfz24_1 := qad BK120.out 1; have hfz24_2 := qad BK120.out 2; have hfz24_3 := qad BK120.out 3))
      go_ret
      exact ⟨by first | rfl | (simp [qal, qam] <;> rfl) | (simp [*, qal, qam] <;> rfl), by repeat (first | (with_reducible first | exact HB.out | apply qab | apply qaa | apply qac | refine qaf ?_ GE120.out) | exact HB.out)⟩
    ·replace c11 := Bool.eq_false_iff.mpr c11
     subst c11
     have H1 : (some false) = some r := by rw [if_neg (show ¬ (false = true) by decide)] at H; exact H
     clear H
     have H := H1
     clear H1
     obtain rfl := Option.some.inj H
     go_enter Try.func77, Try.ntmps77
     go_wp2_with (first | ((with_reducible refine qaQ (N := 1) rfl ?_); (try (refine qbo (by rfl) ?_; dsimp only)); refine qaL ?hg (N := 1) ?hd (cs := #[.bool true, .slice A0_1 l0_1.length c0_1, .slice A0_2 l0_2.length c0_2, .slice A0_3 l0_3.length c0_3]) (t := 56) ?hr ?_; (case hd => rfl); (case hg => rfl); (case hr => first | (go_simp; done) | (go_simp; rfl)); intro gb120 hg w25 hbox hb; have n0_ := Aside0.mk (qai (by repeat (first | (with_reducible first | exact HB.out | apply qab | apply qaa | apply qac) | exact HB.out)) hb); have n1_ := Aside0.mk (hbox); have n2_ := Aside0.mk ((by rw [hg]; exact (qaj (by repeat (first | (with_reducible first | exact HB.out | apply qab | apply qaa | apply qac) | exact HB.out))) : w.heap.size ≤ gb120)); have n3_ := Aside0.mk ((by rw [hg]; exact (qaj (by repeat (first | (with_reducible first | exact HB.out | apply qab | apply qaa | apply qac) | exact HB.out))) : w.heap.size ≤ gb120)); clear HB; have HB := n0_; have BK120 := n1_; have GW120 := n2_; have GE120 := n3_; clear n0_ n1_ n2_ n3_; clear hb hbox hg; have hcz26_0 : w25.cell? ⟨gb120, 0, none⟩ = some (.bool true) := (qae BK120.out 0).trans rfl; have hcz26_1 : w25.cell? ⟨gb120, 1, none⟩ = some (.slice A0_1 l0_1.length c0_1) := (qae BK120.out 1).trans rfl; have hcz26_2 : w25.cell? ⟨gb120, 2, none⟩ = some (.slice A0_2 l0_2.length c0_2) := (qae BK120.out 2).trans rfl; have hcz26_3 : w25.cell? ⟨gb120, 3, none⟩ = some (.slice A0_3 l0_3.length c0_3) := (qae BK120.out 3).trans rfl; have hfz26_0 := qad BK120.out 0; have hfz26_1 := qad BK120.out 1; have hfz26_2 := qad BK120.out 2; have hfz26_3 := qad BK120.out 3) | ((with_reducible refine qax (f := 78) rfl ?_); refine qbl (some 5) rfl rfl Try.func78 (by kernel_rfl) rfl #[.agg #[.bool true, .slice A0_1 l0_1.length c0_1, .slice A0_2 l0_2.length c0_2, .slice A0_3 l0_3.length c0_3]] rfl (by (try simp only [List.map_toArray, List.map_cons, List.map_nil]); first | done | rfl | (simp only [List.length_drop, List.length_take]; rfl)) ?_; (with_reducible refine (qbz.calls true _ _ l0_1 _ _ l0_2 _ _ l0_3 false _ ?side1 ?side2 ?side3 ?side4 ?side5 ?side6 A2.out).mono ?_); (case side1 => repeat (first | exact (Kd.qav HR0_1.out HB.out) | (with_reducible refine Kd.qaM ?_ _) | (with_reducible refine Kd.qaN ?_ _) | (with_reducible refine Kd.qa2 ?_))); (case side2 => exact HC0_1.out); (case side3 => repeat (first | exact (Kd.qav HR0_2.out HB.out) | (with_reducible refine Kd.qaM ?_ _) | (with_reducible refine Kd.qaN ?_ _) | (with_reducible refine Kd.qa2 ?_))); (case side4 => exact HC0_2.out); (case side5 => repeat (first | exact (Kd.qav HR0_3.out HB.out) | (with_reducible refine Kd.qaM ?_ _) | (with_reducible refine Kd.qaN ?_ _) | (with_reducible refine Kd.qa2 ?_))); (case side6 => exact HC0_3.out); rintro e w27 ⟨rfl, hb⟩; refine ⟨_, rfl, ?_⟩; have n0_ := Aside0.mk (qar (g := gb120) (o := .cells #[.bool true, .slice A0_1 l0_1.length c0_1, .slice A0_2 l0_2.length c0_2, .slice A0_3 l0_3.length c0_3] 56 (0, 0)) (by (with_reducible repeat (first | refine qan ?_ _ | refine qao ?_ | refine qak ?_ _)); exact BK120.out) hb); have n1_ := Aside0.mk (qai (by repeat (first | (with_reducible first | exact HB.out | apply qab | apply qaa | apply qac | refine qaf ?_ GE120.out) | exact HB.out)) hb); clear BK120; clear HB; have BK120 := n0_; have HB := n1_; clear n0_ n1_; (try clear hb); (try clear hb2); (try clear hk); (try clear hi); have hcz28_0 : w27.cell? ⟨gb120, 0, none⟩ = some (.bool true) := (qae BK120.out 0).trans rfl; have hcz28_1 : w27.cell? ⟨gb120, 1, none⟩ = some (.slice A0_1 l0_1.length c0_1) := (qae BK120.out 1).trans rfl; have hcz28_2 : w27.cell? ⟨gb120, 2, none⟩ = some (.slice A0_2 l0_2.length c0_2) := (qae BK120.out 2).trans rfl; have hcz28_3 : w27.cell? ⟨gb120, 3, none⟩ = some (.slice A0_3 l0_3.length c0_3) := (qae BK120.out 3).trans rfl; have hfz28_0 := qad BK120.out 0; have hfz28_1 := qad BK120.out 1; have hfz28_2 := qad BK120.out 2; have hfz28_3 := qad BK120.out 3) | ((with_reducible refine qax (f := 69) rfl ?_); refine qbl (some 11) rfl rfl Try.func69 (by kernel_rfl) rfl #[.int .i64 (l0_1.length : Int), .int .i64 1, .int .i64 3] rfl (by (try simp only [List.map_toArray, List.map_cons, List.map_nil]); first | done | rfl | (simp only [List.length_drop, List.length_take]; rfl)) ?_; (with_reducible refine (qaK.calls (l0_1.length : Int) 1 3 true _ A8.out).mono ?_); rintro e w' ⟨rfl, ⟨nd, rfl⟩⟩; refine ⟨_, rfl, ?_⟩) | (go_at_call 125; (with_reducible refine (qaI.calls k _ _ l0_1 false _ ?side1 ?side2 A10.out).mono ?_); (case side1 => repeat (first | exact (Kd.qav HR0_1.out (by repeat (first | (with_reducible first | exact HB.out | apply qab | apply qaa | apply qac | refine qaf ?_ GE120.out) | exact HB.out))) | (with_reducible refine Kd.qaM ?_ _) | (with_reducible refine Kd.qaN ?_ _) | (with_reducible refine Kd.qa2 ?_))); (case side2 => exact HC0_1.out); rintro e w29 ⟨rfl, hb⟩; have n0_ := Aside0.mk (qar (g := gb120) (o := .cells #[.bool true, .slice A0_1 l0_1.length c0_1, .slice A0_2 l0_2.length c0_2, .slice A0_3 l0_3.length c0_3] 56 (0, 0)) (by (with_reducible repeat (first | refine qan ?_ _ | refine qao ?_ | refine qak ?_ _)); exact BK120.out) hb); have n1_ := Aside0.mk (qai (by repeat (first | (with_reducible first | exact HB.out | apply qab | apply qaa | apply qac | refine qaf ?_ GE120.out) | exact HB.out)) hb); clear BK120; clear HB; have BK120 := n0_; have HB := n1_; clear n0_ n1_; (try clear hb); (try clear hb2); (try clear hk); (try clear hi)))
     go_ret
     exact ⟨by first | rfl | (simp [qal, qam] <;> rfl) | (simp [*, qal, qam] <;> rfl), by repeat (first | (with_reducible first | exact HB.out | apply qab | apply qaa | apply qac | refine qaf ?_ GE120.out) | exact HB.out)⟩
   ·replace c9 := Bool.eq_false_iff.mpr c9
    subst c9
    have H1 : (some false) = some r := by rw [if_neg (show ¬ (false = true) by decide)] at H; exact H
    clear H
    have H := H1
    clear H1
    obtain rfl := Option.some.inj H
    go_enter Try.func77, Try.ntmps77
    go_wp2_with (first | ((with_reducible refine qaQ (N := 1) rfl ?_); (try (refine qbo (by rfl) ?_; dsimp only)); refine qaL ?hg (N := 1) ?hd (cs := #[.bool true, .slice A0_1 l0_1.length c0_1, .slice A0_2 l0_2.length c0_2, .slice A0_3 l0_3.length c0_3]) (t := 56) ?hr ?_; (case hd => rfl); (case hg => rfl); (case hr => first | (go_simp; done) | (go_simp; rfl)); intro gb120 hg w30 hbox hb; have n0_ := Aside0.mk (qai (by repeat (first | (with_reducible first | exact HB.out | apply qab | apply qaa | apply qac) | exact HB.out)) hb); have n1_ := Aside0.mk (hbox); have n2_ := Aside0.mk ((by rw [hg]; exact (qaj (by repeat (first | (with_reducible first | exact HB.out | apply qab | apply qaa | apply qac) | exact HB.out))) : w.heap.size ≤ gb120)); have n3_ := Aside0.mk ((by rw [hg]; exact (qaj (by repeat (first | (with_reducible first | exact HB.out | apply qab | apply qaa | apply qac) | exact HB.out))) : w.heap.size ≤ gb120)); clear HB; have HB := n0_; have BK120 := n1_; have GW120 := n2_; have GE120 := n3_; clear n0_ n1_ n2_ n3_; clear hb hbox hg; have hcz31_0 : w30.cell? ⟨gb120, 0, none⟩ = some (.bool true) := (qae BK120.out 0).trans rfl; have hcz31_1 : w30.cell? ⟨gb120, 1, none⟩ = some (.slice A0_1 l0_1.length c0_1) := (qae BK120.out 1).trans rfl; have hcz31_2 : w30.cell? ⟨gb120, 2, none⟩ = some (.slice A0_2 l0_2.length c0_2) := (qae BK120.out 2).trans rfl; have hcz31_3 : w30.cell? ⟨gb120, 3, none⟩ = some (.slice A0_3 l0_3.length c0_3) := (qae BK120.out 3).trans rfl; have hfz31_0 := qad BK120.out 0; have hfz31_1 := qad BK120.out 1; have hfz31_2 := qad BK120.out 2; have hfz31_3 := qad BK120.out 3) | ((with_reducible refine qax (f := 78) rfl ?_); refine qbl (some 5) rfl rfl Try.func78 (by kernel_rfl) rfl #[.agg #[.bool true, .slice A0_1 l0_1.length c0_1, .slice A0_2 l0_2.length c0_2, .slice A0_3 l0_3.length c0_3]] rfl (by (try simp only [List.map_toArray, List.map_cons, List.map_nil]); first | done | rfl | (simp only [List.length_drop, List.length_take]; rfl)) ?_; (with_reducible refine (qbz.calls true _ _ l0_1 _ _ l0_2 _ _ l0_3 false _ ?side1 ?side2 ?side3 ?side4 ?side5 ?side6 A2.out).mono ?_); (case side1 => repeat (first | exact (Kd.qav HR0_1.out HB.out) | (with_reducible refine Kd.qaM ?_ _) | (with_reducible refine Kd.qaN ?_ _) | (with_reducible refine Kd.qa2 ?_))); (case side2 => exact HC0_1.out); (case side3 => repeat (first | exact (Kd.qav HR0_2.out HB.out) | (with_reducible refine Kd.qaM ?_ _) | (with_reducible refine Kd.qaN ?_ _) | (with_reducible refine Kd.qa2 ?_))); (case side4 => exact HC0_2.out); (case side5 => repeat (first | exact (Kd.qav HR0_3.out HB.out) | (with_reducible refine Kd.qaM ?_ _) | (with_reducible refine Kd.qaN ?_ _) | (with_reducible refine Kd.qa2 ?_))); (case side6 => exact HC0_3.out); rintro e w32 ⟨rfl, hb⟩; refine ⟨_, rfl, ?_⟩; have n0_ := Aside0.mk (qar (g := gb120) (o := .cells #[.bool true, .slice A0_1 l0_1.length c0_1, .slice A0_2 l0_2.length c0_2, .slice A0_3 l0_3.length c0_3] 56 (0, 0)) (by (with_reducible repeat (first | refine qan ?_ _ | refine qao ?_ | refine qak ?_ _)); exact BK120.out) hb); have n1_ := Aside0.mk (qai (by repeat (first | (with_reducible first | exact HB.out | apply qab | apply qaa | apply qac | refine qaf ?_ GE120.out) | exact HB.out)) hb); clear BK120; clear HB; have BK120 := n0_; have HB := n1_; clear n0_ n1_; (try clear hb); (try clear hb2); (try clear hk); (try clear hi); have hcz33_0 : w32.cell? ⟨gb120, 0, none⟩ = some (.bool true) := (qae BK120.out 0).trans rfl; have hcz33_1 : w32.cell? ⟨gb120, 1, none⟩ = some (.slice A0_1 l0_1.length c0_1) := (qae BK120.out 1).trans rfl; have hcz33_2 : w32.cell? ⟨gb120, 2, none⟩ = some (.slice A0_2 l0_2.length c0_2) := (qae BK120.out 2).trans rfl; have hcz33_3 : w32.cell? ⟨gb120, 3, none⟩ = some (.slice A0_3 l0_3.length c0_3) := (qae BK120.out 3).trans rfl; have hfz33_0 := qad BK120.out 0; have hfz33_1 := qad BK120.out 1; have hfz33_2 := qad BK120.out 2; have hfz33_3 := qad BK120.out 3) | ((with_reducible refine qax (f := 69) rfl ?_); refine qbl (some 11) rfl rfl Try.func69 (by kernel_rfl) rfl #[.int .i64 (l0_1.length : Int), .int .i64 1, .int .i64 3] rfl (by (try simp only [List.map_toArray, List.map_cons, List.map_nil]); first | done | rfl | (simp only [List.length_drop, List.length_take]; rfl)) ?_; (with_reducible refine (qaK.calls (l0_1.length : Int) 1 3 false _ A8.out).mono ?_); rintro e w' ⟨rfl, ⟨nd, rfl⟩⟩; refine ⟨_, rfl, ?_⟩))
    go_ret
    exact ⟨by first | rfl | (simp [qal, qam] <;> rfl) | (simp [*, qal, qam] <;> rfl), by repeat (first | (with_reducible first | exact HB.out | apply qab | apply qaa | apply qac | refine qaf ?_ GE120.out) | exact HB.out)⟩
  ·replace c7 := Bool.eq_false_iff.mpr c7
   subst c7
   have H1 : (if (l0_1.length : Int) = 0 then ((qaK.f (l0_3.length : Int) 1 4).bind fun t124 => (if t124 = true then (qaw.j0 k ((l0_2.length : Int) != (l0_3.length : Int)) false l0_1 l0_2 l0_3) else (qaw.j0 k true false l0_1 l0_2 l0_3))) else (qaw.j0 k true false l0_1 l0_2 l0_3)) = some r := by rw [if_neg (show ¬ (false = true) by decide)] at H; exact H
   clear H
   have H := H1
   clear H1
   have HC34 := Aside0.mk H
   clear H
   go_enter Try.func77, Try.ntmps77
   go_upto_region 5 with (first | ((with_reducible refine qaQ (N := 1) rfl ?_); (try (refine qbo (by rfl) ?_; dsimp only)); refine qaL ?hg (N := 1) ?hd (cs := #[.bool false, .slice A0_1 l0_1.length c0_1, .slice A0_2 l0_2.length c0_2, .slice A0_3 l0_3.length c0_3]) (t := 56) ?hr ?_; (case hd => rfl); (case hg => rfl); (case hr => first | (go_simp; done) | (go_simp; rfl)); intro gb120 hg w35 hbox hb; have n0_ := Aside0.mk (qai (by repeat (first | (with_reducible first | exact HB.out | apply qab | apply qaa | apply qac) | exact HB.out)) hb); have n1_ := Aside0.mk (hbox); have n2_ := Aside0.mk ((by rw [hg]; exact (qaj (by repeat (first | (with_reducible first | exact HB.out | apply qab | apply qaa | apply qac) | exact HB.out))) : w.heap.size ≤ gb120)); have n3_ := Aside0.mk ((by rw [hg]; exact (qaj (by repeat (first | (with_reducible first | exact HB.out | apply qab | apply qaa | apply qac) | exact HB.out))) : w.heap.size ≤ gb120)); clear HB; have HB := n0_; have BK120 := n1_; have GW120 := n2_; have GE120 := n3_; clear n0_ n1_ n2_ n3_; clear hb hbox hg; have hcz36_0 : w35.cell? ⟨gb120, 0, none⟩ = some (.bool false) := (qae BK120.out 0).trans rfl; have hcz36_1 : w35.cell? ⟨gb120, 1, none⟩ = some (.slice A0_1 l0_1.length c0_1) := (qae BK120.out 1).trans rfl; have hcz36_2 : w35.cell? ⟨gb120, 2, none⟩ = some (.slice A0_2 l0_2.length c0_2) := (qae BK120.out 2).trans rfl; have hcz36_3 : w35.cell? ⟨gb120, 3, none⟩ = some (.slice A0_3 l0_3.length c0_3) := (qae BK120.out 3).trans rfl; have hfz36_0 := qad BK120.out 0; have hfz36_1 := qad BK120.out 1; have hfz36_2 := qad BK120.out 2; have hfz36_3 := qad BK120.out 3) | ((with_reducible refine qax (f := 78) rfl ?_); refine qbl (some 5) rfl rfl Try.func78 (by kernel_rfl) rfl #[.agg #[.bool false, .slice A0_1 l0_1.length c0_1, .slice A0_2 l0_2.length c0_2, .slice A0_3 l0_3.length c0_3]] rfl (by (try simp only [List.map_toArray, List.map_cons, List.map_nil]); first | done | rfl | (simp only [List.length_drop, List.length_take]; rfl)) ?_; (with_reducible refine (qbz.calls false _ _ l0_1 _ _ l0_2 _ _ l0_3 false _ ?side1 ?side2 ?side3 ?side4 ?side5 ?side6 A2.out).mono ?_); (case side1 => repeat (first | exact (Kd.qav HR0_1.out HB.out) | (with_reducible refine Kd.qaM ?_ _) | (with_reducible refine Kd.qaN ?_ _) | (with_reducible refine Kd.qa2 ?_))); (case side2 => exact HC0_1.out); (case side3 => repeat (first | exact (Kd.qav HR0_2.out HB.out) | (with_reducible refine Kd.qaM ?_ _) | (with_reducible refine Kd.qaN ?_ _) | (with_reducible refine Kd.qa2 ?_))); (case side4 => exact HC0_2.out); (case side5 => repeat (first | exact (Kd.qav HR0_3.out HB.out) | (with_reducible refine Kd.qaM ?_ _) | (with_reducible refine Kd.qaN ?_ _) | (with_reducible refine Kd.qa2 ?_))); (case side6 => exact HC0_3.out); rintro e w37 ⟨rfl, hb⟩; refine ⟨_, rfl, ?_⟩; have n0_ := Aside0.mk (qar (g := gb120) (o := .cells #[.bool false, .slice A0_1 l0_1.length c0_1, .slice A0_2 l0_2.length c0_2, .slice A0_3 l0_3.length c0_3] 56 (0, 0)) (by (with_reducible repeat (first | refine qan ?_ _ | refine qao ?_ | refine qak ?_ _)); exact BK120.out) hb); have n1_ := Aside0.mk (qai (by repeat (first | (with_reducible first | exact HB.out | apply qab | apply qaa | apply qac | refine qaf ?_ GE120.out) | exact HB.out)) hb); clear BK120; clear HB; have BK120 := n0_; have HB := n1_; clear n0_ n1_; (try clear hb); (try clear hb2); (try clear hk); (try clear hi); have hcz38_0 : w37.cell? ⟨gb120, 0, none⟩ = some (.bool false) := (qae BK120.out 0).trans rfl; have hcz38_1 : w37.cell? ⟨gb120, 1, none⟩ = some (.slice A0_1 l0_1.length c0_1) := (qae BK120.out 1).trans rfl; have hcz38_2 : w37.cell? ⟨gb120, 2, none⟩ = some (.slice A0_2 l0_2.length c0_2) := (qae BK120.out 2).trans rfl; have hcz38_3 : w37.cell? ⟨gb120, 3, none⟩ = some (.slice A0_3 l0_3.length c0_3) := (qae BK120.out 3).trans rfl; have hfz38_0 := qad BK120.out 0; have hfz38_1 := qad BK120.out 1; have hfz38_2 := qad BK120.out 2; have hfz38_3 := qad BK120.out 3))
   (try simp only [Act.put, List.setIfInBounds_toArray, List.set_cons_zero, List.set_cons_succ])
   go_cut [48] (fun v48 wc => ∃ (kq : Nat) (x48_33 : Bool), v48 = .bool x48_33 ∧ Aside0 (qaw.j0 kq x48_33 false l0_1 l0_2 l0_3 = some r) ∧ Aside0 (kq ≤ k) ∧ Aside0 (wc.heap[gb120]? = some (.cells #[.bool false, (.slice A0_1 l0_1.length c0_1), (.slice A0_2 l0_2.length c0_2), (.slice A0_3 l0_3.length c0_3)] 56 (0, 0))) ∧ Aside0 (Below w.heap.size w wc))
   case first =>
    have H := HC34.out
    clear HC34
    by_cases c39 : (l0_1.length : Int) = 0
    ·rw [if_pos c39] at H
     have c39b0 : ((l0_1.length : Int) == 0) = true := beq_iff_eq.mpr c39
     have c39b1 : ((l0_1.length : Int) != 0) = false := bne_eq_false_iff_eq.mpr c39
     clear c39
     (first | rw [c39b0] | (simp only [qaS, qbT]; rw [c39b0]) | skip)
     replace H := Option.bind_eq_some_iff.mp H
     obtain ⟨t124, A400, H⟩ := H
     replace H : (if t124 = true then (qaw.j0 k ((l0_2.length : Int) != (l0_3.length : Int)) false l0_1 l0_2 l0_3) else (qaw.j0 k true false l0_1 l0_2 l0_3)) = some r := H
     have A40 := Aside0.mk A400
     clear A400
     by_cases c41 : t124 = true
     ·subst c41
      have H1 : (qaw.j0 k ((l0_2.length : Int) != (l0_3.length : Int)) false l0_1 l0_2 l0_3) = some r := by rw [if_pos rfl] at H; exact H
      clear H
      have H := H1
      clear H1
      have H' := Aside0.mk H
      clear H
      have hcz42_0 : w37.cell? ⟨gb120, 0, none⟩ = some (.bool false) := (qae BK120.out 0).trans rfl
      have hcz42_1 : w37.cell? ⟨gb120, 1, none⟩ = some (.slice A0_1 l0_1.length c0_1) := (qae BK120.out 1).trans rfl
      have hcz42_2 : w37.cell? ⟨gb120, 2, none⟩ = some (.slice A0_2 l0_2.length c0_2) := (qae BK120.out 2).trans rfl
      have hcz42_3 : w37.cell? ⟨gb120, 3, none⟩ = some (.slice A0_3 l0_3.length c0_3) := (qae BK120.out 3).trans rfl
      have hfz42_0 := qad BK120.out 0
      have hfz42_1 := qad BK120.out 1
      have hfz42_2 := qad BK120.out 2
      have hfz42_3 := qad BK120.out 3
      go_wp2_with (first | (go_at_call 69; (with_reducible refine (qaK.calls (l0_3.length : Int) 1 4 true _ A40.out).mono ?_); rintro e w' ⟨rfl, ⟨nd, rfl⟩⟩))
      go_meet
      case rel => exact ⟨_, (((l0_2.length : Int) != (l0_3.length : Int))), (by first | rfl | (simp; done) | (simp [*]; done)), H', ⟨by first | omega | exact Nat.le_refl _⟩, ⟨by (with_reducible repeat (first | refine qan ?_ _ | refine qao ?_ | refine qak ?_ _)); exact BK120.out⟩, ⟨by repeat (first | (with_reducible first | exact HB.out | apply qab | apply qaa | apply qac | refine qaf ?_ GE120.out) | exact HB.out)⟩⟩
     ·replace c41 := Bool.eq_false_iff.mpr c41
      subst c41
      have H1 : (qaw.j0 k true false l0_1 l0_2 l0_3) = some r := by rw [if_neg (show ¬ (false = true) by decide)] at H; exact H
      clear H
      have H := H1
      clear H1
      have H' := Aside0.mk H
      clear H
      have hcz43_0 : w37.cell? ⟨gb120, 0, none⟩ = some (.bool false) := (qae BK120.out 0).trans rfl
      have hcz43_1 : w37.cell? ⟨gb120, 1, none⟩ = some (.slice A0_1 l0_1.length c0_1) := (qae BK120.out 1).trans rfl
      have hcz43_2 : w37.cell? ⟨gb120, 2, none⟩ = some (.slice A0_2 l0_2.length c0_2) := (qae BK120.out 2).trans rfl
      have hcz43_3 : w37.cell? ⟨gb120, 3, none⟩ = some (.slice A0_3 l0_3.length c0_3) := (qae BK120.out 3).trans rfl
      have hfz43_0 := qad BK120.out 0
      have hfz43_1 := qad BK120.out 1
      have hfz43_2 := qad BK120.out 2
      have hfz43_3 := qad BK120.out 3
      go_wp2_with (first | (go_at_call 69; (with_reducible refine (qaK.calls (l0_3.length : Int) 1 4 false _ A40.out).mono ?_); rintro e w' ⟨rfl, ⟨nd, rfl⟩⟩))
      go_meet
      case rel => exact ⟨_, (true), (by first | rfl | (simp; done) | (simp [*]; done)), H', ⟨by first | omega | exact Nat.le_refl _⟩, ⟨by (with_reducible repeat (first | refine qan ?_ _ | refine qao ?_ | refine qak ?_ _)); exact BK120.out⟩, ⟨by repeat (first | (with_reducible first | exact HB.out | apply qab | apply qaa | apply qac | refine qaf ?_ GE120.out) | exact HB.out)⟩⟩
    ·rw [if_neg c39] at H
     have c39b0 : ((l0_1.length : Int) == 0) = false := beq_eq_false_iff_ne.mpr c39
     have c39b1 : ((l0_1.length : Int) != 0) = true := bne_iff_ne.mpr c39
     have c39b2 : ¬ (l0_1 = []) := fun h_ => c39 (by rw [h_]; rfl)
     (first | rw [c39b0] | (simp only [qaS, qbT]; rw [c39b0]) | skip)
     have H' := Aside0.mk H
     clear H
     have hcz44_0 : w37.cell? ⟨gb120, 0, none⟩ = some (.bool false) := (qae BK120.out 0).trans rfl
     have hcz44_1 : w37.cell? ⟨gb120, 1, none⟩ = some (.slice A0_1 l0_1.length c0_1) := (qae BK120.out 1).trans rfl
     have hcz44_2 : w37.cell? ⟨gb120, 2, none⟩ = some (.slice A0_2 l0_2.length c0_2) := (qae BK120.out 2).trans rfl
     have hcz44_3 : w37.cell? ⟨gb120, 3, none⟩ = some (.slice A0_3 l0_3.length c0_3) := (qae BK120.out 3).trans rfl
     have hfz44_0 := qad BK120.out 0
     have hfz44_1 := qad BK120.out 1
     have hfz44_2 := qad BK120.out 2
     have hfz44_3 := qad BK120.out 3
     go_wp2
     go_meet
     case rel => exact ⟨_, (true), (by first | rfl | (simp; done) | (simp [*]; done)), H', ⟨by first | omega | exact Nat.le_refl _⟩, ⟨by (with_reducible repeat (first | refine qan ?_ _ | refine qao ?_ | refine qak ?_ _)); exact BK120.out⟩, ⟨by repeat (first | (with_reducible first | exact HB.out | apply qab | apply qaa | apply qac | refine qaf ?_ GE120.out) | exact HB.out)⟩⟩
   case rest =>
    clear HC34
    try clear c1
    try clear p2
    try clear c3
    try clear c4
    try clear c6
    try clear c7
    try clear c9
    try clear c11
    try clear c12
    try clear c12b0
    try clear c12b1
    try clear c12b2
    try clear c39
    try clear c39b0
    try clear c39b1
    try clear c39b2
    try clear c41
    try clear hcz14_0
    try clear hcz14_1
    try clear hcz14_2
    try clear hcz14_3
    try clear hcz16_0
    try clear hcz16_1
    try clear hcz16_2
    try clear hcz16_3
    try clear hcz18_0
    try clear hcz18_1
    try clear hcz18_2
    try clear hcz18_3
    try clear hcz20_0
    try clear hcz20_1
    try clear hcz20_2
    try clear hcz20_3
    try clear hcz22_0
    try clear hcz22_1
    try clear hcz22_2
    try clear hcz22_3
    try clear hcz24_0
    try clear hcz24_1
    try clear hcz24_2
    try clear hcz24_3
    try clear hcz26_0
    try clear hcz26_1
    try clear hcz26_2
    try clear hcz26_3
    try clear hcz28_0
    try clear hcz28_1
    try clear hcz28_2
    try clear hcz28_3
    try clear hcz31_0
    try clear hcz31_1
    try clear hcz31_2
    try clear hcz31_3
    try clear hcz33_0
    try clear hcz33_1
    try clear hcz33_2
    try clear hcz33_3
    try clear hcz36_0
    try clear hcz36_1
    try clear hcz36_2
    try clear hcz36_3
    try clear hcz38_0
    try clear hcz38_1
    try clear hcz38_2
    try clear hcz38_3
    try clear hcz42_0
    try clear hcz42_1
    try clear hcz42_2
    try clear hcz42_3
    try clear hcz43_0
    try clear hcz43_1
    try clear hcz43_2
    try clear hcz43_3
    try clear hcz44_0
    try clear hcz44_1
    try clear hcz44_2
    try clear hcz44_3
    try clear hcz5_0
    try clear hcz5_1
    try clear hcz5_2
    try clear hcz5_3
    try clear hfz14_0
    try clear hfz14_1
    try clear hfz14_2
    try clear hfz14_3
    try clear hfz16_0
    try clear hfz16_1
    try clear hfz16_2
    try clear hfz16_3
    try clear hfz18_0
    try clear hfz18_1
    try clear hfz18_2
    try clear hfz18_3
    try clear hfz20_0
    try clear hfz20_1
    try clear hfz20_2
    try clear hfz20_3
    try clear hfz22_0
    try clear hfz22_1
    try clear hfz22_2
    try clear hfz22_3
    try clear hfz24_0
    try clear hfz24_1
    try clear hfz24_2
    try clear hfz24_3
    try clear hfz26_0
    try clear hfz26_1
    try clear hfz26_2
    try clear hfz26_3
    try clear hfz28_0
    try clear hfz28_1
    try clear hfz28_2
    try clear hfz28_3
    try clear hfz31_0
    try clear hfz31_1
    try clear hfz31_2
    try clear hfz31_3
    try clear hfz33_0
    try clear hfz33_1
    try clear hfz33_2
    try clear hfz33_3
    try clear hfz36_0
    try clear hfz36_1
    try clear hfz36_2
    try clear hfz36_3
    try clear hfz38_0
    try clear hfz38_1
    try clear hfz38_2
    try clear hfz38_3
    try clear hfz42_0
    try clear hfz42_1
    try clear hfz42_2
    try clear hfz42_3
    try clear hfz43_0
    try clear hfz43_1
    try clear hfz43_2
    try clear hfz43_3
    try clear hfz44_0
    try clear hfz44_1
    try clear hfz44_2
    try clear hfz44_3
    try clear hfz5_0
    try clear hfz5_1
    try clear hfz5_2
    try clear hfz5_3
    obtain ⟨kq, x48_33, rfl, HA, HJ33, BK120, HB⟩ := hcut
    cases kq with
    | zero => exact absurd HA.out (by simp [qaw.j0])
    | succ kj33 =>
     have H := HA.out
     clear HA
     simp only [qaw.j0] at H
     by_cases c45 : x48_33 = true
     ·subst c45
      have H1 : (some false) = some r := by rw [if_pos rfl] at H; exact H
      clear H
      have H := H1
      clear H1
      obtain rfl := Option.some.inj H
      go_wp2
      go_ret
      exact ⟨by first | rfl | (simp [qal, qam] <;> rfl) | (simp [*, qal, qam] <;> rfl), by repeat (first | (with_reducible first | exact HB.out | apply qab | apply qaa | apply qac | refine qaf ?_ GE120.out) | exact HB.out)⟩
     ·replace c45 := Bool.eq_false_iff.mpr c45
      subst c45
      have H1 : (qaw.l0 kj33 0 false l0_1 l0_2 l0_3) = some r := by rw [if_neg (show ¬ (false = true) by decide)] at H; exact H
      clear H
      have H := H1
      clear H1
      have H' := Aside0.mk H
      clear H
      go_wp2
      go_loopg [3] kj33 (fun kq v3 w' => ∃ (x3_2 : Int), v3 = .int .i64 x3_2 ∧ Aside0 (qaw.l0 kq x3_2 false l0_1 l0_2 l0_3 = some r) ∧ Aside0 (kq ≤ kj33) ∧ Aside0 (w'.heap[gb120]? = some (.cells #[.bool false, (.slice A0_1 l0_1.length c0_1), (.slice A0_2 l0_2.length c0_2), (.slice A0_3 l0_3.length c0_3)] 56 (0, 0))) ∧ Aside0 (Below w.heap.size w w'))
      case atStart => exact ⟨(0), (by first | rfl | (simp; done) | (simp [*]; done)), H', ⟨Nat.le_refl _⟩, ⟨by (with_reducible repeat (first | refine qan ?_ _ | refine qao ?_ | refine qak ?_ _)); exact BK120.out⟩, ⟨by repeat (first | (with_reducible first | exact HB.out | apply qab | apply qaa | apply qac | refine qaf ?_ GE120.out) | exact HB.out)⟩⟩
      case round =>
       clear H'
       try clear c1
       try clear p2
       try clear c3
       try clear c4
       try clear c6
       try clear c7
       try clear c9
       try clear c11
       try clear c12
       try clear c12b0
       try clear c12b1
       try clear c12b2
       try clear c39
       try clear c39b0
       try clear c39b1
       try clear c39b2
       try clear c41
       try clear c45
       try clear hcz14_0
       try clear hcz14_1
       try clear hcz14_2
       try clear hcz14_3
       try clear hcz16_0
       try clear hcz16_1
       try clear hcz16_2
       try clear hcz16_3
       try clear hcz18_0
       try clear hcz18_1
       try clear hcz18_2
       try clear hcz18_3
       try clear hcz20_0
       try clear hcz20_1
       try clear hcz20_2
       try clear hcz20_3
       try clear hcz22_0
       try clear hcz22_1
       try clear hcz22_2
       try clear hcz22_3
       try clear hcz24_0
       try clear hcz24_1
       try clear hcz24_2
       try clear hcz24_3
       try clear hcz26_0
       try clear hcz26_1
       try clear hcz26_2
       try clear hcz26_3
       try clear hcz28_0
       try clear hcz28_1
       try clear hcz28_2
       try clear hcz28_3
       try clear hcz31_0
       try clear hcz31_1
       try clear hcz31_2
       try clear hcz31_3
       try clear hcz33_0
       try clear hcz33_1
       try clear hcz33_2
       try clear hcz33_3
       try clear hcz36_0
       try clear hcz36_1
       try clear hcz36_2
       try clear hcz36_3
       try clear hcz38_0
       try clear hcz38_1
       try clear hcz38_2
       try clear hcz38_3
       try clear hcz42_0
       try clear hcz42_1
       try clear hcz42_2
       try clear hcz42_3
       try clear hcz43_0
       try clear hcz43_1
       try clear hcz43_2
       try clear hcz43_3
       try clear hcz44_0
       try clear hcz44_1
       try clear hcz44_2
       try clear hcz44_3
       try clear hcz5_0
       try clear hcz5_1
       try clear hcz5_2
       try clear hcz5_3
       try clear hfz14_0
       try clear hfz14_1
       try clear hfz14_2
       try clear hfz14_3
       try clear hfz16_0
       try clear hfz16_1
       try clear hfz16_2
       try clear hfz16_3
       try clear hfz18_0
       try clear hfz18_1
       try clear hfz18_2
       try clear hfz18_3
       try clear hfz20_0
       try clear hfz20_1
       try clear hfz20_2
       try clear hfz20_3
       try clear hfz22_0
       try clear hfz22_1
       try clear hfz22_2
       try clear hfz22_3
       try clear hfz24_0
       try clear hfz24_1
       try clear hfz24_2
       try clear hfz24_3
       try clear hfz26_0
       try clear hfz26_1
       try clear hfz26_2
       try clear hfz26_3
       try clear hfz28_0
       try clear hfz28_1
       try clear hfz28_2
       try clear hfz28_3
       try clear hfz31_0
       try clear hfz31_1
       try clear hfz31_2
       try clear hfz31_3
       try clear hfz33_0
       try clear hfz33_1
       try clear hfz33_2
       try clear hfz33_3
       try clear hfz36_0
       try clear hfz36_1
       try clear hfz36_2
       try clear hfz36_3
       try clear hfz38_0
       try clear hfz38_1
       try clear hfz38_2
       try clear hfz38_3
       try clear hfz42_0
       try clear hfz42_1
       try clear hfz42_2
       try clear hfz42_3
       try clear hfz43_0
       try clear hfz43_1
       try clear hfz43_2
       try clear hfz43_3
       try clear hfz44_0
       try clear hfz44_1
       try clear hfz44_2
       try clear hfz44_3
       try clear hfz5_0
       try clear hfz5_1
       try clear hfz5_2
       try clear hfz5_3
       try clear p2
       obtain ⟨x3_2, rfl, HA, HK2, BK120, HB⟩ := hrel
       cases gk with
       | zero => exact absurd HA.out (by simp [qaw.l0])
       | succ k2 =>
        have H := HA.out
        clear HA
        simp only [qaw.l0] at H
        by_cases c46 : x3_2 < (l0_3.length : Int)
        ·rw [if_pos c46] at H
         have c46b0 : decide (x3_2 < (l0_3.length : Int)) = true := decide_eq_true c46
         clear c46
         by_cases c47 : 0 ≤ x3_2
         ·rw [if_pos c47] at H
          have c47b0 : decide (0 ≤ x3_2) = true := decide_eq_true c47
          clear c47
          replace H := Option.bind_eq_some_iff.mp H
          obtain ⟨t126, A480, H⟩ := H
          replace H : (if t126 = true then (if x3_2 < (l0_2.length : Int) then ((qaK.f ((rdOf ByteArray.empty l0_2 x3_2).size : Int) 1 30).bind fun t128 => (if t128 = true then (if x3_2 > 0 then (if 0 ≤ (wrap64 (x3_2 - 1)) then (if (wrap64 (x3_2 - 1)) < (l0_2.length : Int) then (if ((Op.bytesLess ((rdOf ByteArray.empty l0_2 (wrap64 (x3_2 - 1))).toList) ((rdOf ByteArray.empty l0_2 x3_2).toList)) = true) then (qaw.l0 k2 (wrap64 (x3_2 + 1)) false l0_1 l0_2 l0_3) else (some false)) else (none)) else (none)) else (qaw.l0 k2 (wrap64 (x3_2 + 1)) false l0_1 l0_2 l0_3)) else (some false))) else (none)) else (some false)) = some r := H
          have A48 := Aside0.mk A480
          clear A480
          by_cases c49 : t126 = true
          ·subst c49
           have H1 : (if x3_2 < (l0_2.length : Int) then ((qaK.f ((rdOf ByteArray.empty l0_2 x3_2).size : Int) 1 30).bind fun t128 => (if t128 = true then (if x3_2 > 0 then (if 0 ≤ (wrap64 (x3_2 - 1)) then (if (wrap64 (x3_2 - 1)) < (l0_2.length : Int) then (if ((Op.bytesLess ((rdOf ByteArray.empty l0_2 (wrap64 (x3_2 - 1))).toList) ((rdOf ByteArray.empty l0_2 x3_2).toList)) = true) then (qaw.l0 k2 (wrap64 (x3_2 + 1)) false l0_1 l0_2 l0_3) else (some false)) else (none)) else (none)) else (qaw.l0 k2 (wrap64 (x3_2 + 1)) false l0_1 l0_2 l0_3)) else (some false))) else (none)) = some r := by rw [if_pos rfl] at H; exact H
           clear H
           have H := H1
           clear H1
           by_cases c50 : x3_2 < (l0_2.length : Int)
           ·rw [if_pos c50] at H
            have c50b0 : decide (x3_2 < (l0_2.length : Int)) = true := decide_eq_true c50
            clear c50
            replace H := Option.bind_eq_some_iff.mp H
            obtain ⟨t128, A510, H⟩ := H
            replace H : (if t128 = true then (if x3_2 > 0 then (if 0 ≤ (wrap64 (x3_2 - 1)) then (if (wrap64 (x3_2 - 1)) < (l0_2.length : Int) then (if ((Op.bytesLess ((rdOf ByteArray.empty l0_2 (wrap64 (x3_2 - 1))).toList) ((rdOf ByteArray.empty l0_2 x3_2).toList)) = true) then (qaw.l0 k2 (wrap64 (x3_2 + 1)) false l0_1 l0_2 l0_3) else (some false)) else (none)) else (none)) else (qaw.l0 k2 (wrap64 (x3_2 + 1)) false l0_1 l0_2 l0_3)) else (some false)) = some r := H
            have A51 := Aside0.mk A510
            clear A510
            by_cases c52 : t128 = true
            ·subst c52
             have H1 : (if x3_2 > 0 then (if 0 ≤ (wrap64 (x3_2 - 1)) then (if (wrap64 (x3_2 - 1)) < (l0_2.length : Int) then (if ((Op.bytesLess ((rdOf ByteArray.empty l0_2 (wrap64 (x3_2 - 1))).toList) ((rdOf ByteArray.empty l0_2 x3_2).toList)) = true) then (qaw.l0 k2 (wrap64 (x3_2 + 1)) false l0_1 l0_2 l0_3) else (some false)) else (none)) else (none)) else (qaw.l0 k2 (wrap64 (x3_2 + 1)) false l0_1 l0_2 l0_3)) = some r := by rw [if_pos rfl] at H; exact H
             clear H
             have H := H1
             clear H1
             by_cases c53 : x3_2 > 0
             ·rw [if_pos c53] at H
              have c53b0 : decide (0 < x3_2) = true := decide_eq_true c53
              clear c53
              obtain ⟨ji54, hji54⟩ : ∃ j_ : Int, (wrap64 (x3_2 - 1)) = j_ := ⟨_, rfl⟩
              replace H : (if 0 ≤ (ji54) then (if (ji54) < (l0_2.length : Int) then (if ((Op.bytesLess ((rdOf ByteArray.empty l0_2 (ji54)).toList) ((rdOf ByteArray.empty l0_2 x3_2).toList)) = true) then (qaw.l0 k2 (wrap64 (x3_2 + 1)) false l0_1 l0_2 l0_3) else (some false)) else (none)) else (none)) = some r := by first | (rw [hji54] at H; exact H) | (simp only [hji54] at H ⊢; exact H)
              (try rw [hji54] at A48)
              (try rw [hji54] at A51)
              have hji54w : (IntKind.i64.wrap (x3_2 - 1)) = ji54 := (qaS _).trans hji54
              by_cases c55 : 0 ≤ (ji54)
              ·rw [if_pos c55] at H
               have c55b0 : decide (0 ≤ (ji54)) = true := decide_eq_true c55
               clear c55
               by_cases c56 : (ji54) < (l0_2.length : Int)
               ·rw [if_pos c56] at H
                have c56b0 : decide ((ji54) < (l0_2.length : Int)) = true := decide_eq_true c56
                clear c56
                by_cases c57 : ((Op.bytesLess ((rdOf ByteArray.empty l0_2 (ji54)).toList) ((rdOf ByteArray.empty l0_2 x3_2).toList)) = true)
                ·rw [if_pos c57] at H
                 have c57b0 : (Op.bytesLess ((rdOf ByteArray.empty l0_2 (ji54)).toList) ((rdOf ByteArray.empty l0_2 x3_2).toList)) = true := c57
                 clear c57
                 have H' := Aside0.mk H
                 clear H
                 have hcz58_0 : wr.cell? ⟨gb120, 0, none⟩ = some (.bool false) := (qae BK120.out 0).trans rfl
                 have hcz58_1 : wr.cell? ⟨gb120, 1, none⟩ = some (.slice A0_1 l0_1.length c0_1) := (qae BK120.out 1).trans rfl
                 have hcz58_2 : wr.cell? ⟨gb120, 2, none⟩ = some (.slice A0_2 l0_2.length c0_2) := (qae BK120.out 2).trans rfl
                 have hcz58_3 : wr.cell? ⟨gb120, 3, none⟩ = some (.slice A0_3 l0_3.length c0_3) := (qae BK120.out 3).trans rfl
                 have hfz58_0 := qad BK120.out 0
                 have hfz58_1 := qad BK120.out 1
                 have hfz58_2 := qad BK120.out 2
                 have hfz58_3 := qad BK120.out 3
                 try go_wp2
                 have n0_ := Aside0.mk (qao BK120.out)
                 have n1_ := Aside0.mk (qac HB.out)
                 clear BK120
                 clear HB
                 have BK120 := n0_
                 have HB := n1_
                 clear n0_ n1_
                 have p125 : 0 ≤ (x3_2 : Int) := of_decide_eq_true (by first | (with_reducible assumption) | assumption)
                 have q125 : x3_2 < (l0_3.length : Int) := of_decide_eq_true (by first | (with_reducible assumption) | assumption)
                 obtain ⟨ad125, e125, hx125_0⟩ := Kd.qbS HR0_3.out x3_2 p125 q125
                 have hw125_0 := hx125_0
                 cases e125
                 replace hx125_0 := (HB.out.cell (World.block_lt_of_cell? w _ hx125_0)).trans hx125_0
                 replace p125 := eq_true p125
                 replace q125 := eq_true q125
                 have p127 : 0 ≤ (x3_2 : Int) := of_decide_eq_true (by first | (with_reducible assumption) | assumption)
                 have q127 : x3_2 < (l0_2.length : Int) := of_decide_eq_true (by first | (with_reducible assumption) | assumption)
                 obtain ⟨ad127, e127, hx127_0⟩ := Kd.qbw HR0_2.out x3_2 p127 q127
                 have hw127_0 := hx127_0
                 cases e127
                 replace hx127_0 := (HB.out.cell (World.block_lt_of_cell? w _ hx127_0)).trans hx127_0
                 replace p127 := eq_true p127
                 replace q127 := eq_true q127
                 have p129 : 0 ≤ ((ji54) : Int) := of_decide_eq_true (by first | (with_reducible assumption) | assumption)
                 have q129 : (ji54) < (l0_2.length : Int) := of_decide_eq_true (by first | (with_reducible assumption) | assumption)
                 obtain ⟨ad129, e129, hx129_0⟩ := Kd.qbw HR0_2.out (ji54) p129 q129
                 have hw129_0 := hx129_0
                 obtain rfl : ad127 = ad129 := (by injection e129)
                 replace hx129_0 := (HB.out.cell (World.block_lt_of_cell? w _ hx129_0)).trans hx129_0
                 replace p129 := eq_true p129
                 replace q129 := eq_true q129
                 have p130 : 0 ≤ (x3_2 : Int) := of_decide_eq_true (by first | (with_reducible assumption) | assumption)
                 have q130 : x3_2 < (l0_2.length : Int) := of_decide_eq_true (by first | (with_reducible assumption) | assumption)
                 obtain ⟨ad130, e130, hx130_0⟩ := Kd.qbw HR0_2.out x3_2 p130 q130
                 have hw130_0 := hx130_0
                 obtain rfl : ad127 = ad130 := (by injection e130)
                 replace hx130_0 := (HB.out.cell (World.block_lt_of_cell? w _ hx130_0)).trans hx130_0
                 replace p130 := eq_true p130
                 replace q130 := eq_true q130
                 refine qbn (by kernel_rfl) (by kernel_rfl) ?_
                 have hL0_ := Aside0.mk (show wr.drew.cell? ⟨gb120, 0, none⟩ = some (.bool false) from (qae BK120.out 0).trans rfl)
                 have hL1_ := Aside0.mk (show wr.drew.cell? ⟨gb120, 1, none⟩ = some (.slice A0_1 l0_1.length c0_1) from (qae BK120.out 1).trans rfl)
                 have hL2_ := Aside0.mk (show wr.drew.cell? ⟨gb120, 2, none⟩ = some (.slice (some ad127) l0_2.length c0_2) from (qae BK120.out 2).trans rfl)
                 have hL3_ := Aside0.mk (show wr.drew.cell? ⟨gb120, 3, none⟩ = some (.slice (some ad125) l0_3.length c0_3) from (qae BK120.out 3).trans rfl)
                 have hL4_ := Aside0.mk (show wr.drew.cell? (ad125.add (x3_2).toNat) = some (.int .i64 (rd l0_3 x3_2)) from ((HB.out.cell (World.block_lt_of_cell? w _ hw125_0)).trans hw125_0))
                 have hL5_ := Aside0.mk (show wr.drew.cell? (ad127.add (x3_2).toNat) = some (.string (rdOf ByteArray.empty l0_2 x3_2)) from ((HB.out.cell (World.block_lt_of_cell? w _ hw127_0)).trans hw127_0))
                 have hL6_ := Aside0.mk (show wr.drew.cell? (ad127.add ((ji54)).toNat) = some (.string (rdOf ByteArray.empty l0_2 (ji54))) from ((HB.out.cell (World.block_lt_of_cell? w _ hw129_0)).trans hw129_0))
                 have hL7_ := Aside0.mk (show wr.drew.cell? (ad127.add (x3_2).toNat) = some (.string (rdOf ByteArray.empty l0_2 x3_2)) from ((HB.out.cell (World.block_lt_of_cell? w _ hw130_0)).trans hw130_0))
                 generalize wr.drew = w59b at BK120 HB hx125_0 hx127_0 hx129_0 hx130_0 hL0_ hL1_ hL2_ hL3_ hL4_ hL5_ hL6_ hL7_ ⊢
                 clear hx125_0 hx127_0 hx129_0 hx130_0
                 have hL0 := fun (p_ : Later w59b) => Later.cell p_ hL0_.out
                 have hL1 := fun (p_ : Later w59b) => Later.cell p_ hL1_.out
                 have hL2 := fun (p_ : Later w59b) => Later.cell p_ hL2_.out
                 have hL3 := fun (p_ : Later w59b) => Later.cell p_ hL3_.out
                 have hL4 := fun (p_ : Later w59b) => Later.cell p_ hL4_.out
                 have hL5 := fun (p_ : Later w59b) => Later.cell p_ hL5_.out
                 have hL6 := fun (p_ : Later w59b) => Later.cell p_ hL6_.out
                 have hL7 := fun (p_ : Later w59b) => Later.cell p_ hL7_.out
                 clear hL0_ hL1_ hL2_ hL3_ hL4_ hL5_ hL6_ hL7_
                 repeat (first | go_big_quiet_step ((first | (go_at_call 69; with_reducible exact Calls.qbh (qaK.calls (rd l0_3 x3_2) 0 49 true _ A48.out)) | (go_at_call 69; with_reducible exact Calls.qbh (qaK.calls ((rdOf ByteArray.empty l0_2 x3_2).size : Int) 1 30 true _ A51.out)) | (go_at_call 69; exact Calls.qbh (qaK.calls (rd l0_3 x3_2) 0 49 true _ A48.out)) | (go_at_call 69; exact Calls.qbh (qaK.calls ((rdOf ByteArray.empty l0_2 x3_2).size : Int) 1 30 true _ A51.out)))) | quiet_step ((first | (go_at_call 69; with_reducible exact Calls.qbh (qaK.calls (rd l0_3 x3_2) 0 49 true _ A48.out)) | (go_at_call 69; with_reducible exact Calls.qbh (qaK.calls ((rdOf ByteArray.empty l0_2 x3_2).size : Int) 1 30 true _ A51.out)) | (go_at_call 69; exact Calls.qbh (qaK.calls (rd l0_3 x3_2) 0 49 true _ A48.out)) | (go_at_call 69; exact Calls.qbh (qaK.calls ((rdOf ByteArray.empty l0_2 x3_2).size : Int) 1 30 true _ A51.out)))))
                 refine wpQuiet_nil ?_
                 rintro w59 ⟨⟨wq_, hbL⟩, hq_⟩
                 have hq2_ : w59 = wq_ := hq_
                 clear hq_
                 subst hq2_
                 clear hL0 hL1 hL2 hL3 hL4 hL5 hL6 hL7
                 have nBK120_ := Aside0.mk ((hbL.block _ (qbt BK120.out)).trans BK120.out)
                 have nHB_ := Aside0.mk (qai HB.out hbL)
                 clear BK120
                 clear HB
                 have BK120 := nBK120_
                 have HB := nHB_
                 clear nBK120_
                 clear nHB_
                 clear hbL
                 try go_wp2
                 go_roundg k2
                 case measure => have := HJ33.out; have := HK2.out; omega
                 case rel => exact ⟨(wrap64 (x3_2 + 1)), (by first | rfl | (simp; done) | (simp [*]; done)), H', ⟨by have := HJ33.out; have := HK2.out; omega⟩, ⟨by (with_reducible repeat (first | refine qan ?_ _ | refine qao ?_ | refine qak ?_ _)); exact BK120.out⟩, ⟨by repeat (first | (with_reducible first | exact HB.out | apply qab | apply qaa | apply qac | refine qaf ?_ GE120.out) | exact HB.out)⟩⟩
                ·rw [if_neg c57] at H
                 have c57b0 : (Op.bytesLess ((rdOf ByteArray.empty l0_2 (ji54)).toList) ((rdOf ByteArray.empty l0_2 x3_2).toList)) = false := by simpa using c57
                 clear c57
                 obtain rfl := Option.some.inj H
                 have hcz60_0 : wr.cell? ⟨gb120, 0, none⟩ = some (.bool false) := (qae BK120.out 0).trans rfl
                 have hcz60_1 : wr.cell? ⟨gb120, 1, none⟩ = some (.slice A0_1 l0_1.length c0_1) := (qae BK120.out 1).trans rfl
                 have hcz60_2 : wr.cell? ⟨gb120, 2, none⟩ = some (.slice A0_2 l0_2.length c0_2) := (qae BK120.out 2).trans rfl
                 have hcz60_3 : wr.cell? ⟨gb120, 3, none⟩ = some (.slice A0_3 l0_3.length c0_3) := (qae BK120.out 3).trans rfl
                 have hfz60_0 := qad BK120.out 0
                 have hfz60_1 := qad BK120.out 1
                 have hfz60_2 := qad BK120.out 2
                 have hfz60_3 := qad BK120.out 3
                 try go_wp2
                 have n0_ := Aside0.mk (qao BK120.out)
                 have n1_ := Aside0.mk (qac HB.out)
                 clear BK120
                 clear HB
                 have BK120 := n0_
                 have HB := n1_
                 clear n0_ n1_
                 have p125 : 0 ≤ (x3_2 : Int) := of_decide_eq_true (by first | (with_reducible assumption) | assumption)
                 have q125 : x3_2 < (l0_3.length : Int) := of_decide_eq_true (by first | (with_reducible assumption) | assumption)
                 obtain ⟨ad125, e125, hx125_0⟩ := Kd.qbS HR0_3.out x3_2 p125 q125
                 have hw125_0 := hx125_0
                 cases e125
                 replace hx125_0 := (HB.out.cell (World.block_lt_of_cell? w _ hx125_0)).trans hx125_0
                 replace p125 := eq_true p125
                 replace q125 := eq_true q125
                 have p127 : 0 ≤ (x3_2 : Int) := of_decide_eq_true (by first | (with_reducible assumption) | assumption)
                 have q127 : x3_2 < (l0_2.length : Int) := of_decide_eq_true (by first | (with_reducible assumption) | assumption)
                 obtain ⟨ad127, e127, hx127_0⟩ := Kd.qbw HR0_2.out x3_2 p127 q127
                 have hw127_0 := hx127_0
                 cases e127
                 replace hx127_0 := (HB.out.cell (World.block_lt_of_cell? w _ hx127_0)).trans hx127_0
                 replace p127 := eq_true p127
                 replace q127 := eq_true q127
                 have p129 : 0 ≤ ((ji54) : Int) := of_decide_eq_true (by first | (with_reducible assumption) | assumption)
                 have q129 : (ji54) < (l0_2.length : Int) := of_decide_eq_true (by first | (with_reducible assumption) | assumption)
                 obtain ⟨ad129, e129, hx129_0⟩ := Kd.qbw HR0_2.out (ji54) p129 q129
                 have hw129_0 := hx129_0
                 obtain rfl : ad127 = ad129 := (by injection e129)
                 replace hx129_0 := (HB.out.cell (World.block_lt_of_cell? w _ hx129_0)).trans hx129_0
                 replace p129 := eq_true p129
                 replace q129 := eq_true q129
                 have p130 : 0 ≤ (x3_2 : Int) := of_decide_eq_true (by first | (with_reducible assumption) | assumption)
                 have q130 : x3_2 < (l0_2.length : Int) := of_decide_eq_true (by first | (with_reducible assumption) | assumption)
                 obtain ⟨ad130, e130, hx130_0⟩ := Kd.qbw HR0_2.out x3_2 p130 q130
                 have hw130_0 := hx130_0
                 obtain rfl : ad127 = ad130 := (by injection e130)
                 replace hx130_0 := (HB.out.cell (World.block_lt_of_cell? w _ hx130_0)).trans hx130_0
                 replace p130 := eq_true p130
                 replace q130 := eq_true q130
                 refine qbn (by kernel_rfl) (by kernel_rfl) ?_
                 have hL0_ := Aside0.mk (show wr.drew.cell? ⟨gb120, 0, none⟩ = some (.bool false) from (qae BK120.out 0).trans rfl)
                 have hL1_ := Aside0.mk (show wr.drew.cell? ⟨gb120, 1, none⟩ = some (.slice A0_1 l0_1.length c0_1) from (qae BK120.out 1).trans rfl)
                 have hL2_ := Aside0.mk (show wr.drew.cell? ⟨gb120, 2, none⟩ = some (.slice (some ad127) l0_2.length c0_2) from (qae BK120.out 2).trans rfl)
                 have hL3_ := Aside0.mk (show wr.drew.cell? ⟨gb120, 3, none⟩ = some (.slice (some ad125) l0_3.length c0_3) from (qae BK120.out 3).trans rfl)
                 have hL4_ := Aside0.mk (show wr.drew.cell? (ad125.add (x3_2).toNat) = some (.int .i64 (rd l0_3 x3_2)) from ((HB.out.cell (World.block_lt_of_cell? w _ hw125_0)).trans hw125_0))
                 have hL5_ := Aside0.mk (show wr.drew.cell? (ad127.add (x3_2).toNat) = some (.string (rdOf ByteArray.empty l0_2 x3_2)) from ((HB.out.cell (World.block_lt_of_cell? w _ hw127_0)).trans hw127_0))
                 have hL6_ := Aside0.mk (show wr.drew.cell? (ad127.add ((ji54)).toNat) = some (.string (rdOf ByteArray.empty l0_2 (ji54))) from ((HB.out.cell (World.block_lt_of_cell? w _ hw129_0)).trans hw129_0))
                 have hL7_ := Aside0.mk (show wr.drew.cell? (ad127.add (x3_2).toNat) = some (.string (rdOf ByteArray.empty l0_2 x3_2)) from ((HB.out.cell (World.block_lt_of_cell? w _ hw130_0)).trans hw130_0))
                 generalize wr.drew = w61b at BK120 HB hx125_0 hx127_0 hx129_0 hx130_0 hL0_ hL1_ hL2_ hL3_ hL4_ hL5_ hL6_ hL7_ ⊢
                 clear hx125_0 hx127_0 hx129_0 hx130_0
                 have hL0 := fun (p_ : Later w61b) => Later.cell p_ hL0_.out
                 have hL1 := fun (p_ : Later w61b) => Later.cell p_ hL1_.out
                 have hL2 := fun (p_ : Later w61b) => Later.cell p_ hL2_.out
                 have hL3 := fun (p_ : Later w61b) => Later.cell p_ hL3_.out
                 have hL4 := fun (p_ : Later w61b) => Later.cell p_ hL4_.out
                 have hL5 := fun (p_ : Later w61b) => Later.cell p_ hL5_.out
                 have hL6 := fun (p_ : Later w61b) => Later.cell p_ hL6_.out
                 have hL7 := fun (p_ : Later w61b) => Later.cell p_ hL7_.out
                 clear hL0_ hL1_ hL2_ hL3_ hL4_ hL5_ hL6_ hL7_
                 repeat (first | go_big_quiet_step ((first | (go_at_call 69; with_reducible exact Calls.qbh (qaK.calls (rd l0_3 x3_2) 0 49 true _ A48.out)) | (go_at_call 69; with_reducible exact Calls.qbh (qaK.calls ((rdOf ByteArray.empty l0_2 x3_2).size : Int) 1 30 true _ A51.out)) | (go_at_call 69; exact Calls.qbh (qaK.calls (rd l0_3 x3_2) 0 49 true _ A48.out)) | (go_at_call 69; exact Calls.qbh (qaK.calls ((rdOf ByteArray.empty l0_2 x3_2).size : Int) 1 30 true _ A51.out)))) | quiet_step ((first | (go_at_call 69; with_reducible exact Calls.qbh (qaK.calls (rd l0_3 x3_2) 0 49 true _ A48.out)) | (go_at_call 69; with_reducible exact Calls.qbh (qaK.calls ((rdOf ByteArray.empty l0_2 x3_2).size : Int) 1 30 true _ A51.out)) | (go_at_call 69; exact Calls.qbh (qaK.calls (rd l0_3 x3_2) 0 49 true _ A48.out)) | (go_at_call 69; exact Calls.qbh (qaK.calls ((rdOf ByteArray.empty l0_2 x3_2).size : Int) 1 30 true _ A51.out)))))
                 refine wpQuiet_nil ?_
                 rintro w61 ⟨⟨wq_, hbL⟩, hq_⟩
                 have hq2_ : w61 = wq_ := hq_
                 clear hq_
                 subst hq2_
                 clear hL0 hL1 hL2 hL3 hL4 hL5 hL6 hL7
                 have nBK120_ := Aside0.mk ((hbL.block _ (qbt BK120.out)).trans BK120.out)
                 have nHB_ := Aside0.mk (qai HB.out hbL)
                 clear BK120
                 clear HB
                 have BK120 := nBK120_
                 have HB := nHB_
                 clear nBK120_
                 clear nHB_
                 clear hbL
                 try go_wp2
                 go_ret
                 exact ⟨by first | rfl | (simp [qal, qam] <;> rfl) | (simp only [← hji54]; first | rfl | (simp [qal, qam] <;> rfl)) | (simp [*, qal, qam] <;> rfl), by repeat (first | (with_reducible first | exact HB.out | apply qab | apply qaa | apply qac | refine qaf ?_ GE120.out) | exact HB.out)⟩
               ·rw [if_neg c56] at H
                exact absurd H (by simp)
              ·rw [if_neg c55] at H
               exact absurd H (by simp)
             ·rw [if_neg c53] at H
              have c53b0 : decide (0 < x3_2) = false := decide_eq_false c53
              clear c53
              have H' := Aside0.mk H
              clear H
              have hcz62_0 : wr.cell? ⟨gb120, 0, none⟩ = some (.bool false) := (qae BK120.out 0).trans rfl
              have hcz62_1 : wr.cell? ⟨gb120, 1, none⟩ = some (.slice A0_1 l0_1.length c0_1) := (qae BK120.out 1).trans rfl
              have hcz62_2 : wr.cell? ⟨gb120, 2, none⟩ = some (.slice A0_2 l0_2.length c0_2) := (qae BK120.out 2).trans rfl
              have hcz62_3 : wr.cell? ⟨gb120, 3, none⟩ = some (.slice A0_3 l0_3.length c0_3) := (qae BK120.out 3).trans rfl
              have hfz62_0 := qad BK120.out 0
              have hfz62_1 := qad BK120.out 1
              have hfz62_2 := qad BK120.out 2
              have hfz62_3 := qad BK120.out 3
              try go_wp2
              have n0_ := Aside0.mk (qao BK120.out)
              have n1_ := Aside0.mk (qac HB.out)
              clear BK120
              clear HB
              have BK120 := n0_
              have HB := n1_
              clear n0_ n1_
              have p125 : 0 ≤ (x3_2 : Int) := of_decide_eq_true (by first | (with_reducible assumption) | assumption)
              have q125 : x3_2 < (l0_3.length : Int) := of_decide_eq_true (by first | (with_reducible assumption) | assumption)
              obtain ⟨ad125, e125, hx125_0⟩ := Kd.qbS HR0_3.out x3_2 p125 q125
              have hw125_0 := hx125_0
              cases e125
              replace hx125_0 := (HB.out.cell (World.block_lt_of_cell? w _ hx125_0)).trans hx125_0
              replace p125 := eq_true p125
              replace q125 := eq_true q125
              have p127 : 0 ≤ (x3_2 : Int) := of_decide_eq_true (by first | (with_reducible assumption) | assumption)
              have q127 : x3_2 < (l0_2.length : Int) := of_decide_eq_true (by first | (with_reducible assumption) | assumption)
              obtain ⟨ad127, e127, hx127_0⟩ := Kd.qbw HR0_2.out x3_2 p127 q127
              have hw127_0 := hx127_0
              cases e127
              replace hx127_0 := (HB.out.cell (World.block_lt_of_cell? w _ hx127_0)).trans hx127_0
              replace p127 := eq_true p127
              replace q127 := eq_true q127
              refine qbn (by kernel_rfl) (by kernel_rfl) ?_
              have hL0_ := Aside0.mk (show wr.drew.cell? ⟨gb120, 0, none⟩ = some (.bool false) from (qae BK120.out 0).trans rfl)
              have hL1_ := Aside0.mk (show wr.drew.cell? ⟨gb120, 1, none⟩ = some (.slice A0_1 l0_1.length c0_1) from (qae BK120.out 1).trans rfl)
              have hL2_ := Aside0.mk (show wr.drew.cell? ⟨gb120, 2, none⟩ = some (.slice (some ad127) l0_2.length c0_2) from (qae BK120.out 2).trans rfl)
              have hL3_ := Aside0.mk (show wr.drew.cell? ⟨gb120, 3, none⟩ = some (.slice (some ad125) l0_3.length c0_3) from (qae BK120.out 3).trans rfl)
              have hL4_ := Aside0.mk (show wr.drew.cell? (ad125.add (x3_2).toNat) = some (.int .i64 (rd l0_3 x3_2)) from ((HB.out.cell (World.block_lt_of_cell? w _ hw125_0)).trans hw125_0))
              have hL5_ := Aside0.mk (show wr.drew.cell? (ad127.add (x3_2).toNat) = some (.string (rdOf ByteArray.empty l0_2 x3_2)) from ((HB.out.cell (World.block_lt_of_cell? w _ hw127_0)).trans hw127_0))
              generalize wr.drew = w63b at BK120 HB hx125_0 hx127_0 hL0_ hL1_ hL2_ hL3_ hL4_ hL5_ ⊢
              clear hx125_0 hx127_0
              have hL0 := fun (p_ : Later w63b) => Later.cell p_ hL0_.out
              have hL1 := fun (p_ : Later w63b) => Later.cell p_ hL1_.out
              have hL2 := fun (p_ : Later w63b) => Later.cell p_ hL2_.out
              have hL3 := fun (p_ : Later w63b) => Later.cell p_ hL3_.out
              have hL4 := fun (p_ : Later w63b) => Later.cell p_ hL4_.out
              have hL5 := fun (p_ : Later w63b) => Later.cell p_ hL5_.out
              clear hL0_ hL1_ hL2_ hL3_ hL4_ hL5_
              repeat (first | go_big_quiet_step ((first | (go_at_call 69; with_reducible exact Calls.qbh (qaK.calls (rd l0_3 x3_2) 0 49 true _ A48.out)) | (go_at_call 69; with_reducible exact Calls.qbh (qaK.calls ((rdOf ByteArray.empty l0_2 x3_2).size : Int) 1 30 true _ A51.out)) | (go_at_call 69; exact Calls.qbh (qaK.calls (rd l0_3 x3_2) 0 49 true _ A48.out)) | (go_at_call 69; exact Calls.qbh (qaK.calls ((rdOf ByteArray.empty l0_2 x3_2).size : Int) 1 30 true _ A51.out)))) | quiet_step ((first | (go_at_call 69; with_reducible exact Calls.qbh (qaK.calls (rd l0_3 x3_2) 0 49 true _ A48.out)) | (go_at_call 69; with_reducible exact Calls.qbh (qaK.calls ((rdOf ByteArray.empty l0_2 x3_2).size : Int) 1 30 true _ A51.out)) | (go_at_call 69; exact Calls.qbh (qaK.calls (rd l0_3 x3_2) 0 49 true _ A48.out)) | (go_at_call 69; exact Calls.qbh (qaK.calls ((rdOf ByteArray.empty l0_2 x3_2).size : Int) 1 30 true _ A51.out)))))
              refine wpQuiet_nil ?_
              rintro w63 ⟨⟨wq_, hbL⟩, hq_⟩
              have hq2_ : w63 = wq_ := hq_
              clear hq_
              subst hq2_
              clear hL0 hL1 hL2 hL3 hL4 hL5
              have nBK120_ := Aside0.mk ((hbL.block _ (qbt BK120.out)).trans BK120.out)
              have nHB_ := Aside0.mk (qai HB.out hbL)
              clear BK120
              clear HB
              have BK120 := nBK120_
              have HB := nHB_
              clear nBK120_
              clear nHB_
              clear hbL
              try go_wp2
              go_roundg k2
              case measure => have := HJ33.out; have := HK2.out; omega
              case rel => exact ⟨(wrap64 (x3_2 + 1)), (by first | rfl | (simp; done) | (simp [*]; done)), H', ⟨by have := HJ33.out; have := HK2.out; omega⟩, ⟨by (with_reducible repeat (first | refine qan ?_ _ | refine qao ?_ | refine qak ?_ _)); exact BK120.out⟩, ⟨by repeat (first | (with_reducible first | exact HB.out | apply qab | apply qaa | apply qac | refine qaf ?_ GE120.out) | exact HB.out)⟩⟩
            ·replace c52 := Bool.eq_false_iff.mpr c52
             subst c52
             have H1 : (some false) = some r := by rw [if_neg (show ¬ (false = true) by decide)] at H; exact H
             clear H
             have H := H1
             clear H1
             obtain rfl := Option.some.inj H
             have hcz64_0 : wr.cell? ⟨gb120, 0, none⟩ = some (.bool false) := (qae BK120.out 0).trans rfl
             have hcz64_1 : wr.cell? ⟨gb120, 1, none⟩ = some (.slice A0_1 l0_1.length c0_1) := (qae BK120.out 1).trans rfl
             have hcz64_2 : wr.cell? ⟨gb120, 2, none⟩ = some (.slice A0_2 l0_2.length c0_2) := (qae BK120.out 2).trans rfl
             have hcz64_3 : wr.cell? ⟨gb120, 3, none⟩ = some (.slice A0_3 l0_3.length c0_3) := (qae BK120.out 3).trans rfl
             have hfz64_0 := qad BK120.out 0
             have hfz64_1 := qad BK120.out 1
             have hfz64_2 := qad BK120.out 2
             have hfz64_3 := qad BK120.out 3
             try go_wp2
             have n0_ := Aside0.mk (qao BK120.out)
             have n1_ := Aside0.mk (qac HB.out)
             clear BK120
             clear HB
             have BK120 := n0_
             have HB := n1_
             clear n0_ n1_
             have p125 : 0 ≤ (x3_2 : Int) := of_decide_eq_true (by first | (with_reducible assumption) | assumption)
             have q125 : x3_2 < (l0_3.length : Int) := of_decide_eq_true (by first | (with_reducible assumption) | assumption)
             obtain ⟨ad125, e125, hx125_0⟩ := Kd.qbS HR0_3.out x3_2 p125 q125
             have hw125_0 := hx125_0
             cases e125
             replace hx125_0 := (HB.out.cell (World.block_lt_of_cell? w _ hx125_0)).trans hx125_0
             replace p125 := eq_true p125
             replace q125 := eq_true q125
             have p127 : 0 ≤ (x3_2 : Int) := of_decide_eq_true (by first | (with_reducible assumption) | assumption)
             have q127 : x3_2 < (l0_2.length : Int) := of_decide_eq_true (by first | (with_reducible assumption) | assumption)
             obtain ⟨ad127, e127, hx127_0⟩ := Kd.qbw HR0_2.out x3_2 p127 q127
             have hw127_0 := hx127_0
             cases e127
             replace hx127_0 := (HB.out.cell (World.block_lt_of_cell? w _ hx127_0)).trans hx127_0
             replace p127 := eq_true p127
             replace q127 := eq_true q127
             refine qbn (by kernel_rfl) (by kernel_rfl) ?_
             have hL0_ := Aside0.mk (show wr.drew.cell? ⟨gb120, 0, none⟩ = some (.bool false) from (qae BK120.out 0).trans rfl)
             have hL1_ := Aside0.mk (show wr.drew.cell? ⟨gb120, 1, none⟩ = some (.slice A0_1 l0_1.length c0_1) from (qae BK120.out 1).trans rfl)
             have hL2_ := Aside0.mk (show wr.drew.cell? ⟨gb120, 2, none⟩ = some (.slice (some ad127) l0_2.length c0_2) from (qae BK120.out 2).trans rfl)
             have hL3_ := Aside0.mk (show wr.drew.cell? ⟨gb120, 3, none⟩ = some (.slice (some ad125) l0_3.length c0_3) from (qae BK120.out 3).trans rfl)
             have hL4_ := Aside0.mk (show wr.drew.cell? (ad125.add (x3_2).toNat) = some (.int .i64 (rd l0_3 x3_2)) from ((HB.out.cell (World.block_lt_of_cell? w _ hw125_0)).trans hw125_0))
             have hL5_ := Aside0.mk (show wr.drew.cell? (ad127.add (x3_2).toNat) = some (.string (rdOf ByteArray.empty l0_2 x3_2)) from ((HB.out.cell (World.block_lt_of_cell? w _ hw127_0)).trans hw127_0))
             generalize wr.drew = w65b at BK120 HB hx125_0 hx127_0 hL0_ hL1_ hL2_ hL3_ hL4_ hL5_ ⊢
             clear hx125_0 hx127_0
             have hL0 := fun (p_ : Later w65b) => Later.cell p_ hL0_.out
             have hL1 := fun (p_ : Later w65b) => Later.cell p_ hL1_.out
             have hL2 := fun (p_ : Later w65b) => Later.cell p_ hL2_.out
             have hL3 := fun (p_ : Later w65b) => Later.cell p_ hL3_.out
             have hL4 := fun (p_ : Later w65b) => Later.cell p_ hL4_.out
             have hL5 := fun (p_ : Later w65b) => Later.cell p_ hL5_.out
             clear hL0_ hL1_ hL2_ hL3_ hL4_ hL5_
             repeat (first | go_big_quiet_step ((first | (go_at_call 69; with_reducible exact Calls.qbh (qaK.calls (rd l0_3 x3_2) 0 49 true _ A48.out)) | (go_at_call 69; with_reducible exact Calls.qbh (qaK.calls ((rdOf ByteArray.empty l0_2 x3_2).size : Int) 1 30 false _ A51.out)) | (go_at_call 69; exact Calls.qbh (qaK.calls (rd l0_3 x3_2) 0 49 true _ A48.out)) | (go_at_call 69; exact Calls.qbh (qaK.calls ((rdOf ByteArray.empty l0_2 x3_2).size : Int) 1 30 false _ A51.out)))) | quiet_step ((first | (go_at_call 69; with_reducible exact Calls.qbh (qaK.calls (rd l0_3 x3_2) 0 49 true _ A48.out)) | (go_at_call 69; with_reducible exact Calls.qbh (qaK.calls ((rdOf ByteArray.empty l0_2 x3_2).size : Int) 1 30 false _ A51.out)) | (go_at_call 69; exact Calls.qbh (qaK.calls (rd l0_3 x3_2) 0 49 true _ A48.out)) | (go_at_call 69; exact Calls.qbh (qaK.calls ((rdOf ByteArray.empty l0_2 x3_2).size : Int) 1 30 false _ A51.out)))))
             refine wpQuiet_nil ?_
             rintro w65 ⟨⟨wq_, hbL⟩, hq_⟩
             have hq2_ : w65 = wq_ := hq_
             clear hq_
             subst hq2_
             clear hL0 hL1 hL2 hL3 hL4 hL5
             have nBK120_ := Aside0.mk ((hbL.block _ (qbt BK120.out)).trans BK120.out)
             have nHB_ := Aside0.mk (qai HB.out hbL)
             clear BK120
             clear HB
             have BK120 := nBK120_
             have HB := nHB_
             clear nBK120_
             clear nHB_
             clear hbL
             try go_wp2
             go_ret
             exact ⟨by first | rfl | (simp [qal, qam] <;> rfl) | (simp [*, qal, qam] <;> rfl), by repeat (first | (with_reducible first | exact HB.out | apply qab | apply qaa | apply qac | refine qaf ?_ GE120.out) | exact HB.out)⟩
           ·rw [if_neg c50] at H
            exact absurd H (by simp)
          ·replace c49 := Bool.eq_false_iff.mpr c49
           subst c49
           have H1 : (some false) = some r := by rw [if_neg (show ¬ (false = true) by decide)] at H; exact H
           clear H
           have H := H1
           clear H1
           obtain rfl := Option.some.inj H
           have hcz66_0 : wr.cell? ⟨gb120, 0, none⟩ = some (.bool false) := (qae BK120.out 0).trans rfl
           have hcz66_1 : wr.cell? ⟨gb120, 1, none⟩ = some (.slice A0_1 l0_1.length c0_1) := (qae BK120.out 1).trans rfl
           have hcz66_2 : wr.cell? ⟨gb120, 2, none⟩ = some (.slice A0_2 l0_2.length c0_2) := (qae BK120.out 2).trans rfl
           have hcz66_3 : wr.cell? ⟨gb120, 3, none⟩ = some (.slice A0_3 l0_3.length c0_3) := (qae BK120.out 3).trans rfl
           have hfz66_0 := qad BK120.out 0
           have hfz66_1 := qad BK120.out 1
           have hfz66_2 := qad BK120.out 2
           have hfz66_3 := qad BK120.out 3
           try go_wp2
           have n0_ := Aside0.mk (qao BK120.out)
           have n1_ := Aside0.mk (qac HB.out)
           clear BK120
           clear HB
           have BK120 := n0_
           have HB := n1_
           clear n0_ n1_
           have p125 : 0 ≤ (x3_2 : Int) := of_decide_eq_true (by first | (with_reducible assumption) | assumption)
           have q125 : x3_2 < (l0_3.length : Int) := of_decide_eq_true (by first | (with_reducible assumption) | assumption)
           obtain ⟨ad125, e125, hx125_0⟩ := Kd.qbS HR0_3.out x3_2 p125 q125
           have hw125_0 := hx125_0
           cases e125
           replace hx125_0 := (HB.out.cell (World.block_lt_of_cell? w _ hx125_0)).trans hx125_0
           replace p125 := eq_true p125
           replace q125 := eq_true q125
           refine qbn (by kernel_rfl) (by kernel_rfl) ?_
           have hL0_ := Aside0.mk (show wr.drew.cell? ⟨gb120, 0, none⟩ = some (.bool false) from (qae BK120.out 0).trans rfl)
           have hL1_ := Aside0.mk (show wr.drew.cell? ⟨gb120, 1, none⟩ = some (.slice A0_1 l0_1.length c0_1) from (qae BK120.out 1).trans rfl)
           have hL2_ := Aside0.mk (show wr.drew.cell? ⟨gb120, 2, none⟩ = some (.slice A0_2 l0_2.length c0_2) from (qae BK120.out 2).trans rfl)
           have hL3_ := Aside0.mk (show wr.drew.cell? ⟨gb120, 3, none⟩ = some (.slice (some ad125) l0_3.length c0_3) from (qae BK120.out 3).trans rfl)
           have hL4_ := Aside0.mk (show wr.drew.cell? (ad125.add (x3_2).toNat) = some (.int .i64 (rd l0_3 x3_2)) from ((HB.out.cell (World.block_lt_of_cell? w _ hw125_0)).trans hw125_0))
           generalize wr.drew = w67b at BK120 HB hx125_0 hL0_ hL1_ hL2_ hL3_ hL4_ ⊢
           clear hx125_0
           have hL0 := fun (p_ : Later w67b) => Later.cell p_ hL0_.out
           have hL1 := fun (p_ : Later w67b) => Later.cell p_ hL1_.out
           have hL2 := fun (p_ : Later w67b) => Later.cell p_ hL2_.out
           have hL3 := fun (p_ : Later w67b) => Later.cell p_ hL3_.out
           have hL4 := fun (p_ : Later w67b) => Later.cell p_ hL4_.out
           clear hL0_ hL1_ hL2_ hL3_ hL4_
           repeat (first | go_big_quiet_step ((first | (go_at_call 69; exact Calls.qbh (qaK.calls (rd l0_3 x3_2) 0 49 false _ A48.out)))) | quiet_step ((first | (go_at_call 69; exact Calls.qbh (qaK.calls (rd l0_3 x3_2) 0 49 false _ A48.out)))))
           refine wpQuiet_nil ?_
           rintro w67 ⟨⟨wq_, hbL⟩, hq_⟩
           have hq2_ : w67 = wq_ := hq_
           clear hq_
           subst hq2_
           clear hL0 hL1 hL2 hL3 hL4
           have nBK120_ := Aside0.mk ((hbL.block _ (qbt BK120.out)).trans BK120.out)
           have nHB_ := Aside0.mk (qai HB.out hbL)
           clear BK120
           clear HB
           have BK120 := nBK120_
           have HB := nHB_
           clear nBK120_
           clear nHB_
           clear hbL
           try go_wp2
           go_ret
           exact ⟨by first | rfl | (simp [qal, qam] <;> rfl) | (simp [*, qal, qam] <;> rfl), by repeat (first | (with_reducible first | exact HB.out | apply qab | apply qaa | apply qac | refine qaf ?_ GE120.out) | exact HB.out)⟩
         ·rw [if_neg c47] at H
          exact absurd H (by simp)
        ·rw [if_neg c46] at H
         have c46b0 : decide (x3_2 < (l0_3.length : Int)) = false := decide_eq_false c46
         clear c46
         obtain rfl := Option.some.inj H
         have hcz68_0 : wr.cell? ⟨gb120, 0, none⟩ = some (.bool false) := (qae BK120.out 0).trans rfl
         have hcz68_1 : wr.cell? ⟨gb120, 1, none⟩ = some (.slice A0_1 l0_1.length c0_1) := (qae BK120.out 1).trans rfl
         have hcz68_2 : wr.cell? ⟨gb120, 2, none⟩ = some (.slice A0_2 l0_2.length c0_2) := (qae BK120.out 2).trans rfl
         have hcz68_3 : wr.cell? ⟨gb120, 3, none⟩ = some (.slice A0_3 l0_3.length c0_3) := (qae BK120.out 3).trans rfl
         have hfz68_0 := qad BK120.out 0
         have hfz68_1 := qad BK120.out 1
         have hfz68_2 := qad BK120.out 2
         have hfz68_3 := qad BK120.out 3
         go_wp2
         go_ret
         exact ⟨by first | rfl | (simp [qal, qam] <;> rfl) | (simp [*, qal, qam] <;> rfl), by repeat (first | (with_reducible first | exact HB.out | apply qab | apply qaa | apply qac | refine qaf ?_ GE120.out) | exact HB.out)⟩
end Go.Proofs.Ytenfomejccfkgaa.X
