import Derived.Test.YtenfomejccfkgaaKFnExactCountRefs4
import Derived.Test.YtenfomejccfkgaaKFnExactCountRefs6
import Derived.Test.YtenfomejccfkgaaKFnExactCountRefs12
import Derived.Test.YtenfomejccfkgaaKFnExactCountRefs13
import Derived.Test.YtenfomejccfkgaaKFnExactCountRefs14
import Derived.LoopTactic
import Derived.WalkSpells
import Derived.OwnWalk
import Derived.Deep.Cut
namespace Go.Proofs.Ytenfomejccfkgaa.X
open Go.RowKit Go.Proofs.YtenfomejccfkgaaW.PrintWords Go.Proofs.YtenfomejccfkgaaW.PrintLast Go.Proofs.YtenfomejccfkgaaW.PrintMore
attribute [local go_sem] qaC qaD qaE qay qaz qaO qaP qas qat qaA qaB
set_option linter.unusedVariables false
set_option linter.unusedSimpArgs false
def sWalk.T1 : Bool × List (List Nat × List Nat) := (true, [([], []), ([], []), ([], []), ([], []), ([3], [3]), ([4], [4]), ([5], [5]), ([0, 1, 2, 6], [0, 1, 2, 6]), ([7], [7]), ([8, 0, 1, 2, 3, 4, 5, 6, 7, 8], [8])])
def sWalk.B1 : List Nat := [0, 0, 0, 0, 8, 24, 56, 127, 255, 511]
theorem sWalk.tab1 : rtab .any (opsOf Try.f61 1) = sWalk.T1 := by kernel_rfl
theorem sWalk.bits1 : qbX sWalk.T1.2 sWalk.B1 = true := by kernel_rfl
def sWalk.T7 : Bool × List (List Nat × List Nat) := (true, [([], []), ([], []), ([1], [1]), ([2], [2]), ([3], [3]), ([4], [4]), ([5], [5]), ([6, 5], [5, 6]), ([7, 5], [5, 7]), ([8, 5], [5, 8]), ([5], [5]), ([10, 5], [5, 10]), ([9, 11, 5], [5, 9, 11]), ([12, 5], [5, 12]), ([13, 5], [5, 13]), ([5], [5]), ([15, 5], [5, 15]), ([16, 5], [5, 16]), ([17, 5], [5, 17]), ([5], [5]), ([18, 19, 5], [5, 18, 19]), ([20, 5], [5, 20]), ([21, 5], [5, 21]), ([14, 22, 5], [5, 14, 22]), ([5, 23], [5, 23]), ([0, 0, 1, 2, 3, 4, 5, 6, 7, 8, 9, 10, 11, 12, 13, 14, 15, 16, 17, 18, 19, 20, 21, 22, 23, 24], [0]), ([25, 0, 1, 2, 3, 4, 5, 6, 7, 8, 9, 10, 11, 12, 13, 14, 15, 16, 17, 18, 19, 20, 21, 22, 23, 24], [25]), ([26, 24, 5, 0, 1, 2, 3, 4, 5, 6, 7, 8, 9, 10, 11, 12, 13, 14, 15, 16, 17, 18, 19, 20, 21, 22, 23, 24], [24, 26])])
def sWalk.B7 : List Nat := [0, 0, 2, 6, 14, 30, 62, 126, 254, 510, 62, 1086, 4094, 8190, 16382, 62, 32830, 98366, 229438, 62, 1015870, 2064446, 4161598, 8388606, 16777214, 33554431, 67108863, 134217727]
theorem sWalk.tab7 : rtab .any (opsOf Try.f61 7) = sWalk.T7 := by kernel_rfl
theorem sWalk.bits7 : qbX sWalk.T7.2 sWalk.B7 = true := by kernel_rfl
def sWalk.T8 : Bool × List (List Nat × List Nat) := (true, [([], []), ([0], [0]), ([1], [1]), ([2], [2]), ([], []), ([4], [4]), ([5], [5]), ([6], [6]), ([], []), ([8], [8]), ([9], [9]), ([10], [10]), ([11], [11]), ([12], [12]), ([13, 12], [12, 13]), ([14, 12], [12, 14]), ([15, 12], [12, 15]), ([16, 12], [12, 16]), ([17, 12], [12, 17]), ([12, 18], [12, 18]), ([3, 12, 0, 1, 2, 3], [3]), ([7, 20, 0, 1, 2, 3, 4, 5, 6, 7, 20], [7]), ([19, 21, 0, 1, 2, 3, 4, 5, 6, 7, 8, 9, 10, 11, 12, 13, 14, 15, 16, 17, 18, 19, 20, 21], [19])])
def sWalk.B8 : List Nat := [0, 1, 3, 7, 0, 16, 48, 112, 0, 256, 768, 1792, 3840, 7936, 16128, 32512, 65280, 130816, 261888, 524032, 7951, 1056767, 4194303]
theorem sWalk.tab8 : rtab .any (opsOf Try.f61 8) = sWalk.T8 := by kernel_rfl
theorem sWalk.bits8 : qbX sWalk.T8.2 sWalk.B8 = true := by kernel_rfl
set_option maxHeartbeats 4000000 in
set_option maxRecDepth 100000 in
theorem qfb (w0 : World) (k d : Int) (s : List Bool) (p : List S99) (w : World) (g : Nat) (vh vp vs : Value) (hB : Below w0.heap.size w0 w) (hW : LkAt w0 w g vh vp vs false p s) :
  Calls Try.prog 119 #[.pointer (some ⟨g, 0, none⟩), .int .i64 k, .int .i64 d] w fun e w' => e = .returned (.tuple #[]) ∧ Below w0.heap.size w0 w' ∧ LkAt w0 w' g vh vp vs false p s := by
 have hu2 := Try.underlying152
 have hu3 := Try.underlying29
 have HB := Aside0.mk hB
 have HW := Aside0.mk hW
 obtain ⟨d0, d1, d2, d3⟩ := qbH hW.2.1
 have d4 := qad hW.2.1 3
 clear hB hW
 go_enter Try.func119, Try.ntmps119
 go_wp2_with fail
 ((try simp only [Exit.inBlock, Exit.then]); refine bodyPost_ret (results_none rfl _ _ _) rfl ?_)
 exact ⟨rfl, HB.out.setCell (p := ⟨g, 3, none⟩) HW.out.1 _, HW.out.qdl false⟩
theorem qfc (ns : List S56) (w0 : World) (Ah : Option Addr) (ch : Nat) (hh : Kd.C k56 w0 Ah ns.length ns) (hbd : qdk ns) (root : Int) (hr : root ≠ -1) (w : World) (g : Nat) (vp vs : Value) (hB : Below w0.heap.size w0 w) (hW : LkAt w0 w g (.slice Ah ns.length ch) vp vs ((ns.length : Int) == 50) [] noneW) :
  Calls Try.prog 119 #[.pointer (some ⟨g, 0, none⟩), .int .i64 root, .int .i64 0] w fun e w' => e = .returned (.tuple #[]) ∧ Below w0.heap.size w0 w' ∧ ∃ vp' vs' : Value, LkAt w0 w' g (.slice Ah ns.length ch) vp' vs' (lookW ns root).1 (lookW ns root).2.2 (lookW ns root).2.1 := by
 by_cases hl : ns.length = 50
 ·rw [show ((ns.length : Int) == 50) = true from by rw [hl]; rfl] at hW
  refine (qhj ns w0 Ah ch hh hl hbd 21 root 0 noneW [] w g vp vs (by omega) (by omega) qdI hB hW).mono ?_
  rintro e w' ⟨rfl, h1, _, vp', vs', h2⟩
  unfold lookW
  rw [if_pos hl, if_neg hr]
  exact ⟨rfl, h1, vp', vs', h2⟩
 ·rw [show ((ns.length : Int) == 50) = false from beq_eq_false_iff_ne.2 (by omega)] at hW
  refine (qfb w0 root 0 noneW [] w g _ vp vs hB hW).mono ?_
  rintro e w' ⟨rfl, h1, h2⟩
  unfold lookW
  rw [if_neg hl]
  exact ⟨rfl, h1, vp, vs, h2⟩
def qcq (ns : List S56) : Bool := ns.all fun x => decide (x.f3.length ≤ 1048576)
theorem qcQ {ns : List S56} : qcq ns = true ↔ qdk ns := by
 unfold qcq qdk
 rw [List.all_eq_true]
 exact ⟨fun h x hx => of_decide_eq_true (h x hx), fun h x hx => decide_eq_true (h x hx)⟩
def qci.f (l0_0 : List S56) (a1 : Int) : Option (List S99 × List Bool × Bool) := if qcq l0_0 = true then some (walkR l0_0 a1) else none
theorem qgD (ns : List S56) : lookW ns (-1) = (((ns.length : Int) == 50), noneW, []) := by
 unfold lookW
 by_cases hl : ns.length = 50
 ·rw [if_pos hl, if_pos rfl, hl]
  rfl
 ·rw [if_neg hl, show ((ns.length : Int) == 50) = false from beq_eq_false_iff_ne.2 (by omega)]
set_option maxHeartbeats 16000000 in
set_option maxRecDepth 100000 in
theorem qci.calls (A0_0 : Option Addr) (c0_0 : Nat) (l0_0 : List S56) (a1 : Int) (r1 : List S99) (r2 : List Bool) (r3 : Bool) (w : World) (hr0_0 : Kd.C k56 w A0_0 l0_0.length l0_0) (hc0_0 : l0_0.length ≤ c0_0) (h : qci.f l0_0 a1 = some (r1, r2, r3)) :
  Calls Try.prog 61 #[.agg #[.slice A0_0 l0_0.length c0_0], .int .i64 a1] w fun e w' => ∃ v0_ v1_ : Value, e = .returned (.tuple #[v0_, v1_, .bool r3]) ∧ Kd.R k99 99 w' w.heap.size (fun _ => True) v0_ r1 ∧ Kd.R Kd.bool 4 w' w.heap.size (fun _ => True) v1_ r2 ∧ Below w.heap.size w w' := by
 unfold qci.f at h
 have hbd : qdk l0_0 := by
  by_cases hb : qcq l0_0 = true
  ·exact qcQ.1 hb
  ·rw [if_neg hb] at h
   cases h
 rw [if_pos (qcQ.2 hbd)] at h
 have hu := Try.underlying29
 have hu2 := Try.underlying152
 have hu3 := Try.underlying89
 have hu4 := Try.underlying33
 have HR := Aside0.mk hr0_0
 have HBD := Aside0.mk hbd
 have HH := Aside0.mk (Option.some.inj h)
 obtain ⟨w1, hw1⟩ : ∃ w1, w1 = w.alloc (.cells #[.slice A0_0 l0_0.length c0_0] 29 (0, 0)) := ⟨_, rfl⟩
 have HB1 := Aside0.mk (show Below w.heap.size w w1 from hw1 ▸ qab (Below.refl _ w) _)
 have BX1 := Aside0.mk (show w1.heap[w.heap.size]? = some (.cells #[.slice A0_0 l0_0.length c0_0] 29 (0, 0)) from hw1 ▸ qcn w _)
 clear h hr0_0 hbd
 go_enter Try.func61, Try.ntmps61
 go_upto_region 1 with fail
 rw [← hw1]
 have BX5 := Aside0.mk (qao BX1.out)
 have HB5 := Aside0.mk (qbr HB1.out)
 clear hw1 HB1 BX1
 refine qcz (n := 10) (S := fun w' => True) (ds := []) #[false, false, false, false, false, false, false, false, false, false] (by kernel_rfl) rfl rfl trivial (fun hHeld => ?_)
 refine qbU sWalk.tab1 sWalk.bits1 (fun HT_ HW_ => ?_)
 generalize w1.drew = wd at BX5 HB5 ⊢
 refine qcY [0, 1, 2, 3, 4, 5, 6, 7, 8, 9] (fun a0_ b a w' => ∃ (Az : Option Addr) (cz : Nat) (As : Option Addr) (cs : Nat) (gw : Nat) (m1_ : Value) (m2_ : Value) (m7_ : Value) (m8_ : Value) (m9_ : Value), a = qbq a0_ b [(0, 9, .agg #[.slice A0_0 l0_0.length c0_0]), (1, 10, m1_), (2, 11, m2_), (3, 12, .pointer (some ⟨w.heap.size, 0, none⟩)), (4, 13, .slice A0_0 l0_0.length c0_0), (5, 14, .int .i64 (l0_0.length : Int)), (6, 15, .bool ((l0_0.length : Int) == 50)), (7, 16, m7_), (8, 17, m8_), (9, 7, m9_)] ∧ (w'.heap[w.heap.size]? = some (.cells #[.slice A0_0 l0_0.length c0_0] 29 (0, 0))) ∧ (Below w.heap.size w w') ∧ (b 1 = true → Kd.R k99 99 w' w.heap.size (fun _ => True) (.slice Az 0 cz) []) ∧ (b 2 = true → Kd.R Kd.bool 4 w' w.heap.size (fun _ => True) (.slice As noneW.length cs) noneW) ∧ (b 8 = true → w'.heap[gw]? = some (.cells #[.slice A0_0 l0_0.length c0_0, .slice Az 0 cz, .slice As noneW.length cs, .bool ((l0_0.length : Int) == 50)] 152 (0, 0))) ∧ (b 8 = true → w.heap.size ≤ gw) ∧ (b 1 = true → (m1_ : Value) = .slice Az 0 cz) ∧ (b 2 = true → (m2_ : Value) = .slice As noneW.length cs) ∧ (b 7 = true → (m7_ : Value) = .agg #[.slice A0_0 l0_0.length c0_0, .slice Az 0 cz, .slice As noneW.length cs, .bool ((l0_0.length : Int) == 50)]) ∧ (b 8 = true → (m8_ : Value) = .pointer (some ⟨gw, 0, none⟩)) ∧ (b 9 = true → (m9_ : Value) = .pointer (some ⟨gw, 0, none⟩))) HT_.out HW_.out (by kernel_rfl) (by kernel_rfl) ?_ ?_ ?_
 ·exact ⟨none, 0, none, 0, 0, .bool false, .bool false, .bool false, .bool false, .bool false, by simp only [qbq, Bool.false_eq_true, if_false], BX5.out, HB5.out, fun h_ => absurd h_ (by decide), fun h_ => absurd h_ (by decide), fun h_ => absurd h_ (by decide), fun h_ => absurd h_ (by decide), fun h_ => absurd h_ (by decide), fun h_ => absurd h_ (by decide), fun h_ => absurd h_ (by decide), fun h_ => absurd h_ (by decide), fun h_ => absurd h_ (by decide)⟩
 ·skip
  clear BX5 HB5
  refine qag ?_ ?_
  ·rintro b a w' ⟨Az, cz, As, cs, gw, m1_, m2_, m7_, m8_, m9_, ha, Q_BX5, Q_HB5, Q_HZ5, Q_HS5, Q_BW5, Q_GW5, Q_X1_, Q_X2_, Q_X7_, Q_X8_, Q_X9_⟩ hb_ hon hoff
   refine ⟨_, rfl, fun K hK => ?_⟩
   have e2 : a.tmps[2]? = some (.pointer (some ⟨w.heap.size, 0, none⟩)) := by rw [ha]; exact (qa7 rfl).trans rfl
   replace ha := Aside0.mk ha
   have BX5 := Aside0.mk Q_BX5
   have hc_ : w'.cell? ⟨w.heap.size, 0, none⟩ = some (.slice A0_0 l0_0.length c0_0) := qae BX5.out 0
   refine qaJ (w1 := w') (v := .agg #[.slice A0_0 l0_0.length c0_0]) (by rfl) rfl ?_ ?_
   ·go_simp
    (try simp only [qaS])
    try rfl
   refine hK.out _ _ ⟨Az, cz, As, cs, gw, m1_, m2_, m7_, m8_, m9_, (by rw [ha.out]; exact qah 0 hb_ rfl rfl rfl), Q_BX5, Q_HB5, Q_HZ5, Q_HS5, fun h0_ => absurd ((hoff 8 (by kernel_rfl)).symm.trans h0_) (by decide), fun h0_ => absurd ((hoff 8 (by kernel_rfl)).symm.trans h0_) (by decide), Q_X1_, Q_X2_, fun h0_ => absurd ((hoff 7 (by kernel_rfl)).symm.trans h0_) (by decide), fun h0_ => absurd ((hoff 8 (by kernel_rfl)).symm.trans h0_) (by decide), fun h0_ => absurd ((hoff 9 (by kernel_rfl)).symm.trans h0_) (by decide)⟩
  refine qag ?_ ?_
  ·rintro b a w' ⟨Az, cz, As, cs, gw, m1_, m2_, m7_, m8_, m9_, ha, Q_BX5, Q_HB5, Q_HZ5, Q_HS5, Q_BW5, Q_GW5, Q_X1_, Q_X2_, Q_X7_, Q_X8_, Q_X9_⟩ hb_ hon hoff
   refine ⟨_, rfl, fun K hK => ?_⟩
   replace ha := Aside0.mk ha
   have BX5 := Aside0.mk Q_BX5
   have HB5 := Aside0.mk Q_HB5
   refine Kd.qeQ k99 w.heap.size 99 (by rfl) (N := 10) (by rfl) (xs := ([] : List S99)) (inner := []) (ok := fun _ => True) (okp := fun _ => True) ?hr ?hp (fun _ hk => hk) trivial HB5.out HB5.out.size (by simp) ?_
   case hr => first | (go_simp; done) | (go_simp; rfl)
   case hp => exact Reps.none _ _
   intro v1 w1 ho1 hb1 hg1 hn1
   obtain ⟨Az_, cz_, ev_, _, _⟩ := Kd.qbP ho1
   subst ev_
   refine hK.out _ _ ⟨Az_, cz_, As, cs, gw, (.slice Az_ 0 cz_), m2_, m7_, m8_, m9_, (by rw [ha.out]; exact qah 1 hb_ rfl rfl rfl), qbR BX5.out hg1 (by simp), hb1, fun _ => ho1, fun h0_ => Kd.qgS (Q_HS5 h0_) hg1 (fun _ _ h => by cases h), fun h0_ => absurd ((hoff 8 (by kernel_rfl)).symm.trans h0_) (by decide), fun h0_ => absurd ((hoff 8 (by kernel_rfl)).symm.trans h0_) (by decide), fun _ => rfl, Q_X2_, fun h0_ => absurd ((hoff 7 (by kernel_rfl)).symm.trans h0_) (by decide), fun h0_ => absurd ((hoff 8 (by kernel_rfl)).symm.trans h0_) (by decide), fun h0_ => absurd ((hoff 9 (by kernel_rfl)).symm.trans h0_) (by decide)⟩
  refine qag ?_ ?_
  ·rintro b a w' ⟨Az, cz, As, cs, gw, m1_, m2_, m7_, m8_, m9_, ha, Q_BX5, Q_HB5, Q_HZ5, Q_HS5, Q_BW5, Q_GW5, Q_X1_, Q_X2_, Q_X7_, Q_X8_, Q_X9_⟩ hb_ hon hoff
   refine ⟨_, rfl, fun K hK => ?_⟩
   replace ha := Aside0.mk ha
   have BX5 := Aside0.mk Q_BX5
   have HB5 := Aside0.mk Q_HB5
   refine Kd.qdn Kd.bool (w0 := w) w.heap.size 4 (by rfl) (N := 11) (by rfl) 89 _ _ (by rfl) 50 (by rfl) (by rfl) Try.underlying89 (.bool false) 1 info4 rfl (by decide) (by omega) false (ok := fun _ => True) (okp := fun _ => True) rfl (fun _ hk => hk) trivial (by omega) (by decide) HB5.out HB5.out.size ?_
   intro v1 w1 ho1 hb1 hg1 hn1
   have ho2 : Kd.R Kd.bool 4 w1 w.heap.size (fun _ => True) v1 noneW := ho1
   obtain ⟨As_, cs_, ev_, _, _⟩ := Kd.qbP ho2
   subst ev_
   refine hK.out _ _ ⟨Az, cz, As_, cs_, gw, m1_, (.slice As_ noneW.length cs_), m7_, m8_, m9_, (by rw [ha.out]; exact qah 2 hb_ rfl rfl rfl), qbR BX5.out hg1 (by simp), hb1, fun h0_ => Kd.qgS (Q_HZ5 h0_) hg1 (fun _ _ h => by cases h), fun _ => ho2, fun h0_ => absurd ((hoff 8 (by kernel_rfl)).symm.trans h0_) (by decide), fun h0_ => absurd ((hoff 8 (by kernel_rfl)).symm.trans h0_) (by decide), Q_X1_, fun _ => rfl, fun h0_ => absurd ((hoff 7 (by kernel_rfl)).symm.trans h0_) (by decide), fun h0_ => absurd ((hoff 8 (by kernel_rfl)).symm.trans h0_) (by decide), fun h0_ => absurd ((hoff 9 (by kernel_rfl)).symm.trans h0_) (by decide)⟩
  refine qag ?_ ?_
  ·rintro b a w' ⟨Az, cz, As, cs, gw, m1_, m2_, m7_, m8_, m9_, ha, Q_BX5, Q_HB5, Q_HZ5, Q_HS5, Q_BW5, Q_GW5, Q_X1_, Q_X2_, Q_X7_, Q_X8_, Q_X9_⟩ hb_ hon hoff
   refine ⟨_, rfl, fun K hK => ?_⟩
   have e2 : a.tmps[2]? = some (.pointer (some ⟨w.heap.size, 0, none⟩)) := by rw [ha]; exact (qa7 rfl).trans rfl
   replace ha := Aside0.mk ha
   refine qaJ (w1 := w') (v := .pointer (some ⟨w.heap.size, 0, none⟩)) (by rfl) rfl ?_ ?_
   ·go_simp
    (try simp only [qaS])
    try rfl
   refine hK.out _ _ ⟨Az, cz, As, cs, gw, m1_, m2_, m7_, m8_, m9_, (by rw [ha.out]; exact qah 3 hb_ rfl rfl rfl), Q_BX5, Q_HB5, Q_HZ5, Q_HS5, fun h0_ => absurd ((hoff 8 (by kernel_rfl)).symm.trans h0_) (by decide), fun h0_ => absurd ((hoff 8 (by kernel_rfl)).symm.trans h0_) (by decide), Q_X1_, Q_X2_, fun h0_ => absurd ((hoff 7 (by kernel_rfl)).symm.trans h0_) (by decide), fun h0_ => absurd ((hoff 8 (by kernel_rfl)).symm.trans h0_) (by decide), fun h0_ => absurd ((hoff 9 (by kernel_rfl)).symm.trans h0_) (by decide)⟩
  refine qag ?_ ?_
  ·rintro b a w' ⟨Az, cz, As, cs, gw, m1_, m2_, m7_, m8_, m9_, ha, Q_BX5, Q_HB5, Q_HZ5, Q_HS5, Q_BW5, Q_GW5, Q_X1_, Q_X2_, Q_X7_, Q_X8_, Q_X9_⟩ hb_ hon hoff
   refine ⟨_, rfl, fun K hK => ?_⟩
   have e12 : a.tmps[12]? = some (.pointer (some ⟨w.heap.size, 0, none⟩)) := on_ ha 3 rfl rfl (hon 3 (by kernel_rfl)) rfl
   replace ha := Aside0.mk ha
   have BX5 := Aside0.mk Q_BX5
   have hc_ : w'.cell? ⟨w.heap.size, 0, none⟩ = some (.slice A0_0 l0_0.length c0_0) := qae BX5.out 0
   refine qaJ (w1 := w') (v := .slice A0_0 l0_0.length c0_0) (by rfl) rfl ?_ ?_
   ·go_simp
    (try simp only [qaS])
    try rfl
   refine hK.out _ _ ⟨Az, cz, As, cs, gw, m1_, m2_, m7_, m8_, m9_, (by rw [ha.out]; exact qah 4 hb_ rfl rfl rfl), Q_BX5, Q_HB5, Q_HZ5, Q_HS5, fun h0_ => absurd ((hoff 8 (by kernel_rfl)).symm.trans h0_) (by decide), fun h0_ => absurd ((hoff 8 (by kernel_rfl)).symm.trans h0_) (by decide), Q_X1_, Q_X2_, fun h0_ => absurd ((hoff 7 (by kernel_rfl)).symm.trans h0_) (by decide), fun h0_ => absurd ((hoff 8 (by kernel_rfl)).symm.trans h0_) (by decide), fun h0_ => absurd ((hoff 9 (by kernel_rfl)).symm.trans h0_) (by decide)⟩
  refine qag ?_ ?_
  ·rintro b a w' ⟨Az, cz, As, cs, gw, m1_, m2_, m7_, m8_, m9_, ha, Q_BX5, Q_HB5, Q_HZ5, Q_HS5, Q_BW5, Q_GW5, Q_X1_, Q_X2_, Q_X7_, Q_X8_, Q_X9_⟩ hb_ hon hoff
   refine ⟨_, rfl, fun K hK => ?_⟩
   have e13 : a.tmps[13]? = some (.slice A0_0 l0_0.length c0_0) := on_ ha 4 rfl rfl (hon 4 (by kernel_rfl)) rfl
   replace ha := Aside0.mk ha
   refine qaJ (w1 := w') (v := .int .i64 (l0_0.length : Int)) (by rfl) rfl ?_ ?_
   ·go_simp
    (try simp only [qaS])
    try rfl
   refine hK.out _ _ ⟨Az, cz, As, cs, gw, m1_, m2_, m7_, m8_, m9_, (by rw [ha.out]; exact qah 5 hb_ rfl rfl rfl), Q_BX5, Q_HB5, Q_HZ5, Q_HS5, fun h0_ => absurd ((hoff 8 (by kernel_rfl)).symm.trans h0_) (by decide), fun h0_ => absurd ((hoff 8 (by kernel_rfl)).symm.trans h0_) (by decide), Q_X1_, Q_X2_, fun h0_ => absurd ((hoff 7 (by kernel_rfl)).symm.trans h0_) (by decide), fun h0_ => absurd ((hoff 8 (by kernel_rfl)).symm.trans h0_) (by decide), fun h0_ => absurd ((hoff 9 (by kernel_rfl)).symm.trans h0_) (by decide)⟩
  refine qag ?_ ?_
  ·rintro b a w' ⟨Az, cz, As, cs, gw, m1_, m2_, m7_, m8_, m9_, ha, Q_BX5, Q_HB5, Q_HZ5, Q_HS5, Q_BW5, Q_GW5, Q_X1_, Q_X2_, Q_X7_, Q_X8_, Q_X9_⟩ hb_ hon hoff
   refine ⟨_, rfl, fun K hK => ?_⟩
   have e14 : a.tmps[14]? = some (.int .i64 (l0_0.length : Int)) := on_ ha 5 rfl rfl (hon 5 (by kernel_rfl)) rfl
   replace ha := Aside0.mk ha
   refine qaJ (w1 := w') (v := .bool ((l0_0.length : Int) == 50)) (by rfl) rfl ?_ ?_
   ·go_simp
    (try simp only [qaS])
    try rfl
   refine hK.out _ _ ⟨Az, cz, As, cs, gw, m1_, m2_, m7_, m8_, m9_, (by rw [ha.out]; exact qah 6 hb_ rfl rfl rfl), Q_BX5, Q_HB5, Q_HZ5, Q_HS5, fun h0_ => absurd ((hoff 8 (by kernel_rfl)).symm.trans h0_) (by decide), fun h0_ => absurd ((hoff 8 (by kernel_rfl)).symm.trans h0_) (by decide), Q_X1_, Q_X2_, fun h0_ => absurd ((hoff 7 (by kernel_rfl)).symm.trans h0_) (by decide), fun h0_ => absurd ((hoff 8 (by kernel_rfl)).symm.trans h0_) (by decide), fun h0_ => absurd ((hoff 9 (by kernel_rfl)).symm.trans h0_) (by decide)⟩
  refine qag ?_ ?_
  ·rintro b a w' ⟨Az, cz, As, cs, gw, m1_, m2_, m7_, m8_, m9_, ha, Q_BX5, Q_HB5, Q_HZ5, Q_HS5, Q_BW5, Q_GW5, Q_X1_, Q_X2_, Q_X7_, Q_X8_, Q_X9_⟩ hb_ hon hoff
   refine ⟨_, rfl, fun K hK => ?_⟩
   have e9 : a.tmps[9]? = some (.agg #[.slice A0_0 l0_0.length c0_0]) := on_ ha 0 rfl rfl (hon 0 (by kernel_rfl)) rfl
   have e10 : a.tmps[10]? = some (m1_) := on_ ha 1 rfl rfl (hon 1 (by kernel_rfl)) rfl
   rw [Q_X1_ (hon 1 (by kernel_rfl))] at e10
   have e11 : a.tmps[11]? = some (m2_) := on_ ha 2 rfl rfl (hon 2 (by kernel_rfl)) rfl
   rw [Q_X2_ (hon 2 (by kernel_rfl))] at e11
   have e15 : a.tmps[15]? = some (.bool ((l0_0.length : Int) == 50)) := on_ ha 6 rfl rfl (hon 6 (by kernel_rfl)) rfl
   replace ha := Aside0.mk ha
   refine qaJ (w1 := w') (v := .agg #[.slice A0_0 l0_0.length c0_0, .slice Az 0 cz, .slice As noneW.length cs, .bool ((l0_0.length : Int) == 50)]) (by rfl) rfl ?_ ?_
   ·go_simp
    (try simp only [qaS])
    try rfl
   refine hK.out _ _ ⟨Az, cz, As, cs, gw, m1_, m2_, (.agg #[.slice A0_0 l0_0.length c0_0, .slice Az 0 cz, .slice As noneW.length cs, .bool ((l0_0.length : Int) == 50)]), m8_, m9_, (by rw [ha.out]; exact qah 7 hb_ rfl rfl rfl), Q_BX5, Q_HB5, Q_HZ5, Q_HS5, fun h0_ => absurd ((hoff 8 (by kernel_rfl)).symm.trans h0_) (by decide), fun h0_ => absurd ((hoff 8 (by kernel_rfl)).symm.trans h0_) (by decide), Q_X1_, Q_X2_, fun _ => rfl, fun h0_ => absurd ((hoff 8 (by kernel_rfl)).symm.trans h0_) (by decide), fun h0_ => absurd ((hoff 9 (by kernel_rfl)).symm.trans h0_) (by decide)⟩
  refine qag ?_ ?_
  ·rintro b a w' ⟨Az, cz, As, cs, gw, m1_, m2_, m7_, m8_, m9_, ha, Q_BX5, Q_HB5, Q_HZ5, Q_HS5, Q_BW5, Q_GW5, Q_X1_, Q_X2_, Q_X7_, Q_X8_, Q_X9_⟩ hb_ hon hoff
   refine ⟨_, rfl, fun K hK => ?_⟩
   have e16 : a.tmps[16]? = some (m7_) := on_ ha 7 rfl rfl (hon 7 (by kernel_rfl)) rfl
   rw [Q_X7_ (hon 7 (by kernel_rfl))] at e16
   replace ha := Aside0.mk ha
   have BX5 := Aside0.mk Q_BX5
   have HB5 := Aside0.mk Q_HB5
   have HZ5 := Aside0.mk (Q_HZ5 (hon 1 (by kernel_rfl)))
   have HS5 := Aside0.mk (Q_HS5 (hon 2 (by kernel_rfl)))
   refine qaJ (w1 := w'.alloc (.cells #[.slice A0_0 l0_0.length c0_0, .slice Az 0 cz, .slice As noneW.length cs, .bool ((l0_0.length : Int) == 50)] 152 (0, 0))) (v := .pointer (some ⟨w'.heap.size, 0, none⟩)) (by rfl) rfl ?_ ?_
   ·go_simp
    try rfl
   refine hK.out _ _ ⟨Az, cz, As, cs, w'.heap.size, m1_, m2_, m7_, (.pointer (some ⟨w'.heap.size, 0, none⟩)), m9_, (by rw [ha.out]; exact qah 8 hb_ rfl rfl rfl), qak BX5.out _, qab HB5.out _, fun _ => Kd.qa3 HZ5.out _, fun _ => Kd.qa3 HS5.out _, fun _ => qcn w' _, fun _ => HB5.out.size, Q_X1_, Q_X2_, Q_X7_, fun _ => rfl, fun h0_ => absurd ((hoff 9 (by kernel_rfl)).symm.trans h0_) (by decide)⟩
  refine qag ?_ ?_
  ·rintro b a w' ⟨Az, cz, As, cs, gw, m1_, m2_, m7_, m8_, m9_, ha, Q_BX5, Q_HB5, Q_HZ5, Q_HS5, Q_BW5, Q_GW5, Q_X1_, Q_X2_, Q_X7_, Q_X8_, Q_X9_⟩ hb_ hon hoff
   refine ⟨_, rfl, fun K hK => ?_⟩
   have e17 : a.tmps[17]? = some (m8_) := on_ ha 8 rfl rfl (hon 8 (by kernel_rfl)) rfl
   rw [Q_X8_ (hon 8 (by kernel_rfl))] at e17
   replace ha := Aside0.mk ha
   refine qaJ (w1 := w') (v := .pointer (some ⟨gw, 0, none⟩)) (by rfl) rfl ?_ ?_
   ·go_simp
    (try simp only [qaS])
    try rfl
   refine hK.out _ _ ⟨Az, cz, As, cs, gw, m1_, m2_, m7_, m8_, (.pointer (some ⟨gw, 0, none⟩)), (by rw [ha.out]; exact qah 9 hb_ rfl rfl rfl), Q_BX5, Q_HB5, Q_HZ5, Q_HS5, Q_BW5, Q_GW5, Q_X1_, Q_X2_, Q_X7_, Q_X8_, fun _ => rfl⟩
  exact qb7
 rintro b a wA hall ⟨Az, cz, As, cs, gw, m1_, m2_, m7_, m8_, m9_, ha, Q_BX5, Q_HB5, Q_HZ5, Q_HS5, Q_BW5, Q_GW5, Q_X1_, Q_X2_, Q_X7_, Q_X8_, Q_X9_⟩
 clear BX5 HB5
 have hb0_ := hall 0 (by kernel_rfl)
 have hb1_ := hall 1 (by kernel_rfl)
 have hb2_ := hall 2 (by kernel_rfl)
 have hb3_ := hall 3 (by kernel_rfl)
 have hb4_ := hall 4 (by kernel_rfl)
 have hb5_ := hall 5 (by kernel_rfl)
 have hb6_ := hall 6 (by kernel_rfl)
 have hb7_ := hall 7 (by kernel_rfl)
 have hb8_ := hall 8 (by kernel_rfl)
 have hb9_ := hall 9 (by kernel_rfl)
 subst ha
 obtain rfl := Q_X1_ hb1_
 obtain rfl := Q_X2_ hb2_
 obtain rfl := Q_X7_ hb7_
 obtain rfl := Q_X8_ hb8_
 obtain rfl := Q_X9_ hb9_
 simp only [qbq, hb0_, hb1_, hb2_, hb3_, hb4_, hb5_, hb6_, hb7_, hb8_, hb9_, if_true, Act.put, List.setIfInBounds_toArray, List.set_cons_zero, List.set_cons_succ]
 have BX5 := Aside0.mk Q_BX5
 clear Q_BX5
 have HB5 := Aside0.mk Q_HB5
 clear Q_HB5
 have HZ5 := Aside0.mk (Q_HZ5 hb1_)
 clear Q_HZ5
 have HS5 := Aside0.mk (Q_HS5 hb2_)
 clear Q_HS5
 have BW5 := Aside0.mk (Q_BW5 hb8_)
 clear Q_BW5
 have GW5 := Aside0.mk (Q_GW5 hb8_)
 clear Q_GW5
 clear hall hb0_ hb1_ hb2_ hb3_ hb4_ hb5_ hb6_ hb7_ hb8_ hb9_
 clear BX5
 have HW5 := Aside0.mk (show LkAt w wA gw (.slice A0_0 l0_0.length c0_0) (.slice Az 0 cz) (.slice As noneW.length cs) ((l0_0.length : Int) == 50) [] noneW from ⟨GW5.out, BW5.out, HS5.out, HZ5.out⟩)
 clear GW5 BW5 HS5 HZ5
 obtain ⟨b, S, P, hlk⟩ : ∃ b S P, lookW l0_0 a1 = (b, S, P) := ⟨_, _, _, rfl⟩
 have HRt := Aside0.mk (show walkR l0_0 a1 = (P, S, ((b && riseB P) && decide (P.length ≤ 60))) from by unfold walkR; rw [hlk])
 have hI := qen l0_0 a1
 rw [hlk] at hI
 have HIt := Aside0.mk hI
 have HLK := Aside0.mk hlk
 clear hI hlk
 go_upto_if 19 with fail
 go_cut [18] (fun v18 wc => v18 = .int .i64 a1 ∧ ∃ vp vs : Value, Aside0 (LkAt w wc gw (.slice A0_0 l0_0.length c0_0) vp vs b P S) ∧ Aside0 (Below w.heap.size w wc))
 case first =>
  by_cases hm : a1 = -1
  ·have c1 : (a1 != -1) = false := by rw [hm]; rfl
   have he := (show lookW l0_0 a1 = (((l0_0.length : Int) == 50), noneW, []) from by rw [hm]; exact qgD l0_0).symm.trans HLK.out
   simp only [Prod.mk.injEq] at he
   obtain ⟨e1, e2, e3⟩ := he
   have HWt := Aside0.mk (show LkAt w wA gw (.slice A0_0 l0_0.length c0_0) (.slice Az 0 cz) (.slice As noneW.length cs) b P S from by rw [← e1, ← e2, ← e3]; exact HW5.out)
   clear e1 e2 e3 HW5 hm
   go_wp2_with fail
   go_meet
   case rel => exact ⟨rfl, _, _, HWt, HB5⟩
  ·have c1 : (a1 != -1) = true := bne_iff_ne.2 hm
   have HC := Aside0.mk (qfc l0_0 w A0_0 c0_0 HR.out HBD.out a1 hm wA gw _ _ HB5.out HW5.out)
   clear hm
   go_wp2_with fail
   refine HC.out.mono ?_
   rintro e w2 ⟨rfl, hb2, vp2, vs2, hl2⟩
   rw [HLK.out] at hl2
   have HWt := Aside0.mk hl2
   have HBt := Aside0.mk hb2
   clear hl2 hb2 HC
   go_wp2_with fail
   go_meet
   case rel => exact ⟨rfl, _, _, HWt, HBt⟩
 case rest =>
  obtain ⟨rfl, vp2, vs2, HWt, HBt⟩ := hcut
  clear HW5 HB5 HLK
  obtain ⟨vpA, vpc, ev, _, _⟩ := Kd.qbP HWt.out.2.2.2
  subst ev
  obtain ⟨vsA, vsc, ev, _, _⟩ := Kd.qbP HWt.out.2.2.1
  subst ev
  have hroom : P.length + 3 * S.count false ≤ 150 := HIt.out.room
  have hpl : P.length ≤ 150 := by omega
  clear hroom HIt
  go_upto_region 5 with fail
  go_loopw [8] (fun v8 wr => ∃ (i : Nat) (c : Bool), 1 ≤ i ∧ (i ≤ P.length ∨ i = 1) ∧ v8 = .int .i64 (i : Int) ∧ Aside0 (LkAt w wr gw (.slice A0_0 l0_0.length c0_0) (.slice vpA P.length vpc) (.slice vsA S.length vsc) c P S) ∧ Aside0 (Below w.heap.size w wr) ∧ Aside0 ((c && qch (qcH P) i (P.length - i)) = (b && riseB P))) (fun v8 _ => P.length - (intOf v8).toNat)
  case atStart => exact ⟨1, b, by omega, .inr rfl, rfl, HWt, HBt, ⟨rfl⟩⟩
  case round =>
   clear HWt HBt
   obtain ⟨i, q, hi1, hi, rfl, HWr, HBr, HEr⟩ := hrel
   obtain ⟨d0, d1, d2, d3⟩ := qbH HWr.out.2.1
   by_cases hlt : i < P.length
   ·have c5 : decide ((i : Int) < (P.length : Int)) = true := decide_eq_true (by omega)
    obtain ⟨j, hj⟩ : ∃ j, i = j + 1 := ⟨i - 1, by omega⟩
    subst hj
    have hall : qch (qcH P) (j + 1) (P.length - (j + 1)) = (qcH P (j + 1) && qch (qcH P) (j + 1 + 1) (P.length - (j + 1 + 1))) := by
     rw [show P.length - (j + 1) = (P.length - (j + 1 + 1)) + 1 by omega]
     rfl
    have hE := HEr.out
    rw [hall] at hE
    have HE := Aside0.mk hE
    obtain ⟨gp, cp, ev, _⟩ := Kd.qce HWr.out.2.2.2 (by omega)
    injection ev with ev1 _ ev2
    subst ev1; subst ev2
    have HWJ := Aside0.mk (show IntKind.i64.wrap (j : Int) = (j : Int) from by rw [IntKind.wrap_i64]; omega)
    have HJ := Aside0.mk hlt
    obtain ⟨k1, hk1⟩ : ∃ k1, k1 = qcG P j := ⟨_, rfl⟩
    obtain ⟨k2, hk2⟩ : ∃ k2, k2 = qcG P (j + 1) := ⟨_, rfl⟩
    have hkl : qcH P (j + 1) = Op.bytesLess k1.toList k2.toList := by unfold qcH; rw [hk1, hk2]; rfl
    have HKL := Aside0.mk hkl
    have HK1 := Aside0.mk hk1.symm
    have HK2 := Aside0.mk hk2.symm
    have hlt2 : j + 1 < P.length := hlt
    clear hE hall HEr hk1 hk2 hkl hi hi1
    go_upto_region 7 with fail
    clear d0 d1 d2 d3
    have LA := Aside0.mk (HWr.out.below (qbr (Below.refl _ wr)))
    have HB5 := Aside0.mk (qbr HBr.out)
    clear HWr HBr c5
    cases q with
    | false =>
     have HE2 := Aside0.mk (show (false && qch (qcH P) (j + 1 + 1) (P.length - (j + 1 + 1))) = (b && riseB P) from by have h := HE.out; rw [Bool.false_and] at h; rw [Bool.false_and]; exact h)
     refine qcz (n := 28) (S := fun w' => True) (ds := []) #[false, false, false, false, false, false, false, false, false, false, false, false, false, false, false, false, false, false, false, false, false, false, false, false, false, false, false, false] (by kernel_rfl) rfl rfl trivial (fun hHeld => ?_)
     refine qbU sWalk.tab7 sWalk.bits7 (fun HT_ HW_ => ?_)
     generalize wr.drew = wd at LA HB5 ⊢
     refine qcY [0, 1, 2, 3, 4, 5, 6, 7, 8, 9, 10, 11, 12, 13, 14, 15, 16, 17, 18, 19, 20, 21, 22, 23, 24, 25, 26, 27] (fun a0_ b a w' => a = qbq a0_ b [(0, 32, .pointer (some ⟨gw, 0, none⟩)), (1, 33, .pointer (some ⟨gw, 0, none⟩)), (2, 34, .pointer (some ⟨gw, 0, none⟩)), (3, 35, .pointer (some ⟨gw, 3, none⟩)), (4, 36, .bool false), (5, 37, .bool false), (6, 38, undef), (7, 39, undef), (8, 40, undef), (9, 41, undef), (10, 42, undef), (11, 43, undef), (12, 44, undef), (13, 45, undef), (14, 46, undef), (15, 47, undef), (16, 48, undef), (17, 49, undef), (18, 50, undef), (19, 51, undef), (20, 52, undef), (21, 53, undef), (22, 54, undef), (23, 55, undef), (24, 56, .bool false), (25, 57, .pointer (some ⟨gw, 0, none⟩)), (26, 58, .pointer (some ⟨gw, 3, none⟩))] ∧ (b 27 = false → LkAt w w' gw (.slice A0_0 l0_0.length c0_0) (.slice (some ⟨gp, 0, none⟩) P.length vpc) (.slice vsA S.length vsc) false P S) ∧ (b 27 = true → LkAt w w' gw (.slice A0_0 l0_0.length c0_0) (.slice (some ⟨gp, 0, none⟩) P.length vpc) (.slice vsA S.length vsc) false P S) ∧ (Below w.heap.size w w')) HT_.out HW_.out (by kernel_rfl) (by kernel_rfl) ?_ ?_ ?_
     ·exact ⟨by simp only [qbq, Bool.false_eq_true, if_false], fun _ => LA.out, fun h_ => absurd h_ (by decide), HB5.out⟩
     ·skip
      clear HB5 LA
      refine qag ?_ ?_
      ·rintro b a w' ⟨ha, Q_LA, Q_LB, Q_HB5⟩ hb_ hon hoff
       refine ⟨_, rfl, fun K hK => ?_⟩
       have e7 : a.tmps[7]? = some (.pointer (some ⟨gw, 0, none⟩)) := by rw [ha]; exact (qa7 rfl).trans rfl
       replace ha := Aside0.mk ha
       refine qaJ (w1 := w') (v := .pointer (some ⟨gw, 0, none⟩)) (by rfl) rfl ?_ ?_
       ·go_simp
        (try simp only [qaS])
        try rfl
       refine hK.out _ _ ⟨(by rw [ha.out]; exact qah 0 hb_ rfl rfl rfl), Q_LA, fun h0_ => absurd ((hoff 27 (by kernel_rfl)).symm.trans h0_) (by decide), Q_HB5⟩
      refine qag ?_ ?_
      ·rintro b a w' ⟨ha, Q_LA, Q_LB, Q_HB5⟩ hb_ hon hoff
       refine ⟨_, rfl, fun K hK => ?_⟩
       have e7 : a.tmps[7]? = some (.pointer (some ⟨gw, 0, none⟩)) := by rw [ha]; exact (qa7 rfl).trans rfl
       replace ha := Aside0.mk ha
       refine qaJ (w1 := w') (v := .pointer (some ⟨gw, 0, none⟩)) (by rfl) rfl ?_ ?_
       ·go_simp
        (try simp only [qaS])
        try rfl
       refine hK.out _ _ ⟨(by rw [ha.out]; exact qah 1 hb_ rfl rfl rfl), Q_LA, fun h0_ => absurd ((hoff 27 (by kernel_rfl)).symm.trans h0_) (by decide), Q_HB5⟩
      refine qag ?_ ?_
      ·rintro b a w' ⟨ha, Q_LA, Q_LB, Q_HB5⟩ hb_ hon hoff
       refine ⟨_, rfl, fun K hK => ?_⟩
       have e33 : a.tmps[33]? = some (.pointer (some ⟨gw, 0, none⟩)) := on_ ha 1 rfl rfl (hon 1 (by kernel_rfl)) rfl
       replace ha := Aside0.mk ha
       refine qaJ (w1 := w') (v := .pointer (some ⟨gw, 0, none⟩)) (by rfl) rfl ?_ ?_
       ·go_simp
        (try simp only [qaS])
        try rfl
       refine hK.out _ _ ⟨(by rw [ha.out]; exact qah 2 hb_ rfl rfl rfl), Q_LA, fun h0_ => absurd ((hoff 27 (by kernel_rfl)).symm.trans h0_) (by decide), Q_HB5⟩
      refine qag ?_ ?_
      ·rintro b a w' ⟨ha, Q_LA, Q_LB, Q_HB5⟩ hb_ hon hoff
       refine ⟨_, rfl, fun K hK => ?_⟩
       have e34 : a.tmps[34]? = some (.pointer (some ⟨gw, 0, none⟩)) := on_ ha 2 rfl rfl (hon 2 (by kernel_rfl)) rfl
       replace ha := Aside0.mk ha
       refine qaJ (w1 := w') (v := .pointer (some ⟨gw, 3, none⟩)) (by rfl) rfl ?_ ?_
       ·go_simp
        (try simp only [qaS])
        try rfl
       refine hK.out _ _ ⟨(by rw [ha.out]; exact qah 3 hb_ rfl rfl rfl), Q_LA, fun h0_ => absurd ((hoff 27 (by kernel_rfl)).symm.trans h0_) (by decide), Q_HB5⟩
      refine qag ?_ ?_
      ·rintro b a w' ⟨ha, Q_LA, Q_LB, Q_HB5⟩ hb_ hon hoff
       refine ⟨_, rfl, fun K hK => ?_⟩
       have e35 : a.tmps[35]? = some (.pointer (some ⟨gw, 3, none⟩)) := on_ ha 3 rfl rfl (hon 3 (by kernel_rfl)) rfl
       replace ha := Aside0.mk ha
       have LA := Aside0.mk (Q_LA (hoff 27 (by kernel_rfl)))
       have hc_ := (qbH LA.out.2.1).2.2.2
       refine qaJ (w1 := w') (v := .bool false) (by rfl) rfl ?_ ?_
       ·go_simp
        (try simp only [qaS])
        try rfl
       refine hK.out _ _ ⟨(by rw [ha.out]; exact qah 4 hb_ rfl rfl rfl), Q_LA, fun h0_ => absurd ((hoff 27 (by kernel_rfl)).symm.trans h0_) (by decide), Q_HB5⟩
      refine qag ?_ ?_
      ·rintro b a w' ⟨ha, Q_LA, Q_LB, Q_HB5⟩ hb_ hon hoff
       refine ⟨_, rfl, fun K hK => ?_⟩
       have e36 : a.tmps[36]? = some (.bool false) := on_ ha 4 rfl rfl (hon 4 (by kernel_rfl)) rfl
       replace ha := Aside0.mk ha
       refine qaJ (w1 := w') (v := .bool false) (by rfl) rfl ?_ ?_
       ·go_simp
        (try simp only [qaS])
        try rfl
       refine hK.out _ _ ⟨(by rw [ha.out]; exact qah 5 hb_ rfl rfl rfl), Q_LA, fun h0_ => absurd ((hoff 27 (by kernel_rfl)).symm.trans h0_) (by decide), Q_HB5⟩
      refine qag ?_ ?_
      ·rintro b a w' ⟨ha, Q_LA, Q_LB, Q_HB5⟩ hb_ hon hoff
       refine ⟨_, rfl, fun K hK => ?_⟩
       have e37 : a.tmps[37]? = some (.bool false) := on_ ha 5 rfl rfl (hon 5 (by kernel_rfl)) rfl
       replace ha := Aside0.mk ha
       refine off_ (qaT rfl rfl rfl (e37.trans (by first | rfl | (simp [*]; done)))) ?_
       refine hK.out _ _ ⟨(by rw [ha.out]; exact qah 6 hb_ rfl rfl rfl), Q_LA, fun h0_ => absurd ((hoff 27 (by kernel_rfl)).symm.trans h0_) (by decide), Q_HB5⟩
      refine qag ?_ ?_
      ·rintro b a w' ⟨ha, Q_LA, Q_LB, Q_HB5⟩ hb_ hon hoff
       refine ⟨_, rfl, fun K hK => ?_⟩
       have e37 : a.tmps[37]? = some (.bool false) := on_ ha 5 rfl rfl (hon 5 (by kernel_rfl)) rfl
       replace ha := Aside0.mk ha
       refine off_ (qaT rfl rfl rfl (e37.trans (by first | rfl | (simp [*]; done)))) ?_
       refine hK.out _ _ ⟨(by rw [ha.out]; exact qah 7 hb_ rfl rfl rfl), Q_LA, fun h0_ => absurd ((hoff 27 (by kernel_rfl)).symm.trans h0_) (by decide), Q_HB5⟩
      refine qag ?_ ?_
      ·rintro b a w' ⟨ha, Q_LA, Q_LB, Q_HB5⟩ hb_ hon hoff
       refine ⟨_, rfl, fun K hK => ?_⟩
       have e37 : a.tmps[37]? = some (.bool false) := on_ ha 5 rfl rfl (hon 5 (by kernel_rfl)) rfl
       replace ha := Aside0.mk ha
       refine off_ (qaT rfl rfl rfl (e37.trans (by first | rfl | (simp [*]; done)))) ?_
       refine hK.out _ _ ⟨(by rw [ha.out]; exact qah 8 hb_ rfl rfl rfl), Q_LA, fun h0_ => absurd ((hoff 27 (by kernel_rfl)).symm.trans h0_) (by decide), Q_HB5⟩
      refine qag ?_ ?_
      ·rintro b a w' ⟨ha, Q_LA, Q_LB, Q_HB5⟩ hb_ hon hoff
       refine ⟨_, rfl, fun K hK => ?_⟩
       have e37 : a.tmps[37]? = some (.bool false) := on_ ha 5 rfl rfl (hon 5 (by kernel_rfl)) rfl
       replace ha := Aside0.mk ha
       refine off_ (qaT rfl rfl rfl (e37.trans (by first | rfl | (simp [*]; done)))) ?_
       refine hK.out _ _ ⟨(by rw [ha.out]; exact qah 9 hb_ rfl rfl rfl), Q_LA, fun h0_ => absurd ((hoff 27 (by kernel_rfl)).symm.trans h0_) (by decide), Q_HB5⟩
      refine qag ?_ ?_
      ·rintro b a w' ⟨ha, Q_LA, Q_LB, Q_HB5⟩ hb_ hon hoff
       refine ⟨_, rfl, fun K hK => ?_⟩
       have e37 : a.tmps[37]? = some (.bool false) := on_ ha 5 rfl rfl (hon 5 (by kernel_rfl)) rfl
       replace ha := Aside0.mk ha
       refine off_ (qaT rfl rfl rfl (e37.trans (by first | rfl | (simp [*]; done)))) ?_
       refine hK.out _ _ ⟨(by rw [ha.out]; exact qah 10 hb_ rfl rfl rfl), Q_LA, fun h0_ => absurd ((hoff 27 (by kernel_rfl)).symm.trans h0_) (by decide), Q_HB5⟩
      refine qag ?_ ?_
      ·rintro b a w' ⟨ha, Q_LA, Q_LB, Q_HB5⟩ hb_ hon hoff
       refine ⟨_, rfl, fun K hK => ?_⟩
       have e37 : a.tmps[37]? = some (.bool false) := on_ ha 5 rfl rfl (hon 5 (by kernel_rfl)) rfl
       replace ha := Aside0.mk ha
       refine off_ (qaT rfl rfl rfl (e37.trans (by first | rfl | (simp [*]; done)))) ?_
       refine hK.out _ _ ⟨(by rw [ha.out]; exact qah 11 hb_ rfl rfl rfl), Q_LA, fun h0_ => absurd ((hoff 27 (by kernel_rfl)).symm.trans h0_) (by decide), Q_HB5⟩
      refine qag ?_ ?_
      ·rintro b a w' ⟨ha, Q_LA, Q_LB, Q_HB5⟩ hb_ hon hoff
       refine ⟨_, rfl, fun K hK => ?_⟩
       have e37 : a.tmps[37]? = some (.bool false) := on_ ha 5 rfl rfl (hon 5 (by kernel_rfl)) rfl
       replace ha := Aside0.mk ha
       refine off_ (qaT rfl rfl rfl (e37.trans (by first | rfl | (simp [*]; done)))) ?_
       refine hK.out _ _ ⟨(by rw [ha.out]; exact qah 12 hb_ rfl rfl rfl), Q_LA, fun h0_ => absurd ((hoff 27 (by kernel_rfl)).symm.trans h0_) (by decide), Q_HB5⟩
      refine qag ?_ ?_
      ·rintro b a w' ⟨ha, Q_LA, Q_LB, Q_HB5⟩ hb_ hon hoff
       refine ⟨_, rfl, fun K hK => ?_⟩
       have e37 : a.tmps[37]? = some (.bool false) := on_ ha 5 rfl rfl (hon 5 (by kernel_rfl)) rfl
       replace ha := Aside0.mk ha
       refine off_ (qaT rfl rfl rfl (e37.trans (by first | rfl | (simp [*]; done)))) ?_
       refine hK.out _ _ ⟨(by rw [ha.out]; exact qah 13 hb_ rfl rfl rfl), Q_LA, fun h0_ => absurd ((hoff 27 (by kernel_rfl)).symm.trans h0_) (by decide), Q_HB5⟩
      refine qag ?_ ?_
      ·rintro b a w' ⟨ha, Q_LA, Q_LB, Q_HB5⟩ hb_ hon hoff
       refine ⟨_, rfl, fun K hK => ?_⟩
       have e37 : a.tmps[37]? = some (.bool false) := on_ ha 5 rfl rfl (hon 5 (by kernel_rfl)) rfl
       replace ha := Aside0.mk ha
       refine off_ (qaT rfl rfl rfl (e37.trans (by first | rfl | (simp [*]; done)))) ?_
       refine hK.out _ _ ⟨(by rw [ha.out]; exact qah 14 hb_ rfl rfl rfl), Q_LA, fun h0_ => absurd ((hoff 27 (by kernel_rfl)).symm.trans h0_) (by decide), Q_HB5⟩
      refine qag ?_ ?_
      ·rintro b a w' ⟨ha, Q_LA, Q_LB, Q_HB5⟩ hb_ hon hoff
       refine ⟨_, rfl, fun K hK => ?_⟩
       have e37 : a.tmps[37]? = some (.bool false) := on_ ha 5 rfl rfl (hon 5 (by kernel_rfl)) rfl
       replace ha := Aside0.mk ha
       refine off_ (qaT rfl rfl rfl (e37.trans (by first | rfl | (simp [*]; done)))) ?_
       refine hK.out _ _ ⟨(by rw [ha.out]; exact qah 15 hb_ rfl rfl rfl), Q_LA, fun h0_ => absurd ((hoff 27 (by kernel_rfl)).symm.trans h0_) (by decide), Q_HB5⟩
      refine qag ?_ ?_
      ·rintro b a w' ⟨ha, Q_LA, Q_LB, Q_HB5⟩ hb_ hon hoff
       refine ⟨_, rfl, fun K hK => ?_⟩
       have e37 : a.tmps[37]? = some (.bool false) := on_ ha 5 rfl rfl (hon 5 (by kernel_rfl)) rfl
       replace ha := Aside0.mk ha
       refine off_ (qaT rfl rfl rfl (e37.trans (by first | rfl | (simp [*]; done)))) ?_
       refine hK.out _ _ ⟨(by rw [ha.out]; exact qah 16 hb_ rfl rfl rfl), Q_LA, fun h0_ => absurd ((hoff 27 (by kernel_rfl)).symm.trans h0_) (by decide), Q_HB5⟩
      refine qag ?_ ?_
      ·rintro b a w' ⟨ha, Q_LA, Q_LB, Q_HB5⟩ hb_ hon hoff
       refine ⟨_, rfl, fun K hK => ?_⟩
       have e37 : a.tmps[37]? = some (.bool false) := on_ ha 5 rfl rfl (hon 5 (by kernel_rfl)) rfl
       replace ha := Aside0.mk ha
       refine off_ (qaT rfl rfl rfl (e37.trans (by first | rfl | (simp [*]; done)))) ?_
       refine hK.out _ _ ⟨(by rw [ha.out]; exact qah 17 hb_ rfl rfl rfl), Q_LA, fun h0_ => absurd ((hoff 27 (by kernel_rfl)).symm.trans h0_) (by decide), Q_HB5⟩
      refine qag ?_ ?_
      ·rintro b a w' ⟨ha, Q_LA, Q_LB, Q_HB5⟩ hb_ hon hoff
       refine ⟨_, rfl, fun K hK => ?_⟩
       have e37 : a.tmps[37]? = some (.bool false) := on_ ha 5 rfl rfl (hon 5 (by kernel_rfl)) rfl
       replace ha := Aside0.mk ha
       refine off_ (qaT rfl rfl rfl (e37.trans (by first | rfl | (simp [*]; done)))) ?_
       refine hK.out _ _ ⟨(by rw [ha.out]; exact qah 18 hb_ rfl rfl rfl), Q_LA, fun h0_ => absurd ((hoff 27 (by kernel_rfl)).symm.trans h0_) (by decide), Q_HB5⟩
      refine qag ?_ ?_
      ·rintro b a w' ⟨ha, Q_LA, Q_LB, Q_HB5⟩ hb_ hon hoff
       refine ⟨_, rfl, fun K hK => ?_⟩
       have e37 : a.tmps[37]? = some (.bool false) := on_ ha 5 rfl rfl (hon 5 (by kernel_rfl)) rfl
       replace ha := Aside0.mk ha
       refine off_ (qaT rfl rfl rfl (e37.trans (by first | rfl | (simp [*]; done)))) ?_
       refine hK.out _ _ ⟨(by rw [ha.out]; exact qah 19 hb_ rfl rfl rfl), Q_LA, fun h0_ => absurd ((hoff 27 (by kernel_rfl)).symm.trans h0_) (by decide), Q_HB5⟩
      refine qag ?_ ?_
      ·rintro b a w' ⟨ha, Q_LA, Q_LB, Q_HB5⟩ hb_ hon hoff
       refine ⟨_, rfl, fun K hK => ?_⟩
       have e37 : a.tmps[37]? = some (.bool false) := on_ ha 5 rfl rfl (hon 5 (by kernel_rfl)) rfl
       replace ha := Aside0.mk ha
       refine off_ (qaT rfl rfl rfl (e37.trans (by first | rfl | (simp [*]; done)))) ?_
       refine hK.out _ _ ⟨(by rw [ha.out]; exact qah 20 hb_ rfl rfl rfl), Q_LA, fun h0_ => absurd ((hoff 27 (by kernel_rfl)).symm.trans h0_) (by decide), Q_HB5⟩
      refine qag ?_ ?_
      ·rintro b a w' ⟨ha, Q_LA, Q_LB, Q_HB5⟩ hb_ hon hoff
       refine ⟨_, rfl, fun K hK => ?_⟩
       have e37 : a.tmps[37]? = some (.bool false) := on_ ha 5 rfl rfl (hon 5 (by kernel_rfl)) rfl
       replace ha := Aside0.mk ha
       refine off_ (qaT rfl rfl rfl (e37.trans (by first | rfl | (simp [*]; done)))) ?_
       refine hK.out _ _ ⟨(by rw [ha.out]; exact qah 21 hb_ rfl rfl rfl), Q_LA, fun h0_ => absurd ((hoff 27 (by kernel_rfl)).symm.trans h0_) (by decide), Q_HB5⟩
      refine qag ?_ ?_
      ·rintro b a w' ⟨ha, Q_LA, Q_LB, Q_HB5⟩ hb_ hon hoff
       refine ⟨_, rfl, fun K hK => ?_⟩
       have e37 : a.tmps[37]? = some (.bool false) := on_ ha 5 rfl rfl (hon 5 (by kernel_rfl)) rfl
       replace ha := Aside0.mk ha
       refine off_ (qaT rfl rfl rfl (e37.trans (by first | rfl | (simp [*]; done)))) ?_
       refine hK.out _ _ ⟨(by rw [ha.out]; exact qah 22 hb_ rfl rfl rfl), Q_LA, fun h0_ => absurd ((hoff 27 (by kernel_rfl)).symm.trans h0_) (by decide), Q_HB5⟩
      refine qag ?_ ?_
      ·rintro b a w' ⟨ha, Q_LA, Q_LB, Q_HB5⟩ hb_ hon hoff
       refine ⟨_, rfl, fun K hK => ?_⟩
       have e37 : a.tmps[37]? = some (.bool false) := on_ ha 5 rfl rfl (hon 5 (by kernel_rfl)) rfl
       replace ha := Aside0.mk ha
       refine off_ (qaT rfl rfl rfl (e37.trans (by first | rfl | (simp [*]; done)))) ?_
       refine hK.out _ _ ⟨(by rw [ha.out]; exact qah 23 hb_ rfl rfl rfl), Q_LA, fun h0_ => absurd ((hoff 27 (by kernel_rfl)).symm.trans h0_) (by decide), Q_HB5⟩
      refine qag ?_ ?_
      ·rintro b a w' ⟨ha, Q_LA, Q_LB, Q_HB5⟩ hb_ hon hoff
       refine ⟨_, rfl, fun K hK => ?_⟩
       have e37 : a.tmps[37]? = some (.bool false) := on_ ha 5 rfl rfl (hon 5 (by kernel_rfl)) rfl
       have e55 : a.tmps[55]? = some (undef) := on_ ha 23 rfl rfl (hon 23 (by kernel_rfl)) rfl
       replace ha := Aside0.mk ha
       refine qaJ (w1 := w') (v := .bool false) (by rfl) rfl ?_ ?_
       ·go_simp
        (try simp only [qaS])
        try rfl
       refine hK.out _ _ ⟨(by rw [ha.out]; exact qah 24 hb_ rfl rfl rfl), Q_LA, fun h0_ => absurd ((hoff 27 (by kernel_rfl)).symm.trans h0_) (by decide), Q_HB5⟩
      refine qag ?_ ?_
      ·rintro b a w' ⟨ha, Q_LA, Q_LB, Q_HB5⟩ hb_ hon hoff
       refine ⟨_, rfl, fun K hK => ?_⟩
       have e32 : a.tmps[32]? = some (.pointer (some ⟨gw, 0, none⟩)) := on_ ha 0 rfl rfl (hon 0 (by kernel_rfl)) rfl
       replace ha := Aside0.mk ha
       refine qaJ (w1 := w') (v := .pointer (some ⟨gw, 0, none⟩)) (by rfl) rfl ?_ ?_
       ·go_simp
        (try simp only [qaS])
        try rfl
       refine hK.out _ _ ⟨(by rw [ha.out]; exact qah 25 hb_ rfl rfl rfl), Q_LA, fun h0_ => absurd ((hoff 27 (by kernel_rfl)).symm.trans h0_) (by decide), Q_HB5⟩
      refine qag ?_ ?_
      ·rintro b a w' ⟨ha, Q_LA, Q_LB, Q_HB5⟩ hb_ hon hoff
       refine ⟨_, rfl, fun K hK => ?_⟩
       have e57 : a.tmps[57]? = some (.pointer (some ⟨gw, 0, none⟩)) := on_ ha 25 rfl rfl (hon 25 (by kernel_rfl)) rfl
       replace ha := Aside0.mk ha
       refine qaJ (w1 := w') (v := .pointer (some ⟨gw, 3, none⟩)) (by rfl) rfl ?_ ?_
       ·go_simp
        (try simp only [qaS])
        try rfl
       refine hK.out _ _ ⟨(by rw [ha.out]; exact qah 26 hb_ rfl rfl rfl), Q_LA, fun h0_ => absurd ((hoff 27 (by kernel_rfl)).symm.trans h0_) (by decide), Q_HB5⟩
      refine qag ?_ ?_
      ·rintro b a w' ⟨ha, Q_LA, Q_LB, Q_HB5⟩ hb_ hon hoff
       refine ⟨_, rfl, fun K hK => ?_⟩
       have e58 : a.tmps[58]? = some (.pointer (some ⟨gw, 3, none⟩)) := on_ ha 26 rfl rfl (hon 26 (by kernel_rfl)) rfl
       have e56 : a.tmps[56]? = some (.bool false) := on_ ha 24 rfl rfl (hon 24 (by kernel_rfl)) rfl
       replace ha := Aside0.mk ha
       have LA := Aside0.mk (Q_LA hb_)
       have HB5 := Aside0.mk Q_HB5
       have hc0_ := (qbH LA.out.2.1).2.2.2
       have hf0_ := qad LA.out.2.1 3
       refine qgY (w1 := w'.setCell ⟨gw, 3, none⟩ (.bool false)) (by rfl) rfl ?_ ?_
       ·go_simp
       refine hK.out _ _ ⟨(by rw [ha.out]; exact qcD (v := undef) rfl), fun h0_ => absurd ((qcy b 27).symm.trans h0_) (by decide), fun _ => LA.out.qdl false, HB5.out.setCell (p := ⟨gw, 3, none⟩) LA.out.1 _⟩
      exact qb7
     rintro b a w' hall ⟨ha, Q_LA, Q_LB, Q_HB5⟩
     clear HB5 LA
     have hb0_ := hall 0 (by kernel_rfl)
     have hb1_ := hall 1 (by kernel_rfl)
     have hb2_ := hall 2 (by kernel_rfl)
     have hb3_ := hall 3 (by kernel_rfl)
     have hb4_ := hall 4 (by kernel_rfl)
     have hb5_ := hall 5 (by kernel_rfl)
     have hb6_ := hall 6 (by kernel_rfl)
     have hb7_ := hall 7 (by kernel_rfl)
     have hb8_ := hall 8 (by kernel_rfl)
     have hb9_ := hall 9 (by kernel_rfl)
     have hb10_ := hall 10 (by kernel_rfl)
     have hb11_ := hall 11 (by kernel_rfl)
     have hb12_ := hall 12 (by kernel_rfl)
     have hb13_ := hall 13 (by kernel_rfl)
     have hb14_ := hall 14 (by kernel_rfl)
     have hb15_ := hall 15 (by kernel_rfl)
     have hb16_ := hall 16 (by kernel_rfl)
     have hb17_ := hall 17 (by kernel_rfl)
     have hb18_ := hall 18 (by kernel_rfl)
     have hb19_ := hall 19 (by kernel_rfl)
     have hb20_ := hall 20 (by kernel_rfl)
     have hb21_ := hall 21 (by kernel_rfl)
     have hb22_ := hall 22 (by kernel_rfl)
     have hb23_ := hall 23 (by kernel_rfl)
     have hb24_ := hall 24 (by kernel_rfl)
     have hb25_ := hall 25 (by kernel_rfl)
     have hb26_ := hall 26 (by kernel_rfl)
     have hb27_ := hall 27 (by kernel_rfl)
     subst ha
     simp only [qbq, hb0_, hb1_, hb2_, hb3_, hb4_, hb5_, hb6_, hb7_, hb8_, hb9_, hb10_, hb11_, hb12_, hb13_, hb14_, hb15_, hb16_, hb17_, hb18_, hb19_, hb20_, hb21_, hb22_, hb23_, hb24_, hb25_, hb26_, hb27_, if_true, Act.put, List.setIfInBounds_toArray, List.set_cons_zero, List.set_cons_succ]
     clear Q_LA
     have LB := Aside0.mk (Q_LB hb27_)
     clear Q_LB
     have HB5 := Aside0.mk Q_HB5
     clear Q_HB5
     clear hall hb0_ hb1_ hb2_ hb3_ hb4_ hb5_ hb6_ hb7_ hb8_ hb9_ hb10_ hb11_ hb12_ hb13_ hb14_ hb15_ hb16_ hb17_ hb18_ hb19_ hb20_ hb21_ hb22_ hb23_ hb24_ hb25_ hb26_ hb27_
     go_wp2_with fail
     go_roundw
     case rel => exact ⟨j + 1 + 1, false, by omega, by omega, by go_num, LB, HB5, HE2⟩
     case measure => simp [intOf]; omega
    | true =>
     obtain ⟨bl, hless⟩ : ∃ bl, Op.bytesLess k1.toList k2.toList = bl := ⟨_, rfl⟩
     have HE2 := Aside0.mk (show (bl && qch (qcH P) (j + 1 + 1) (P.length - (j + 1 + 1))) = (b && riseB P) from by have h := HE.out; rw [HKL.out, hless, Bool.true_and] at h; exact h)
     have HLS := Aside0.mk hless
     clear hless
     refine qcz (n := 28) (S := fun w' => True) (ds := []) #[false, false, false, false, false, false, false, false, false, false, false, false, false, false, false, false, false, false, false, false, false, false, false, false, false, false, false, false] (by kernel_rfl) rfl rfl trivial (fun hHeld => ?_)
     refine qbU sWalk.tab7 sWalk.bits7 (fun HT_ HW_ => ?_)
     generalize wr.drew = wd at LA HB5 ⊢
     refine qcY [0, 1, 2, 3, 4, 5, 6, 7, 8, 9, 10, 11, 12, 13, 14, 15, 16, 17, 18, 19, 20, 21, 22, 23, 24, 25, 26, 27] (fun a0_ b a w' => a = qbq a0_ b [(0, 32, .pointer (some ⟨gw, 0, none⟩)), (1, 33, .pointer (some ⟨gw, 0, none⟩)), (2, 34, .pointer (some ⟨gw, 0, none⟩)), (3, 35, .pointer (some ⟨gw, 3, none⟩)), (4, 36, .bool true), (5, 37, .bool true), (6, 38, .pointer (some ⟨gw, 0, none⟩)), (7, 39, .pointer (some ⟨gw, 0, none⟩)), (8, 40, .pointer (some ⟨gw, 1, none⟩)), (9, 41, .slice (some ⟨gp, 0, none⟩) P.length vpc), (10, 42, .int .i64 ((j + 1 : Nat) : Int)), (11, 43, .int .i64 (j : Int)), (12, 44, .pointer (some ⟨gp, j * 2, none⟩)), (13, 45, .pointer (some ⟨gp, j * 2, none⟩)), (14, 46, .string k1), (15, 47, .pointer (some ⟨gw, 0, none⟩)), (16, 48, .pointer (some ⟨gw, 0, none⟩)), (17, 49, .pointer (some ⟨gw, 1, none⟩)), (18, 50, .slice (some ⟨gp, 0, none⟩) P.length vpc), (19, 51, .int .i64 ((j + 1 : Nat) : Int)), (20, 52, .pointer (some ⟨gp, (j + 1) * 2, none⟩)), (21, 53, .pointer (some ⟨gp, (j + 1) * 2, none⟩)), (22, 54, .string k2), (23, 55, .bool bl), (24, 56, .bool bl), (25, 57, .pointer (some ⟨gw, 0, none⟩)), (26, 58, .pointer (some ⟨gw, 3, none⟩))] ∧ (b 27 = false → LkAt w w' gw (.slice A0_0 l0_0.length c0_0) (.slice (some ⟨gp, 0, none⟩) P.length vpc) (.slice vsA S.length vsc) true P S) ∧ (b 27 = true → LkAt w w' gw (.slice A0_0 l0_0.length c0_0) (.slice (some ⟨gp, 0, none⟩) P.length vpc) (.slice vsA S.length vsc) bl P S) ∧ (Below w.heap.size w w')) HT_.out HW_.out (by kernel_rfl) (by kernel_rfl) ?_ ?_ ?_
     ·exact ⟨by simp only [qbq, Bool.false_eq_true, if_false], fun _ => LA.out, fun h_ => absurd h_ (by decide), HB5.out⟩
     ·skip
      clear HB5 LA
      refine qag ?_ ?_
      ·rintro b a w' ⟨ha, Q_LA, Q_LB, Q_HB5⟩ hb_ hon hoff
       refine ⟨_, rfl, fun K hK => ?_⟩
       have e7 : a.tmps[7]? = some (.pointer (some ⟨gw, 0, none⟩)) := by rw [ha]; exact (qa7 rfl).trans rfl
       replace ha := Aside0.mk ha
       refine qaJ (w1 := w') (v := .pointer (some ⟨gw, 0, none⟩)) (by rfl) rfl ?_ ?_
       ·go_simp
        (try simp only [qaS])
        try rfl
       refine hK.out _ _ ⟨(by rw [ha.out]; exact qah 0 hb_ rfl rfl rfl), Q_LA, fun h0_ => absurd ((hoff 27 (by kernel_rfl)).symm.trans h0_) (by decide), Q_HB5⟩
      refine qag ?_ ?_
      ·rintro b a w' ⟨ha, Q_LA, Q_LB, Q_HB5⟩ hb_ hon hoff
       refine ⟨_, rfl, fun K hK => ?_⟩
       have e7 : a.tmps[7]? = some (.pointer (some ⟨gw, 0, none⟩)) := by rw [ha]; exact (qa7 rfl).trans rfl
       replace ha := Aside0.mk ha
       refine qaJ (w1 := w') (v := .pointer (some ⟨gw, 0, none⟩)) (by rfl) rfl ?_ ?_
       ·go_simp
        (try simp only [qaS])
        try rfl
       refine hK.out _ _ ⟨(by rw [ha.out]; exact qah 1 hb_ rfl rfl rfl), Q_LA, fun h0_ => absurd ((hoff 27 (by kernel_rfl)).symm.trans h0_) (by decide), Q_HB5⟩
      refine qag ?_ ?_
      ·rintro b a w' ⟨ha, Q_LA, Q_LB, Q_HB5⟩ hb_ hon hoff
       refine ⟨_, rfl, fun K hK => ?_⟩
       have e33 : a.tmps[33]? = some (.pointer (some ⟨gw, 0, none⟩)) := on_ ha 1 rfl rfl (hon 1 (by kernel_rfl)) rfl
       replace ha := Aside0.mk ha
       refine qaJ (w1 := w') (v := .pointer (some ⟨gw, 0, none⟩)) (by rfl) rfl ?_ ?_
       ·go_simp
        (try simp only [qaS])
        try rfl
       refine hK.out _ _ ⟨(by rw [ha.out]; exact qah 2 hb_ rfl rfl rfl), Q_LA, fun h0_ => absurd ((hoff 27 (by kernel_rfl)).symm.trans h0_) (by decide), Q_HB5⟩
      refine qag ?_ ?_
      ·rintro b a w' ⟨ha, Q_LA, Q_LB, Q_HB5⟩ hb_ hon hoff
       refine ⟨_, rfl, fun K hK => ?_⟩
       have e34 : a.tmps[34]? = some (.pointer (some ⟨gw, 0, none⟩)) := on_ ha 2 rfl rfl (hon 2 (by kernel_rfl)) rfl
       replace ha := Aside0.mk ha
       refine qaJ (w1 := w') (v := .pointer (some ⟨gw, 3, none⟩)) (by rfl) rfl ?_ ?_
       ·go_simp
        (try simp only [qaS])
        try rfl
       refine hK.out _ _ ⟨(by rw [ha.out]; exact qah 3 hb_ rfl rfl rfl), Q_LA, fun h0_ => absurd ((hoff 27 (by kernel_rfl)).symm.trans h0_) (by decide), Q_HB5⟩
      refine qag ?_ ?_
      ·rintro b a w' ⟨ha, Q_LA, Q_LB, Q_HB5⟩ hb_ hon hoff
       refine ⟨_, rfl, fun K hK => ?_⟩
       have e35 : a.tmps[35]? = some (.pointer (some ⟨gw, 3, none⟩)) := on_ ha 3 rfl rfl (hon 3 (by kernel_rfl)) rfl
       replace ha := Aside0.mk ha
       have LA := Aside0.mk (Q_LA (hoff 27 (by kernel_rfl)))
       have hc_ := (qbH LA.out.2.1).2.2.2
       refine qaJ (w1 := w') (v := .bool true) (by rfl) rfl ?_ ?_
       ·go_simp
        (try simp only [qaS])
        try rfl
       refine hK.out _ _ ⟨(by rw [ha.out]; exact qah 4 hb_ rfl rfl rfl), Q_LA, fun h0_ => absurd ((hoff 27 (by kernel_rfl)).symm.trans h0_) (by decide), Q_HB5⟩
      refine qag ?_ ?_
      ·rintro b a w' ⟨ha, Q_LA, Q_LB, Q_HB5⟩ hb_ hon hoff
       refine ⟨_, rfl, fun K hK => ?_⟩
       have e36 : a.tmps[36]? = some (.bool true) := on_ ha 4 rfl rfl (hon 4 (by kernel_rfl)) rfl
       replace ha := Aside0.mk ha
       refine qaJ (w1 := w') (v := .bool true) (by rfl) rfl ?_ ?_
       ·go_simp
        (try simp only [qaS])
        try rfl
       refine hK.out _ _ ⟨(by rw [ha.out]; exact qah 5 hb_ rfl rfl rfl), Q_LA, fun h0_ => absurd ((hoff 27 (by kernel_rfl)).symm.trans h0_) (by decide), Q_HB5⟩
      refine qag ?_ ?_
      ·rintro b a w' ⟨ha, Q_LA, Q_LB, Q_HB5⟩ hb_ hon hoff
       refine ⟨_, rfl, fun K hK => ?_⟩
       have e7 : a.tmps[7]? = some (.pointer (some ⟨gw, 0, none⟩)) := by rw [ha]; exact (qa7 rfl).trans rfl
       have e37 : a.tmps[37]? = some (.bool true) := on_ ha 5 rfl rfl (hon 5 (by kernel_rfl)) rfl
       replace ha := Aside0.mk ha
       refine qaJ (w1 := w') (v := .pointer (some ⟨gw, 0, none⟩)) (qa1 rfl rfl rfl (e37.trans (by first | rfl | (simp [*]; done)))) rfl ?_ ?_
       ·go_simp
        (try simp only [qaS])
        try rfl
       refine hK.out _ _ ⟨(by rw [ha.out]; exact qah 6 hb_ rfl rfl rfl), Q_LA, fun h0_ => absurd ((hoff 27 (by kernel_rfl)).symm.trans h0_) (by decide), Q_HB5⟩
      refine qag ?_ ?_
      ·rintro b a w' ⟨ha, Q_LA, Q_LB, Q_HB5⟩ hb_ hon hoff
       refine ⟨_, rfl, fun K hK => ?_⟩
       have e38 : a.tmps[38]? = some (.pointer (some ⟨gw, 0, none⟩)) := on_ ha 6 rfl rfl (hon 6 (by kernel_rfl)) rfl
       have e37 : a.tmps[37]? = some (.bool true) := on_ ha 5 rfl rfl (hon 5 (by kernel_rfl)) rfl
       replace ha := Aside0.mk ha
       refine qaJ (w1 := w') (v := .pointer (some ⟨gw, 0, none⟩)) (qa1 rfl rfl rfl (e37.trans (by first | rfl | (simp [*]; done)))) rfl ?_ ?_
       ·go_simp
        (try simp only [qaS])
        try rfl
       refine hK.out _ _ ⟨(by rw [ha.out]; exact qah 7 hb_ rfl rfl rfl), Q_LA, fun h0_ => absurd ((hoff 27 (by kernel_rfl)).symm.trans h0_) (by decide), Q_HB5⟩
      refine qag ?_ ?_
      ·rintro b a w' ⟨ha, Q_LA, Q_LB, Q_HB5⟩ hb_ hon hoff
       refine ⟨_, rfl, fun K hK => ?_⟩
       have e39 : a.tmps[39]? = some (.pointer (some ⟨gw, 0, none⟩)) := on_ ha 7 rfl rfl (hon 7 (by kernel_rfl)) rfl
       have e37 : a.tmps[37]? = some (.bool true) := on_ ha 5 rfl rfl (hon 5 (by kernel_rfl)) rfl
       replace ha := Aside0.mk ha
       refine qaJ (w1 := w') (v := .pointer (some ⟨gw, 1, none⟩)) (qa1 rfl rfl rfl (e37.trans (by first | rfl | (simp [*]; done)))) rfl ?_ ?_
       ·go_simp
        (try simp only [qaS])
        try rfl
       refine hK.out _ _ ⟨(by rw [ha.out]; exact qah 8 hb_ rfl rfl rfl), Q_LA, fun h0_ => absurd ((hoff 27 (by kernel_rfl)).symm.trans h0_) (by decide), Q_HB5⟩
      refine qag ?_ ?_
      ·rintro b a w' ⟨ha, Q_LA, Q_LB, Q_HB5⟩ hb_ hon hoff
       refine ⟨_, rfl, fun K hK => ?_⟩
       have e40 : a.tmps[40]? = some (.pointer (some ⟨gw, 1, none⟩)) := on_ ha 8 rfl rfl (hon 8 (by kernel_rfl)) rfl
       have e37 : a.tmps[37]? = some (.bool true) := on_ ha 5 rfl rfl (hon 5 (by kernel_rfl)) rfl
       replace ha := Aside0.mk ha
       have LA := Aside0.mk (Q_LA (hoff 27 (by kernel_rfl)))
       have hc_ := (qbH LA.out.2.1).2.1
       refine qaJ (w1 := w') (v := .slice (some ⟨gp, 0, none⟩) P.length vpc) (qa1 rfl rfl rfl (e37.trans (by first | rfl | (simp [*]; done)))) rfl ?_ ?_
       ·go_simp
        (try simp only [qaS])
        try rfl
       refine hK.out _ _ ⟨(by rw [ha.out]; exact qah 9 hb_ rfl rfl rfl), Q_LA, fun h0_ => absurd ((hoff 27 (by kernel_rfl)).symm.trans h0_) (by decide), Q_HB5⟩
      refine qag ?_ ?_
      ·rintro b a w' ⟨ha, Q_LA, Q_LB, Q_HB5⟩ hb_ hon hoff
       refine ⟨_, rfl, fun K hK => ?_⟩
       have e8 : a.tmps[8]? = some (.int .i64 ((j + 1 : Nat) : Int)) := by rw [ha]; exact (qa7 rfl).trans rfl
       have e37 : a.tmps[37]? = some (.bool true) := on_ ha 5 rfl rfl (hon 5 (by kernel_rfl)) rfl
       replace ha := Aside0.mk ha
       refine qaJ (w1 := w') (v := .int .i64 ((j + 1 : Nat) : Int)) (qa1 rfl rfl rfl (e37.trans (by first | rfl | (simp [*]; done)))) rfl ?_ ?_
       ·go_simp
        (try simp only [qaS])
        try rfl
       refine hK.out _ _ ⟨(by rw [ha.out]; exact qah 10 hb_ rfl rfl rfl), Q_LA, fun h0_ => absurd ((hoff 27 (by kernel_rfl)).symm.trans h0_) (by decide), Q_HB5⟩
      refine qag ?_ ?_
      ·rintro b a w' ⟨ha, Q_LA, Q_LB, Q_HB5⟩ hb_ hon hoff
       refine ⟨_, rfl, fun K hK => ?_⟩
       have e42 : a.tmps[42]? = some (.int .i64 ((j + 1 : Nat) : Int)) := on_ ha 10 rfl rfl (hon 10 (by kernel_rfl)) rfl
       have e37 : a.tmps[37]? = some (.bool true) := on_ ha 5 rfl rfl (hon 5 (by kernel_rfl)) rfl
       replace ha := Aside0.mk ha
       have hw_ := HWJ.out
       refine qaJ (w1 := w') (v := .int .i64 (j : Int)) (qa1 rfl rfl rfl (e37.trans (by first | rfl | (simp [*]; done)))) rfl ?_ ?_
       ·go_simp
        (try simp only [qaS])
        try rfl
       refine hK.out _ _ ⟨(by rw [ha.out]; exact qah 11 hb_ rfl rfl rfl), Q_LA, fun h0_ => absurd ((hoff 27 (by kernel_rfl)).symm.trans h0_) (by decide), Q_HB5⟩
      refine qag ?_ ?_
      ·rintro b a w' ⟨ha, Q_LA, Q_LB, Q_HB5⟩ hb_ hon hoff
       refine ⟨_, rfl, fun K hK => ?_⟩
       have e41 : a.tmps[41]? = some (.slice (some ⟨gp, 0, none⟩) P.length vpc) := on_ ha 9 rfl rfl (hon 9 (by kernel_rfl)) rfl
       have e43 : a.tmps[43]? = some (.int .i64 (j : Int)) := on_ ha 11 rfl rfl (hon 11 (by kernel_rfl)) rfl
       have e37 : a.tmps[37]? = some (.bool true) := on_ ha 5 rfl rfl (hon 5 (by kernel_rfl)) rfl
       replace ha := Aside0.mk ha
       have y1_ : (j : Int) < (P.length : Int) := by have := HJ.out; omega
       have y0_ : 0 ≤ (j : Int) := by omega
       refine qaJ (w1 := w') (v := .pointer (some ⟨gp, j * 2, none⟩)) (qa1 rfl rfl rfl (e37.trans (by first | rfl | (simp [*]; done)))) rfl ?_ ?_
       ·go_simp
        (try simp only [qaS])
        try rfl
       refine hK.out _ _ ⟨(by rw [ha.out]; exact qah 12 hb_ rfl rfl rfl), Q_LA, fun h0_ => absurd ((hoff 27 (by kernel_rfl)).symm.trans h0_) (by decide), Q_HB5⟩
      refine qag ?_ ?_
      ·rintro b a w' ⟨ha, Q_LA, Q_LB, Q_HB5⟩ hb_ hon hoff
       refine ⟨_, rfl, fun K hK => ?_⟩
       have e44 : a.tmps[44]? = some (.pointer (some ⟨gp, j * 2, none⟩)) := on_ ha 12 rfl rfl (hon 12 (by kernel_rfl)) rfl
       have e37 : a.tmps[37]? = some (.bool true) := on_ ha 5 rfl rfl (hon 5 (by kernel_rfl)) rfl
       replace ha := Aside0.mk ha
       refine qaJ (w1 := w') (v := .pointer (some ⟨gp, j * 2, none⟩)) (qa1 rfl rfl rfl (e37.trans (by first | rfl | (simp [*]; done)))) rfl ?_ ?_
       ·go_simp
        (try simp only [qaS])
        try rfl
       refine hK.out _ _ ⟨(by rw [ha.out]; exact qah 13 hb_ rfl rfl rfl), Q_LA, fun h0_ => absurd ((hoff 27 (by kernel_rfl)).symm.trans h0_) (by decide), Q_HB5⟩
      refine qag ?_ ?_
      ·rintro b a w' ⟨ha, Q_LA, Q_LB, Q_HB5⟩ hb_ hon hoff
       refine ⟨_, rfl, fun K hK => ?_⟩
       have e45 : a.tmps[45]? = some (.pointer (some ⟨gp, j * 2, none⟩)) := on_ ha 13 rfl rfl (hon 13 (by kernel_rfl)) rfl
       have e37 : a.tmps[37]? = some (.bool true) := on_ ha 5 rfl rfl (hon 5 (by kernel_rfl)) rfl
       replace ha := Aside0.mk ha
       have LA := Aside0.mk (Q_LA (hoff 27 (by kernel_rfl)))
       have hc_ := qdX LA.out.2.2.2 (j := j) (by have := HJ.out; omega)
       rw [HK1.out] at hc_
       refine qaJ (w1 := w') (v := .string k1) (qa1 rfl rfl rfl (e37.trans (by first | rfl | (simp [*]; done)))) rfl ?_ ?_
       ·go_simp
        (try simp only [qaS])
        try rfl
       refine hK.out _ _ ⟨(by rw [ha.out]; exact qah 14 hb_ rfl rfl rfl), Q_LA, fun h0_ => absurd ((hoff 27 (by kernel_rfl)).symm.trans h0_) (by decide), Q_HB5⟩
      refine qag ?_ ?_
      ·rintro b a w' ⟨ha, Q_LA, Q_LB, Q_HB5⟩ hb_ hon hoff
       refine ⟨_, rfl, fun K hK => ?_⟩
       have e7 : a.tmps[7]? = some (.pointer (some ⟨gw, 0, none⟩)) := by rw [ha]; exact (qa7 rfl).trans rfl
       have e37 : a.tmps[37]? = some (.bool true) := on_ ha 5 rfl rfl (hon 5 (by kernel_rfl)) rfl
       replace ha := Aside0.mk ha
       refine qaJ (w1 := w') (v := .pointer (some ⟨gw, 0, none⟩)) (qa1 rfl rfl rfl (e37.trans (by first | rfl | (simp [*]; done)))) rfl ?_ ?_
       ·go_simp
        (try simp only [qaS])
        try rfl
       refine hK.out _ _ ⟨(by rw [ha.out]; exact qah 15 hb_ rfl rfl rfl), Q_LA, fun h0_ => absurd ((hoff 27 (by kernel_rfl)).symm.trans h0_) (by decide), Q_HB5⟩
      refine qag ?_ ?_
      ·rintro b a w' ⟨ha, Q_LA, Q_LB, Q_HB5⟩ hb_ hon hoff
       refine ⟨_, rfl, fun K hK => ?_⟩
       have e47 : a.tmps[47]? = some (.pointer (some ⟨gw, 0, none⟩)) := on_ ha 15 rfl rfl (hon 15 (by kernel_rfl)) rfl
       have e37 : a.tmps[37]? = some (.bool true) := on_ ha 5 rfl rfl (hon 5 (by kernel_rfl)) rfl
       replace ha := Aside0.mk ha
       refine qaJ (w1 := w') (v := .pointer (some ⟨gw, 0, none⟩)) (qa1 rfl rfl rfl (e37.trans (by first | rfl | (simp [*]; done)))) rfl ?_ ?_
       ·go_simp
        (try simp only [qaS])
        try rfl
       refine hK.out _ _ ⟨(by rw [ha.out]; exact qah 16 hb_ rfl rfl rfl), Q_LA, fun h0_ => absurd ((hoff 27 (by kernel_rfl)).symm.trans h0_) (by decide), Q_HB5⟩
      refine qag ?_ ?_
      ·rintro b a w' ⟨ha, Q_LA, Q_LB, Q_HB5⟩ hb_ hon hoff
       refine ⟨_, rfl, fun K hK => ?_⟩
       have e48 : a.tmps[48]? = some (.pointer (some ⟨gw, 0, none⟩)) := on_ ha 16 rfl rfl (hon 16 (by kernel_rfl)) rfl
       have e37 : a.tmps[37]? = some (.bool true) := on_ ha 5 rfl rfl (hon 5 (by kernel_rfl)) rfl
       replace ha := Aside0.mk ha
       refine qaJ (w1 := w') (v := .pointer (some ⟨gw, 1, none⟩)) (qa1 rfl rfl rfl (e37.trans (by first | rfl | (simp [*]; done)))) rfl ?_ ?_
       ·go_simp
        (try simp only [qaS])
        try rfl
       refine hK.out _ _ ⟨(by rw [ha.out]; exact qah 17 hb_ rfl rfl rfl), Q_LA, fun h0_ => absurd ((hoff 27 (by kernel_rfl)).symm.trans h0_) (by decide), Q_HB5⟩
      refine qag ?_ ?_
      ·rintro b a w' ⟨ha, Q_LA, Q_LB, Q_HB5⟩ hb_ hon hoff
       refine ⟨_, rfl, fun K hK => ?_⟩
       have e49 : a.tmps[49]? = some (.pointer (some ⟨gw, 1, none⟩)) := on_ ha 17 rfl rfl (hon 17 (by kernel_rfl)) rfl
       have e37 : a.tmps[37]? = some (.bool true) := on_ ha 5 rfl rfl (hon 5 (by kernel_rfl)) rfl
       replace ha := Aside0.mk ha
       have LA := Aside0.mk (Q_LA (hoff 27 (by kernel_rfl)))
       have hc_ := (qbH LA.out.2.1).2.1
       refine qaJ (w1 := w') (v := .slice (some ⟨gp, 0, none⟩) P.length vpc) (qa1 rfl rfl rfl (e37.trans (by first | rfl | (simp [*]; done)))) rfl ?_ ?_
       ·go_simp
        (try simp only [qaS])
        try rfl
       refine hK.out _ _ ⟨(by rw [ha.out]; exact qah 18 hb_ rfl rfl rfl), Q_LA, fun h0_ => absurd ((hoff 27 (by kernel_rfl)).symm.trans h0_) (by decide), Q_HB5⟩
      refine qag ?_ ?_
      ·rintro b a w' ⟨ha, Q_LA, Q_LB, Q_HB5⟩ hb_ hon hoff
       refine ⟨_, rfl, fun K hK => ?_⟩
       have e8 : a.tmps[8]? = some (.int .i64 ((j + 1 : Nat) : Int)) := by rw [ha]; exact (qa7 rfl).trans rfl
       have e37 : a.tmps[37]? = some (.bool true) := on_ ha 5 rfl rfl (hon 5 (by kernel_rfl)) rfl
       replace ha := Aside0.mk ha
       refine qaJ (w1 := w') (v := .int .i64 ((j + 1 : Nat) : Int)) (qa1 rfl rfl rfl (e37.trans (by first | rfl | (simp [*]; done)))) rfl ?_ ?_
       ·go_simp
        (try simp only [qaS])
        try rfl
       refine hK.out _ _ ⟨(by rw [ha.out]; exact qah 19 hb_ rfl rfl rfl), Q_LA, fun h0_ => absurd ((hoff 27 (by kernel_rfl)).symm.trans h0_) (by decide), Q_HB5⟩
      refine qag ?_ ?_
      ·rintro b a w' ⟨ha, Q_LA, Q_LB, Q_HB5⟩ hb_ hon hoff
       refine ⟨_, rfl, fun K hK => ?_⟩
       have e50 : a.tmps[50]? = some (.slice (some ⟨gp, 0, none⟩) P.length vpc) := on_ ha 18 rfl rfl (hon 18 (by kernel_rfl)) rfl
       have e51 : a.tmps[51]? = some (.int .i64 ((j + 1 : Nat) : Int)) := on_ ha 19 rfl rfl (hon 19 (by kernel_rfl)) rfl
       have e37 : a.tmps[37]? = some (.bool true) := on_ ha 5 rfl rfl (hon 5 (by kernel_rfl)) rfl
       replace ha := Aside0.mk ha
       have y1_ : ((j + 1 : Nat) : Int) < (P.length : Int) := by have := HJ.out; omega
       have y0_ : 0 ≤ ((j + 1 : Nat) : Int) := by omega
       have y2_ : ((j + 1 : Nat) : Int).toNat = j + 1 := by omega
       have y3_ : ¬ ((j : Int) + 1 < 0) := by omega
       have y4_ : (j : Int) + 1 < (P.length : Int) := by have := HJ.out; omega
       have y5_ : ((j : Int) + 1).toNat = j + 1 := by omega
       have y6_ : 0 ≤ (j : Int) + 1 := by omega
       refine qaJ (w1 := w') (v := .pointer (some ⟨gp, (j + 1) * 2, none⟩)) (qa1 rfl rfl rfl (e37.trans (by first | rfl | (simp [*]; done)))) rfl ?_ ?_
       ·go_simp
        (try simp only [qaS])
        try rfl
       refine hK.out _ _ ⟨(by rw [ha.out]; exact qah 20 hb_ rfl rfl rfl), Q_LA, fun h0_ => absurd ((hoff 27 (by kernel_rfl)).symm.trans h0_) (by decide), Q_HB5⟩
      refine qag ?_ ?_
      ·rintro b a w' ⟨ha, Q_LA, Q_LB, Q_HB5⟩ hb_ hon hoff
       refine ⟨_, rfl, fun K hK => ?_⟩
       have e52 : a.tmps[52]? = some (.pointer (some ⟨gp, (j + 1) * 2, none⟩)) := on_ ha 20 rfl rfl (hon 20 (by kernel_rfl)) rfl
       have e37 : a.tmps[37]? = some (.bool true) := on_ ha 5 rfl rfl (hon 5 (by kernel_rfl)) rfl
       replace ha := Aside0.mk ha
       refine qaJ (w1 := w') (v := .pointer (some ⟨gp, (j + 1) * 2, none⟩)) (qa1 rfl rfl rfl (e37.trans (by first | rfl | (simp [*]; done)))) rfl ?_ ?_
       ·go_simp
        (try simp only [qaS])
        try rfl
       refine hK.out _ _ ⟨(by rw [ha.out]; exact qah 21 hb_ rfl rfl rfl), Q_LA, fun h0_ => absurd ((hoff 27 (by kernel_rfl)).symm.trans h0_) (by decide), Q_HB5⟩
      refine qag ?_ ?_
      ·rintro b a w' ⟨ha, Q_LA, Q_LB, Q_HB5⟩ hb_ hon hoff
       refine ⟨_, rfl, fun K hK => ?_⟩
       have e53 : a.tmps[53]? = some (.pointer (some ⟨gp, (j + 1) * 2, none⟩)) := on_ ha 21 rfl rfl (hon 21 (by kernel_rfl)) rfl
       have e37 : a.tmps[37]? = some (.bool true) := on_ ha 5 rfl rfl (hon 5 (by kernel_rfl)) rfl
       replace ha := Aside0.mk ha
       have LA := Aside0.mk (Q_LA (hoff 27 (by kernel_rfl)))
       have hc_ := qdX LA.out.2.2.2 (j := j + 1) HJ.out
       rw [HK2.out] at hc_
       refine qaJ (w1 := w') (v := .string k2) (qa1 rfl rfl rfl (e37.trans (by first | rfl | (simp [*]; done)))) rfl ?_ ?_
       ·go_simp
        (try simp only [qaS])
        try rfl
       refine hK.out _ _ ⟨(by rw [ha.out]; exact qah 22 hb_ rfl rfl rfl), Q_LA, fun h0_ => absurd ((hoff 27 (by kernel_rfl)).symm.trans h0_) (by decide), Q_HB5⟩
      refine qag ?_ ?_
      ·rintro b a w' ⟨ha, Q_LA, Q_LB, Q_HB5⟩ hb_ hon hoff
       refine ⟨_, rfl, fun K hK => ?_⟩
       have e46 : a.tmps[46]? = some (.string k1) := on_ ha 14 rfl rfl (hon 14 (by kernel_rfl)) rfl
       have e54 : a.tmps[54]? = some (.string k2) := on_ ha 22 rfl rfl (hon 22 (by kernel_rfl)) rfl
       have e37 : a.tmps[37]? = some (.bool true) := on_ ha 5 rfl rfl (hon 5 (by kernel_rfl)) rfl
       replace ha := Aside0.mk ha
       have hc_ := HLS.out
       refine qaJ (w1 := w') (v := .bool bl) (qa1 rfl rfl rfl (e37.trans (by first | rfl | (simp [*]; done)))) rfl ?_ ?_
       ·go_simp
        (try simp only [qaS])
        try rfl
       refine hK.out _ _ ⟨(by rw [ha.out]; exact qah 23 hb_ rfl rfl rfl), Q_LA, fun h0_ => absurd ((hoff 27 (by kernel_rfl)).symm.trans h0_) (by decide), Q_HB5⟩
      refine qag ?_ ?_
      ·rintro b a w' ⟨ha, Q_LA, Q_LB, Q_HB5⟩ hb_ hon hoff
       refine ⟨_, rfl, fun K hK => ?_⟩
       have e37 : a.tmps[37]? = some (.bool true) := on_ ha 5 rfl rfl (hon 5 (by kernel_rfl)) rfl
       have e55 : a.tmps[55]? = some (.bool bl) := on_ ha 23 rfl rfl (hon 23 (by kernel_rfl)) rfl
       replace ha := Aside0.mk ha
       refine qaJ (w1 := w') (v := .bool bl) (by rfl) rfl ?_ ?_
       ·go_simp
        (try simp only [qaS])
        try rfl
       refine hK.out _ _ ⟨(by rw [ha.out]; exact qah 24 hb_ rfl rfl rfl), Q_LA, fun h0_ => absurd ((hoff 27 (by kernel_rfl)).symm.trans h0_) (by decide), Q_HB5⟩
      refine qag ?_ ?_
      ·rintro b a w' ⟨ha, Q_LA, Q_LB, Q_HB5⟩ hb_ hon hoff
       refine ⟨_, rfl, fun K hK => ?_⟩
       have e32 : a.tmps[32]? = some (.pointer (some ⟨gw, 0, none⟩)) := on_ ha 0 rfl rfl (hon 0 (by kernel_rfl)) rfl
       replace ha := Aside0.mk ha
       refine qaJ (w1 := w') (v := .pointer (some ⟨gw, 0, none⟩)) (by rfl) rfl ?_ ?_
       ·go_simp
        (try simp only [qaS])
        try rfl
       refine hK.out _ _ ⟨(by rw [ha.out]; exact qah 25 hb_ rfl rfl rfl), Q_LA, fun h0_ => absurd ((hoff 27 (by kernel_rfl)).symm.trans h0_) (by decide), Q_HB5⟩
      refine qag ?_ ?_
      ·rintro b a w' ⟨ha, Q_LA, Q_LB, Q_HB5⟩ hb_ hon hoff
       refine ⟨_, rfl, fun K hK => ?_⟩
       have e57 : a.tmps[57]? = some (.pointer (some ⟨gw, 0, none⟩)) := on_ ha 25 rfl rfl (hon 25 (by kernel_rfl)) rfl
       replace ha := Aside0.mk ha
       refine qaJ (w1 := w') (v := .pointer (some ⟨gw, 3, none⟩)) (by rfl) rfl ?_ ?_
       ·go_simp
        (try simp only [qaS])
        try rfl
       refine hK.out _ _ ⟨(by rw [ha.out]; exact qah 26 hb_ rfl rfl rfl), Q_LA, fun h0_ => absurd ((hoff 27 (by kernel_rfl)).symm.trans h0_) (by decide), Q_HB5⟩
      refine qag ?_ ?_
      ·rintro b a w' ⟨ha, Q_LA, Q_LB, Q_HB5⟩ hb_ hon hoff
       refine ⟨_, rfl, fun K hK => ?_⟩
       have e58 : a.tmps[58]? = some (.pointer (some ⟨gw, 3, none⟩)) := on_ ha 26 rfl rfl (hon 26 (by kernel_rfl)) rfl
       have e56 : a.tmps[56]? = some (.bool bl) := on_ ha 24 rfl rfl (hon 24 (by kernel_rfl)) rfl
       replace ha := Aside0.mk ha
       have LA := Aside0.mk (Q_LA hb_)
       have HB5 := Aside0.mk Q_HB5
       have hc0_ := (qbH LA.out.2.1).2.2.2
       have hf0_ := qad LA.out.2.1 3
       refine qgY (w1 := w'.setCell ⟨gw, 3, none⟩ (.bool bl)) (by rfl) rfl ?_ ?_
       ·go_simp
       refine hK.out _ _ ⟨(by rw [ha.out]; exact qcD (v := undef) rfl), fun h0_ => absurd ((qcy b 27).symm.trans h0_) (by decide), fun _ => LA.out.qdl bl, HB5.out.setCell (p := ⟨gw, 3, none⟩) LA.out.1 _⟩
      exact qb7
     rintro b a w' hall ⟨ha, Q_LA, Q_LB, Q_HB5⟩
     clear HB5 LA
     have hb0_ := hall 0 (by kernel_rfl)
     have hb1_ := hall 1 (by kernel_rfl)
     have hb2_ := hall 2 (by kernel_rfl)
     have hb3_ := hall 3 (by kernel_rfl)
     have hb4_ := hall 4 (by kernel_rfl)
     have hb5_ := hall 5 (by kernel_rfl)
     have hb6_ := hall 6 (by kernel_rfl)
     have hb7_ := hall 7 (by kernel_rfl)
     have hb8_ := hall 8 (by kernel_rfl)
     have hb9_ := hall 9 (by kernel_rfl)
     have hb10_ := hall 10 (by kernel_rfl)
     have hb11_ := hall 11 (by kernel_rfl)
     have hb12_ := hall 12 (by kernel_rfl)
     have hb13_ := hall 13 (by kernel_rfl)
     have hb14_ := hall 14 (by kernel_rfl)
     have hb15_ := hall 15 (by kernel_rfl)
     have hb16_ := hall 16 (by kernel_rfl)
     have hb17_ := hall 17 (by kernel_rfl)
     have hb18_ := hall 18 (by kernel_rfl)
     have hb19_ := hall 19 (by kernel_rfl)
     have hb20_ := hall 20 (by kernel_rfl)
     have hb21_ := hall 21 (by kernel_rfl)
     have hb22_ := hall 22 (by kernel_rfl)
     have hb23_ := hall 23 (by kernel_rfl)
     have hb24_ := hall 24 (by kernel_rfl)
     have hb25_ := hall 25 (by kernel_rfl)
     have hb26_ := hall 26 (by kernel_rfl)
     have hb27_ := hall 27 (by kernel_rfl)
     subst ha
     simp only [qbq, hb0_, hb1_, hb2_, hb3_, hb4_, hb5_, hb6_, hb7_, hb8_, hb9_, hb10_, hb11_, hb12_, hb13_, hb14_, hb15_, hb16_, hb17_, hb18_, hb19_, hb20_, hb21_, hb22_, hb23_, hb24_, hb25_, hb26_, hb27_, if_true, Act.put, List.setIfInBounds_toArray, List.set_cons_zero, List.set_cons_succ]
     clear Q_LA
     have LB := Aside0.mk (Q_LB hb27_)
     clear Q_LB
     have HB5 := Aside0.mk Q_HB5
     clear Q_HB5
     clear hall hb0_ hb1_ hb2_ hb3_ hb4_ hb5_ hb6_ hb7_ hb8_ hb9_ hb10_ hb11_ hb12_ hb13_ hb14_ hb15_ hb16_ hb17_ hb18_ hb19_ hb20_ hb21_ hb22_ hb23_ hb24_ hb25_ hb26_ hb27_
     go_wp2_with fail
     go_roundw
     case rel => exact ⟨j + 1 + 1, bl, by omega, by omega, by go_num, LB, HB5, HE2⟩
     case measure => simp [intOf]; omega
   ·have c5 : decide ((i : Int) < (P.length : Int)) = false := decide_eq_false (by omega)
    have hE := HEr.out
    rw [show P.length - i = 0 by omega, qch, Bool.and_true] at hE
    have HE := Aside0.mk hE
    clear hE HEr
    go_upto_region 8 with fail
    clear d0 d1 d2 d3
    have LA := Aside0.mk (HWr.out.below (qbr (Below.refl _ wr)))
    have HB5 := Aside0.mk (qbr HBr.out)
    clear HWr HBr c5
    cases q with
    | false =>
     refine qcz (n := 23) (S := fun w' => True) (ds := []) #[false, false, false, false, false, false, false, false, false, false, false, false, false, false, false, false, false, false, false, false, false, false, false] (by kernel_rfl) rfl rfl trivial (fun hHeld => ?_)
     refine qbU sWalk.tab8 sWalk.bits8 (fun HT_ HW_ => ?_)
     generalize wr.drew = wd at LA HB5 ⊢
     refine qcY [0, 1, 2, 3, 4, 5, 6, 7, 8, 9, 10, 11, 12, 13, 14, 15, 16, 17, 18, 19, 20, 21, 22] (fun a0_ b a w' => a = qbq a0_ b [(0, 59, .pointer (some ⟨gw, 0, none⟩)), (1, 60, .pointer (some ⟨gw, 0, none⟩)), (2, 61, .pointer (some ⟨gw, 1, none⟩)), (3, 62, .slice vpA P.length vpc), (4, 63, .pointer (some ⟨gw, 0, none⟩)), (5, 64, .pointer (some ⟨gw, 0, none⟩)), (6, 65, .pointer (some ⟨gw, 2, none⟩)), (7, 66, .slice vsA S.length vsc), (8, 67, .pointer (some ⟨gw, 0, none⟩)), (9, 68, .pointer (some ⟨gw, 0, none⟩)), (10, 69, .pointer (some ⟨gw, 3, none⟩)), (11, 70, .bool false), (12, 71, .bool false), (13, 72, undef), (14, 73, undef), (15, 74, undef), (16, 75, undef), (17, 76, undef), (18, 77, undef), (19, 78, .bool false), (20, 4, .slice vpA P.length vpc), (21, 5, .slice vsA S.length vsc), (22, 6, .bool false)] ∧ (LkAt w w' gw (.slice A0_0 l0_0.length c0_0) (.slice vpA P.length vpc) (.slice vsA S.length vsc) false P S) ∧ (Below w.heap.size w w')) HT_.out HW_.out (by kernel_rfl) (by kernel_rfl) ?_ ?_ ?_
     ·exact ⟨by simp only [qbq, Bool.false_eq_true, if_false], LA.out, HB5.out⟩
     ·skip
      clear HB5 LA
      refine qag ?_ ?_
      ·rintro b a w' ⟨ha, Q_LA, Q_HB5⟩ hb_ hon hoff
       refine ⟨_, rfl, fun K hK => ?_⟩
       have e7 : a.tmps[7]? = some (.pointer (some ⟨gw, 0, none⟩)) := by rw [ha]; exact (qa7 rfl).trans rfl
       replace ha := Aside0.mk ha
       refine qaJ (w1 := w') (v := .pointer (some ⟨gw, 0, none⟩)) (by rfl) rfl ?_ ?_
       ·go_simp
        (try simp only [qaS])
        try rfl
       refine hK.out _ _ ⟨(by rw [ha.out]; exact qah 0 hb_ rfl rfl rfl), Q_LA, Q_HB5⟩
      refine qag ?_ ?_
      ·rintro b a w' ⟨ha, Q_LA, Q_HB5⟩ hb_ hon hoff
       refine ⟨_, rfl, fun K hK => ?_⟩
       have e59 : a.tmps[59]? = some (.pointer (some ⟨gw, 0, none⟩)) := on_ ha 0 rfl rfl (hon 0 (by kernel_rfl)) rfl
       replace ha := Aside0.mk ha
       refine qaJ (w1 := w') (v := .pointer (some ⟨gw, 0, none⟩)) (by rfl) rfl ?_ ?_
       ·go_simp
        (try simp only [qaS])
        try rfl
       refine hK.out _ _ ⟨(by rw [ha.out]; exact qah 1 hb_ rfl rfl rfl), Q_LA, Q_HB5⟩
      refine qag ?_ ?_
      ·rintro b a w' ⟨ha, Q_LA, Q_HB5⟩ hb_ hon hoff
       refine ⟨_, rfl, fun K hK => ?_⟩
       have e60 : a.tmps[60]? = some (.pointer (some ⟨gw, 0, none⟩)) := on_ ha 1 rfl rfl (hon 1 (by kernel_rfl)) rfl
       replace ha := Aside0.mk ha
       refine qaJ (w1 := w') (v := .pointer (some ⟨gw, 1, none⟩)) (by rfl) rfl ?_ ?_
       ·go_simp
        (try simp only [qaS])
        try rfl
       refine hK.out _ _ ⟨(by rw [ha.out]; exact qah 2 hb_ rfl rfl rfl), Q_LA, Q_HB5⟩
      refine qag ?_ ?_
      ·rintro b a w' ⟨ha, Q_LA, Q_HB5⟩ hb_ hon hoff
       refine ⟨_, rfl, fun K hK => ?_⟩
       have e61 : a.tmps[61]? = some (.pointer (some ⟨gw, 1, none⟩)) := on_ ha 2 rfl rfl (hon 2 (by kernel_rfl)) rfl
       replace ha := Aside0.mk ha
       have LA := Aside0.mk Q_LA
       have hc_ := (qbH LA.out.2.1).2.1
       refine qaJ (w1 := w') (v := .slice vpA P.length vpc) (by rfl) rfl ?_ ?_
       ·go_simp
        (try simp only [qaS])
        try rfl
       refine hK.out _ _ ⟨(by rw [ha.out]; exact qah 3 hb_ rfl rfl rfl), Q_LA, Q_HB5⟩
      refine qag ?_ ?_
      ·rintro b a w' ⟨ha, Q_LA, Q_HB5⟩ hb_ hon hoff
       refine ⟨_, rfl, fun K hK => ?_⟩
       have e7 : a.tmps[7]? = some (.pointer (some ⟨gw, 0, none⟩)) := by rw [ha]; exact (qa7 rfl).trans rfl
       replace ha := Aside0.mk ha
       refine qaJ (w1 := w') (v := .pointer (some ⟨gw, 0, none⟩)) (by rfl) rfl ?_ ?_
       ·go_simp
        (try simp only [qaS])
        try rfl
       refine hK.out _ _ ⟨(by rw [ha.out]; exact qah 4 hb_ rfl rfl rfl), Q_LA, Q_HB5⟩
      refine qag ?_ ?_
      ·rintro b a w' ⟨ha, Q_LA, Q_HB5⟩ hb_ hon hoff
       refine ⟨_, rfl, fun K hK => ?_⟩
       have e63 : a.tmps[63]? = some (.pointer (some ⟨gw, 0, none⟩)) := on_ ha 4 rfl rfl (hon 4 (by kernel_rfl)) rfl
       replace ha := Aside0.mk ha
       refine qaJ (w1 := w') (v := .pointer (some ⟨gw, 0, none⟩)) (by rfl) rfl ?_ ?_
       ·go_simp
        (try simp only [qaS])
        try rfl
       refine hK.out _ _ ⟨(by rw [ha.out]; exact qah 5 hb_ rfl rfl rfl), Q_LA, Q_HB5⟩
      refine qag ?_ ?_
      ·rintro b a w' ⟨ha, Q_LA, Q_HB5⟩ hb_ hon hoff
       refine ⟨_, rfl, fun K hK => ?_⟩
       have e64 : a.tmps[64]? = some (.pointer (some ⟨gw, 0, none⟩)) := on_ ha 5 rfl rfl (hon 5 (by kernel_rfl)) rfl
       replace ha := Aside0.mk ha
       refine qaJ (w1 := w') (v := .pointer (some ⟨gw, 2, none⟩)) (by rfl) rfl ?_ ?_
       ·go_simp
        (try simp only [qaS])
        try rfl
       refine hK.out _ _ ⟨(by rw [ha.out]; exact qah 6 hb_ rfl rfl rfl), Q_LA, Q_HB5⟩
      refine qag ?_ ?_
      ·rintro b a w' ⟨ha, Q_LA, Q_HB5⟩ hb_ hon hoff
       refine ⟨_, rfl, fun K hK => ?_⟩
       have e65 : a.tmps[65]? = some (.pointer (some ⟨gw, 2, none⟩)) := on_ ha 6 rfl rfl (hon 6 (by kernel_rfl)) rfl
       replace ha := Aside0.mk ha
       have LA := Aside0.mk Q_LA
       have hc_ := (qbH LA.out.2.1).2.2.1
       refine qaJ (w1 := w') (v := .slice vsA S.length vsc) (by rfl) rfl ?_ ?_
       ·go_simp
        (try simp only [qaS])
        try rfl
       refine hK.out _ _ ⟨(by rw [ha.out]; exact qah 7 hb_ rfl rfl rfl), Q_LA, Q_HB5⟩
      refine qag ?_ ?_
      ·rintro b a w' ⟨ha, Q_LA, Q_HB5⟩ hb_ hon hoff
       refine ⟨_, rfl, fun K hK => ?_⟩
       have e7 : a.tmps[7]? = some (.pointer (some ⟨gw, 0, none⟩)) := by rw [ha]; exact (qa7 rfl).trans rfl
       replace ha := Aside0.mk ha
       refine qaJ (w1 := w') (v := .pointer (some ⟨gw, 0, none⟩)) (by rfl) rfl ?_ ?_
       ·go_simp
        (try simp only [qaS])
        try rfl
       refine hK.out _ _ ⟨(by rw [ha.out]; exact qah 8 hb_ rfl rfl rfl), Q_LA, Q_HB5⟩
      refine qag ?_ ?_
      ·rintro b a w' ⟨ha, Q_LA, Q_HB5⟩ hb_ hon hoff
       refine ⟨_, rfl, fun K hK => ?_⟩
       have e67 : a.tmps[67]? = some (.pointer (some ⟨gw, 0, none⟩)) := on_ ha 8 rfl rfl (hon 8 (by kernel_rfl)) rfl
       replace ha := Aside0.mk ha
       refine qaJ (w1 := w') (v := .pointer (some ⟨gw, 0, none⟩)) (by rfl) rfl ?_ ?_
       ·go_simp
        (try simp only [qaS])
        try rfl
       refine hK.out _ _ ⟨(by rw [ha.out]; exact qah 9 hb_ rfl rfl rfl), Q_LA, Q_HB5⟩
      refine qag ?_ ?_
      ·rintro b a w' ⟨ha, Q_LA, Q_HB5⟩ hb_ hon hoff
       refine ⟨_, rfl, fun K hK => ?_⟩
       have e68 : a.tmps[68]? = some (.pointer (some ⟨gw, 0, none⟩)) := on_ ha 9 rfl rfl (hon 9 (by kernel_rfl)) rfl
       replace ha := Aside0.mk ha
       refine qaJ (w1 := w') (v := .pointer (some ⟨gw, 3, none⟩)) (by rfl) rfl ?_ ?_
       ·go_simp
        (try simp only [qaS])
        try rfl
       refine hK.out _ _ ⟨(by rw [ha.out]; exact qah 10 hb_ rfl rfl rfl), Q_LA, Q_HB5⟩
      refine qag ?_ ?_
      ·rintro b a w' ⟨ha, Q_LA, Q_HB5⟩ hb_ hon hoff
       refine ⟨_, rfl, fun K hK => ?_⟩
       have e69 : a.tmps[69]? = some (.pointer (some ⟨gw, 3, none⟩)) := on_ ha 10 rfl rfl (hon 10 (by kernel_rfl)) rfl
       replace ha := Aside0.mk ha
       have LA := Aside0.mk Q_LA
       have hc_ := (qbH LA.out.2.1).2.2.2
       refine qaJ (w1 := w') (v := .bool false) (by rfl) rfl ?_ ?_
       ·go_simp
        (try simp only [qaS])
        try rfl
       refine hK.out _ _ ⟨(by rw [ha.out]; exact qah 11 hb_ rfl rfl rfl), Q_LA, Q_HB5⟩
      refine qag ?_ ?_
      ·rintro b a w' ⟨ha, Q_LA, Q_HB5⟩ hb_ hon hoff
       refine ⟨_, rfl, fun K hK => ?_⟩
       have e70 : a.tmps[70]? = some (.bool false) := on_ ha 11 rfl rfl (hon 11 (by kernel_rfl)) rfl
       replace ha := Aside0.mk ha
       refine qaJ (w1 := w') (v := .bool false) (by rfl) rfl ?_ ?_
       ·go_simp
        (try simp only [qaS])
        try rfl
       refine hK.out _ _ ⟨(by rw [ha.out]; exact qah 12 hb_ rfl rfl rfl), Q_LA, Q_HB5⟩
      refine qag ?_ ?_
      ·rintro b a w' ⟨ha, Q_LA, Q_HB5⟩ hb_ hon hoff
       refine ⟨_, rfl, fun K hK => ?_⟩
       have e71 : a.tmps[71]? = some (.bool false) := on_ ha 12 rfl rfl (hon 12 (by kernel_rfl)) rfl
       replace ha := Aside0.mk ha
       refine off_ (qaT rfl rfl rfl (e71.trans (by first | rfl | (simp [*]; done)))) ?_
       refine hK.out _ _ ⟨(by rw [ha.out]; exact qah 13 hb_ rfl rfl rfl), Q_LA, Q_HB5⟩
      refine qag ?_ ?_
      ·rintro b a w' ⟨ha, Q_LA, Q_HB5⟩ hb_ hon hoff
       refine ⟨_, rfl, fun K hK => ?_⟩
       have e71 : a.tmps[71]? = some (.bool false) := on_ ha 12 rfl rfl (hon 12 (by kernel_rfl)) rfl
       replace ha := Aside0.mk ha
       refine off_ (qaT rfl rfl rfl (e71.trans (by first | rfl | (simp [*]; done)))) ?_
       refine hK.out _ _ ⟨(by rw [ha.out]; exact qah 14 hb_ rfl rfl rfl), Q_LA, Q_HB5⟩
      refine qag ?_ ?_
      ·rintro b a w' ⟨ha, Q_LA, Q_HB5⟩ hb_ hon hoff
       refine ⟨_, rfl, fun K hK => ?_⟩
       have e71 : a.tmps[71]? = some (.bool false) := on_ ha 12 rfl rfl (hon 12 (by kernel_rfl)) rfl
       replace ha := Aside0.mk ha
       refine off_ (qaT rfl rfl rfl (e71.trans (by first | rfl | (simp [*]; done)))) ?_
       refine hK.out _ _ ⟨(by rw [ha.out]; exact qah 15 hb_ rfl rfl rfl), Q_LA, Q_HB5⟩
      refine qag ?_ ?_
      ·rintro b a w' ⟨ha, Q_LA, Q_HB5⟩ hb_ hon hoff
       refine ⟨_, rfl, fun K hK => ?_⟩
       have e71 : a.tmps[71]? = some (.bool false) := on_ ha 12 rfl rfl (hon 12 (by kernel_rfl)) rfl
       replace ha := Aside0.mk ha
       refine off_ (qaT rfl rfl rfl (e71.trans (by first | rfl | (simp [*]; done)))) ?_
       refine hK.out _ _ ⟨(by rw [ha.out]; exact qah 16 hb_ rfl rfl rfl), Q_LA, Q_HB5⟩
      refine qag ?_ ?_
      ·rintro b a w' ⟨ha, Q_LA, Q_HB5⟩ hb_ hon hoff
       refine ⟨_, rfl, fun K hK => ?_⟩
       have e71 : a.tmps[71]? = some (.bool false) := on_ ha 12 rfl rfl (hon 12 (by kernel_rfl)) rfl
       replace ha := Aside0.mk ha
       refine off_ (qaT rfl rfl rfl (e71.trans (by first | rfl | (simp [*]; done)))) ?_
       refine hK.out _ _ ⟨(by rw [ha.out]; exact qah 17 hb_ rfl rfl rfl), Q_LA, Q_HB5⟩
      refine qag ?_ ?_
      ·rintro b a w' ⟨ha, Q_LA, Q_HB5⟩ hb_ hon hoff
       refine ⟨_, rfl, fun K hK => ?_⟩
       have e71 : a.tmps[71]? = some (.bool false) := on_ ha 12 rfl rfl (hon 12 (by kernel_rfl)) rfl
       replace ha := Aside0.mk ha
       refine off_ (qaT rfl rfl rfl (e71.trans (by first | rfl | (simp [*]; done)))) ?_
       refine hK.out _ _ ⟨(by rw [ha.out]; exact qah 18 hb_ rfl rfl rfl), Q_LA, Q_HB5⟩
      refine qag ?_ ?_
      ·rintro b a w' ⟨ha, Q_LA, Q_HB5⟩ hb_ hon hoff
       refine ⟨_, rfl, fun K hK => ?_⟩
       have e71 : a.tmps[71]? = some (.bool false) := on_ ha 12 rfl rfl (hon 12 (by kernel_rfl)) rfl
       have e77 : a.tmps[77]? = some (undef) := on_ ha 18 rfl rfl (hon 18 (by kernel_rfl)) rfl
       replace ha := Aside0.mk ha
       refine qaJ (w1 := w') (v := .bool false) (by rfl) rfl ?_ ?_
       ·go_simp
        (try simp only [qaS])
        try rfl
       refine hK.out _ _ ⟨(by rw [ha.out]; exact qah 19 hb_ rfl rfl rfl), Q_LA, Q_HB5⟩
      refine qag ?_ ?_
      ·rintro b a w' ⟨ha, Q_LA, Q_HB5⟩ hb_ hon hoff
       refine ⟨_, rfl, fun K hK => ?_⟩
       have e62 : a.tmps[62]? = some (.slice vpA P.length vpc) := on_ ha 3 rfl rfl (hon 3 (by kernel_rfl)) rfl
       replace ha := Aside0.mk ha
       refine qaJ (w1 := w') (v := .slice vpA P.length vpc) (by rfl) rfl ?_ ?_
       ·go_simp
        (try simp only [qaS])
        try rfl
       refine hK.out _ _ ⟨(by rw [ha.out]; exact qah 20 hb_ rfl rfl rfl), Q_LA, Q_HB5⟩
      refine qag ?_ ?_
      ·rintro b a w' ⟨ha, Q_LA, Q_HB5⟩ hb_ hon hoff
       refine ⟨_, rfl, fun K hK => ?_⟩
       have e66 : a.tmps[66]? = some (.slice vsA S.length vsc) := on_ ha 7 rfl rfl (hon 7 (by kernel_rfl)) rfl
       replace ha := Aside0.mk ha
       refine qaJ (w1 := w') (v := .slice vsA S.length vsc) (by rfl) rfl ?_ ?_
       ·go_simp
        (try simp only [qaS])
        try rfl
       refine hK.out _ _ ⟨(by rw [ha.out]; exact qah 21 hb_ rfl rfl rfl), Q_LA, Q_HB5⟩
      refine qag ?_ ?_
      ·rintro b a w' ⟨ha, Q_LA, Q_HB5⟩ hb_ hon hoff
       refine ⟨_, rfl, fun K hK => ?_⟩
       have e78 : a.tmps[78]? = some (.bool false) := on_ ha 19 rfl rfl (hon 19 (by kernel_rfl)) rfl
       replace ha := Aside0.mk ha
       refine qaJ (w1 := w') (v := .bool false) (by rfl) rfl ?_ ?_
       ·go_simp
        (try simp only [qaS])
        try rfl
       refine hK.out _ _ ⟨(by rw [ha.out]; exact qah 22 hb_ rfl rfl rfl), Q_LA, Q_HB5⟩
      exact qb7
     rintro b a w' hall ⟨ha, Q_LA, Q_HB5⟩
     clear HB5 LA
     have hb0_ := hall 0 (by kernel_rfl)
     have hb1_ := hall 1 (by kernel_rfl)
     have hb2_ := hall 2 (by kernel_rfl)
     have hb3_ := hall 3 (by kernel_rfl)
     have hb4_ := hall 4 (by kernel_rfl)
     have hb5_ := hall 5 (by kernel_rfl)
     have hb6_ := hall 6 (by kernel_rfl)
     have hb7_ := hall 7 (by kernel_rfl)
     have hb8_ := hall 8 (by kernel_rfl)
     have hb9_ := hall 9 (by kernel_rfl)
     have hb10_ := hall 10 (by kernel_rfl)
     have hb11_ := hall 11 (by kernel_rfl)
     have hb12_ := hall 12 (by kernel_rfl)
     have hb13_ := hall 13 (by kernel_rfl)
     have hb14_ := hall 14 (by kernel_rfl)
     have hb15_ := hall 15 (by kernel_rfl)
     have hb16_ := hall 16 (by kernel_rfl)
     have hb17_ := hall 17 (by kernel_rfl)
     have hb18_ := hall 18 (by kernel_rfl)
     have hb19_ := hall 19 (by kernel_rfl)
     have hb20_ := hall 20 (by kernel_rfl)
     have hb21_ := hall 21 (by kernel_rfl)
     have hb22_ := hall 22 (by kernel_rfl)
     subst ha
     simp only [qbq, hb0_, hb1_, hb2_, hb3_, hb4_, hb5_, hb6_, hb7_, hb8_, hb9_, hb10_, hb11_, hb12_, hb13_, hb14_, hb15_, hb16_, hb17_, hb18_, hb19_, hb20_, hb21_, hb22_, if_true, Act.put, List.setIfInBounds_toArray, List.set_cons_zero, List.set_cons_succ]
     have LA := Aside0.mk Q_LA
     clear Q_LA
     have HB5 := Aside0.mk Q_HB5
     clear Q_HB5
     clear hall hb0_ hb1_ hb2_ hb3_ hb4_ hb5_ hb6_ hb7_ hb8_ hb9_ hb10_ hb11_ hb12_ hb13_ hb14_ hb15_ hb16_ hb17_ hb18_ hb19_ hb20_ hb21_ hb22_
     go_wp2_with fail
     ((try simp only [Exit.inBlock, Exit.then]); refine bodyPost_ret (results_tmp3 rfl _ _ _) rfl ?_)
     have hR := HRt.out
     rw [← HE.out, HH.out] at hR
     simp only [Prod.mk.injEq, Bool.false_and] at hR
     obtain ⟨rfl, rfl, rfl⟩ := hR
     exact ⟨_, _, rfl, LA.out.2.2.2, LA.out.2.2.1, HB5.out⟩
    | true =>
     obtain ⟨ble, hle⟩ : ∃ ble, decide (P.length ≤ 60) = ble := ⟨_, rfl⟩
     have HLE := Aside0.mk (show decide ((P.length : Int) ≤ 60) = ble from by rw [← hle]; exact decide_eq_decide.2 (by omega))
     have HLE2 := Aside0.mk hle
     clear hle
     refine qcz (n := 23) (S := fun w' => True) (ds := []) #[false, false, false, false, false, false, false, false, false, false, false, false, false, false, false, false, false, false, false, false, false, false, false] (by kernel_rfl) rfl rfl trivial (fun hHeld => ?_)
     refine qbU sWalk.tab8 sWalk.bits8 (fun HT_ HW_ => ?_)
     generalize wr.drew = wd at LA HB5 ⊢
     refine qcY [0, 1, 2, 3, 4, 5, 6, 7, 8, 9, 10, 11, 12, 13, 14, 15, 16, 17, 18, 19, 20, 21, 22] (fun a0_ b a w' => a = qbq a0_ b [(0, 59, .pointer (some ⟨gw, 0, none⟩)), (1, 60, .pointer (some ⟨gw, 0, none⟩)), (2, 61, .pointer (some ⟨gw, 1, none⟩)), (3, 62, .slice vpA P.length vpc), (4, 63, .pointer (some ⟨gw, 0, none⟩)), (5, 64, .pointer (some ⟨gw, 0, none⟩)), (6, 65, .pointer (some ⟨gw, 2, none⟩)), (7, 66, .slice vsA S.length vsc), (8, 67, .pointer (some ⟨gw, 0, none⟩)), (9, 68, .pointer (some ⟨gw, 0, none⟩)), (10, 69, .pointer (some ⟨gw, 3, none⟩)), (11, 70, .bool true), (12, 71, .bool true), (13, 72, .pointer (some ⟨gw, 0, none⟩)), (14, 73, .pointer (some ⟨gw, 0, none⟩)), (15, 74, .pointer (some ⟨gw, 1, none⟩)), (16, 75, .slice vpA P.length vpc), (17, 76, .int .i64 (P.length : Int)), (18, 77, .bool ble), (19, 78, .bool ble), (20, 4, .slice vpA P.length vpc), (21, 5, .slice vsA S.length vsc), (22, 6, .bool ble)] ∧ (LkAt w w' gw (.slice A0_0 l0_0.length c0_0) (.slice vpA P.length vpc) (.slice vsA S.length vsc) true P S) ∧ (Below w.heap.size w w')) HT_.out HW_.out (by kernel_rfl) (by kernel_rfl) ?_ ?_ ?_
     ·exact ⟨by simp only [qbq, Bool.false_eq_true, if_false], LA.out, HB5.out⟩
     ·skip
      clear HB5 LA
      refine qag ?_ ?_
      ·rintro b a w' ⟨ha, Q_LA, Q_HB5⟩ hb_ hon hoff
       refine ⟨_, rfl, fun K hK => ?_⟩
       have e7 : a.tmps[7]? = some (.pointer (some ⟨gw, 0, none⟩)) := by rw [ha]; exact (qa7 rfl).trans rfl
       replace ha := Aside0.mk ha
       refine qaJ (w1 := w') (v := .pointer (some ⟨gw, 0, none⟩)) (by rfl) rfl ?_ ?_
       ·go_simp
        (try simp only [qaS])
        try rfl
       refine hK.out _ _ ⟨(by rw [ha.out]; exact qah 0 hb_ rfl rfl rfl), Q_LA, Q_HB5⟩
      refine qag ?_ ?_
      ·rintro b a w' ⟨ha, Q_LA, Q_HB5⟩ hb_ hon hoff
       refine ⟨_, rfl, fun K hK => ?_⟩
       have e59 : a.tmps[59]? = some (.pointer (some ⟨gw, 0, none⟩)) := on_ ha 0 rfl rfl (hon 0 (by kernel_rfl)) rfl
       replace ha := Aside0.mk ha
       refine qaJ (w1 := w') (v := .pointer (some ⟨gw, 0, none⟩)) (by rfl) rfl ?_ ?_
       ·go_simp
        (try simp only [qaS])
        try rfl
       refine hK.out _ _ ⟨(by rw [ha.out]; exact qah 1 hb_ rfl rfl rfl), Q_LA, Q_HB5⟩
      refine qag ?_ ?_
      ·rintro b a w' ⟨ha, Q_LA, Q_HB5⟩ hb_ hon hoff
       refine ⟨_, rfl, fun K hK => ?_⟩
       have e60 : a.tmps[60]? = some (.pointer (some ⟨gw, 0, none⟩)) := on_ ha 1 rfl rfl (hon 1 (by kernel_rfl)) rfl
       replace ha := Aside0.mk ha
       refine qaJ (w1 := w') (v := .pointer (some ⟨gw, 1, none⟩)) (by rfl) rfl ?_ ?_
       ·go_simp
        (try simp only [qaS])
        try rfl
       refine hK.out _ _ ⟨(by rw [ha.out]; exact qah 2 hb_ rfl rfl rfl), Q_LA, Q_HB5⟩
      refine qag ?_ ?_
      ·rintro b a w' ⟨ha, Q_LA, Q_HB5⟩ hb_ hon hoff
       refine ⟨_, rfl, fun K hK => ?_⟩
       have e61 : a.tmps[61]? = some (.pointer (some ⟨gw, 1, none⟩)) := on_ ha 2 rfl rfl (hon 2 (by kernel_rfl)) rfl
       replace ha := Aside0.mk ha
       have LA := Aside0.mk Q_LA
       have hc_ := (qbH LA.out.2.1).2.1
       refine qaJ (w1 := w') (v := .slice vpA P.length vpc) (by rfl) rfl ?_ ?_
       ·go_simp
        (try simp only [qaS])
        try rfl
       refine hK.out _ _ ⟨(by rw [ha.out]; exact qah 3 hb_ rfl rfl rfl), Q_LA, Q_HB5⟩
      refine qag ?_ ?_
      ·rintro b a w' ⟨ha, Q_LA, Q_HB5⟩ hb_ hon hoff
       refine ⟨_, rfl, fun K hK => ?_⟩
       have e7 : a.tmps[7]? = some (.pointer (some ⟨gw, 0, none⟩)) := by rw [ha]; exact (qa7 rfl).trans rfl
       replace ha := Aside0.mk ha
       refine qaJ (w1 := w') (v := .pointer (some ⟨gw, 0, none⟩)) (by rfl) rfl ?_ ?_
       ·go_simp
        (try simp only [qaS])
        try rfl
       refine hK.out _ _ ⟨(by rw [ha.out]; exact qah 4 hb_ rfl rfl rfl), Q_LA, Q_HB5⟩
      refine qag ?_ ?_
      ·rintro b a w' ⟨ha, Q_LA, Q_HB5⟩ hb_ hon hoff
       refine ⟨_, rfl, fun K hK => ?_⟩
       have e63 : a.tmps[63]? = some (.pointer (some ⟨gw, 0, none⟩)) := on_ ha 4 rfl rfl (hon 4 (by kernel_rfl)) rfl
       replace ha := Aside0.mk ha
       refine qaJ (w1 := w') (v := .pointer (some ⟨gw, 0, none⟩)) (by rfl) rfl ?_ ?_
       ·go_simp
        (try simp only [qaS])
        try rfl
       refine hK.out _ _ ⟨(by rw [ha.out]; exact qah 5 hb_ rfl rfl rfl), Q_LA, Q_HB5⟩
      refine qag ?_ ?_
      ·rintro b a w' ⟨ha, Q_LA, Q_HB5⟩ hb_ hon hoff
       refine ⟨_, rfl, fun K hK => ?_⟩
       have e64 : a.tmps[64]? = some (.pointer (some ⟨gw, 0, none⟩)) := on_ ha 5 rfl rfl (hon 5 (by kernel_rfl)) rfl
       replace ha := Aside0.mk ha
       refine qaJ (w1 := w') (v := .pointer (some ⟨gw, 2, none⟩)) (by rfl) rfl ?_ ?_
       ·go_simp
        (try simp only [qaS])
        try rfl
       refine hK.out _ _ ⟨(by rw [ha.out]; exact qah 6 hb_ rfl rfl rfl), Q_LA, Q_HB5⟩
      refine qag ?_ ?_
      ·rintro b a w' ⟨ha, Q_LA, Q_HB5⟩ hb_ hon hoff
       refine ⟨_, rfl, fun K hK => ?_⟩
       have e65 : a.tmps[65]? = some (.pointer (some ⟨gw, 2, none⟩)) := on_ ha 6 rfl rfl (hon 6 (by kernel_rfl)) rfl
       replace ha := Aside0.mk ha
       have LA := Aside0.mk Q_LA
       have hc_ := (qbH LA.out.2.1).2.2.1
       refine qaJ (w1 := w') (v := .slice vsA S.length vsc) (by rfl) rfl ?_ ?_
       ·go_simp
        (try simp only [qaS])
        try rfl
       refine hK.out _ _ ⟨(by rw [ha.out]; exact qah 7 hb_ rfl rfl rfl), Q_LA, Q_HB5⟩
      refine qag ?_ ?_
      ·rintro b a w' ⟨ha, Q_LA, Q_HB5⟩ hb_ hon hoff
       refine ⟨_, rfl, fun K hK => ?_⟩
       have e7 : a.tmps[7]? = some (.pointer (some ⟨gw, 0, none⟩)) := by rw [ha]; exact (qa7 rfl).trans rfl
       replace ha := Aside0.mk ha
       refine qaJ (w1 := w') (v := .pointer (some ⟨gw, 0, none⟩)) (by rfl) rfl ?_ ?_
       ·go_simp
        (try simp only [qaS])
        try rfl
       refine hK.out _ _ ⟨(by rw [ha.out]; exact qah 8 hb_ rfl rfl rfl), Q_LA, Q_HB5⟩
      refine qag ?_ ?_
      ·rintro b a w' ⟨ha, Q_LA, Q_HB5⟩ hb_ hon hoff
       refine ⟨_, rfl, fun K hK => ?_⟩
       have e67 : a.tmps[67]? = some (.pointer (some ⟨gw, 0, none⟩)) := on_ ha 8 rfl rfl (hon 8 (by kernel_rfl)) rfl
       replace ha := Aside0.mk ha
       refine qaJ (w1 := w') (v := .pointer (some ⟨gw, 0, none⟩)) (by rfl) rfl ?_ ?_
       ·go_simp
        (try simp only [qaS])
        try rfl
       refine hK.out _ _ ⟨(by rw [ha.out]; exact qah 9 hb_ rfl rfl rfl), Q_LA, Q_HB5⟩
      refine qag ?_ ?_
      ·rintro b a w' ⟨ha, Q_LA, Q_HB5⟩ hb_ hon hoff
       refine ⟨_, rfl, fun K hK => ?_⟩
       have e68 : a.tmps[68]? = some (.pointer (some ⟨gw, 0, none⟩)) := on_ ha 9 rfl rfl (hon 9 (by kernel_rfl)) rfl
       replace ha := Aside0.mk ha
       refine qaJ (w1 := w') (v := .pointer (some ⟨gw, 3, none⟩)) (by rfl) rfl ?_ ?_
       ·go_simp
        (try simp only [qaS])
        try rfl
       refine hK.out _ _ ⟨(by rw [ha.out]; exact qah 10 hb_ rfl rfl rfl), Q_LA, Q_HB5⟩
      refine qag ?_ ?_
      ·rintro b a w' ⟨ha, Q_LA, Q_HB5⟩ hb_ hon hoff
       refine ⟨_, rfl, fun K hK => ?_⟩
       have e69 : a.tmps[69]? = some (.pointer (some ⟨gw, 3, none⟩)) := on_ ha 10 rfl rfl (hon 10 (by kernel_rfl)) rfl
       replace ha := Aside0.mk ha
       have LA := Aside0.mk Q_LA
       have hc_ := (qbH LA.out.2.1).2.2.2
       refine qaJ (w1 := w') (v := .bool true) (by rfl) rfl ?_ ?_
       ·go_simp
        (try simp only [qaS])
        try rfl
       refine hK.out _ _ ⟨(by rw [ha.out]; exact qah 11 hb_ rfl rfl rfl), Q_LA, Q_HB5⟩
      refine qag ?_ ?_
      ·rintro b a w' ⟨ha, Q_LA, Q_HB5⟩ hb_ hon hoff
       refine ⟨_, rfl, fun K hK => ?_⟩
       have e70 : a.tmps[70]? = some (.bool true) := on_ ha 11 rfl rfl (hon 11 (by kernel_rfl)) rfl
       replace ha := Aside0.mk ha
       refine qaJ (w1 := w') (v := .bool true) (by rfl) rfl ?_ ?_
       ·go_simp
        (try simp only [qaS])
        try rfl
       refine hK.out _ _ ⟨(by rw [ha.out]; exact qah 12 hb_ rfl rfl rfl), Q_LA, Q_HB5⟩
      refine qag ?_ ?_
      ·rintro b a w' ⟨ha, Q_LA, Q_HB5⟩ hb_ hon hoff
       refine ⟨_, rfl, fun K hK => ?_⟩
       have e7 : a.tmps[7]? = some (.pointer (some ⟨gw, 0, none⟩)) := by rw [ha]; exact (qa7 rfl).trans rfl
       have e71 : a.tmps[71]? = some (.bool true) := on_ ha 12 rfl rfl (hon 12 (by kernel_rfl)) rfl
       replace ha := Aside0.mk ha
       refine qaJ (w1 := w') (v := .pointer (some ⟨gw, 0, none⟩)) (qa1 rfl rfl rfl (e71.trans (by first | rfl | (simp [*]; done)))) rfl ?_ ?_
       ·go_simp
        (try simp only [qaS])
        try rfl
       refine hK.out _ _ ⟨(by rw [ha.out]; exact qah 13 hb_ rfl rfl rfl), Q_LA, Q_HB5⟩
      refine qag ?_ ?_
      ·rintro b a w' ⟨ha, Q_LA, Q_HB5⟩ hb_ hon hoff
       refine ⟨_, rfl, fun K hK => ?_⟩
       have e72 : a.tmps[72]? = some (.pointer (some ⟨gw, 0, none⟩)) := on_ ha 13 rfl rfl (hon 13 (by kernel_rfl)) rfl
       have e71 : a.tmps[71]? = some (.bool true) := on_ ha 12 rfl rfl (hon 12 (by kernel_rfl)) rfl
       replace ha := Aside0.mk ha
       refine qaJ (w1 := w') (v := .pointer (some ⟨gw, 0, none⟩)) (qa1 rfl rfl rfl (e71.trans (by first | rfl | (simp [*]; done)))) rfl ?_ ?_
       ·go_simp
        (try simp only [qaS])
        try rfl
       refine hK.out _ _ ⟨(by rw [ha.out]; exact qah 14 hb_ rfl rfl rfl), Q_LA, Q_HB5⟩
      refine qag ?_ ?_
      ·rintro b a w' ⟨ha, Q_LA, Q_HB5⟩ hb_ hon hoff
       refine ⟨_, rfl, fun K hK => ?_⟩
       have e73 : a.tmps[73]? = some (.pointer (some ⟨gw, 0, none⟩)) := on_ ha 14 rfl rfl (hon 14 (by kernel_rfl)) rfl
       have e71 : a.tmps[71]? = some (.bool true) := on_ ha 12 rfl rfl (hon 12 (by kernel_rfl)) rfl
       replace ha := Aside0.mk ha
       refine qaJ (w1 := w') (v := .pointer (some ⟨gw, 1, none⟩)) (qa1 rfl rfl rfl (e71.trans (by first | rfl | (simp [*]; done)))) rfl ?_ ?_
       ·go_simp
        (try simp only [qaS])
        try rfl
       refine hK.out _ _ ⟨(by rw [ha.out]; exact qah 15 hb_ rfl rfl rfl), Q_LA, Q_HB5⟩
      refine qag ?_ ?_
      ·rintro b a w' ⟨ha, Q_LA, Q_HB5⟩ hb_ hon hoff
       refine ⟨_, rfl, fun K hK => ?_⟩
       have e74 : a.tmps[74]? = some (.pointer (some ⟨gw, 1, none⟩)) := on_ ha 15 rfl rfl (hon 15 (by kernel_rfl)) rfl
       have e71 : a.tmps[71]? = some (.bool true) := on_ ha 12 rfl rfl (hon 12 (by kernel_rfl)) rfl
       replace ha := Aside0.mk ha
       have LA := Aside0.mk Q_LA
       have hc_ := (qbH LA.out.2.1).2.1
       refine qaJ (w1 := w') (v := .slice vpA P.length vpc) (qa1 rfl rfl rfl (e71.trans (by first | rfl | (simp [*]; done)))) rfl ?_ ?_
       ·go_simp
        (try simp only [qaS])
        try rfl
       refine hK.out _ _ ⟨(by rw [ha.out]; exact qah 16 hb_ rfl rfl rfl), Q_LA, Q_HB5⟩
      refine qag ?_ ?_
      ·rintro b a w' ⟨ha, Q_LA, Q_HB5⟩ hb_ hon hoff
       refine ⟨_, rfl, fun K hK => ?_⟩
       have e75 : a.tmps[75]? = some (.slice vpA P.length vpc) := on_ ha 16 rfl rfl (hon 16 (by kernel_rfl)) rfl
       have e71 : a.tmps[71]? = some (.bool true) := on_ ha 12 rfl rfl (hon 12 (by kernel_rfl)) rfl
       replace ha := Aside0.mk ha
       refine qaJ (w1 := w') (v := .int .i64 (P.length : Int)) (qa1 rfl rfl rfl (e71.trans (by first | rfl | (simp [*]; done)))) rfl ?_ ?_
       ·go_simp
        (try simp only [qaS])
        try rfl
       refine hK.out _ _ ⟨(by rw [ha.out]; exact qah 17 hb_ rfl rfl rfl), Q_LA, Q_HB5⟩
      refine qag ?_ ?_
      ·rintro b a w' ⟨ha, Q_LA, Q_HB5⟩ hb_ hon hoff
       refine ⟨_, rfl, fun K hK => ?_⟩
       have e76 : a.tmps[76]? = some (.int .i64 (P.length : Int)) := on_ ha 17 rfl rfl (hon 17 (by kernel_rfl)) rfl
       have e71 : a.tmps[71]? = some (.bool true) := on_ ha 12 rfl rfl (hon 12 (by kernel_rfl)) rfl
       replace ha := Aside0.mk ha
       have hc_ := HLE.out
       refine qaJ (w1 := w') (v := .bool ble) (qa1 rfl rfl rfl (e71.trans (by first | rfl | (simp [*]; done)))) rfl ?_ ?_
       ·go_simp
        (try simp only [qaS])
        try rfl
       refine hK.out _ _ ⟨(by rw [ha.out]; exact qah 18 hb_ rfl rfl rfl), Q_LA, Q_HB5⟩
      refine qag ?_ ?_
      ·rintro b a w' ⟨ha, Q_LA, Q_HB5⟩ hb_ hon hoff
       refine ⟨_, rfl, fun K hK => ?_⟩
       have e71 : a.tmps[71]? = some (.bool true) := on_ ha 12 rfl rfl (hon 12 (by kernel_rfl)) rfl
       have e77 : a.tmps[77]? = some (.bool ble) := on_ ha 18 rfl rfl (hon 18 (by kernel_rfl)) rfl
       replace ha := Aside0.mk ha
       refine qaJ (w1 := w') (v := .bool ble) (by rfl) rfl ?_ ?_
       ·go_simp
        (try simp only [qaS])
        try rfl
       refine hK.out _ _ ⟨(by rw [ha.out]; exact qah 19 hb_ rfl rfl rfl), Q_LA, Q_HB5⟩
      refine qag ?_ ?_
      ·rintro b a w' ⟨ha, Q_LA, Q_HB5⟩ hb_ hon hoff
       refine ⟨_, rfl, fun K hK => ?_⟩
       have e62 : a.tmps[62]? = some (.slice vpA P.length vpc) := on_ ha 3 rfl rfl (hon 3 (by kernel_rfl)) rfl
       replace ha := Aside0.mk ha
       refine qaJ (w1 := w') (v := .slice vpA P.length vpc) (by rfl) rfl ?_ ?_
       ·go_simp
        (try simp only [qaS])
        try rfl
       refine hK.out _ _ ⟨(by rw [ha.out]; exact qah 20 hb_ rfl rfl rfl), Q_LA, Q_HB5⟩
      refine qag ?_ ?_
      ·rintro b a w' ⟨ha, Q_LA, Q_HB5⟩ hb_ hon hoff
       refine ⟨_, rfl, fun K hK => ?_⟩
       have e66 : a.tmps[66]? = some (.slice vsA S.length vsc) := on_ ha 7 rfl rfl (hon 7 (by kernel_rfl)) rfl
       replace ha := Aside0.mk ha
       refine qaJ (w1 := w') (v := .slice vsA S.length vsc) (by rfl) rfl ?_ ?_
       ·go_simp
        (try simp only [qaS])
        try rfl
       refine hK.out _ _ ⟨(by rw [ha.out]; exact qah 21 hb_ rfl rfl rfl), Q_LA, Q_HB5⟩
      refine qag ?_ ?_
      ·rintro b a w' ⟨ha, Q_LA, Q_HB5⟩ hb_ hon hoff
       refine ⟨_, rfl, fun K hK => ?_⟩
       have e78 : a.tmps[78]? = some (.bool ble) := on_ ha 19 rfl rfl (hon 19 (by kernel_rfl)) rfl
       replace ha := Aside0.mk ha
       refine qaJ (w1 := w') (v := .bool ble) (by rfl) rfl ?_ ?_
       ·go_simp
        (try simp only [qaS])
        try rfl
       refine hK.out _ _ ⟨(by rw [ha.out]; exact qah 22 hb_ rfl rfl rfl), Q_LA, Q_HB5⟩
      exact qb7
     rintro b a w' hall ⟨ha, Q_LA, Q_HB5⟩
     clear HB5 LA
     have hb0_ := hall 0 (by kernel_rfl)
     have hb1_ := hall 1 (by kernel_rfl)
     have hb2_ := hall 2 (by kernel_rfl)
     have hb3_ := hall 3 (by kernel_rfl)
     have hb4_ := hall 4 (by kernel_rfl)
     have hb5_ := hall 5 (by kernel_rfl)
     have hb6_ := hall 6 (by kernel_rfl)
     have hb7_ := hall 7 (by kernel_rfl)
     have hb8_ := hall 8 (by kernel_rfl)
     have hb9_ := hall 9 (by kernel_rfl)
     have hb10_ := hall 10 (by kernel_rfl)
     have hb11_ := hall 11 (by kernel_rfl)
     have hb12_ := hall 12 (by kernel_rfl)
     have hb13_ := hall 13 (by kernel_rfl)
     have hb14_ := hall 14 (by kernel_rfl)
     have hb15_ := hall 15 (by kernel_rfl)
     have hb16_ := hall 16 (by kernel_rfl)
     have hb17_ := hall 17 (by kernel_rfl)
     have hb18_ := hall 18 (by kernel_rfl)
     have hb19_ := hall 19 (by kernel_rfl)
     have hb20_ := hall 20 (by kernel_rfl)
     have hb21_ := hall 21 (by kernel_rfl)
     have hb22_ := hall 22 (by kernel_rfl)
     subst ha
     simp only [qbq, hb0_, hb1_, hb2_, hb3_, hb4_, hb5_, hb6_, hb7_, hb8_, hb9_, hb10_, hb11_, hb12_, hb13_, hb14_, hb15_, hb16_, hb17_, hb18_, hb19_, hb20_, hb21_, hb22_, if_true, Act.put, List.setIfInBounds_toArray, List.set_cons_zero, List.set_cons_succ]
     have LA := Aside0.mk Q_LA
     clear Q_LA
     have HB5 := Aside0.mk Q_HB5
     clear Q_HB5
     clear hall hb0_ hb1_ hb2_ hb3_ hb4_ hb5_ hb6_ hb7_ hb8_ hb9_ hb10_ hb11_ hb12_ hb13_ hb14_ hb15_ hb16_ hb17_ hb18_ hb19_ hb20_ hb21_ hb22_
     go_wp2_with fail
     ((try simp only [Exit.inBlock, Exit.then]); refine bodyPost_ret (results_tmp3 rfl _ _ _) rfl ?_)
     have hR := HRt.out
     rw [← HE.out, HH.out, HLE2.out] at hR
     simp only [Prod.mk.injEq, Bool.true_and] at hR
     obtain ⟨rfl, rfl, rfl⟩ := hR
     exact ⟨_, _, rfl, LA.out.2.2.2, LA.out.2.2.1, HB5.out⟩
end Go.Proofs.Ytenfomejccfkgaa.X
