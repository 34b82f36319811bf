import Derived.Test.YtenfomejccfkgaaKFnExactTreeGet4
import Derived.Test.YtenfomejccfkgaaKFnExactTreeGet10
import Derived.Test.YtenfomejccfkgaaKFnExactTreeGet11
import Derived.Test.YtenfomejccfkgaaKFnExactTreeGet12
import Derived.Test.YtenfomejccfkgaaKFnExactTreeGet20
namespace Go.Proofs.Ytenfomejccfkgaa.X
open Go.RowKit Go.Proofs.YtenfomejccfkgaaW.PrintWords Go.Proofs.YtenfomejccfkgaaW.PrintLast Go.Proofs.YtenfomejccfkgaaW.PrintMore
attribute [local go_sem] qaN qaO qaP qaJ qaK qaZ qa0 qaE qaF qaL qaM
set_option linter.unusedVariables false
set_option linter.unusedSimpArgs false
def qbc.l0 : Nat → List (S99) → ByteArray → Int → Option (Int)
 | 0, _, _, _ => none
 | k + 1, x0, x1, x5 => if x5 < (x0.length : Int) then (if 0 ≤ x5 then (if (Op.bytesLess (((qay x0 x5).f0).toList) x1.toList) = true then (qbc.l0 k x0 x1 (wrap64 (x5 + 1))) else (some x5)) else (none)) else (some x5)
def qbc.f (k : Nat) (l0 : List (S99)) (a1 : ByteArray) : Option (Int) := qbc.l0 k l0 a1 0
theorem qbc.qbo : ∀ k, (∀ y0 y1 y2, LeO (qbc.l0 k y0 y1 y2) (qbc.l0 (k + 1) y0 y1 y2))
 | 0 => fun _ _ _ r h => by simp [qbc.l0] at h
 | k + 1 => by
  have ih0 := qbc.qbo k
  ·intro y0 y1 y2
   unfold qbc.l0
   repeat' first
   | (with_reducible exact ih0 _ _ _)
   | (with_reducible exact LeO.refl _)
   | (with_reducible exact LeO.none _)
   | (with_reducible refine LeO.ite ?_ ?_)
   | (with_reducible refine LeO.bind ?_ (fun _ => ?_))
   | exact ih0 _ _ _
   | exact LeO.none _
   | refine LeO.ite ?_ ?_
   | refine LeO.bind ?_ (fun _ => ?_)
theorem qbc.mono : ∀ a0 a1 k, LeO (qbc.f k a0 a1) (qbc.f (k + 1) a0 a1) := by
 intro a0 a1 k
 have ih0 := qbc.qbo k
 unfold qbc.f
 repeat' first
   | (with_reducible exact ih0 _ _ _)
   | (with_reducible exact LeO.refl _)
   | (with_reducible exact LeO.none _)
   | (with_reducible refine LeO.ite ?_ ?_)
   | (with_reducible refine LeO.bind ?_ (fun _ => ?_))
   | exact ih0 _ _ _
   | exact LeO.none _
   | refine LeO.ite ?_ ?_
   | refine LeO.bind ?_ (fun _ => ?_)
set_option maxHeartbeats 8000000 in
set_option maxRecDepth 100000 in
theorem qbc.calls (k : Nat) (A0 : Option Addr) (c0 : Nat) (l0 : List (S99)) (a1 : ByteArray) (r : Int) (w : World) (hr0 : Kd.C k99 w A0 l0.length l0) (hc0 : l0.length ≤ c0) (h : qbc.f k l0 a1 = some r) :
  Calls Try.prog 123 #[.slice A0 l0.length c0, .string a1] w fun e w' => e = .returned (.int .i64 r) ∧ qbb w w' := by
 have HR0 := Aside0.mk hr0
 have HC0 := Aside0.mk hc0
 clear hr0 hc0
 have H : (qbc.l0 k l0 a1 0) = some r := h
 clear h
 have H' := Aside0.mk H
 clear H
 go_enter Try.func123, Try.ntmps123
 go_wp2
 go_loopg [5] k (fun kq v5 w' => ∃ (x5_1 : Int), v5 = .int .i64 x5_1 ∧ Aside0 (qbc.l0 kq l0 a1 x5_1 = some r) ∧ Aside0 (kq ≤ k) ∧ qbb w w')
 case atStart => exact ⟨(0), (by first | rfl | (simp; done) | (simp [*]; done)), H', ⟨Nat.le_refl _⟩, by repeat (first | exact qbb.refl _ | apply qbb.step)⟩
 case round =>
  clear H'
  try clear c1
  try clear p2
  obtain ⟨x5_1, rfl, HA, HK1, ⟨m1, rfl⟩⟩ := hrel
  cases gk with
  | zero => exact absurd HA.out (by simp [qbc.l0])
  | succ k1 =>
   have H := HA.out
   clear HA
   simp only [qbc.l0] at H
   by_cases c3 : x5_1 < (l0.length : Int)
   ·rw [if_pos c3] at H
    have c3b0 : decide (x5_1 < (l0.length : Int)) = true := decide_eq_true c3
    clear c3
    by_cases c4 : 0 ≤ x5_1
    ·rw [if_pos c4] at H
     have c4b0 : decide (0 ≤ x5_1) = true := decide_eq_true c4
     clear c4
     by_cases c5 : (Op.bytesLess (((qay l0 x5_1).f0).toList) a1.toList) = true
     ·rw [if_pos c5] at H
      have c5b0 : (Op.bytesLess (((qay l0 x5_1).f0).toList) a1.toList) = true := c5
      clear c5
      have H' := Aside0.mk H
      clear H
      have p286 : 0 ≤ (x5_1 : Int) := of_decide_eq_true (by first | (with_reducible assumption) | assumption)
      have q286 : x5_1 < (l0.length : Int) := of_decide_eq_true (by first | (with_reducible assumption) | assumption)
      obtain ⟨ad286, e286, hx286_0, hx286_1⟩ := qbS HR0.out x5_1 p286 q286
      cases e286
      replace p286 := eq_true p286
      replace q286 := eq_true q286
      go_wp2
      go_roundg k1
      case measure => have := HK1.out; omega
      case rel => exact ⟨(wrap64 (x5_1 + 1)), (by first | rfl | (simp; done) | (simp [*]; done)), H', ⟨by have := HK1.out; omega⟩, by repeat (first | exact qbb.refl _ | apply qbb.step)⟩
     ·rw [if_neg c5] at H
      have c5b0 : (Op.bytesLess (((qay l0 x5_1).f0).toList) a1.toList) = false := by simpa using c5
      clear c5
      obtain rfl := Option.some.inj H
      have p286 : 0 ≤ (x5_1 : Int) := of_decide_eq_true (by first | (with_reducible assumption) | assumption)
      have q286 : x5_1 < (l0.length : Int) := of_decide_eq_true (by first | (with_reducible assumption) | assumption)
      obtain ⟨ad286, e286, hx286_0, hx286_1⟩ := qbS HR0.out x5_1 p286 q286
      cases e286
      replace p286 := eq_true p286
      replace q286 := eq_true q286
      go_wp2
      go_ret
      exact ⟨by first | rfl | (simp; done) | (simp [*]; done), by repeat (first | exact qbb.refl _ | apply qbb.step)⟩
    ·rw [if_neg c4] at H
     exact absurd H (by simp)
   ·rw [if_neg c3] at H
    have c3b0 : decide (x5_1 < (l0.length : Int)) = false := decide_eq_false c3
    clear c3
    obtain rfl := Option.some.inj H
    go_wp2
    go_ret
    exact ⟨by first | rfl | (simp; done) | (simp [*]; done), by repeat (first | exact qbb.refl _ | apply qbb.step)⟩
end Go.Proofs.Ytenfomejccfkgaa.X
namespace Go.Proofs.Ytenfomejccfkgaa.X
open Go.RowKit Go.Proofs.YtenfomejccfkgaaW.PrintWords Go.Proofs.YtenfomejccfkgaaW.PrintLast Go.Proofs.YtenfomejccfkgaaW.PrintMore
attribute [local go_sem] qaN qaO qaP qaJ qaK qaZ qa0 qaE qaF qaL qaM
set_option linter.unusedVariables false
set_option linter.unusedSimpArgs false
def qbr.f (k : Nat) (l0 : List (S99)) (a1 : ByteArray) : Option (ByteArray × Bool) := (qbc.f k l0 a1).bind fun t287 => (if t287 < (l0.length : Int) then (if 0 ≤ t287 then (if ((qay l0 t287).f0).toList = a1.toList then (some ((qay l0 t287).f1, true)) else (some ((⟨#[]⟩ : ByteArray), false))) else (none)) else (some ((⟨#[]⟩ : ByteArray), false)))
theorem qbr.mono : ∀ a0 a1 k, LeO (qbr.f k a0 a1) (qbr.f (k + 1) a0 a1) := by
 intro a0 a1 k
 unfold qbr.f
 repeat' first
   | (with_reducible exact qbc.mono _ _ _)
   | (with_reducible exact LeO.refl _)
   | (with_reducible exact LeO.none _)
   | (with_reducible refine LeO.ite ?_ ?_)
   | (with_reducible refine LeO.bind ?_ (fun _ => ?_))
   | exact qbc.mono _ _ _
   | exact LeO.none _
   | refine LeO.ite ?_ ?_
   | refine LeO.bind ?_ (fun _ => ?_)
set_option maxHeartbeats 8000000 in
set_option maxRecDepth 100000 in
theorem qbr.calls (k : Nat) (A0 : Option Addr) (c0 : Nat) (l0 : List (S99)) (a1 : ByteArray) (r1 : ByteArray) (r2 : Bool) (w : World) (hr0 : Kd.C k99 w A0 l0.length l0) (hc0 : l0.length ≤ c0) (h : qbr.f k l0 a1 = some (r1, r2)) :
  Calls Try.prog 70 #[.slice A0 l0.length c0, .string a1] w fun e w' => e = .returned (.tuple #[.string r1, .bool r2]) ∧ qbb w w' := by
 have HR0 := Aside0.mk hr0
 have HC0 := Aside0.mk hc0
 clear hr0 hc0
 have H : ((qbc.f k l0 a1).bind fun t287 => (if t287 < (l0.length : Int) then (if 0 ≤ t287 then (if ((qay l0 t287).f0).toList = a1.toList then (some ((qay l0 t287).f1, true)) else (some ((⟨#[]⟩ : ByteArray), false))) else (none)) else (some ((⟨#[]⟩ : ByteArray), false)))) = some (r1, r2) := h
 clear h
 replace H := Option.bind_eq_some_iff.mp H
 obtain ⟨t287, A30, H⟩ := H
 replace H : (if t287 < (l0.length : Int) then (if 0 ≤ t287 then (if ((qay l0 t287).f0).toList = a1.toList then (some ((qay l0 t287).f1, true)) else (some ((⟨#[]⟩ : ByteArray), false))) else (none)) else (some ((⟨#[]⟩ : ByteArray), false))) = some (r1, r2) := H
 have A3 := Aside0.mk A30
 clear A30
 by_cases c4 : t287 < (l0.length : Int)
 ·rw [if_pos c4] at H
  have c4b0 : decide (t287 < (l0.length : Int)) = true := decide_eq_true c4
  clear c4
  by_cases c5 : 0 ≤ t287
  ·rw [if_pos c5] at H
   have c5b0 : decide (0 ≤ t287) = true := decide_eq_true c5
   clear c5
   by_cases c6 : ((qay l0 t287).f0).toList = a1.toList
   ·rw [if_pos c6] at H
    have c6b0 : (((qay l0 t287).f0).toList == a1.toList) = true := beq_iff_eq.mpr c6
    have c6b1 : (((qay l0 t287).f0).toList != a1.toList) = false := bne_eq_false_iff_eq.mpr c6
    clear c6
    simp only [Option.some.injEq, Prod.mk.injEq] at H
    obtain ⟨rfl, rfl⟩ := H
    go_enter Try.func70, Try.ntmps70
    go_wp2_with (first | ((with_reducible refine qas (f := 123) rfl ?_); refine qa5 (some 9) rfl rfl Try.func123 (by kernel_rfl) rfl #[.slice A0 l0.length c0, .string a1] rfl (by (try simp only [List.map_toArray, List.map_cons, List.map_nil]); first | done | rfl | (simp only [List.length_drop, List.length_take]; rfl)) ?_; (with_reducible refine (qbc.calls k _ _ l0 a1 t287 _ ?side1 ?side2 A3.out).mono ?_); (case side1 => repeat (first | exact HR0.out | (with_reducible refine Kd.qaB ?_ _) | (with_reducible refine Kd.qaC ?_ _) | (with_reducible refine Kd.qaT ?_))); (case side2 => exact HC0.out); rintro e w' ⟨rfl, ⟨nd, rfl⟩⟩; refine ⟨_, rfl, ?_⟩; have p288 : 0 ≤ (t287 : Int) := of_decide_eq_true (by first | (with_reducible assumption) | assumption); have q288 : t287 < (l0.length : Int) := of_decide_eq_true (by first | (with_reducible assumption) | assumption); obtain ⟨ad288, e288, hx288_0, hx288_1⟩ := qbS HR0.out t287 p288 q288; cases e288; replace p288 := eq_true p288; replace q288 := eq_true q288; have p289 : 0 ≤ (t287 : Int) := of_decide_eq_true (by first | (with_reducible assumption) | assumption); have q289 : t287 < (l0.length : Int) := of_decide_eq_true (by first | (with_reducible assumption) | assumption); obtain ⟨ad289, e289, hx289_0, hx289_1⟩ := qbS HR0.out t287 p289 q289; obtain rfl : ad288 = ad289 := (by injection e289); replace p289 := eq_true p289; replace q289 := eq_true q289))
    go_ret2
    exact ⟨by first | rfl | (simp; done) | (simp [*]; done), by repeat (first | exact qbb.refl _ | apply qbb.step)⟩
   ·rw [if_neg c6] at H
    have c6b0 : (((qay l0 t287).f0).toList == a1.toList) = false := beq_eq_false_iff_ne.mpr c6
    have c6b1 : (((qay l0 t287).f0).toList != a1.toList) = true := bne_iff_ne.mpr c6
    simp only [Option.some.injEq, Prod.mk.injEq] at H
    obtain ⟨rfl, rfl⟩ := H
    go_enter Try.func70, Try.ntmps70
    go_wp2_with (first | ((with_reducible refine qas (f := 123) rfl ?_); refine qa5 (some 9) rfl rfl Try.func123 (by kernel_rfl) rfl #[.slice A0 l0.length c0, .string a1] rfl (by (try simp only [List.map_toArray, List.map_cons, List.map_nil]); first | done | rfl | (simp only [List.length_drop, List.length_take]; rfl)) ?_; (with_reducible refine (qbc.calls k _ _ l0 a1 t287 _ ?side1 ?side2 A3.out).mono ?_); (case side1 => repeat (first | exact HR0.out | (with_reducible refine Kd.qaB ?_ _) | (with_reducible refine Kd.qaC ?_ _) | (with_reducible refine Kd.qaT ?_))); (case side2 => exact HC0.out); rintro e w' ⟨rfl, ⟨nd, rfl⟩⟩; refine ⟨_, rfl, ?_⟩; have p288 : 0 ≤ (t287 : Int) := of_decide_eq_true (by first | (with_reducible assumption) | assumption); have q288 : t287 < (l0.length : Int) := of_decide_eq_true (by first | (with_reducible assumption) | assumption); obtain ⟨ad288, e288, hx288_0, hx288_1⟩ := qbS HR0.out t287 p288 q288; cases e288; replace p288 := eq_true p288; replace q288 := eq_true q288))
    go_ret2
    exact ⟨by first | rfl | (simp; done) | (simp [*]; done), by repeat (first | exact qbb.refl _ | apply qbb.step)⟩
  ·rw [if_neg c5] at H
   exact absurd H (by simp)
 ·rw [if_neg c4] at H
  have c4b0 : decide (t287 < (l0.length : Int)) = false := decide_eq_false c4
  clear c4
  simp only [Option.some.injEq, Prod.mk.injEq] at H
  obtain ⟨rfl, rfl⟩ := H
  go_enter Try.func70, Try.ntmps70
  go_wp2_with (first | ((with_reducible refine qas (f := 123) rfl ?_); refine qa5 (some 9) rfl rfl Try.func123 (by kernel_rfl) rfl #[.slice A0 l0.length c0, .string a1] rfl (by (try simp only [List.map_toArray, List.map_cons, List.map_nil]); first | done | rfl | (simp only [List.length_drop, List.length_take]; rfl)) ?_; (with_reducible refine (qbc.calls k _ _ l0 a1 t287 _ ?side1 ?side2 A3.out).mono ?_); (case side1 => repeat (first | exact HR0.out | (with_reducible refine Kd.qaB ?_ _) | (with_reducible refine Kd.qaC ?_ _) | (with_reducible refine Kd.qaT ?_))); (case side2 => exact HC0.out); rintro e w' ⟨rfl, ⟨nd, rfl⟩⟩; refine ⟨_, rfl, ?_⟩))
  go_ret2
  exact ⟨by first | rfl | (simp; done) | (simp [*]; done), by repeat (first | exact qbb.refl _ | apply qbb.step)⟩
end Go.Proofs.Ytenfomejccfkgaa.X
namespace Go.Proofs.Ytenfomejccfkgaa.X
open Go.RowKit Go.Proofs.YtenfomejccfkgaaW.PrintWords Go.Proofs.YtenfomejccfkgaaW.PrintLast Go.Proofs.YtenfomejccfkgaaW.PrintMore
attribute [local go_sem] qaN qaO qaP qaJ qaK qaZ qa0 qaE qaF qaL qaM
set_option linter.unusedVariables false
set_option linter.unusedSimpArgs false
def qbp.f (k : Nat) (l0_0 : List (S56)) (a1 : Int) (a2 : ByteArray) : Option (ByteArray × Int) := if (a2.size : Int) > 65536 then (some ((⟨#[]⟩ : ByteArray), 2)) else ((qbC.f l0_0 a1).bind fun bt291 => (if bt291.2.2 = true then ((qaD.f (a2.size : Int) 1 30).bind fun t298 => (if t298 = true then ((qbr.f k bt291.1 a2).bind fun bt299 => (if bt299.2 = true then (some (bt299.1, 0)) else (some ((⟨#[]⟩ : ByteArray), 5)))) else (some ((⟨#[]⟩ : ByteArray), 4)))) else (some ((⟨#[]⟩ : ByteArray), 1))))
theorem qbp.mono : ∀ a0 a1 a2 k, LeO (qbp.f k a0 a1 a2) (qbp.f (k + 1) a0 a1 a2) := by
 intro a0 a1 a2 k
 unfold qbp.f
 repeat' first
   | (with_reducible exact qbr.mono _ _ _)
   | (with_reducible exact LeO.refl _)
   | (with_reducible exact LeO.none _)
   | (with_reducible refine LeO.ite ?_ ?_)
   | (with_reducible refine LeO.bind ?_ (fun _ => ?_))
   | exact qbr.mono _ _ _
   | exact LeO.none _
   | refine LeO.ite ?_ ?_
   | refine LeO.bind ?_ (fun _ => ?_)
set_option maxHeartbeats 8000000 in
set_option maxRecDepth 100000 in
theorem qbp.calls (k : Nat) (A0_0 : Option Addr) (c0_0 : Nat) (l0_0 : List (S56)) (a1 : Int) (a2 : ByteArray) (r1 : ByteArray) (r2 : Int) (w : World) (hr0_0 : Kd.C k56 w A0_0 l0_0.length l0_0) (hc0_0 : l0_0.length ≤ c0_0) (h : qbp.f k l0_0 a1 a2 = some (r1, r2)) :
  Calls Try.prog 24 #[.agg #[.slice A0_0 l0_0.length c0_0], .int .i64 a1, .string a2] w fun e w' => e = .returned (.tuple #[.string r1, .int .i64 r2]) ∧ Below w.heap.size w w' := by
 have hu29 := Try.underlying29
 have HR0_0 := Aside0.mk hr0_0
 have HC0_0 := Aside0.mk hc0_0
 clear hr0_0 hc0_0
 have HB := Aside0.mk (Below.refl w.heap.size w)
 have H : (if (a2.size : Int) > 65536 then (some ((⟨#[]⟩ : ByteArray), 2)) else ((qbC.f l0_0 a1).bind fun bt291 => (if bt291.2.2 = true then ((qaD.f (a2.size : Int) 1 30).bind fun t298 => (if t298 = true then ((qbr.f k bt291.1 a2).bind fun bt299 => (if bt299.2 = true then (some (bt299.1, 0)) else (some ((⟨#[]⟩ : ByteArray), 5)))) else (some ((⟨#[]⟩ : ByteArray), 4)))) else (some ((⟨#[]⟩ : ByteArray), 1))))) = some (r1, r2) := h
 clear h
 by_cases c4 : (a2.size : Int) > 65536
 ·rw [if_pos c4] at H
  have c4b0 : decide (65536 < (a2.size : Int)) = true := decide_eq_true c4
  have c4b1 : decide (65536 < a2.size) = true := decide_eq_true (by omega)
  clear c4
  simp only [Option.some.injEq, Prod.mk.injEq] at H
  obtain ⟨rfl, rfl⟩ := H
  go_enter Try.func24, Try.ntmps24
  go_wp2_with (first | ((with_reducible refine qaQ (N := 3) rfl ?_); refine qaI ?hg (N := 3) ?hd (cs := #[.slice A0_0 l0_0.length c0_0]) (t := 29) ?hr ?_; (case hd => rfl); (case hg => rfl); (case hr => first | (go_simp; done) | (go_simp; rfl)); intro gb290 hg w5 hbox hb; have n0_ := Aside0.mk (qaj (by repeat (first | (with_reducible first | exact HB.out | apply qab | apply qaa | apply qac) | exact HB.out)) hb); have n1_ := Aside0.mk (hbox); have n2_ := Aside0.mk ((by rw [hg]; exact (qak (by repeat (first | (with_reducible first | exact HB.out | apply qab | apply qaa | apply qac) | exact HB.out))) : w.heap.size ≤ gb290)); have n3_ := Aside0.mk ((by rw [hg]; exact (qak (by repeat (first | (with_reducible first | exact HB.out | apply qab | apply qaa | apply qac) | exact HB.out))) : w.heap.size ≤ gb290)); clear HB; have HB := n0_; have BK290 := n1_; have GW290 := n2_; have GE290 := n3_; clear n0_ n1_ n2_ n3_; clear hb hbox hg))
  go_ret2
  exact ⟨by first | rfl | (simp [qal, qam] <;> rfl) | (simp [*, qal, qam] <;> rfl), by repeat (first | (with_reducible first | exact HB.out | apply qab | apply qaa | apply qac | refine qai ?_ GE290.out) | exact HB.out)⟩
 ·rw [if_neg c4] at H
  have c4b0 : decide (65536 < (a2.size : Int)) = false := decide_eq_false c4
  have c4b1 : decide (65536 < a2.size) = false := decide_eq_false (by omega)
  clear c4
  replace H := Option.bind_eq_some_iff.mp H
  obtain ⟨⟨t291, t294, t297⟩, A60, H⟩ := H
  replace H : (if t297 = true then ((qaD.f (a2.size : Int) 1 30).bind fun t298 => (if t298 = true then ((qbr.f k t291 a2).bind fun bt299 => (if bt299.2 = true then (some (bt299.1, 0)) else (some ((⟨#[]⟩ : ByteArray), 5)))) else (some ((⟨#[]⟩ : ByteArray), 4)))) else (some ((⟨#[]⟩ : ByteArray), 1))) = some (r1, r2) := H
  have A6 := Aside0.mk A60
  clear A60
  by_cases c7 : t297 = true
  ·subst c7
   have H1 : ((qaD.f (a2.size : Int) 1 30).bind fun t298 => (if t298 = true then ((qbr.f k t291 a2).bind fun bt299 => (if bt299.2 = true then (some (bt299.1, 0)) else (some ((⟨#[]⟩ : ByteArray), 5)))) else (some ((⟨#[]⟩ : ByteArray), 4)))) = some (r1, r2) := by rw [if_pos rfl] at H; exact H
   clear H
   have H := H1
   clear H1
   replace H := Option.bind_eq_some_iff.mp H
   obtain ⟨t298, A80, H⟩ := H
   replace H : (if t298 = true then ((qbr.f k t291 a2).bind fun bt299 => (if bt299.2 = true then (some (bt299.1, 0)) else (some ((⟨#[]⟩ : ByteArray), 5)))) else (some ((⟨#[]⟩ : ByteArray), 4))) = some (r1, r2) := H
   have A8 := Aside0.mk A80
   clear A80
   by_cases c9 : t298 = true
   ·subst c9
    have H1 : ((qbr.f k t291 a2).bind fun bt299 => (if bt299.2 = true then (some (bt299.1, 0)) else (some ((⟨#[]⟩ : ByteArray), 5)))) = some (r1, r2) := by rw [if_pos rfl] at H; exact H
    clear H
    have H := H1
    clear H1
    replace H := Option.bind_eq_some_iff.mp H
    obtain ⟨⟨t299, t300⟩, A100, H⟩ := H
    replace H : (if t300 = true then (some (t299, 0)) else (some ((⟨#[]⟩ : ByteArray), 5))) = some (r1, r2) := H
    have A10 := Aside0.mk A100
    clear A100
    by_cases c11 : t300 = true
    ·subst c11
     have H1 : (some (t299, 0)) = some (r1, r2) := by rw [if_pos rfl] at H; exact H
     clear H
     have H := H1
     clear H1
     simp only [Option.some.injEq, Prod.mk.injEq] at H
     obtain ⟨rfl, rfl⟩ := H
     go_enter Try.func24, Try.ntmps24
     go_wp2_with (first | ((with_reducible refine qaQ (N := 3) rfl ?_); refine qaI ?hg (N := 3) ?hd (cs := #[.slice A0_0 l0_0.length c0_0]) (t := 29) ?hr ?_; (case hd => rfl); (case hg => rfl); (case hr => first | (go_simp; done) | (go_simp; rfl)); intro gb290 hg w12 hbox hb; have n0_ := Aside0.mk (qaj (by repeat (first | (with_reducible first | exact HB.out | apply qab | apply qaa | apply qac) | exact HB.out)) hb); have n1_ := Aside0.mk (hbox); have n2_ := Aside0.mk ((by rw [hg]; exact (qak (by repeat (first | (with_reducible first | exact HB.out | apply qab | apply qaa | apply qac) | exact HB.out))) : w.heap.size ≤ gb290)); have n3_ := Aside0.mk ((by rw [hg]; exact (qak (by repeat (first | (with_reducible first | exact HB.out | apply qab | apply qaa | apply qac) | exact HB.out))) : w.heap.size ≤ gb290)); clear HB; have HB := n0_; have BK290 := n1_; have GW290 := n2_; have GE290 := n3_; clear n0_ n1_ n2_ n3_; clear hb hbox hg; have hcz13_0 : w12.cell? ⟨gb290, 0, none⟩ = some (.slice A0_0 l0_0.length c0_0) := (qah BK290.out 0).trans rfl; have hfz13_0 := qad BK290.out 0) | ((with_reducible refine qas (f := 61) rfl ?_); refine qa5 (some 19) rfl rfl Try.func61 (by kernel_rfl) rfl #[.agg #[.slice A0_0 l0_0.length c0_0], .int .i64 a1] rfl (by (try simp only [List.map_toArray, List.map_cons, List.map_nil]); first | done | rfl | (simp only [List.length_drop, List.length_take]; rfl)) ?_; (with_reducible refine (qbC.calls _ _ l0_0 a1 t291 t294 true _ ?side1 ?side2 A6.out).mono ?_); (case side1 => repeat (first | exact (Kd.qaz HR0_0.out HB.out) | (with_reducible refine Kd.qaB ?_ _) | (with_reducible refine Kd.qaC ?_ _) | (with_reducible refine Kd.qaT ?_))); (case side2 => exact HC0_0.out); rintro e w14 ⟨v292, v295, rfl, ho0, ho1, hb⟩; refine ⟨_, rfl, ?_⟩; have n0_ := Aside0.mk (Kd.qbM ho0 (qak (by repeat (first | (with_reducible first | exact HB.out | apply qab | apply qaa | apply qac | refine qai ?_ GE290.out) | exact HB.out)))); have n1_ := Aside0.mk (Kd.qbM ho1 (qak (by repeat (first | (with_reducible first | exact HB.out | apply qab | apply qaa | apply qac | refine qai ?_ GE290.out) | exact HB.out)))); have n2_ := Aside0.mk (qaw (g := gb290) (o := .cells #[.slice A0_0 l0_0.length c0_0] 29 (0, 0)) (by (with_reducible repeat (first | refine qao ?_ _ | refine qap ?_ | refine qan ?_ _)); exact BK290.out) hb); have n3_ := Aside0.mk (qaj (by repeat (first | (with_reducible first | exact HB.out | apply qab | apply qaa | apply qac | refine qai ?_ GE290.out) | exact HB.out)) hb); clear BK290; clear HB; have HO293 := n0_; have HO296 := n1_; have BK290 := n2_; have HB := n3_; clear n0_ n1_ n2_ n3_; (try clear hb); (try clear hb2); (try clear hk); (try clear hi); (try clear ho0); (try clear ho1)) | ((with_reducible refine qas (f := 69) rfl ?_); refine qa5 (some 27) rfl rfl Try.func69 (by kernel_rfl) rfl #[.int .i64 (a2.size : Int), .int .i64 1, .int .i64 30] rfl (by (try simp only [List.map_toArray, List.map_cons, List.map_nil]); first | done | rfl | (simp only [List.length_drop, List.length_take]; rfl)) ?_; (with_reducible refine (qaD.calls (a2.size : Int) 1 30 true _ A8.out).mono ?_); rintro e w' ⟨rfl, ⟨nd, rfl⟩⟩; refine ⟨_, rfl, ?_⟩; obtain ⟨Ao15, co15, eo15⟩ := Kd.qcB HO293.out; subst eo15) | ((with_reducible refine qas (f := 70) rfl ?_); refine qa5 (some 32) rfl rfl Try.func70 (by kernel_rfl) rfl #[.slice Ao15 t291.length co15, .string a2] rfl (by (try simp only [List.map_toArray, List.map_cons, List.map_nil]); first | done | rfl | (simp only [List.length_drop, List.length_take]; rfl)) ?_; (with_reducible refine (qbr.calls k _ _ t291 a2 t299 true _ ?side1 ?side2 A10.out).mono ?_); (case side1 => repeat (first | exact (Kd.qbE HO293.out).2.2 | (with_reducible refine Kd.qaB ?_ _) | (with_reducible refine Kd.qaC ?_ _) | (with_reducible refine Kd.qaT ?_))); (case side2 => exact (Kd.qbE HO293.out).2.1); rintro e w' ⟨rfl, ⟨nd, rfl⟩⟩; refine ⟨_, rfl, ?_⟩))
     go_ret2
     exact ⟨by first | rfl | (simp [qal, qam] <;> rfl) | (simp [*, qal, qam] <;> rfl), by repeat (first | (with_reducible first | exact HB.out | apply qab | apply qaa | apply qac | refine qai ?_ GE290.out) | exact HB.out)⟩
    ·replace c11 := Bool.eq_false_iff.mpr c11
     subst c11
     have H1 : (some ((⟨#[]⟩ : ByteArray), 5)) = some (r1, r2) := by rw [if_neg (show ¬ (false = true) by decide)] at H; exact H
     clear H
     have H := H1
     clear H1
     simp only [Option.some.injEq, Prod.mk.injEq] at H
     obtain ⟨rfl, rfl⟩ := H
     go_enter Try.func24, Try.ntmps24
     go_wp2_with (first | ((with_reducible refine qaQ (N := 3) rfl ?_); refine qaI ?hg (N := 3) ?hd (cs := #[.slice A0_0 l0_0.length c0_0]) (t := 29) ?hr ?_; (case hd => rfl); (case hg => rfl); (case hr => first | (go_simp; done) | (go_simp; rfl)); intro gb290 hg w16 hbox hb; have n0_ := Aside0.mk (qaj (by repeat (first | (with_reducible first | exact HB.out | apply qab | apply qaa | apply qac) | exact HB.out)) hb); have n1_ := Aside0.mk (hbox); have n2_ := Aside0.mk ((by rw [hg]; exact (qak (by repeat (first | (with_reducible first | exact HB.out | apply qab | apply qaa | apply qac) | exact HB.out))) : w.heap.size ≤ gb290)); have n3_ := Aside0.mk ((by rw [hg]; exact (qak (by repeat (first | (with_reducible first | exact HB.out | apply qab | apply qaa | apply qac) | exact HB.out))) : w.heap.size ≤ gb290)); clear HB; have HB := n0_; have BK290 := n1_; have GW290 := n2_; have GE290 := n3_; clear n0_ n1_ n2_ n3_; clear hb hbox hg; have hcz17_0 : w16.cell? ⟨gb290, 0, none⟩ = some (.slice A0_0 l0_0.length c0_0) := (qah BK290.out 0).trans rfl; have hfz17_0 := qad BK290.out 0) | ((with_reducible refine qas (f := 61) rfl ?_); refine qa5 (some 19) rfl rfl Try.func61 (by kernel_rfl) rfl #[.agg #[.slice A0_0 l0_0.length c0_0], .int .i64 a1] rfl (by (try simp only [List.map_toArray, List.map_cons, List.map_nil]); first | done | rfl | (simp only [List.length_drop, List.length_take]; rfl)) ?_; (with_reducible refine (qbC.calls _ _ l0_0 a1 t291 t294 true _ ?side1 ?side2 A6.out).mono ?_); (case side1 => repeat (first | exact (Kd.qaz HR0_0.out HB.out) | (with_reducible refine Kd.qaB ?_ _) | (with_reducible refine Kd.qaC ?_ _) | (with_reducible refine Kd.qaT ?_))); (case side2 => exact HC0_0.out); rintro e w18 ⟨v292, v295, rfl, ho0, ho1, hb⟩; refine ⟨_, rfl, ?_⟩; have n0_ := Aside0.mk (Kd.qbM ho0 (qak (by repeat (first | (with_reducible first | exact HB.out | apply qab | apply qaa | apply qac | refine qai ?_ GE290.out) | exact HB.out)))); have n1_ := Aside0.mk (Kd.qbM ho1 (qak (by repeat (first | (with_reducible first | exact HB.out | apply qab | apply qaa | apply qac | refine qai ?_ GE290.out) | exact HB.out)))); have n2_ := Aside0.mk (qaw (g := gb290) (o := .cells #[.slice A0_0 l0_0.length c0_0] 29 (0, 0)) (by (with_reducible repeat (first | refine qao ?_ _ | refine qap ?_ | refine qan ?_ _)); exact BK290.out) hb); have n3_ := Aside0.mk (qaj (by repeat (first | (with_reducible first | exact HB.out | apply qab | apply qaa | apply qac | refine qai ?_ GE290.out) | exact HB.out)) hb); clear BK290; clear HB; have HO293 := n0_; have HO296 := n1_; have BK290 := n2_; have HB := n3_; clear n0_ n1_ n2_ n3_; (try clear hb); (try clear hb2); (try clear hk); (try clear hi); (try clear ho0); (try clear ho1)) | ((with_reducible refine qas (f := 69) rfl ?_); refine qa5 (some 27) rfl rfl Try.func69 (by kernel_rfl) rfl #[.int .i64 (a2.size : Int), .int .i64 1, .int .i64 30] rfl (by (try simp only [List.map_toArray, List.map_cons, List.map_nil]); first | done | rfl | (simp only [List.length_drop, List.length_take]; rfl)) ?_; (with_reducible refine (qaD.calls (a2.size : Int) 1 30 true _ A8.out).mono ?_); rintro e w' ⟨rfl, ⟨nd, rfl⟩⟩; refine ⟨_, rfl, ?_⟩; obtain ⟨Ao19, co19, eo19⟩ := Kd.qcB HO293.out; subst eo19) | ((with_reducible refine qas (f := 70) rfl ?_); refine qa5 (some 32) rfl rfl Try.func70 (by kernel_rfl) rfl #[.slice Ao19 t291.length co19, .string a2] rfl (by (try simp only [List.map_toArray, List.map_cons, List.map_nil]); first | done | rfl | (simp only [List.length_drop, List.length_take]; rfl)) ?_; (with_reducible refine (qbr.calls k _ _ t291 a2 t299 false _ ?side1 ?side2 A10.out).mono ?_); (case side1 => repeat (first | exact (Kd.qbE HO293.out).2.2 | (with_reducible refine Kd.qaB ?_ _) | (with_reducible refine Kd.qaC ?_ _) | (with_reducible refine Kd.qaT ?_))); (case side2 => exact (Kd.qbE HO293.out).2.1); rintro e w' ⟨rfl, ⟨nd, rfl⟩⟩; refine ⟨_, rfl, ?_⟩))
     go_ret2
     exact ⟨by first | rfl | (simp [qal, qam] <;> rfl) | (simp [*, qal, qam] <;> rfl), by repeat (first | (with_reducible first | exact HB.out | apply qab | apply qaa | apply qac | refine qai ?_ GE290.out) | exact HB.out)⟩
   ·replace c9 := Bool.eq_false_iff.mpr c9
    subst c9
    have H1 : (some ((⟨#[]⟩ : ByteArray), 4)) = some (r1, r2) := by rw [if_neg (show ¬ (false = true) by decide)] at H; exact H
    clear H
    have H := H1
    clear H1
    simp only [Option.some.injEq, Prod.mk.injEq] at H
    obtain ⟨rfl, rfl⟩ := H
    go_enter Try.func24, Try.ntmps24
    go_wp2_with (first | ((with_reducible refine qaQ (N := 3) rfl ?_); refine qaI ?hg (N := 3) ?hd (cs := #[.slice A0_0 l0_0.length c0_0]) (t := 29) ?hr ?_; (case hd => rfl); (case hg => rfl); (case hr => first | (go_simp; done) | (go_simp; rfl)); intro gb290 hg w20 hbox hb; have n0_ := Aside0.mk (qaj (by repeat (first | (with_reducible first | exact HB.out | apply qab | apply qaa | apply qac) | exact HB.out)) hb); have n1_ := Aside0.mk (hbox); have n2_ := Aside0.mk ((by rw [hg]; exact (qak (by repeat (first | (with_reducible first | exact HB.out | apply qab | apply qaa | apply qac) | exact HB.out))) : w.heap.size ≤ gb290)); have n3_ := Aside0.mk ((by rw [hg]; exact (qak (by repeat (first | (with_reducible first | exact HB.out | apply qab | apply qaa | apply qac) | exact HB.out))) : w.heap.size ≤ gb290)); clear HB; have HB := n0_; have BK290 := n1_; have GW290 := n2_; have GE290 := n3_; clear n0_ n1_ n2_ n3_; clear hb hbox hg; have hcz21_0 : w20.cell? ⟨gb290, 0, none⟩ = some (.slice A0_0 l0_0.length c0_0) := (qah BK290.out 0).trans rfl; have hfz21_0 := qad BK290.out 0) | ((with_reducible refine qas (f := 61) rfl ?_); refine qa5 (some 19) rfl rfl Try.func61 (by kernel_rfl) rfl #[.agg #[.slice A0_0 l0_0.length c0_0], .int .i64 a1] rfl (by (try simp only [List.map_toArray, List.map_cons, List.map_nil]); first | done | rfl | (simp only [List.length_drop, List.length_take]; rfl)) ?_; (with_reducible refine (qbC.calls _ _ l0_0 a1 t291 t294 true _ ?side1 ?side2 A6.out).mono ?_); (case side1 => repeat (first | exact (Kd.qaz HR0_0.out HB.out) | (with_reducible refine Kd.qaB ?_ _) | (with_reducible refine Kd.qaC ?_ _) | (with_reducible refine Kd.qaT ?_))); (case side2 => exact HC0_0.out); rintro e w22 ⟨v292, v295, rfl, ho0, ho1, hb⟩; refine ⟨_, rfl, ?_⟩; have n0_ := Aside0.mk (Kd.qbM ho0 (qak (by repeat (first | (with_reducible first | exact HB.out | apply qab | apply qaa | apply qac | refine qai ?_ GE290.out) | exact HB.out)))); have n1_ := Aside0.mk (Kd.qbM ho1 (qak (by repeat (first | (with_reducible first | exact HB.out | apply qab | apply qaa | apply qac | refine qai ?_ GE290.out) | exact HB.out)))); have n2_ := Aside0.mk (qaw (g := gb290) (o := .cells #[.slice A0_0 l0_0.length c0_0] 29 (0, 0)) (by (with_reducible repeat (first | refine qao ?_ _ | refine qap ?_ | refine qan ?_ _)); exact BK290.out) hb); have n3_ := Aside0.mk (qaj (by repeat (first | (with_reducible first | exact HB.out | apply qab | apply qaa | apply qac | refine qai ?_ GE290.out) | exact HB.out)) hb); clear BK290; clear HB; have HO293 := n0_; have HO296 := n1_; have BK290 := n2_; have HB := n3_; clear n0_ n1_ n2_ n3_; (try clear hb); (try clear hb2); (try clear hk); (try clear hi); (try clear ho0); (try clear ho1)) | ((with_reducible refine qas (f := 69) rfl ?_); refine qa5 (some 27) rfl rfl Try.func69 (by kernel_rfl) rfl #[.int .i64 (a2.size : Int), .int .i64 1, .int .i64 30] rfl (by (try simp only [List.map_toArray, List.map_cons, List.map_nil]); first | done | rfl | (simp only [List.length_drop, List.length_take]; rfl)) ?_; (with_reducible refine (qaD.calls (a2.size : Int) 1 30 false _ A8.out).mono ?_); rintro e w' ⟨rfl, ⟨nd, rfl⟩⟩; refine ⟨_, rfl, ?_⟩))
    go_ret2
    exact ⟨by first | rfl | (simp [qal, qam] <;> rfl) | (simp [*, qal, qam] <;> rfl), by repeat (first | (with_reducible first | exact HB.out | apply qab | apply qaa | apply qac | refine qai ?_ GE290.out) | exact HB.out)⟩
  ·replace c7 := Bool.eq_false_iff.mpr c7
   subst c7
   have H1 : (some ((⟨#[]⟩ : ByteArray), 1)) = some (r1, r2) := by rw [if_neg (show ¬ (false = true) by decide)] at H; exact H
   clear H
   have H := H1
   clear H1
   simp only [Option.some.injEq, Prod.mk.injEq] at H
   obtain ⟨rfl, rfl⟩ := H
   go_enter Try.func24, Try.ntmps24
   go_wp2_with (first | ((with_reducible refine qaQ (N := 3) rfl ?_); refine qaI ?hg (N := 3) ?hd (cs := #[.slice A0_0 l0_0.length c0_0]) (t := 29) ?hr ?_; (case hd => rfl); (case hg => rfl); (case hr => first | (go_simp; done) | (go_simp; rfl)); intro gb290 hg w23 hbox hb; have n0_ := Aside0.mk (qaj (by repeat (first | (with_reducible first | exact HB.out | apply qab | apply qaa | apply qac) | exact HB.out)) hb); have n1_ := Aside0.mk (hbox); have n2_ := Aside0.mk ((by rw [hg]; exact (qak (by repeat (first | (with_reducible first | exact HB.out | apply qab | apply qaa | apply qac) | exact HB.out))) : w.heap.size ≤ gb290)); have n3_ := Aside0.mk ((by rw [hg]; exact (qak (by repeat (first | (with_reducible first | exact HB.out | apply qab | apply qaa | apply qac) | exact HB.out))) : w.heap.size ≤ gb290)); clear HB; have HB := n0_; have BK290 := n1_; have GW290 := n2_; have GE290 := n3_; clear n0_ n1_ n2_ n3_; clear hb hbox hg; have hcz24_0 : w23.cell? ⟨gb290, 0, none⟩ = some (.slice A0_0 l0_0.length c0_0) := (qah BK290.out 0).trans rfl; have hfz24_0 := qad BK290.out 0) | ((with_reducible refine qas (f := 61) rfl ?_); refine qa5 (some 19) rfl rfl Try.func61 (by kernel_rfl) rfl #[.agg #[.slice A0_0 l0_0.length c0_0], .int .i64 a1] rfl (by (try simp only [List.map_toArray, List.map_cons, List.map_nil]); first | done | rfl | (simp only [List.length_drop, List.length_take]; rfl)) ?_; (with_reducible refine (qbC.calls _ _ l0_0 a1 t291 t294 false _ ?side1 ?side2 A6.out).mono ?_); (case side1 => repeat (first | exact (Kd.qaz HR0_0.out HB.out) | (with_reducible refine Kd.qaB ?_ _) | (with_reducible refine Kd.qaC ?_ _) | (with_reducible refine Kd.qaT ?_))); (case side2 => exact HC0_0.out); rintro e w25 ⟨v292, v295, rfl, ho0, ho1, hb⟩; refine ⟨_, rfl, ?_⟩; have n0_ := Aside0.mk (Kd.qbM ho0 (qak (by repeat (first | (with_reducible first | exact HB.out | apply qab | apply qaa | apply qac | refine qai ?_ GE290.out) | exact HB.out)))); have n1_ := Aside0.mk (Kd.qbM ho1 (qak (by repeat (first | (with_reducible first | exact HB.out | apply qab | apply qaa | apply qac | refine qai ?_ GE290.out) | exact HB.out)))); have n2_ := Aside0.mk (qaw (g := gb290) (o := .cells #[.slice A0_0 l0_0.length c0_0] 29 (0, 0)) (by (with_reducible repeat (first | refine qao ?_ _ | refine qap ?_ | refine qan ?_ _)); exact BK290.out) hb); have n3_ := Aside0.mk (qaj (by repeat (first | (with_reducible first | exact HB.out | apply qab | apply qaa | apply qac | refine qai ?_ GE290.out) | exact HB.out)) hb); clear BK290; clear HB; have HO293 := n0_; have HO296 := n1_; have BK290 := n2_; have HB := n3_; clear n0_ n1_ n2_ n3_; (try clear hb); (try clear hb2); (try clear hk); (try clear hi); (try clear ho0); (try clear ho1)))
   go_ret2
   exact ⟨by first | rfl | (simp [qal, qam] <;> rfl) | (simp [*, qal, qam] <;> rfl), by repeat (first | (with_reducible first | exact HB.out | apply qab | apply qaa | apply qac | refine qai ?_ GE290.out) | exact HB.out)⟩
end Go.Proofs.Ytenfomejccfkgaa.X
namespace Go.Proofs.Ytenfomejccfkgaa.X
open Go.RowKit Go.Proofs.YtenfomejccfkgaaW.PrintWords Go.Proofs.YtenfomejccfkgaaW.PrintLast Go.Proofs.YtenfomejccfkgaaW.PrintMore
attribute [local go_sem] qaN qaO qaP qaJ qaK qaZ qa0 qaE qaF qaL qaM
set_option linter.unusedVariables false
set_option linter.unusedSimpArgs false
def qbh.f (k : Nat) (l0 : List (S99)) : Option (Bool) := if (l0.length : Int) ≤ 60 then ((qar.f k l0).bind fun t217 => (some t217)) else (some false)
theorem qbh.mono : ∀ a0 k, LeO (qbh.f k a0) (qbh.f (k + 1) a0) := by
 intro a0 k
 unfold qbh.f
 repeat' first
   | (with_reducible exact qar.mono _ _)
   | (with_reducible exact LeO.refl _)
   | (with_reducible exact LeO.none _)
   | (with_reducible refine LeO.ite ?_ ?_)
   | (with_reducible refine LeO.bind ?_ (fun _ => ?_))
   | exact qar.mono _ _
   | exact LeO.none _
   | refine LeO.ite ?_ ?_
   | refine LeO.bind ?_ (fun _ => ?_)
set_option maxHeartbeats 8000000 in
set_option maxRecDepth 100000 in
theorem qbh.calls (k : Nat) (A0 : Option Addr) (c0 : Nat) (l0 : List (S99)) (r : Bool) (w : World) (hr0 : Kd.C k99 w A0 l0.length l0) (hc0 : l0.length ≤ c0) (h : qbh.f k l0 = some r) :
  Calls Try.prog 122 #[.slice A0 l0.length c0] w fun e w' => e = .returned (.bool r) ∧ Below w.heap.size w w' := by
 have HR0 := Aside0.mk hr0
 have HC0 := Aside0.mk hc0
 clear hr0 hc0
 have HB := Aside0.mk (Below.refl w.heap.size w)
 have H : (if (l0.length : Int) ≤ 60 then ((qar.f k l0).bind fun t217 => (some t217)) else (some false)) = some r := h
 clear h
 by_cases c2 : (l0.length : Int) ≤ 60
 ·rw [if_pos c2] at H
  have c2b0 : decide ((l0.length : Int) ≤ 60) = true := decide_eq_true c2
  have c2b1 : decide (l0.length ≤ 60) = true := decide_eq_true (by omega)
  clear c2
  replace H := Option.bind_eq_some_iff.mp H
  obtain ⟨t217, A30, H⟩ := H
  replace H : (some t217) = some r := H
  have A3 := Aside0.mk A30
  clear A30
  obtain rfl := Option.some.inj H
  go_enter Try.func122, Try.ntmps122
  go_wp2_with (first | (go_at_call 129; (with_reducible refine (qar.calls k _ _ l0 t217 _ ?side1 ?side2 A3.out).mono ?_); (case side1 => repeat (first | exact HR0.out | (with_reducible refine Kd.qaB ?_ _) | (with_reducible refine Kd.qaC ?_ _) | (with_reducible refine Kd.qaT ?_))); (case side2 => exact HC0.out); rintro e w4 ⟨rfl, hb⟩; have n0_ := Aside0.mk (qaj (by repeat (first | (with_reducible first | exact HB.out | apply qab | apply qaa | apply qac) | exact HB.out)) hb); clear HB; have HB := n0_; clear n0_; (try clear hb); (try clear hb2); (try clear hk); (try clear hi)))
  go_ret
  exact ⟨by first | rfl | (simp [qal, qam] <;> rfl) | (simp [*, qal, qam] <;> rfl), by repeat (first | (with_reducible first | exact HB.out | apply qab | apply qaa | apply qac) | exact HB.out)⟩
 ·rw [if_neg c2] at H
  have c2b0 : decide ((l0.length : Int) ≤ 60) = false := decide_eq_false c2
  have c2b1 : decide (l0.length ≤ 60) = false := decide_eq_false (by omega)
  clear c2
  obtain rfl := Option.some.inj H
  go_enter Try.func122, Try.ntmps122
  go_wp2
  go_ret
  exact ⟨by first | rfl | (simp [qal, qam] <;> rfl) | (simp [*, qal, qam] <;> rfl), by repeat (first | (with_reducible first | exact HB.out | apply qab | apply qaa | apply qac) | exact HB.out)⟩
end Go.Proofs.Ytenfomejccfkgaa.X
namespace Go.Proofs.Ytenfomejccfkgaa.X
open Go.RowKit Go.Proofs.YtenfomejccfkgaaW.PrintWords Go.Proofs.YtenfomejccfkgaaW.PrintLast Go.Proofs.YtenfomejccfkgaaW.PrintMore
attribute [local go_sem] qaN qaO qaP qaJ qaK qaZ qa0 qaE qaF qaL qaM
set_option linter.unusedVariables false
set_option linter.unusedSimpArgs false
theorem qcA (l : List S99) : Ev (fun k => qbh.f k l) (qcf l) := by
 unfold qbh.f qcf
 by_cases h : (l.length : Int) ≤ 60
 ·exact Ev.pos h (Ev.bind (qdJ l (by omega)) (Ev.is (by simp [show l.length ≤ 60 by omega])))
 ·exact Ev.neg h (Ev.is (by simp [show ¬ l.length ≤ 60 by omega]))
end Go.Proofs.Ytenfomejccfkgaa.X
