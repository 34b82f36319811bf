import Derived.Test.YtgcncphdjabjjaaKFnExactReplay3
import Derived.Test.YtgcncphdjabjjaaKFnExactReplay4
import Derived.Deep.QuietTactic
import Derived.BigQuiet
import Derived.Below
namespace Go.Proofs.Ytgcncphdjabjjaa.X
open Go.RowKit Go.Proofs.YtgcncphdjabjjaaW.PrintWords Go.Proofs.YtgcncphdjabjjaaW.PrintLast Go.Proofs.YtgcncphdjabjjaaW.PrintMore
attribute [local go_sem] qaC qaD qaE qay qaz qaN qaO qat qau qaA qaB
set_option linter.unusedVariables false
set_option linter.unusedSimpArgs false
def qbT.f (a0_0 : ByteArray) (a0_1 : ByteArray) : Option (Bool) := (qbH.f a0_0).bind fun t145 => (if t145 = true then (some (decide ((a0_1.size : Int) ≤ 90))) else (some false))
set_option maxHeartbeats 8000000 in
set_option maxRecDepth 100000 in
theorem qbT.calls (a0_0 : ByteArray) (a0_1 : ByteArray) (r : Bool) (w : World) (h : qbT.f a0_0 a0_1 = some r) :
  Calls Try.prog 104 #[.agg #[.string a0_0, .string a0_1]] w fun e w' => e = .returned (.bool r) ∧ Below w.heap.size w w' := by
 have hu76 := Try.underlying76
 have HB := Aside0.mk (Below.refl w.heap.size w)
 have H : ((qbH.f a0_0).bind fun t145 => (if t145 = true then (some (decide ((a0_1.size : Int) ≤ 90))) else (some false))) = some r := h
 clear h
 replace H := Option.bind_eq_some_iff.mp H
 obtain ⟨t145, A20, H⟩ := H
 replace H : (if t145 = true then (some (decide ((a0_1.size : Int) ≤ 90))) else (some false)) = some r := H
 have A2 := Aside0.mk A20
 clear A20
 by_cases c3 : t145 = true
 ·subst c3
  have H1 : (some (decide ((a0_1.size : Int) ≤ 90))) = some r := by rw [if_pos rfl] at H; exact H
  clear H
  have H := H1
  clear H1
  obtain rfl := Option.some.inj H
  go_enter Try.func104, Try.ntmps104
  go_wp2_with (first | ((with_reducible refine qaH (N := 1) rfl ?_); (try (refine qbt (by rfl) ?_; dsimp only)); refine qaF ?hg (N := 1) ?hd (cs := #[.string a0_0, .string a0_1]) (t := 76) ?hr ?_; (case hd => rfl); (case hg => rfl); (case hr => first | (go_simp; done) | (go_simp; rfl)); intro gb144 hg w4 hbox hb; have n0_ := Aside0.mk (qag (by repeat (first | (with_reducible first | exact HB.out | apply qac | apply qaa | apply qab) | exact HB.out)) hb); have n1_ := Aside0.mk (hbox); have n2_ := Aside0.mk ((by rw [hg]; exact (qak (by repeat (first | (with_reducible first | exact HB.out | apply qac | apply qaa | apply qab) | exact HB.out))) : w.heap.size ≤ gb144)); have n3_ := Aside0.mk ((by rw [hg]; exact (qak (by repeat (first | (with_reducible first | exact HB.out | apply qac | apply qaa | apply qab) | exact HB.out))) : w.heap.size ≤ gb144)); clear HB; have HB := n0_; have BK144 := n1_; have GW144 := n2_; have GE144 := n3_; clear n0_ n1_ n2_ n3_; clear hb hbox hg; have hcz5_0 : w4.cell? ⟨gb144, 0, none⟩ = some (.string a0_0) := (qad BK144.out 0).trans rfl; have hcz5_1 : w4.cell? ⟨gb144, 1, none⟩ = some (.string a0_1) := (qad BK144.out 1).trans rfl; have hfz5_0 := qae BK144.out 0; have hfz5_1 := qae BK144.out 1) | ((with_reducible refine qav (f := 96) rfl ?_); refine qbd (some 5) rfl rfl Try.func96 (by kernel_rfl) rfl #[.string a0_0] rfl (by (try simp only [List.map_toArray, List.map_cons, List.map_nil]); first | done | rfl | (simp only [List.length_drop, List.length_take]; rfl)) ?_; (with_reducible refine (qbH.calls a0_0 true _ A2.out).mono ?_); rintro e w' ⟨rfl, ⟨nd, rfl⟩⟩; refine ⟨_, rfl, ?_⟩))
  go_ret
  exact ⟨by first | rfl | (simp [qam, qan] <;> rfl) | (simp [*, qam, qan] <;> rfl), by repeat (first | (with_reducible first | exact HB.out | apply qac | apply qaa | apply qab | refine qah ?_ GE144.out) | exact HB.out)⟩
 ·replace c3 := Bool.eq_false_iff.mpr c3
  subst c3
  have H1 : (some false) = some r := by rw [if_neg (show ¬ (false = true) by decide)] at H; exact H
  clear H
  have H := H1
  clear H1
  obtain rfl := Option.some.inj H
  go_enter Try.func104, Try.ntmps104
  go_wp2_with (first | ((with_reducible refine qaH (N := 1) rfl ?_); (try (refine qbt (by rfl) ?_; dsimp only)); refine qaF ?hg (N := 1) ?hd (cs := #[.string a0_0, .string a0_1]) (t := 76) ?hr ?_; (case hd => rfl); (case hg => rfl); (case hr => first | (go_simp; done) | (go_simp; rfl)); intro gb144 hg w6 hbox hb; have n0_ := Aside0.mk (qag (by repeat (first | (with_reducible first | exact HB.out | apply qac | apply qaa | apply qab) | exact HB.out)) hb); have n1_ := Aside0.mk (hbox); have n2_ := Aside0.mk ((by rw [hg]; exact (qak (by repeat (first | (with_reducible first | exact HB.out | apply qac | apply qaa | apply qab) | exact HB.out))) : w.heap.size ≤ gb144)); have n3_ := Aside0.mk ((by rw [hg]; exact (qak (by repeat (first | (with_reducible first | exact HB.out | apply qac | apply qaa | apply qab) | exact HB.out))) : w.heap.size ≤ gb144)); clear HB; have HB := n0_; have BK144 := n1_; have GW144 := n2_; have GE144 := n3_; clear n0_ n1_ n2_ n3_; clear hb hbox hg; have hcz7_0 : w6.cell? ⟨gb144, 0, none⟩ = some (.string a0_0) := (qad BK144.out 0).trans rfl; have hcz7_1 : w6.cell? ⟨gb144, 1, none⟩ = some (.string a0_1) := (qad BK144.out 1).trans rfl; have hfz7_0 := qae BK144.out 0; have hfz7_1 := qae BK144.out 1) | ((with_reducible refine qav (f := 96) rfl ?_); refine qbd (some 5) rfl rfl Try.func96 (by kernel_rfl) rfl #[.string a0_0] rfl (by (try simp only [List.map_toArray, List.map_cons, List.map_nil]); first | done | rfl | (simp only [List.length_drop, List.length_take]; rfl)) ?_; (with_reducible refine (qbH.calls a0_0 false _ A2.out).mono ?_); rintro e w' ⟨rfl, ⟨nd, rfl⟩⟩; refine ⟨_, rfl, ?_⟩))
  go_ret
  exact ⟨by first | rfl | (simp [qam, qan] <;> rfl) | (simp [*, qam, qan] <;> rfl), by repeat (first | (with_reducible first | exact HB.out | apply qac | apply qaa | apply qab | refine qah ?_ GE144.out) | exact HB.out)⟩
end Go.Proofs.Ytgcncphdjabjjaa.X
namespace Go.Proofs.Ytgcncphdjabjjaa.X
open Go.RowKit Go.Proofs.YtgcncphdjabjjaaW.PrintWords Go.Proofs.YtgcncphdjabjjaaW.PrintLast Go.Proofs.YtgcncphdjabjjaaW.PrintMore
attribute [local go_sem] qaC qaD qaE qay qaz qaN qaO qat qau qaA qaB
set_option linter.unusedVariables false
set_option linter.unusedSimpArgs false
structure Later (w : World) where
 val : World
 below : Below w.heap.size w val
instance Later.here (w : World) : Inhabited (Later w) := ⟨⟨w, Below.refl _ _⟩⟩
theorem Later.cell {w : World} (p : Later w) {a : Addr} {v : Value} (h : w.cell? a = some v) : p.val.cell? a = some v := qb2 p.below h
theorem qa8 {P : Program} {id : Nat} {Q : Exit → Act → World → Prop} {a : Act} {w : World} {l : List Oper} (hm : P.follows .mixedOrders = true) (hB : Region.lexB .any l.toArray = true)
  (h : wpQuiet P l.toArray (fun w' => ∃ p : Later w.drew, w' = p.val) (fun a' => ∀ w', (∃ p : Later w.drew, w' = p.val) → Q .normal a' w') l a) : (Code.region id l.toArray true).wp P Q a w :=
 wp_region_quiet (C := fun w' => ∃ p : Later w.drew, w' = p.val) hm hB ⟨⟨w.drew, Below.refl _ _⟩, rfl⟩ (by simpa using h)
theorem Calls.qbk {P : Program} {f : FuncId} {args : Array Value} {w : World} {p : Later w} {v : Value}
  (h : Calls P f args p.val fun e w' => e = .returned v ∧ Below p.val.heap.size p.val w') : Calls P f args p.val fun e w'' => e = .returned v ∧ ∃ q : Later w, w'' = q.val :=
 h.mono fun _ _ ⟨he, hb⟩ => ⟨he, ⟨_, qag p.below hb⟩, rfl⟩
theorem Calls.qbq {P : Program} {f : FuncId} {args : Array Value} {w : World} {p : Later w} {v : Value}
  (h : Calls P f args p.val fun e w' => e = .returned v ∧ qaL p.val w') : Calls P f args p.val fun e w'' => e = .returned v ∧ ∃ q : Later w, w'' = q.val :=
 Calls.qbk (h.mono fun _ _ ⟨he, hb⟩ => ⟨he, hb.below⟩)
end Go.Proofs.Ytgcncphdjabjjaa.X
namespace Go.Proofs.Ytgcncphdjabjjaa.X
open Go.RowKit Go.Proofs.YtgcncphdjabjjaaW.PrintWords Go.Proofs.YtgcncphdjabjjaaW.PrintLast Go.Proofs.YtgcncphdjabjjaaW.PrintMore
attribute [local go_sem] qaC qaD qaE qay qaz qaN qaO qat qau qaA qaB
set_option linter.unusedVariables false
set_option linter.unusedSimpArgs false
def qaJ.l0 : Nat → List (S76) → List (S76) → Int → Int → Option (Bool)
 | 0, _, _, _, _ => none
 | k + 1, x0, x5, x6, x7 => if x7 < x6 then (if 0 ≤ x7 then (if x7 < (x5.length : Int) then ((qbT.f ((qap x5 x7).f0) ((qap x5 x7).f1)).bind fun t148 => (if t148 = true then (if x7 > 0 then (if 0 ≤ (wrap64 (x7 - 1)) then (if (wrap64 (x7 - 1)) < (x0.length : Int) then (if ((Op.bytesLess (((qap x0 (wrap64 (x7 - 1))).f0).toList) (((qap x5 x7).f0).toList)) = true) then (qaJ.l0 k x0 x5 x6 (wrap64 (x7 + 1))) else (some false)) else (none)) else (none)) else (qaJ.l0 k x0 x5 x6 (wrap64 (x7 + 1)))) else (some false))) else (none)) else (none)) else (some true)
def qaJ.f (k : Nat) (l0 : List (S76)) : Option (Bool) := qaJ.l0 k l0 l0 (l0.length : Int) 0
theorem qaJ.qbm : ∀ k, (∀ y0 y1 y2 y3, LeO (qaJ.l0 k y0 y1 y2 y3) (qaJ.l0 (k + 1) y0 y1 y2 y3))
 | 0 => fun _ _ _ _ r h => by simp [qaJ.l0] at h
 | k + 1 => by
  have ih0 := qaJ.qbm k
  ·intro y0 y1 y2 y3
   unfold qaJ.l0
   repeat' first
   | (with_reducible exact ih0 _ _ _ _)
   | (with_reducible exact LeO.refl _)
   | (with_reducible exact LeO.none _)
   | (with_reducible refine LeO.ite ?_ ?_)
   | (with_reducible refine LeO.bind ?_ (fun _ => ?_))
   | exact ih0 _ _ _ _
   | exact LeO.none _
   | refine LeO.ite ?_ ?_
   | refine LeO.bind ?_ (fun _ => ?_)
theorem qaJ.mono : ∀ a0 k, LeO (qaJ.f k a0) (qaJ.f (k + 1) a0) := by
 intro a0 k
 have ih0 := qaJ.qbm k
 unfold qaJ.f
 repeat' first
   | (with_reducible exact ih0 _ _ _ _)
   | (with_reducible exact LeO.refl _)
   | (with_reducible exact LeO.none _)
   | (with_reducible refine LeO.ite ?_ ?_)
   | (with_reducible refine LeO.bind ?_ (fun _ => ?_))
   | exact ih0 _ _ _ _
   | exact LeO.none _
   | refine LeO.ite ?_ ?_
   | refine LeO.bind ?_ (fun _ => ?_)
set_option maxHeartbeats 8000000 in
set_option maxRecDepth 100000 in
theorem qaJ.calls (k : Nat) (A0 : Option Addr) (c0 : Nat) (l0 : List (S76)) (r : Bool) (w : World) (hr0 : Kd.C k76 w A0 l0.length l0) (hc0 : l0.length ≤ c0) (h : qaJ.f k l0 = some r) :
  Calls Try.prog 82 #[.slice A0 l0.length c0] w fun e w' => e = .returned (.bool r) ∧ Below w.heap.size w w' := by
 have hu76 := Try.underlying76
 have HR0 := Aside0.mk hr0
 have HC0 := Aside0.mk hc0
 clear hr0 hc0
 have HB := Aside0.mk (Below.refl w.heap.size w)
 have H : (qaJ.l0 k l0 l0 (l0.length : Int) 0) = some r := h
 clear h
 have H' := Aside0.mk H
 clear H
 go_enter Try.func82, Try.ntmps82
 go_wp2
 go_loopg [7] k (fun kq v7 w' => ∃ (x7_1 : Int), v7 = .int .i64 x7_1 ∧ Aside0 (qaJ.l0 kq l0 l0 (l0.length : Int) x7_1 = some r) ∧ Aside0 (kq ≤ k) ∧ Aside0 (Below w.heap.size w w'))
 case atStart => exact ⟨(0), (by first | rfl | (simp; done) | (simp [*]; done)), H', ⟨Nat.le_refl _⟩, ⟨by repeat (first | (with_reducible first | exact HB.out | apply qac | apply qaa | apply qab) | exact HB.out)⟩⟩
 case round =>
  clear H'
  obtain ⟨x7_1, rfl, HA, HK1, HB⟩ := hrel
  cases gk with
  | zero => exact absurd HA.out (by simp [qaJ.l0])
  | succ k1 =>
   have H := HA.out
   clear HA
   simp only [qaJ.l0] at H
   by_cases c2 : x7_1 < (l0.length : Int)
   ·rw [if_pos c2] at H
    have c2b0 : decide (x7_1 < (l0.length : Int)) = true := decide_eq_true c2
    clear c2
    by_cases c3 : 0 ≤ x7_1
    ·rw [if_pos c3] at H
     have c3b0 : decide (0 ≤ x7_1) = true := decide_eq_true c3
     clear c3
     by_cases c4 : x7_1 < (l0.length : Int)
     ·rw [if_pos c4] at H
      have c4b0 : decide (x7_1 < (l0.length : Int)) = true := decide_eq_true c4
      clear c4
      replace H := Option.bind_eq_some_iff.mp H
      obtain ⟨t148, A50, H⟩ := H
      replace H : (if t148 = true then (if x7_1 > 0 then (if 0 ≤ (wrap64 (x7_1 - 1)) then (if (wrap64 (x7_1 - 1)) < (l0.length : Int) then (if ((Op.bytesLess (((qap l0 (wrap64 (x7_1 - 1))).f0).toList) (((qap l0 x7_1).f0).toList)) = true) then (qaJ.l0 k1 l0 l0 (l0.length : Int) (wrap64 (x7_1 + 1))) else (some false)) else (none)) else (none)) else (qaJ.l0 k1 l0 l0 (l0.length : Int) (wrap64 (x7_1 + 1)))) else (some false)) = some r := H
      have A5 := Aside0.mk A50
      clear A50
      by_cases c6 : t148 = true
      ·subst c6
       have H1 : (if x7_1 > 0 then (if 0 ≤ (wrap64 (x7_1 - 1)) then (if (wrap64 (x7_1 - 1)) < (l0.length : Int) then (if ((Op.bytesLess (((qap l0 (wrap64 (x7_1 - 1))).f0).toList) (((qap l0 x7_1).f0).toList)) = true) then (qaJ.l0 k1 l0 l0 (l0.length : Int) (wrap64 (x7_1 + 1))) else (some false)) else (none)) else (none)) else (qaJ.l0 k1 l0 l0 (l0.length : Int) (wrap64 (x7_1 + 1)))) = some r := by rw [if_pos rfl] at H; exact H
       clear H
       have H := H1
       clear H1
       by_cases c7 : x7_1 > 0
       ·rw [if_pos c7] at H
        have c7b0 : decide (0 < x7_1) = true := decide_eq_true c7
        clear c7
        obtain ⟨ji8, hji8⟩ : ∃ j_ : Int, (wrap64 (x7_1 - 1)) = j_ := ⟨_, rfl⟩
        replace H : (if 0 ≤ (ji8) then (if (ji8) < (l0.length : Int) then (if ((Op.bytesLess (((qap l0 (ji8)).f0).toList) (((qap l0 x7_1).f0).toList)) = true) then (qaJ.l0 k1 l0 l0 (l0.length : Int) (wrap64 (x7_1 + 1))) else (some false)) else (none)) else (none)) = some r := by first | (rw [hji8] at H; exact H) | (simp only [hji8] at H ⊢; exact H)
        (try rw [hji8] at A5)
        have hji8w : (IntKind.i64.wrap (x7_1 - 1)) = ji8 := (qbS _).trans hji8
        by_cases c9 : 0 ≤ (ji8)
        ·rw [if_pos c9] at H
         have c9b0 : decide (0 ≤ (ji8)) = true := decide_eq_true c9
         clear c9
         by_cases c10 : (ji8) < (l0.length : Int)
         ·rw [if_pos c10] at H
          have c10b0 : decide ((ji8) < (l0.length : Int)) = true := decide_eq_true c10
          clear c10
          by_cases c11 : ((Op.bytesLess (((qap l0 (ji8)).f0).toList) (((qap l0 x7_1).f0).toList)) = true)
          ·rw [if_pos c11] at H
           have c11b0 : (Op.bytesLess (((qap l0 (ji8)).f0).toList) (((qap l0 x7_1).f0).toList)) = true := c11
           clear c11
           have H' := Aside0.mk H
           clear H
           have p146 : 0 ≤ (x7_1 : Int) := of_decide_eq_true (by first | (with_reducible assumption) | assumption)
           have q146 : x7_1 < (l0.length : Int) := of_decide_eq_true (by first | (with_reducible assumption) | assumption)
           obtain ⟨ad146, e146, hx146_0, hx146_1⟩ := qbO HR0.out x7_1 p146 q146
           cases e146
           replace hx146_0 := (HB.out.cell (World.block_lt_of_cell? w _ hx146_0)).trans hx146_0
           replace hx146_1 := (HB.out.cell (World.block_lt_of_cell? w _ hx146_1)).trans hx146_1
           replace p146 := eq_true p146
           replace q146 := eq_true q146
           try go_wp2_with (first | ((with_reducible refine qaH (N := 4) rfl ?_); refine qaF ?hg (N := 4) ?hd (cs := #[.string (⟨#[]⟩ : ByteArray), .string (⟨#[]⟩ : ByteArray)]) (t := 76) ?hr ?_; (case hd => rfl); (case hg => rfl); (case hr => first | (go_simp; done) | (go_simp; rfl)); intro gb147 hg w12 hbox hb; have n0_ := Aside0.mk (qag (by repeat (first | (with_reducible first | exact HB.out | apply qac | apply qaa | apply qab) | exact HB.out)) hb); have n1_ := Aside0.mk (hbox); have n2_ := Aside0.mk ((by rw [hg]; exact (qak (by repeat (first | (with_reducible first | exact HB.out | apply qac | apply qaa | apply qab) | exact HB.out))) : w.heap.size ≤ gb147)); have n3_ := Aside0.mk ((by rw [hg]; exact (qak (by repeat (first | (with_reducible first | exact HB.out | apply qac | apply qaa | apply qab) | exact HB.out))) : w.heap.size ≤ gb147)); clear HB; have HB := n0_; have BK147 := n1_; have GW147 := n2_; have GE147 := n3_; clear n0_ n1_ n2_ n3_; clear hb hbox hg; have hcz13_0 : w12.cell? ⟨gb147, 0, none⟩ = some (.string (⟨#[]⟩ : ByteArray)) := (qad BK147.out 0).trans rfl; have hcz13_1 : w12.cell? ⟨gb147, 1, none⟩ = some (.string (⟨#[]⟩ : ByteArray)) := (qad BK147.out 1).trans rfl; have hfz13_0 := qae BK147.out 0; have hfz13_1 := qae BK147.out 1))
           have n0_ : Aside0 (((w12.setCell ⟨gb147, 0, none⟩ (.string ((qap l0 x7_1).f0))).setCell ⟨gb147, 1, none⟩ (.string ((qap l0 x7_1).f1))).heap[gb147]? = some (.cells #[.string ((qap l0 x7_1).f0), .string ((qap l0 x7_1).f1)] 76 (0, 0))) := ⟨by (with_reducible repeat (first | refine qaj ?_ _ | refine qal ?_ | refine qai ?_ _)); refine qaW (cs := #[.string ((qap l0 x7_1).f0), .string (⟨#[]⟩ : ByteArray)]) ?_ 1 _ rfl; (with_reducible repeat (first | refine qaj ?_ _ | refine qal ?_ | refine qai ?_ _)); refine qaW (cs := #[.string (⟨#[]⟩ : ByteArray), .string (⟨#[]⟩ : ByteArray)]) ?_ 0 _ rfl; (with_reducible repeat (first | refine qaj ?_ _ | refine qal ?_ | refine qai ?_ _)); exact BK147.out⟩
           have n1_ : Aside0 (Below w.heap.size w ((w12.setCell ⟨gb147, 0, none⟩ (.string ((qap l0 x7_1).f0))).setCell ⟨gb147, 1, none⟩ (.string ((qap l0 x7_1).f1)))) := ⟨by repeat (first | (with_reducible first | exact HB.out | apply qac | apply qaa | apply qab | refine qah ?_ GE147.out) | exact HB.out)⟩
           (try clear BK147)
           (try clear HB)
           generalize ((w12.setCell ⟨gb147, 0, none⟩ (.string ((qap l0 x7_1).f0))).setCell ⟨gb147, 1, none⟩ (.string ((qap l0 x7_1).f1))) = w14 at n0_ n1_ ⊢
           have BK147 := n0_
           have HB := n1_
           clear n0_ n1_
           have n0_ := Aside0.mk (qal BK147.out)
           have n1_ := Aside0.mk (qab HB.out)
           clear BK147
           clear HB
           have BK147 := n0_
           have HB := n1_
           clear n0_ n1_
           have p149 : 0 ≤ ((ji8) : Int) := of_decide_eq_true (by first | (with_reducible assumption) | assumption)
           have q149 : (ji8) < (l0.length : Int) := of_decide_eq_true (by first | (with_reducible assumption) | assumption)
           obtain ⟨ad149, e149, hx149_0, hx149_1⟩ := qbO HR0.out (ji8) p149 q149
           have hw149_1 := hx149_1
           have hw149_0 := hx149_0
           obtain rfl : ad146 = ad149 := (by injection e149)
           replace hx149_0 := (HB.out.cell (World.block_lt_of_cell? w _ hx149_0)).trans hx149_0
           replace hx149_1 := (HB.out.cell (World.block_lt_of_cell? w _ hx149_1)).trans hx149_1
           replace p149 := eq_true p149
           replace q149 := eq_true q149
           refine qa8 (by kernel_rfl) (by kernel_rfl) ?_
           have hL0_ := Aside0.mk (show w14.drew.cell? ⟨gb147, 0, none⟩ = some (.string ((qap l0 x7_1).f0)) from (qad BK147.out 0).trans rfl)
           have hL1_ := Aside0.mk (show w14.drew.cell? ⟨gb147, 1, none⟩ = some (.string ((qap l0 x7_1).f1)) from (qad BK147.out 1).trans rfl)
           have hL2_ := Aside0.mk (show w14.drew.cell? (ad146.add (((ji8)).toNat * 2)) = some (.string ((qap l0 (ji8)).f0)) from ((HB.out.cell (World.block_lt_of_cell? w _ hw149_0)).trans hw149_0))
           have hL3_ := Aside0.mk (show w14.drew.cell? ⟨(ad146.add (((ji8)).toNat * 2)).block, (ad146.add (((ji8)).toNat * 2)).off + 1, none⟩ = some (.string ((qap l0 (ji8)).f1)) from ((HB.out.cell (World.block_lt_of_cell? w _ hw149_1)).trans hw149_1))
           generalize w14.drew = w15 at BK147 HB hx149_0 hx149_1 hL0_ hL1_ hL2_ hL3_ ⊢
           clear hx149_0 hx149_1
           have hL0 := fun (p_ : Later w15) => Later.cell p_ hL0_.out
           have hL1 := fun (p_ : Later w15) => Later.cell p_ hL1_.out
           have hL2 := fun (p_ : Later w15) => Later.cell p_ hL2_.out
           have hL3 := fun (p_ : Later w15) => Later.cell p_ hL3_.out
           clear hL0_ hL1_ hL2_ hL3_
           repeat (first | go_big_quiet_step ((first | (go_at_call 104; exact Calls.qbk (qbT.calls ((qap l0 x7_1).f0) ((qap l0 x7_1).f1) true _ A5.out)))) | quiet_step ((first | (go_at_call 104; exact Calls.qbk (qbT.calls ((qap l0 x7_1).f0) ((qap l0 x7_1).f1) true _ A5.out)))))
           refine wpQuiet_nil ?_
           rintro w16 ⟨⟨wq_, hbL⟩, hq_⟩
           have hq2_ : w16 = wq_ := hq_
           clear hq_
           subst hq2_
           clear hL0 hL1 hL2 hL3
           have nBK147_ := Aside0.mk ((hbL.block _ (qbg BK147.out)).trans BK147.out)
           have nHB_ := Aside0.mk (qag HB.out hbL)
           clear BK147
           clear HB
           have BK147 := nBK147_
           have HB := nHB_
           clear nBK147_
           clear nHB_
           clear hbL
           try go_wp2
           go_roundg k1
           case measure => have := HK1.out; omega
           case rel => exact ⟨(wrap64 (x7_1 + 1)), (by first | rfl | (simp; done) | (simp [*]; done)), H', ⟨by have := HK1.out; omega⟩, ⟨by repeat (first | (with_reducible first | exact HB.out | apply qac | apply qaa | apply qab | refine qah ?_ GE147.out) | exact HB.out)⟩⟩
          ·rw [if_neg c11] at H
           have c11b0 : (Op.bytesLess (((qap l0 (ji8)).f0).toList) (((qap l0 x7_1).f0).toList)) = false := by simpa using c11
           clear c11
           obtain rfl := Option.some.inj H
           have p146 : 0 ≤ (x7_1 : Int) := of_decide_eq_true (by first | (with_reducible assumption) | assumption)
           have q146 : x7_1 < (l0.length : Int) := of_decide_eq_true (by first | (with_reducible assumption) | assumption)
           obtain ⟨ad146, e146, hx146_0, hx146_1⟩ := qbO HR0.out x7_1 p146 q146
           cases e146
           replace hx146_0 := (HB.out.cell (World.block_lt_of_cell? w _ hx146_0)).trans hx146_0
           replace hx146_1 := (HB.out.cell (World.block_lt_of_cell? w _ hx146_1)).trans hx146_1
           replace p146 := eq_true p146
           replace q146 := eq_true q146
           try go_wp2_with (first | ((with_reducible refine qaH (N := 4) rfl ?_); refine qaF ?hg (N := 4) ?hd (cs := #[.string (⟨#[]⟩ : ByteArray), .string (⟨#[]⟩ : ByteArray)]) (t := 76) ?hr ?_; (case hd => rfl); (case hg => rfl); (case hr => first | (go_simp; done) | (go_simp; rfl)); intro gb147 hg w17 hbox hb; have n0_ := Aside0.mk (qag (by repeat (first | (with_reducible first | exact HB.out | apply qac | apply qaa | apply qab) | exact HB.out)) hb); have n1_ := Aside0.mk (hbox); have n2_ := Aside0.mk ((by rw [hg]; exact (qak (by repeat (first | (with_reducible first | exact HB.out | apply qac | apply qaa | apply qab) | exact HB.out))) : w.heap.size ≤ gb147)); have n3_ := Aside0.mk ((by rw [hg]; exact (qak (by repeat (first | (with_reducible first | exact HB.out | apply qac | apply qaa | apply qab) | exact HB.out))) : w.heap.size ≤ gb147)); clear HB; have HB := n0_; have BK147 := n1_; have GW147 := n2_; have GE147 := n3_; clear n0_ n1_ n2_ n3_; clear hb hbox hg; have hcz18_0 : w17.cell? ⟨gb147, 0, none⟩ = some (.string (⟨#[]⟩ : ByteArray)) := (qad BK147.out 0).trans rfl; have hcz18_1 : w17.cell? ⟨gb147, 1, none⟩ = some (.string (⟨#[]⟩ : ByteArray)) := (qad BK147.out 1).trans rfl; have hfz18_0 := qae BK147.out 0; have hfz18_1 := qae BK147.out 1))
           have n0_ : Aside0 (((w17.setCell ⟨gb147, 0, none⟩ (.string ((qap l0 x7_1).f0))).setCell ⟨gb147, 1, none⟩ (.string ((qap l0 x7_1).f1))).heap[gb147]? = some (.cells #[.string ((qap l0 x7_1).f0), .string ((qap l0 x7_1).f1)] 76 (0, 0))) := ⟨by (with_reducible repeat (first | refine qaj ?_ _ | refine qal ?_ | refine qai ?_ _)); refine qaW (cs := #[.string ((qap l0 x7_1).f0), .string (⟨#[]⟩ : ByteArray)]) ?_ 1 _ rfl; (with_reducible repeat (first | refine qaj ?_ _ | refine qal ?_ | refine qai ?_ _)); refine qaW (cs := #[.string (⟨#[]⟩ : ByteArray), .string (⟨#[]⟩ : ByteArray)]) ?_ 0 _ rfl; (with_reducible repeat (first | refine qaj ?_ _ | refine qal ?_ | refine qai ?_ _)); exact BK147.out⟩
           have n1_ : Aside0 (Below w.heap.size w ((w17.setCell ⟨gb147, 0, none⟩ (.string ((qap l0 x7_1).f0))).setCell ⟨gb147, 1, none⟩ (.string ((qap l0 x7_1).f1)))) := ⟨by repeat (first | (with_reducible first | exact HB.out | apply qac | apply qaa | apply qab | refine qah ?_ GE147.out) | exact HB.out)⟩
           (try clear BK147)
           (try clear HB)
           generalize ((w17.setCell ⟨gb147, 0, none⟩ (.string ((qap l0 x7_1).f0))).setCell ⟨gb147, 1, none⟩ (.string ((qap l0 x7_1).f1))) = w19 at n0_ n1_ ⊢
           have BK147 := n0_
           have HB := n1_
           clear n0_ n1_
           have n0_ := Aside0.mk (qal BK147.out)
           have n1_ := Aside0.mk (qab HB.out)
           clear BK147
           clear HB
           have BK147 := n0_
           have HB := n1_
           clear n0_ n1_
           have p149 : 0 ≤ ((ji8) : Int) := of_decide_eq_true (by first | (with_reducible assumption) | assumption)
           have q149 : (ji8) < (l0.length : Int) := of_decide_eq_true (by first | (with_reducible assumption) | assumption)
           obtain ⟨ad149, e149, hx149_0, hx149_1⟩ := qbO HR0.out (ji8) p149 q149
           have hw149_1 := hx149_1
           have hw149_0 := hx149_0
           obtain rfl : ad146 = ad149 := (by injection e149)
           replace hx149_0 := (HB.out.cell (World.block_lt_of_cell? w _ hx149_0)).trans hx149_0
           replace hx149_1 := (HB.out.cell (World.block_lt_of_cell? w _ hx149_1)).trans hx149_1
           replace p149 := eq_true p149
           replace q149 := eq_true q149
           refine qa8 (by kernel_rfl) (by kernel_rfl) ?_
           have hL0_ := Aside0.mk (show w19.drew.cell? ⟨gb147, 0, none⟩ = some (.string ((qap l0 x7_1).f0)) from (qad BK147.out 0).trans rfl)
           have hL1_ := Aside0.mk (show w19.drew.cell? ⟨gb147, 1, none⟩ = some (.string ((qap l0 x7_1).f1)) from (qad BK147.out 1).trans rfl)
           have hL2_ := Aside0.mk (show w19.drew.cell? (ad146.add (((ji8)).toNat * 2)) = some (.string ((qap l0 (ji8)).f0)) from ((HB.out.cell (World.block_lt_of_cell? w _ hw149_0)).trans hw149_0))
           have hL3_ := Aside0.mk (show w19.drew.cell? ⟨(ad146.add (((ji8)).toNat * 2)).block, (ad146.add (((ji8)).toNat * 2)).off + 1, none⟩ = some (.string ((qap l0 (ji8)).f1)) from ((HB.out.cell (World.block_lt_of_cell? w _ hw149_1)).trans hw149_1))
           generalize w19.drew = w20 at BK147 HB hx149_0 hx149_1 hL0_ hL1_ hL2_ hL3_ ⊢
           clear hx149_0 hx149_1
           have hL0 := fun (p_ : Later w20) => Later.cell p_ hL0_.out
           have hL1 := fun (p_ : Later w20) => Later.cell p_ hL1_.out
           have hL2 := fun (p_ : Later w20) => Later.cell p_ hL2_.out
           have hL3 := fun (p_ : Later w20) => Later.cell p_ hL3_.out
           clear hL0_ hL1_ hL2_ hL3_
           repeat (first | go_big_quiet_step ((first | (go_at_call 104; exact Calls.qbk (qbT.calls ((qap l0 x7_1).f0) ((qap l0 x7_1).f1) true _ A5.out)))) | quiet_step ((first | (go_at_call 104; exact Calls.qbk (qbT.calls ((qap l0 x7_1).f0) ((qap l0 x7_1).f1) true _ A5.out)))))
           refine wpQuiet_nil ?_
           rintro w21 ⟨⟨wq_, hbL⟩, hq_⟩
           have hq2_ : w21 = wq_ := hq_
           clear hq_
           subst hq2_
           clear hL0 hL1 hL2 hL3
           have nBK147_ := Aside0.mk ((hbL.block _ (qbg BK147.out)).trans BK147.out)
           have nHB_ := Aside0.mk (qag HB.out hbL)
           clear BK147
           clear HB
           have BK147 := nBK147_
           have HB := nHB_
           clear nBK147_
           clear nHB_
           clear hbL
           try go_wp2
           go_ret
           exact ⟨by first | rfl | (simp [qam, qan] <;> rfl) | (simp only [← hji8]; first | rfl | (simp [qam, qan] <;> rfl)) | (simp [*, qam, qan] <;> rfl), by repeat (first | (with_reducible first | exact HB.out | apply qac | apply qaa | apply qab | refine qah ?_ GE147.out) | exact HB.out)⟩
         ·rw [if_neg c10] at H
          exact absurd H (by simp)
        ·rw [if_neg c9] at H
         exact absurd H (by simp)
       ·rw [if_neg c7] at H
        have c7b0 : decide (0 < x7_1) = false := decide_eq_false c7
        clear c7
        have H' := Aside0.mk H
        clear H
        have p146 : 0 ≤ (x7_1 : Int) := of_decide_eq_true (by first | (with_reducible assumption) | assumption)
        have q146 : x7_1 < (l0.length : Int) := of_decide_eq_true (by first | (with_reducible assumption) | assumption)
        obtain ⟨ad146, e146, hx146_0, hx146_1⟩ := qbO HR0.out x7_1 p146 q146
        cases e146
        replace hx146_0 := (HB.out.cell (World.block_lt_of_cell? w _ hx146_0)).trans hx146_0
        replace hx146_1 := (HB.out.cell (World.block_lt_of_cell? w _ hx146_1)).trans hx146_1
        replace p146 := eq_true p146
        replace q146 := eq_true q146
        try go_wp2_with (first | ((with_reducible refine qaH (N := 4) rfl ?_); refine qaF ?hg (N := 4) ?hd (cs := #[.string (⟨#[]⟩ : ByteArray), .string (⟨#[]⟩ : ByteArray)]) (t := 76) ?hr ?_; (case hd => rfl); (case hg => rfl); (case hr => first | (go_simp; done) | (go_simp; rfl)); intro gb147 hg w22 hbox hb; have n0_ := Aside0.mk (qag (by repeat (first | (with_reducible first | exact HB.out | apply qac | apply qaa | apply qab) | exact HB.out)) hb); have n1_ := Aside0.mk (hbox); have n2_ := Aside0.mk ((by rw [hg]; exact (qak (by repeat (first | (with_reducible first | exact HB.out | apply qac | apply qaa | apply qab) | exact HB.out))) : w.heap.size ≤ gb147)); have n3_ := Aside0.mk ((by rw [hg]; exact (qak (by repeat (first | (with_reducible first | exact HB.out | apply qac | apply qaa | apply qab) | exact HB.out))) : w.heap.size ≤ gb147)); clear HB; have HB := n0_; have BK147 := n1_; have GW147 := n2_; have GE147 := n3_; clear n0_ n1_ n2_ n3_; clear hb hbox hg; have hcz23_0 : w22.cell? ⟨gb147, 0, none⟩ = some (.string (⟨#[]⟩ : ByteArray)) := (qad BK147.out 0).trans rfl; have hcz23_1 : w22.cell? ⟨gb147, 1, none⟩ = some (.string (⟨#[]⟩ : ByteArray)) := (qad BK147.out 1).trans rfl; have hfz23_0 := qae BK147.out 0; have hfz23_1 := qae BK147.out 1))
        have n0_ : Aside0 (((w22.setCell ⟨gb147, 0, none⟩ (.string ((qap l0 x7_1).f0))).setCell ⟨gb147, 1, none⟩ (.string ((qap l0 x7_1).f1))).heap[gb147]? = some (.cells #[.string ((qap l0 x7_1).f0), .string ((qap l0 x7_1).f1)] 76 (0, 0))) := ⟨by (with_reducible repeat (first | refine qaj ?_ _ | refine qal ?_ | refine qai ?_ _)); refine qaW (cs := #[.string ((qap l0 x7_1).f0), .string (⟨#[]⟩ : ByteArray)]) ?_ 1 _ rfl; (with_reducible repeat (first | refine qaj ?_ _ | refine qal ?_ | refine qai ?_ _)); refine qaW (cs := #[.string (⟨#[]⟩ : ByteArray), .string (⟨#[]⟩ : ByteArray)]) ?_ 0 _ rfl; (with_reducible repeat (first | refine qaj ?_ _ | refine qal ?_ | refine qai ?_ _)); exact BK147.out⟩
        have n1_ : Aside0 (Below w.heap.size w ((w22.setCell ⟨gb147, 0, none⟩ (.string ((qap l0 x7_1).f0))).setCell ⟨gb147, 1, none⟩ (.string ((qap l0 x7_1).f1)))) := ⟨by repeat (first | (with_reducible first | exact HB.out | apply qac | apply qaa | apply qab | refine qah ?_ GE147.out) | exact HB.out)⟩
        (try clear BK147)
        (try clear HB)
        generalize ((w22.setCell ⟨gb147, 0, none⟩ (.string ((qap l0 x7_1).f0))).setCell ⟨gb147, 1, none⟩ (.string ((qap l0 x7_1).f1))) = w24 at n0_ n1_ ⊢
        have BK147 := n0_
        have HB := n1_
        clear n0_ n1_
        have n0_ := Aside0.mk (qal BK147.out)
        have n1_ := Aside0.mk (qab HB.out)
        clear BK147
        clear HB
        have BK147 := n0_
        have HB := n1_
        clear n0_ n1_
        refine qa8 (by kernel_rfl) (by kernel_rfl) ?_
        have hL0_ := Aside0.mk (show w24.drew.cell? ⟨gb147, 0, none⟩ = some (.string ((qap l0 x7_1).f0)) from (qad BK147.out 0).trans rfl)
        have hL1_ := Aside0.mk (show w24.drew.cell? ⟨gb147, 1, none⟩ = some (.string ((qap l0 x7_1).f1)) from (qad BK147.out 1).trans rfl)
        generalize w24.drew = w25 at BK147 HB hL0_ hL1_ ⊢
        have hL0 := fun (p_ : Later w25) => Later.cell p_ hL0_.out
        have hL1 := fun (p_ : Later w25) => Later.cell p_ hL1_.out
        clear hL0_ hL1_
        repeat (first | go_big_quiet_step ((first | (go_at_call 104; exact Calls.qbk (qbT.calls ((qap l0 x7_1).f0) ((qap l0 x7_1).f1) true _ A5.out)))) | quiet_step ((first | (go_at_call 104; exact Calls.qbk (qbT.calls ((qap l0 x7_1).f0) ((qap l0 x7_1).f1) true _ A5.out)))))
        refine wpQuiet_nil ?_
        rintro w26 ⟨⟨wq_, hbL⟩, hq_⟩
        have hq2_ : w26 = wq_ := hq_
        clear hq_
        subst hq2_
        clear hL0 hL1
        have nBK147_ := Aside0.mk ((hbL.block _ (qbg BK147.out)).trans BK147.out)
        have nHB_ := Aside0.mk (qag HB.out hbL)
        clear BK147
        clear HB
        have BK147 := nBK147_
        have HB := nHB_
        clear nBK147_
        clear nHB_
        clear hbL
        try go_wp2
        go_roundg k1
        case measure => have := HK1.out; omega
        case rel => exact ⟨(wrap64 (x7_1 + 1)), (by first | rfl | (simp; done) | (simp [*]; done)), H', ⟨by have := HK1.out; omega⟩, ⟨by repeat (first | (with_reducible first | exact HB.out | apply qac | apply qaa | apply qab | refine qah ?_ GE147.out) | exact HB.out)⟩⟩
      ·replace c6 := Bool.eq_false_iff.mpr c6
       subst c6
       have H1 : (some false) = some r := by rw [if_neg (show ¬ (false = true) by decide)] at H; exact H
       clear H
       have H := H1
       clear H1
       obtain rfl := Option.some.inj H
       have p146 : 0 ≤ (x7_1 : Int) := of_decide_eq_true (by first | (with_reducible assumption) | assumption)
       have q146 : x7_1 < (l0.length : Int) := of_decide_eq_true (by first | (with_reducible assumption) | assumption)
       obtain ⟨ad146, e146, hx146_0, hx146_1⟩ := qbO HR0.out x7_1 p146 q146
       cases e146
       replace hx146_0 := (HB.out.cell (World.block_lt_of_cell? w _ hx146_0)).trans hx146_0
       replace hx146_1 := (HB.out.cell (World.block_lt_of_cell? w _ hx146_1)).trans hx146_1
       replace p146 := eq_true p146
       replace q146 := eq_true q146
       try go_wp2_with (first | ((with_reducible refine qaH (N := 4) rfl ?_); refine qaF ?hg (N := 4) ?hd (cs := #[.string (⟨#[]⟩ : ByteArray), .string (⟨#[]⟩ : ByteArray)]) (t := 76) ?hr ?_; (case hd => rfl); (case hg => rfl); (case hr => first | (go_simp; done) | (go_simp; rfl)); intro gb147 hg w27 hbox hb; have n0_ := Aside0.mk (qag (by repeat (first | (with_reducible first | exact HB.out | apply qac | apply qaa | apply qab) | exact HB.out)) hb); have n1_ := Aside0.mk (hbox); have n2_ := Aside0.mk ((by rw [hg]; exact (qak (by repeat (first | (with_reducible first | exact HB.out | apply qac | apply qaa | apply qab) | exact HB.out))) : w.heap.size ≤ gb147)); have n3_ := Aside0.mk ((by rw [hg]; exact (qak (by repeat (first | (with_reducible first | exact HB.out | apply qac | apply qaa | apply qab) | exact HB.out))) : w.heap.size ≤ gb147)); clear HB; have HB := n0_; have BK147 := n1_; have GW147 := n2_; have GE147 := n3_; clear n0_ n1_ n2_ n3_; clear hb hbox hg; have hcz28_0 : w27.cell? ⟨gb147, 0, none⟩ = some (.string (⟨#[]⟩ : ByteArray)) := (qad BK147.out 0).trans rfl; have hcz28_1 : w27.cell? ⟨gb147, 1, none⟩ = some (.string (⟨#[]⟩ : ByteArray)) := (qad BK147.out 1).trans rfl; have hfz28_0 := qae BK147.out 0; have hfz28_1 := qae BK147.out 1))
       have n0_ : Aside0 (((w27.setCell ⟨gb147, 0, none⟩ (.string ((qap l0 x7_1).f0))).setCell ⟨gb147, 1, none⟩ (.string ((qap l0 x7_1).f1))).heap[gb147]? = some (.cells #[.string ((qap l0 x7_1).f0), .string ((qap l0 x7_1).f1)] 76 (0, 0))) := ⟨by (with_reducible repeat (first | refine qaj ?_ _ | refine qal ?_ | refine qai ?_ _)); refine qaW (cs := #[.string ((qap l0 x7_1).f0), .string (⟨#[]⟩ : ByteArray)]) ?_ 1 _ rfl; (with_reducible repeat (first | refine qaj ?_ _ | refine qal ?_ | refine qai ?_ _)); refine qaW (cs := #[.string (⟨#[]⟩ : ByteArray), .string (⟨#[]⟩ : ByteArray)]) ?_ 0 _ rfl; (with_reducible repeat (first | refine qaj ?_ _ | refine qal ?_ | refine qai ?_ _)); exact BK147.out⟩
       have n1_ : Aside0 (Below w.heap.size w ((w27.setCell ⟨gb147, 0, none⟩ (.string ((qap l0 x7_1).f0))).setCell ⟨gb147, 1, none⟩ (.string ((qap l0 x7_1).f1)))) := ⟨by repeat (first | (with_reducible first | exact HB.out | apply qac | apply qaa | apply qab | refine qah ?_ GE147.out) | exact HB.out)⟩
       (try clear BK147)
       (try clear HB)
       generalize ((w27.setCell ⟨gb147, 0, none⟩ (.string ((qap l0 x7_1).f0))).setCell ⟨gb147, 1, none⟩ (.string ((qap l0 x7_1).f1))) = w29 at n0_ n1_ ⊢
       have BK147 := n0_
       have HB := n1_
       clear n0_ n1_
       have n0_ := Aside0.mk (qal BK147.out)
       have n1_ := Aside0.mk (qab HB.out)
       clear BK147
       clear HB
       have BK147 := n0_
       have HB := n1_
       clear n0_ n1_
       refine qa8 (by kernel_rfl) (by kernel_rfl) ?_
       have hL0_ := Aside0.mk (show w29.drew.cell? ⟨gb147, 0, none⟩ = some (.string ((qap l0 x7_1).f0)) from (qad BK147.out 0).trans rfl)
       have hL1_ := Aside0.mk (show w29.drew.cell? ⟨gb147, 1, none⟩ = some (.string ((qap l0 x7_1).f1)) from (qad BK147.out 1).trans rfl)
       generalize w29.drew = w30 at BK147 HB hL0_ hL1_ ⊢
       have hL0 := fun (p_ : Later w30) => Later.cell p_ hL0_.out
       have hL1 := fun (p_ : Later w30) => Later.cell p_ hL1_.out
       clear hL0_ hL1_
       repeat (first | go_big_quiet_step ((first | (go_at_call 104; exact Calls.qbk (qbT.calls ((qap l0 x7_1).f0) ((qap l0 x7_1).f1) false _ A5.out)))) | quiet_step ((first | (go_at_call 104; exact Calls.qbk (qbT.calls ((qap l0 x7_1).f0) ((qap l0 x7_1).f1) false _ A5.out)))))
       refine wpQuiet_nil ?_
       rintro w31 ⟨⟨wq_, hbL⟩, hq_⟩
       have hq2_ : w31 = wq_ := hq_
       clear hq_
       subst hq2_
       clear hL0 hL1
       have nBK147_ := Aside0.mk ((hbL.block _ (qbg BK147.out)).trans BK147.out)
       have nHB_ := Aside0.mk (qag HB.out hbL)
       clear BK147
       clear HB
       have BK147 := nBK147_
       have HB := nHB_
       clear nBK147_
       clear nHB_
       clear hbL
       try go_wp2
       go_ret
       exact ⟨by first | rfl | (simp [qam, qan] <;> rfl) | (simp [*, qam, qan] <;> rfl), by repeat (first | (with_reducible first | exact HB.out | apply qac | apply qaa | apply qab | refine qah ?_ GE147.out) | exact HB.out)⟩
     ·rw [if_neg c4] at H
      exact absurd H (by simp)
    ·rw [if_neg c3] at H
     exact absurd H (by simp)
   ·rw [if_neg c2] at H
    have c2b0 : decide (x7_1 < (l0.length : Int)) = false := decide_eq_false c2
    clear c2
    obtain rfl := Option.some.inj H
    go_wp2
    go_ret
    exact ⟨by first | rfl | (simp [qam, qan] <;> rfl) | (simp [*, qam, qan] <;> rfl), by repeat (first | (with_reducible first | exact HB.out | apply qac | apply qaa | apply qab) | exact HB.out)⟩
end Go.Proofs.Ytgcncphdjabjjaa.X
namespace Go.Proofs.Ytgcncphdjabjjaa.X
open Go.RowKit Go.Proofs.YtgcncphdjabjjaaW.PrintWords Go.Proofs.YtgcncphdjabjjaaW.PrintLast Go.Proofs.YtgcncphdjabjjaaW.PrintMore
attribute [local go_sem] qaC qaD qaE qay qaz qaN qaO qat qau qaA qaB
set_option linter.unusedVariables false
set_option linter.unusedSimpArgs false
def qbr.f (a0_0 : ByteArray) (a0_1 : ByteArray) : Option (Bool) := (qa0.f (a0_0.size : Int) 1 30).bind fun t105 => (if t105 = true then (some (decide ((a0_1.size : Int) ≤ 90))) else (some false))
set_option maxHeartbeats 8000000 in
set_option maxRecDepth 100000 in
theorem qbr.calls (a0_0 : ByteArray) (a0_1 : ByteArray) (r : Bool) (w : World) (h : qbr.f a0_0 a0_1 = some r) :
  Calls Try.prog 79 #[.agg #[.string a0_0, .string a0_1]] w fun e w' => e = .returned (.bool r) ∧ Below w.heap.size w w' := by
 have hu76 := Try.underlying76
 have HB := Aside0.mk (Below.refl w.heap.size w)
 have H : ((qa0.f (a0_0.size : Int) 1 30).bind fun t105 => (if t105 = true then (some (decide ((a0_1.size : Int) ≤ 90))) else (some false))) = some r := h
 clear h
 replace H := Option.bind_eq_some_iff.mp H
 obtain ⟨t105, A20, H⟩ := H
 replace H : (if t105 = true then (some (decide ((a0_1.size : Int) ≤ 90))) else (some false)) = some r := H
 have A2 := Aside0.mk A20
 clear A20
 by_cases c3 : t105 = true
 ·subst c3
  have H1 : (some (decide ((a0_1.size : Int) ≤ 90))) = some r := by rw [if_pos rfl] at H; exact H
  clear H
  have H := H1
  clear H1
  obtain rfl := Option.some.inj H
  go_enter Try.func79, Try.ntmps79
  go_wp2_with (first | ((with_reducible refine qaH (N := 1) rfl ?_); (try (refine qbt (by rfl) ?_; dsimp only)); refine qaF ?hg (N := 1) ?hd (cs := #[.string a0_0, .string a0_1]) (t := 76) ?hr ?_; (case hd => rfl); (case hg => rfl); (case hr => first | (go_simp; done) | (go_simp; rfl)); intro gb104 hg w4 hbox hb; have n0_ := Aside0.mk (qag (by repeat (first | (with_reducible first | exact HB.out | apply qac | apply qaa | apply qab) | exact HB.out)) hb); have n1_ := Aside0.mk (hbox); have n2_ := Aside0.mk ((by rw [hg]; exact (qak (by repeat (first | (with_reducible first | exact HB.out | apply qac | apply qaa | apply qab) | exact HB.out))) : w.heap.size ≤ gb104)); have n3_ := Aside0.mk ((by rw [hg]; exact (qak (by repeat (first | (with_reducible first | exact HB.out | apply qac | apply qaa | apply qab) | exact HB.out))) : w.heap.size ≤ gb104)); clear HB; have HB := n0_; have BK104 := n1_; have GW104 := n2_; have GE104 := n3_; clear n0_ n1_ n2_ n3_; clear hb hbox hg; have hcz5_0 : w4.cell? ⟨gb104, 0, none⟩ = some (.string a0_0) := (qad BK104.out 0).trans rfl; have hcz5_1 : w4.cell? ⟨gb104, 1, none⟩ = some (.string a0_1) := (qad BK104.out 1).trans rfl; have hfz5_0 := qae BK104.out 0; have hfz5_1 := qae BK104.out 1) | ((with_reducible refine qav (f := 65) rfl ?_); refine qbd (some 6) rfl rfl Try.func65 (by kernel_rfl) rfl #[.int .i64 (a0_0.size : Int), .int .i64 1, .int .i64 30] rfl (by (try simp only [List.map_toArray, List.map_cons, List.map_nil]); first | done | rfl | (simp only [List.length_drop, List.length_take]; rfl)) ?_; (with_reducible refine (qa0.calls (a0_0.size : Int) 1 30 true _ A2.out).mono ?_); rintro e w' ⟨rfl, ⟨nd, rfl⟩⟩; refine ⟨_, rfl, ?_⟩))
  go_ret
  exact ⟨by first | rfl | (simp [qam, qan] <;> rfl) | (simp [*, qam, qan] <;> rfl), by repeat (first | (with_reducible first | exact HB.out | apply qac | apply qaa | apply qab | refine qah ?_ GE104.out) | exact HB.out)⟩
 ·replace c3 := Bool.eq_false_iff.mpr c3
  subst c3
  have H1 : (some false) = some r := by rw [if_neg (show ¬ (false = true) by decide)] at H; exact H
  clear H
  have H := H1
  clear H1
  obtain rfl := Option.some.inj H
  go_enter Try.func79, Try.ntmps79
  go_wp2_with (first | ((with_reducible refine qaH (N := 1) rfl ?_); (try (refine qbt (by rfl) ?_; dsimp only)); refine qaF ?hg (N := 1) ?hd (cs := #[.string a0_0, .string a0_1]) (t := 76) ?hr ?_; (case hd => rfl); (case hg => rfl); (case hr => first | (go_simp; done) | (go_simp; rfl)); intro gb104 hg w6 hbox hb; have n0_ := Aside0.mk (qag (by repeat (first | (with_reducible first | exact HB.out | apply qac | apply qaa | apply qab) | exact HB.out)) hb); have n1_ := Aside0.mk (hbox); have n2_ := Aside0.mk ((by rw [hg]; exact (qak (by repeat (first | (with_reducible first | exact HB.out | apply qac | apply qaa | apply qab) | exact HB.out))) : w.heap.size ≤ gb104)); have n3_ := Aside0.mk ((by rw [hg]; exact (qak (by repeat (first | (with_reducible first | exact HB.out | apply qac | apply qaa | apply qab) | exact HB.out))) : w.heap.size ≤ gb104)); clear HB; have HB := n0_; have BK104 := n1_; have GW104 := n2_; have GE104 := n3_; clear n0_ n1_ n2_ n3_; clear hb hbox hg; have hcz7_0 : w6.cell? ⟨gb104, 0, none⟩ = some (.string a0_0) := (qad BK104.out 0).trans rfl; have hcz7_1 : w6.cell? ⟨gb104, 1, none⟩ = some (.string a0_1) := (qad BK104.out 1).trans rfl; have hfz7_0 := qae BK104.out 0; have hfz7_1 := qae BK104.out 1) | ((with_reducible refine qav (f := 65) rfl ?_); refine qbd (some 6) rfl rfl Try.func65 (by kernel_rfl) rfl #[.int .i64 (a0_0.size : Int), .int .i64 1, .int .i64 30] rfl (by (try simp only [List.map_toArray, List.map_cons, List.map_nil]); first | done | rfl | (simp only [List.length_drop, List.length_take]; rfl)) ?_; (with_reducible refine (qa0.calls (a0_0.size : Int) 1 30 false _ A2.out).mono ?_); rintro e w' ⟨rfl, ⟨nd, rfl⟩⟩; refine ⟨_, rfl, ?_⟩))
  go_ret
  exact ⟨by first | rfl | (simp [qam, qan] <;> rfl) | (simp [*, qam, qan] <;> rfl), by repeat (first | (with_reducible first | exact HB.out | apply qac | apply qaa | apply qab | refine qah ?_ GE104.out) | exact HB.out)⟩
end Go.Proofs.Ytgcncphdjabjjaa.X
