import Derived.Test.YtcpcifgpcemaeaaKFnExactNewHeap5
import Derived.Test.YtcpcifgpcemaeaaKFnExactNewHeap6
import Derived.Deep.QuietTactic
import Derived.BigQuiet
import Derived.Below
namespace Go.Proofs.Ytcpcifgpcemaeaa.X
open Go.RowKit Go.Proofs.YtcpcifgpcemaeaaW.PrintWords Go.Proofs.YtcpcifgpcemaeaaW.PrintLast Go.Proofs.YtcpcifgpcemaeaaW.PrintMore
attribute [local go_sem] xbin_geq xbin_leq xbin_gtr max2_int min2_int max_two min_two max_three min_three max_four min_four
set_option linter.unusedVariables false
set_option linter.unusedSimpArgs false
def laws_heldIntS.l0 : Nat → List Int → Int → Int → Option (Int)
 | 0, _, _, _ => none
 | k + 1, x0, x1, x5 => if x5 < (x0.length : Int) then (if 0 ≤ x5 then (if (rd x0 x5) = x1 then (laws_heldIntS.l0 k x0 (wrap64 (x1 + 1)) (wrap64 (x5 + 1))) else (some (-1))) else (none)) else (some x1)
def laws_heldIntS.f (k : Nat) (l0 : List Int) (a1 : Int) : Option (Int) := laws_heldIntS.l0 k l0 a1 0
theorem laws_heldIntS.mono_l : ∀ k, (∀ y0 y1 y2, LeO (laws_heldIntS.l0 k y0 y1 y2) (laws_heldIntS.l0 (k + 1) y0 y1 y2))
 | 0 => fun _ _ _ r h => by simp [laws_heldIntS.l0] at h
 | k + 1 => by
  have ih0 := laws_heldIntS.mono_l k
  ·intro y0 y1 y2
   unfold laws_heldIntS.l0
   repeat' first
   | (with_reducible exact ih0 _ _ _)
   | (with_reducible exact LeO.refl _)
   | (with_reducible exact LeO.none _)
   | (with_reducible refine LeO.ite ?_ ?_)
   | (with_reducible refine LeO.bind ?_ (fun _ => ?_))
   | exact ih0 _ _ _
   | exact LeO.none _
   | refine LeO.ite ?_ ?_
   | refine LeO.bind ?_ (fun _ => ?_)
theorem laws_heldIntS.mono : ∀ a0 a1 k, LeO (laws_heldIntS.f k a0 a1) (laws_heldIntS.f (k + 1) a0 a1) := by
 intro a0 a1 k
 have ih0 := laws_heldIntS.mono_l k
 unfold laws_heldIntS.f
 repeat' first
   | (with_reducible exact ih0 _ _ _)
   | (with_reducible exact LeO.refl _)
   | (with_reducible exact LeO.none _)
   | (with_reducible refine LeO.ite ?_ ?_)
   | (with_reducible refine LeO.bind ?_ (fun _ => ?_))
   | exact ih0 _ _ _
   | exact LeO.none _
   | refine LeO.ite ?_ ?_
   | refine LeO.bind ?_ (fun _ => ?_)
set_option maxHeartbeats 8000000 in
set_option maxRecDepth 100000 in
theorem laws_heldIntS.calls (k : Nat) (A0 : Option Addr) (c0 : Nat) (l0 : List Int) (a1 : Int) (r : Int) (w : World) (hr0 : Kd.C (Kd.int .i64) w A0 l0.length l0) (hc0 : l0.length ≤ c0) (h : laws_heldIntS.f k l0 a1 = some r) :
  Calls Try.prog 39 #[.slice A0 l0.length c0, .int .i64 a1] w fun e w' => e = .returned (.int .i64 r) ∧ Drawn0 w w' := by
 have HR0 := Aside0.mk hr0
 have HC0 := Aside0.mk hc0
 clear hr0 hc0
 have H : (laws_heldIntS.l0 k l0 a1 0) = some r := h
 clear h
 have H' := Aside0.mk H
 clear H
 go_enter Try.func39, Try.ntmps39
 go_wp2
 go_loopg [1, 5] k (fun kq v1 v5 w' => ∃ (x1_1 : Int) (x5_1 : Int), v1 = .int .i64 x1_1 ∧ v5 = .int .i64 x5_1 ∧ Aside0 (laws_heldIntS.l0 kq l0 x1_1 x5_1 = some r) ∧ Aside0 (kq ≤ k) ∧ Drawn0 w w')
 case atStart => exact ⟨(a1), (0), (by first | rfl | (simp; done) | (simp [*]; done)), (by first | rfl | (simp; done) | (simp [*]; done)), H', ⟨Nat.le_refl _⟩, by repeat (first | exact Drawn0.refl _ | apply Drawn0.step)⟩
 case round =>
  clear H'
  try clear p2
  obtain ⟨x1_1, x5_1, rfl, rfl, HA, HK1, ⟨m1, rfl⟩⟩ := hrel
  cases gk with
  | zero => exact absurd HA.out (by simp [laws_heldIntS.l0])
  | succ k1 =>
   have H := HA.out
   clear HA
   simp only [laws_heldIntS.l0] at H
   by_cases c3 : x5_1 < (l0.length : Int)
   ·rw [if_pos c3] at H
    have c3b0 : decide (x5_1 < (l0.length : Int)) = true := decide_eq_true c3
    clear c3
    by_cases c4 : 0 ≤ x5_1
    ·rw [if_pos c4] at H
     have c4b0 : decide (0 ≤ x5_1) = true := decide_eq_true c4
     clear c4
     by_cases c5 : (rd l0 x5_1) = x1_1
     ·rw [if_pos c5] at H
      have c5b0 : ((rd l0 x5_1) == x1_1) = true := beq_iff_eq.mpr c5
      have c5b1 : ((rd l0 x5_1) != x1_1) = false := bne_eq_false_iff_eq.mpr c5
      clear c5
      have H' := Aside0.mk H
      clear H
      have p158 : 0 ≤ (x5_1 : Int) := of_decide_eq_true (by first | (with_reducible assumption) | assumption)
      have q158 : x5_1 < (l0.length : Int) := of_decide_eq_true (by first | (with_reducible assumption) | assumption)
      obtain ⟨ad158, e158, hx158_0⟩ := Kd.at_int HR0.out x5_1 p158 q158
      cases e158
      replace p158 := eq_true p158
      replace q158 := eq_true q158
      go_wp2
      go_roundg k1
      case measure => have := HK1.out; omega
      case rel => exact ⟨(wrap64 (x1_1 + 1)), (wrap64 (x5_1 + 1)), (by first | rfl | (simp; done) | (simp [*]; done)), (by first | rfl | (simp; done) | (simp [*]; done)), H', ⟨by have := HK1.out; omega⟩, by repeat (first | exact Drawn0.refl _ | apply Drawn0.step)⟩
     ·rw [if_neg c5] at H
      have c5b0 : ((rd l0 x5_1) == x1_1) = false := beq_eq_false_iff_ne.mpr c5
      have c5b1 : ((rd l0 x5_1) != x1_1) = true := bne_iff_ne.mpr c5
      obtain rfl := Option.some.inj H
      have p158 : 0 ≤ (x5_1 : Int) := of_decide_eq_true (by first | (with_reducible assumption) | assumption)
      have q158 : x5_1 < (l0.length : Int) := of_decide_eq_true (by first | (with_reducible assumption) | assumption)
      obtain ⟨ad158, e158, hx158_0⟩ := Kd.at_int HR0.out x5_1 p158 q158
      cases e158
      replace p158 := eq_true p158
      replace q158 := eq_true q158
      go_wp2
      go_ret
      exact ⟨by first | rfl | (simp; done) | (simp [*]; done), by repeat (first | exact Drawn0.refl _ | apply Drawn0.step)⟩
    ·rw [if_neg c4] at H
     exact absurd H (by simp)
   ·rw [if_neg c3] at H
    have c3b0 : decide (x5_1 < (l0.length : Int)) = false := decide_eq_false c3
    clear c3
    obtain rfl := Option.some.inj H
    go_wp2
    go_ret
    exact ⟨by first | rfl | (simp; done) | (simp [*]; done), by repeat (first | exact Drawn0.refl _ | apply Drawn0.step)⟩
end Go.Proofs.Ytcpcifgpcemaeaa.X
namespace Go.Proofs.Ytcpcifgpcemaeaa.X
open Go.RowKit Go.Proofs.YtcpcifgpcemaeaaW.PrintWords Go.Proofs.YtcpcifgpcemaeaaW.PrintLast Go.Proofs.YtcpcifgpcemaeaaW.PrintMore
attribute [local go_sem] xbin_geq xbin_leq xbin_gtr max2_int min2_int max_two min_two max_three min_three max_four min_four
set_option linter.unusedVariables false
set_option linter.unusedSimpArgs false
theorem held_IntS_loop (rest : List Int) : ∀ (pre : List Int) (m : Int), 0 ≤ m → m + 1 * (rest.length : Int) ≤ 4611686018427387904 → (pre ++ rest).length ≤ 9223372036854775807 →
    Ev (fun k => laws_heldIntS.l0 k (pre ++ mk_IntS rest m) m ((pre.length : Nat) : Int)) (m + 1 * (rest.length : Int)) := by
  induction rest with
  | nil =>
    intro pre m h0 h1 hl
    refine Ev.succ ?_
    simp only [laws_heldIntS.l0]
    exact Ev.neg (by simp [mk_IntS]) (Ev.is (by simp))
  | cons x rest ih =>
    intro pre m h0 h1 hl
    simp only [mk_IntS, List.length_cons] at h1 ⊢
    have hlt : ((pre.length : Nat) : Int) < ((pre ++ ((m)) :: mk_IntS rest (m + 1)).length : Int) := by simp; omega
    have hwp : wrap64 (((pre.length : Nat) : Int) + 1) = (((pre ++ [((m))]).length : Nat) : Int) := by rw [← len_snoc]; exact wrap_at (by simp at hl; omega)
    have hrd : rd (pre ++ ((m)) :: mk_IntS rest (m + 1)) ((pre.length : Nat) : Int) = ((m)) := by simp [rd, List.getD_eq_getElem?_getD]
    have w1 : wrap64 (m + 1) = m + 1 := (wrap_id (by omega) (by omega)).trans (by omega)
    have hi := ih (pre ++ [((m))]) (m + 1) (by omega) (by omega) (by simpa using hl)
    have e3 : pre ++ ((m)) :: mk_IntS rest (m + 1) = (pre ++ [((m))]) ++ mk_IntS rest (m + 1) := by simp
    rw [← e3] at hi
    refine Ev.succ ?_
    simp only [laws_heldIntS.l0, hrd, hwp, w1]
    refine Ev.pos hlt (Ev.pos (by omega) ?_)
    repeat (first | refine Ev.bind (mt_ev (by omega)) ?_ | refine Ev.pos trivial ?_ | refine Ev.pos rfl ?_ | refine Ev.neg (by simp) ?_)
    exact Ev.same hi (by omega)
theorem held_IntS (l : List Int) (m : Int) (h0 : 0 ≤ m) (h1 : m + 1 * (l.length : Int) ≤ 4611686018427387904) (hl : l.length ≤ 9223372036854775807) : Ev (fun k => laws_heldIntS.f k (mk_IntS l m) m) (m + 1 * (l.length : Int)) := by
  unfold laws_heldIntS.f
  have h := held_IntS_loop l [] m h0 h1 (by simpa using hl)
  simpa using h
end Go.Proofs.Ytcpcifgpcemaeaa.X
namespace Go.Proofs.Ytcpcifgpcemaeaa.X
open Go.RowKit Go.Proofs.YtcpcifgpcemaeaaW.PrintWords Go.Proofs.YtcpcifgpcemaeaaW.PrintLast Go.Proofs.YtcpcifgpcemaeaaW.PrintMore
attribute [local go_sem] xbin_geq xbin_leq xbin_gtr max2_int min2_int max_two min_two max_three min_three max_four min_four
set_option linter.unusedVariables false
set_option linter.unusedSimpArgs false
structure Later (w : World) where
  val : World
  below : Below w.heap.size w val
instance Later.here (w : World) : Inhabited (Later w) := ⟨⟨w, Below.refl _ _⟩⟩
theorem Later.cell {w : World} (p : Later w) {a : Addr} {v : Value} (h : w.cell? a = some v) : p.val.cell? a = some v := pw_cell_below p.below h
theorem wp_region_later {P : Program} {id : Nat} {Q : Exit → Act → World → Prop} {a : Act} {w : World} {l : List Oper} (hm : P.follows .mixedOrders = true) (hB : Region.lexB .any l.toArray = true)
    (h : wpQuiet P l.toArray (fun w' => ∃ p : Later w.drew, w' = p.val) (fun a' => ∀ w', (∃ p : Later w.drew, w' = p.val) → Q .normal a' w') l a) : (Code.region id l.toArray true).wp P Q a w :=
  wp_region_quiet (C := fun w' => ∃ p : Later w.drew, w' = p.val) hm hB ⟨⟨w.drew, Below.refl _ _⟩, rfl⟩ (by simpa using h)
theorem Calls.later_of {P : Program} {f : FuncId} {args : Array Value} {w : World} {p : Later w} {v : Value}
    (h : Calls P f args p.val fun e w' => e = .returned v ∧ Below p.val.heap.size p.val w') : Calls P f args p.val fun e w'' => e = .returned v ∧ ∃ q : Later w, w'' = q.val :=
  h.mono fun _ _ ⟨he, hb⟩ => ⟨he, ⟨_, below_step p.below hb⟩, rfl⟩
end Go.Proofs.Ytcpcifgpcemaeaa.X
namespace Go.Proofs.Ytcpcifgpcemaeaa.X
open Go.RowKit Go.Proofs.YtcpcifgpcemaeaaW.PrintWords Go.Proofs.YtcpcifgpcemaeaaW.PrintLast Go.Proofs.YtcpcifgpcemaeaaW.PrintMore
attribute [local go_sem] xbin_geq xbin_leq xbin_gtr max2_int min2_int max_two min_two max_three min_three max_four min_four
set_option linter.unusedVariables false
set_option linter.unusedSimpArgs false
def laws_heldPairS.l0 : Nat → List (S150) → Int → Int → Option (Int)
 | 0, _, _, _ => none
 | k + 1, x0, x1, x5 => if x5 < (x0.length : Int) then (if 0 ≤ x5 then ((laws_markText.f k x1).bind fun t774 => (if ((rd_T150 x0 x5).f0).toList = t774.toList then ((laws_markText.f k (wrap64 (x1 + 1))).bind fun t776 => (if ((rd_T150 x0 x5).f1).toList = t776.toList then (laws_heldPairS.l0 k x0 (wrap64 ((wrap64 (x1 + 1)) + 1)) (wrap64 (x5 + 1))) else (some (-1)))) else (some (-1)))) else (none)) else (some x1)
def laws_heldPairS.f (k : Nat) (l0 : List (S150)) (a1 : Int) : Option (Int) := laws_heldPairS.l0 k l0 a1 0
theorem laws_heldPairS.mono_l : ∀ k, (∀ y0 y1 y2, LeO (laws_heldPairS.l0 k y0 y1 y2) (laws_heldPairS.l0 (k + 1) y0 y1 y2))
 | 0 => fun _ _ _ r h => by simp [laws_heldPairS.l0] at h
 | k + 1 => by
  have ih0 := laws_heldPairS.mono_l k
  ·intro y0 y1 y2
   unfold laws_heldPairS.l0
   repeat' first
   | (with_reducible exact ih0 _ _ _)
   | (with_reducible exact laws_markText.mono _ _)
   | (with_reducible exact LeO.refl _)
   | (with_reducible exact LeO.none _)
   | (with_reducible refine LeO.ite ?_ ?_)
   | (with_reducible refine LeO.bind ?_ (fun _ => ?_))
   | exact ih0 _ _ _
   | exact laws_markText.mono _ _
   | exact LeO.none _
   | refine LeO.ite ?_ ?_
   | refine LeO.bind ?_ (fun _ => ?_)
theorem laws_heldPairS.mono : ∀ a0 a1 k, LeO (laws_heldPairS.f k a0 a1) (laws_heldPairS.f (k + 1) a0 a1) := by
 intro a0 a1 k
 have ih0 := laws_heldPairS.mono_l k
 unfold laws_heldPairS.f
 repeat' first
   | (with_reducible exact ih0 _ _ _)
   | (with_reducible exact laws_markText.mono _ _)
   | (with_reducible exact LeO.refl _)
   | (with_reducible exact LeO.none _)
   | (with_reducible refine LeO.ite ?_ ?_)
   | (with_reducible refine LeO.bind ?_ (fun _ => ?_))
   | exact ih0 _ _ _
   | exact laws_markText.mono _ _
   | exact LeO.none _
   | refine LeO.ite ?_ ?_
   | refine LeO.bind ?_ (fun _ => ?_)
set_option maxHeartbeats 8000000 in
set_option maxRecDepth 100000 in
theorem laws_heldPairS.calls (k : Nat) (A0 : Option Addr) (c0 : Nat) (l0 : List (S150)) (a1 : Int) (r : Int) (w : World) (hr0 : Kd.C k150 w A0 l0.length l0) (hc0 : l0.length ≤ c0) (h : laws_heldPairS.f k l0 a1 = some r) :
  Calls Try.prog 128 #[.slice A0 l0.length c0, .int .i64 a1] w fun e w' => e = .returned (.int .i64 r) ∧ Below w.heap.size w w' := by
 have HR0 := Aside0.mk hr0
 have HC0 := Aside0.mk hc0
 clear hr0 hc0
 have HB := Aside0.mk (Below.refl w.heap.size w)
 have H : (laws_heldPairS.l0 k l0 a1 0) = some r := h
 clear h
 have H' := Aside0.mk H
 clear H
 go_enter Try.func128, Try.ntmps128
 go_wp2
 go_loopg [1, 5] k (fun kq v1 v5 w' => ∃ (x1_1 : Int) (x5_1 : Int), v1 = .int .i64 x1_1 ∧ v5 = .int .i64 x5_1 ∧ Aside0 (laws_heldPairS.l0 kq l0 x1_1 x5_1 = some r) ∧ Aside0 (kq ≤ k) ∧ Aside0 (Below w.heap.size w w'))
 case atStart => exact ⟨(a1), (0), (by first | rfl | (simp; done) | (simp [*]; done)), (by first | rfl | (simp; done) | (simp [*]; done)), H', ⟨Nat.le_refl _⟩, ⟨by repeat (first | (with_reducible first | exact HB.out | apply below_alloc | apply pw_below_drewN | apply below_drew1) | exact HB.out)⟩⟩
 case round =>
  clear H'
  try clear c1
  try clear p2
  obtain ⟨x1_1, x5_1, rfl, rfl, HA, HK1, HB⟩ := hrel
  cases gk with
  | zero => exact absurd HA.out (by simp [laws_heldPairS.l0])
  | succ k1 =>
   have H := HA.out
   clear HA
   simp only [laws_heldPairS.l0] at H
   by_cases c3 : x5_1 < (l0.length : Int)
   ·rw [if_pos c3] at H
    have c3b0 : decide (x5_1 < (l0.length : Int)) = true := decide_eq_true c3
    clear c3
    by_cases c4 : 0 ≤ x5_1
    ·rw [if_pos c4] at H
     have c4b0 : decide (0 ≤ x5_1) = true := decide_eq_true c4
     clear c4
     replace H := Option.bind_eq_some_iff.mp H
     obtain ⟨t774, A50, H⟩ := H
     replace H : (if ((rd_T150 l0 x5_1).f0).toList = t774.toList then ((laws_markText.f k1 (wrap64 (x1_1 + 1))).bind fun t776 => (if ((rd_T150 l0 x5_1).f1).toList = t776.toList then (laws_heldPairS.l0 k1 l0 (wrap64 ((wrap64 (x1_1 + 1)) + 1)) (wrap64 (x5_1 + 1))) else (some (-1)))) else (some (-1))) = some r := H
     have A5 := Aside0.mk A50
     clear A50
     by_cases c6 : ((rd_T150 l0 x5_1).f0).toList = t774.toList
     ·rw [if_pos c6] at H
      have c6b0 : (((rd_T150 l0 x5_1).f0).toList == t774.toList) = true := beq_iff_eq.mpr c6
      have c6b1 : (((rd_T150 l0 x5_1).f0).toList != t774.toList) = false := bne_eq_false_iff_eq.mpr c6
      clear c6
      replace H := Option.bind_eq_some_iff.mp H
      obtain ⟨t776, A70, H⟩ := H
      replace H : (if ((rd_T150 l0 x5_1).f1).toList = t776.toList then (laws_heldPairS.l0 k1 l0 (wrap64 ((wrap64 (x1_1 + 1)) + 1)) (wrap64 (x5_1 + 1))) else (some (-1))) = some r := H
      have A7 := Aside0.mk A70
      clear A70
      by_cases c8 : ((rd_T150 l0 x5_1).f1).toList = t776.toList
      ·rw [if_pos c8] at H
       have c8b0 : (((rd_T150 l0 x5_1).f1).toList == t776.toList) = true := beq_iff_eq.mpr c8
       have c8b1 : (((rd_T150 l0 x5_1).f1).toList != t776.toList) = false := bne_eq_false_iff_eq.mpr c8
       clear c8
       have H' := Aside0.mk H
       clear H
       try go_wp2
       have n0_ := Aside0.mk (below_drew1 HB.out)
       clear HB
       have HB := n0_
       clear n0_
       have p773 : 0 ≤ (x5_1 : Int) := of_decide_eq_true (by first | (with_reducible assumption) | assumption)
       have q773 : x5_1 < (l0.length : Int) := of_decide_eq_true (by first | (with_reducible assumption) | assumption)
       obtain ⟨ad773, e773, hx773_0, hx773_1⟩ := at_T150 HR0.out x5_1 p773 q773
       have hw773_1 := hx773_1
       have hw773_0 := hx773_0
       cases e773
       replace hx773_0 := (HB.out.cell (World.block_lt_of_cell? w _ hx773_0)).trans hx773_0
       replace hx773_1 := (HB.out.cell (World.block_lt_of_cell? w _ hx773_1)).trans hx773_1
       replace p773 := eq_true p773
       replace q773 := eq_true q773
       refine wp_region_later (by kernel_rfl) (by kernel_rfl) ?_
       have hL0_ := Aside0.mk (show wr.drew.cell? (ad773.add ((x5_1).toNat * 2)) = some (.string ((rd_T150 l0 x5_1).f0)) from ((HB.out.cell (World.block_lt_of_cell? w _ hw773_0)).trans hw773_0))
       have hL1_ := Aside0.mk (show wr.drew.cell? ⟨(ad773.add ((x5_1).toNat * 2)).block, (ad773.add ((x5_1).toNat * 2)).off + 1, none⟩ = some (.string ((rd_T150 l0 x5_1).f1)) from ((HB.out.cell (World.block_lt_of_cell? w _ hw773_1)).trans hw773_1))
       generalize wr.drew = w9 at HB hx773_0 hx773_1 hL0_ hL1_ ⊢
       clear hx773_0 hx773_1
       have hL0 := fun (p_ : Later w9) => Later.cell p_ hL0_.out
       have hL1 := fun (p_ : Later w9) => Later.cell p_ hL1_.out
       clear hL0_ hL1_
       repeat (first | go_big_quiet_step ((first | (go_at_call 112; exact Calls.later_of (laws_markText.calls k1 x1_1 t774 _ A5.out)))) | quiet_step ((first | (go_at_call 112; exact Calls.later_of (laws_markText.calls k1 x1_1 t774 _ A5.out)))))
       refine wpQuiet_nil ?_
       rintro w10 ⟨⟨wq_, hbL⟩, hq_⟩
       have hq2_ : w10 = wq_ := hq_
       clear hq_
       subst hq2_
       clear hL0 hL1
       have nHB_ := Aside0.mk (below_step HB.out hbL)
       clear HB
       have HB := nHB_
       clear nHB_
       clear hbL
       try go_wp2
       have n0_ := Aside0.mk (below_drew1 HB.out)
       clear HB
       have HB := n0_
       clear n0_
       have p775 : 0 ≤ (x5_1 : Int) := of_decide_eq_true (by first | (with_reducible assumption) | assumption)
       have q775 : x5_1 < (l0.length : Int) := of_decide_eq_true (by first | (with_reducible assumption) | assumption)
       obtain ⟨ad775, e775, hx775_0, hx775_1⟩ := at_T150 HR0.out x5_1 p775 q775
       have hw775_1 := hx775_1
       have hw775_0 := hx775_0
       obtain rfl : ad773 = ad775 := (by injection e775)
       replace hx775_0 := (HB.out.cell (World.block_lt_of_cell? w _ hx775_0)).trans hx775_0
       replace hx775_1 := (HB.out.cell (World.block_lt_of_cell? w _ hx775_1)).trans hx775_1
       replace p775 := eq_true p775
       replace q775 := eq_true q775
       refine wp_region_later (by kernel_rfl) (by kernel_rfl) ?_
       have hL0_ := Aside0.mk (show w10.drew.cell? (ad773.add ((x5_1).toNat * 2)) = some (.string ((rd_T150 l0 x5_1).f0)) from ((HB.out.cell (World.block_lt_of_cell? w _ hw775_0)).trans hw775_0))
       have hL1_ := Aside0.mk (show w10.drew.cell? ⟨(ad773.add ((x5_1).toNat * 2)).block, (ad773.add ((x5_1).toNat * 2)).off + 1, none⟩ = some (.string ((rd_T150 l0 x5_1).f1)) from ((HB.out.cell (World.block_lt_of_cell? w _ hw775_1)).trans hw775_1))
       generalize w10.drew = w11 at HB hx775_0 hx775_1 hL0_ hL1_ ⊢
       clear hx775_0 hx775_1
       have hL0 := fun (p_ : Later w11) => Later.cell p_ hL0_.out
       have hL1 := fun (p_ : Later w11) => Later.cell p_ hL1_.out
       clear hL0_ hL1_
       repeat (first | go_big_quiet_step ((first | (go_at_call 112; exact Calls.later_of (laws_markText.calls k1 (wrap64 (x1_1 + 1)) t776 _ A7.out)))) | quiet_step ((first | (go_at_call 112; exact Calls.later_of (laws_markText.calls k1 (wrap64 (x1_1 + 1)) t776 _ A7.out)))))
       refine wpQuiet_nil ?_
       rintro w12 ⟨⟨wq_, hbL⟩, hq_⟩
       have hq2_ : w12 = wq_ := hq_
       clear hq_
       subst hq2_
       clear hL0 hL1
       have nHB_ := Aside0.mk (below_step HB.out hbL)
       clear HB
       have HB := nHB_
       clear nHB_
       clear hbL
       try go_wp2
       go_roundg k1
       case measure => have := HK1.out; omega
       case rel => exact ⟨(wrap64 ((wrap64 (x1_1 + 1)) + 1)), (wrap64 (x5_1 + 1)), (by first | rfl | (simp; done) | (simp [*]; done)), (by first | rfl | (simp; done) | (simp [*]; done)), H', ⟨by have := HK1.out; omega⟩, ⟨by repeat (first | (with_reducible first | exact HB.out | apply below_alloc | apply pw_below_drewN | apply below_drew1) | exact HB.out)⟩⟩
      ·rw [if_neg c8] at H
       have c8b0 : (((rd_T150 l0 x5_1).f1).toList == t776.toList) = false := beq_eq_false_iff_ne.mpr c8
       have c8b1 : (((rd_T150 l0 x5_1).f1).toList != t776.toList) = true := bne_iff_ne.mpr c8
       obtain rfl := Option.some.inj H
       try go_wp2
       have n0_ := Aside0.mk (below_drew1 HB.out)
       clear HB
       have HB := n0_
       clear n0_
       have p773 : 0 ≤ (x5_1 : Int) := of_decide_eq_true (by first | (with_reducible assumption) | assumption)
       have q773 : x5_1 < (l0.length : Int) := of_decide_eq_true (by first | (with_reducible assumption) | assumption)
       obtain ⟨ad773, e773, hx773_0, hx773_1⟩ := at_T150 HR0.out x5_1 p773 q773
       have hw773_1 := hx773_1
       have hw773_0 := hx773_0
       cases e773
       replace hx773_0 := (HB.out.cell (World.block_lt_of_cell? w _ hx773_0)).trans hx773_0
       replace hx773_1 := (HB.out.cell (World.block_lt_of_cell? w _ hx773_1)).trans hx773_1
       replace p773 := eq_true p773
       replace q773 := eq_true q773
       refine wp_region_later (by kernel_rfl) (by kernel_rfl) ?_
       have hL0_ := Aside0.mk (show wr.drew.cell? (ad773.add ((x5_1).toNat * 2)) = some (.string ((rd_T150 l0 x5_1).f0)) from ((HB.out.cell (World.block_lt_of_cell? w _ hw773_0)).trans hw773_0))
       have hL1_ := Aside0.mk (show wr.drew.cell? ⟨(ad773.add ((x5_1).toNat * 2)).block, (ad773.add ((x5_1).toNat * 2)).off + 1, none⟩ = some (.string ((rd_T150 l0 x5_1).f1)) from ((HB.out.cell (World.block_lt_of_cell? w _ hw773_1)).trans hw773_1))
       generalize wr.drew = w13 at HB hx773_0 hx773_1 hL0_ hL1_ ⊢
       clear hx773_0 hx773_1
       have hL0 := fun (p_ : Later w13) => Later.cell p_ hL0_.out
       have hL1 := fun (p_ : Later w13) => Later.cell p_ hL1_.out
       clear hL0_ hL1_
       repeat (first | go_big_quiet_step ((first | (go_at_call 112; exact Calls.later_of (laws_markText.calls k1 x1_1 t774 _ A5.out)))) | quiet_step ((first | (go_at_call 112; exact Calls.later_of (laws_markText.calls k1 x1_1 t774 _ A5.out)))))
       refine wpQuiet_nil ?_
       rintro w14 ⟨⟨wq_, hbL⟩, hq_⟩
       have hq2_ : w14 = wq_ := hq_
       clear hq_
       subst hq2_
       clear hL0 hL1
       have nHB_ := Aside0.mk (below_step HB.out hbL)
       clear HB
       have HB := nHB_
       clear nHB_
       clear hbL
       try go_wp2
       have n0_ := Aside0.mk (below_drew1 HB.out)
       clear HB
       have HB := n0_
       clear n0_
       have p775 : 0 ≤ (x5_1 : Int) := of_decide_eq_true (by first | (with_reducible assumption) | assumption)
       have q775 : x5_1 < (l0.length : Int) := of_decide_eq_true (by first | (with_reducible assumption) | assumption)
       obtain ⟨ad775, e775, hx775_0, hx775_1⟩ := at_T150 HR0.out x5_1 p775 q775
       have hw775_1 := hx775_1
       have hw775_0 := hx775_0
       obtain rfl : ad773 = ad775 := (by injection e775)
       replace hx775_0 := (HB.out.cell (World.block_lt_of_cell? w _ hx775_0)).trans hx775_0
       replace hx775_1 := (HB.out.cell (World.block_lt_of_cell? w _ hx775_1)).trans hx775_1
       replace p775 := eq_true p775
       replace q775 := eq_true q775
       refine wp_region_later (by kernel_rfl) (by kernel_rfl) ?_
       have hL0_ := Aside0.mk (show w14.drew.cell? (ad773.add ((x5_1).toNat * 2)) = some (.string ((rd_T150 l0 x5_1).f0)) from ((HB.out.cell (World.block_lt_of_cell? w _ hw775_0)).trans hw775_0))
       have hL1_ := Aside0.mk (show w14.drew.cell? ⟨(ad773.add ((x5_1).toNat * 2)).block, (ad773.add ((x5_1).toNat * 2)).off + 1, none⟩ = some (.string ((rd_T150 l0 x5_1).f1)) from ((HB.out.cell (World.block_lt_of_cell? w _ hw775_1)).trans hw775_1))
       generalize w14.drew = w15 at HB hx775_0 hx775_1 hL0_ hL1_ ⊢
       clear hx775_0 hx775_1
       have hL0 := fun (p_ : Later w15) => Later.cell p_ hL0_.out
       have hL1 := fun (p_ : Later w15) => Later.cell p_ hL1_.out
       clear hL0_ hL1_
       repeat (first | go_big_quiet_step ((first | (go_at_call 112; exact Calls.later_of (laws_markText.calls k1 (wrap64 (x1_1 + 1)) t776 _ A7.out)))) | quiet_step ((first | (go_at_call 112; exact Calls.later_of (laws_markText.calls k1 (wrap64 (x1_1 + 1)) t776 _ A7.out)))))
       refine wpQuiet_nil ?_
       rintro w16 ⟨⟨wq_, hbL⟩, hq_⟩
       have hq2_ : w16 = wq_ := hq_
       clear hq_
       subst hq2_
       clear hL0 hL1
       have nHB_ := Aside0.mk (below_step HB.out hbL)
       clear HB
       have HB := nHB_
       clear nHB_
       clear hbL
       try go_wp2
       go_ret
       exact ⟨by first | rfl | (simp [errW_none, errW_some] <;> rfl) | (simp [*, errW_none, errW_some] <;> rfl), by repeat (first | (with_reducible first | exact HB.out | apply below_alloc | apply pw_below_drewN | apply below_drew1) | exact HB.out)⟩
     ·rw [if_neg c6] at H
      have c6b0 : (((rd_T150 l0 x5_1).f0).toList == t774.toList) = false := beq_eq_false_iff_ne.mpr c6
      have c6b1 : (((rd_T150 l0 x5_1).f0).toList != t774.toList) = true := bne_iff_ne.mpr c6
      obtain rfl := Option.some.inj H
      try go_wp2
      have n0_ := Aside0.mk (below_drew1 HB.out)
      clear HB
      have HB := n0_
      clear n0_
      have p773 : 0 ≤ (x5_1 : Int) := of_decide_eq_true (by first | (with_reducible assumption) | assumption)
      have q773 : x5_1 < (l0.length : Int) := of_decide_eq_true (by first | (with_reducible assumption) | assumption)
      obtain ⟨ad773, e773, hx773_0, hx773_1⟩ := at_T150 HR0.out x5_1 p773 q773
      have hw773_1 := hx773_1
      have hw773_0 := hx773_0
      cases e773
      replace hx773_0 := (HB.out.cell (World.block_lt_of_cell? w _ hx773_0)).trans hx773_0
      replace hx773_1 := (HB.out.cell (World.block_lt_of_cell? w _ hx773_1)).trans hx773_1
      replace p773 := eq_true p773
      replace q773 := eq_true q773
      refine wp_region_later (by kernel_rfl) (by kernel_rfl) ?_
      have hL0_ := Aside0.mk (show wr.drew.cell? (ad773.add ((x5_1).toNat * 2)) = some (.string ((rd_T150 l0 x5_1).f0)) from ((HB.out.cell (World.block_lt_of_cell? w _ hw773_0)).trans hw773_0))
      have hL1_ := Aside0.mk (show wr.drew.cell? ⟨(ad773.add ((x5_1).toNat * 2)).block, (ad773.add ((x5_1).toNat * 2)).off + 1, none⟩ = some (.string ((rd_T150 l0 x5_1).f1)) from ((HB.out.cell (World.block_lt_of_cell? w _ hw773_1)).trans hw773_1))
      generalize wr.drew = w17 at HB hx773_0 hx773_1 hL0_ hL1_ ⊢
      clear hx773_0 hx773_1
      have hL0 := fun (p_ : Later w17) => Later.cell p_ hL0_.out
      have hL1 := fun (p_ : Later w17) => Later.cell p_ hL1_.out
      clear hL0_ hL1_
      repeat (first | go_big_quiet_step ((first | (go_at_call 112; exact Calls.later_of (laws_markText.calls k1 x1_1 t774 _ A5.out)))) | quiet_step ((first | (go_at_call 112; exact Calls.later_of (laws_markText.calls k1 x1_1 t774 _ A5.out)))))
      refine wpQuiet_nil ?_
      rintro w18 ⟨⟨wq_, hbL⟩, hq_⟩
      have hq2_ : w18 = wq_ := hq_
      clear hq_
      subst hq2_
      clear hL0 hL1
      have nHB_ := Aside0.mk (below_step HB.out hbL)
      clear HB
      have HB := nHB_
      clear nHB_
      clear hbL
      try go_wp2
      go_ret
      exact ⟨by first | rfl | (simp [errW_none, errW_some] <;> rfl) | (simp [*, errW_none, errW_some] <;> rfl), by repeat (first | (with_reducible first | exact HB.out | apply below_alloc | apply pw_below_drewN | apply below_drew1) | exact HB.out)⟩
    ·rw [if_neg c4] at H
     exact absurd H (by simp)
   ·rw [if_neg c3] at H
    have c3b0 : decide (x5_1 < (l0.length : Int)) = false := decide_eq_false c3
    clear c3
    obtain rfl := Option.some.inj H
    go_wp2
    go_ret
    exact ⟨by first | rfl | (simp [errW_none, errW_some] <;> rfl) | (simp [*, errW_none, errW_some] <;> rfl), by repeat (first | (with_reducible first | exact HB.out | apply below_alloc | apply pw_below_drewN | apply below_drew1) | exact HB.out)⟩
end Go.Proofs.Ytcpcifgpcemaeaa.X
