import Derived.Test.YtcpcifgpcemaeaaKFnExactNewHeap5
import Derived.Test.YtcpcifgpcemaeaaKFnExactNewHeap6
import Derived.Test.YtcpcifgpcemaeaaKFnExactNewHeap7
import Derived.Test.YtcpcifgpcemaeaaKFnExactNewHeap8
namespace Go.Proofs.Ytcpcifgpcemaeaa.X
open Go.RowKit Go.Proofs.YtcpcifgpcemaeaaW.PrintWords Go.Proofs.YtcpcifgpcemaeaaW.PrintLast Go.Proofs.YtcpcifgpcemaeaaW.PrintMore
attribute [local go_sem] xbin_geq xbin_leq xbin_gtr max2_int min2_int max_two min_two max_three min_three max_four min_four
set_option linter.unusedVariables false
set_option linter.unusedSimpArgs false
theorem held_PairS_loop (rest : List S150) : ∀ (pre : List S150) (m : Int), 0 ≤ m → m + 2 * (rest.length : Int) ≤ 4611686018427387904 → (pre ++ rest).length ≤ 9223372036854775807 →
    Ev (fun k => laws_heldPairS.l0 k (pre ++ mk_PairS rest m) m ((pre.length : Nat) : Int)) (m + 2 * (rest.length : Int)) := by
  induction rest with
  | nil =>
    intro pre m h0 h1 hl
    refine Ev.succ ?_
    simp only [laws_heldPairS.l0]
    exact Ev.neg (by simp [mk_PairS]) (Ev.is (by simp))
  | cons x rest ih =>
    intro pre m h0 h1 hl
    simp only [mk_PairS, List.length_cons] at h1 ⊢
    have hlt : ((pre.length : Nat) : Int) < ((pre ++ (⟨mt m, mt (m + 1)⟩ : S150) :: mk_PairS rest (m + 2)).length : Int) := by simp; omega
    have hwp : wrap64 (((pre.length : Nat) : Int) + 1) = (((pre ++ [(⟨mt m, mt (m + 1)⟩ : S150)]).length : Nat) : Int) := by rw [← len_snoc]; exact wrap_at (by simp at hl; omega)
    have hrd : rd_T150 (pre ++ (⟨mt m, mt (m + 1)⟩ : S150) :: mk_PairS rest (m + 2)) ((pre.length : Nat) : Int) = (⟨mt m, mt (m + 1)⟩ : S150) := by simp [rd_T150, List.getD_eq_getElem?_getD]
    have w1 : wrap64 (m + 1) = m + 1 := (wrap_id (by omega) (by omega)).trans (by omega)
    have w2 : wrap64 ((m + 1) + 1) = m + 2 := (wrap_id (by omega) (by omega)).trans (by omega)
    have hi := ih (pre ++ [(⟨mt m, mt (m + 1)⟩ : S150)]) (m + 2) (by omega) (by omega) (by simpa using hl)
    have e3 : pre ++ (⟨mt m, mt (m + 1)⟩ : S150) :: mk_PairS rest (m + 2) = (pre ++ [(⟨mt m, mt (m + 1)⟩ : S150)]) ++ mk_PairS rest (m + 2) := by simp
    rw [← e3] at hi
    refine Ev.succ ?_
    simp only [laws_heldPairS.l0, hrd, hwp, w1, w2]
    refine Ev.pos hlt (Ev.pos (by omega) ?_)
    repeat (first | refine Ev.bind (mt_ev (by omega)) ?_ | refine Ev.pos trivial ?_ | refine Ev.pos rfl ?_ | refine Ev.neg (by simp) ?_)
    exact Ev.same hi (by omega)
theorem held_PairS (l : List S150) (m : Int) (h0 : 0 ≤ m) (h1 : m + 2 * (l.length : Int) ≤ 4611686018427387904) (hl : l.length ≤ 9223372036854775807) : Ev (fun k => laws_heldPairS.f k (mk_PairS l m) m) (m + 2 * (l.length : Int)) := by
  unfold laws_heldPairS.f
  have h := held_PairS_loop l [] m h0 h1 (by simpa using hl)
  simpa using h
end Go.Proofs.Ytcpcifgpcemaeaa.X
namespace Go.Proofs.Ytcpcifgpcemaeaa.X
open Go.RowKit Go.Proofs.YtcpcifgpcemaeaaW.PrintWords Go.Proofs.YtcpcifgpcemaeaaW.PrintLast Go.Proofs.YtcpcifgpcemaeaaW.PrintMore
attribute [local go_sem] xbin_geq xbin_leq xbin_gtr max2_int min2_int max_two min_two max_three min_three max_four min_four
set_option linter.unusedVariables false
set_option linter.unusedSimpArgs false
def laws_heldStringS.l0 : Nat → List ByteArray → Int → Int → Option (Int)
 | 0, _, _, _ => none
 | k + 1, x0, x1, x5 => if x5 < (x0.length : Int) then (if 0 ≤ x5 then ((laws_markText.f k x1).bind fun t160 => (if (rdOf ByteArray.empty x0 x5).toList = t160.toList then (laws_heldStringS.l0 k x0 (wrap64 (x1 + 1)) (wrap64 (x5 + 1))) else (some (-1)))) else (none)) else (some x1)
def laws_heldStringS.f (k : Nat) (l0 : List ByteArray) (a1 : Int) : Option (Int) := laws_heldStringS.l0 k l0 a1 0
theorem laws_heldStringS.mono_l : ∀ k, (∀ y0 y1 y2, LeO (laws_heldStringS.l0 k y0 y1 y2) (laws_heldStringS.l0 (k + 1) y0 y1 y2))
 | 0 => fun _ _ _ r h => by simp [laws_heldStringS.l0] at h
 | k + 1 => by
  have ih0 := laws_heldStringS.mono_l k
  ·intro y0 y1 y2
   unfold laws_heldStringS.l0
   repeat' first
   | (with_reducible exact ih0 _ _ _)
   | (with_reducible exact laws_markText.mono _ _)
   | (with_reducible exact LeO.refl _)
   | (with_reducible exact LeO.none _)
   | (with_reducible refine LeO.ite ?_ ?_)
   | (with_reducible refine LeO.bind ?_ (fun _ => ?_))
   | exact ih0 _ _ _
   | exact laws_markText.mono _ _
   | exact LeO.none _
   | refine LeO.ite ?_ ?_
   | refine LeO.bind ?_ (fun _ => ?_)
theorem laws_heldStringS.mono : ∀ a0 a1 k, LeO (laws_heldStringS.f k a0 a1) (laws_heldStringS.f (k + 1) a0 a1) := by
 intro a0 a1 k
 have ih0 := laws_heldStringS.mono_l k
 unfold laws_heldStringS.f
 repeat' first
   | (with_reducible exact ih0 _ _ _)
   | (with_reducible exact laws_markText.mono _ _)
   | (with_reducible exact LeO.refl _)
   | (with_reducible exact LeO.none _)
   | (with_reducible refine LeO.ite ?_ ?_)
   | (with_reducible refine LeO.bind ?_ (fun _ => ?_))
   | exact ih0 _ _ _
   | exact laws_markText.mono _ _
   | exact LeO.none _
   | refine LeO.ite ?_ ?_
   | refine LeO.bind ?_ (fun _ => ?_)
set_option maxHeartbeats 8000000 in
set_option maxRecDepth 100000 in
theorem laws_heldStringS.calls (k : Nat) (A0 : Option Addr) (c0 : Nat) (l0 : List ByteArray) (a1 : Int) (r : Int) (w : World) (hr0 : Kd.C Kd.string w A0 l0.length l0) (hc0 : l0.length ≤ c0) (h : laws_heldStringS.f k l0 a1 = some r) :
  Calls Try.prog 66 #[.slice A0 l0.length c0, .int .i64 a1] w fun e w' => e = .returned (.int .i64 r) ∧ Below w.heap.size w w' := by
 have HR0 := Aside0.mk hr0
 have HC0 := Aside0.mk hc0
 clear hr0 hc0
 have HB := Aside0.mk (Below.refl w.heap.size w)
 have H : (laws_heldStringS.l0 k l0 a1 0) = some r := h
 clear h
 have H' := Aside0.mk H
 clear H
 go_enter Try.func66, Try.ntmps66
 go_wp2
 go_loopg [1, 5] k (fun kq v1 v5 w' => ∃ (x1_1 : Int) (x5_1 : Int), v1 = .int .i64 x1_1 ∧ v5 = .int .i64 x5_1 ∧ Aside0 (laws_heldStringS.l0 kq l0 x1_1 x5_1 = some r) ∧ Aside0 (kq ≤ k) ∧ Aside0 (Below w.heap.size w w'))
 case atStart => exact ⟨(a1), (0), (by first | rfl | (simp; done) | (simp [*]; done)), (by first | rfl | (simp; done) | (simp [*]; done)), H', ⟨Nat.le_refl _⟩, ⟨by repeat (first | (with_reducible first | exact HB.out | apply below_alloc | apply pw_below_drewN | apply below_drew1) | exact HB.out)⟩⟩
 case round =>
  clear H'
  try clear p2
  obtain ⟨x1_1, x5_1, rfl, rfl, HA, HK1, HB⟩ := hrel
  cases gk with
  | zero => exact absurd HA.out (by simp [laws_heldStringS.l0])
  | succ k1 =>
   have H := HA.out
   clear HA
   simp only [laws_heldStringS.l0] at H
   by_cases c3 : x5_1 < (l0.length : Int)
   ·rw [if_pos c3] at H
    have c3b0 : decide (x5_1 < (l0.length : Int)) = true := decide_eq_true c3
    clear c3
    by_cases c4 : 0 ≤ x5_1
    ·rw [if_pos c4] at H
     have c4b0 : decide (0 ≤ x5_1) = true := decide_eq_true c4
     clear c4
     replace H := Option.bind_eq_some_iff.mp H
     obtain ⟨t160, A50, H⟩ := H
     replace H : (if (rdOf ByteArray.empty l0 x5_1).toList = t160.toList then (laws_heldStringS.l0 k1 l0 (wrap64 (x1_1 + 1)) (wrap64 (x5_1 + 1))) else (some (-1))) = some r := H
     have A5 := Aside0.mk A50
     clear A50
     by_cases c6 : (rdOf ByteArray.empty l0 x5_1).toList = t160.toList
     ·rw [if_pos c6] at H
      have c6b0 : ((rdOf ByteArray.empty l0 x5_1).toList == t160.toList) = true := beq_iff_eq.mpr c6
      have c6b1 : ((rdOf ByteArray.empty l0 x5_1).toList != t160.toList) = false := bne_eq_false_iff_eq.mpr c6
      clear c6
      have H' := Aside0.mk H
      clear H
      try go_wp2
      have n0_ := Aside0.mk (below_drew1 HB.out)
      clear HB
      have HB := n0_
      clear n0_
      have p159 : 0 ≤ (x5_1 : Int) := of_decide_eq_true (by first | (with_reducible assumption) | assumption)
      have q159 : x5_1 < (l0.length : Int) := of_decide_eq_true (by first | (with_reducible assumption) | assumption)
      obtain ⟨ad159, e159, hx159_0⟩ := Kd.at_string HR0.out x5_1 p159 q159
      have hw159_0 := hx159_0
      cases e159
      replace hx159_0 := (HB.out.cell (World.block_lt_of_cell? w _ hx159_0)).trans hx159_0
      replace p159 := eq_true p159
      replace q159 := eq_true q159
      refine wp_region_later (by kernel_rfl) (by kernel_rfl) ?_
      have hL0_ := Aside0.mk (show wr.drew.cell? (ad159.add (x5_1).toNat) = some (.string (rdOf ByteArray.empty l0 x5_1)) from (((HB.out.cell (World.block_lt_of_cell? w _ hw159_0)).trans hw159_0)))
      generalize wr.drew = w7 at HB hx159_0 hL0_ ⊢
      clear hx159_0
      have hL0 := fun (p_ : Later w7) => Later.cell p_ hL0_.out
      clear hL0_
      repeat (first | go_big_quiet_step ((first | (go_at_call 112; exact Calls.later_of (laws_markText.calls k1 x1_1 t160 _ A5.out)))) | quiet_step ((first | (go_at_call 112; exact Calls.later_of (laws_markText.calls k1 x1_1 t160 _ A5.out)))))
      refine wpQuiet_nil ?_
      rintro w8 ⟨⟨wq_, hbL⟩, hq_⟩
      have hq2_ : w8 = wq_ := hq_
      clear hq_
      subst hq2_
      clear hL0
      have nHB_ := Aside0.mk (below_step HB.out hbL)
      clear HB
      have HB := nHB_
      clear nHB_
      clear hbL
      try go_wp2
      go_roundg k1
      case measure => have := HK1.out; omega
      case rel => exact ⟨(wrap64 (x1_1 + 1)), (wrap64 (x5_1 + 1)), (by first | rfl | (simp; done) | (simp [*]; done)), (by first | rfl | (simp; done) | (simp [*]; done)), H', ⟨by have := HK1.out; omega⟩, ⟨by repeat (first | (with_reducible first | exact HB.out | apply below_alloc | apply pw_below_drewN | apply below_drew1) | exact HB.out)⟩⟩
     ·rw [if_neg c6] at H
      have c6b0 : ((rdOf ByteArray.empty l0 x5_1).toList == t160.toList) = false := beq_eq_false_iff_ne.mpr c6
      have c6b1 : ((rdOf ByteArray.empty l0 x5_1).toList != t160.toList) = true := bne_iff_ne.mpr c6
      obtain rfl := Option.some.inj H
      try go_wp2
      have n0_ := Aside0.mk (below_drew1 HB.out)
      clear HB
      have HB := n0_
      clear n0_
      have p159 : 0 ≤ (x5_1 : Int) := of_decide_eq_true (by first | (with_reducible assumption) | assumption)
      have q159 : x5_1 < (l0.length : Int) := of_decide_eq_true (by first | (with_reducible assumption) | assumption)
      obtain ⟨ad159, e159, hx159_0⟩ := Kd.at_string HR0.out x5_1 p159 q159
      have hw159_0 := hx159_0
      cases e159
      replace hx159_0 := (HB.out.cell (World.block_lt_of_cell? w _ hx159_0)).trans hx159_0
      replace p159 := eq_true p159
      replace q159 := eq_true q159
      refine wp_region_later (by kernel_rfl) (by kernel_rfl) ?_
      have hL0_ := Aside0.mk (show wr.drew.cell? (ad159.add (x5_1).toNat) = some (.string (rdOf ByteArray.empty l0 x5_1)) from (((HB.out.cell (World.block_lt_of_cell? w _ hw159_0)).trans hw159_0)))
      generalize wr.drew = w9 at HB hx159_0 hL0_ ⊢
      clear hx159_0
      have hL0 := fun (p_ : Later w9) => Later.cell p_ hL0_.out
      clear hL0_
      repeat (first | go_big_quiet_step ((first | (go_at_call 112; exact Calls.later_of (laws_markText.calls k1 x1_1 t160 _ A5.out)))) | quiet_step ((first | (go_at_call 112; exact Calls.later_of (laws_markText.calls k1 x1_1 t160 _ A5.out)))))
      refine wpQuiet_nil ?_
      rintro w10 ⟨⟨wq_, hbL⟩, hq_⟩
      have hq2_ : w10 = wq_ := hq_
      clear hq_
      subst hq2_
      clear hL0
      have nHB_ := Aside0.mk (below_step HB.out hbL)
      clear HB
      have HB := nHB_
      clear nHB_
      clear hbL
      try go_wp2
      go_ret
      exact ⟨by first | rfl | (simp [errW_none, errW_some] <;> rfl) | (simp [*, errW_none, errW_some] <;> rfl), by repeat (first | (with_reducible first | exact HB.out | apply below_alloc | apply pw_below_drewN | apply below_drew1) | exact HB.out)⟩
    ·rw [if_neg c4] at H
     exact absurd H (by simp)
   ·rw [if_neg c3] at H
    have c3b0 : decide (x5_1 < (l0.length : Int)) = false := decide_eq_false c3
    clear c3
    obtain rfl := Option.some.inj H
    go_wp2
    go_ret
    exact ⟨by first | rfl | (simp [errW_none, errW_some] <;> rfl) | (simp [*, errW_none, errW_some] <;> rfl), by repeat (first | (with_reducible first | exact HB.out | apply below_alloc | apply pw_below_drewN | apply below_drew1) | exact HB.out)⟩
end Go.Proofs.Ytcpcifgpcemaeaa.X
namespace Go.Proofs.Ytcpcifgpcemaeaa.X
open Go.RowKit Go.Proofs.YtcpcifgpcemaeaaW.PrintWords Go.Proofs.YtcpcifgpcemaeaaW.PrintLast Go.Proofs.YtcpcifgpcemaeaaW.PrintMore
attribute [local go_sem] xbin_geq xbin_leq xbin_gtr max2_int min2_int max_two min_two max_three min_three max_four min_four
set_option linter.unusedVariables false
set_option linter.unusedSimpArgs false
theorem held_StringS_loop (rest : List ByteArray) : ∀ (pre : List ByteArray) (m : Int), 0 ≤ m → m + 1 * (rest.length : Int) ≤ 4611686018427387904 → (pre ++ rest).length ≤ 9223372036854775807 →
    Ev (fun k => laws_heldStringS.l0 k (pre ++ mk_StringS rest m) m ((pre.length : Nat) : Int)) (m + 1 * (rest.length : Int)) := by
  induction rest with
  | nil =>
    intro pre m h0 h1 hl
    refine Ev.succ ?_
    simp only [laws_heldStringS.l0]
    exact Ev.neg (by simp [mk_StringS]) (Ev.is (by simp))
  | cons x rest ih =>
    intro pre m h0 h1 hl
    simp only [mk_StringS, List.length_cons] at h1 ⊢
    have hlt : ((pre.length : Nat) : Int) < ((pre ++ (mt m) :: mk_StringS rest (m + 1)).length : Int) := by simp; omega
    have hwp : wrap64 (((pre.length : Nat) : Int) + 1) = (((pre ++ [(mt m)]).length : Nat) : Int) := by rw [← len_snoc]; exact wrap_at (by simp at hl; omega)
    have hrd : rdOf ByteArray.empty (pre ++ (mt m) :: mk_StringS rest (m + 1)) ((pre.length : Nat) : Int) = (mt m) := by simp [rdOf, List.getD_eq_getElem?_getD]
    have w1 : wrap64 (m + 1) = m + 1 := (wrap_id (by omega) (by omega)).trans (by omega)
    have hi := ih (pre ++ [(mt m)]) (m + 1) (by omega) (by omega) (by simpa using hl)
    have e3 : pre ++ (mt m) :: mk_StringS rest (m + 1) = (pre ++ [(mt m)]) ++ mk_StringS rest (m + 1) := by simp
    rw [← e3] at hi
    refine Ev.succ ?_
    simp only [laws_heldStringS.l0, hrd, hwp, w1]
    refine Ev.pos hlt (Ev.pos (by omega) ?_)
    repeat (first | refine Ev.bind (mt_ev (by omega)) ?_ | refine Ev.pos trivial ?_ | refine Ev.pos rfl ?_ | refine Ev.neg (by simp) ?_)
    exact Ev.same hi (by omega)
theorem held_StringS (l : List ByteArray) (m : Int) (h0 : 0 ≤ m) (h1 : m + 1 * (l.length : Int) ≤ 4611686018427387904) (hl : l.length ≤ 9223372036854775807) : Ev (fun k => laws_heldStringS.f k (mk_StringS l m) m) (m + 1 * (l.length : Int)) := by
  unfold laws_heldStringS.f
  have h := held_StringS_loop l [] m h0 h1 (by simpa using hl)
  simpa using h
end Go.Proofs.Ytcpcifgpcemaeaa.X
