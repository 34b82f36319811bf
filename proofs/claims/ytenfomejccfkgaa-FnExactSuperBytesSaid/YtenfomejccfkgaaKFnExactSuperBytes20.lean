import Derived.Test.YtenfomejccfkgaaKFnExactSuperBytes4
namespace Go.Proofs.Ytenfomejccfkgaa.X
open Go.RowKit Go.Proofs.YtenfomejccfkgaaW.PrintWords Go.Proofs.YtenfomejccfkgaaW.PrintLast Go.Proofs.YtenfomejccfkgaaW.PrintMore
attribute [local go_sem] xbin_geq xbin_leq xbin_gtr max2_int min2_int max_two min_two max_three min_three max_four min_four
set_option linter.unusedVariables false
set_option linter.unusedSimpArgs false
def laws_eqByteS.l0 : Nat → List Int → List Int → Int → Option (Bool)
 | 0, _, _, _ => none
 | k + 1, x0, x1, x5 => if x5 < (x0.length : Int) then (if 0 ≤ x5 then (if x5 < (x1.length : Int) then (if (rd x0 x5) = (rd x1 x5) then (laws_eqByteS.l0 k x0 x1 (wrap64 (x5 + 1))) else (some false)) else (none)) else (none)) else (some true)
def laws_eqByteS.f (k : Nat) (l0 : List Int) (l1 : List Int) : Option (Bool) := if (l0.length : Int) = (l1.length : Int) then (laws_eqByteS.l0 k l0 l1 0) else (some false)
theorem laws_eqByteS.mono_l : ∀ k, (∀ y0 y1 y2, LeO (laws_eqByteS.l0 k y0 y1 y2) (laws_eqByteS.l0 (k + 1) y0 y1 y2))
 | 0 => fun _ _ _ r h => by simp [laws_eqByteS.l0] at h
 | k + 1 => by
  have ih0 := laws_eqByteS.mono_l k
  ·intro y0 y1 y2
   unfold laws_eqByteS.l0
   repeat' first
   | (with_reducible exact ih0 _ _ _)
   | (with_reducible exact LeO.refl _)
   | (with_reducible exact LeO.none _)
   | (with_reducible refine LeO.ite ?_ ?_)
   | (with_reducible refine LeO.bind ?_ (fun _ => ?_))
   | exact ih0 _ _ _
   | exact LeO.none _
   | refine LeO.ite ?_ ?_
   | refine LeO.bind ?_ (fun _ => ?_)
theorem laws_eqByteS.mono : ∀ a0 a1 k, LeO (laws_eqByteS.f k a0 a1) (laws_eqByteS.f (k + 1) a0 a1) := by
 intro a0 a1 k
 have ih0 := laws_eqByteS.mono_l k
 unfold laws_eqByteS.f
 repeat' first
   | (with_reducible exact ih0 _ _ _)
   | (with_reducible exact LeO.refl _)
   | (with_reducible exact LeO.none _)
   | (with_reducible refine LeO.ite ?_ ?_)
   | (with_reducible refine LeO.bind ?_ (fun _ => ?_))
   | exact ih0 _ _ _
   | exact LeO.none _
   | refine LeO.ite ?_ ?_
   | refine LeO.bind ?_ (fun _ => ?_)
set_option maxHeartbeats 8000000 in
set_option maxRecDepth 100000 in
theorem laws_eqByteS.calls (k : Nat) (A0 : Option Addr) (c0 : Nat) (l0 : List Int) (A1 : Option Addr) (c1 : Nat) (l1 : List Int) (r : Bool) (w : World) (hr0 : Kd.C (Kd.int .u8) w A0 l0.length l0) (hc0 : l0.length ≤ c0) (hr1 : Kd.C (Kd.int .u8) w A1 l1.length l1) (hc1 : l1.length ≤ c1) (h : laws_eqByteS.f k l0 l1 = some r) :
  Calls Try.prog 35 #[.slice A0 l0.length c0, .slice A1 l1.length c1] w fun e w' => e = .returned (.bool r) ∧ Drawn0 w w' := by
 have HR0 := Aside0.mk hr0
 have HC0 := Aside0.mk hc0
 clear hr0 hc0
 have HR1 := Aside0.mk hr1
 have HC1 := Aside0.mk hc1
 clear hr1 hc1
 have H : (if (l0.length : Int) = (l1.length : Int) then (laws_eqByteS.l0 k l0 l1 0) else (some false)) = some r := h
 clear h
 by_cases c3 : (l0.length : Int) = (l1.length : Int)
 ·rw [if_pos c3] at H
  have c3b0 : ((l0.length : Int) == (l1.length : Int)) = true := beq_iff_eq.mpr c3
  have c3b1 : ((l0.length : Int) != (l1.length : Int)) = false := bne_eq_false_iff_eq.mpr c3
  have c3b2 : (l0.length == l1.length) = true := by first | simpa using c3 | (simp at c3 ⊢; omega)
  clear c3
  have H' := Aside0.mk H
  clear H
  go_enter Try.func35, Try.ntmps35
  go_wp2
  repeat (go_quiet (fail); try go_wp2)
  go_loopg [5] k (fun kq v5 w' => ∃ (x5_1 : Int), v5 = .int .i64 x5_1 ∧ Aside0 (laws_eqByteS.l0 kq l0 l1 x5_1 = some r) ∧ Aside0 (kq ≤ k) ∧ Drawn0 w w')
  case atStart => exact ⟨(0), (by first | rfl | (simp; done) | (simp [*]; done)), H', ⟨Nat.le_refl _⟩, by repeat (first | exact Drawn0.refl _ | apply Drawn0.step)⟩
  case round =>
   clear H'
   try clear c1
   try clear p2
   try clear c3
   try clear c3b0
   try clear c3b1
   try clear c3b2
   obtain ⟨x5_1, rfl, HA, HK1, ⟨m1, rfl⟩⟩ := hrel
   cases gk with
   | zero => exact absurd HA.out (by simp [laws_eqByteS.l0])
   | succ k1 =>
    have H := HA.out
    clear HA
    simp only [laws_eqByteS.l0] at H
    by_cases c4 : x5_1 < (l0.length : Int)
    ·rw [if_pos c4] at H
     have c4b0 : decide (x5_1 < (l0.length : Int)) = true := decide_eq_true c4
     clear c4
     by_cases c5 : 0 ≤ x5_1
     ·rw [if_pos c5] at H
      have c5b0 : decide (0 ≤ x5_1) = true := decide_eq_true c5
      clear c5
      by_cases c6 : x5_1 < (l1.length : Int)
      ·rw [if_pos c6] at H
       have c6b0 : decide (x5_1 < (l1.length : Int)) = true := decide_eq_true c6
       clear c6
       by_cases c7 : (rd l0 x5_1) = (rd l1 x5_1)
       ·rw [if_pos c7] at H
        have c7b0 : ((rd l0 x5_1) == (rd l1 x5_1)) = true := beq_iff_eq.mpr c7
        have c7b1 : ((rd l0 x5_1) != (rd l1 x5_1)) = false := bne_eq_false_iff_eq.mpr c7
        clear c7
        have H' := Aside0.mk H
        clear H
        have p369 : 0 ≤ (x5_1 : Int) := of_decide_eq_true (by first | (with_reducible assumption) | assumption)
        have q369 : x5_1 < (l0.length : Int) := of_decide_eq_true (by first | (with_reducible assumption) | assumption)
        obtain ⟨ad369, e369, hx369_0⟩ := Kd.at_int HR0.out x5_1 p369 q369
        cases e369
        replace p369 := eq_true p369
        replace q369 := eq_true q369
        have p370 : 0 ≤ (x5_1 : Int) := of_decide_eq_true (by first | (with_reducible assumption) | assumption)
        have q370 : x5_1 < (l1.length : Int) := of_decide_eq_true (by first | (with_reducible assumption) | assumption)
        obtain ⟨ad370, e370, hx370_0⟩ := Kd.at_int HR1.out x5_1 p370 q370
        cases e370
        replace p370 := eq_true p370
        replace q370 := eq_true q370
        go_wp2
        repeat (go_quiet (fail); try go_wp2)
        go_roundg k1
        case measure => have := HK1.out; omega
        case rel => exact ⟨(wrap64 (x5_1 + 1)), (by first | rfl | (simp; done) | (simp [*]; done)), H', ⟨by have := HK1.out; omega⟩, by repeat (first | exact Drawn0.refl _ | apply Drawn0.step)⟩
       ·rw [if_neg c7] at H
        have c7b0 : ((rd l0 x5_1) == (rd l1 x5_1)) = false := beq_eq_false_iff_ne.mpr c7
        have c7b1 : ((rd l0 x5_1) != (rd l1 x5_1)) = true := bne_iff_ne.mpr c7
        obtain rfl := Option.some.inj H
        have p369 : 0 ≤ (x5_1 : Int) := of_decide_eq_true (by first | (with_reducible assumption) | assumption)
        have q369 : x5_1 < (l0.length : Int) := of_decide_eq_true (by first | (with_reducible assumption) | assumption)
        obtain ⟨ad369, e369, hx369_0⟩ := Kd.at_int HR0.out x5_1 p369 q369
        cases e369
        replace p369 := eq_true p369
        replace q369 := eq_true q369
        have p370 : 0 ≤ (x5_1 : Int) := of_decide_eq_true (by first | (with_reducible assumption) | assumption)
        have q370 : x5_1 < (l1.length : Int) := of_decide_eq_true (by first | (with_reducible assumption) | assumption)
        obtain ⟨ad370, e370, hx370_0⟩ := Kd.at_int HR1.out x5_1 p370 q370
        cases e370
        replace p370 := eq_true p370
        replace q370 := eq_true q370
        go_wp2
        repeat (go_quiet (fail); try go_wp2)
        go_ret
        exact ⟨by first | rfl | (simp; done) | (simp [*]; done), by repeat (first | exact Drawn0.refl _ | apply Drawn0.step)⟩
      ·rw [if_neg c6] at H
       exact absurd H (by simp)
     ·rw [if_neg c5] at H
      exact absurd H (by simp)
    ·rw [if_neg c4] at H
     have c4b0 : decide (x5_1 < (l0.length : Int)) = false := decide_eq_false c4
     clear c4
     obtain rfl := Option.some.inj H
     go_wp2
     repeat (go_quiet (fail); try go_wp2)
     go_ret
     exact ⟨by first | rfl | (simp; done) | (simp [*]; done), by repeat (first | exact Drawn0.refl _ | apply Drawn0.step)⟩
 ·rw [if_neg c3] at H
  have c3b0 : ((l0.length : Int) == (l1.length : Int)) = false := beq_eq_false_iff_ne.mpr c3
  have c3b1 : ((l0.length : Int) != (l1.length : Int)) = true := bne_iff_ne.mpr c3
  have c3b2 : (l0.length == l1.length) = false := by first | simpa using c3 | (simp at c3 ⊢; omega)
  obtain rfl := Option.some.inj H
  go_enter Try.func35, Try.ntmps35
  go_wp2
  repeat (go_quiet (fail); try go_wp2)
  go_ret
  exact ⟨by first | rfl | (simp; done) | (simp [*]; done), by repeat (first | exact Drawn0.refl _ | apply Drawn0.step)⟩
end Go.Proofs.Ytenfomejccfkgaa.X
namespace Go.Proofs.Ytenfomejccfkgaa.X
open Go.RowKit Go.Proofs.YtenfomejccfkgaaW.PrintWords Go.Proofs.YtenfomejccfkgaaW.PrintLast Go.Proofs.YtenfomejccfkgaaW.PrintMore
attribute [local go_sem] xbin_geq xbin_leq xbin_gtr max2_int min2_int max_two min_two max_three min_three max_four min_four
set_option linter.unusedVariables false
set_option linter.unusedSimpArgs false
theorem eq_ByteS_loop (rest : List Int) : ∀ (pre : List Int), (pre ++ rest).length ≤ 9223372036854775807 → (True) → Ev (fun k => laws_eqByteS.l0 k (pre ++ rest) (pre ++ rest) ((pre.length : Nat) : Int)) true := by
  induction rest with
  | nil =>
    intro pre hl hs
    refine Ev.succ ?_
    simp only [laws_eqByteS.l0]
    exact Ev.neg (by simp) (Ev.is rfl)
  | cons x rest ih =>
    intro pre hl hs
    have hx : rd (pre ++ x :: rest) ((pre.length : Nat) : Int) = x := by simp [rd, List.getD_eq_getElem?_getD]
    have hlt : ((pre.length : Nat) : Int) < ((pre ++ x :: rest).length : Int) := by simp; omega
    have hwp : wrap64 (((pre.length : Nat) : Int) + 1) = (((pre ++ [x]).length : Nat) : Int) := by rw [← len_snoc]; exact wrap_at (by simp at hl; omega)
    have e1 : pre ++ x :: rest = (pre ++ [x]) ++ rest := by simp
    have hi := ih (pre ++ [x]) (by rw [← e1]; exact hl) trivial
    rw [← e1] at hi
    refine Ev.succ ?_
    simp only [laws_eqByteS.l0, hx, hwp]
    exact Ev.pos hlt (Ev.pos (by omega) (Ev.pos hlt (Ev.pos (by first | trivial | rfl) hi)))
theorem eq_ByteS (l : List Int) (h : l.length ≤ 9223372036854775807) : Ev (fun k => laws_eqByteS.f k l l) true := by
  unfold laws_eqByteS.f
  have hh := eq_ByteS_loop l [] (by simpa using h) trivial
  exact Ev.pos rfl (by simpa using hh)
end Go.Proofs.Ytenfomejccfkgaa.X
namespace Go.Proofs.Ytenfomejccfkgaa.X
open Go.RowKit Go.Proofs.YtenfomejccfkgaaW.PrintWords Go.Proofs.YtenfomejccfkgaaW.PrintLast Go.Proofs.YtenfomejccfkgaaW.PrintMore
attribute [local go_sem] xbin_geq xbin_leq xbin_gtr max2_int min2_int max_two min_two max_three min_three max_four min_four
set_option linter.unusedVariables false
set_option linter.unusedSimpArgs false
def laws_eqSnap.f (a0_0 : ByteArray) (a0_1 : Int) (a0_2 : Int) (a1_0 : ByteArray) (a1_1 : Int) (a1_2 : Int) : Option (Bool) := if a0_0.toList = a1_0.toList then (if a0_1 = a1_1 then (if a0_2 = a1_2 then (some true) else (some false)) else (some false)) else (some false)
set_option maxHeartbeats 8000000 in
set_option maxRecDepth 100000 in
theorem laws_eqSnap.calls (a0_0 : ByteArray) (a0_1 : Int) (a0_2 : Int) (a1_0 : ByteArray) (a1_1 : Int) (a1_2 : Int) (r : Bool) (w : World) (h : laws_eqSnap.f a0_0 a0_1 a0_2 a1_0 a1_1 a1_2 = some r) :
  Calls Try.prog 161 #[.agg #[.string a0_0, .int .i64 a0_1, .int .i64 a0_2], .agg #[.string a1_0, .int .i64 a1_1, .int .i64 a1_2]] w fun e w' => e = .returned (.bool r) ∧ Below w.heap.size w w' := by
 have hu192 := Try.underlying192
 have HB := Aside0.mk (Below.refl w.heap.size w)
 have H : (if a0_0.toList = a1_0.toList then (if a0_1 = a1_1 then (if a0_2 = a1_2 then (some true) else (some false)) else (some false)) else (some false)) = some r := h
 clear h
 by_cases c3 : a0_0.toList = a1_0.toList
 ·rw [if_pos c3] at H
  have c3b0 : (a0_0.toList == a1_0.toList) = true := beq_iff_eq.mpr c3
  have c3b1 : (a0_0.toList != a1_0.toList) = false := bne_eq_false_iff_eq.mpr c3
  clear c3
  by_cases c4 : a0_1 = a1_1
  ·rw [if_pos c4] at H
   have c4b0 : (a0_1 == a1_1) = true := beq_iff_eq.mpr c4
   have c4b1 : (a0_1 != a1_1) = false := bne_eq_false_iff_eq.mpr c4
   clear c4
   by_cases c5 : a0_2 = a1_2
   ·rw [if_pos c5] at H
    have c5b0 : (a0_2 == a1_2) = true := beq_iff_eq.mpr c5
    have c5b1 : (a0_2 != a1_2) = false := bne_eq_false_iff_eq.mpr c5
    clear c5
    obtain rfl := Option.some.inj H
    go_enter Try.func161, Try.ntmps161
    go_wp2_with (first | ((with_reducible refine gate_dst (N := 2) rfl ?_); refine box_event ?hg (N := 2) ?hd (cs := #[.string a0_0, .int .i64 a0_1, .int .i64 a0_2]) (t := 192) ?hr ?_; (case hd => rfl); (case hg => rfl); (case hr => first | (go_simp; done) | (go_simp; rfl)); intro gb947 hg w6 hbox hb; have n0_ := Aside0.mk (below_step (by repeat (first | (with_reducible first | exact HB.out | apply below_alloc | apply pw_below_drewN | apply below_drew1) | exact HB.out)) hb); have n1_ := Aside0.mk (hbox); have n2_ := Aside0.mk ((by rw [hg]; exact (below_size (by repeat (first | (with_reducible first | exact HB.out | apply below_alloc | apply pw_below_drewN | apply below_drew1) | exact HB.out))) : w.heap.size ≤ gb947)); have n3_ := Aside0.mk ((by rw [hg]; exact (below_size (by repeat (first | (with_reducible first | exact HB.out | apply below_alloc | apply pw_below_drewN | apply below_drew1) | exact HB.out))) : w.heap.size ≤ gb947)); clear HB; have HB := n0_; have BK947 := n1_; have GW947 := n2_; have GE947 := n3_; clear n0_ n1_ n2_ n3_; clear hb hbox hg) | ((with_reducible refine gate_dst (N := 3) rfl ?_); refine box_event ?hg (N := 3) ?hd (cs := #[.string a1_0, .int .i64 a1_1, .int .i64 a1_2]) (t := 192) ?hr ?_; (case hd => rfl); (case hg => rfl); (case hr => first | (go_simp; done) | (go_simp; rfl)); intro gb948 hg w7 hbox hb; have n0_ := Aside0.mk (blk_below (g := gb947) (o := .cells #[.string a0_0, .int .i64 a0_1, .int .i64 a0_2] 192 (0, 0)) (by (with_reducible repeat (first | refine blk_drewN ?_ _ | refine blk_drew ?_ | refine blk_alloc ?_ _)); exact BK947.out) hb); have n1_ := Aside0.mk (below_step (by repeat (first | (with_reducible first | exact HB.out | apply below_alloc | apply pw_below_drewN | apply below_drew1 | refine below_set ?_ GE947.out) | exact HB.out)) hb); have n2_ := Aside0.mk (hbox); have n3_ := Aside0.mk ((by rw [hg]; exact (below_size (by repeat (first | (with_reducible first | exact HB.out | apply below_alloc | apply pw_below_drewN | apply below_drew1 | refine below_set ?_ GE947.out) | exact HB.out))) : w.heap.size ≤ gb948)); have n4_ := Aside0.mk ((by rw [hg]; exact (below_size (by repeat (first | (with_reducible first | exact HB.out | apply below_alloc | apply pw_below_drewN | apply below_drew1 | refine below_set ?_ GE947.out) | exact HB.out))) : w.heap.size ≤ gb948)); have n5_ := Aside0.mk ((by rw [hg]; exact Nat.ne_of_lt (blk_lt (g := gb947) (o := .cells #[.string a0_0, .int .i64 a0_1, .int .i64 a0_2] 192 (0, 0)) (by (with_reducible repeat (first | refine blk_drewN ?_ _ | refine blk_drew ?_ | refine blk_alloc ?_ _)); exact BK947.out)) : gb947 ≠ gb948)); have n6_ := Aside0.mk ((by rw [hg]; exact Nat.ne_of_gt (blk_lt (g := gb947) (o := .cells #[.string a0_0, .int .i64 a0_1, .int .i64 a0_2] 192 (0, 0)) (by (with_reducible repeat (first | refine blk_drewN ?_ _ | refine blk_drew ?_ | refine blk_alloc ?_ _)); exact BK947.out)) : gb948 ≠ gb947)); clear BK947; clear HB; have BK947 := n0_; have HB := n1_; have BK948 := n2_; have GW948 := n3_; have GE948 := n4_; have NB947_948 := n5_; have NB948_947 := n6_; clear n0_ n1_ n2_ n3_ n4_ n5_ n6_; clear hb hbox hg; have hnb8 := NB947_948.out; have hnc8 := NB948_947.out; have hcz9_0 : w7.cell? ⟨gb947, 0, none⟩ = some (.string a0_0) := (blk_cell BK947.out 0).trans rfl; have hcz9_1 : w7.cell? ⟨gb947, 1, none⟩ = some (.int .i64 a0_1) := (blk_cell BK947.out 1).trans rfl; have hcz9_2 : w7.cell? ⟨gb947, 2, none⟩ = some (.int .i64 a0_2) := (blk_cell BK947.out 2).trans rfl; have hfz9_0 := blk_frozen BK947.out 0; have hfz9_1 := blk_frozen BK947.out 1; have hfz9_2 := blk_frozen BK947.out 2; have hcz10_0 : w7.cell? ⟨gb948, 0, none⟩ = some (.string a1_0) := (blk_cell BK948.out 0).trans rfl; have hcz10_1 : w7.cell? ⟨gb948, 1, none⟩ = some (.int .i64 a1_1) := (blk_cell BK948.out 1).trans rfl; have hcz10_2 : w7.cell? ⟨gb948, 2, none⟩ = some (.int .i64 a1_2) := (blk_cell BK948.out 2).trans rfl; have hfz10_0 := blk_frozen BK948.out 0; have hfz10_1 := blk_frozen BK948.out 1; have hfz10_2 := blk_frozen BK948.out 2))
    go_ret
    exact ⟨by first | rfl | (simp [errW_none, errW_some] <;> rfl) | (simp [*, errW_none, errW_some] <;> rfl), by repeat (first | (with_reducible first | exact HB.out | apply below_alloc | apply pw_below_drewN | apply below_drew1 | refine below_set ?_ GE947.out | refine below_set ?_ GE948.out) | exact HB.out)⟩
   ·rw [if_neg c5] at H
    have c5b0 : (a0_2 == a1_2) = false := beq_eq_false_iff_ne.mpr c5
    have c5b1 : (a0_2 != a1_2) = true := bne_iff_ne.mpr c5
    obtain rfl := Option.some.inj H
    go_enter Try.func161, Try.ntmps161
    go_wp2_with (first | ((with_reducible refine gate_dst (N := 2) rfl ?_); refine box_event ?hg (N := 2) ?hd (cs := #[.string a0_0, .int .i64 a0_1, .int .i64 a0_2]) (t := 192) ?hr ?_; (case hd => rfl); (case hg => rfl); (case hr => first | (go_simp; done) | (go_simp; rfl)); intro gb947 hg w11 hbox hb; have n0_ := Aside0.mk (below_step (by repeat (first | (with_reducible first | exact HB.out | apply below_alloc | apply pw_below_drewN | apply below_drew1) | exact HB.out)) hb); have n1_ := Aside0.mk (hbox); have n2_ := Aside0.mk ((by rw [hg]; exact (below_size (by repeat (first | (with_reducible first | exact HB.out | apply below_alloc | apply pw_below_drewN | apply below_drew1) | exact HB.out))) : w.heap.size ≤ gb947)); have n3_ := Aside0.mk ((by rw [hg]; exact (below_size (by repeat (first | (with_reducible first | exact HB.out | apply below_alloc | apply pw_below_drewN | apply below_drew1) | exact HB.out))) : w.heap.size ≤ gb947)); clear HB; have HB := n0_; have BK947 := n1_; have GW947 := n2_; have GE947 := n3_; clear n0_ n1_ n2_ n3_; clear hb hbox hg) | ((with_reducible refine gate_dst (N := 3) rfl ?_); refine box_event ?hg (N := 3) ?hd (cs := #[.string a1_0, .int .i64 a1_1, .int .i64 a1_2]) (t := 192) ?hr ?_; (case hd => rfl); (case hg => rfl); (case hr => first | (go_simp; done) | (go_simp; rfl)); intro gb948 hg w12 hbox hb; have n0_ := Aside0.mk (blk_below (g := gb947) (o := .cells #[.string a0_0, .int .i64 a0_1, .int .i64 a0_2] 192 (0, 0)) (by (with_reducible repeat (first | refine blk_drewN ?_ _ | refine blk_drew ?_ | refine blk_alloc ?_ _)); exact BK947.out) hb); have n1_ := Aside0.mk (below_step (by repeat (first | (with_reducible first | exact HB.out | apply below_alloc | apply pw_below_drewN | apply below_drew1 | refine below_set ?_ GE947.out) | exact HB.out)) hb); have n2_ := Aside0.mk (hbox); have n3_ := Aside0.mk ((by rw [hg]; exact (below_size (by repeat (first | (with_reducible first | exact HB.out | apply below_alloc | apply pw_below_drewN | apply below_drew1 | refine below_set ?_ GE947.out) | exact HB.out))) : w.heap.size ≤ gb948)); have n4_ := Aside0.mk ((by rw [hg]; exact (below_size (by repeat (first | (with_reducible first | exact HB.out | apply below_alloc | apply pw_below_drewN | apply below_drew1 | refine below_set ?_ GE947.out) | exact HB.out))) : w.heap.size ≤ gb948)); have n5_ := Aside0.mk ((by rw [hg]; exact Nat.ne_of_lt (blk_lt (g := gb947) (o := .cells #[.string a0_0, .int .i64 a0_1, .int .i64 a0_2] 192 (0, 0)) (by (with_reducible repeat (first | refine blk_drewN ?_ _ | refine blk_drew ?_ | refine blk_alloc ?_ _)); exact BK947.out)) : gb947 ≠ gb948)); have n6_ := Aside0.mk ((by rw [hg]; exact Nat.ne_of_gt (blk_lt (g := gb947) (o := .cells #[.string a0_0, .int .i64 a0_1, .int .i64 a0_2] 192 (0, 0)) (by (with_reducible repeat (first | refine blk_drewN ?_ _ | refine blk_drew ?_ | refine blk_alloc ?_ _)); exact BK947.out)) : gb948 ≠ gb947)); clear BK947; clear HB; have BK947 := n0_; have HB := n1_; have BK948 := n2_; have GW948 := n3_; have GE948 := n4_; have NB947_948 := n5_; have NB948_947 := n6_; clear n0_ n1_ n2_ n3_ n4_ n5_ n6_; clear hb hbox hg; have hnb13 := NB947_948.out; have hnc13 := NB948_947.out; have hcz14_0 : w12.cell? ⟨gb947, 0, none⟩ = some (.string a0_0) := (blk_cell BK947.out 0).trans rfl; have hcz14_1 : w12.cell? ⟨gb947, 1, none⟩ = some (.int .i64 a0_1) := (blk_cell BK947.out 1).trans rfl; have hcz14_2 : w12.cell? ⟨gb947, 2, none⟩ = some (.int .i64 a0_2) := (blk_cell BK947.out 2).trans rfl; have hfz14_0 := blk_frozen BK947.out 0; have hfz14_1 := blk_frozen BK947.out 1; have hfz14_2 := blk_frozen BK947.out 2; have hcz15_0 : w12.cell? ⟨gb948, 0, none⟩ = some (.string a1_0) := (blk_cell BK948.out 0).trans rfl; have hcz15_1 : w12.cell? ⟨gb948, 1, none⟩ = some (.int .i64 a1_1) := (blk_cell BK948.out 1).trans rfl; have hcz15_2 : w12.cell? ⟨gb948, 2, none⟩ = some (.int .i64 a1_2) := (blk_cell BK948.out 2).trans rfl; have hfz15_0 := blk_frozen BK948.out 0; have hfz15_1 := blk_frozen BK948.out 1; have hfz15_2 := blk_frozen BK948.out 2))
    go_ret
    exact ⟨by first | rfl | (simp [errW_none, errW_some] <;> rfl) | (simp [*, errW_none, errW_some] <;> rfl), by repeat (first | (with_reducible first | exact HB.out | apply below_alloc | apply pw_below_drewN | apply below_drew1 | refine below_set ?_ GE947.out | refine below_set ?_ GE948.out) | exact HB.out)⟩
  ·rw [if_neg c4] at H
   have c4b0 : (a0_1 == a1_1) = false := beq_eq_false_iff_ne.mpr c4
   have c4b1 : (a0_1 != a1_1) = true := bne_iff_ne.mpr c4
   obtain rfl := Option.some.inj H
   go_enter Try.func161, Try.ntmps161
   go_wp2_with (first | ((with_reducible refine gate_dst (N := 2) rfl ?_); refine box_event ?hg (N := 2) ?hd (cs := #[.string a0_0, .int .i64 a0_1, .int .i64 a0_2]) (t := 192) ?hr ?_; (case hd => rfl); (case hg => rfl); (case hr => first | (go_simp; done) | (go_simp; rfl)); intro gb947 hg w16 hbox hb; have n0_ := Aside0.mk (below_step (by repeat (first | (with_reducible first | exact HB.out | apply below_alloc | apply pw_below_drewN | apply below_drew1) | exact HB.out)) hb); have n1_ := Aside0.mk (hbox); have n2_ := Aside0.mk ((by rw [hg]; exact (below_size (by repeat (first | (with_reducible first | exact HB.out | apply below_alloc | apply pw_below_drewN | apply below_drew1) | exact HB.out))) : w.heap.size ≤ gb947)); have n3_ := Aside0.mk ((by rw [hg]; exact (below_size (by repeat (first | (with_reducible first | exact HB.out | apply below_alloc | apply pw_below_drewN | apply below_drew1) | exact HB.out))) : w.heap.size ≤ gb947)); clear HB; have HB := n0_; have BK947 := n1_; have GW947 := n2_; have GE947 := n3_; clear n0_ n1_ n2_ n3_; clear hb hbox hg) | ((with_reducible refine gate_dst (N := 3) rfl ?_); refine box_event ?hg (N := 3) ?hd (cs := #[.string a1_0, .int .i64 a1_1, .int .i64 a1_2]) (t := 192) ?hr ?_; (case hd => rfl); (case hg => rfl); (case hr => first | (go_simp; done) | (go_simp; rfl)); intro gb948 hg w17 hbox hb; have n0_ := Aside0.mk (blk_below (g := gb947) (o := .cells #[.string a0_0, .int .i64 a0_1, .int .i64 a0_2] 192 (0, 0)) (by (with_reducible repeat (first | refine blk_drewN ?_ _ | refine blk_drew ?_ | refine blk_alloc ?_ _)); exact BK947.out) hb); have n1_ := Aside0.mk (below_step (by repeat (first | (with_reducible first | exact HB.out | apply below_alloc | apply pw_below_drewN | apply below_drew1 | refine below_set ?_ GE947.out) | exact HB.out)) hb); have n2_ := Aside0.mk (hbox); have n3_ := Aside0.mk ((by rw [hg]; exact (below_size (by repeat (first | (with_reducible first | exact HB.out | apply below_alloc | apply pw_below_drewN | apply below_drew1 | refine below_set ?_ GE947.out) | exact HB.out))) : w.heap.size ≤ gb948)); have n4_ := Aside0.mk ((by rw [hg]; exact (below_size (by repeat (first | (with_reducible first | exact HB.out | apply below_alloc | apply pw_below_drewN | apply below_drew1 | refine below_set ?_ GE947.out) | exact HB.out))) : w.heap.size ≤ gb948)); have n5_ := Aside0.mk ((by rw [hg]; exact Nat.ne_of_lt (blk_lt (g := gb947) (o := .cells #[.string a0_0, .int .i64 a0_1, .int .i64 a0_2] 192 (0, 0)) (by (with_reducible repeat (first | refine blk_drewN ?_ _ | refine blk_drew ?_ | refine blk_alloc ?_ _)); exact BK947.out)) : gb947 ≠ gb948)); have n6_ := Aside0.mk ((by rw [hg]; exact Nat.ne_of_gt (blk_lt (g := gb947) (o := .cells #[.string a0_0, .int .i64 a0_1, .int .i64 a0_2] 192 (0, 0)) (by (with_reducible repeat (first | refine blk_drewN ?_ _ | refine blk_drew ?_ | refine blk_alloc ?_ _)); exact BK947.out)) : gb948 ≠ gb947)); clear BK947; clear HB; have BK947 := n0_; have HB := n1_; have BK948 := n2_; have GW948 := n3_; have GE948 := n4_; have NB947_948 := n5_; have NB948_947 := n6_; clear n0_ n1_ n2_ n3_ n4_ n5_ n6_; clear hb hbox hg; have hnb18 := NB947_948.out; have hnc18 := NB948_947.out; have hcz19_0 : w17.cell? ⟨gb947, 0, none⟩ = some (.string a0_0) := (blk_cell BK947.out 0).trans rfl; have hcz19_1 : w17.cell? ⟨gb947, 1, none⟩ = some (.int .i64 a0_1) := (blk_cell BK947.out 1).trans rfl; have hcz19_2 : w17.cell? ⟨gb947, 2, none⟩ = some (.int .i64 a0_2) := (blk_cell BK947.out 2).trans rfl; have hfz19_0 := blk_frozen BK947.out 0; have hfz19_1 := blk_frozen BK947.out 1; have hfz19_2 := blk_frozen BK947.out 2; have hcz20_0 : w17.cell? ⟨gb948, 0, none⟩ = some (.string a1_0) := (blk_cell BK948.out 0).trans rfl; have hcz20_1 : w17.cell? ⟨gb948, 1, none⟩ = some (.int .i64 a1_1) := (blk_cell BK948.out 1).trans rfl; have hcz20_2 : w17.cell? ⟨gb948, 2, none⟩ = some (.int .i64 a1_2) := (blk_cell BK948.out 2).trans rfl; have hfz20_0 := blk_frozen BK948.out 0; have hfz20_1 := blk_frozen BK948.out 1; have hfz20_2 := blk_frozen BK948.out 2))
   go_ret
   exact ⟨by first | rfl | (simp [errW_none, errW_some] <;> rfl) | (simp [*, errW_none, errW_some] <;> rfl), by repeat (first | (with_reducible first | exact HB.out | apply below_alloc | apply pw_below_drewN | apply below_drew1 | refine below_set ?_ GE947.out | refine below_set ?_ GE948.out) | exact HB.out)⟩
 ·rw [if_neg c3] at H
  have c3b0 : (a0_0.toList == a1_0.toList) = false := beq_eq_false_iff_ne.mpr c3
  have c3b1 : (a0_0.toList != a1_0.toList) = true := bne_iff_ne.mpr c3
  obtain rfl := Option.some.inj H
  go_enter Try.func161, Try.ntmps161
  go_wp2_with (first | ((with_reducible refine gate_dst (N := 2) rfl ?_); refine box_event ?hg (N := 2) ?hd (cs := #[.string a0_0, .int .i64 a0_1, .int .i64 a0_2]) (t := 192) ?hr ?_; (case hd => rfl); (case hg => rfl); (case hr => first | (go_simp; done) | (go_simp; rfl)); intro gb947 hg w21 hbox hb; have n0_ := Aside0.mk (below_step (by repeat (first | (with_reducible first | exact HB.out | apply below_alloc | apply pw_below_drewN | apply below_drew1) | exact HB.out)) hb); have n1_ := Aside0.mk (hbox); have n2_ := Aside0.mk ((by rw [hg]; exact (below_size (by repeat (first | (with_reducible first | exact HB.out | apply below_alloc | apply pw_below_drewN | apply below_drew1) | exact HB.out))) : w.heap.size ≤ gb947)); have n3_ := Aside0.mk ((by rw [hg]; exact (below_size (by repeat (first | (with_reducible first | exact HB.out | apply below_alloc | apply pw_below_drewN | apply below_drew1) | exact HB.out))) : w.heap.size ≤ gb947)); clear HB; have HB := n0_; have BK947 := n1_; have GW947 := n2_; have GE947 := n3_; clear n0_ n1_ n2_ n3_; clear hb hbox hg) | ((with_reducible refine gate_dst (N := 3) rfl ?_); refine box_event ?hg (N := 3) ?hd (cs := #[.string a1_0, .int .i64 a1_1, .int .i64 a1_2]) (t := 192) ?hr ?_; (case hd => rfl); (case hg => rfl); (case hr => first | (go_simp; done) | (go_simp; rfl)); intro gb948 hg w22 hbox hb; have n0_ := Aside0.mk (blk_below (g := gb947) (o := .cells #[.string a0_0, .int .i64 a0_1, .int .i64 a0_2] 192 (0, 0)) (by (with_reducible repeat (first | refine blk_drewN ?_ _ | refine blk_drew ?_ | refine blk_alloc ?_ _)); exact BK947.out) hb); have n1_ := Aside0.mk (below_step (by repeat (first | (with_reducible first | exact HB.out | apply below_alloc | apply pw_below_drewN | apply below_drew1 | refine below_set ?_ GE947.out) | exact HB.out)) hb); have n2_ := Aside0.mk (hbox); have n3_ := Aside0.mk ((by rw [hg]; exact (below_size (by repeat (first | (with_reducible first | exact HB.out | apply below_alloc | apply pw_below_drewN | apply below_drew1 | refine below_set ?_ GE947.out) | exact HB.out))) : w.heap.size ≤ gb948)); have n4_ := Aside0.mk ((by rw [hg]; exact (below_size (by repeat (first | (with_reducible first | exact HB.out | apply below_alloc | apply pw_below_drewN | apply below_drew1 | refine below_set ?_ GE947.out) | exact HB.out))) : w.heap.size ≤ gb948)); have n5_ := Aside0.mk ((by rw [hg]; exact Nat.ne_of_lt (blk_lt (g := gb947) (o := .cells #[.string a0_0, .int .i64 a0_1, .int .i64 a0_2] 192 (0, 0)) (by (with_reducible repeat (first | refine blk_drewN ?_ _ | refine blk_drew ?_ | refine blk_alloc ?_ _)); exact BK947.out)) : gb947 ≠ gb948)); have n6_ := Aside0.mk ((by rw [hg]; exact Nat.ne_of_gt (blk_lt (g := gb947) (o := .cells #[.string a0_0, .int .i64 a0_1, .int .i64 a0_2] 192 (0, 0)) (by (with_reducible repeat (first | refine blk_drewN ?_ _ | refine blk_drew ?_ | refine blk_alloc ?_ _)); exact BK947.out)) : gb948 ≠ gb947)); clear BK947; clear HB; have BK947 := n0_; have HB := n1_; have BK948 := n2_; have GW948 := n3_; have GE948 := n4_; have NB947_948 := n5_; have NB948_947 := n6_; clear n0_ n1_ n2_ n3_ n4_ n5_ n6_; clear hb hbox hg; have hnb23 := NB947_948.out; have hnc23 := NB948_947.out; have hcz24_0 : w22.cell? ⟨gb947, 0, none⟩ = some (.string a0_0) := (blk_cell BK947.out 0).trans rfl; have hcz24_1 : w22.cell? ⟨gb947, 1, none⟩ = some (.int .i64 a0_1) := (blk_cell BK947.out 1).trans rfl; have hcz24_2 : w22.cell? ⟨gb947, 2, none⟩ = some (.int .i64 a0_2) := (blk_cell BK947.out 2).trans rfl; have hfz24_0 := blk_frozen BK947.out 0; have hfz24_1 := blk_frozen BK947.out 1; have hfz24_2 := blk_frozen BK947.out 2; have hcz25_0 : w22.cell? ⟨gb948, 0, none⟩ = some (.string a1_0) := (blk_cell BK948.out 0).trans rfl; have hcz25_1 : w22.cell? ⟨gb948, 1, none⟩ = some (.int .i64 a1_1) := (blk_cell BK948.out 1).trans rfl; have hcz25_2 : w22.cell? ⟨gb948, 2, none⟩ = some (.int .i64 a1_2) := (blk_cell BK948.out 2).trans rfl; have hfz25_0 := blk_frozen BK948.out 0; have hfz25_1 := blk_frozen BK948.out 1; have hfz25_2 := blk_frozen BK948.out 2))
  go_ret
  exact ⟨by first | rfl | (simp [errW_none, errW_some] <;> rfl) | (simp [*, errW_none, errW_some] <;> rfl), by repeat (first | (with_reducible first | exact HB.out | apply below_alloc | apply pw_below_drewN | apply below_drew1 | refine below_set ?_ GE947.out | refine below_set ?_ GE948.out) | exact HB.out)⟩
end Go.Proofs.Ytenfomejccfkgaa.X
