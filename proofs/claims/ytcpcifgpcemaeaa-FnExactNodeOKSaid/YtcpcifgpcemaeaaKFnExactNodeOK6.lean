import Derived.Test.YtcpcifgpcemaeaaKFnExactNodeOK0
import Derived.Test.YtcpcifgpcemaeaaKFnExactNodeOK5
-- Written by a program of this session (xp.py) out of the translation's print. Not trusted: Lean checks it.
namespace Go.Proofs.Ytcpcifgpcemaeaa.X
open Go.RowKit Go.Proofs.YtcpcifgpcemaeaaW.PrintWords Go.Proofs.YtcpcifgpcemaeaaW.PrintLast Go.Proofs.YtcpcifgpcemaeaaW.PrintMore
attribute [local go_sem] xbin_geq xbin_leq xbin_gtr max2_int min2_int max_two min_two max_three min_three max_four min_four   -- for this text's walks alone
set_option linter.unusedVariables false
set_option linter.unusedSimpArgs false

/-! ### laws_szNode: function 49 -/
def laws_szNode.f (k : Nat) (a0_0 : Bool) (l0_1 : List (S148)) (l0_2 : List ByteArray) (l0_3 : List Int) (a1 : Int) : Option (Int) := (laws_szPairS.f k l0_1 a1).bind fun t925 => (if t925 < 0 then (some (-1)) else ((laws_szStringS.f k l0_2 t925).bind fun t926 => (if t926 < 0 then (some (-1)) else ((laws_szIntS.f l0_3 t926).bind fun t927 => (if t927 < 0 then (some (-1)) else (some t927))))))
theorem laws_szNode.mono : ∀ a0 a1 a2 a3 a4 k, LeO (laws_szNode.f k a0 a1 a2 a3 a4) (laws_szNode.f (k + 1) a0 a1 a2 a3 a4) := by
  intro a0 a1 a2 a3 a4 k
  unfold laws_szNode.f
  repeat' first
      | (with_reducible exact laws_szPairS.mono _ _ _)
      | (with_reducible exact laws_szStringS.mono _ _ _)
      | (with_reducible exact LeO.refl _)
      | (with_reducible exact LeO.none _)
      | (with_reducible refine LeO.ite ?_ ?_)
      | (with_reducible refine LeO.bind ?_ (fun _ => ?_))
      | exact laws_szPairS.mono _ _ _
      | exact laws_szStringS.mono _ _ _
      | exact LeO.none _
      | refine LeO.ite ?_ ?_
      | refine LeO.bind ?_ (fun _ => ?_)
set_option maxHeartbeats 8000000 in
set_option maxRecDepth 100000 in
theorem laws_szNode.calls (k : Nat) (a0_0 : Bool) (A0_1 : Option Addr) (c0_1 : Nat) (l0_1 : List (S148)) (A0_2 : Option Addr) (c0_2 : Nat) (l0_2 : List ByteArray) (A0_3 : Option Addr) (c0_3 : Nat) (l0_3 : List Int) (a1 : Int) (r : Int) (w : World) (hr0_1 : Kd.C k148 w A0_1 l0_1.length l0_1) (hc0_1 : l0_1.length ≤ c0_1) (hr0_2 : Kd.C Kd.string w A0_2 l0_2.length l0_2) (hc0_2 : l0_2.length ≤ c0_2) (hr0_3 : Kd.C (Kd.int .i64) w A0_3 l0_3.length l0_3) (hc0_3 : l0_3.length ≤ c0_3) (h : laws_szNode.f k a0_0 l0_1 l0_2 l0_3 a1 = some r) :
    Calls Try.prog 49 #[.agg #[.bool a0_0, .slice A0_1 l0_1.length c0_1, .slice A0_2 l0_2.length c0_2, .slice A0_3 l0_3.length c0_3], .int .i64 a1] w fun e w' => e = .returned (.int .i64 r) ∧ Below w.heap.size w w' := by
  have hu67 := Try.underlying67
  have HR0_1 := Aside0.mk hr0_1
  have HC0_1 := Aside0.mk hc0_1
  clear hr0_1 hc0_1
  have HR0_2 := Aside0.mk hr0_2
  have HC0_2 := Aside0.mk hc0_2
  clear hr0_2 hc0_2
  have HR0_3 := Aside0.mk hr0_3
  have HC0_3 := Aside0.mk hc0_3
  clear hr0_3 hc0_3
  have HB := Aside0.mk (Below.refl w.heap.size w)
  have H : ((laws_szPairS.f k l0_1 a1).bind fun t925 => (if t925 < 0 then (some (-1)) else ((laws_szStringS.f k l0_2 t925).bind fun t926 => (if t926 < 0 then (some (-1)) else ((laws_szIntS.f l0_3 t926).bind fun t927 => (if t927 < 0 then (some (-1)) else (some t927))))))) = some r := h
  clear h
  replace H := Option.bind_eq_some_iff.mp H
  obtain ⟨t925, A30, H⟩ := H
  replace H : (if t925 < 0 then (some (-1)) else ((laws_szStringS.f k l0_2 t925).bind fun t926 => (if t926 < 0 then (some (-1)) else ((laws_szIntS.f l0_3 t926).bind fun t927 => (if t927 < 0 then (some (-1)) else (some t927)))))) = some r := H
  have A3 := Aside0.mk A30
  clear A30
  by_cases c4 : t925 < 0
  · rw [if_pos c4] at H
    have c4b0 : decide (t925 < 0) = true := decide_eq_true c4
    clear c4
    obtain rfl := Option.some.inj H
    go_enter Try.func49, Try.ntmps49
    go_wp2_with (first | ((with_reducible refine gate_dst (N := 2) rfl ?_); refine box_event ?hg (N := 2) ?hd (cs := #[.bool a0_0, .slice A0_1 l0_1.length c0_1, .slice A0_2 l0_2.length c0_2, .slice A0_3 l0_3.length c0_3]) (t := 67) ?hr ?_; (case hd => rfl); (case hg => rfl); (case hr => first | (go_simp; done) | (go_simp; rfl)); intro gb924 hg w5 hbox hb; have n0_ := Aside0.mk (below_step (by repeat (first | (with_reducible first | exact HB.out | apply below_alloc | apply pw_below_drewN | apply below_drew1) | exact HB.out)) hb); have n1_ := Aside0.mk (hbox); have n2_ := Aside0.mk ((by rw [hg]; exact (below_size (by repeat (first | (with_reducible first | exact HB.out | apply below_alloc | apply pw_below_drewN | apply below_drew1) | exact HB.out))) : w.heap.size ≤ gb924)); have n3_ := Aside0.mk ((by rw [hg]; exact (below_size (by repeat (first | (with_reducible first | exact HB.out | apply below_alloc | apply pw_below_drewN | apply below_drew1) | exact HB.out))) : w.heap.size ≤ gb924)); clear HB; have HB := n0_; have BK924 := n1_; have GW924 := n2_; have GE924 := n3_; clear n0_ n1_ n2_ n3_; clear hb hbox hg; have hcz6_0 : w5.cell? ⟨gb924, 0, none⟩ = some (.bool a0_0) := (blk_cell BK924.out 0).trans rfl; have hcz6_1 : w5.cell? ⟨gb924, 1, none⟩ = some (.slice A0_1 l0_1.length c0_1) := (blk_cell BK924.out 1).trans rfl; have hcz6_2 : w5.cell? ⟨gb924, 2, none⟩ = some (.slice A0_2 l0_2.length c0_2) := (blk_cell BK924.out 2).trans rfl; have hcz6_3 : w5.cell? ⟨gb924, 3, none⟩ = some (.slice A0_3 l0_3.length c0_3) := (blk_cell BK924.out 3).trans rfl; have hfz6_0 := blk_frozen BK924.out 0; have hfz6_1 := blk_frozen BK924.out 1; have hfz6_2 := blk_frozen BK924.out 2; have hfz6_3 := blk_frozen BK924.out 3) | ((with_reducible refine gate_callee (f := 97) rfl ?_); refine goesL_ (some 8) rfl rfl Try.func97 (by kernel_rfl) rfl #[.slice A0_1 l0_1.length c0_1, .int .i64 a1] rfl (by (try simp only [List.map_toArray, List.map_cons, List.map_nil]); first | done | rfl | (simp only [List.length_drop, List.length_take]; rfl)) ?_; (with_reducible refine (laws_szPairS.calls k _ _ l0_1 a1 t925 _ ?side1 ?side2 A3.out).mono ?_); (case side1 => repeat (first | exact (Kd.C_below HR0_1.out HB.out) | (with_reducible refine Kd.C_alloc ?_ _) | (with_reducible refine Kd.C_drewN ?_ _) | (with_reducible refine Kd.C_drew ?_))); (case side2 => exact HC0_1.out); rintro e w7 ⟨rfl, hb⟩; refine ⟨_, rfl, ?_⟩; have n0_ := Aside0.mk (blk_below (g := gb924) (o := .cells #[.bool a0_0, .slice A0_1 l0_1.length c0_1, .slice A0_2 l0_2.length c0_2, .slice A0_3 l0_3.length c0_3] 67 (0, 0)) (by (with_reducible repeat (first | refine blk_drewN ?_ _ | refine blk_drew ?_ | refine blk_alloc ?_ _)); exact BK924.out) hb); have n1_ := Aside0.mk (below_step (by repeat (first | (with_reducible first | exact HB.out | apply below_alloc | apply pw_below_drewN | apply below_drew1 | refine below_set ?_ GE924.out) | exact HB.out)) hb); clear BK924; clear HB; have BK924 := n0_; have HB := n1_; clear n0_ n1_; (try clear hb); (try clear hb2); (try clear hk); (try clear hi)))
    go_ret
    exact ⟨by first | rfl | (simp [errW_none, errW_some] <;> rfl) | (simp [*, errW_none, errW_some] <;> rfl), by repeat (first | (with_reducible first | exact HB.out | apply below_alloc | apply pw_below_drewN | apply below_drew1 | refine below_set ?_ GE924.out) | exact HB.out)⟩
  · rw [if_neg c4] at H
    have c4b0 : decide (t925 < 0) = false := decide_eq_false c4
    clear c4
    replace H := Option.bind_eq_some_iff.mp H
    obtain ⟨t926, A80, H⟩ := H
    replace H : (if t926 < 0 then (some (-1)) else ((laws_szIntS.f l0_3 t926).bind fun t927 => (if t927 < 0 then (some (-1)) else (some t927)))) = some r := H
    have A8 := Aside0.mk A80
    clear A80
    by_cases c9 : t926 < 0
    · rw [if_pos c9] at H
      have c9b0 : decide (t926 < 0) = true := decide_eq_true c9
      clear c9
      obtain rfl := Option.some.inj H
      go_enter Try.func49, Try.ntmps49
      go_wp2_with (first | ((with_reducible refine gate_dst (N := 2) rfl ?_); refine box_event ?hg (N := 2) ?hd (cs := #[.bool a0_0, .slice A0_1 l0_1.length c0_1, .slice A0_2 l0_2.length c0_2, .slice A0_3 l0_3.length c0_3]) (t := 67) ?hr ?_; (case hd => rfl); (case hg => rfl); (case hr => first | (go_simp; done) | (go_simp; rfl)); intro gb924 hg w10 hbox hb; have n0_ := Aside0.mk (below_step (by repeat (first | (with_reducible first | exact HB.out | apply below_alloc | apply pw_below_drewN | apply below_drew1) | exact HB.out)) hb); have n1_ := Aside0.mk (hbox); have n2_ := Aside0.mk ((by rw [hg]; exact (below_size (by repeat (first | (with_reducible first | exact HB.out | apply below_alloc | apply pw_below_drewN | apply below_drew1) | exact HB.out))) : w.heap.size ≤ gb924)); have n3_ := Aside0.mk ((by rw [hg]; exact (below_size (by repeat (first | (with_reducible first | exact HB.out | apply below_alloc | apply pw_below_drewN | apply below_drew1) | exact HB.out))) : w.heap.size ≤ gb924)); clear HB; have HB := n0_; have BK924 := n1_; have GW924 := n2_; have GE924 := n3_; clear n0_ n1_ n2_ n3_; clear hb hbox hg; have hcz11_0 : w10.cell? ⟨gb924, 0, none⟩ = some (.bool a0_0) := (blk_cell BK924.out 0).trans rfl; have hcz11_1 : w10.cell? ⟨gb924, 1, none⟩ = some (.slice A0_1 l0_1.length c0_1) := (blk_cell BK924.out 1).trans rfl; have hcz11_2 : w10.cell? ⟨gb924, 2, none⟩ = some (.slice A0_2 l0_2.length c0_2) := (blk_cell BK924.out 2).trans rfl; have hcz11_3 : w10.cell? ⟨gb924, 3, none⟩ = some (.slice A0_3 l0_3.length c0_3) := (blk_cell BK924.out 3).trans rfl; have hfz11_0 := blk_frozen BK924.out 0; have hfz11_1 := blk_frozen BK924.out 1; have hfz11_2 := blk_frozen BK924.out 2; have hfz11_3 := blk_frozen BK924.out 3) | ((with_reducible refine gate_callee (f := 97) rfl ?_); refine goesL_ (some 8) rfl rfl Try.func97 (by kernel_rfl) rfl #[.slice A0_1 l0_1.length c0_1, .int .i64 a1] rfl (by (try simp only [List.map_toArray, List.map_cons, List.map_nil]); first | done | rfl | (simp only [List.length_drop, List.length_take]; rfl)) ?_; (with_reducible refine (laws_szPairS.calls k _ _ l0_1 a1 t925 _ ?side1 ?side2 A3.out).mono ?_); (case side1 => repeat (first | exact (Kd.C_below HR0_1.out HB.out) | (with_reducible refine Kd.C_alloc ?_ _) | (with_reducible refine Kd.C_drewN ?_ _) | (with_reducible refine Kd.C_drew ?_))); (case side2 => exact HC0_1.out); rintro e w12 ⟨rfl, hb⟩; refine ⟨_, rfl, ?_⟩; have n0_ := Aside0.mk (blk_below (g := gb924) (o := .cells #[.bool a0_0, .slice A0_1 l0_1.length c0_1, .slice A0_2 l0_2.length c0_2, .slice A0_3 l0_3.length c0_3] 67 (0, 0)) (by (with_reducible repeat (first | refine blk_drewN ?_ _ | refine blk_drew ?_ | refine blk_alloc ?_ _)); exact BK924.out) hb); have n1_ := Aside0.mk (below_step (by repeat (first | (with_reducible first | exact HB.out | apply below_alloc | apply pw_below_drewN | apply below_drew1 | refine below_set ?_ GE924.out) | exact HB.out)) hb); clear BK924; clear HB; have BK924 := n0_; have HB := n1_; clear n0_ n1_; (try clear hb); (try clear hb2); (try clear hk); (try clear hi); have hcz13_0 : w12.cell? ⟨gb924, 0, none⟩ = some (.bool a0_0) := (blk_cell BK924.out 0).trans rfl; have hcz13_1 : w12.cell? ⟨gb924, 1, none⟩ = some (.slice A0_1 l0_1.length c0_1) := (blk_cell BK924.out 1).trans rfl; have hcz13_2 : w12.cell? ⟨gb924, 2, none⟩ = some (.slice A0_2 l0_2.length c0_2) := (blk_cell BK924.out 2).trans rfl; have hcz13_3 : w12.cell? ⟨gb924, 3, none⟩ = some (.slice A0_3 l0_3.length c0_3) := (blk_cell BK924.out 3).trans rfl; have hfz13_0 := blk_frozen BK924.out 0; have hfz13_1 := blk_frozen BK924.out 1; have hfz13_2 := blk_frozen BK924.out 2; have hfz13_3 := blk_frozen BK924.out 3) | ((with_reducible refine gate_callee (f := 68) rfl ?_); refine goesL_ (some 14) rfl rfl Try.func68 (by kernel_rfl) rfl #[.slice A0_2 l0_2.length c0_2, .int .i64 t925] rfl (by (try simp only [List.map_toArray, List.map_cons, List.map_nil]); first | done | rfl | (simp only [List.length_drop, List.length_take]; rfl)) ?_; (with_reducible refine (laws_szStringS.calls k _ _ l0_2 t925 t926 _ ?side1 ?side2 A8.out).mono ?_); (case side1 => repeat (first | exact (Kd.C_below HR0_2.out HB.out) | (with_reducible refine Kd.C_alloc ?_ _) | (with_reducible refine Kd.C_drewN ?_ _) | (with_reducible refine Kd.C_drew ?_))); (case side2 => exact HC0_2.out); rintro e w' ⟨rfl, ⟨nd, rfl⟩⟩; refine ⟨_, rfl, ?_⟩))
      go_ret
      exact ⟨by first | rfl | (simp [errW_none, errW_some] <;> rfl) | (simp [*, errW_none, errW_some] <;> rfl), by repeat (first | (with_reducible first | exact HB.out | apply below_alloc | apply pw_below_drewN | apply below_drew1 | refine below_set ?_ GE924.out) | exact HB.out)⟩
    · rw [if_neg c9] at H
      have c9b0 : decide (t926 < 0) = false := decide_eq_false c9
      clear c9
      replace H := Option.bind_eq_some_iff.mp H
      obtain ⟨t927, A140, H⟩ := H
      replace H : (if t927 < 0 then (some (-1)) else (some t927)) = some r := H
      have A14 := Aside0.mk A140
      clear A140
      by_cases c15 : t927 < 0
      · rw [if_pos c15] at H
        have c15b0 : decide (t927 < 0) = true := decide_eq_true c15
        clear c15
        obtain rfl := Option.some.inj H
        go_enter Try.func49, Try.ntmps49
        go_wp2_with (first | ((with_reducible refine gate_dst (N := 2) rfl ?_); refine box_event ?hg (N := 2) ?hd (cs := #[.bool a0_0, .slice A0_1 l0_1.length c0_1, .slice A0_2 l0_2.length c0_2, .slice A0_3 l0_3.length c0_3]) (t := 67) ?hr ?_; (case hd => rfl); (case hg => rfl); (case hr => first | (go_simp; done) | (go_simp; rfl)); intro gb924 hg w16 hbox hb; have n0_ := Aside0.mk (below_step (by repeat (first | (with_reducible first | exact HB.out | apply below_alloc | apply pw_below_drewN | apply below_drew1) | exact HB.out)) hb); have n1_ := Aside0.mk (hbox); have n2_ := Aside0.mk ((by rw [hg]; exact (below_size (by repeat (first | (with_reducible first | exact HB.out | apply below_alloc | apply pw_below_drewN | apply below_drew1) | exact HB.out))) : w.heap.size ≤ gb924)); have n3_ := Aside0.mk ((by rw [hg]; exact (below_size (by repeat (first | (with_reducible first | exact HB.out | apply below_alloc | apply pw_below_drewN | apply below_drew1) | exact HB.out))) : w.heap.size ≤ gb924)); clear HB; have HB := n0_; have BK924 := n1_; have GW924 := n2_; have GE924 := n3_; clear n0_ n1_ n2_ n3_; clear hb hbox hg; have hcz17_0 : w16.cell? ⟨gb924, 0, none⟩ = some (.bool a0_0) := (blk_cell BK924.out 0).trans rfl; have hcz17_1 : w16.cell? ⟨gb924, 1, none⟩ = some (.slice A0_1 l0_1.length c0_1) := (blk_cell BK924.out 1).trans rfl; have hcz17_2 : w16.cell? ⟨gb924, 2, none⟩ = some (.slice A0_2 l0_2.length c0_2) := (blk_cell BK924.out 2).trans rfl; have hcz17_3 : w16.cell? ⟨gb924, 3, none⟩ = some (.slice A0_3 l0_3.length c0_3) := (blk_cell BK924.out 3).trans rfl; have hfz17_0 := blk_frozen BK924.out 0; have hfz17_1 := blk_frozen BK924.out 1; have hfz17_2 := blk_frozen BK924.out 2; have hfz17_3 := blk_frozen BK924.out 3) | ((with_reducible refine gate_callee (f := 97) rfl ?_); refine goesL_ (some 8) rfl rfl Try.func97 (by kernel_rfl) rfl #[.slice A0_1 l0_1.length c0_1, .int .i64 a1] rfl (by (try simp only [List.map_toArray, List.map_cons, List.map_nil]); first | done | rfl | (simp only [List.length_drop, List.length_take]; rfl)) ?_; (with_reducible refine (laws_szPairS.calls k _ _ l0_1 a1 t925 _ ?side1 ?side2 A3.out).mono ?_); (case side1 => repeat (first | exact (Kd.C_below HR0_1.out HB.out) | (with_reducible refine Kd.C_alloc ?_ _) | (with_reducible refine Kd.C_drewN ?_ _) | (with_reducible refine Kd.C_drew ?_))); (case side2 => exact HC0_1.out); rintro e w18 ⟨rfl, hb⟩; refine ⟨_, rfl, ?_⟩; have n0_ := Aside0.mk (blk_below (g := gb924) (o := .cells #[.bool a0_0, .slice A0_1 l0_1.length c0_1, .slice A0_2 l0_2.length c0_2, .slice A0_3 l0_3.length c0_3] 67 (0, 0)) (by (with_reducible repeat (first | refine blk_drewN ?_ _ | refine blk_drew ?_ | refine blk_alloc ?_ _)); exact BK924.out) hb); have n1_ := Aside0.mk (below_step (by repeat (first | (with_reducible first | exact HB.out | apply below_alloc | apply pw_below_drewN | apply below_drew1 | refine below_set ?_ GE924.out) | exact HB.out)) hb); clear BK924; clear HB; have BK924 := n0_; have HB := n1_; clear n0_ n1_; (try clear hb); (try clear hb2); (try clear hk); (try clear hi); have hcz19_0 : w18.cell? ⟨gb924, 0, none⟩ = some (.bool a0_0) := (blk_cell BK924.out 0).trans rfl; have hcz19_1 : w18.cell? ⟨gb924, 1, none⟩ = some (.slice A0_1 l0_1.length c0_1) := (blk_cell BK924.out 1).trans rfl; have hcz19_2 : w18.cell? ⟨gb924, 2, none⟩ = some (.slice A0_2 l0_2.length c0_2) := (blk_cell BK924.out 2).trans rfl; have hcz19_3 : w18.cell? ⟨gb924, 3, none⟩ = some (.slice A0_3 l0_3.length c0_3) := (blk_cell BK924.out 3).trans rfl; have hfz19_0 := blk_frozen BK924.out 0; have hfz19_1 := blk_frozen BK924.out 1; have hfz19_2 := blk_frozen BK924.out 2; have hfz19_3 := blk_frozen BK924.out 3) | ((with_reducible refine gate_callee (f := 68) rfl ?_); refine goesL_ (some 14) rfl rfl Try.func68 (by kernel_rfl) rfl #[.slice A0_2 l0_2.length c0_2, .int .i64 t925] rfl (by (try simp only [List.map_toArray, List.map_cons, List.map_nil]); first | done | rfl | (simp only [List.length_drop, List.length_take]; rfl)) ?_; (with_reducible refine (laws_szStringS.calls k _ _ l0_2 t925 t926 _ ?side1 ?side2 A8.out).mono ?_); (case side1 => repeat (first | exact (Kd.C_below HR0_2.out HB.out) | (with_reducible refine Kd.C_alloc ?_ _) | (with_reducible refine Kd.C_drewN ?_ _) | (with_reducible refine Kd.C_drew ?_))); (case side2 => exact HC0_2.out); rintro e w' ⟨rfl, ⟨nd, rfl⟩⟩; refine ⟨_, rfl, ?_⟩) | ((with_reducible refine gate_callee (f := 70) rfl ?_); refine goesL_ (some 20) rfl rfl Try.func70 (by kernel_rfl) rfl #[.slice A0_3 l0_3.length c0_3, .int .i64 t926] rfl (by (try simp only [List.map_toArray, List.map_cons, List.map_nil]); first | done | rfl | (simp only [List.length_drop, List.length_take]; rfl)) ?_; (with_reducible refine (laws_szIntS.calls _ _ l0_3 t926 t927 _ ?side1 ?side2 A14.out).mono ?_); (case side1 => repeat (first | exact (Kd.C_below HR0_3.out (by repeat (first | (with_reducible first | exact HB.out | apply below_alloc | apply pw_below_drewN | apply below_drew1 | refine below_set ?_ GE924.out) | exact HB.out))) | (with_reducible refine Kd.C_alloc ?_ _) | (with_reducible refine Kd.C_drewN ?_ _) | (with_reducible refine Kd.C_drew ?_))); (case side2 => exact HC0_3.out); rintro e w' ⟨rfl, ⟨nd, rfl⟩⟩; refine ⟨_, rfl, ?_⟩))
        go_ret
        exact ⟨by first | rfl | (simp [errW_none, errW_some] <;> rfl) | (simp [*, errW_none, errW_some] <;> rfl), by repeat (first | (with_reducible first | exact HB.out | apply below_alloc | apply pw_below_drewN | apply below_drew1 | refine below_set ?_ GE924.out) | exact HB.out)⟩
      · rw [if_neg c15] at H
        have c15b0 : decide (t927 < 0) = false := decide_eq_false c15
        clear c15
        obtain rfl := Option.some.inj H
        go_enter Try.func49, Try.ntmps49
        go_wp2_with (first | ((with_reducible refine gate_dst (N := 2) rfl ?_); refine box_event ?hg (N := 2) ?hd (cs := #[.bool a0_0, .slice A0_1 l0_1.length c0_1, .slice A0_2 l0_2.length c0_2, .slice A0_3 l0_3.length c0_3]) (t := 67) ?hr ?_; (case hd => rfl); (case hg => rfl); (case hr => first | (go_simp; done) | (go_simp; rfl)); intro gb924 hg w20 hbox hb; have n0_ := Aside0.mk (below_step (by repeat (first | (with_reducible first | exact HB.out | apply below_alloc | apply pw_below_drewN | apply below_drew1) | exact HB.out)) hb); have n1_ := Aside0.mk (hbox); have n2_ := Aside0.mk ((by rw [hg]; exact (below_size (by repeat (first | (with_reducible first | exact HB.out | apply below_alloc | apply pw_below_drewN | apply below_drew1) | exact HB.out))) : w.heap.size ≤ gb924)); have n3_ := Aside0.mk ((by rw [hg]; exact (below_size (by repeat (first | (with_reducible first | exact HB.out | apply below_alloc | apply pw_below_drewN | apply below_drew1) | exact HB.out))) : w.heap.size ≤ gb924)); clear HB; have HB := n0_; have BK924 := n1_; have GW924 := n2_; have GE924 := n3_; clear n0_ n1_ n2_ n3_; clear hb hbox hg; have hcz21_0 : w20.cell? ⟨gb924, 0, none⟩ = some (.bool a0_0) := (blk_cell BK924.out 0).trans rfl; have hcz21_1 : w20.cell? ⟨gb924, 1, none⟩ = some (.slice A0_1 l0_1.length c0_1) := (blk_cell BK924.out 1).trans rfl; have hcz21_2 : w20.cell? ⟨gb924, 2, none⟩ = some (.slice A0_2 l0_2.length c0_2) := (blk_cell BK924.out 2).trans rfl; have hcz21_3 : w20.cell? ⟨gb924, 3, none⟩ = some (.slice A0_3 l0_3.length c0_3) := (blk_cell BK924.out 3).trans rfl; have hfz21_0 := blk_frozen BK924.out 0; have hfz21_1 := blk_frozen BK924.out 1; have hfz21_2 := blk_frozen BK924.out 2; have hfz21_3 := blk_frozen BK924.out 3) | ((with_reducible refine gate_callee (f := 97) rfl ?_); refine goesL_ (some 8) rfl rfl Try.func97 (by kernel_rfl) rfl #[.slice A0_1 l0_1.length c0_1, .int .i64 a1] rfl (by (try simp only [List.map_toArray, List.map_cons, List.map_nil]); first | done | rfl | (simp only [List.length_drop, List.length_take]; rfl)) ?_; (with_reducible refine (laws_szPairS.calls k _ _ l0_1 a1 t925 _ ?side1 ?side2 A3.out).mono ?_); (case side1 => repeat (first | exact (Kd.C_below HR0_1.out HB.out) | (with_reducible refine Kd.C_alloc ?_ _) | (with_reducible refine Kd.C_drewN ?_ _) | (with_reducible refine Kd.C_drew ?_))); (case side2 => exact HC0_1.out); rintro e w22 ⟨rfl, hb⟩; refine ⟨_, rfl, ?_⟩; have n0_ := Aside0.mk (blk_below (g := gb924) (o := .cells #[.bool a0_0, .slice A0_1 l0_1.length c0_1, .slice A0_2 l0_2.length c0_2, .slice A0_3 l0_3.length c0_3] 67 (0, 0)) (by (with_reducible repeat (first | refine blk_drewN ?_ _ | refine blk_drew ?_ | refine blk_alloc ?_ _)); exact BK924.out) hb); have n1_ := Aside0.mk (below_step (by repeat (first | (with_reducible first | exact HB.out | apply below_alloc | apply pw_below_drewN | apply below_drew1 | refine below_set ?_ GE924.out) | exact HB.out)) hb); clear BK924; clear HB; have BK924 := n0_; have HB := n1_; clear n0_ n1_; (try clear hb); (try clear hb2); (try clear hk); (try clear hi); have hcz23_0 : w22.cell? ⟨gb924, 0, none⟩ = some (.bool a0_0) := (blk_cell BK924.out 0).trans rfl; have hcz23_1 : w22.cell? ⟨gb924, 1, none⟩ = some (.slice A0_1 l0_1.length c0_1) := (blk_cell BK924.out 1).trans rfl; have hcz23_2 : w22.cell? ⟨gb924, 2, none⟩ = some (.slice A0_2 l0_2.length c0_2) := (blk_cell BK924.out 2).trans rfl; have hcz23_3 : w22.cell? ⟨gb924, 3, none⟩ = some (.slice A0_3 l0_3.length c0_3) := (blk_cell BK924.out 3).trans rfl; have hfz23_0 := blk_frozen BK924.out 0; have hfz23_1 := blk_frozen BK924.out 1; have hfz23_2 := blk_frozen BK924.out 2; have hfz23_3 := blk_frozen BK924.out 3) | ((with_reducible refine gate_callee (f := 68) rfl ?_); refine goesL_ (some 14) rfl rfl Try.func68 (by kernel_rfl) rfl #[.slice A0_2 l0_2.length c0_2, .int .i64 t925] rfl (by (try simp only [List.map_toArray, List.map_cons, List.map_nil]); first | done | rfl | (simp only [List.length_drop, List.length_take]; rfl)) ?_; (with_reducible refine (laws_szStringS.calls k _ _ l0_2 t925 t926 _ ?side1 ?side2 A8.out).mono ?_); (case side1 => repeat (first | exact (Kd.C_below HR0_2.out HB.out) | (with_reducible refine Kd.C_alloc ?_ _) | (with_reducible refine Kd.C_drewN ?_ _) | (with_reducible refine Kd.C_drew ?_))); (case side2 => exact HC0_2.out); rintro e w' ⟨rfl, ⟨nd, rfl⟩⟩; refine ⟨_, rfl, ?_⟩) | ((with_reducible refine gate_callee (f := 70) rfl ?_); refine goesL_ (some 20) rfl rfl Try.func70 (by kernel_rfl) rfl #[.slice A0_3 l0_3.length c0_3, .int .i64 t926] rfl (by (try simp only [List.map_toArray, List.map_cons, List.map_nil]); first | done | rfl | (simp only [List.length_drop, List.length_take]; rfl)) ?_; (with_reducible refine (laws_szIntS.calls _ _ l0_3 t926 t927 _ ?side1 ?side2 A14.out).mono ?_); (case side1 => repeat (first | exact (Kd.C_below HR0_3.out (by repeat (first | (with_reducible first | exact HB.out | apply below_alloc | apply pw_below_drewN | apply below_drew1 | refine below_set ?_ GE924.out) | exact HB.out))) | (with_reducible refine Kd.C_alloc ?_ _) | (with_reducible refine Kd.C_drewN ?_ _) | (with_reducible refine Kd.C_drew ?_))); (case side2 => exact HC0_3.out); rintro e w' ⟨rfl, ⟨nd, rfl⟩⟩; refine ⟨_, rfl, ?_⟩))
        go_ret
        exact ⟨by first | rfl | (simp [errW_none, errW_some] <;> rfl) | (simp [*, errW_none, errW_some] <;> rfl), by repeat (first | (with_reducible first | exact HB.out | apply below_alloc | apply pw_below_drewN | apply below_drew1 | refine below_set ?_ GE924.out) | exact HB.out)⟩

end Go.Proofs.Ytcpcifgpcemaeaa.X

-- Written by a program of this session (xp.py) out of the translation's print. Not trusted: Lean checks it.
namespace Go.Proofs.Ytcpcifgpcemaeaa.X
open Go.RowKit Go.Proofs.YtcpcifgpcemaeaaW.PrintWords Go.Proofs.YtcpcifgpcemaeaaW.PrintLast Go.Proofs.YtcpcifgpcemaeaaW.PrintMore
attribute [local go_sem] xbin_geq xbin_leq xbin_gtr max2_int min2_int max_two min_two max_three min_three max_four min_four   -- for this text's walks alone
set_option linter.unusedVariables false
set_option linter.unusedSimpArgs false

/-! ### spec_l01In: function 59 -/
def spec_l01In.f (a0 : Int) (a1 : Int) (a2 : Int) : Option (Bool) := if a1 ≤ a0 then (some (decide (a0 ≤ a2))) else (some false)
set_option maxHeartbeats 8000000 in
set_option maxRecDepth 100000 in
theorem spec_l01In.calls (a0 : Int) (a1 : Int) (a2 : Int) (r : Bool) (w : World) (h : spec_l01In.f a0 a1 a2 = some r) :
    Calls Try.prog 59 #[.int .i64 a0, .int .i64 a1, .int .i64 a2] w fun e w' => e = .returned (.bool r) ∧ Drawn0 w w' := by
  have H : (if a1 ≤ a0 then (some (decide (a0 ≤ a2))) else (some false)) = some r := h
  clear h
  by_cases c4 : a1 ≤ a0
  · rw [if_pos c4] at H
    have c4b0 : decide (a1 ≤ a0) = true := decide_eq_true c4
    clear c4
    obtain rfl := Option.some.inj H
    go_enter Try.func59, Try.ntmps59
    go_wp2
    go_ret
    exact ⟨by first | rfl | (simp; done) | (simp [*]; done), by repeat (first | exact Drawn0.refl _ | apply Drawn0.step)⟩
  · rw [if_neg c4] at H
    have c4b0 : decide (a1 ≤ a0) = false := decide_eq_false c4
    clear c4
    obtain rfl := Option.some.inj H
    go_enter Try.func59, Try.ntmps59
    go_wp2
    go_ret
    exact ⟨by first | rfl | (simp; done) | (simp [*]; done), by repeat (first | exact Drawn0.refl _ | apply Drawn0.step)⟩

end Go.Proofs.Ytcpcifgpcemaeaa.X
