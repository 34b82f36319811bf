import Derived.Test.YtenfomejccfkgaaKFnExactSuperBytes4
import Derived.Test.YtenfomejccfkgaaKFnExactSuperBytes5
import Derived.Test.YtenfomejccfkgaaKFnExactSuperBytes6
import Derived.Test.YtenfomejccfkgaaKFnExactSuperBytes11
import Derived.Test.YtenfomejccfkgaaKFnExactSuperBytes13
import Derived.Test.YtenfomejccfkgaaKFnExactSuperBytes14
import Derived.Test.YtenfomejccfkgaaKFnExactSuperBytes15
namespace Go.Proofs.Ytenfomejccfkgaa.X
open Go.RowKit Go.Proofs.YtenfomejccfkgaaW.PrintWords Go.Proofs.YtenfomejccfkgaaW.PrintLast Go.Proofs.YtenfomejccfkgaaW.PrintMore
attribute [local go_sem] xbin_geq xbin_leq xbin_gtr max2_int min2_int max_two min_two max_three min_three max_four min_four
set_option linter.unusedVariables false
set_option linter.unusedSimpArgs false
def impl_SuperOK.f (k : Nat) (a0_0 : Int) (a0_1 : Int) (l0_2 : List (S192)) : Option (Bool) := (impl_within.f a0_0 0 200).bind fun t926 => (if t926 = true then ((impl_rootOK.f a0_1).bind fun t927 => (if t927 = true then ((impl_snapsOK.f k l0_2).bind fun t928 => (some t928)) else (some false))) else (some false))
theorem impl_SuperOK.mono : ∀ a0 a1 a2 k, LeO (impl_SuperOK.f k a0 a1 a2) (impl_SuperOK.f (k + 1) a0 a1 a2) := by
 intro a0 a1 a2 k
 unfold impl_SuperOK.f
 repeat' first
   | (with_reducible exact impl_snapsOK.mono _ _)
   | (with_reducible exact LeO.refl _)
   | (with_reducible exact LeO.none _)
   | (with_reducible refine LeO.ite ?_ ?_)
   | (with_reducible refine LeO.bind ?_ (fun _ => ?_))
   | exact impl_snapsOK.mono _ _
   | exact LeO.none _
   | refine LeO.ite ?_ ?_
   | refine LeO.bind ?_ (fun _ => ?_)
set_option maxHeartbeats 8000000 in
set_option maxRecDepth 100000 in
theorem impl_SuperOK.calls (k : Nat) (a0_0 : Int) (a0_1 : Int) (A0_2 : Option Addr) (c0_2 : Nat) (l0_2 : List (S192)) (r : Bool) (w : World) (hr0_2 : Kd.C k192 w A0_2 l0_2.length l0_2) (hc0_2 : l0_2.length ≤ c0_2) (h : impl_SuperOK.f k a0_0 a0_1 l0_2 = some r) :
  Calls Try.prog 115 #[.agg #[.int .i64 a0_0, .int .i64 a0_1, .slice A0_2 l0_2.length c0_2]] w fun e w' => e = .returned (.bool r) ∧ Below w.heap.size w w' := by
 have hu83 := Try.underlying83
 have HR0_2 := Aside0.mk hr0_2
 have HC0_2 := Aside0.mk hc0_2
 clear hr0_2 hc0_2
 have HB := Aside0.mk (Below.refl w.heap.size w)
 have H : ((impl_within.f a0_0 0 200).bind fun t926 => (if t926 = true then ((impl_rootOK.f a0_1).bind fun t927 => (if t927 = true then ((impl_snapsOK.f k l0_2).bind fun t928 => (some t928)) else (some false))) else (some false))) = some r := h
 clear h
 replace H := Option.bind_eq_some_iff.mp H
 obtain ⟨t926, A20, H⟩ := H
 replace H : (if t926 = true then ((impl_rootOK.f a0_1).bind fun t927 => (if t927 = true then ((impl_snapsOK.f k l0_2).bind fun t928 => (some t928)) else (some false))) else (some false)) = some r := H
 have A2 := Aside0.mk A20
 clear A20
 by_cases c3 : t926 = true
 ·subst c3
  have H1 : ((impl_rootOK.f a0_1).bind fun t927 => (if t927 = true then ((impl_snapsOK.f k l0_2).bind fun t928 => (some t928)) else (some false))) = some r := by rw [if_pos rfl] at H; exact H
  clear H
  have H := H1
  clear H1
  replace H := Option.bind_eq_some_iff.mp H
  obtain ⟨t927, A40, H⟩ := H
  replace H : (if t927 = true then ((impl_snapsOK.f k l0_2).bind fun t928 => (some t928)) else (some false)) = some r := H
  have A4 := Aside0.mk A40
  clear A40
  by_cases c5 : t927 = true
  ·subst c5
   have H1 : ((impl_snapsOK.f k l0_2).bind fun t928 => (some t928)) = some r := by rw [if_pos rfl] at H; exact H
   clear H
   have H := H1
   clear H1
   replace H := Option.bind_eq_some_iff.mp H
   obtain ⟨t928, A60, H⟩ := H
   replace H : (some t928) = some r := H
   have A6 := Aside0.mk A60
   clear A60
   obtain rfl := Option.some.inj H
   go_enter Try.func115, Try.ntmps115
   go_wp2_with (first | ((with_reducible refine gate_dst (N := 1) rfl ?_); refine box_event ?hg (N := 1) ?hd (cs := #[.int .i64 a0_0, .int .i64 a0_1, .slice A0_2 l0_2.length c0_2]) (t := 83) ?hr ?_; (case hd => rfl); (case hg => rfl); (case hr => first | (go_simp; done) | (go_simp; rfl)); intro gb925 hg w7 hbox hb; have n0_ := Aside0.mk (below_step (by repeat (first | (with_reducible first | exact HB.out | apply below_alloc | apply pw_below_drewN | apply below_drew1) | exact HB.out)) hb); have n1_ := Aside0.mk (hbox); have n2_ := Aside0.mk ((by rw [hg]; exact (below_size (by repeat (first | (with_reducible first | exact HB.out | apply below_alloc | apply pw_below_drewN | apply below_drew1) | exact HB.out))) : w.heap.size ≤ gb925)); have n3_ := Aside0.mk ((by rw [hg]; exact (below_size (by repeat (first | (with_reducible first | exact HB.out | apply below_alloc | apply pw_below_drewN | apply below_drew1) | exact HB.out))) : w.heap.size ≤ gb925)); clear HB; have HB := n0_; have BK925 := n1_; have GW925 := n2_; have GE925 := n3_; clear n0_ n1_ n2_ n3_; clear hb hbox hg; have hcz8_0 : w7.cell? ⟨gb925, 0, none⟩ = some (.int .i64 a0_0) := (blk_cell BK925.out 0).trans rfl; have hcz8_1 : w7.cell? ⟨gb925, 1, none⟩ = some (.int .i64 a0_1) := (blk_cell BK925.out 1).trans rfl; have hcz8_2 : w7.cell? ⟨gb925, 2, none⟩ = some (.slice A0_2 l0_2.length c0_2) := (blk_cell BK925.out 2).trans rfl; have hfz8_0 := blk_frozen BK925.out 0; have hfz8_1 := blk_frozen BK925.out 1; have hfz8_2 := blk_frozen BK925.out 2) | ((with_reducible refine gate_callee (f := 120) rfl ?_); refine goesL_ (some 5) rfl rfl Try.func120 (by kernel_rfl) rfl #[.int .i64 a0_0, .int .i64 0, .int .i64 200] rfl (by (try simp only [List.map_toArray, List.map_cons, List.map_nil]); first | done | rfl | (simp only [List.length_drop, List.length_take]; rfl)) ?_; (with_reducible refine (impl_within.calls a0_0 0 200 true _ A2.out).mono ?_); rintro e w' ⟨rfl, ⟨nd, rfl⟩⟩; refine ⟨_, rfl, ?_⟩) | (go_at_call 158; (with_reducible refine (impl_rootOK.calls a0_1 true _ A4.out).mono ?_); rintro e w' ⟨rfl, ⟨nd, rfl⟩⟩) | (go_at_call 159; (with_reducible refine (impl_snapsOK.calls k _ _ l0_2 t928 _ ?side1 ?side2 A6.out).mono ?_); (case side1 => repeat (first | exact (Kd.C_below HR0_2.out (by repeat (first | (with_reducible first | exact HB.out | apply below_alloc | apply pw_below_drewN | apply below_drew1 | refine below_set ?_ GE925.out) | exact HB.out))) | (with_reducible refine Kd.C_alloc ?_ _) | (with_reducible refine Kd.C_drewN ?_ _) | (with_reducible refine Kd.C_drew ?_))); (case side2 => exact HC0_2.out); rintro e w9 ⟨rfl, hb⟩; have n0_ := Aside0.mk (blk_below (g := gb925) (o := .cells #[.int .i64 a0_0, .int .i64 a0_1, .slice A0_2 l0_2.length c0_2] 83 (0, 0)) (by (with_reducible repeat (first | refine blk_drewN ?_ _ | refine blk_drew ?_ | refine blk_alloc ?_ _)); exact BK925.out) hb); have n1_ := Aside0.mk (below_step (by repeat (first | (with_reducible first | exact HB.out | apply below_alloc | apply pw_below_drewN | apply below_drew1 | refine below_set ?_ GE925.out) | exact HB.out)) hb); clear BK925; clear HB; have BK925 := n0_; have HB := n1_; clear n0_ n1_; (try clear hb); (try clear hb2); (try clear hk); (try clear hi)))
   go_ret
   exact ⟨by first | rfl | (simp [errW_none, errW_some] <;> rfl) | (simp [*, errW_none, errW_some] <;> rfl), by repeat (first | (with_reducible first | exact HB.out | apply below_alloc | apply pw_below_drewN | apply below_drew1 | refine below_set ?_ GE925.out) | exact HB.out)⟩
  ·replace c5 := Bool.eq_false_iff.mpr c5
   subst c5
   have H1 : (some false) = some r := by rw [if_neg (show ¬ (false = true) by decide)] at H; exact H
   clear H
   have H := H1
   clear H1
   obtain rfl := Option.some.inj H
   go_enter Try.func115, Try.ntmps115
   go_wp2_with (first | ((with_reducible refine gate_dst (N := 1) rfl ?_); refine box_event ?hg (N := 1) ?hd (cs := #[.int .i64 a0_0, .int .i64 a0_1, .slice A0_2 l0_2.length c0_2]) (t := 83) ?hr ?_; (case hd => rfl); (case hg => rfl); (case hr => first | (go_simp; done) | (go_simp; rfl)); intro gb925 hg w10 hbox hb; have n0_ := Aside0.mk (below_step (by repeat (first | (with_reducible first | exact HB.out | apply below_alloc | apply pw_below_drewN | apply below_drew1) | exact HB.out)) hb); have n1_ := Aside0.mk (hbox); have n2_ := Aside0.mk ((by rw [hg]; exact (below_size (by repeat (first | (with_reducible first | exact HB.out | apply below_alloc | apply pw_below_drewN | apply below_drew1) | exact HB.out))) : w.heap.size ≤ gb925)); have n3_ := Aside0.mk ((by rw [hg]; exact (below_size (by repeat (first | (with_reducible first | exact HB.out | apply below_alloc | apply pw_below_drewN | apply below_drew1) | exact HB.out))) : w.heap.size ≤ gb925)); clear HB; have HB := n0_; have BK925 := n1_; have GW925 := n2_; have GE925 := n3_; clear n0_ n1_ n2_ n3_; clear hb hbox hg; have hcz11_0 : w10.cell? ⟨gb925, 0, none⟩ = some (.int .i64 a0_0) := (blk_cell BK925.out 0).trans rfl; have hcz11_1 : w10.cell? ⟨gb925, 1, none⟩ = some (.int .i64 a0_1) := (blk_cell BK925.out 1).trans rfl; have hcz11_2 : w10.cell? ⟨gb925, 2, none⟩ = some (.slice A0_2 l0_2.length c0_2) := (blk_cell BK925.out 2).trans rfl; have hfz11_0 := blk_frozen BK925.out 0; have hfz11_1 := blk_frozen BK925.out 1; have hfz11_2 := blk_frozen BK925.out 2) | ((with_reducible refine gate_callee (f := 120) rfl ?_); refine goesL_ (some 5) rfl rfl Try.func120 (by kernel_rfl) rfl #[.int .i64 a0_0, .int .i64 0, .int .i64 200] rfl (by (try simp only [List.map_toArray, List.map_cons, List.map_nil]); first | done | rfl | (simp only [List.length_drop, List.length_take]; rfl)) ?_; (with_reducible refine (impl_within.calls a0_0 0 200 true _ A2.out).mono ?_); rintro e w' ⟨rfl, ⟨nd, rfl⟩⟩; refine ⟨_, rfl, ?_⟩) | (go_at_call 158; (with_reducible refine (impl_rootOK.calls a0_1 false _ A4.out).mono ?_); rintro e w' ⟨rfl, ⟨nd, rfl⟩⟩))
   go_ret
   exact ⟨by first | rfl | (simp [errW_none, errW_some] <;> rfl) | (simp [*, errW_none, errW_some] <;> rfl), by repeat (first | (with_reducible first | exact HB.out | apply below_alloc | apply pw_below_drewN | apply below_drew1 | refine below_set ?_ GE925.out) | exact HB.out)⟩
 ·replace c3 := Bool.eq_false_iff.mpr c3
  subst c3
  have H1 : (some false) = some r := by rw [if_neg (show ¬ (false = true) by decide)] at H; exact H
  clear H
  have H := H1
  clear H1
  obtain rfl := Option.some.inj H
  go_enter Try.func115, Try.ntmps115
  go_wp2_with (first | ((with_reducible refine gate_dst (N := 1) rfl ?_); refine box_event ?hg (N := 1) ?hd (cs := #[.int .i64 a0_0, .int .i64 a0_1, .slice A0_2 l0_2.length c0_2]) (t := 83) ?hr ?_; (case hd => rfl); (case hg => rfl); (case hr => first | (go_simp; done) | (go_simp; rfl)); intro gb925 hg w12 hbox hb; have n0_ := Aside0.mk (below_step (by repeat (first | (with_reducible first | exact HB.out | apply below_alloc | apply pw_below_drewN | apply below_drew1) | exact HB.out)) hb); have n1_ := Aside0.mk (hbox); have n2_ := Aside0.mk ((by rw [hg]; exact (below_size (by repeat (first | (with_reducible first | exact HB.out | apply below_alloc | apply pw_below_drewN | apply below_drew1) | exact HB.out))) : w.heap.size ≤ gb925)); have n3_ := Aside0.mk ((by rw [hg]; exact (below_size (by repeat (first | (with_reducible first | exact HB.out | apply below_alloc | apply pw_below_drewN | apply below_drew1) | exact HB.out))) : w.heap.size ≤ gb925)); clear HB; have HB := n0_; have BK925 := n1_; have GW925 := n2_; have GE925 := n3_; clear n0_ n1_ n2_ n3_; clear hb hbox hg; have hcz13_0 : w12.cell? ⟨gb925, 0, none⟩ = some (.int .i64 a0_0) := (blk_cell BK925.out 0).trans rfl; have hcz13_1 : w12.cell? ⟨gb925, 1, none⟩ = some (.int .i64 a0_1) := (blk_cell BK925.out 1).trans rfl; have hcz13_2 : w12.cell? ⟨gb925, 2, none⟩ = some (.slice A0_2 l0_2.length c0_2) := (blk_cell BK925.out 2).trans rfl; have hfz13_0 := blk_frozen BK925.out 0; have hfz13_1 := blk_frozen BK925.out 1; have hfz13_2 := blk_frozen BK925.out 2) | ((with_reducible refine gate_callee (f := 120) rfl ?_); refine goesL_ (some 5) rfl rfl Try.func120 (by kernel_rfl) rfl #[.int .i64 a0_0, .int .i64 0, .int .i64 200] rfl (by (try simp only [List.map_toArray, List.map_cons, List.map_nil]); first | done | rfl | (simp only [List.length_drop, List.length_take]; rfl)) ?_; (with_reducible refine (impl_within.calls a0_0 0 200 false _ A2.out).mono ?_); rintro e w' ⟨rfl, ⟨nd, rfl⟩⟩; refine ⟨_, rfl, ?_⟩))
  go_ret
  exact ⟨by first | rfl | (simp [errW_none, errW_some] <;> rfl) | (simp [*, errW_none, errW_some] <;> rfl), by repeat (first | (with_reducible first | exact HB.out | apply below_alloc | apply pw_below_drewN | apply below_drew1 | refine below_set ?_ GE925.out) | exact HB.out)⟩
end Go.Proofs.Ytenfomejccfkgaa.X
namespace Go.Proofs.Ytenfomejccfkgaa.X
open Go.RowKit Go.Proofs.YtenfomejccfkgaaW.PrintWords Go.Proofs.YtenfomejccfkgaaW.PrintLast Go.Proofs.YtenfomejccfkgaaW.PrintMore
attribute [local go_sem] xbin_geq xbin_leq xbin_gtr max2_int min2_int max_two min_two max_three min_three max_four min_four
set_option linter.unusedVariables false
set_option linter.unusedSimpArgs false
theorem impl_root (x : Int) : impl_rootOK.f x = some (inB x (-1) 49) := by
  unfold impl_rootOK.f
  rw [impl_in, Option.bind_some]
def snapAt (l : List S192) (i : Nat) : Bool := shortB (rd_T192 l i).f0 && (inB (rd_T192 l i).f1 (-1) 49 && (inB (rd_T192 l i).f2 0 60000 && (decide (i = 0) || Op.bytesLess (rd_T192 l ((i - 1 : Nat) : Int)).f0.toList (rd_T192 l i).f0.toList)))
def superB (a b : Int) (l : List S192) : Bool := inB a 0 200 && (inB b (-1) 49 && (decide (l.length ≤ 4) && allB (snapAt l) l.length))
theorem spec_super_loop (a b : Int) (l : List S192) (hl : l.length < 9223372036854775807) : Ev (fun k => spec_SuperOK.l0 k 0 a b l) (allB (snapAt l) l.length) := by
  refine Ev.same (Ev.all (g := fun k x => spec_SuperOK.l0 k x a b l) (snapAt l) true l.length ?_ ?_) (by simp)
  · refine Ev.succ ?_
    simp only [spec_SuperOK.l0]
    exact Ev.neg (by omega) (Ev.is rfl)
  · intro i hi r h
    refine Ev.succ ?_
    simp only [spec_SuperOK.l0, spec_in, Option.bind_some, wrap_at (n := i) (by omega)]
    refine Ev.pos (by omega) (Ev.pos (by omega) (Ev.bind (spec_short _) ?_))
    cases h1 : shortB (rd_T192 l i).f0 with
    | false => exact Ev.neg (by simp) (Ev.is (by simp [snapAt, h1]))
    | true =>
      refine Ev.pos rfl ?_
      cases h2 : inB (rd_T192 l i).f1 (-1) 49 with
      | false => exact Ev.neg (by simp) (Ev.is (by simp [snapAt, h2]))
      | true =>
        refine Ev.pos rfl ?_
        cases h3 : inB (rd_T192 l i).f2 0 60000 with
        | false => exact Ev.neg (by simp) (Ev.is (by simp [snapAt, h3]))
        | true =>
          refine Ev.pos rfl ?_
          by_cases h0 : i = 0
          · subst h0
            exact Ev.neg (by omega) (Ev.same h (by simp [snapAt] at *; simp [h1, h2, h3]))
          · simp only [wrap_less (n := i) (by omega) (by omega)]
            refine Ev.pos (by omega) (Ev.pos (by omega) (Ev.pos (by omega) ?_))
            cases h4 : Op.bytesLess (rd_T192 l ((i - 1 : Nat) : Int)).f0.toList (rd_T192 l i).f0.toList with
            | false => exact Ev.neg (by simp) (Ev.is (by simp [snapAt, h4, h0]))
            | true => exact Ev.pos rfl (Ev.same h (by simp [snapAt, h1, h2, h3, h4, h0]))
theorem impl_snaps (l : List S192) (hl : l.length < 9223372036854775807) : Ev (fun k => impl_snapsOK.f k l) (allB (snapAt l) l.length && decide (l.length ≤ 4)) := by
  unfold impl_snapsOK.f
  refine Ev.all (g := fun k x => impl_snapsOK.l0 k l l (l.length : Int) x) (snapAt l) _ l.length ?_ ?_
  · refine Ev.succ ?_
    simp only [impl_snapsOK.l0]
    exact Ev.neg (by omega) (Ev.is (by simp only [show ((l.length : Int) ≤ 4) = (l.length ≤ 4) from propext (by omega)]))
  · intro i hi r h
    refine Ev.succ ?_
    simp only [impl_snapsOK.l0, impl_in, impl_root, Option.bind_some, wrap_at (n := i) (by omega)]
    refine Ev.pos (by omega) (Ev.pos (by omega) (Ev.pos (by omega) (Ev.bind (impl_short _) ?_)))
    cases h1 : shortB (rd_T192 l i).f0 with
    | false => exact Ev.neg (by simp) (Ev.is (by simp [snapAt, h1]))
    | true =>
      refine Ev.pos rfl ?_
      cases h2 : inB (rd_T192 l i).f1 (-1) 49 with
      | false => exact Ev.neg (by simp) (Ev.is (by simp [snapAt, h2]))
      | true =>
        refine Ev.pos rfl ?_
        cases h3 : inB (rd_T192 l i).f2 0 60000 with
        | false => exact Ev.neg (by simp) (Ev.is (by simp [snapAt, h3]))
        | true =>
          refine Ev.pos rfl ?_
          by_cases h0 : i = 0
          · subst h0
            exact Ev.neg (by omega) (Ev.same h (by simp [snapAt] at *; simp [h1, h2, h3]))
          · simp only [wrap_less (n := i) (by omega) (by omega)]
            refine Ev.pos (by omega) (Ev.pos (by omega) (Ev.pos (by omega) ?_))
            cases h4 : Op.bytesLess (rd_T192 l ((i - 1 : Nat) : Int)).f0.toList (rd_T192 l i).f0.toList with
            | false => exact Ev.neg (by simp) (Ev.is (by simp [snapAt, h4, h0]))
            | true => exact Ev.pos rfl (Ev.same h (by simp [snapAt, h1, h2, h3, h4, h0]))
theorem impl_superOK (a b : Int) (l : List S192) (hl : l.length < 9223372036854775807) : Ev (fun k => impl_SuperOK.f k a b l) (superB a b l) := by
  unfold impl_SuperOK.f superB
  simp only [impl_in, impl_root, Option.bind_some]
  cases h1 : inB a 0 200 with
  | false => exact Ev.neg (by simp) (Ev.is (by simp))
  | true =>
    refine Ev.pos rfl ?_
    cases h2 : inB b (-1) 49 with
    | false => exact Ev.neg (by simp) (Ev.is (by simp))
    | true => exact Ev.pos rfl (Ev.bind (impl_snaps l hl) (Ev.is (by simp [Bool.and_comm])))
theorem spec_superOK (a b : Int) (l : List S192) (hl : l.length < 9223372036854775807) : Ev (fun k => spec_SuperOK.f k a b l) (superB a b l) := by
  have hj : ∀ c : Bool, Ev (fun k => spec_SuperOK.j0 k c a b l) (!c && allB (snapAt l) l.length) := by
    intro c
    refine Ev.succ ?_
    simp only [spec_SuperOK.j0]
    cases c with
    | true => exact Ev.pos rfl (Ev.is rfl)
    | false => exact Ev.neg (by simp) (Ev.same (spec_super_loop a b l hl) (by simp))
  unfold spec_SuperOK.f superB
  simp only [spec_in, Option.bind_some]
  cases h1 : inB a 0 200 with
  | false => exact Ev.neg (by simp) (Ev.same (hj true) (by simp))
  | true =>
    refine Ev.pos rfl ?_
    cases h2 : inB b (-1) 49 with
    | false => exact Ev.neg (by simp) (Ev.same (hj true) (by simp))
    | true =>
      refine Ev.pos rfl (Ev.same (hj _) ?_)
      by_cases h3 : l.length ≤ 4
      · simp [h3, show ¬ 4 < (l.length : Int) by omega]
      · simp [h3, show 4 < (l.length : Int) by omega]
end Go.Proofs.Ytenfomejccfkgaa.X
