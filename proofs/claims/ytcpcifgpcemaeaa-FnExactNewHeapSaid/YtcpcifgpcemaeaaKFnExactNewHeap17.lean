import Derived.Test.YtcpcifgpcemaeaaKFnExactNewHeap5
import Derived.Test.YtcpcifgpcemaeaaKFnExactNewHeap7
import Derived.Test.YtcpcifgpcemaeaaKFnExactNewHeap10
import Derived.Test.YtcpcifgpcemaeaaKFnExactNewHeap11
import Derived.Test.YtcpcifgpcemaeaaKFnExactNewHeap15
import Derived.Test.YtcpcifgpcemaeaaKFnExactNewHeap16
import Derived.LoopTactic
import Derived.WalkSpells
import Derived.Test.YtcpcifgpcemaeaaRows
import Derived.WalkKit
import Derived.ProofKit
import Derived.OpenShut
import Derived.ShutString
import Derived.ChangeOld
import Derived.Below
import Derived.SizedLaws
namespace Go.Proofs.Ytcpcifgpcemaeaa.X
open Go.RowKit Go.Proofs.YtcpcifgpcemaeaaW.PrintWords Go.Proofs.YtcpcifgpcemaeaaW.PrintLast Go.Proofs.YtcpcifgpcemaeaaW.PrintMore
attribute [local go_sem] xbin_geq xbin_leq xbin_gtr max2_int min2_int max_two min_two max_three min_three max_four min_four
set_option linter.unusedVariables false
set_option linter.unusedSimpArgs false
def laws_heldHeap.f (k : Nat) (l0_0 : List (S72)) (a1 : Int) : Option (Int) := (laws_heldNodeS.f k l0_0 a1).bind fun t785 => (if t785 < 0 then (some (-1)) else (some t785))
theorem laws_heldHeap.mono : ∀ a0 a1 k, LeO (laws_heldHeap.f k a0 a1) (laws_heldHeap.f (k + 1) a0 a1) := by
 intro a0 a1 k
 unfold laws_heldHeap.f
 repeat' first
   | (with_reducible exact laws_heldNodeS.mono _ _ _)
   | (with_reducible exact LeO.refl _)
   | (with_reducible exact LeO.none _)
   | (with_reducible refine LeO.ite ?_ ?_)
   | (with_reducible refine LeO.bind ?_ (fun _ => ?_))
   | exact laws_heldNodeS.mono _ _ _
   | exact LeO.none _
   | refine LeO.ite ?_ ?_
   | refine LeO.bind ?_ (fun _ => ?_)
set_option maxHeartbeats 8000000 in
set_option maxRecDepth 100000 in
theorem laws_heldHeap.calls (k : Nat) (A0_0 : Option Addr) (c0_0 : Nat) (l0_0 : List (S72)) (a1 : Int) (r : Int) (w : World) (hr0_0 : Kd.C k72 w A0_0 l0_0.length l0_0) (hc0_0 : l0_0.length ≤ c0_0) (h : laws_heldHeap.f k l0_0 a1 = some r) :
  Calls Try.prog 48 #[.agg #[.slice A0_0 l0_0.length c0_0], .int .i64 a1] w fun e w' => e = .returned (.int .i64 r) ∧ Below w.heap.size w w' := by
 have hu60 := Try.underlying60
 have HR0_0 := Aside0.mk hr0_0
 have HC0_0 := Aside0.mk hc0_0
 clear hr0_0 hc0_0
 have HB := Aside0.mk (Below.refl w.heap.size w)
 have H : ((laws_heldNodeS.f k l0_0 a1).bind fun t785 => (if t785 < 0 then (some (-1)) else (some t785))) = some r := h
 clear h
 replace H := Option.bind_eq_some_iff.mp H
 obtain ⟨t785, A30, H⟩ := H
 replace H : (if t785 < 0 then (some (-1)) else (some t785)) = some r := H
 have A3 := Aside0.mk A30
 clear A30
 by_cases c4 : t785 < 0
 ·rw [if_pos c4] at H
  have c4b0 : decide (t785 < 0) = true := decide_eq_true c4
  clear c4
  obtain rfl := Option.some.inj H
  go_enter Try.func48, Try.ntmps48
  go_wp2_with (first | ((with_reducible refine gate_dst (N := 2) rfl ?_); refine box_event ?hg (N := 2) ?hd (cs := #[.slice A0_0 l0_0.length c0_0]) (t := 60) ?hr ?_; (case hd => rfl); (case hg => rfl); (case hr => first | (go_simp; done) | (go_simp; rfl)); intro gb784 hg w5 hbox hb; have n0_ := Aside0.mk (below_step (by repeat (first | (with_reducible first | exact HB.out | apply below_alloc | apply pw_below_drewN | apply below_drew1) | exact HB.out)) hb); have n1_ := Aside0.mk (hbox); have n2_ := Aside0.mk ((by rw [hg]; exact (below_size (by repeat (first | (with_reducible first | exact HB.out | apply below_alloc | apply pw_below_drewN | apply below_drew1) | exact HB.out))) : w.heap.size ≤ gb784)); have n3_ := Aside0.mk ((by rw [hg]; exact (below_size (by repeat (first | (with_reducible first | exact HB.out | apply below_alloc | apply pw_below_drewN | apply below_drew1) | exact HB.out))) : w.heap.size ≤ gb784)); clear HB; have HB := n0_; have BK784 := n1_; have GW784 := n2_; have GE784 := n3_; clear n0_ n1_ n2_ n3_; clear hb hbox hg; have hcz6_0 : w5.cell? ⟨gb784, 0, none⟩ = some (.slice A0_0 l0_0.length c0_0) := (blk_cell BK784.out 0).trans rfl; have hfz6_0 := blk_frozen BK784.out 0) | ((with_reducible refine gate_callee (f := 96) rfl ?_); refine goesL_ (some 8) rfl rfl Try.func96 (by kernel_rfl) rfl #[.slice A0_0 l0_0.length c0_0, .int .i64 a1] rfl (by (try simp only [List.map_toArray, List.map_cons, List.map_nil]); first | done | rfl | (simp only [List.length_drop, List.length_take]; rfl)) ?_; (with_reducible refine (laws_heldNodeS.calls k _ _ l0_0 a1 t785 _ ?side1 ?side2 A3.out).mono ?_); (case side1 => repeat (first | exact (Kd.C_below HR0_0.out HB.out) | (with_reducible refine Kd.C_alloc ?_ _) | (with_reducible refine Kd.C_drewN ?_ _) | (with_reducible refine Kd.C_drew ?_))); (case side2 => exact HC0_0.out); rintro e w7 ⟨rfl, hb⟩; refine ⟨_, rfl, ?_⟩; have n0_ := Aside0.mk (blk_below (g := gb784) (o := .cells #[.slice A0_0 l0_0.length c0_0] 60 (0, 0)) (by (with_reducible repeat (first | refine blk_drewN ?_ _ | refine blk_drew ?_ | refine blk_alloc ?_ _)); exact BK784.out) hb); have n1_ := Aside0.mk (below_step (by repeat (first | (with_reducible first | exact HB.out | apply below_alloc | apply pw_below_drewN | apply below_drew1 | refine below_set ?_ GE784.out) | exact HB.out)) hb); clear BK784; clear HB; have BK784 := n0_; have HB := n1_; clear n0_ n1_; (try clear hb); (try clear hb2); (try clear hk); (try clear hi)))
  go_ret
  exact ⟨by first | rfl | (simp [errW_none, errW_some] <;> rfl) | (simp [*, errW_none, errW_some] <;> rfl), by repeat (first | (with_reducible first | exact HB.out | apply below_alloc | apply pw_below_drewN | apply below_drew1 | refine below_set ?_ GE784.out) | exact HB.out)⟩
 ·rw [if_neg c4] at H
  have c4b0 : decide (t785 < 0) = false := decide_eq_false c4
  clear c4
  obtain rfl := Option.some.inj H
  go_enter Try.func48, Try.ntmps48
  go_wp2_with (first | ((with_reducible refine gate_dst (N := 2) rfl ?_); refine box_event ?hg (N := 2) ?hd (cs := #[.slice A0_0 l0_0.length c0_0]) (t := 60) ?hr ?_; (case hd => rfl); (case hg => rfl); (case hr => first | (go_simp; done) | (go_simp; rfl)); intro gb784 hg w8 hbox hb; have n0_ := Aside0.mk (below_step (by repeat (first | (with_reducible first | exact HB.out | apply below_alloc | apply pw_below_drewN | apply below_drew1) | exact HB.out)) hb); have n1_ := Aside0.mk (hbox); have n2_ := Aside0.mk ((by rw [hg]; exact (below_size (by repeat (first | (with_reducible first | exact HB.out | apply below_alloc | apply pw_below_drewN | apply below_drew1) | exact HB.out))) : w.heap.size ≤ gb784)); have n3_ := Aside0.mk ((by rw [hg]; exact (below_size (by repeat (first | (with_reducible first | exact HB.out | apply below_alloc | apply pw_below_drewN | apply below_drew1) | exact HB.out))) : w.heap.size ≤ gb784)); clear HB; have HB := n0_; have BK784 := n1_; have GW784 := n2_; have GE784 := n3_; clear n0_ n1_ n2_ n3_; clear hb hbox hg; have hcz9_0 : w8.cell? ⟨gb784, 0, none⟩ = some (.slice A0_0 l0_0.length c0_0) := (blk_cell BK784.out 0).trans rfl; have hfz9_0 := blk_frozen BK784.out 0) | ((with_reducible refine gate_callee (f := 96) rfl ?_); refine goesL_ (some 8) rfl rfl Try.func96 (by kernel_rfl) rfl #[.slice A0_0 l0_0.length c0_0, .int .i64 a1] rfl (by (try simp only [List.map_toArray, List.map_cons, List.map_nil]); first | done | rfl | (simp only [List.length_drop, List.length_take]; rfl)) ?_; (with_reducible refine (laws_heldNodeS.calls k _ _ l0_0 a1 t785 _ ?side1 ?side2 A3.out).mono ?_); (case side1 => repeat (first | exact (Kd.C_below HR0_0.out HB.out) | (with_reducible refine Kd.C_alloc ?_ _) | (with_reducible refine Kd.C_drewN ?_ _) | (with_reducible refine Kd.C_drew ?_))); (case side2 => exact HC0_0.out); rintro e w10 ⟨rfl, hb⟩; refine ⟨_, rfl, ?_⟩; have n0_ := Aside0.mk (blk_below (g := gb784) (o := .cells #[.slice A0_0 l0_0.length c0_0] 60 (0, 0)) (by (with_reducible repeat (first | refine blk_drewN ?_ _ | refine blk_drew ?_ | refine blk_alloc ?_ _)); exact BK784.out) hb); have n1_ := Aside0.mk (below_step (by repeat (first | (with_reducible first | exact HB.out | apply below_alloc | apply pw_below_drewN | apply below_drew1 | refine below_set ?_ GE784.out) | exact HB.out)) hb); clear BK784; clear HB; have BK784 := n0_; have HB := n1_; clear n0_ n1_; (try clear hb); (try clear hb2); (try clear hk); (try clear hi)))
  go_ret
  exact ⟨by first | rfl | (simp [errW_none, errW_some] <;> rfl) | (simp [*, errW_none, errW_some] <;> rfl), by repeat (first | (with_reducible first | exact HB.out | apply below_alloc | apply pw_below_drewN | apply below_drew1 | refine below_set ?_ GE784.out) | exact HB.out)⟩
end Go.Proofs.Ytcpcifgpcemaeaa.X
namespace Go.Proofs.Ytcpcifgpcemaeaa.X
open Go.RowKit Go.Proofs.YtcpcifgpcemaeaaW.PrintWords Go.Proofs.YtcpcifgpcemaeaaW.PrintLast Go.Proofs.YtcpcifgpcemaeaaW.PrintMore
attribute [local go_sem] xbin_geq xbin_leq xbin_gtr max2_int min2_int max_two min_two max_three min_three max_four min_four
set_option linter.unusedVariables false
set_option linter.unusedSimpArgs false
theorem costNs_rep (n : Nat) : costNs (List.replicate n z72) = n := by
  induction n with
  | zero => rfl
  | succ n ih =>
    rw [List.replicate_succ, costNs, ih]
    show 1 + 2 * 0 + 0 + 0 + n = n + 1
    omega
theorem S_addr {w : World} {base : Nat} {ok : Nat → Prop} {v : Value} {l : List S72} (h : Kd.S k72 72 w base ok v l) (hl : 0 < l.length) : ∃ g c, v = .slice (some ⟨g, 0, none⟩) l.length c := by
  obtain ⟨_, inner, hown, _⟩ := Kd.S_R h
  rcases hown.2 with ⟨_, hn⟩ | ⟨g', cap', cur, hv, _⟩
  · omega
  · exact ⟨g', cap', hv⟩
theorem alloc_size (w : World) (o : Obj) : (w.alloc o).heap.size = w.heap.size + 1 := by
  show (w.heap.push _).size = _
  rw [Array.size_push]
set_option maxHeartbeats 4000000 in
set_option maxRecDepth 100000 in
theorem walk_NewHeap (w : World) : Calls Try.prog 12 #[] w fun e w' => e = .returned (.bool true) ∧ Below w.heap.size w w' := by
  have hu := Try.underlying60
  obtain ⟨l, hl⟩ : ∃ l, l = List.replicate 50 z72 := ⟨_, rfl⟩
  have hll : l.length = 50 := by rw [hl, List.length_replicate]
  have hcl : costNs l = 50 := by rw [hl, costNs_rep]
  have hsp : spec_NewHeap.f = some l := by rw [hl]; unfold spec_NewHeap.f; rw [if_pos (by omega)]
  have him : impl_NewHeap.f = some l := by rw [hl]; unfold impl_NewHeap.f; rw [if_pos (by omega)]
  obtain ⟨ke, hke⟩ := eq_NodeS l ⟨by omega, fun y hy => by
    rw [hl] at hy
    rw [List.eq_of_mem_replicate hy]
    exact ⟨trivial, ⟨by show 0 ≤ _; omega, fun y hy => by cases hy⟩, by show 0 ≤ _; omega, by show 0 ≤ _; omega⟩⟩
  obtain ⟨kh, hkh⟩ := held_NodeS l 1 (by omega) (by omega)
  have hke : laws_eqHeap.f ke l l = some true := by unfold laws_eqHeap.f; rw [show laws_eqNodeS.f ke l l = some true from hke ke (Nat.le_refl _)]; rfl
  have hkh : laws_heldHeap.f kh (mkNodes l 1) 1 = some 51 := by
    unfold laws_heldHeap.f
    rw [show laws_heldNodeS.f kh (mkNodes l 1) 1 = some (1 + (costNs l : Int)) from hkh kh (Nat.le_refl _), hcl]
    rfl
  have HKE := Aside0.mk hke
  have HKH := Aside0.mk hkh
  have HSP := Aside0.mk hsp
  have HIM := Aside0.mk him
  have hml := mkNodes_length l 1
  rw [hll] at hml
  have HML := Aside0.mk hml
  have HLL := Aside0.mk hll
  have HCL := Aside0.mk hcl
  clear hke hkh hsp him hml hll hcl hl
  go_enter Try.func12, Try.ntmps12
  go_wp2_with fail
  refine (spec_NewHeap.calls l w HSP.out).mono ?_
  rintro e w1 ⟨v0, rfl, hs0, hb1⟩
  obtain ⟨g0, c0, rfl⟩ := S_addr hs0 (by rw [HLL.out]; omega)
  have z1 := alloc_size w1 (.cells #[.slice (some ⟨g0, 0, none⟩) l.length c0] 60 (0, 0))
  have HB1 := Aside0.mk (below_alloc hb1 (.cells #[.slice (some ⟨g0, 0, none⟩) l.length c0] 60 (0, 0)))
  have HS0 := Aside0.mk (Kd.R_alloc (Kd.R_mono (Kd.R_bound (Kd.S_R hs0)) (fun k hk => (show w.heap.size ≤ k ∧ k < w1.heap.size from ⟨hk.2.1, hk.2.2.1⟩))) (.cells #[.slice (some ⟨g0, 0, none⟩) l.length c0] 60 (0, 0)))
  have HK0 := Aside0.mk (blk_new w1 (.cells #[.slice (some ⟨g0, 0, none⟩) l.length c0] 60 (0, 0)))
  clear hs0 hb1
  go_wp2_with fail
  refine (impl_NewHeap.calls l _ HIM.out).mono ?_
  rintro e w2 ⟨v1, rfl, hs1, hb2⟩
  obtain ⟨g1, c1, rfl⟩ := S_addr hs1 (by rw [HLL.out]; omega)
  have z2 := hb2.size
  have z3 := alloc_size w2 (.cells #[.slice (some ⟨g1, 0, none⟩) l.length c1] 60 (0, 0))
  have HB2 := Aside0.mk (below_alloc hb2 (.cells #[.slice (some ⟨g1, 0, none⟩) l.length c1] 60 (0, 0)))
  have HS1 := Aside0.mk (Kd.S_alloc (Kd.S_mono (Kd.S_bound hs1) (fun k hk => (show (w1.alloc (.cells #[.slice (some ⟨g0, 0, none⟩) l.length c0] 60 (0, 0))).heap.size ≤ k ∧ k < w2.heap.size from ⟨hk.2.1, hk.2.2.1⟩))) (.cells #[.slice (some ⟨g1, 0, none⟩) l.length c1] 60 (0, 0)))
  have HS02 := Aside0.mk (Kd.R_alloc (Kd.R_below HS0.out hb2) (.cells #[.slice (some ⟨g1, 0, none⟩) l.length c1] 60 (0, 0)))
  have HK02 := Aside0.mk (blk_alloc (blk_below HK0.out hb2) (.cells #[.slice (some ⟨g1, 0, none⟩) l.length c1] 60 (0, 0)))
  have HK1 := Aside0.mk (blk_new w2 (.cells #[.slice (some ⟨g1, 0, none⟩) l.length c1] 60 (0, 0)))
  clear hs1 hb2
  have b0 := blk_cell HK02.out 0
  have b1 := blk_cell HK1.out 0
  simp only [List.getElem?_toArray, List.getElem?_cons_zero] at b0 b1
  go_wp2_with fail
  refine (laws_eqHeap.calls ke _ _ l _ _ l true _ (Kd.S_reads' HS1.out).2.2 (Kd.S_reads' HS1.out).2.1 (Kd.R_reads' HS02.out).2.2 (Kd.R_reads' HS02.out).2.1 HKE.out).mono ?_
  rintro e w3 ⟨rfl, hb3⟩
  have HB3 := Aside0.mk (below_step HB2.out hb3)
  have HS13 := Aside0.mk (Kd.S_below HS1.out hb3)
  have HS03 := Aside0.mk (Kd.R_below HS02.out hb3)
  have HK03 := Aside0.mk (blk_below HK02.out hb3)
  have HK13 := Aside0.mk (blk_below HK1.out hb3)
  clear hb3 b0 b1
  have b0 := blk_cell HK03.out 0
  have b1 := blk_cell HK13.out 0
  simp only [List.getElem?_toArray, List.getElem?_cons_zero] at b0 b1
  go_wp2_with fail
  refine (markHeap_at _ g1 l.length c1 l 1 _ w3 HB3.out HS13.out (by omega) (by rw [HCL.out]; omega)).mono ?_
  rintro e w4 ⟨rfl, hs4, hb4, hk4⟩
  have HB4 := Aside0.mk hb4
  have HS14 := Aside0.mk hs4
  have HS04 := Aside0.mk (Kd.R_kept HS03.out hk4 (fun k hk hn => absurd hn.1 (by omega)))
  have HK04 := Aside0.mk (blk_kept HK03.out hk4 (fun hn => absurd hn.1 (by omega)))
  have HK14 := Aside0.mk (blk_kept HK13.out hk4 (fun hn => absurd hn.2 (by omega)))
  have hm51 : (1 : Int) + (costNs l : Int) = 51 := by rw [HCL.out]; rfl
  rw [hm51]
  clear hs4 hb4 hk4 b0 b1
  have HR4 := Aside0.mk (Kd.S_reads' HS14.out)
  have b0 := blk_cell HK04.out 0
  have b1 := blk_cell HK14.out 0
  simp only [List.getElem?_toArray, List.getElem?_cons_zero] at b0 b1
  go_wp2_with fail
  have hh4 := laws_heldHeap.calls kh _ c1 (mkNodes l 1) 1 51 w4 (by exact (Kd.S_reads' HS14.out).2.2) (by rw [← HR4.out.1]; exact HR4.out.2.1) HKH.out
  rw [← HR4.out.1] at hh4
  refine hh4.mono ?_
  rintro e w5 ⟨rfl, hb5⟩
  have HB5 := Aside0.mk (below_step HB4.out hb5)
  have HS15 := Aside0.mk (Kd.S_below HS14.out hb5)
  have HS05 := Aside0.mk (Kd.R_below HS04.out hb5)
  have HK05 := Aside0.mk (blk_below HK04.out hb5)
  have HK15 := Aside0.mk (blk_below HK14.out hb5)
  clear hb5 b0 b1 hh4
  have b0 := blk_cell HK05.out 0
  have b1 := blk_cell HK15.out 0
  simp only [List.getElem?_toArray, List.getElem?_cons_zero] at b0 b1
  go_wp2_with fail
  refine (impl_NewHeap.calls l _ HIM.out).mono ?_
  rintro e w6 ⟨v2, rfl, hs6, hb6⟩
  obtain ⟨g2, c2, rfl⟩ := S_addr hs6 (by rw [HLL.out]; omega)
  have HB6 := Aside0.mk (below_alloc (below_step HB5.out hb6) (.cells #[.slice (some ⟨g2, 0, none⟩) l.length c2] 60 (0, 0)))
  have HS16 := Aside0.mk (Kd.S_alloc (Kd.S_below HS15.out hb6) (.cells #[.slice (some ⟨g2, 0, none⟩) l.length c2] 60 (0, 0)))
  have HS06 := Aside0.mk (Kd.R_alloc (Kd.R_below HS05.out hb6) (.cells #[.slice (some ⟨g2, 0, none⟩) l.length c2] 60 (0, 0)))
  have HS26 := Aside0.mk (Kd.S_alloc hs6 (.cells #[.slice (some ⟨g2, 0, none⟩) l.length c2] 60 (0, 0)))
  have HK06 := Aside0.mk (blk_alloc (blk_below HK05.out hb6) (.cells #[.slice (some ⟨g2, 0, none⟩) l.length c2] 60 (0, 0)))
  have HK16 := Aside0.mk (blk_alloc (blk_below HK15.out hb6) (.cells #[.slice (some ⟨g2, 0, none⟩) l.length c2] 60 (0, 0)))
  have HK26 := Aside0.mk (blk_new w6 (.cells #[.slice (some ⟨g2, 0, none⟩) l.length c2] 60 (0, 0)))
  clear hs6 hb6 b0 b1
  have b0 := blk_cell HK06.out 0
  have b1 := blk_cell HK16.out 0
  have b2 := blk_cell HK26.out 0
  simp only [List.getElem?_toArray, List.getElem?_cons_zero] at b0 b1 b2
  go_wp2_with fail
  refine (laws_eqHeap.calls ke _ _ l _ _ l true _ (Kd.S_reads' HS26.out).2.2 (Kd.S_reads' HS26.out).2.1 (Kd.R_reads' HS06.out).2.2 (Kd.R_reads' HS06.out).2.1 HKE.out).mono ?_
  rintro e w7 ⟨rfl, hb7⟩
  have HB7 := Aside0.mk (below_step HB6.out hb7)
  have HS17 := Aside0.mk (Kd.S_below HS16.out hb7)
  have HK17 := Aside0.mk (blk_below HK16.out hb7)
  clear hb7 b0 b1 b2
  have HR7 := Aside0.mk (Kd.S_reads' HS17.out)
  have b1 := blk_cell HK17.out 0
  simp only [List.getElem?_toArray, List.getElem?_cons_zero] at b1
  go_wp2_with fail
  have hh7 := laws_heldHeap.calls kh _ c1 (mkNodes l 1) 1 51 w7 (by exact (Kd.S_reads' HS17.out).2.2) (by rw [← HR7.out.1]; exact HR7.out.2.1) HKH.out
  rw [← HR7.out.1] at hh7
  refine hh7.mono ?_
  rintro e w8 ⟨rfl, hb8⟩
  have HB8 := Aside0.mk (below_step HB7.out hb8)
  clear hb8 b1 hh7
  go_wp2_with fail
  go_ret
  exact ⟨rfl, below_step HB1.out HB8.out⟩
def laws_FnExactNewHeap.f : Option Bool := some true
theorem laws_FnExactNewHeap.calls (r : Bool) (w : World) (h : laws_FnExactNewHeap.f = some r) :
    Calls Try.prog 12 #[] w fun e w' => e = .returned (.bool r) ∧ Below w.heap.size w w' := by
  obtain rfl := Option.some.inj h
  exact walk_NewHeap w
end Go.Proofs.Ytcpcifgpcemaeaa.X
namespace Go.Proofs.Ytcpcifgpcemaeaa.X
open Go.RowKit Go.Proofs.YtcpcifgpcemaeaaW.PrintWords Go.Proofs.YtcpcifgpcemaeaaW.PrintLast Go.Proofs.YtcpcifgpcemaeaaW.PrintMore
attribute [local go_sem] xbin_geq xbin_leq xbin_gtr max2_int min2_int max_two min_two max_three min_three max_four min_four
set_option linter.unusedVariables false
set_option linter.unusedSimpArgs false
def laws_FnExactNewHeap.Pure : Prop := laws_FnExactNewHeap.f  = some true
end Go.Proofs.Ytcpcifgpcemaeaa.X
set_option linter.unusedSimpArgs false
set_option linter.unusedVariables false
namespace Go.Proofs.Ytcpcifgpcemaeaa.X.Pure
open Go.RowKit Go.Proofs.Ytcpcifgpcemaeaa.X Go.Proofs.YtcpcifgpcemaeaaW.PrintWords Go.Proofs.YtcpcifgpcemaeaaW.PrintLast
theorem FnExactNewHeap : laws_FnExactNewHeap.Pure := by
  show laws_FnExactNewHeap.f = some true
  rfl
end Go.Proofs.Ytcpcifgpcemaeaa.X.Pure
namespace Go.Proofs.Ytcpcifgpcemaeaa.fnExactNewHeap
open Go.ChangeShapes Go.WideShapes Go.ChangeAt Go.RowKit Go.Proofs.Ytcpcifgpcemaeaa.X Go.Proofs.YtcpcifgpcemaeaaW.PrintWords
open Go.ChangeMaps (open_string shut_string)
set_option linter.unusedVariables false
theorem own : ownKnob Try.prog.godebug = none := by kernel_rfl
theorem laidOut : laidOutB Try.prog = true := by kernel_rfl
set_option maxRecDepth 100000 in
theorem lifted (os : Os) (started : os.Started) (H : Type) (enc : TypeId × Value → H) :
    ReturnsInHanded {} Try.checked os 12 .any (Rows.fnExactNewHeapSpec.pre6 enc Try.prog Try.f12 Rows.fnExactNewHeapRow.domain false) (Rows.fnExactNewHeapSpec.post enc Try.prog Try.f12 false true false false) := by
  refine returnsInHanded_of_change_sized (C := Try.checked) own started (by kernel_rfl) Try.func12
    (ChangeSpec.witness6 (enc := enc) (C := Try.checked) false ⟨#[], #[], []⟩ 8 (by kernel_rfl) (by kernel_rfl) (by kernel_rfl) (by kernel_rfl)) ?_
  intro W base args ds gs before hval0 hW hcnd hsz0 _
  have hsz : (DataW.weightsEach Try.prog (Try.f12.params.toList ++ Rows.fnExactNewHeapSpec.plain.varTypes Try.prog) (ds ++ gs)).all (· ≤ reachBytes) = true := hsz0
  have hval : ∀ (j : Nat) t v, Try.f12.params[j]? = some t → args[j]? = some v → Value.okWide Try.prog W .any base t v := hval0
  have hW' := hW
  obtain ⟨p, q, hA0, hV, rfl, hfz, hnd⟩ := hW
  have hA : DataW.TrodAll enc Try.prog W 0 (fun _ => true) true Try.f12.params.toList args.toList ds p := hA0
  rw [Try.params12] at hA hval hsz
  obtain ⟨rfl, rfl, rfl⟩ := trodAll_none hA
  obtain ⟨rfl, rfl⟩ := trodVars_none hV
  clear hA0 hval0 hsz0 hsz
  have hP := X.Pure.FnExactNewHeap
  refine (laws_FnExactNewHeap.calls  true W  hP).mono fun e W' hQ => ?_
  obtain ⟨he, bel0⟩ := hQ
  subst he
  have bel : Below W.heap.size W W' := bel0
  exact ⟨_, rfl, _, _, _, [], _, [], hW', trodAll_mk1 (shut_bool Try.underlying4 _), trodAll_mk0, rfl, bel.frame _, fun h => by cases h⟩
theorem over : Rows.fnExactNewHeapRow.holds Try.pinned (OpenSpec.ofChange Rows.fnExactNewHeapSpec) :=
  OpenClaim.holds_of_wide 12 Try.f12 rfl rfl rfl rfl rfl rfl rfl ⟨rfl, rfl, rfl, rfl, rfl⟩ rfl rfl rfl rfl rfl (by kernel_rfl) Try.func12 (by kernel_rfl)
    (of_decide_eq_true (by kernel_rfl)) (by unfold Func.isWrapper; first | (rw [if_pos (by decide +kernel)]; kernel_rfl) | (rw [if_neg (by decide +kernel)]; exact ⟨rfl, rfl⟩))
    (fun os started H enc _ => lifted os started H enc)
theorem proved : Rows.FnExactNewHeapSaid := over
end Go.Proofs.Ytcpcifgpcemaeaa.fnExactNewHeap
namespace Go.Proofs.Ytcpcifgpcemaeaa
theorem fnExactNewHeap_holds : Rows.FnExactNewHeapSaid := fnExactNewHeap.proved
end Go.Proofs.Ytcpcifgpcemaeaa
