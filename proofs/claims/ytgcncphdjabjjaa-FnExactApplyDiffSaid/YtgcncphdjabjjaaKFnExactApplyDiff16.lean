import Derived.Test.YtgcncphdjabjjaaKFnExactApplyDiff3
import Derived.Test.YtgcncphdjabjjaaKFnExactApplyDiff10
import Derived.Test.YtgcncphdjabjjaaKFnExactApplyDiff14
import Derived.Test.YtgcncphdjabjjaaKFnExactApplyDiff15
namespace Go.Proofs.Ytgcncphdjabjjaa.X
open Go.RowKit Go.Proofs.YtgcncphdjabjjaaW.PrintWords Go.Proofs.YtgcncphdjabjjaaW.PrintLast Go.Proofs.YtgcncphdjabjjaaW.PrintMore
attribute [local go_sem] xbin_geq xbin_leq xbin_gtr max2_int min2_int max_two min_two max_three min_three max_four min_four
set_option linter.unusedVariables false
set_option linter.unusedSimpArgs false
def spec_l01Drop.l0 : Nat → List (S76) → ByteArray → List (S76) → Int → Option ((List (S76)))
 | 0, _, _, _, _ => none
 | k + 1, x0, x1, x5, x6 => if x6 < (x0.length : Int) then (if 0 ≤ x6 then (if ((rd_T76 x0 x6).f0).toList = x1.toList then (spec_l01Drop.l0 k x0 x1 x5 (wrap64 (x6 + 1))) else (if x5.length < 4398046511104 then (spec_l01Drop.l0 k x0 x1 (x5 ++ [(⟨(rd_T76 x0 x6).f0, (rd_T76 x0 x6).f1⟩ : S76)]) (wrap64 (x6 + 1))) else (none))) else (none)) else (some x5)
def spec_l01Drop.f (k : Nat) (l0 : List (S76)) (a1 : ByteArray) : Option ((List (S76))) := spec_l01Drop.l0 k l0 a1 (([] : List (S76))) 0
theorem spec_l01Drop.mono_l : ∀ k, (∀ y0 y1 y2 y3, LeO (spec_l01Drop.l0 k y0 y1 y2 y3) (spec_l01Drop.l0 (k + 1) y0 y1 y2 y3))
 | 0 => fun _ _ _ _ r h => by simp [spec_l01Drop.l0] at h
 | k + 1 => by
  have ih0 := spec_l01Drop.mono_l k
  ·intro y0 y1 y2 y3
   unfold spec_l01Drop.l0
   repeat' first
   | (with_reducible exact ih0 _ _ _ _)
   | (with_reducible exact LeO.refl _)
   | (with_reducible exact LeO.none _)
   | (with_reducible refine LeO.ite ?_ ?_)
   | (with_reducible refine LeO.bind ?_ (fun _ => ?_))
   | exact ih0 _ _ _ _
   | exact LeO.none _
   | refine LeO.ite ?_ ?_
   | refine LeO.bind ?_ (fun _ => ?_)
theorem spec_l01Drop.mono : ∀ a0 a1 k, LeO (spec_l01Drop.f k a0 a1) (spec_l01Drop.f (k + 1) a0 a1) := by
 intro a0 a1 k
 have ih0 := spec_l01Drop.mono_l k
 unfold spec_l01Drop.f
 repeat' first
   | (with_reducible exact ih0 _ _ _ _)
   | (with_reducible exact LeO.refl _)
   | (with_reducible exact LeO.none _)
   | (with_reducible refine LeO.ite ?_ ?_)
   | (with_reducible refine LeO.bind ?_ (fun _ => ?_))
   | exact ih0 _ _ _ _
   | exact LeO.none _
   | refine LeO.ite ?_ ?_
   | refine LeO.bind ?_ (fun _ => ?_)
set_option maxHeartbeats 8000000 in
set_option maxRecDepth 100000 in
theorem spec_l01Drop.calls (k : Nat) (A0 : Option Addr) (c0 : Nat) (l0 : List (S76)) (a1 : ByteArray) (r : List (S76)) (w : World) (hr0 : Kd.C k76 w A0 l0.length l0) (hc0 : l0.length ≤ c0) (h : spec_l01Drop.f k l0 a1 = some r) :
  Calls Try.prog 89 #[.slice A0 l0.length c0, .string a1] w fun e w' => ∃ v0_ : Value, e = .returned (v0_) ∧ Kd.R k76 76 w' w.heap.size (fun _ => True) v0_ r ∧ Below w.heap.size w w' := by
 have hu76 := Try.underlying76
 have HR0 := Aside0.mk hr0
 have HC0 := Aside0.mk hc0
 clear hr0 hc0
 have HB := Aside0.mk (Below.refl w.heap.size w)
 have H : (spec_l01Drop.l0 k l0 a1 (([] : List (S76))) 0) = some r := h
 clear h
 obtain ⟨y421, hy421⟩ : ∃ y_ : List (S76), y_ = (([] : List (S76))) := ⟨_, rfl⟩
 replace H : (spec_l01Drop.l0 k l0 a1 y421 0) = some r := by first | (rw [hy421]; with_reducible exact H) | (have H2_ := (Option.bind_some _ _).symm.trans H; rw [hy421]; with_reducible exact H2_) | (have H2_ := (Option.bind_some _ _).symm.trans H; with_reducible exact H2_) | with_reducible exact H | (rw [hy421]; exact H) | exact H
 have Ny421 := Aside0.mk hy421
 clear hy421
 have H' := Aside0.mk H
 clear H
 go_enter Try.func89, Try.ntmps89
 go_wp2_with (first | ((with_reducible refine gate_dst (N := 7) rfl ?_); refine Kd.R_lit k76 _ 76 ?hg (N := 7) ?hd (xs := ([] : List (S76))) (inner := []) (ok := fun _ => True) (okp := fun _ => True) ?hr ?hp (fun _ hk => hk) trivial (Below.refl _ _) (Nat.le_refl _) (by simp) ?_; (case hd => rfl); (case hg => rfl); (case hr => first | (go_simp; done) | (go_simp; rfl)); (case hp => exact (Reps.none _ _)); intro v422 w3 ho4 hb hg_ hnew_; clear hg_ hnew_; (first | rw [← Ny421.out] at ho4 | (simp only [Int.reduceToNat] at ho4; rw [← Ny421.out] at ho4)); have n0_ := Aside0.mk (Kd.R_lower ho4 (below_size (by repeat (first | (with_reducible first | exact HB.out | apply below_alloc | apply pw_below_drewN | apply below_drew1) | exact HB.out)))); have n1_ := Aside0.mk (below_step (by repeat (first | (with_reducible first | exact HB.out | apply below_alloc | apply pw_below_drewN | apply below_drew1) | exact HB.out)) hb); clear HB; have HO423 := n0_; have HB := n1_; clear n0_ n1_; clear hb ho4))
 go_loopg [5, 6] k (fun kq v5 v6 w' => ∃ (x5_1 : List (S76)) (x6_1 : Int), v6 = .int .i64 x6_1 ∧ Aside0 (spec_l01Drop.l0 kq l0 a1 x5_1 x6_1 = some r) ∧ Aside0 (kq ≤ k) ∧ Aside0 (Kd.R k76 76 w' w.heap.size (fun _ => True) v5 x5_1) ∧ Aside0 (Below w.heap.size w w'))
 case atStart => exact ⟨(y421), (0), (by first | rfl | (simp; done) | (simp [*]; done)), H', ⟨Nat.le_refl _⟩, ⟨by (with_reducible repeat (first | apply Kd.R_alloc | apply Kd.R_drewN | apply Kd.R_drew)); exact HO423.out⟩, ⟨by repeat (first | (with_reducible first | exact HB.out | apply below_alloc | apply pw_below_drewN | apply below_drew1) | exact HB.out)⟩⟩
 case round =>
  clear H'
  try clear p2
  obtain ⟨x5_1, x6_1, rfl, HA, HK1, HO_5, HB⟩ := hrel
  cases gk with
  | zero => exact absurd HA.out (by simp [spec_l01Drop.l0])
  | succ k1 =>
   have H := HA.out
   clear HA
   simp only [spec_l01Drop.l0] at H
   by_cases c5 : x6_1 < (l0.length : Int)
   ·rw [if_pos c5] at H
    have c5b0 : decide (x6_1 < (l0.length : Int)) = true := decide_eq_true c5
    clear c5
    by_cases c6 : 0 ≤ x6_1
    ·rw [if_pos c6] at H
     have c6b0 : decide (0 ≤ x6_1) = true := decide_eq_true c6
     clear c6
     by_cases c7 : ((rd_T76 l0 x6_1).f0).toList = a1.toList
     ·rw [if_pos c7] at H
      have c7b0 : (((rd_T76 l0 x6_1).f0).toList == a1.toList) = true := beq_iff_eq.mpr c7
      have c7b1 : (((rd_T76 l0 x6_1).f0).toList != a1.toList) = false := bne_eq_false_iff_eq.mpr c7
      clear c7
      have H' := Aside0.mk H
      clear H
      have p424 : 0 ≤ (x6_1 : Int) := of_decide_eq_true (by first | (with_reducible assumption) | assumption)
      have q424 : x6_1 < (l0.length : Int) := of_decide_eq_true (by first | (with_reducible assumption) | assumption)
      obtain ⟨ad424, e424, hx424_0, hx424_1⟩ := at_T76 HR0.out x6_1 p424 q424
      cases e424
      replace hx424_0 := (HB.out.cell (World.block_lt_of_cell? w _ hx424_0)).trans hx424_0
      replace hx424_1 := (HB.out.cell (World.block_lt_of_cell? w _ hx424_1)).trans hx424_1
      replace p424 := eq_true p424
      replace q424 := eq_true q424
      go_wp2
      go_roundg k1
      case measure => have := HK1.out; omega
      case rel => exact ⟨(x5_1), (wrap64 (x6_1 + 1)), (by first | rfl | (simp; done) | (simp [*]; done)), H', ⟨by have := HK1.out; omega⟩, ⟨by (with_reducible repeat (first | apply Kd.R_alloc | apply Kd.R_drewN | apply Kd.R_drew)); exact HO_5.out⟩, ⟨by repeat (first | (with_reducible first | exact HB.out | apply below_alloc | apply pw_below_drewN | apply below_drew1) | exact HB.out)⟩⟩
     ·rw [if_neg c7] at H
      have c7b0 : (((rd_T76 l0 x6_1).f0).toList == a1.toList) = false := beq_eq_false_iff_ne.mpr c7
      have c7b1 : (((rd_T76 l0 x6_1).f0).toList != a1.toList) = true := bne_iff_ne.mpr c7
      by_cases c8 : x5_1.length < 4398046511104
      ·rw [if_pos c8] at H
       have LMc8 := Aside0.mk c8
       clear c8
       obtain ⟨y426, hy426⟩ : ∃ y_ : List (S76), y_ = (x5_1 ++ [(⟨(rd_T76 l0 x6_1).f0, (rd_T76 l0 x6_1).f1⟩ : S76)]) := ⟨_, rfl⟩
       replace H : (spec_l01Drop.l0 k1 l0 a1 y426 (wrap64 (x6_1 + 1))) = some r := by first | (rw [hy426]; with_reducible exact H) | (have H2_ := (Option.bind_some _ _).symm.trans H; rw [hy426]; with_reducible exact H2_) | (have H2_ := (Option.bind_some _ _).symm.trans H; with_reducible exact H2_) | with_reducible exact H | (rw [hy426]; exact H) | exact H
       have Ny426 := Aside0.mk hy426
       clear hy426
       have H' := Aside0.mk H
       clear H
       have p424 : 0 ≤ (x6_1 : Int) := of_decide_eq_true (by first | (with_reducible assumption) | assumption)
       have q424 : x6_1 < (l0.length : Int) := of_decide_eq_true (by first | (with_reducible assumption) | assumption)
       obtain ⟨ad424, e424, hx424_0, hx424_1⟩ := at_T76 HR0.out x6_1 p424 q424
       cases e424
       replace hx424_0 := (HB.out.cell (World.block_lt_of_cell? w _ hx424_0)).trans hx424_0
       replace hx424_1 := (HB.out.cell (World.block_lt_of_cell? w _ hx424_1)).trans hx424_1
       replace p424 := eq_true p424
       replace q424 := eq_true q424
       have p425 : 0 ≤ (x6_1 : Int) := of_decide_eq_true (by first | (with_reducible assumption) | assumption)
       have q425 : x6_1 < (l0.length : Int) := of_decide_eq_true (by first | (with_reducible assumption) | assumption)
       obtain ⟨ad425, e425, hx425_0, hx425_1⟩ := at_T76 HR0.out x6_1 p425 q425
       obtain rfl : ad424 = ad425 := (by injection e425)
       replace hx425_0 := (HB.out.cell (World.block_lt_of_cell? w _ hx425_0)).trans hx425_0
       replace hx425_1 := (HB.out.cell (World.block_lt_of_cell? w _ hx425_1)).trans hx425_1
       replace p425 := eq_true p425
       replace q425 := eq_true q425
       go_wp2_with (first | ((with_reducible refine gate_builtin (b := .append) (xs := #[.tmp 21, .tmp 26]) rfl ?_); at_builtin; refine Kd.R_append k76 (w0 := w) w.heap.size rfl (.tmp 21) (.tmp 26) 26 76 (.agg #[(.string ⟨#[]⟩), (.string ⟨#[]⟩)]) 32 rfl Try.underlying26 info76 rfl (by decide) (by omega) u5 x5_1 (⟨(rd_T76 l0 x6_1).f0, (rd_T76 l0 x6_1).f1⟩ : S76) [.string ((rd_T76 l0 x6_1).f0), .string ((rd_T76 l0 x6_1).f1)] (fun _ => True) (fun _ => False) rfl rfl ?aP (fun _ hk => hk.elim) ?aF ?aO ?aB ?aS ?aL ?_; (case aP => exact k76_mkM _ _ _ (⟨(rd_T76 l0 x6_1).f0, (rd_T76 l0 x6_1).f1⟩ : S76)); (case aB => exact (by repeat (first | (with_reducible first | exact HB.out | apply below_alloc | apply pw_below_drewN | apply below_drew1) | exact HB.out))); (case aF => exact (fun _ _ => trivial)); (case aO => exact (by (with_reducible repeat (first | apply Kd.R_alloc | apply Kd.R_drewN | apply Kd.R_drew)); exact HO_5.out)); (case aS => exact (below_size (by repeat (first | (with_reducible first | exact HB.out | apply below_alloc | apply pw_below_drewN | apply below_drew1) | exact HB.out)))); (case aL => have := LMc8.out; omega); intro v427 w9 ho hb hg hat; rw [← Ny426.out] at ho; have n0_ := Aside0.mk (hb); have n1_ := Aside0.mk (ho); clear HB; clear HO_5; have HB := n0_; have HO428 := n1_; clear n0_ n1_; clear ho hb hg hat))
       go_roundg k1
       case measure => have := HK1.out; omega
       case rel => exact ⟨(y426), (wrap64 (x6_1 + 1)), (by first | rfl | (simp; done) | (simp [*]; done)), H', ⟨by have := HK1.out; omega⟩, ⟨by (with_reducible repeat (first | apply Kd.R_alloc | apply Kd.R_drewN | apply Kd.R_drew)); exact HO428.out⟩, ⟨by repeat (first | (with_reducible first | exact HB.out | apply below_alloc | apply pw_below_drewN | apply below_drew1) | exact HB.out)⟩⟩
      ·rw [if_neg c8] at H
       exact absurd H (by simp)
    ·rw [if_neg c6] at H
     exact absurd H (by simp)
   ·rw [if_neg c5] at H
    have c5b0 : decide (x6_1 < (l0.length : Int)) = false := decide_eq_false c5
    clear c5
    obtain rfl := Option.some.inj H
    go_wp2
    go_ret
    exact ⟨_, by first | rfl | (simp [errW_none, errW_some] <;> rfl) | (simp [*, errW_none, errW_some] <;> rfl), by (with_reducible repeat (first | apply Kd.R_alloc | apply Kd.R_drewN | apply Kd.R_drew)); exact HO_5.out, by repeat (first | (with_reducible first | exact HB.out | apply below_alloc | apply pw_below_drewN | apply below_drew1) | exact HB.out)⟩
end Go.Proofs.Ytgcncphdjabjjaa.X
namespace Go.Proofs.Ytgcncphdjabjjaa.X
open Go.RowKit Go.Proofs.YtgcncphdjabjjaaW.PrintWords Go.Proofs.YtgcncphdjabjjaaW.PrintLast Go.Proofs.YtgcncphdjabjjaaW.PrintMore
attribute [local go_sem] xbin_geq xbin_leq xbin_gtr max2_int min2_int max_two min_two max_three min_three max_four min_four
set_option linter.unusedVariables false
set_option linter.unusedSimpArgs false
def impl_dropPair.f (l0 : List (S76)) (a1 : ByteArray) : Option ((List (S76))) := (impl_pairAt.f l0 a1).bind fun bt481 => (if bt481.2 = true then ((impl_Pair_113.f l0 bt481.1 (wrap64 (bt481.1 + 1))).bind fun t483 => (some t483)) else (some l0))
set_option maxHeartbeats 8000000 in
set_option maxRecDepth 100000 in
theorem impl_dropPair.calls (P0_ : Nat → Prop) (u9000_ : Value) (l0 : List (S76)) (a1 : ByteArray) (r : List (S76)) (w0 w : World) (hB : Below w0.heap.size w0 w) (ho0 : Kd.R k76 76 w w0.heap.size P0_ u9000_ l0) (h : impl_dropPair.f l0 a1 = some r) :
  Calls Try.prog 93 #[u9000_, .string a1] w fun e w' => ∃ v0_ : Value, e = .returned (v0_) ∧ Kd.R k76 76 w' w0.heap.size (fun k_ => (P0_ k_ ∨ w.heap.size ≤ k_)) v0_ r ∧ Below w0.heap.size w0 w' ∧ Kept w w' (fun k_ => P0_ k_) := by
 have HO0 := Aside0.mk (show Kd.R k76 76 w w0.heap.size (fun k_ => (P0_ k_ ∨ w.heap.size ≤ k_)) u9000_ l0 from Kd.R_mono ho0 (fun k_ hk => (.inl hk)))
 have HK := Aside0.mk (Kept.refl w (fun k_ => P0_ k_))
 have HW0 := Aside0.mk hB.size
 have HB := Aside0.mk hB
 clear hB
 have H : ((impl_pairAt.f l0 a1).bind fun bt481 => (if bt481.2 = true then ((impl_Pair_113.f l0 bt481.1 (wrap64 (bt481.1 + 1))).bind fun t483 => (some t483)) else (some l0))) = some r := h
 clear h
 replace H := Option.bind_eq_some_iff.mp H
 obtain ⟨⟨t481, t482⟩, A30, H⟩ := H
 replace H : (if t482 = true then ((impl_Pair_113.f l0 t481 (wrap64 (t481 + 1))).bind fun t483 => (some t483)) else (some l0)) = some r := H
 have A3 := Aside0.mk A30
 clear A30
 by_cases c4 : t482 = true
 ·subst c4
  have H1 : ((impl_Pair_113.f l0 t481 (wrap64 (t481 + 1))).bind fun t483 => (some t483)) = some r := by rw [if_pos rfl] at H; exact H
  clear H
  have H := H1
  clear H1
  replace H := Option.bind_eq_some_iff.mp H
  obtain ⟨t483, A50, H⟩ := H
  replace H : (some t483) = some r := H
  have A5 := Aside0.mk A50
  clear A50
  obtain rfl := Option.some.inj H
  obtain ⟨Ao6, co6, eo6⟩ := Kd.R_slice HO0.out
  subst eo6
  go_enter Try.func93, Try.ntmps93
  go_wp2_with (first | ((with_reducible refine gate_callee (f := 91) rfl ?_); refine goesL_ (some 10) rfl rfl Try.func91 (by kernel_rfl) rfl #[.slice Ao6 l0.length co6, .string a1] rfl (by (try simp only [List.map_toArray, List.map_cons, List.map_nil]); first | done | rfl | (simp only [List.length_drop, List.length_take]; rfl)) ?_; (with_reducible refine (impl_pairAt.calls _ _ l0 a1 t481 true _ ?side1 ?side2 A3.out).mono ?_); (case side1 => repeat (first | exact (Kd.R_reads' HO0.out).2.2 | (with_reducible refine Kd.C_alloc ?_ _) | (with_reducible refine Kd.C_drewN ?_ _) | (with_reducible refine Kd.C_drew ?_))); (case side2 => exact (Kd.R_reads' HO0.out).2.1); rintro e w7 ⟨rfl, hb⟩; refine ⟨_, rfl, ?_⟩; have n0_ := Aside0.mk (Kd.R_below (by (with_reducible repeat (first | apply Kd.R_alloc | apply Kd.R_drewN | apply Kd.R_drew)); exact HO0.out) hb); have n1_ := Aside0.mk (Kept.below (S := (fun k_ => P0_ k_)) (by repeat (first | (with_reducible first | exact HK.out | apply Kept.alloc | apply Kept.drewN | apply Kept.drew) | exact HK.out)) hb); have n2_ := Aside0.mk (below_step (by repeat (first | (with_reducible first | exact HB.out | apply below_alloc | apply pw_below_drewN | apply below_drew1) | exact HB.out)) hb); clear HO0; clear HK; clear HB; have HO0 := n0_; have HK := n1_; have HB := n2_; clear n0_ n1_ n2_; (try clear hb); (try clear hb2); (try clear hk); (try clear hi)) | ((with_reducible refine gate_callee (f := 113) rfl ?_); refine goesL_ (some 18) rfl rfl Try.func113 (by kernel_rfl) rfl #[.slice Ao6 l0.length co6, .int .i64 t481, .int .i64 (wrap64 (t481 + 1))] rfl (by (try simp only [List.map_toArray, List.map_cons, List.map_nil]); first | done | rfl | (simp only [List.length_drop, List.length_take]; rfl)) ?_; (with_reducible refine (impl_Pair_113.calls (fun k_ => some k_ = (.slice Ao6 l0.length co6 : Value).ownBlock) (.slice Ao6 l0.length co6) l0 t481 (wrap64 (t481 + 1)) t483 w0 _ ?side1 ?side2 A5.out).mono ?_); (case side1 => repeat (first | (with_reducible first | exact HB.out | apply below_alloc | apply pw_below_drewN | apply below_drew1) | exact HB.out)); (case side2 => exact Kd.R_tight rfl HO0.out); rintro e w8 ⟨v484, rfl, ho0, hb, hkp⟩; refine ⟨_, rfl, ?_⟩; have n0_ := Aside0.mk (Kd.R_mono (ok' := fun k_ => (P0_ k_ ∨ w.heap.size ≤ k_)) ho0 (fun k_ hk_ => Or.elim hk_ (fun hs_ => (HO0.out.1 k_ (hs_).symm)) (fun hn_ => (.inr (Nat.le_trans (by first | exact HK.out.1 | exact (show Kept w _ (fun k_ => P0_ k_) from by repeat (first | (with_reducible first | exact HK.out | apply Kept.alloc | apply Kept.drewN | apply Kept.drew) | exact HK.out)).1) hn_))))); have n1_ := Aside0.mk (Kept.then_ (S := (fun k_ => P0_ k_)) (by repeat (first | (with_reducible first | exact HK.out | apply Kept.alloc | apply Kept.drewN | apply Kept.drew) | exact HK.out)) hkp (fun k_ hs_ => (fun e_ => (HO0.out.1 k_ e_.symm)) hs_)); have n2_ := Aside0.mk (hb); clear HK; clear HB; clear HO0; have HO485 := n0_; have HK := n1_; have HB := n2_; clear n0_ n1_ n2_; (try clear hb); (try clear hkp); (try clear ho0)))
  go_ret
  exact ⟨_, by first | rfl | (simp [errW_none, errW_some] <;> rfl) | (simp [*, errW_none, errW_some] <;> rfl), by (with_reducible repeat (first | apply Kd.R_alloc | apply Kd.R_drewN | apply Kd.R_drew)); exact HO485.out, by repeat (first | (with_reducible first | exact HB.out | apply below_alloc | apply pw_below_drewN | apply below_drew1) | exact HB.out), by repeat (first | (with_reducible first | exact HK.out | apply Kept.alloc | apply Kept.drewN | apply Kept.drew) | exact HK.out)⟩
 ·replace c4 := Bool.eq_false_iff.mpr c4
  subst c4
  have H1 : (some l0) = some r := by rw [if_neg (show ¬ (false = true) by decide)] at H; exact H
  clear H
  have H := H1
  clear H1
  obtain rfl := Option.some.inj H
  obtain ⟨Ao9, co9, eo9⟩ := Kd.R_slice HO0.out
  subst eo9
  go_enter Try.func93, Try.ntmps93
  go_wp2_with (first | ((with_reducible refine gate_callee (f := 91) rfl ?_); refine goesL_ (some 10) rfl rfl Try.func91 (by kernel_rfl) rfl #[.slice Ao9 l0.length co9, .string a1] rfl (by (try simp only [List.map_toArray, List.map_cons, List.map_nil]); first | done | rfl | (simp only [List.length_drop, List.length_take]; rfl)) ?_; (with_reducible refine (impl_pairAt.calls _ _ l0 a1 t481 false _ ?side1 ?side2 A3.out).mono ?_); (case side1 => repeat (first | exact (Kd.R_reads' HO0.out).2.2 | (with_reducible refine Kd.C_alloc ?_ _) | (with_reducible refine Kd.C_drewN ?_ _) | (with_reducible refine Kd.C_drew ?_))); (case side2 => exact (Kd.R_reads' HO0.out).2.1); rintro e w10 ⟨rfl, hb⟩; refine ⟨_, rfl, ?_⟩; have n0_ := Aside0.mk (Kd.R_below (by (with_reducible repeat (first | apply Kd.R_alloc | apply Kd.R_drewN | apply Kd.R_drew)); exact HO0.out) hb); have n1_ := Aside0.mk (Kept.below (S := (fun k_ => P0_ k_)) (by repeat (first | (with_reducible first | exact HK.out | apply Kept.alloc | apply Kept.drewN | apply Kept.drew) | exact HK.out)) hb); have n2_ := Aside0.mk (below_step (by repeat (first | (with_reducible first | exact HB.out | apply below_alloc | apply pw_below_drewN | apply below_drew1) | exact HB.out)) hb); clear HO0; clear HK; clear HB; have HO0 := n0_; have HK := n1_; have HB := n2_; clear n0_ n1_ n2_; (try clear hb); (try clear hb2); (try clear hk); (try clear hi)))
  go_ret
  exact ⟨_, by first | rfl | (simp [errW_none, errW_some] <;> rfl) | (simp [*, errW_none, errW_some] <;> rfl), by (with_reducible repeat (first | apply Kd.R_alloc | apply Kd.R_drewN | apply Kd.R_drew)); exact HO0.out, by repeat (first | (with_reducible first | exact HB.out | apply below_alloc | apply pw_below_drewN | apply below_drew1) | exact HB.out), by repeat (first | (with_reducible first | exact HK.out | apply Kept.alloc | apply Kept.drewN | apply Kept.drew) | exact HK.out)⟩
end Go.Proofs.Ytgcncphdjabjjaa.X
namespace Go.Proofs.Ytgcncphdjabjjaa.X
open Go.RowKit Go.Proofs.YtgcncphdjabjjaaW.PrintWords Go.Proofs.YtgcncphdjabjjaaW.PrintLast Go.Proofs.YtgcncphdjabjjaaW.PrintMore
attribute [local go_sem] xbin_geq xbin_leq xbin_gtr max2_int min2_int max_two min_two max_three min_three max_four min_four
set_option linter.unusedVariables false
set_option linter.unusedSimpArgs false
theorem ba_ext {a b : ByteArray} (h : a.toList = b.toList) : a = b := by
  rw [ByteArray.toList_eq, ByteArray.toList_eq] at h
  exact ByteArray.ext (Array.toList_inj.mp h)
theorem rdP_at (l : List S76) (i : Nat) (h : i < l.length) : rd_T76 l (i : Int) = l[i] := by
  unfold rd_T76
  rw [Int.toNat_natCast]
  simp [List.getD_eq_getElem?_getD, h]
theorem hasAt_key {l : List S76} {key : ByteArray} (h : hasAt l key = true) : (l[lowAt l key]'(hasAt_lt h)).f0 = key := by
  have h2 := h
  unfold hasAt at h2
  simp only [Bool.and_eq_true, decide_eq_true_eq] at h2
  rw [rdP_at l _ h2.1] at h2
  exact ba_ext h2.2
theorem spec_drop_loop (key : ByteArray) (rest : List S76) : ∀ (pre acc : List S76), (pre ++ rest).length ≤ 1000000 → acc.length ≤ pre.length → Ev (fun k => spec_l01Drop.l0 k (pre ++ rest) key acc ((pre.length : Nat) : Int)) (acc ++ rest.filter fun p => !decide (p.f0.toList = key.toList)) := by
  induction rest with
  | nil =>
    intro pre acc hl ha
    refine Ev.succ ?_
    simp only [spec_l01Drop.l0]
    exact Ev.neg (by simp) (Ev.is (by simp))
  | cons x r ih =>
    intro pre acc hl ha
    have hx : rd_T76 (pre ++ x :: r) ((pre.length : Nat) : Int) = x := rd_at _ pre r x rfl
    have hlt : ((pre.length : Nat) : Int) < ((pre ++ x :: r).length : Int) := by simp; omega
    have hpl : pre.length < 1000000 := by simp at hl; omega
    have e1 : pre ++ x :: r = (pre ++ [x]) ++ r := by simp
    refine Ev.succ ?_
    simp only [spec_l01Drop.l0, hx, wrap_at (n := pre.length) (by omega)]
    refine Ev.pos hlt (Ev.pos (by omega) ?_)
    rw [len_snoc pre x]
    by_cases hk : x.f0.toList = key.toList
    · refine Ev.pos hk ?_
      have := ih (pre ++ [x]) acc (by rw [← e1]; exact hl) (by simp; omega)
      rw [← e1] at this
      refine Ev.same this ?_
      rw [List.filter_cons]
      simp [hk]
    · refine Ev.neg hk (Ev.pos (by omega) ?_)
      have := ih (pre ++ [x]) (acc ++ [x]) (by rw [← e1]; exact hl) (by simp; omega)
      rw [← e1] at this
      refine Ev.same this ?_
      rw [List.filter_cons]
      simp [hk]
theorem spec_drop (l : List S76) (key : ByteArray) (hl : l.length ≤ 1000000) : Ev (fun k => spec_l01Drop.f k l key) (l.filter fun p => !decide (p.f0.toList = key.toList)) := by
  unfold spec_l01Drop.f
  have h := spec_drop_loop key l [] [] hl (Nat.le_refl _)
  simpa using h
theorem filter_erase_at {l : List S76} {key : ByteArray} (hr : Rises l) (i : Nat) (hlt : i < l.length) (hk : l[i].f0 = key) : (l.filter fun p => !decide (p.f0.toList = key.toList)) = l.eraseIdx i := by
  have e : l = l.take i ++ l[i] :: l.drop (i + 1) := by
    rw [← List.drop_eq_getElem_cons hlt, List.take_append_drop]
  have f1 : (l.take i).filter (fun p => !decide (p.f0.toList = key.toList)) = l.take i := by
    refine List.filter_eq_self.2 fun x hx => ?_
    obtain ⟨j, hj, rfl⟩ := List.mem_take_iff_getElem.1 hx
    have := rises_lt hr hlt (show j < i by omega)
    rw [hk] at this
    simp only [Bool.not_eq_true', decide_eq_false_iff_not]
    intro he
    rw [he, bless_irrefl] at this
    cases this
  have f2 : (l.drop (i + 1)).filter (fun p => !decide (p.f0.toList = key.toList)) = l.drop (i + 1) := by
    refine List.filter_eq_self.2 fun x hx => ?_
    obtain ⟨j, hj, rfl⟩ := List.mem_drop_iff_getElem.1 hx
    have := rises_lt hr (show i + 1 + j < l.length by omega) (show i < i + 1 + j by omega)
    rw [hk] at this
    simp only [Bool.not_eq_true', decide_eq_false_iff_not]
    intro he
    rw [he, bless_irrefl] at this
    cases this
  rw [List.eraseIdx_eq_take_drop_succ]
  conv => lhs; rw [e]
  rw [List.filter_append, List.filter_cons, f1, f2, hk]
  simp
theorem filter_is_erase {l : List S76} {key : ByteArray} (hr : Rises l) (h : hasAt l key = true) : (l.filter fun p => !decide (p.f0.toList = key.toList)) = l.eraseIdx (lowAt l key) := filter_erase_at hr _ (hasAt_lt h) (hasAt_key h)
def dropP (l : List S76) (key : ByteArray) : List S76 := if hasAt l key = true then l.eraseIdx (lowAt l key) else l
theorem impl_drop {l : List S76} (key : ByteArray) (h : Rises l) (hl : l.length ≤ 1000000) : impl_dropPair.f l key = some (dropP l key) := by
  unfold impl_dropPair.f dropP
  rw [impl_at key h hl, Option.bind_some]
  cases hh : hasAt l key with
  | false => simp
  | true =>
    have hlt := hasAt_lt hh
    rw [if_pos rfl, if_pos rfl]
    unfold impl_Pair_113.f
    rw [if_pos ⟨by simp only; omega, by simp only; omega, by rw [wrap_id (by simp only; omega) (by simp only; omega)]⟩, Option.bind_some]
    simp
theorem impl_clone (l : List S76) (hl : l.length ≤ 1000000) : impl_Pair_90.f l = some l := by
  unfold impl_Pair_90.f
  rw [if_pos (by omega)]
end Go.Proofs.Ytgcncphdjabjjaa.X
