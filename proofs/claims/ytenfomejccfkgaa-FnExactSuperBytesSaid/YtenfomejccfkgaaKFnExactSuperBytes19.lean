import Derived.Test.YtenfomejccfkgaaKFnExactSuperBytes4
import Derived.Test.YtenfomejccfkgaaKFnExactSuperBytes5
import Derived.Test.YtenfomejccfkgaaKFnExactSuperBytes6
import Derived.Test.YtenfomejccfkgaaKFnExactSuperBytes7
import Derived.Test.YtenfomejccfkgaaKFnExactSuperBytes9
import Derived.Test.YtenfomejccfkgaaKFnExactSuperBytes11
import Derived.Test.YtenfomejccfkgaaKFnExactSuperBytes13
import Derived.Test.YtenfomejccfkgaaKFnExactSuperBytes16
import Derived.Test.YtenfomejccfkgaaKFnExactSuperBytes17
import Derived.Test.YtenfomejccfkgaaKFnExactSuperBytes18
import Derived.LoopTactic
import Derived.WalkSpells
import Derived.Lib.ConvBytes
namespace Go.Proofs.Ytenfomejccfkgaa.X
open Go.RowKit Go.Proofs.YtenfomejccfkgaaW.PrintWords Go.Proofs.YtenfomejccfkgaaW.PrintLast Go.Proofs.YtenfomejccfkgaaW.PrintMore
attribute [local go_sem] xbin_geq xbin_leq xbin_gtr max2_int min2_int max_two min_two max_three min_three max_four min_four
set_option linter.unusedVariables false
set_option linter.unusedSimpArgs false
def spec_SuperBytes.f (k : Nat) (a0_0 : Int) (a0_1 : Int) (l0_2 : List (S192)) : Option (List Int × Int) := (spec_SuperOK.f k a0_0 a0_1 l0_2).bind fun t889 => (if t889 = true then ((spec_l04Bytes.f k a0_0 a0_1 l0_2).bind fun t890 => (some (t890, 0))) else (some ((([] : List Int)), 1)))
theorem spec_SuperBytes.mono : ∀ a0 a1 a2 k, LeO (spec_SuperBytes.f k a0 a1 a2) (spec_SuperBytes.f (k + 1) a0 a1 a2) := by
 intro a0 a1 a2 k
 unfold spec_SuperBytes.f
 repeat' first
   | (with_reducible exact spec_SuperOK.mono _ _ _ _)
   | (with_reducible exact spec_l04Bytes.mono _ _ _ _)
   | (with_reducible exact LeO.refl _)
   | (with_reducible exact LeO.none _)
   | (with_reducible refine LeO.ite ?_ ?_)
   | (with_reducible refine LeO.bind ?_ (fun _ => ?_))
   | exact spec_SuperOK.mono _ _ _ _
   | exact spec_l04Bytes.mono _ _ _ _
   | exact LeO.none _
   | refine LeO.ite ?_ ?_
   | refine LeO.bind ?_ (fun _ => ?_)
set_option maxHeartbeats 8000000 in
set_option maxRecDepth 100000 in
theorem spec_SuperBytes.calls (k : Nat) (a0_0 : Int) (a0_1 : Int) (A0_2 : Option Addr) (c0_2 : Nat) (l0_2 : List (S192)) (r1 : List Int) (r2 : Int) (w : World) (hr0_2 : Kd.C k192 w A0_2 l0_2.length l0_2) (hc0_2 : l0_2.length ≤ c0_2) (h : spec_SuperBytes.f k a0_0 a0_1 l0_2 = some (r1, r2)) :
  Calls Try.prog 55 #[.agg #[.int .i64 a0_0, .int .i64 a0_1, .slice A0_2 l0_2.length c0_2]] w fun e w' => ∃ v0_ : Value, e = .returned (.tuple #[v0_, .int .i64 r2]) ∧ Kd.R (Kd.int .u8) 5 w' w.heap.size (fun _ => True) v0_ r1 ∧ Below w.heap.size w w' := by
 have hu83 := Try.underlying83
 have HR0_2 := Aside0.mk hr0_2
 have HC0_2 := Aside0.mk hc0_2
 clear hr0_2 hc0_2
 have HB := Aside0.mk (Below.refl w.heap.size w)
 have H : ((spec_SuperOK.f k a0_0 a0_1 l0_2).bind fun t889 => (if t889 = true then ((spec_l04Bytes.f k a0_0 a0_1 l0_2).bind fun t890 => (some (t890, 0))) else (some ((([] : List Int)), 1)))) = some (r1, r2) := h
 clear h
 replace H := Option.bind_eq_some_iff.mp H
 obtain ⟨t889, A20, H⟩ := H
 replace H : (if t889 = true then ((spec_l04Bytes.f k a0_0 a0_1 l0_2).bind fun t890 => (some (t890, 0))) else (some ((([] : List Int)), 1))) = some (r1, r2) := H
 have A2 := Aside0.mk A20
 clear A20
 by_cases c3 : t889 = true
 ·subst c3
  have H1 : ((spec_l04Bytes.f k a0_0 a0_1 l0_2).bind fun t890 => (some (t890, 0))) = some (r1, r2) := by rw [if_pos rfl] at H; exact H
  clear H
  have H := H1
  clear H1
  replace H := Option.bind_eq_some_iff.mp H
  obtain ⟨t890, A40, H⟩ := H
  replace H : (some (t890, 0)) = some (r1, r2) := H
  have A4 := Aside0.mk A40
  clear A40
  simp only [Option.some.injEq, Prod.mk.injEq] at H
  obtain ⟨rfl, rfl⟩ := H
  go_enter Try.func55, Try.ntmps55
  go_wp2_with (first | ((with_reducible refine gate_dst (N := 1) rfl ?_); refine box_event ?hg (N := 1) ?hd (cs := #[.int .i64 a0_0, .int .i64 a0_1, .slice A0_2 l0_2.length c0_2]) (t := 83) ?hr ?_; (case hd => rfl); (case hg => rfl); (case hr => first | (go_simp; done) | (go_simp; rfl)); intro gb888 hg w5 hbox hb; have n0_ := Aside0.mk (below_step (by repeat (first | (with_reducible first | exact HB.out | apply below_alloc | apply pw_below_drewN | apply below_drew1) | exact HB.out)) hb); have n1_ := Aside0.mk (hbox); have n2_ := Aside0.mk ((by rw [hg]; exact (below_size (by repeat (first | (with_reducible first | exact HB.out | apply below_alloc | apply pw_below_drewN | apply below_drew1) | exact HB.out))) : w.heap.size ≤ gb888)); have n3_ := Aside0.mk ((by rw [hg]; exact (below_size (by repeat (first | (with_reducible first | exact HB.out | apply below_alloc | apply pw_below_drewN | apply below_drew1) | exact HB.out))) : w.heap.size ≤ gb888)); clear HB; have HB := n0_; have BK888 := n1_; have GW888 := n2_; have GE888 := n3_; clear n0_ n1_ n2_ n3_; clear hb hbox hg; have hcz6_0 : w5.cell? ⟨gb888, 0, none⟩ = some (.int .i64 a0_0) := (blk_cell BK888.out 0).trans rfl; have hcz6_1 : w5.cell? ⟨gb888, 1, none⟩ = some (.int .i64 a0_1) := (blk_cell BK888.out 1).trans rfl; have hcz6_2 : w5.cell? ⟨gb888, 2, none⟩ = some (.slice A0_2 l0_2.length c0_2) := (blk_cell BK888.out 2).trans rfl; have hfz6_0 := blk_frozen BK888.out 0; have hfz6_1 := blk_frozen BK888.out 1; have hfz6_2 := blk_frozen BK888.out 2) | ((with_reducible refine gate_callee (f := 112) rfl ?_); refine goesL_ (some 5) rfl rfl Try.func112 (by kernel_rfl) rfl #[.agg #[.int .i64 a0_0, .int .i64 a0_1, .slice A0_2 l0_2.length c0_2]] rfl (by (try simp only [List.map_toArray, List.map_cons, List.map_nil]); first | done | rfl | (simp only [List.length_drop, List.length_take]; rfl)) ?_; (with_reducible refine (spec_SuperOK.calls k a0_0 a0_1 _ _ l0_2 true _ ?side1 ?side2 A2.out).mono ?_); (case side1 => repeat (first | exact (Kd.C_below HR0_2.out HB.out) | (with_reducible refine Kd.C_alloc ?_ _) | (with_reducible refine Kd.C_drewN ?_ _) | (with_reducible refine Kd.C_drew ?_))); (case side2 => exact HC0_2.out); rintro e w7 ⟨rfl, hb⟩; refine ⟨_, rfl, ?_⟩; have n0_ := Aside0.mk (blk_below (g := gb888) (o := .cells #[.int .i64 a0_0, .int .i64 a0_1, .slice A0_2 l0_2.length c0_2] 83 (0, 0)) (by (with_reducible repeat (first | refine blk_drewN ?_ _ | refine blk_drew ?_ | refine blk_alloc ?_ _)); exact BK888.out) hb); have n1_ := Aside0.mk (below_step (by repeat (first | (with_reducible first | exact HB.out | apply below_alloc | apply pw_below_drewN | apply below_drew1 | refine below_set ?_ GE888.out) | exact HB.out)) hb); clear BK888; clear HB; have BK888 := n0_; have HB := n1_; clear n0_ n1_; (try clear hb); (try clear hb2); (try clear hk); (try clear hi); have hcz8_0 : w7.cell? ⟨gb888, 0, none⟩ = some (.int .i64 a0_0) := (blk_cell BK888.out 0).trans rfl; have hcz8_1 : w7.cell? ⟨gb888, 1, none⟩ = some (.int .i64 a0_1) := (blk_cell BK888.out 1).trans rfl; have hcz8_2 : w7.cell? ⟨gb888, 2, none⟩ = some (.slice A0_2 l0_2.length c0_2) := (blk_cell BK888.out 2).trans rfl; have hfz8_0 := blk_frozen BK888.out 0; have hfz8_1 := blk_frozen BK888.out 1; have hfz8_2 := blk_frozen BK888.out 2) | ((with_reducible refine gate_callee (f := 113) rfl ?_); refine goesL_ (some 9) rfl rfl Try.func113 (by kernel_rfl) rfl #[.agg #[.int .i64 a0_0, .int .i64 a0_1, .slice A0_2 l0_2.length c0_2]] rfl (by (try simp only [List.map_toArray, List.map_cons, List.map_nil]); first | done | rfl | (simp only [List.length_drop, List.length_take]; rfl)) ?_; (with_reducible refine (spec_l04Bytes.calls k a0_0 a0_1 _ _ l0_2 t890 _ ?side1 ?side2 A4.out).mono ?_); (case side1 => repeat (first | exact (Kd.C_below HR0_2.out HB.out) | (with_reducible refine Kd.C_alloc ?_ _) | (with_reducible refine Kd.C_drewN ?_ _) | (with_reducible refine Kd.C_drew ?_))); (case side2 => exact HC0_2.out); rintro e w9 ⟨v891, rfl, ho0, hb⟩; refine ⟨_, rfl, ?_⟩; have n0_ := Aside0.mk (Kd.R_lower ho0 (below_size (by repeat (first | (with_reducible first | exact HB.out | apply below_alloc | apply pw_below_drewN | apply below_drew1 | refine below_set ?_ GE888.out) | exact HB.out)))); have n1_ := Aside0.mk (blk_below (g := gb888) (o := .cells #[.int .i64 a0_0, .int .i64 a0_1, .slice A0_2 l0_2.length c0_2] 83 (0, 0)) (by (with_reducible repeat (first | refine blk_drewN ?_ _ | refine blk_drew ?_ | refine blk_alloc ?_ _)); exact BK888.out) hb); have n2_ := Aside0.mk (below_step (by repeat (first | (with_reducible first | exact HB.out | apply below_alloc | apply pw_below_drewN | apply below_drew1 | refine below_set ?_ GE888.out) | exact HB.out)) hb); clear BK888; clear HB; have HO892 := n0_; have BK888 := n1_; have HB := n2_; clear n0_ n1_ n2_; (try clear hb); (try clear hb2); (try clear hk); (try clear hi); (try clear ho0)))
  go_ret2
  exact ⟨_, by first | rfl | (simp [errW_none, errW_some] <;> rfl) | (simp [*, errW_none, errW_some] <;> rfl), by (with_reducible repeat (first | apply Kd.R_alloc | apply Kd.R_drewN | apply Kd.R_drew)); exact HO892.out, by repeat (first | (with_reducible first | exact HB.out | apply below_alloc | apply pw_below_drewN | apply below_drew1 | refine below_set ?_ GE888.out) | exact HB.out)⟩
 ·replace c3 := Bool.eq_false_iff.mpr c3
  subst c3
  have H1 : (some ((([] : List Int)), 1)) = some (r1, r2) := by rw [if_neg (show ¬ (false = true) by decide)] at H; exact H
  clear H
  have H := H1
  clear H1
  obtain ⟨y893, hy893⟩ : ∃ y_ : List Int, y_ = (([] : List Int)) := ⟨_, rfl⟩
  replace H : (some (y893, 1)) = some (r1, r2) := by first | (rw [hy893]; with_reducible exact H) | (have H2_ := (Option.bind_some _ _).symm.trans H; rw [hy893]; with_reducible exact H2_) | (have H2_ := (Option.bind_some _ _).symm.trans H; with_reducible exact H2_) | with_reducible exact H | (rw [hy893]; exact H) | exact H
  have Ny893 := Aside0.mk hy893
  clear hy893
  simp only [Option.some.injEq, Prod.mk.injEq] at H
  obtain ⟨rfl, rfl⟩ := H
  go_enter Try.func55, Try.ntmps55
  go_wp2_with (first | ((with_reducible refine gate_dst (N := 1) rfl ?_); refine box_event ?hg (N := 1) ?hd (cs := #[.int .i64 a0_0, .int .i64 a0_1, .slice A0_2 l0_2.length c0_2]) (t := 83) ?hr ?_; (case hd => rfl); (case hg => rfl); (case hr => first | (go_simp; done) | (go_simp; rfl)); intro gb888 hg w10 hbox hb; have n0_ := Aside0.mk (below_step (by repeat (first | (with_reducible first | exact HB.out | apply below_alloc | apply pw_below_drewN | apply below_drew1) | exact HB.out)) hb); have n1_ := Aside0.mk (hbox); have n2_ := Aside0.mk ((by rw [hg]; exact (below_size (by repeat (first | (with_reducible first | exact HB.out | apply below_alloc | apply pw_below_drewN | apply below_drew1) | exact HB.out))) : w.heap.size ≤ gb888)); have n3_ := Aside0.mk ((by rw [hg]; exact (below_size (by repeat (first | (with_reducible first | exact HB.out | apply below_alloc | apply pw_below_drewN | apply below_drew1) | exact HB.out))) : w.heap.size ≤ gb888)); clear HB; have HB := n0_; have BK888 := n1_; have GW888 := n2_; have GE888 := n3_; clear n0_ n1_ n2_ n3_; clear hb hbox hg; have hcz11_0 : w10.cell? ⟨gb888, 0, none⟩ = some (.int .i64 a0_0) := (blk_cell BK888.out 0).trans rfl; have hcz11_1 : w10.cell? ⟨gb888, 1, none⟩ = some (.int .i64 a0_1) := (blk_cell BK888.out 1).trans rfl; have hcz11_2 : w10.cell? ⟨gb888, 2, none⟩ = some (.slice A0_2 l0_2.length c0_2) := (blk_cell BK888.out 2).trans rfl; have hfz11_0 := blk_frozen BK888.out 0; have hfz11_1 := blk_frozen BK888.out 1; have hfz11_2 := blk_frozen BK888.out 2) | ((with_reducible refine gate_callee (f := 112) rfl ?_); refine goesL_ (some 5) rfl rfl Try.func112 (by kernel_rfl) rfl #[.agg #[.int .i64 a0_0, .int .i64 a0_1, .slice A0_2 l0_2.length c0_2]] rfl (by (try simp only [List.map_toArray, List.map_cons, List.map_nil]); first | done | rfl | (simp only [List.length_drop, List.length_take]; rfl)) ?_; (with_reducible refine (spec_SuperOK.calls k a0_0 a0_1 _ _ l0_2 false _ ?side1 ?side2 A2.out).mono ?_); (case side1 => repeat (first | exact (Kd.C_below HR0_2.out HB.out) | (with_reducible refine Kd.C_alloc ?_ _) | (with_reducible refine Kd.C_drewN ?_ _) | (with_reducible refine Kd.C_drew ?_))); (case side2 => exact HC0_2.out); rintro e w12 ⟨rfl, hb⟩; refine ⟨_, rfl, ?_⟩; have n0_ := Aside0.mk (blk_below (g := gb888) (o := .cells #[.int .i64 a0_0, .int .i64 a0_1, .slice A0_2 l0_2.length c0_2] 83 (0, 0)) (by (with_reducible repeat (first | refine blk_drewN ?_ _ | refine blk_drew ?_ | refine blk_alloc ?_ _)); exact BK888.out) hb); have n1_ := Aside0.mk (below_step (by repeat (first | (with_reducible first | exact HB.out | apply below_alloc | apply pw_below_drewN | apply below_drew1 | refine below_set ?_ GE888.out) | exact HB.out)) hb); clear BK888; clear HB; have BK888 := n0_; have HB := n1_; clear n0_ n1_; (try clear hb); (try clear hb2); (try clear hk); (try clear hi)) | ((with_reducible refine gate_dst (N := 7) rfl ?_); refine Kd.R_lit (Kd.int .u8) _ 5 ?hg (N := 7) ?hd (xs := ([] : List Int)) (inner := []) (ok := fun _ => True) (okp := fun _ => True) ?hr ?hp (fun _ hk => hk) trivial (Below.refl _ _) (Nat.le_refl _) (by simp) ?_; (case hd => rfl); (case hg => rfl); (case hr => first | (go_simp; done) | (go_simp; rfl)); (case hp => exact (Reps.none _ _)); intro v894 w13 ho14 hb hg_ hnew_; clear hg_ hnew_; (first | rw [← Ny893.out] at ho14 | (simp only [Int.reduceToNat] at ho14; rw [← Ny893.out] at ho14)); have n0_ := Aside0.mk (Kd.R_lower ho14 (below_size (by repeat (first | (with_reducible first | exact HB.out | apply below_alloc | apply pw_below_drewN | apply below_drew1 | refine below_set ?_ GE888.out) | exact HB.out)))); have n1_ := Aside0.mk (blk_below (g := gb888) (o := .cells #[.int .i64 a0_0, .int .i64 a0_1, .slice A0_2 l0_2.length c0_2] 83 (0, 0)) (by (with_reducible repeat (first | refine blk_drewN ?_ _ | refine blk_drew ?_ | refine blk_alloc ?_ _)); exact BK888.out) hb); have n2_ := Aside0.mk (below_step (by repeat (first | (with_reducible first | exact HB.out | apply below_alloc | apply pw_below_drewN | apply below_drew1 | refine below_set ?_ GE888.out) | exact HB.out)) hb); clear BK888; clear HB; have HO895 := n0_; have BK888 := n1_; have HB := n2_; clear n0_ n1_ n2_; clear hb ho14))
  go_ret2
  exact ⟨_, by first | rfl | (simp [errW_none, errW_some] <;> rfl) | (simp [*, errW_none, errW_some] <;> rfl), by (with_reducible repeat (first | apply Kd.R_alloc | apply Kd.R_drewN | apply Kd.R_drew)); exact HO895.out, by repeat (first | (with_reducible first | exact HB.out | apply below_alloc | apply pw_below_drewN | apply below_drew1 | refine below_set ?_ GE888.out) | exact HB.out)⟩
end Go.Proofs.Ytenfomejccfkgaa.X
namespace Go.Proofs.Ytenfomejccfkgaa.X
open Go.RowKit Go.Proofs.YtenfomejccfkgaaW.PrintWords Go.Proofs.YtenfomejccfkgaaW.PrintLast Go.Proofs.YtenfomejccfkgaaW.PrintMore
attribute [local go_sem] xbin_geq xbin_leq xbin_gtr max2_int min2_int max_two min_two max_three min_three max_four min_four
set_option linter.unusedVariables false
set_option linter.unusedSimpArgs false
def snapT (x : S192) : ByteArray := numO (x.f1 + 1) ++ numT x.f2 ++ x.f0
def superH (a b : Int) : ByteArray := (⟨#[115]⟩ : ByteArray) ++ numO a ++ numO (b + 1)
def superT (a b : Int) (l : List S192) : ByteArray := sealT (superH a b ++ fieldsT (l.map snapT))
def superR (a b : Int) (l : List S192) : List Int × Int := if superB a b l = true then (bytesOf (superT a b l), 0) else ([], 1)
def SnapFit (x : S192) : Prop := x.f0.size ≤ 8 ∧ (-1 ≤ x.f1 ∧ x.f1 ≤ 49) ∧ 0 ≤ x.f2 ∧ x.f2 ≤ 60000
theorem superB_fit {a b : Int} {l : List S192} (h : superB a b l = true) : (0 ≤ a ∧ a ≤ 200) ∧ (-1 ≤ b ∧ b ≤ 49) ∧ l.length ≤ 4 ∧ ∀ x ∈ l, SnapFit x := by
  unfold superB at h
  simp only [Bool.and_eq_true, decide_eq_true_eq] at h
  obtain ⟨h1, h2, h3, h4⟩ := h
  unfold inB at h1 h2
  simp only [Bool.and_eq_true, decide_eq_true_eq] at h1 h2
  refine ⟨h1, h2, h3, fun x hx => ?_⟩
  obtain ⟨j, hj, rfl⟩ := List.mem_iff_getElem.1 hx
  have h5 := allB_iff.1 h4 j hj
  have e : rd_T192 l (j : Int) = l[j] := by unfold rd_T192; rw [Int.toNat_natCast]; simp [List.getD_eq_getElem?_getD, hj]
  unfold snapAt at h5
  rw [e] at h5
  simp only [Bool.and_eq_true] at h5
  obtain ⟨q1, q2, q3, _⟩ := h5
  unfold shortB at q1
  unfold inB at q2 q3
  simp only [Bool.and_eq_true, decide_eq_true_eq] at q1 q2 q3
  exact ⟨q1.1, q2, q3⟩
theorem snapT_size (x : S192) : (snapT x).size = 3 + x.f0.size := by
  unfold snapT
  rw [ByteArray.size_append, ByteArray.size_append, numO_size, numT_size]
theorem snaps_fit {l : List S192} (hl : l.length ≤ 4) (h : ∀ x ∈ l, SnapFit x) : (l.map snapT).length ≤ 1000000 ∧ ∀ t, t ∈ l.map snapT → t.size ≤ 1000000 := by
  refine ⟨by rw [List.length_map]; omega, fun t ht => ?_⟩
  obtain ⟨x, hx, rfl⟩ := List.mem_map.1 ht
  have := (h x hx).1
  rw [snapT_size]
  omega
theorem fieldsT_small {l : List S192} (hl : l.length ≤ 4) (h : ∀ x ∈ l, SnapFit x) : (fieldsT (l.map snapT)).size ≤ 10000000 := by
  have hs := fieldsFrom_size (l.map snapT) (strOfNums [((l.map snapT).length : Int) % 256]) (snaps_fit hl h).2
  have e : (strOfNums [((l.map snapT).length : Int) % 256]).size = 1 := rfl
  rw [e, List.length_map] at hs
  show (fieldsFrom _ _).size ≤ _
  rw [List.length_map]
  omega
theorem superH_size (a b : Int) : (superH a b).size = 3 := by
  unfold superH
  rw [ByteArray.size_append, ByteArray.size_append, numO_size, numO_size]
  rfl
theorem impl_super_loop (a b : Int) (l : List S192) (ha : 0 ≤ a ∧ a ≤ 200) (hb : -1 ≤ b ∧ b ≤ 49) (hl : l.length ≤ 4) (hf : ∀ x ∈ l, SnapFit x) (rest : List S192) : ∀ pre : List S192, l = pre ++ rest →
    Ev (fun k => impl_superBytes.l0 k (pre.map snapT) l (l.length : Int) ((pre.length : Nat) : Int) a b l) (superT a b l) := by
  induction rest with
  | nil =>
    intro pre h
    rw [List.append_nil] at h
    subst h
    have hfs := fieldsT_small hl hf
    have hff : impl_fields.f (l.map snapT) = some (fieldsT (l.map snapT)) := by
      unfold impl_fields.f
      rw [if_pos (snaps_fit hl hf)]
    have hh : ((⟨#[115]⟩ : ByteArray) ++ numO a).size = 2 := rfl
    have h3 : ((⟨#[115]⟩ : ByteArray) ++ numO a ++ numO (b + 1)).size = 3 := rfl
    have hsl := impl_seal (superH a b ++ fieldsT (l.map snapT)) (by rw [ByteArray.size_append, superH_size]; omega)
    refine Ev.succ ?_
    simp only [impl_superBytes.l0, wrap_id (x := b + 1) (by omega) (by omega)]
    exact Ev.neg (by omega) (Ev.bind (inBytes_one a) (Ev.pos (by rw [numO_size]; omega) (Ev.bind (inBytes_one (b + 1)) (Ev.pos (by rw [hh, numO_size]; omega) (Ev.bindk hff (Ev.pos (by rw [h3]; omega) (Ev.bind hsl (Ev.is rfl))))))))
  | cons x r ih =>
    intro pre h
    have hx : rd_T192 l ((pre.length : Nat) : Int) = x := by rw [h]; simp [rd_T192, List.getD_eq_getElem?_getD]
    have hlt : ((pre.length : Nat) : Int) < (l.length : Int) := by rw [h]; simp; omega
    have hxf := hf x (by rw [h]; simp)
    have hi := ih (pre ++ [x]) (by rw [h]; simp)
    rw [← len_snoc, List.map_append, List.map_cons, List.map_nil] at hi
    have h1 : (numO (x.f1 + 1) ++ numT x.f2).size = 3 := rfl
    have hx1 := hxf.1
    refine Ev.succ ?_
    simp only [impl_superBytes.l0, hx, wrap_at (n := pre.length) (by omega), wrap_id (x := x.f1 + 1) (by have := hxf.2.1; omega) (by have := hxf.2.1; omega)]
    exact Ev.pos hlt (Ev.pos (by omega) (Ev.pos hlt (Ev.bind (inBytes_one (x.f1 + 1)) (Ev.bind (inBytes_is x.f2) (Ev.pos (by rw [numO_size, numT_size]; omega) (Ev.pos (by rw [h1]; omega) (Ev.pos (by rw [List.length_map]; omega) hi)))))))
theorem bytes_back (s : ByteArray) : strOfNums (bytesOf s) = s := by
  unfold strOfNums bytesOf
  refine ByteArray.ext (Array.toList_inj.mp ?_)
  simp [List.map_map, Function.comp_def]
theorem nums_one (x n : Int) : ([(x) % 256] : List Int) ++ bytesOf (numT n) = bytesOf (numO x ++ numT n) := by rw [bytesOf_append, numO_bytes]
theorem superH_bytes (a b : Int) : bytesOf (superH a b) = [115, a % 256, (b + 1) % 256] := by
  unfold superH
  rw [bytesOf_append, bytesOf_append, numO_bytes, numO_bytes]
  rfl
theorem spec_super_bytes_loop (a b : Int) (l : List S192) (hl : l.length ≤ 4) (hf : ∀ x ∈ l, SnapFit x) (rest : List S192) : ∀ pre : List S192, l = pre ++ rest →
    Ev (fun k => spec_l04Bytes.l0 k (bytesOf (superH a b)) (pre.map snapT) ((pre.length : Nat) : Int) a b l) (bytesOf (superT a b l)) := by
  induction rest with
  | nil =>
    intro pre h
    rw [List.append_nil] at h
    subst h
    have hfs := fieldsT_small hl hf
    have hff : spec_l01Fields.f (l.map snapT) = some (bytesOf (fieldsT (l.map snapT))) := by
      unfold spec_l01Fields.f
      rw [if_pos (snaps_fit hl hf)]
    have hsl := spec_seal (superH a b ++ fieldsT (l.map snapT)) (by rw [ByteArray.size_append, superH_size]; omega)
    rw [bytesOf_append] at hsl
    refine Ev.succ ?_
    simp only [spec_l04Bytes.l0]
    exact Ev.neg (by omega) (Ev.bindk hff (Ev.pos (by rw [bytesOf_length, bytesOf_length, superH_size]; omega) (Ev.bind hsl (Ev.is rfl))))
  | cons x r ih =>
    intro pre h
    have hx : rd_T192 l ((pre.length : Nat) : Int) = x := by rw [h]; simp [rd_T192, List.getD_eq_getElem?_getD]
    have hlt : ((pre.length : Nat) : Int) < (l.length : Int) := by rw [h]; simp; omega
    have hxf := hf x (by rw [h]; simp)
    have hi := ih (pre ++ [x]) (by rw [h]; simp)
    rw [← len_snoc, List.map_append, List.map_cons, List.map_nil] at hi
    have hx1 := hxf.1
    have hx2 := hxf.2.2
    have h1 : (numO (x.f1 + 1) ++ numT x.f2).size = 3 := rfl
    refine Ev.succ ?_
    simp only [spec_l04Bytes.l0, hx, wrap_at (n := pre.length) (by omega), wrap_id (x := x.f1 + 1) (by have := hxf.2.1; omega) (by have := hxf.2.1; omega)]
    refine Ev.pos hlt (Ev.pos (by omega) (Ev.bindk rfl (Ev.bind (l01Number_two x.f2 hx2.1 (by omega)) (Ev.pos (by rw [bytesOf_length, numT_size]; simp) (Ev.bindk rfl ?_)))))
    rw [nums_one, bytes_back]
    exact Ev.pos (by rw [h1]; omega) (Ev.pos (by rw [List.length_map]; omega) hi)
theorem spec_superR (a b : Int) (l : List S192) (hl : l.length < 9223372036854775807) : Ev (fun k => spec_SuperBytes.f k a b l) (superR a b l) := by
  unfold spec_SuperBytes.f superR
  refine Ev.bind (spec_superOK a b l hl) ?_
  cases h : superB a b l with
  | false => exact Ev.neg (by simp) (Ev.is (by simp))
  | true =>
    obtain ⟨h1, h2, h3, h4⟩ := superB_fit h
    refine Ev.pos rfl (Ev.same (Ev.bind (a := bytesOf (superT a b l)) ?_ (Ev.is rfl)) (if_pos rfl).symm)
    unfold spec_l04Bytes.f
    rw [wrap_id (x := b + 1) (by omega) (by omega), ← superH_bytes]
    exact spec_super_bytes_loop a b l h3 h4 l [] rfl
theorem impl_superT (a b : Int) (l : List S192) (h : superB a b l = true) : Ev (fun k => impl_superBytes.f k a b l) (superT a b l) := by
  obtain ⟨h1, h2, h3, h4⟩ := superB_fit h
  unfold impl_superBytes.f
  exact impl_super_loop a b l h1 h2 h3 h4 l [] rfl
theorem superT_size {a b : Int} {l : List S192} (h : superB a b l = true) : (superT a b l).size ≤ 20000000 := by
  obtain ⟨h1, h2, h3, h4⟩ := superB_fit h
  have := fieldsT_small h3 h4
  unfold superT
  rw [sealT_size, ByteArray.size_append, superH_size]
  omega
theorem superR_length (a b : Int) (l : List S192) : (superR a b l).1.length ≤ 20000000 := by
  unfold superR
  split
  · rename_i h
    simp only
    rw [bytesOf_length]
    exact superT_size h
  · exact Nat.zero_le _
end Go.Proofs.Ytenfomejccfkgaa.X
namespace Go.Proofs.Ytenfomejccfkgaa.X
open Go.RowKit Go.Proofs.YtenfomejccfkgaaW.PrintWords Go.Proofs.YtenfomejccfkgaaW.PrintLast Go.Proofs.YtenfomejccfkgaaW.PrintMore
attribute [local go_sem] xbin_geq xbin_leq xbin_gtr max2_int min2_int max_two min_two max_three min_three max_four min_four
set_option linter.unusedVariables false
set_option linter.unusedSimpArgs false
set_option maxHeartbeats 4000000 in
set_option maxRecDepth 100000 in
theorem implSuperBytes_at (a b : Int) (A0 : Option Addr) (c0 : Nat) (l : List S192) (R : List Int) (code : Int) (w : World) (hr0 : Kd.C k192 w A0 l.length l) (hc0 : l.length ≤ c0) (hl : l.length ≤ 1000000000) (h : superR a b l = (R, code)) :
    Calls Try.prog 57 #[.agg #[.int .i64 a, .int .i64 b, .slice A0 l.length c0]] w fun e w' => ∃ v : Value, e = .returned (.tuple #[v, .int .i64 code]) ∧ BR w' w.heap.size (fun _ => True) v R ∧ Below w.heap.size w w' := by
  have hu := Try.underlying83
  have HR := Aside0.mk hr0
  have HB0 := Aside0.mk ((Below.refl w.heap.size w).alloc (Nat.le_refl _) (.cells #[.int .i64 a, .int .i64 b, .slice A0 l.length c0] 83 (0, 0)))
  have HK0 := Aside0.mk (blk_new w (.cells #[.int .i64 a, .int .i64 b, .slice A0 l.length c0] 83 (0, 0)))
  obtain ⟨ko, hko⟩ := Ev.rounds (impl_superOK a b l (by omega))
  have hh := h
  unfold superR at hh
  clear hr0 h
  cases hb : superB a b l with
  | false =>
    rw [if_neg (by rw [hb]; decide)] at hh
    obtain ⟨rfl, rfl⟩ := Prod.mk.inj hh
    rw [hb] at hko
    have HO := Aside0.mk hko
    clear hko hh hb
    go_enter Try.func57, Try.ntmps57
    go_wp2_with fail
    refine (impl_SuperOK.calls (hr0_2 := Kd.C_below HR.out HB0.out) (hc0_2 := hc0) (h := HO.out)).mono ?_
    rintro e w1 ⟨rfl, hb1⟩
    have HB1 := Aside0.mk (below_step HB0.out hb1)
    clear hb1
    go_wp2_with fail
    go_ret2
    exact ⟨_, rfl, BR.nil, HB1.out⟩
  | true =>
    rw [if_pos hb] at hh
    obtain ⟨rfl, rfl⟩ := Prod.mk.inj hh
    have hsz := superT_size hb
    obtain ⟨kt, hkt⟩ := Ev.rounds (impl_superT a b l hb)
    rw [hb] at hko
    have HO := Aside0.mk hko
    have HT := Aside0.mk hkt
    have HZ := Aside0.mk hsz
    have kb := fun W => print_bytes (P := Try.prog) 9 52 5 Try.underlying9 Try.underlying52 Try.underlying5 (superT a b l) W
    clear hko hh hb hkt hsz
    go_enter Try.func57, Try.ntmps57
    go_wp2_with fail
    refine (impl_SuperOK.calls (hr0_2 := Kd.C_below HR.out HB0.out) (hc0_2 := hc0) (h := HO.out)).mono ?_
    rintro e w1 ⟨rfl, hb1⟩
    have HB1 := Aside0.mk (below_step HB0.out hb1)
    have HK1 := Aside0.mk (blk_below HK0.out hb1)
    clear hb1
    have b0 := blk_cell HK1.out 0
    have b1 := blk_cell HK1.out 1
    have b2 := blk_cell HK1.out 2
    simp only [List.getElem?_toArray, List.getElem?_cons_zero, List.getElem?_cons_succ] at b0 b1 b2
    go_wp2_with fail
    refine (impl_superBytes.calls (hr0_2 := Kd.C_below HR.out HB1.out) (hc0_2 := hc0) (h := HT.out)).mono ?_
    rintro e w2 ⟨rfl, hb2⟩
    have HB2 := Aside0.mk (below_step HB1.out hb2)
    clear hb2 b0 b1 b2
    go_wp2_with fail
    go_ret2
    exact ⟨_, rfl, BR.lower (BR.of_bytes (superT a b l) (by have := HZ.out; omega)) HB2.out.size, bytes_below HB2.out HB2.out.size _ _⟩
end Go.Proofs.Ytenfomejccfkgaa.X
