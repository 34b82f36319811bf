import Derived.Test.YtgcncphdjabjjaaKFnExactBackupBytes4
import Derived.Test.YtgcncphdjabjjaaKFnExactBackupBytes6
import Derived.Test.YtgcncphdjabjjaaKFnExactBackupBytes10
import Derived.Test.YtgcncphdjabjjaaKFnExactBackupBytes17
import Derived.Test.YtgcncphdjabjjaaKFnExactBackupBytes18
import Derived.Lib.SlBytesConst
import Derived.ArgAppend
namespace Go.Proofs.Ytgcncphdjabjjaa.X
open Go.RowKit Go.Proofs.YtgcncphdjabjjaaW.PrintWords Go.Proofs.YtgcncphdjabjjaaW.PrintLast Go.Proofs.YtgcncphdjabjjaaW.PrintMore
attribute [local go_sem] xbin_geq xbin_leq xbin_gtr max2_int min2_int max_two min_two max_three min_three max_four min_four
set_option linter.unusedVariables false
set_option linter.unusedSimpArgs false
def spec_l06Bytes.l0 : Nat → List Int → Int → ByteArray → ByteArray → Int → List (S82) → Int → Option (List Int)
 | 0, _, _, _, _, _, _, _ => none
 | k + 1, x3, x4, x673000, x673001, x673002, x673003, x673004 => if x4 < (x673003.length : Int) then (if 0 ≤ x4 then ((spec_l06Diff.f ((rd_T82 x673003 x4).f0) ((rd_T82 x673003 x4).f1) ((rd_T82 x673003 x4).f2) ((rd_T82 x673003 x4).f3) ((rd_T82 x673003 x4).f4)).bind fun t695 => (if x3.length + t695.length < 140737488355328 then (spec_l06Bytes.l0 k (x3 ++ t695) (wrap64 (x4 + 1)) x673000 x673001 x673002 x673003 x673004) else (none))) else (none)) else ((spec_l01Number.f k x673004 4).bind fun t701 => (if x3.length + t701.length < 140737488355328 then ((some (x3 ++ t701 : List Int)).bind fun y704 => ((spec_l06Link.f k x673000 x673001 x673002 x673003 x673004).bind fun t707 => ((spec_l01Number.f k t707 4).bind fun t708 => (if y704.length + t708.length < 140737488355328 then (some (y704 ++ t708)) else (none))))) else (none)))
def spec_l06Bytes.f (k : Nat) (a0_0 : ByteArray) (a0_1 : ByteArray) (a0_2 : Int) (l0_3 : List (S82)) (a0_4 : Int) : Option (List Int) := (some (([98, 97, 99, 107, 117, 112] : List Int) : List Int)).bind fun y673 => ((spec_l01Number.f k a0_2 4).bind fun t676 => (if y673.length + t676.length < 140737488355328 then ((some (y673 ++ t676 : List Int)).bind fun y679 => ((spec_l01Fields.f (([a0_0, a0_1] : List ByteArray))).bind fun t685 => (if y679.length + t685.length < 140737488355328 then ((some (y679 ++ t685 : List Int)).bind fun y688 => (if y688.length < 140737488355328 then (spec_l06Bytes.l0 k (y688 ++ [((l0_3.length : Int)) % 256]) 0 a0_0 a0_1 a0_2 l0_3 a0_4) else (none))) else (none)))) else (none)))
theorem spec_l06Bytes.mono_l : ∀ k, (∀ y0 y1 y2 y3 y4 y5 y6, LeO (spec_l06Bytes.l0 k y0 y1 y2 y3 y4 y5 y6) (spec_l06Bytes.l0 (k + 1) y0 y1 y2 y3 y4 y5 y6))
 | 0 => fun _ _ _ _ _ _ _ r h => by simp [spec_l06Bytes.l0] at h
 | k + 1 => by
  have ih0 := spec_l06Bytes.mono_l k
  ·intro y0 y1 y2 y3 y4 y5 y6
   unfold spec_l06Bytes.l0
   repeat' first
   | (with_reducible exact ih0 _ _ _ _ _ _ _)
   | (with_reducible exact spec_l01Number.mono _ _ _)
   | (with_reducible exact spec_l06Link.mono _ _ _ _ _ _)
   | (with_reducible exact LeO.refl _)
   | (with_reducible exact LeO.none _)
   | (with_reducible refine LeO.ite ?_ ?_)
   | (with_reducible refine LeO.bind ?_ (fun _ => ?_))
   | exact ih0 _ _ _ _ _ _ _
   | exact spec_l01Number.mono _ _ _
   | exact spec_l06Link.mono _ _ _ _ _ _
   | exact LeO.none _
   | refine LeO.ite ?_ ?_
   | refine LeO.bind ?_ (fun _ => ?_)
theorem spec_l06Bytes.mono : ∀ a0 a1 a2 a3 a4 k, LeO (spec_l06Bytes.f k a0 a1 a2 a3 a4) (spec_l06Bytes.f (k + 1) a0 a1 a2 a3 a4) := by
 intro a0 a1 a2 a3 a4 k
 have ih0 := spec_l06Bytes.mono_l k
 unfold spec_l06Bytes.f
 repeat' first
   | (with_reducible exact ih0 _ _ _ _ _ _ _)
   | (with_reducible exact spec_l01Number.mono _ _ _)
   | (with_reducible exact spec_l06Link.mono _ _ _ _ _ _)
   | (with_reducible exact LeO.refl _)
   | (with_reducible exact LeO.none _)
   | (with_reducible refine LeO.ite ?_ ?_)
   | (with_reducible refine LeO.bind ?_ (fun _ => ?_))
   | exact ih0 _ _ _ _ _ _ _
   | exact spec_l01Number.mono _ _ _
   | exact spec_l06Link.mono _ _ _ _ _ _
   | exact LeO.none _
   | refine LeO.ite ?_ ?_
   | refine LeO.bind ?_ (fun _ => ?_)
def spec_l06Bytes.T8 : Bool × List (List Nat × List Nat) := (true, [([], []), ([], []), ([1], [1]), ([2], [2]), ([0, 3, 3], [0, 3]), ([], []), ([5, 4], [5]), ([6, 6], [6]), ([4, 7, 7], [4, 7]), ([8, 8, 0, 1, 2, 3, 4, 5, 6, 7, 8], [8])])
def spec_l06Bytes.B8 : List Nat := [0, 0, 2, 6, 15, 0, 63, 127, 255, 511]
theorem spec_l06Bytes.tab8 : rtab .any (opsOf Try.f69 8) = spec_l06Bytes.T8 := by kernel_rfl
theorem spec_l06Bytes.bits8 : waitsOk spec_l06Bytes.T8.2 spec_l06Bytes.B8 = true := by kernel_rfl
theorem spec_l06Bytes.num_len : ∀ (k : Nat) (x0 : Int) (x5 : List Int) (x6 : Int) (r : List Int), -1 ≤ x6 → x6 ≤ 100 → spec_l01Number.l0 k x0 x5 x6 = some r → (r.length : Int) = x5.length + (x6 + 1) := by
 intro k
 induction k with
 | zero => intro x0 x5 x6 r _ _ h; simp [spec_l01Number.l0] at h
 | succ k ih =>
  intro x0 x5 x6 r h0 h1 h
  have hw : wrap64 (x6 - 1) = x6 - 1 := by unfold wrap64; omega
  simp only [spec_l01Number.l0, hw] at h
  by_cases c : x6 ≥ 0
  ·rw [if_pos c] at h
   split at h
   ·split at h
    ·have := ih _ _ _ _ (by omega) (by omega) h
     rw [List.length_append, List.length_cons, List.length_nil] at this
     omega
    ·cases h
   ·cases h
  ·rw [if_neg c] at h
   cases h
   omega
theorem spec_l06Bytes.num_len4 {k : Nat} {n : Int} {r : List Int} (h : spec_l01Number.f k n 4 = some r) : r.length = 4 := by
 unfold spec_l01Number.f at h
 rw [show wrap64 (4 - 1) = 3 from by unfold wrap64; omega] at h
 have := spec_l06Bytes.num_len k n [] 3 r (by omega) (by omega) h
 simp only [List.length_nil] at this
 omega
theorem spec_l06Bytes.olds {W : World} {g : Nat} {C : Array Value} {t : TypeId} {fr : Nat × Nat} (h : W.heap[g]? = some (.cells C t fr)) : ∀ b, (some (⟨g, 0, none⟩ : Addr)) = some b → ∀ (j : Nat) (u : Value), C.toList[j]? = some u → W.cell? (b.add j) = some u := by
 rintro b hb j u hu
 cases hb
 rw [add_plain]
 simp only [World.cell?, h]
 simpa using hu
theorem spec_l06Bytes.news {W : World} {A : Option Addr} {xs : List Int} (h : Kd.C (Kd.int .u8) W A xs.length xs) (hn : 0 < xs.length) : ∃ ad, A = some ad ∧ ∀ (j : Nat) (u : Value), (encs (fun c => Value.int .u8 c) xs)[j]? = some u → W.cell? (ad.add j) = some u := by
 obtain ⟨ad, e, _⟩ := Kd.at_int h 0 (by omega) (by omega)
 refine ⟨ad, e, fun j u hu => ?_⟩
 have hj : j < xs.length := by have := (List.getElem?_eq_some_iff.1 hu).1; simpa [encs] using this
 obtain ⟨ad2, e2, hx⟩ := Kd.at_int h (j : Int) (by omega) (by omega)
 rw [e] at e2
 cases e2
 rw [Int.toNat_natCast] at hx
 rw [hx, ← hu]
 simp [encs, rd, List.getD_eq_getElem?_getD, hj]
set_option maxHeartbeats 8000000 in
set_option maxRecDepth 100000 in
theorem spec_l06Bytes.calls (k : Nat) (a0_0 : ByteArray) (a0_1 : ByteArray) (a0_2 : Int) (A0_3 : Option Addr) (c0_3 : Nat) (l0_3 : List (S82)) (a0_4 : Int) (r : List Int) (w : World) (hr0_3 : Kd.C k82 w A0_3 l0_3.length l0_3) (hc0_3 : l0_3.length ≤ c0_3) (h : spec_l06Bytes.f k a0_0 a0_1 a0_2 l0_3 a0_4 = some r) :
  Calls Try.prog 69 #[.agg #[.string a0_0, .string a0_1, .int .i64 a0_2, .slice A0_3 l0_3.length c0_3, .int .i64 a0_4]] w fun e w' => ∃ v0_ : Value, e = .returned (v0_) ∧ Kd.R (Kd.int .u8) 5 w' w.heap.size (fun _ => True) v0_ r ∧ Below w.heap.size w w' := by
 have hu48 := Try.underlying48
 have hu82 := Try.underlying82
 have HR0_3 := Aside0.mk hr0_3
 have HC0_3 := Aside0.mk hc0_3
 clear hr0_3 hc0_3
 have HB := Aside0.mk (Below.refl w.heap.size w)
 have H : ((some (([98, 97, 99, 107, 117, 112] : List Int) : List Int)).bind fun y673 => ((spec_l01Number.f k a0_2 4).bind fun t676 => (if y673.length + t676.length < 140737488355328 then ((some (y673 ++ t676 : List Int)).bind fun y679 => ((spec_l01Fields.f (([a0_0, a0_1] : List ByteArray))).bind fun t685 => (if y679.length + t685.length < 140737488355328 then ((some (y679 ++ t685 : List Int)).bind fun y688 => (if y688.length < 140737488355328 then (spec_l06Bytes.l0 k (y688 ++ [((l0_3.length : Int)) % 256]) 0 a0_0 a0_1 a0_2 l0_3 a0_4) else (none))) else (none)))) else (none)))) = some r := h
 clear h
 obtain ⟨y673, hy673⟩ : ∃ y_ : List Int, y_ = (([98, 97, 99, 107, 117, 112] : List Int)) := ⟨_, rfl⟩
 replace H : ((spec_l01Number.f k a0_2 4).bind fun t676 => (if y673.length + t676.length < 140737488355328 then ((some (y673 ++ t676 : List Int)).bind fun y679 => ((spec_l01Fields.f (([a0_0, a0_1] : List ByteArray))).bind fun t685 => (if y679.length + t685.length < 140737488355328 then ((some (y679 ++ t685 : List Int)).bind fun y688 => (if y688.length < 140737488355328 then (spec_l06Bytes.l0 k (y688 ++ [((l0_3.length : Int)) % 256]) 0 a0_0 a0_1 a0_2 l0_3 a0_4) else (none))) else (none)))) else (none))) = some r := by first | (rw [hy673]; with_reducible exact H) | (have H2_ := (Option.bind_some _ _).symm.trans H; rw [hy673]; with_reducible exact H2_) | (have H2_ := (Option.bind_some _ _).symm.trans H; with_reducible exact H2_) | with_reducible exact H | (rw [hy673]; exact H) | exact H
 have Ny673 := Aside0.mk hy673
 clear hy673
 replace H := Option.bind_eq_some_iff.mp H
 obtain ⟨t676, A20, H⟩ := H
 replace H : (if y673.length + t676.length < 140737488355328 then ((some (y673 ++ t676 : List Int)).bind fun y679 => ((spec_l01Fields.f (([a0_0, a0_1] : List ByteArray))).bind fun t685 => (if y679.length + t685.length < 140737488355328 then ((some (y679 ++ t685 : List Int)).bind fun y688 => (if y688.length < 140737488355328 then (spec_l06Bytes.l0 k (y688 ++ [((l0_3.length : Int)) % 256]) 0 a0_0 a0_1 a0_2 l0_3 a0_4) else (none))) else (none)))) else (none)) = some r := H
 have A2 := Aside0.mk A20
 clear A20
 by_cases c3 : y673.length + t676.length < 140737488355328
 ·rw [if_pos c3] at H
  have LMc3 := Aside0.mk c3
  clear c3
  obtain ⟨y679, hy679⟩ : ∃ y_ : List Int, y_ = (y673 ++ t676) := ⟨_, rfl⟩
  replace H : ((spec_l01Fields.f (([a0_0, a0_1] : List ByteArray))).bind fun t685 => (if y679.length + t685.length < 140737488355328 then ((some (y679 ++ t685 : List Int)).bind fun y688 => (if y688.length < 140737488355328 then (spec_l06Bytes.l0 k (y688 ++ [((l0_3.length : Int)) % 256]) 0 a0_0 a0_1 a0_2 l0_3 a0_4) else (none))) else (none))) = some r := by first | (rw [hy679]; with_reducible exact H) | (have H2_ := (Option.bind_some _ _).symm.trans H; rw [hy679]; with_reducible exact H2_) | (have H2_ := (Option.bind_some _ _).symm.trans H; with_reducible exact H2_) | with_reducible exact H | (rw [hy679]; exact H) | exact H
  have Ny679 := Aside0.mk hy679
  clear hy679
  obtain ⟨y682, hy682⟩ : ∃ y_ : List ByteArray, y_ = (([a0_0, a0_1] : List ByteArray)) := ⟨_, rfl⟩
  replace H : ((spec_l01Fields.f y682).bind fun t685 => (if y679.length + t685.length < 140737488355328 then ((some (y679 ++ t685 : List Int)).bind fun y688 => (if y688.length < 140737488355328 then (spec_l06Bytes.l0 k (y688 ++ [((l0_3.length : Int)) % 256]) 0 a0_0 a0_1 a0_2 l0_3 a0_4) else (none))) else (none))) = some r := by first | (rw [hy682]; with_reducible exact H) | (have H2_ := (Option.bind_some _ _).symm.trans H; rw [hy682]; with_reducible exact H2_) | (have H2_ := (Option.bind_some _ _).symm.trans H; with_reducible exact H2_) | with_reducible exact H | (rw [hy682]; exact H) | exact H
  have Ny682 := Aside0.mk hy682
  clear hy682
  replace H := Option.bind_eq_some_iff.mp H
  obtain ⟨t685, A40, H⟩ := H
  replace H : (if y679.length + t685.length < 140737488355328 then ((some (y679 ++ t685 : List Int)).bind fun y688 => (if y688.length < 140737488355328 then (spec_l06Bytes.l0 k (y688 ++ [((l0_3.length : Int)) % 256]) 0 a0_0 a0_1 a0_2 l0_3 a0_4) else (none))) else (none)) = some r := H
  have A4 := Aside0.mk A40
  clear A40
  by_cases c5 : y679.length + t685.length < 140737488355328
  ·rw [if_pos c5] at H
   have LMc5 := Aside0.mk c5
   clear c5
   obtain ⟨y688, hy688⟩ : ∃ y_ : List Int, y_ = (y679 ++ t685) := ⟨_, rfl⟩
   replace H : (if y688.length < 140737488355328 then (spec_l06Bytes.l0 k (y688 ++ [((l0_3.length : Int)) % 256]) 0 a0_0 a0_1 a0_2 l0_3 a0_4) else (none)) = some r := by first | (rw [hy688]; with_reducible exact H) | (have H2_ := (Option.bind_some _ _).symm.trans H; rw [hy688]; with_reducible exact H2_) | (have H2_ := (Option.bind_some _ _).symm.trans H; with_reducible exact H2_) | with_reducible exact H | (rw [hy688]; exact H) | exact H
   have Ny688 := Aside0.mk hy688
   clear hy688
   by_cases c6 : y688.length < 140737488355328
   ·rw [if_pos c6] at H
    have LMc6 := Aside0.mk c6
    clear c6
    obtain ⟨y691, hy691⟩ : ∃ y_ : List Int, y_ = (y688 ++ [((l0_3.length : Int)) % 256]) := ⟨_, rfl⟩
    replace H : (spec_l06Bytes.l0 k y691 0 a0_0 a0_1 a0_2 l0_3 a0_4) = some r := by first | (rw [hy691]; with_reducible exact H) | (have H2_ := (Option.bind_some _ _).symm.trans H; rw [hy691]; with_reducible exact H2_) | (have H2_ := (Option.bind_some _ _).symm.trans H; with_reducible exact H2_) | with_reducible exact H | (rw [hy691]; exact H) | exact H
    have Ny691 := Aside0.mk hy691
    clear hy691
    have H' := Aside0.mk H
    clear H
    go_enter Try.func69, Try.ntmps69
    have kcv_ := fun W => Lib.run_convert_bytes_const (P := Try.prog) W 52 5 #[.int .u8 98, .int .u8 97, .int .u8 99, .int .u8 107, .int .u8 117, .int .u8 112] 6 6 Try.underlying52 Try.underlying5
    go_wp2_with (first | ((with_reducible refine gate_dst (N := 1) rfl ?_); refine box_event ?hg (N := 1) ?hd (cs := #[.string a0_0, .string a0_1, .int .i64 a0_2, .slice A0_3 l0_3.length c0_3, .int .i64 a0_4]) (t := 48) ?hr ?_; (case hd => rfl); (case hg => rfl); (case hr => first | (go_simp; done) | (go_simp; rfl)); intro gb672 hg w7 hbox hb; have n0_ := Aside0.mk (below_step (by repeat (first | (with_reducible first | exact HB.out | apply below_alloc | apply pw_below_drewN | apply below_drew1) | exact HB.out)) hb); have n1_ := Aside0.mk (hbox); have n2_ := Aside0.mk ((by rw [hg]; exact (below_size (by repeat (first | (with_reducible first | exact HB.out | apply below_alloc | apply pw_below_drewN | apply below_drew1) | exact HB.out))) : w.heap.size ≤ gb672)); have n3_ := Aside0.mk ((by rw [hg]; exact (below_size (by repeat (first | (with_reducible first | exact HB.out | apply below_alloc | apply pw_below_drewN | apply below_drew1) | exact HB.out))) : w.heap.size ≤ gb672)); clear HB; have HB := n0_; have BK672 := n1_; have GW672 := n2_; have GE672 := n3_; clear n0_ n1_ n2_ n3_; clear hb hbox hg; have hcq2_ : ∀ o, (w7.alloc o).cell? ⟨gb672, 2, none⟩ = some (.int .i64 a0_2) := fun o => blk_cell (blk_alloc BK672.out o) 2) | ((with_reducible refine gate_callee (f := 97) rfl ?_); refine goesL_ (some 9) rfl rfl Try.func97 (by kernel_rfl) rfl #[.int .i64 a0_2, .int .i64 4] rfl (by (try simp only [List.map_toArray, List.map_cons, List.map_nil]); first | done | rfl | (simp only [List.length_drop, List.length_take]; rfl)) ?_; (with_reducible refine (spec_l01Number.calls k a0_2 4 t676 _ A2.out).mono ?_); rintro e w11 ⟨v677, rfl, ho0, hb⟩; refine ⟨_, rfl, ?_⟩; have n0_ := Aside0.mk (blk_below (blk_new w7 (.cells #[.int .u8 98, .int .u8 97, .int .u8 99, .int .u8 107, .int .u8 117, .int .u8 112] 5 (6, 7))) hb); have n1_ := Aside0.mk (Kd.R_lower ho0 (below_size (by repeat (first | (with_reducible first | exact HB.out | apply below_alloc | apply pw_below_drewN | apply below_drew1 | refine below_set ?_ GE672.out) | exact HB.out)))); have n2_ := Aside0.mk (blk_below (g := gb672) (o := .cells #[.string a0_0, .string a0_1, .int .i64 a0_2, .slice A0_3 l0_3.length c0_3, .int .i64 a0_4] 48 (0, 0)) (by (with_reducible repeat (first | refine blk_drewN ?_ _ | refine blk_drew ?_ | refine blk_alloc ?_ _)); exact BK672.out) hb); have n3_ := Aside0.mk (below_step (by repeat (first | (with_reducible first | exact HB.out | apply below_alloc | apply pw_below_drewN | apply below_drew1 | refine below_set ?_ GE672.out) | exact HB.out)) hb); clear BK672; clear HB; have HO675 := n0_; have HO678 := n1_; have BK672 := n2_; have HB := n3_; clear n0_ n1_ n2_ n3_; (try clear hb); (try clear hb2); (try clear hk); (try clear hi); (try clear ho0); obtain ⟨Ao13, co13, eo13⟩ := Kd.R_slice HO678.out; subst eo13) | ((with_reducible refine gate_builtin (b := .append) (xs := #[.tmp 6, .tmp 9]) rfl ?_); at_builtin; have hm4_ := spec_l06Bytes.num_len4 A2.out; obtain ⟨i5_, hi5_, hj5_⟩ := Option.map_eq_some_iff.1 info5; simp only [Prod.mk.injEq] at hj5_; obtain ⟨hz5_, hs5_, hb5_⟩ := hj5_; obtain ⟨adN_, eN_, hN_⟩ := spec_l06Bytes.news (Kd.R_reads' HO678.out).2.2 (by omega); refine wpList_append_grows _ rfl (.tmp 6) (.tmp 9) 52 rfl 5 i5_ (.int .u8 0) 1 1 Try.underlying52 hi5_ hz5_ hs5_ hb5_ rfl (by omega) (some ⟨w7.heap.size, 0, none⟩) 6 6 (#[.int .u8 98, .int .u8 97, .int .u8 99, .int .u8 107, .int .u8 117, .int .u8 112] : Array Value).toList rfl (fun h => by cases h) rfl (spec_l06Bytes.olds HO675.out) adN_ t676.length co13 (encs (fun c => Value.int .u8 c) t676) (by rw [← eN_]; rfl) (by simp [encs]) hN_ (fun u hu => by simp only [encs, List.mem_map] at hu; obtain ⟨_, _, rfl⟩ := hu; rfl) (by omega) (by rw [hm4_]; simp [maxLen]) (by omega) ?_; intro v680 w12 ho hg; have hbl_ : Below w11.heap.size w11 w12 := Below.grown (Below.refl _ _) hg (Nat.le_refl _) (fun k hk => by cases hk); have hb := below_step HB.out hbl_; have ey_ : y679 = [98, 97, 99, 107, 117, 112] ++ t676 := Ny679.out.trans (congrArg (· ++ t676) Ny673.out); have ho1_ : w12.ownsRow w11.heap.size 5 1 v680 y679.length (encs (Value.int .u8) y679) := (by rw [ey_, List.length_append, encs_append]; exact ho); have hnew_ : Kd.R (Kd.int .u8) 5 w12 w11.heap.size (fun _ => True) v680 y679 := Kd.R_of_own ho1_ (fun _ _ => trivial); replace ho : Kd.R (Kd.int .u8) 5 w12 w.heap.size (fun k_ => some k_ ≠ (.slice Ao13 t676.length co13 : Value).ownBlock) v680 y679 := Kd.R_lower (show Kd.R (Kd.int .u8) 5 w12 w11.heap.size (fun k_ => some k_ ≠ (.slice Ao13 t676.length co13 : Value).ownBlock) v680 y679 from Kd.R_of_own ho1_ (fun k_ hk => Kd.fresh' (Kd.R_lt HO678.out) k_ (Kd.R_base hnew_ k_ hk))) HB.out.size; clear ho1_ ey_ hm4_ hi5_ hz5_ hs5_ hb5_ hN_ eN_; have n0_ := Aside0.mk (blk_grown (g := gb672) (o := .cells #[.string a0_0, .string a0_1, .int .i64 a0_2, .slice A0_3 l0_3.length c0_3, .int .i64 a0_4] 48 (0, 0)) (by (with_reducible repeat (first | refine blk_drewN ?_ _ | refine blk_drew ?_ | refine blk_alloc ?_ _)); exact BK672.out) hg (fun h => by cases h)); have n1_ := Aside0.mk (Kd.R_elder' (ok := fun _ => True) (by (with_reducible repeat (first | apply Kd.R_alloc | apply Kd.R_drewN | apply Kd.R_drew)); exact HO678.out) (Kd.R_base hnew_) hbl_); have n2_ := Aside0.mk (hb); have n3_ := Aside0.mk (ho); clear BK672; clear HO678; clear HB; clear HO675; have BK672 := n0_; have HO678 := n1_; have HB := n2_; have HO681 := n3_; clear n0_ n1_ n2_ n3_; clear ho hb hg hbl_ hnew_; have hcz14_0 : w12.cell? ⟨gb672, 0, none⟩ = some (.string a0_0) := (blk_cell BK672.out 0).trans rfl; have hcz14_1 : w12.cell? ⟨gb672, 1, none⟩ = some (.string a0_1) := (blk_cell BK672.out 1).trans rfl; have hcz14_2 : w12.cell? ⟨gb672, 2, none⟩ = some (.int .i64 a0_2) := (blk_cell BK672.out 2).trans rfl; have hcz14_3 : w12.cell? ⟨gb672, 3, none⟩ = some (.slice A0_3 l0_3.length c0_3) := (blk_cell BK672.out 3).trans rfl; have hcz14_4 : w12.cell? ⟨gb672, 4, none⟩ = some (.int .i64 a0_4) := (blk_cell BK672.out 4).trans rfl; have hfz14_0 := blk_frozen BK672.out 0; have hfz14_1 := blk_frozen BK672.out 1; have hfz14_2 := blk_frozen BK672.out 2; have hfz14_3 := blk_frozen BK672.out 3; have hfz14_4 := blk_frozen BK672.out 4) | ((with_reducible refine gate_dst (N := 16) rfl ?_); refine Kd.R_lit Kd.string _ 9 ?hg (N := 16) ?hd (xs := ([a0_0, a0_1] : List ByteArray)) (inner := [.string a0_0, .string a0_1]) (ok := fun _ => True) (okp := fun _ => True) ?hr ?hp (fun _ hk => hk) trivial (Below.refl _ _) (Nat.le_refl _) (by simp) ?_; (case hd => rfl); (case hg => rfl); (case hr => first | (go_simp; done) | (go_simp; rfl)); (case hp => exact (Reps.one (show Kd.M Kd.string _ _ _ a0_0 [.string a0_0] from rfl) (Reps.one (show Kd.M Kd.string _ _ _ a0_1 [.string a0_1] from rfl) (Reps.none _ _)))); intro v683 w15 ho16 hb hg_ hnew_; clear hg_ hnew_; (first | rw [← Ny682.out] at ho16 | (simp only [Int.reduceToNat] at ho16; rw [← Ny682.out] at ho16)); have n0_ := Aside0.mk (Kd.R_below (by (with_reducible repeat (first | apply Kd.R_alloc | apply Kd.R_drewN | apply Kd.R_drew)); exact HO678.out) hb); have n1_ := Aside0.mk (Kd.R_below (by (with_reducible repeat (first | apply Kd.R_alloc | apply Kd.R_drewN | apply Kd.R_drew)); exact HO681.out) hb); have n2_ := Aside0.mk (Kd.R_lower ho16 (below_size (by repeat (first | (with_reducible first | exact HB.out | apply below_alloc | apply pw_below_drewN | apply below_drew1 | refine below_set ?_ GE672.out) | exact HB.out)))); have n3_ := Aside0.mk (blk_below (g := gb672) (o := .cells #[.string a0_0, .string a0_1, .int .i64 a0_2, .slice A0_3 l0_3.length c0_3, .int .i64 a0_4] 48 (0, 0)) (by (with_reducible repeat (first | refine blk_drewN ?_ _ | refine blk_drew ?_ | refine blk_alloc ?_ _)); exact BK672.out) hb); have n4_ := Aside0.mk (below_step (by repeat (first | (with_reducible first | exact HB.out | apply below_alloc | apply pw_below_drewN | apply below_drew1 | refine below_set ?_ GE672.out) | exact HB.out)) hb); clear HO678; clear HO681; clear BK672; clear HB; have HO678 := n0_; have HO681 := n1_; have HO684 := n2_; have BK672 := n3_; have HB := n4_; clear n0_ n1_ n2_ n3_ n4_; clear hb ho16; obtain ⟨Ao17, co17, eo17⟩ := Kd.R_slice HO684.out; subst eo17) | ((with_reducible refine gate_callee (f := 80) rfl ?_); refine goesL_ (some 17) rfl rfl Try.func80 (by kernel_rfl) rfl #[.slice Ao17 y682.length co17] rfl (by (try simp only [List.map_toArray, List.map_cons, List.map_nil]); first | done | rfl | (simp only [List.length_drop, List.length_take]; rfl)) ?_; (with_reducible refine (spec_l01Fields.calls _ _ y682 t685 _ ?side1 ?side2 A4.out).mono ?_); (case side1 => repeat (first | exact (Kd.R_reads' HO684.out).2.2 | (with_reducible refine Kd.C_alloc ?_ _) | (with_reducible refine Kd.C_drewN ?_ _) | (with_reducible refine Kd.C_drew ?_))); (case side2 => exact (Kd.R_reads' HO684.out).2.1); rintro e w18 ⟨v686, rfl, ho0, hb⟩; refine ⟨_, rfl, ?_⟩; have n0_ := Aside0.mk (Kd.R_elder' (by (with_reducible repeat (first | apply Kd.R_alloc | apply Kd.R_drewN | apply Kd.R_drew)); exact HO678.out) (Kd.R_base ho0) hb); have n1_ := Aside0.mk (Kd.R_elder' (by (with_reducible repeat (first | apply Kd.R_alloc | apply Kd.R_drewN | apply Kd.R_drew)); exact HO681.out) (Kd.R_base ho0) hb); have n2_ := Aside0.mk (Kd.R_below (by (with_reducible repeat (first | apply Kd.R_alloc | apply Kd.R_drewN | apply Kd.R_drew)); exact HO684.out) hb); have n3_ := Aside0.mk (Kd.R_lower (Kd.R_new' (Kd.R_new' ho0 (Kd.R_lt (by (with_reducible repeat (first | apply Kd.R_alloc | apply Kd.R_drewN | apply Kd.R_drew)); exact HO678.out))) (Kd.R_lt (by (with_reducible repeat (first | apply Kd.R_alloc | apply Kd.R_drewN | apply Kd.R_drew)); exact HO681.out))) (below_size (by repeat (first | (with_reducible first | exact HB.out | apply below_alloc | apply pw_below_drewN | apply below_drew1 | refine below_set ?_ GE672.out) | exact HB.out)))); have n4_ := Aside0.mk (blk_below (g := gb672) (o := .cells #[.string a0_0, .string a0_1, .int .i64 a0_2, .slice A0_3 l0_3.length c0_3, .int .i64 a0_4] 48 (0, 0)) (by (with_reducible repeat (first | refine blk_drewN ?_ _ | refine blk_drew ?_ | refine blk_alloc ?_ _)); exact BK672.out) hb); have n5_ := Aside0.mk (below_step (by repeat (first | (with_reducible first | exact HB.out | apply below_alloc | apply pw_below_drewN | apply below_drew1 | refine below_set ?_ GE672.out) | exact HB.out)) hb); clear HO678; clear HO681; clear HO684; clear BK672; clear HB; have HO678 := n0_; have HO681 := n1_; have HO684 := n2_; have HO687 := n3_; have BK672 := n4_; have HB := n5_; clear n0_ n1_ n2_ n3_ n4_ n5_; (try clear hb); (try clear hb2); (try clear hk); (try clear hi); (try clear ho0); obtain ⟨Ao20, co20, eo20⟩ := Kd.R_slice HO687.out; subst eo20) | ((with_reducible refine gate_builtin (b := .append) (xs := #[.tmp 11, .tmp 17]) rfl ?_); at_builtin; refine Kd.R_append_rows (Kd.int .u8) (w0 := w) w.heap.size rfl (.tmp 11) (.tmp 17) 52 5 (.int .u8 0) 1 rfl Try.underlying52 info5 rfl (by decide) (by omega) v680 y679 t685 _ _ _ (fun k_ => some k_ ≠ (.slice Ao13 t676.length co13 : Value).ownBlock ∧ some k_ ≠ (.slice Ao20 t685.length co20 : Value).ownBlock) (fun _ => False) rfl rfl ?aO ?aR (fun _ _ h => h) (fun _ h => h.elim) ?aF ?aB ?aS ?aL ?_; (case aR => repeat (first | exact (Kd.R_reads' HO687.out).2.2 | (with_reducible refine Kd.C_alloc ?_ _) | (with_reducible refine Kd.C_drewN ?_ _) | (with_reducible refine Kd.C_drew ?_))); (case aB => exact (by repeat (first | (with_reducible first | exact HB.out | apply below_alloc | apply pw_below_drewN | apply below_drew1 | refine below_set ?_ GE672.out) | exact HB.out))); (case aF => exact (fun k_ hk => ⟨Kd.fresh' (Kd.R_lt (by (with_reducible repeat (first | apply Kd.R_alloc | apply Kd.R_drewN | apply Kd.R_drew)); exact HO678.out)) k_ hk, Kd.fresh' (Kd.R_lt (by (with_reducible repeat (first | apply Kd.R_alloc | apply Kd.R_drewN | apply Kd.R_drew)); exact HO687.out)) k_ hk⟩)); (case aO => exact (by (with_reducible repeat (first | apply Kd.R_alloc | apply Kd.R_drewN | apply Kd.R_drew)); exact HO681.out)); (case aS => exact (below_size (by repeat (first | (with_reducible first | exact HB.out | apply below_alloc | apply pw_below_drewN | apply below_drew1 | refine below_set ?_ GE672.out) | exact HB.out)))); (case aL => have := LMc5.out; omega); intro v689 w19 ho hb hg hat; rw [← Ny688.out] at ho; have n0_ := Aside0.mk (blk_grown (g := gb672) (o := .cells #[.string a0_0, .string a0_1, .int .i64 a0_2, .slice A0_3 l0_3.length c0_3, .int .i64 a0_4] 48 (0, 0)) (by (with_reducible repeat (first | refine blk_drewN ?_ _ | refine blk_drew ?_ | refine blk_alloc ?_ _)); exact BK672.out) hg (Kd.R_ne HO681.out BK672.out (by decide))); have n1_ := Aside0.mk (Kd.R_after (ok := (fun k_ => some k_ ≠ (.slice Ao20 t685.length co20 : Value).ownBlock)) (by (with_reducible repeat (first | apply Kd.R_alloc | apply Kd.R_drewN | apply Kd.R_drew)); exact Kd.R_mono HO678.out (fun _ hk => ⟨hk.2, hk.1.2⟩)) hg hat); have n2_ := Aside0.mk (Kd.R_over' (by (with_reducible repeat (first | apply Kd.R_alloc | apply Kd.R_drewN | apply Kd.R_drew)); exact HO684.out) (Kd.R_typed (by (with_reducible repeat (first | apply Kd.R_alloc | apply Kd.R_drewN | apply Kd.R_drew)); exact HO681.out)) (by decide) hg); have n3_ := Aside0.mk (Kd.R_after (ok := (fun k_ => some k_ ≠ (.slice Ao13 t676.length co13 : Value).ownBlock)) (by (with_reducible repeat (first | apply Kd.R_alloc | apply Kd.R_drewN | apply Kd.R_drew)); exact Kd.R_mono HO687.out (fun _ hk => ⟨hk.1.2, hk.2⟩)) hg hat); have n4_ := Aside0.mk (hb); have n5_ := Aside0.mk (ho); clear BK672; clear HO678; clear HO684; clear HO687; clear HB; clear HO681; have BK672 := n0_; have HO678 := n1_; have HO684 := n2_; have HO687 := n3_; have HB := n4_; have HO690 := n5_; clear n0_ n1_ n2_ n3_ n4_ n5_; clear ho hb hg hat; have hcz21_0 : w19.cell? ⟨gb672, 0, none⟩ = some (.string a0_0) := (blk_cell BK672.out 0).trans rfl; have hcz21_1 : w19.cell? ⟨gb672, 1, none⟩ = some (.string a0_1) := (blk_cell BK672.out 1).trans rfl; have hcz21_2 : w19.cell? ⟨gb672, 2, none⟩ = some (.int .i64 a0_2) := (blk_cell BK672.out 2).trans rfl; have hcz21_3 : w19.cell? ⟨gb672, 3, none⟩ = some (.slice A0_3 l0_3.length c0_3) := (blk_cell BK672.out 3).trans rfl; have hcz21_4 : w19.cell? ⟨gb672, 4, none⟩ = some (.int .i64 a0_4) := (blk_cell BK672.out 4).trans rfl; have hfz21_0 := blk_frozen BK672.out 0; have hfz21_1 := blk_frozen BK672.out 1; have hfz21_2 := blk_frozen BK672.out 2; have hfz21_3 := blk_frozen BK672.out 3; have hfz21_4 := blk_frozen BK672.out 4) | ((with_reducible refine gate_builtin (b := .append) (xs := #[.tmp 19, .tmp 24]) rfl ?_); at_builtin; refine Kd.R_append (Kd.int .u8) (w0 := w) w.heap.size rfl (.tmp 19) (.tmp 24) 52 5 (.int .u8 0) 1 rfl Try.underlying52 info5 rfl (by decide) (by omega) v689 y688 (((l0_3.length : Int)) % 256) [.int .u8 (((l0_3.length : Int)) % 256)] (fun k_ => some k_ ≠ (.slice Ao13 t676.length co13 : Value).ownBlock ∧ some k_ ≠ (.slice Ao20 t685.length co20 : Value).ownBlock) (fun _ => False) rfl rfl ?aP (fun _ hk => hk.elim) ?aF ?aO ?aB ?aS ?aL ?_; (case aP => exact rfl); (case aB => exact (by repeat (first | (with_reducible first | exact HB.out | apply below_alloc | apply pw_below_drewN | apply below_drew1 | refine below_set ?_ GE672.out) | exact HB.out))); (case aF => exact (fun k_ hk => ⟨Kd.fresh' (Kd.R_lt (by (with_reducible repeat (first | apply Kd.R_alloc | apply Kd.R_drewN | apply Kd.R_drew)); exact HO678.out)) k_ hk, Kd.fresh' (Kd.R_lt (by (with_reducible repeat (first | apply Kd.R_alloc | apply Kd.R_drewN | apply Kd.R_drew)); exact HO687.out)) k_ hk⟩)); (case aO => exact (by (with_reducible repeat (first | apply Kd.R_alloc | apply Kd.R_drewN | apply Kd.R_drew)); exact HO690.out)); (case aS => exact (below_size (by repeat (first | (with_reducible first | exact HB.out | apply below_alloc | apply pw_below_drewN | apply below_drew1 | refine below_set ?_ GE672.out) | exact HB.out)))); (case aL => have := LMc6.out; omega); intro v692 w22 ho hb hg hat; rw [← Ny691.out] at ho; have n0_ := Aside0.mk (blk_grown (g := gb672) (o := .cells #[.string a0_0, .string a0_1, .int .i64 a0_2, .slice A0_3 l0_3.length c0_3, .int .i64 a0_4] 48 (0, 0)) (by (with_reducible repeat (first | refine blk_drewN ?_ _ | refine blk_drew ?_ | refine blk_alloc ?_ _)); exact BK672.out) hg (Kd.R_ne HO690.out BK672.out (by decide))); have n1_ := Aside0.mk (Kd.R_after (ok := (fun k_ => some k_ ≠ (.slice Ao20 t685.length co20 : Value).ownBlock)) (by (with_reducible repeat (first | apply Kd.R_alloc | apply Kd.R_drewN | apply Kd.R_drew)); exact HO678.out) hg hat); have n2_ := Aside0.mk (Kd.R_over' (by (with_reducible repeat (first | apply Kd.R_alloc | apply Kd.R_drewN | apply Kd.R_drew)); exact HO684.out) (Kd.R_typed (by (with_reducible repeat (first | apply Kd.R_alloc | apply Kd.R_drewN | apply Kd.R_drew)); exact HO690.out)) (by decide) hg); have n3_ := Aside0.mk (Kd.R_after (ok := (fun k_ => some k_ ≠ (.slice Ao13 t676.length co13 : Value).ownBlock)) (by (with_reducible repeat (first | apply Kd.R_alloc | apply Kd.R_drewN | apply Kd.R_drew)); exact HO687.out) hg hat); have n4_ := Aside0.mk (hb); have n5_ := Aside0.mk (ho); clear BK672; clear HO678; clear HO684; clear HO687; clear HB; clear HO690; have BK672 := n0_; have HO678 := n1_; have HO684 := n2_; have HO687 := n3_; have HB := n4_; have HO693 := n5_; clear n0_ n1_ n2_ n3_ n4_ n5_; clear ho hb hg hat))
    go_loopg [3, 4] k (fun kq v3 v4 w' => ∃ (x3_1 : List Int) (x4_1 : Int), v4 = .int .i64 x4_1 ∧ Aside0 (spec_l06Bytes.l0 kq x3_1 x4_1 a0_0 a0_1 a0_2 l0_3 a0_4 = some r) ∧ Aside0 (kq ≤ k) ∧ Aside0 (Kd.R (Kd.int .u8) 5 w' w.heap.size (fun _ => True) v3 x3_1) ∧ Aside0 (w'.heap[gb672]? = some (.cells #[.string a0_0, .string a0_1, .int .i64 a0_2, (.slice A0_3 l0_3.length c0_3), .int .i64 a0_4] 48 (0, 0))) ∧ Aside0 (Below w.heap.size w w'))
    case atStart => exact ⟨(y691), (0), (by first | rfl | (simp; done) | (simp [*]; done)), H', ⟨Nat.le_refl _⟩, ⟨by (with_reducible repeat (first | apply Kd.R_alloc | apply Kd.R_drewN | apply Kd.R_drew)); exact Kd.R_mono HO693.out (fun _ hk => trivial)⟩, ⟨by (with_reducible repeat (first | refine blk_drewN ?_ _ | refine blk_drew ?_ | refine blk_alloc ?_ _)); exact BK672.out⟩, ⟨by repeat (first | (with_reducible first | exact HB.out | apply below_alloc | apply pw_below_drewN | apply below_drew1 | refine below_set ?_ GE672.out) | exact HB.out)⟩⟩
    case round =>
     clear H'
     try clear p2
     try clear c3
     try clear c5
     try clear c6
     try clear c8
     try clear c9
     try clear hcz10_0
     try clear hcz10_1
     try clear hcz10_2
     try clear hcz10_3
     try clear hcz10_4
     try clear hcz14_0
     try clear hcz14_1
     try clear hcz14_2
     try clear hcz14_3
     try clear hcz14_4
     try clear hcz21_0
     try clear hcz21_1
     try clear hcz21_2
     try clear hcz21_3
     try clear hcz21_4
     try clear hfz10_0
     try clear hfz10_1
     try clear hfz10_2
     try clear hfz10_3
     try clear hfz10_4
     try clear hfz14_0
     try clear hfz14_1
     try clear hfz14_2
     try clear hfz14_3
     try clear hfz14_4
     try clear hfz21_0
     try clear hfz21_1
     try clear hfz21_2
     try clear hfz21_3
     try clear hfz21_4
     obtain ⟨x3_1, x4_1, rfl, HA, HK1, HO_3, BK672, HB⟩ := hrel
     cases gk with
     | zero => exact absurd HA.out (by simp [spec_l06Bytes.l0])
     | succ k1 =>
      have H := HA.out
      clear HA
      simp only [spec_l06Bytes.l0] at H
      by_cases c23 : x4_1 < (l0_3.length : Int)
      ·rw [if_pos c23] at H
       have c23b0 : decide (x4_1 < (l0_3.length : Int)) = true := decide_eq_true c23
       clear c23
       by_cases c24 : 0 ≤ x4_1
       ·rw [if_pos c24] at H
        have c24b0 : decide (0 ≤ x4_1) = true := decide_eq_true c24
        clear c24
        replace H := Option.bind_eq_some_iff.mp H
        obtain ⟨t695, A250, H⟩ := H
        replace H : (if x3_1.length + t695.length < 140737488355328 then (spec_l06Bytes.l0 k1 (x3_1 ++ t695) (wrap64 (x4_1 + 1)) a0_0 a0_1 a0_2 l0_3 a0_4) else (none)) = some r := H
        have A25 := Aside0.mk A250
        clear A250
        by_cases c26 : x3_1.length + t695.length < 140737488355328
        ·rw [if_pos c26] at H
         have LMc26 := Aside0.mk c26
         clear c26
         obtain ⟨y698, hy698⟩ : ∃ y_ : List Int, y_ = (x3_1 ++ t695) := ⟨_, rfl⟩
         replace H : (spec_l06Bytes.l0 k1 y698 (wrap64 (x4_1 + 1)) a0_0 a0_1 a0_2 l0_3 a0_4) = some r := by first | (rw [hy698]; with_reducible exact H) | (have H2_ := (Option.bind_some _ _).symm.trans H; rw [hy698]; with_reducible exact H2_) | (have H2_ := (Option.bind_some _ _).symm.trans H; with_reducible exact H2_) | with_reducible exact H | (rw [hy698]; exact H) | exact H
         have Ny698 := Aside0.mk hy698
         clear hy698
         have H' := Aside0.mk H
         clear H
         have hcz27_0 : wr.cell? ⟨gb672, 0, none⟩ = some (.string a0_0) := (blk_cell BK672.out 0).trans rfl
         have hcz27_1 : wr.cell? ⟨gb672, 1, none⟩ = some (.string a0_1) := (blk_cell BK672.out 1).trans rfl
         have hcz27_2 : wr.cell? ⟨gb672, 2, none⟩ = some (.int .i64 a0_2) := (blk_cell BK672.out 2).trans rfl
         have hcz27_3 : wr.cell? ⟨gb672, 3, none⟩ = some (.slice A0_3 l0_3.length c0_3) := (blk_cell BK672.out 3).trans rfl
         have hcz27_4 : wr.cell? ⟨gb672, 4, none⟩ = some (.int .i64 a0_4) := (blk_cell BK672.out 4).trans rfl
         have hfz27_0 := blk_frozen BK672.out 0
         have hfz27_1 := blk_frozen BK672.out 1
         have hfz27_2 := blk_frozen BK672.out 2
         have hfz27_3 := blk_frozen BK672.out 3
         have hfz27_4 := blk_frozen BK672.out 4
         have p694 : 0 ≤ (x4_1 : Int) := of_decide_eq_true (by first | (with_reducible assumption) | assumption)
         have q694 : x4_1 < (l0_3.length : Int) := of_decide_eq_true (by first | (with_reducible assumption) | assumption)
         obtain ⟨ad694, e694, hx694_0, hx694_1, hx694_2, hx694_3, hx694_4⟩ := at_T82 HR0_3.out x4_1 p694 q694
         cases e694
         replace hx694_0 := (HB.out.cell (World.block_lt_of_cell? w _ hx694_0)).trans hx694_0
         replace hx694_1 := (HB.out.cell (World.block_lt_of_cell? w _ hx694_1)).trans hx694_1
         replace hx694_2 := (HB.out.cell (World.block_lt_of_cell? w _ hx694_2)).trans hx694_2
         replace hx694_3 := (HB.out.cell (World.block_lt_of_cell? w _ hx694_3)).trans hx694_3
         replace hx694_4 := (HB.out.cell (World.block_lt_of_cell? w _ hx694_4)).trans hx694_4
         replace p694 := eq_true p694
         replace q694 := eq_true q694
         go_wp2_with (first | ((with_reducible refine gate_callee (f := 98) rfl ?_); refine goesL_ (some 39) rfl rfl Try.func98 (by kernel_rfl) rfl #[.agg #[.string ((rd_T82 l0_3 x4_1).f0), .string ((rd_T82 l0_3 x4_1).f1), .string ((rd_T82 l0_3 x4_1).f2), .bool ((rd_T82 l0_3 x4_1).f3), .bool ((rd_T82 l0_3 x4_1).f4)]] rfl (by (try simp only [List.map_toArray, List.map_cons, List.map_nil]); first | done | rfl | (simp only [List.length_drop, List.length_take]; rfl)) ?_; (with_reducible refine (spec_l06Diff.calls ((rd_T82 l0_3 x4_1).f0) ((rd_T82 l0_3 x4_1).f1) ((rd_T82 l0_3 x4_1).f2) ((rd_T82 l0_3 x4_1).f3) ((rd_T82 l0_3 x4_1).f4) t695 _ A25.out).mono ?_); rintro e w28 ⟨v696, rfl, ho0, hb⟩; refine ⟨_, rfl, ?_⟩; have n0_ := Aside0.mk (Kd.R_elder' (by (with_reducible repeat (first | apply Kd.R_alloc | apply Kd.R_drewN | apply Kd.R_drew)); exact HO_3.out) (Kd.R_base ho0) hb); have n1_ := Aside0.mk (Kd.R_lower (Kd.R_new' ho0 (Kd.R_lt (by (with_reducible repeat (first | apply Kd.R_alloc | apply Kd.R_drewN | apply Kd.R_drew)); exact HO_3.out))) (below_size (by repeat (first | (with_reducible first | exact HB.out | apply below_alloc | apply pw_below_drewN | apply below_drew1 | refine below_set ?_ GE672.out) | exact HB.out)))); have n2_ := Aside0.mk (blk_below (g := gb672) (o := .cells #[.string a0_0, .string a0_1, .int .i64 a0_2, .slice (some ad694) l0_3.length c0_3, .int .i64 a0_4] 48 (0, 0)) (by (with_reducible repeat (first | refine blk_drewN ?_ _ | refine blk_drew ?_ | refine blk_alloc ?_ _)); exact BK672.out) hb); have n3_ := Aside0.mk (below_step (by repeat (first | (with_reducible first | exact HB.out | apply below_alloc | apply pw_below_drewN | apply below_drew1 | refine below_set ?_ GE672.out) | exact HB.out)) hb); clear HO_3; clear BK672; clear HB; have HO_3 := n0_; have HO697 := n1_; have BK672 := n2_; have HB := n3_; clear n0_ n1_ n2_ n3_; (try clear hb); (try clear hb2); (try clear hk); (try clear hi); (try clear ho0); obtain ⟨Ao30, co30, eo30⟩ := Kd.R_slice HO697.out; subst eo30) | ((with_reducible refine gate_builtin (b := .append) (xs := #[.tmp 33, .tmp 39]) rfl ?_); at_builtin; refine Kd.R_append_rows (Kd.int .u8) (w0 := w) w.heap.size rfl (.tmp 33) (.tmp 39) 52 5 (.int .u8 0) 1 rfl Try.underlying52 info5 rfl (by decide) (by omega) u3 x3_1 t695 _ _ _ (fun k_ => some k_ ≠ (.slice Ao30 t695.length co30 : Value).ownBlock) (fun _ => False) rfl rfl ?aO ?aR (fun _ _ h => h) (fun _ h => h.elim) ?aF ?aB ?aS ?aL ?_; (case aR => repeat (first | exact (Kd.R_reads' HO697.out).2.2 | (with_reducible refine Kd.C_alloc ?_ _) | (with_reducible refine Kd.C_drewN ?_ _) | (with_reducible refine Kd.C_drew ?_))); (case aB => exact (by repeat (first | (with_reducible first | exact HB.out | apply below_alloc | apply pw_below_drewN | apply below_drew1 | refine below_set ?_ GE672.out) | exact HB.out))); (case aF => exact (fun k_ hk => Kd.fresh' (Kd.R_lt (by (with_reducible repeat (first | apply Kd.R_alloc | apply Kd.R_drewN | apply Kd.R_drew)); exact HO697.out)) k_ hk)); (case aO => exact (by (with_reducible repeat (first | apply Kd.R_alloc | apply Kd.R_drewN | apply Kd.R_drew)); exact Kd.R_mono HO_3.out (fun _ hk => hk.2))); (case aS => exact (below_size (by repeat (first | (with_reducible first | exact HB.out | apply below_alloc | apply pw_below_drewN | apply below_drew1 | refine below_set ?_ GE672.out) | exact HB.out)))); (case aL => have := LMc26.out; omega); intro v699 w29 ho hb hg hat; rw [← Ny698.out] at ho; have n0_ := Aside0.mk (blk_grown (g := gb672) (o := .cells #[.string a0_0, .string a0_1, .int .i64 a0_2, .slice (some ad694) l0_3.length c0_3, .int .i64 a0_4] 48 (0, 0)) (by (with_reducible repeat (first | refine blk_drewN ?_ _ | refine blk_drew ?_ | refine blk_alloc ?_ _)); exact BK672.out) hg (Kd.R_ne HO_3.out BK672.out (by decide))); have n1_ := Aside0.mk (Kd.R_after (ok := (fun _ => True)) (by (with_reducible repeat (first | apply Kd.R_alloc | apply Kd.R_drewN | apply Kd.R_drew)); exact HO697.out) hg hat); have n2_ := Aside0.mk (hb); have n3_ := Aside0.mk (ho); clear BK672; clear HO697; clear HB; clear HO_3; have BK672 := n0_; have HO697 := n1_; have HB := n2_; have HO700 := n3_; clear n0_ n1_ n2_ n3_; clear ho hb hg hat))
         go_roundg k1
         case measure => have := HK1.out; omega
         case rel => exact ⟨(y698), (wrap64 (x4_1 + 1)), (by first | rfl | (simp; done) | (simp [*]; done)), H', ⟨by have := HK1.out; omega⟩, ⟨by (with_reducible repeat (first | apply Kd.R_alloc | apply Kd.R_drewN | apply Kd.R_drew)); exact Kd.R_mono HO700.out (fun _ hk => trivial)⟩, ⟨by (with_reducible repeat (first | refine blk_drewN ?_ _ | refine blk_drew ?_ | refine blk_alloc ?_ _)); exact BK672.out⟩, ⟨by repeat (first | (with_reducible first | exact HB.out | apply below_alloc | apply pw_below_drewN | apply below_drew1 | refine below_set ?_ GE672.out) | exact HB.out)⟩⟩
        ·rw [if_neg c26] at H
         exact absurd H (by simp)
       ·rw [if_neg c24] at H
        exact absurd H (by simp)
      ·rw [if_neg c23] at H
       have c23b0 : decide (x4_1 < (l0_3.length : Int)) = false := decide_eq_false c23
       clear c23
       replace H := Option.bind_eq_some_iff.mp H
       obtain ⟨t701, A310, H⟩ := H
       replace H : (if x3_1.length + t701.length < 140737488355328 then ((some (x3_1 ++ t701 : List Int)).bind fun y704 => ((spec_l06Link.f k1 a0_0 a0_1 a0_2 l0_3 a0_4).bind fun t707 => ((spec_l01Number.f k1 t707 4).bind fun t708 => (if y704.length + t708.length < 140737488355328 then (some (y704 ++ t708)) else (none))))) else (none)) = some r := H
       have A31 := Aside0.mk A310
       clear A310
       by_cases c32 : x3_1.length + t701.length < 140737488355328
       ·rw [if_pos c32] at H
        have LMc32 := Aside0.mk c32
        clear c32
        obtain ⟨y704, hy704⟩ : ∃ y_ : List Int, y_ = (x3_1 ++ t701) := ⟨_, rfl⟩
        replace H : ((spec_l06Link.f k1 a0_0 a0_1 a0_2 l0_3 a0_4).bind fun t707 => ((spec_l01Number.f k1 t707 4).bind fun t708 => (if y704.length + t708.length < 140737488355328 then (some (y704 ++ t708)) else (none)))) = some r := by first | (rw [hy704]; with_reducible exact H) | (have H2_ := (Option.bind_some _ _).symm.trans H; rw [hy704]; with_reducible exact H2_) | (have H2_ := (Option.bind_some _ _).symm.trans H; with_reducible exact H2_) | with_reducible exact H | (rw [hy704]; exact H) | exact H
        have Ny704 := Aside0.mk hy704
        clear hy704
        replace H := Option.bind_eq_some_iff.mp H
        obtain ⟨t707, A330, H⟩ := H
        replace H : ((spec_l01Number.f k1 t707 4).bind fun t708 => (if y704.length + t708.length < 140737488355328 then (some (y704 ++ t708)) else (none))) = some r := H
        have A33 := Aside0.mk A330
        clear A330
        replace H := Option.bind_eq_some_iff.mp H
        obtain ⟨t708, A340, H⟩ := H
        replace H : (if y704.length + t708.length < 140737488355328 then (some (y704 ++ t708)) else (none)) = some r := H
        have A34 := Aside0.mk A340
        clear A340
        by_cases c35 : y704.length + t708.length < 140737488355328
        ·rw [if_pos c35] at H
         have LMc35 := Aside0.mk c35
         clear c35
         obtain ⟨y711, hy711⟩ : ∃ y_ : List Int, y_ = (y704 ++ t708) := ⟨_, rfl⟩
         replace H : (some y711) = some r := by first | (rw [hy711]; with_reducible exact H) | (have H2_ := (Option.bind_some _ _).symm.trans H; rw [hy711]; with_reducible exact H2_) | (have H2_ := (Option.bind_some _ _).symm.trans H; with_reducible exact H2_) | with_reducible exact H | (rw [hy711]; exact H) | exact H
         have Ny711 := Aside0.mk hy711
         clear hy711
         obtain rfl := Option.some.inj H
         have hcz36_0 : wr.cell? ⟨gb672, 0, none⟩ = some (.string a0_0) := (blk_cell BK672.out 0).trans rfl
         have hcz36_1 : wr.cell? ⟨gb672, 1, none⟩ = some (.string a0_1) := (blk_cell BK672.out 1).trans rfl
         have hcz36_2 : wr.cell? ⟨gb672, 2, none⟩ = some (.int .i64 a0_2) := (blk_cell BK672.out 2).trans rfl
         have hcz36_3 : wr.cell? ⟨gb672, 3, none⟩ = some (.slice A0_3 l0_3.length c0_3) := (blk_cell BK672.out 3).trans rfl
         have hcz36_4 : wr.cell? ⟨gb672, 4, none⟩ = some (.int .i64 a0_4) := (blk_cell BK672.out 4).trans rfl
         have hfz36_0 := blk_frozen BK672.out 0
         have hfz36_1 := blk_frozen BK672.out 1
         have hfz36_2 := blk_frozen BK672.out 2
         have hfz36_3 := blk_frozen BK672.out 3
         have hfz36_4 := blk_frozen BK672.out 4
         try go_wp2
         have n0_ := Aside0.mk (Kd.R_drew HO_3.out)
         have n1_ := Aside0.mk (blk_drew BK672.out)
         have n2_ := Aside0.mk (below_drew1 HB.out)
         clear HO_3
         clear BK672
         clear HB
         have HO_3 := n0_
         have BK672 := n1_
         have HB := n2_
         clear n0_ n1_ n2_
         refine start_ (n := 10) (S := fun w' => w'.cell? ⟨gb672, 0, none⟩ = some (.string a0_0) ∧ w'.cell? ⟨gb672, 1, none⟩ = some (.string a0_1) ∧ w'.cell? ⟨gb672, 2, none⟩ = some (.int .i64 a0_2) ∧ w'.cell? ⟨gb672, 3, none⟩ = some (.slice A0_3 l0_3.length c0_3) ∧ w'.cell? ⟨gb672, 4, none⟩ = some (.int .i64 a0_4)) (ds := []) #[false, false, false, false, false, false, false, false, false, false] (by kernel_rfl) rfl rfl ⟨(blk_cell BK672.out 0).trans rfl, (blk_cell BK672.out 1).trans rfl, (blk_cell BK672.out 2).trans rfl, (blk_cell BK672.out 3).trans rfl, (blk_cell BK672.out 4).trans rfl⟩ (fun hHeld => ?_); refine with_tabW spec_l06Bytes.tab8 spec_l06Bytes.bits8 (fun HT_ HW_ => ?_)
         generalize wr.drew = w37 at HO_3 BK672 HB hHeld ⊢
         refine pure_ (i := 0) (N := some 41) (v := ?_) (a' := ?_) #[true, false, false, false, false, false, false, false, false, false] rfl rfl (any_of HT_.out (by kernel_rfl)) (fun _ _ _ h => h) (Or.inl ⟨by rfl, ?_⟩) ?_ ?_
         rotate_left
         ·intro w'
          go_simp
          with_reducible rfl
         rotate_left
         ·simp only [Act.put, List.setIfInBounds_toArray, List.set_cons_zero, List.set_cons_succ, i64_w, i32_w]
          rfl
         refine pure_ (i := 1) (N := some 42) (v := ?_) (a' := ?_) #[true, true, false, false, false, false, false, false, false, false] rfl rfl (any_of HT_.out (by kernel_rfl)) (fun _ _ _ h => h) (Or.inl ⟨by rfl, ?_⟩) ?_ ?_
         rotate_left
         ·intro w'
          go_simp
          with_reducible rfl
         rotate_left
         ·simp only [Act.put, List.setIfInBounds_toArray, List.set_cons_zero, List.set_cons_succ, i64_w, i32_w]
          rfl
         refine take_ (i := 2) (N := some 43) (v := ?_) (a' := ?_) #[true, true, true, false, false, false, false, false, false, false] rfl rfl (take_ofW HT_.out HW_.out (by kernel_rfl)) (fun _ _ _ h => h) (Or.inl ⟨by rfl, ?_⟩) hHeld ?_ ?_
         rotate_left
         ·rintro w' ⟨s0, s1, s2, s3, s4⟩
          go_simp
          with_reducible rfl
         rotate_left
         ·simp only [Act.put, List.setIfInBounds_toArray, List.set_cons_zero, List.set_cons_succ, i64_w, i32_w]
          rfl
         refine take_ (i := 5) (N := some 46) (v := ?_) (a' := ?_) #[true, true, true, false, false, true, false, false, false, false] rfl rfl (take_ofW HT_.out HW_.out (by kernel_rfl)) (fun _ _ _ h => h) (Or.inl ⟨by rfl, ?_⟩) hHeld ?_ ?_
         rotate_left
         ·rintro w' ⟨s0, s1, s2, s3, s4⟩
          go_simp
          with_reducible rfl
         rotate_left
         ·simp only [Act.put, List.setIfInBounds_toArray, List.set_cons_zero, List.set_cons_succ, i64_w, i32_w]
          rfl
         refine one_ (i := 3) (N := some 44) #[true, true, true, true, false, true, false, false, false, false] rfl rfl (one_of HT_.out (by kernel_rfl)) (by decide) (fun K hK => ?_)
         refine goes_ Try.func97 (by kernel_rfl) rfl #[.int .i64 a0_4, .int .i64 4] (by rfl) rfl rfl (by (try simp only [List.map_toArray, List.map_cons, List.map_nil]); first | done | rfl | (simp only [List.length_drop, List.length_take]; rfl)) ?_
         with_reducible refine (spec_l01Number.calls k1 a0_4 4 t701 _ A31.out).mono ?_
         rintro e w38 ⟨v702, rfl, ho0, hb⟩
         refine ⟨_, rfl, ?_⟩
         have n0_ := Aside0.mk (Kd.R_elder' (by (with_reducible repeat (first | apply Kd.R_alloc | apply Kd.R_drewN | apply Kd.R_drew)); exact HO_3.out) (Kd.R_base ho0) hb)
         have n1_ := Aside0.mk (Kd.R_lower (Kd.R_new' ho0 (Kd.R_lt (by (with_reducible repeat (first | apply Kd.R_alloc | apply Kd.R_drewN | apply Kd.R_drew)); exact HO_3.out))) (below_size (by repeat (first | (with_reducible first | exact HB.out | apply below_alloc | apply pw_below_drewN | apply below_drew1 | refine below_set ?_ GE672.out) | exact HB.out))))
         have n2_ := Aside0.mk (blk_below (g := gb672) (o := .cells #[.string a0_0, .string a0_1, .int .i64 a0_2, .slice A0_3 l0_3.length c0_3, .int .i64 a0_4] 48 (0, 0)) (by (with_reducible repeat (first | refine blk_drewN ?_ _ | refine blk_drew ?_ | refine blk_alloc ?_ _)); exact BK672.out) hb)
         have n3_ := Aside0.mk (below_step (by repeat (first | (with_reducible first | exact HB.out | apply below_alloc | apply pw_below_drewN | apply below_drew1 | refine below_set ?_ GE672.out) | exact HB.out)) hb)
         clear HO_3
         clear BK672
         clear HB
         have HO_3 := n0_
         have HO703 := n1_
         have BK672 := n2_
         have HB := n3_
         clear n0_ n1_ n2_ n3_
         (try clear hb)
         (try clear hb2)
         (try clear hk)
         (try clear hi)
         (try clear ho0)
         obtain ⟨Ao40, co40, eo40⟩ := Kd.R_slice HO703.out
         (first | subst eo40 | (injection eo40 with f1_ f2_ f3_; have f4_ := f1_.symm; have f5_ := f3_.symm; clear f1_ f2_ f3_; subst f4_; subst f5_))
         refine hK.out _ _ ⟨(blk_cell BK672.out 0).trans rfl, (blk_cell BK672.out 1).trans rfl, (blk_cell BK672.out 2).trans rfl, (blk_cell BK672.out 3).trans rfl, (blk_cell BK672.out 4).trans rfl⟩ (fun hHeld => ?_)
         clear hK K
         refine norm_ (a' := ?_) ?_ ?_
         rotate_left
         ·show Act.put _ (some 44) _ = _
          simp only [Act.put, List.setIfInBounds_toArray, List.set_cons_zero, List.set_cons_succ, i64_w, i32_w]
          rfl
         refine one_ (i := 4) (N := some 45) #[true, true, true, true, true, true, false, false, false, false] rfl rfl (one_of HT_.out (by kernel_rfl)) (by decide) (fun K hK => ?_)
         refine Kd.R_append_rows_step (Kd.int .u8) (w0 := w) w.heap.size (by rfl) (.tmp 41) (.tmp 44) 52 5 (.int .u8 0) 1 rfl Try.underlying52 info5 rfl (by decide) (by omega) u3 x3_1 t701 _ _ _ (fun k_ => some k_ ≠ (.slice Ao40 t701.length co40 : Value).ownBlock) (fun _ => False) rfl rfl ?aO ?aR (fun _ _ h => h) (fun _ h => h.elim) ?aF ?aB ?aS ?aL ?_
         (case aR => repeat (first | exact (Kd.R_reads' HO703.out).2.2 | (with_reducible refine Kd.C_alloc ?_ _) | (with_reducible refine Kd.C_drewN ?_ _) | (with_reducible refine Kd.C_drew ?_)))
         (case aB => exact (by repeat (first | (with_reducible first | exact HB.out | apply below_alloc | apply pw_below_drewN | apply below_drew1 | refine below_set ?_ GE672.out) | exact HB.out)))
         (case aF => exact (fun k_ hk => Kd.fresh' (Kd.R_lt (by (with_reducible repeat (first | apply Kd.R_alloc | apply Kd.R_drewN | apply Kd.R_drew)); exact HO703.out)) k_ hk))
         (case aO => exact (by (with_reducible repeat (first | apply Kd.R_alloc | apply Kd.R_drewN | apply Kd.R_drew)); exact Kd.R_mono HO_3.out (fun _ hk => hk.2)))
         (case aS => exact (below_size (by repeat (first | (with_reducible first | exact HB.out | apply below_alloc | apply pw_below_drewN | apply below_drew1 | refine below_set ?_ GE672.out) | exact HB.out))))
         (case aL => have := LMc32.out; omega)
         intro v705 w39 ho hb hg hat
         rw [← Ny704.out] at ho
         have n0_ := Aside0.mk (blk_grown (g := gb672) (o := .cells #[.string a0_0, .string a0_1, .int .i64 a0_2, .slice A0_3 l0_3.length c0_3, .int .i64 a0_4] 48 (0, 0)) (by (with_reducible repeat (first | refine blk_drewN ?_ _ | refine blk_drew ?_ | refine blk_alloc ?_ _)); exact BK672.out) hg (Kd.R_ne HO_3.out BK672.out (by decide)))
         have n1_ := Aside0.mk (Kd.R_after (ok := (fun _ => True)) (by (with_reducible repeat (first | apply Kd.R_alloc | apply Kd.R_drewN | apply Kd.R_drew)); exact HO703.out) hg hat)
         have n2_ := Aside0.mk (hb)
         have n3_ := Aside0.mk (ho)
         clear BK672
         clear HO703
         clear HB
         clear HO_3
         have BK672 := n0_
         have HO703 := n1_
         have HB := n2_
         have HO706 := n3_
         clear n0_ n1_ n2_ n3_
         clear ho hb hg hat
         refine hK.out _ _ ⟨(blk_cell BK672.out 0).trans rfl, (blk_cell BK672.out 1).trans rfl, (blk_cell BK672.out 2).trans rfl, (blk_cell BK672.out 3).trans rfl, (blk_cell BK672.out 4).trans rfl⟩ (fun hHeld => ?_)
         clear hK K
         refine norm_ (a' := ?_) ?_ ?_
         rotate_left
         ·show Act.put _ (some 45) _ = _
          simp only [Act.put, List.setIfInBounds_toArray, List.set_cons_zero, List.set_cons_succ, i64_w, i32_w]
          rfl
         refine one_ (i := 6) (N := some 47) #[true, true, true, true, true, true, true, false, false, false] rfl rfl (one_of HT_.out (by kernel_rfl)) (by decide) (fun K hK => ?_)
         refine goes_ Try.func75 (by kernel_rfl) rfl #[.agg #[.string a0_0, .string a0_1, .int .i64 a0_2, .slice A0_3 l0_3.length c0_3, .int .i64 a0_4]] (by rfl) rfl rfl (by (try simp only [List.map_toArray, List.map_cons, List.map_nil]); first | done | rfl | (simp only [List.length_drop, List.length_take]; rfl)) ?_
         with_reducible refine (spec_l06Link.calls k1 a0_0 a0_1 a0_2 _ _ l0_3 a0_4 t707 _ ?side1 ?side2 A33.out).mono ?_
         (case side1 => repeat (first | exact (Kd.C_below HR0_3.out HB.out) | (with_reducible refine Kd.C_alloc ?_ _) | (with_reducible refine Kd.C_drewN ?_ _) | (with_reducible refine Kd.C_drew ?_)))
         (case side2 => exact HC0_3.out)
         rintro e w41 ⟨rfl, hb⟩
         refine ⟨_, rfl, ?_⟩
         have n0_ := Aside0.mk (Kd.R_below (by (with_reducible repeat (first | apply Kd.R_alloc | apply Kd.R_drewN | apply Kd.R_drew)); exact HO703.out) hb)
         have n1_ := Aside0.mk (Kd.R_below (by (with_reducible repeat (first | apply Kd.R_alloc | apply Kd.R_drewN | apply Kd.R_drew)); exact HO706.out) hb)
         have n2_ := Aside0.mk (blk_below (g := gb672) (o := .cells #[.string a0_0, .string a0_1, .int .i64 a0_2, .slice A0_3 l0_3.length c0_3, .int .i64 a0_4] 48 (0, 0)) (by (with_reducible repeat (first | refine blk_drewN ?_ _ | refine blk_drew ?_ | refine blk_alloc ?_ _)); exact BK672.out) hb)
         have n3_ := Aside0.mk (below_step (by repeat (first | (with_reducible first | exact HB.out | apply below_alloc | apply pw_below_drewN | apply below_drew1 | refine below_set ?_ GE672.out) | exact HB.out)) hb)
         clear HO703
         clear HO706
         clear BK672
         clear HB
         have HO703 := n0_
         have HO706 := n1_
         have BK672 := n2_
         have HB := n3_
         clear n0_ n1_ n2_ n3_
         (try clear hb)
         (try clear hb2)
         (try clear hk)
         (try clear hi)
         refine hK.out _ _ ⟨(blk_cell BK672.out 0).trans rfl, (blk_cell BK672.out 1).trans rfl, (blk_cell BK672.out 2).trans rfl, (blk_cell BK672.out 3).trans rfl, (blk_cell BK672.out 4).trans rfl⟩ (fun hHeld => ?_)
         clear hK K
         refine norm_ (a' := ?_) ?_ ?_
         rotate_left
         ·show Act.put _ (some 47) _ = _
          simp only [Act.put, List.setIfInBounds_toArray, List.set_cons_zero, List.set_cons_succ, i64_w, i32_w]
          rfl
         refine one_ (i := 7) (N := some 48) #[true, true, true, true, true, true, true, true, false, false] rfl rfl (one_of HT_.out (by kernel_rfl)) (by decide) (fun K hK => ?_)
         refine goes_ Try.func97 (by kernel_rfl) rfl #[.int .i64 t707, .int .i64 4] (by rfl) rfl rfl (by (try simp only [List.map_toArray, List.map_cons, List.map_nil]); first | done | rfl | (simp only [List.length_drop, List.length_take]; rfl)) ?_
         with_reducible refine (spec_l01Number.calls k1 t707 4 t708 _ A34.out).mono ?_
         rintro e w42 ⟨v709, rfl, ho0, hb⟩
         refine ⟨_, rfl, ?_⟩
         have n0_ := Aside0.mk (Kd.R_elder' (by (with_reducible repeat (first | apply Kd.R_alloc | apply Kd.R_drewN | apply Kd.R_drew)); exact HO703.out) (Kd.R_base ho0) hb)
         have n1_ := Aside0.mk (Kd.R_elder' (by (with_reducible repeat (first | apply Kd.R_alloc | apply Kd.R_drewN | apply Kd.R_drew)); exact HO706.out) (Kd.R_base ho0) hb)
         have n2_ := Aside0.mk (Kd.R_lower (Kd.R_new' (Kd.R_new' ho0 (Kd.R_lt (by (with_reducible repeat (first | apply Kd.R_alloc | apply Kd.R_drewN | apply Kd.R_drew)); exact HO703.out))) (Kd.R_lt (by (with_reducible repeat (first | apply Kd.R_alloc | apply Kd.R_drewN | apply Kd.R_drew)); exact HO706.out))) (below_size (by repeat (first | (with_reducible first | exact HB.out | apply below_alloc | apply pw_below_drewN | apply below_drew1 | refine below_set ?_ GE672.out) | exact HB.out))))
         have n3_ := Aside0.mk (blk_below (g := gb672) (o := .cells #[.string a0_0, .string a0_1, .int .i64 a0_2, .slice A0_3 l0_3.length c0_3, .int .i64 a0_4] 48 (0, 0)) (by (with_reducible repeat (first | refine blk_drewN ?_ _ | refine blk_drew ?_ | refine blk_alloc ?_ _)); exact BK672.out) hb)
         have n4_ := Aside0.mk (below_step (by repeat (first | (with_reducible first | exact HB.out | apply below_alloc | apply pw_below_drewN | apply below_drew1 | refine below_set ?_ GE672.out) | exact HB.out)) hb)
         clear HO703
         clear HO706
         clear BK672
         clear HB
         have HO703 := n0_
         have HO706 := n1_
         have HO710 := n2_
         have BK672 := n3_
         have HB := n4_
         clear n0_ n1_ n2_ n3_ n4_
         (try clear hb)
         (try clear hb2)
         (try clear hk)
         (try clear hi)
         (try clear ho0)
         obtain ⟨Ao44, co44, eo44⟩ := Kd.R_slice HO710.out
         (first | subst eo44 | (injection eo44 with f1_ f2_ f3_; have f4_ := f1_.symm; have f5_ := f3_.symm; clear f1_ f2_ f3_; subst f4_; subst f5_))
         refine hK.out _ _ ⟨(blk_cell BK672.out 0).trans rfl, (blk_cell BK672.out 1).trans rfl, (blk_cell BK672.out 2).trans rfl, (blk_cell BK672.out 3).trans rfl, (blk_cell BK672.out 4).trans rfl⟩ (fun hHeld => ?_)
         clear hK K
         refine norm_ (a' := ?_) ?_ ?_
         rotate_left
         ·show Act.put _ (some 48) _ = _
          simp only [Act.put, List.setIfInBounds_toArray, List.set_cons_zero, List.set_cons_succ, i64_w, i32_w]
          rfl
         refine one_ (i := 8) (N := some 49) #[true, true, true, true, true, true, true, true, true, false] rfl rfl (one_of HT_.out (by kernel_rfl)) (by decide) (fun K hK => ?_)
         refine Kd.R_append_rows_step (Kd.int .u8) (w0 := w) w.heap.size (by rfl) (.tmp 45) (.tmp 48) 52 5 (.int .u8 0) 1 rfl Try.underlying52 info5 rfl (by decide) (by omega) v705 y704 t708 _ _ _ (fun k_ => some k_ ≠ (.slice Ao40 t701.length co40 : Value).ownBlock ∧ some k_ ≠ (.slice Ao44 t708.length co44 : Value).ownBlock) (fun _ => False) rfl rfl ?aO ?aR (fun _ _ h => h) (fun _ h => h.elim) ?aF ?aB ?aS ?aL ?_
         (case aR => repeat (first | exact (Kd.R_reads' HO710.out).2.2 | (with_reducible refine Kd.C_alloc ?_ _) | (with_reducible refine Kd.C_drewN ?_ _) | (with_reducible refine Kd.C_drew ?_)))
         (case aB => exact (by repeat (first | (with_reducible first | exact HB.out | apply below_alloc | apply pw_below_drewN | apply below_drew1 | refine below_set ?_ GE672.out) | exact HB.out)))
         (case aF => exact (fun k_ hk => ⟨Kd.fresh' (Kd.R_lt (by (with_reducible repeat (first | apply Kd.R_alloc | apply Kd.R_drewN | apply Kd.R_drew)); exact HO703.out)) k_ hk, Kd.fresh' (Kd.R_lt (by (with_reducible repeat (first | apply Kd.R_alloc | apply Kd.R_drewN | apply Kd.R_drew)); exact HO710.out)) k_ hk⟩))
         (case aO => exact (by (with_reducible repeat (first | apply Kd.R_alloc | apply Kd.R_drewN | apply Kd.R_drew)); exact HO706.out))
         (case aS => exact (below_size (by repeat (first | (with_reducible first | exact HB.out | apply below_alloc | apply pw_below_drewN | apply below_drew1 | refine below_set ?_ GE672.out) | exact HB.out))))
         (case aL => have := LMc35.out; omega)
         intro v712 w43 ho hb hg hat
         rw [← Ny711.out] at ho
         have n0_ := Aside0.mk (blk_grown (g := gb672) (o := .cells #[.string a0_0, .string a0_1, .int .i64 a0_2, .slice A0_3 l0_3.length c0_3, .int .i64 a0_4] 48 (0, 0)) (by (with_reducible repeat (first | refine blk_drewN ?_ _ | refine blk_drew ?_ | refine blk_alloc ?_ _)); exact BK672.out) hg (Kd.R_ne HO706.out BK672.out (by decide)))
         have n1_ := Aside0.mk (Kd.R_after (ok := (fun k_ => some k_ ≠ (.slice Ao44 t708.length co44 : Value).ownBlock)) (by (with_reducible repeat (first | apply Kd.R_alloc | apply Kd.R_drewN | apply Kd.R_drew)); exact Kd.R_mono HO703.out (fun _ hk => ⟨hk.2, hk.1.2⟩)) hg hat)
         have n2_ := Aside0.mk (Kd.R_after (ok := (fun k_ => some k_ ≠ (.slice Ao40 t701.length co40 : Value).ownBlock)) (by (with_reducible repeat (first | apply Kd.R_alloc | apply Kd.R_drewN | apply Kd.R_drew)); exact Kd.R_mono HO710.out (fun _ hk => ⟨hk.1.2, hk.2⟩)) hg hat)
         have n3_ := Aside0.mk (hb)
         have n4_ := Aside0.mk (ho)
         clear BK672
         clear HO703
         clear HO710
         clear HB
         clear HO706
         have BK672 := n0_
         have HO703 := n1_
         have HO710 := n2_
         have HB := n3_
         have HO713 := n4_
         clear n0_ n1_ n2_ n3_ n4_
         clear ho hb hg hat
         refine hK.out _ _ ⟨(blk_cell BK672.out 0).trans rfl, (blk_cell BK672.out 1).trans rfl, (blk_cell BK672.out 2).trans rfl, (blk_cell BK672.out 3).trans rfl, (blk_cell BK672.out 4).trans rfl⟩ (fun hHeld => ?_)
         clear hK K
         refine norm_ (a' := ?_) ?_ ?_
         rotate_left
         ·show Act.put _ (some 49) _ = _
          simp only [Act.put, List.setIfInBounds_toArray, List.set_cons_zero, List.set_cons_succ, i64_w, i32_w]
          rfl
         refine pure_ (i := 9) (N := some 2) (v := ?_) (a' := ?_) #[true, true, true, true, true, true, true, true, true, true] rfl rfl (any_of HT_.out (by kernel_rfl)) (fun _ _ _ h => h) (Or.inl ⟨by rfl, ?_⟩) ?_ ?_
         rotate_left
         ·intro w'
          go_simp
          with_reducible rfl
         rotate_left
         ·simp only [Act.put, List.setIfInBounds_toArray, List.set_cons_zero, List.set_cons_succ, i64_w, i32_w]
          rfl
         refine done_ (done_of HT_.out (by kernel_rfl)) ?_
         try go_wp2
         go_ret
         exact ⟨_, by first | rfl | (simp [errW_none, errW_some] <;> rfl) | (simp [*, errW_none, errW_some] <;> rfl), by (with_reducible repeat (first | apply Kd.R_alloc | apply Kd.R_drewN | apply Kd.R_drew)); exact Kd.R_mono HO713.out (fun _ hk => trivial), by repeat (first | (with_reducible first | exact HB.out | apply below_alloc | apply pw_below_drewN | apply below_drew1 | refine below_set ?_ GE672.out) | exact HB.out)⟩
        ·rw [if_neg c35] at H
         exact absurd H (by simp)
       ·rw [if_neg c32] at H
        exact absurd H (by simp)
   ·rw [if_neg c6] at H
    exact absurd H (by simp)
  ·rw [if_neg c5] at H
   exact absurd H (by simp)
 ·rw [if_neg c3] at H
  exact absurd H (by simp)
end Go.Proofs.Ytgcncphdjabjjaa.X
