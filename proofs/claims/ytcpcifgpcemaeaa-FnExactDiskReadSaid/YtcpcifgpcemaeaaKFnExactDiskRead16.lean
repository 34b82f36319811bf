import Derived.Test.YtcpcifgpcemaeaaKFnExactDiskRead4
import Derived.Test.YtcpcifgpcemaeaaKFnExactDiskRead5
import Derived.Test.YtcpcifgpcemaeaaKFnExactDiskRead6
import Derived.Test.YtcpcifgpcemaeaaKFnExactDiskRead10
import Derived.Test.YtcpcifgpcemaeaaKFnExactDiskRead11
import Derived.Test.YtcpcifgpcemaeaaKFnExactDiskRead12
import Derived.Test.YtcpcifgpcemaeaaKFnExactDiskRead13
import Derived.Test.YtcpcifgpcemaeaaKFnExactDiskRead14
import Derived.Test.YtcpcifgpcemaeaaKFnExactDiskRead15
import Derived.RangeFuncNested
import Derived.RangeFuncBound
import Derived.RangeFuncCalls
import Derived.RangeFuncLeaves
import Derived.Shelf.Abstract
import Derived.Shelf.RegionOpen
import Derived.WalkKit
import Derived.OwnWalkIn
import Derived.TacticsInMore
import Derived.LoopNIn
import Derived.LoopIn
namespace Go.Proofs.Ytcpcifgpcemaeaa.X
open Go.RowKit Go.Proofs.YtcpcifgpcemaeaaW.PrintWords Go.Proofs.YtcpcifgpcemaeaaW.PrintLast Go.Proofs.YtcpcifgpcemaeaaW.PrintMore
attribute [local go_sem] xbin_geq xbin_leq xbin_gtr max2_int min2_int max_two min_two max_three min_three max_four min_four
set_option linter.unusedVariables false
set_option linter.unusedSimpArgs false
theorem diskB_len {s : List ByteArray} {c : List S95} {a : Bool} {q : List Int} (h : diskB s c a q = true) : (1 ≤ s.length ∧ s.length ≤ 80) ∧ c.length ≤ 500 ∧ q.length ≤ 500 ∧ c.all (pendB s.length) = true := by
  unfold diskB at h
  simp only [Bool.and_eq_true, decide_eq_true_eq] at h
  exact ⟨h.1, h.2.1, h.2.2.1, h.2.2.2.2.2⟩
end Go.Proofs.Ytcpcifgpcemaeaa.X
namespace Go.Proofs.Ytcpcifgpcemaeaa.X
open Go.RowKit Go.Proofs.YtcpcifgpcemaeaaW.PrintWords Go.Proofs.YtcpcifgpcemaeaaW.PrintLast Go.Proofs.YtcpcifgpcemaeaaW.PrintMore
attribute [local go_sem] xbin_geq xbin_leq xbin_gtr max2_int min2_int max_two min_two max_three min_three max_four min_four
set_option linter.unusedVariables false
set_option linter.unusedSimpArgs false
open Go.Shelf
attribute [local go_sem] Oper.semAt_some
def readV (s : List ByteArray) (c : List S95) (at_ : Int) : ByteArray := match c.reverse.find? (fun p => decide (p.f0 = at_)) with
  | some p => p.f1
  | none => rdOf ByteArray.empty s at_
theorem back_snd (zs : List S95) (k : Nat) (hk : k ≤ zs.length) : (backTo zs k).map (·.2) = zs.reverse.take k := by
  apply List.ext_getElem
  · simp [backTo, hk]
  · intro i h1 h2
    simp only [backTo, List.map_map, List.getElem_map, List.getElem_range, Function.comp, backAt, rd_T95, Int.toNat_natCast, List.getElem_take, List.getElem_reverse]
    simp [backTo] at h1
    rw [List.getD_eq_getElem?_getD, List.getElem?_eq_getElem (by omega)]
    rfl
theorem readV_miss {s : List ByteArray} {c : List S95} {at_ : Int} (h : ∀ p ∈ backTo c c.length, p.2.f0 ≠ at_) : readV s c at_ = rdOf ByteArray.empty s at_ := by
  have e := back_snd c c.length (Nat.le_refl _)
  rw [← List.length_reverse, List.take_length, List.length_reverse] at e
  unfold readV
  rw [List.find?_eq_none.2 (fun x hx => by
    rw [← e] at hx
    obtain ⟨p, hp, rfl⟩ := List.mem_map.1 hx
    simpa using h p hp)]
theorem readV_hit {s : List ByteArray} {c : List S95} {at_ : Int} {k : Nat} (hk : k ≤ c.length) {ini : List (Nat × S95)} {last : Nat × S95} (e : backTo c k = ini ++ [last]) (hi : ∀ p ∈ ini, p.2.f0 ≠ at_) (hl : last.2.f0 = at_) : readV s c at_ = last.2.f1 := by
  have e1 := back_snd c k hk
  rw [e] at e1
  have e2 : c.reverse = (ini.map (·.2) ++ [last.2]) ++ c.reverse.drop k := by
    have e3 := List.take_append_drop k c.reverse
    rw [← e1, List.map_append] at e3
    exact e3.symm
  unfold readV
  rw [e2, List.find?_append, List.find?_append, List.find?_eq_none.2 (fun x hx => by obtain ⟨p, hp, rfl⟩ := List.mem_map.1 hx; simpa using hi p hp)]
  simp [hl]
set_option maxRecDepth 100000 in
set_option maxHeartbeats 8000000 in
theorem diskRead_good (A0 : Option Addr) (c0 : Nat) (s : List ByteArray) (A1 : Option Addr) (c1 : Nat) (c : List S95) (a : Bool) (A3 : Option Addr) (c3 : Nat) (q : List Int) (at_ : Int) (w : World) (hr0 : Kd.C Kd.string w A0 s.length s) (hc0 : s.length ≤ c0) (hr1 : Kd.C k95 w A1 c.length c) (hc1 : c.length ≤ c1) (hr3 : Kd.C (Kd.int .i64) w A3 q.length q) (hc3 : q.length ≤ c3) (hok : impl_DiskOK.f s c a q = some true) (hat : 0 ≤ at_ ∧ at_ < (s.length : Int)) (hcl : c.length ≤ 1000000) :
    Calls Try.prog 25 #[.agg #[.slice A0 s.length c0, .slice A1 c.length c1, .bool a, .slice A3 q.length c3], .int .i64 at_] w fun e w' => e = .returned (.tuple #[.string (readV s c at_), .int .i64 0]) ∧ Below w.heap.size w w' := by
  have hu := Try.underlying26
  have hu2 := Try.underlying95
  have HR0 := Aside0.mk hr0
  have HR1 := Aside0.mk hr1
  have HR3 := Aside0.mk hr3
  have HOK := Aside0.mk hok
  have HAT := Aside0.mk hat
  clear hr0 hr1 hr3 hok hat
  refine (callsIn_wide (n := 5)).1 ?_
  refine callsIn_of_wp_marks Try.func25 rfl trivial ?_ rfl
  simp only [Try.ntmps25, List.size_toArray, List.length_cons, List.length_nil, Nat.reduceAdd, Nat.reduceSub, Array.replicate_succ, Array.replicate_zero, List.push_toArray, List.append_toArray, List.nil_append, List.cons_append]
  gi_wp2
  have kD := blk_alloc (blk_alloc (blk_alloc (blk_new w (.cells #[.slice A0 s.length c0, .slice A1 c.length c1, .bool a, .slice A3 q.length c3] 26 (0, 0))) (.cells #[.int .i64 at_] 3 (0, 0))) (.cells #[.string ⟨#[]⟩] 9 (0, 0))) (.cells #[.int .i64 0] 3 (0, 0))
  have kA := blk_alloc (blk_alloc (blk_new (w.alloc (.cells #[.slice A0 s.length c0, .slice A1 c.length c1, .bool a, .slice A3 q.length c3] 26 (0, 0))) (.cells #[.int .i64 at_] 3 (0, 0))) (.cells #[.string ⟨#[]⟩] 9 (0, 0))) (.cells #[.int .i64 0] 3 (0, 0))
  have kS := blk_alloc (blk_new ((w.alloc (.cells #[.slice A0 s.length c0, .slice A1 c.length c1, .bool a, .slice A3 q.length c3] 26 (0, 0))).alloc (.cells #[.int .i64 at_] 3 (0, 0))) (.cells #[.string ⟨#[]⟩] 9 (0, 0))) (.cells #[.int .i64 0] 3 (0, 0))
  have kC := blk_new (((w.alloc (.cells #[.slice A0 s.length c0, .slice A1 c.length c1, .bool a, .slice A3 q.length c3] 26 (0, 0))).alloc (.cells #[.int .i64 at_] 3 (0, 0))).alloc (.cells #[.string ⟨#[]⟩] 9 (0, 0))) (.cells #[.int .i64 0] 3 (0, 0))
  have hB4 : Below w.heap.size w ((((w.alloc (.cells #[.slice A0 s.length c0, .slice A1 c.length c1, .bool a, .slice A3 q.length c3] 26 (0, 0))).alloc (.cells #[.int .i64 at_] 3 (0, 0))).alloc (.cells #[.string ⟨#[]⟩] 9 (0, 0))).alloc (.cells #[.int .i64 0] 3 (0, 0))) := below_alloc (below_alloc (below_alloc (below_alloc (Below.refl _ w) _) _) _) _
  have hz4 : ((((w.alloc (.cells #[.slice A0 s.length c0, .slice A1 c.length c1, .bool a, .slice A3 q.length c3] 26 (0, 0))).alloc (.cells #[.int .i64 at_] 3 (0, 0))).alloc (.cells #[.string ⟨#[]⟩] 9 (0, 0))).alloc (.cells #[.int .i64 0] 3 (0, 0))).heap.size = w.heap.size + 4 := by simp only [World.size_alloc]
  simp only [World.size_alloc] at kA kS kC
  obtain ⟨W4, hW4⟩ : ∃ W4, W4 = ((((w.alloc (.cells #[.slice A0 s.length c0, .slice A1 c.length c1, .bool a, .slice A3 q.length c3] 26 (0, 0))).alloc (.cells #[.int .i64 at_] 3 (0, 0))).alloc (.cells #[.string ⟨#[]⟩] 9 (0, 0))).alloc (.cells #[.int .i64 0] 3 (0, 0))) := ⟨_, rfl⟩
  rw [← hW4] at kD kA kS kC hB4 hz4 ⊢
  clear hW4
  refine ⟨trivial, ?_⟩
  refine CallsIn.mono (callsIn_wide.2 (impl_DiskOK.calls (hr0_0 := Kd.C_below HR0.out hB4) (hc0_0 := hc0) (hr0_1 := Kd.C_below HR1.out hB4) (hc0_1 := hc1) (hr0_3 := Kd.C_below HR3.out hB4) (hc0_3 := hc3) (h := HOK.out))) ?_
  rintro e w1 ⟨rfl, hb1⟩
  have HB1 := Aside0.mk (below_step hB4 hb1)
  have hz1 := hb1.size
  replace kD := blk_below kD hb1
  replace kA := blk_below kA hb1
  replace kS := blk_below kS hb1
  replace kC := blk_below kC hb1
  clear hb1 hB4
  have d0 := blk_cell kD 0
  have d1 := blk_cell kD 1
  have a0 := blk_cell kA 0
  simp only [List.getElem?_toArray, List.getElem?_cons_zero, List.getElem?_cons_succ] at d0 d1 a0
  have wi : IntKind.i64.wrap ((s.length : Int) - 1) = (s.length : Int) - 1 := by have := HAT.out; have := HR0.out.2.1; rw [IntKind.wrap_i64]; omega
  gi_wp2
  refine ⟨trivial, ?_⟩
  refine CallsIn.mono (callsIn_wide.2 (impl_within.calls at_ 0 ((s.length : Int) - 1) true w1 (by rw [within_is]; exact congrArg some (decide_eq_true (by have := HAT.out; omega))))) ?_
  rintro e w2 ⟨rfl, hd2⟩
  have hb2 : Below w1.heap.size w1 w2 := by first | exact hd2 | exact hd2.below
  have HB2 := Aside0.mk (below_step HB1.out hb2)
  have hz2 := hb2.size
  replace kD := blk_below kD hb2
  replace kA := blk_below kA hb2
  replace kS := blk_below kS hb2
  replace kC := blk_below kC hb2
  clear hb2 hd2 d0 d1 a0
  have d0 := blk_cell kD 0
  have d1 := blk_cell kD 1
  have a0 := blk_cell kA 0
  simp only [List.getElem?_toArray, List.getElem?_cons_zero, List.getElem?_cons_succ] at d0 d1 a0
  gi_wp2
  refine ⟨trivial, ?_⟩
  refine CallsIn.mono (backward_in Fence.wide 4 trivial rfl A1 c.length c1 w2) ?_
  rintro e w3 ⟨rfl, rfl⟩
  clear d0 d1 a0
  gi_wp2
  obtain ⟨W3, hW3⟩ : ∃ W3, W3 = w2.alloc (.cells #[.slice A1 c.length c1] 23 (0, 0)) := ⟨_, rfl⟩
  have hb3 : Below w2.heap.size w2 W3 := by rw [hW3]; exact below_alloc (Below.refl _ w2) _
  have bN : Boxed W3 w2.heap.size 23 (.slice A1 c.length c1) := by rw [hW3]; exact Boxed.new w2 _ _
  have hs3 : W3.heap.size = w2.heap.size + 1 := by rw [hW3]; simp
  rw [← hW3]
  clear hW3
  replace kD := blk_below kD hb3
  replace kA := blk_below kA hb3
  replace kS := blk_below kS hb3
  replace kC := blk_below kC hb3
  have HB3 := Aside0.mk (below_step HB2.out hb3)
  clear hb3
  refine wpIn_rangeFunc_ownH rfl (by omega) (gf := 116) (lb := #[.pointer (some ⟨w2.heap.size, 0, none⟩)]) rfl trivial (enters_of Try.func116 (by kernel_rfl) rfl)
    (back_stops Fence.wide 4 trivial rfl (by omega) w2.heap.size W3 A1 c1 c hcl (by omega) bN.cell (Kd.C_below HR1.out HB3.out)) belowK_t (belowK_b (Nat.le_refl _)) (Below.refl _ _) (fun _ => rfl)
    (fun (pre : List (Nat × S95)) W => (∀ p ∈ pre, p.2.f0 ≠ at_) ∧ Below W3.heap.size W3 W)
    (fun cd (pre : List (Nat × S95)) W => (cd = .ret ∧ ∃ ini last, pre = ini ++ [last] ∧ (∀ p ∈ ini, p.2.f0 ≠ at_) ∧ last.2.f0 = at_ ∧ W.cell? ⟨w.heap.size + 1 + 1, 0, none⟩ = some (.string last.2.f1) ∧ W.cell? ⟨w.heap.size + 1 + 1 + 1, 0, none⟩ = some (.int .i64 0)) ∧ Below w.heap.size w W)
    (OwnFrom.and (ownFrom_pure _ _) (ownFrom_below (Nat.le_refl _) (Nat.le_refl _)))
    (fun cd => OwnFrom.and (Own.from (fun s A B row hs hg hr => by obtain ⟨hc, ini, last, e1, e2, e3, e4, e5⟩ := hs; exact ⟨hc, ini, last, e1, e2, e3, cell_kept e4 hg hr, cell_kept e5 hg hr⟩) _) (ownFrom_below (Nat.le_refl _) (by omega)))
    ⟨by simp, Below.refl _ _⟩
    (fun (x : Nat × S95) a' W => ∃ Bx, W3.heap.size ≤ Bx ∧ W.heap[Bx]? = some (.cells #[.int .i64 x.2.f0, .string x.2.f1] 95 (0, 0)) ∧ a' = {
          tmps := #[.agg #[.slice A0 s.length c0, .slice A1 c.length c1, .bool a, .slice A3 q.length c3],
          .int .i64 at_, .pointer (some ⟨w.heap.size, 0, none⟩), .pointer (some ⟨w.heap.size + 1, 0, none⟩), .pointer (some ⟨w.heap.size + 1 + 1, 0, none⟩),
          .pointer (some ⟨w.heap.size + 1 + 1 + 1, 0, none⟩), undef, .pointer (some ⟨Bx, 0, none⟩), .bool false, .agg #[.slice A0 s.length c0, .slice A1 c.length c1, .bool a, .slice A3 q.length c3],
          .bool true, .bool false, .bool false, .int .i64 at_, .pointer (some ⟨w.heap.size, 0, none⟩), .slice A0 s.length c0, .int .i64 s.length, .int .i64 (s.length - 1), .bool true, .bool false,
          .pointer (some ⟨w.heap.size, 1, none⟩), .slice A1 c.length c1, .func (.func 116) #[] #[.pointer (some ⟨w2.heap.size, 0, none⟩)], .int .i64 (x.1 : Int), .agg #[.int .i64 x.2.f0, .string x.2.f1], undef,
          undef, undef, undef, undef, undef, undef, undef, undef, undef, undef], defers := [] })
    (fun x a' _ X Y row hs hg hr => by obtain ⟨Bx, h1, h2, h3⟩ := hs; exact ⟨Bx, h1, (hg.block Bx (Array.getElem?_eq_some_iff.1 h2).1 (fun e => by obtain ⟨_, o, ho, hc⟩ := hr Bx e.symm; rw [h2] at ho; cases ho; cases hc)).trans h2, h3⟩)
    ?assign ?body ?done ?stop
  case assign =>
    rintro l pre x W K ⟨hp, hB⟩ hK
    gi_wp2
    exact hK _ _ ((KeepsOthers.alloc _ _).from _) ((Below.refl _ W).alloc hB.size _) ⟨hp, hB.alloc hB.size _⟩ ⟨W.heap.size, hB.size, blk_new W _, rfl⟩
  case body =>
    rintro l pre x a' W hl - ⟨hp, hB⟩ ⟨Bx, hBx, kX, rfl⟩ hlt
    have kD1 := blk_below kD hB
    have kA1 := blk_below kA hB
    have kS1 : Boxed W (w.heap.size + 1 + 1) 9 (.string ⟨#[]⟩) := blk_below kS hB
    have kC1 : Boxed W (w.heap.size + 1 + 1 + 1) 3 (.int .i64 0) := blk_below kC hB
    have x0 := blk_cell kX 0
    have x1 := blk_cell kX 1
    have a0 := blk_cell kA1 0
    simp only [List.getElem?_toArray, List.getElem?_cons_zero, List.getElem?_cons_succ] at x0 x1 a0
    have fS := Boxed.frozen kS1
    have fC := Boxed.frozen kC1
    have sc := Boxed.cell kS1
    have cc := Boxed.cell kC1
    by_cases hx : x.2.f0 = at_
    · have cq : decide (x.2.f0 = at_) = true := decide_eq_true hx
      gi_wp2
      refine ⟨((KeepsOthers.setCell _ _ _).from _).trans ((KeepsOthers.setCell _ _ _).from _), ⟨rfl, pre, x, rfl, hp, hx, ((Boxed.set _ kS1).other (by omega) _).cell, ((Boxed.other kC1 (by omega) _).set _).cell⟩, ?_⟩
      exact ((below_step HB3.out hB).setCell (p := ⟨w.heap.size + 1 + 1, 0, none⟩) (by show w.heap.size ≤ w.heap.size + 1 + 1; omega) _).setCell (p := ⟨w.heap.size + 1 + 1 + 1, 0, none⟩) (by show w.heap.size ≤ w.heap.size + 1 + 1 + 1; omega) _
    · have cq : decide (x.2.f0 = at_) = false := decide_eq_false hx
      gi_wp2
      exact ⟨KeepsFrom.refl _ _, Below.refl _ _, fun p hp' => (List.mem_append.1 hp').elim (hp p) (fun e => by simp at e; subst e; exact hx), hB⟩
  case done =>
    rintro D ys W hD rfl ⟨hp, hB⟩ hK
    have kD1 := blk_below kD hB
    have kA1 := blk_below kA hB
    have kS1 : Boxed W (w.heap.size + 1 + 1) 9 (.string ⟨#[]⟩) := blk_below kS hB
    have kC1 : Boxed W (w.heap.size + 1 + 1 + 1) 3 (.int .i64 0) := blk_below kC hB
    have d0 := blk_cell kD1 0
    have a0 := blk_cell kA1 0
    simp only [List.getElem?_toArray, List.getElem?_cons_zero, List.getElem?_cons_succ] at d0 a0
    have fS := Boxed.frozen kS1
    have fC := Boxed.frozen kC1
    have sc := Boxed.cell kS1
    have cc := Boxed.cell kC1
    obtain ⟨ad, e, hx0⟩ := Kd.at_string (Kd.C_below HR0.out (below_step HB3.out hB)) at_ HAT.out.1 HAT.out.2
    cases e
    have p1 : (0 ≤ at_) = True := eq_true HAT.out.1
    have q1 : (at_ < (s.length : Int)) = True := eq_true HAT.out.2
    have hrv := readV_miss (s := s) hp
    generalize rdOf ByteArray.empty s at_ = d at hx0 hrv
    have HRV := Aside0.mk hrv
    clear hrv
    gi_wp2
    have hK' := (KeepsOthers.setCell _ ⟨w.heap.size + 1 + 1 + 1, 0, none⟩ (.int .i64 0)).same D _ ((KeepsOthers.setCell W ⟨w.heap.size + 1 + 1, 0, none⟩ (.string d)).same D _ hK rfl) rfl
    refine ⟨by simp, .inl ⟨_, _, rfl, run_takeDeferred hK', ?_⟩⟩
    have hc5 := cell_kept (Boxed.other (B' := w.heap.size + 1 + 1 + 1) (Boxed.set (.string d) kS1) (by omega) (.int .i64 0)).cell (grownBy_putObj' _ D (.deferred none)) (fun r e => by cases e; exact ⟨_, hK', rfl⟩)
    have hc6 := cell_kept (Boxed.set (.int .i64 0) (Boxed.other (B' := w.heap.size + 1 + 1) kC1 (by omega) (.string d))).cell (grownBy_putObj' _ D (.deferred none)) (fun r e => by cases e; exact ⟨_, hK', rfl⟩)
    refine ⟨.tuple #[.string d, .int .i64 0], ?_, by rw [HRV.out], ?_⟩
    · simp [results, Try.f25, go_sem, hc5, hc6]
    · exact (((below_step HB3.out hB).setCell (p := ⟨w.heap.size + 1 + 1, 0, none⟩) (by show w.heap.size ≤ w.heap.size + 1 + 1; omega) _).setCell (p := ⟨w.heap.size + 1 + 1 + 1, 0, none⟩) (by show w.heap.size ≤ w.heap.size + 1 + 1 + 1; omega) _).trans (belowK_b (w := w) (Nat.le_refl _) _ D _ _ (by omega) hK' rfl rfl)
  case stop =>
    rintro D cd pre W hD ⟨k, hk, rfl⟩ ⟨⟨rfl, ini, last, e1, e2, e3, hS, hC⟩, hB⟩ hK
    gi_wp2
    refine ⟨by simp, .inl ⟨_, _, rfl, run_takeDeferred hK, ?_⟩⟩
    have hc5 := cell_kept hS (grownBy_putObj' _ D (.deferred none)) (fun r e => by cases e; exact ⟨_, hK, rfl⟩)
    have hc6 := cell_kept hC (grownBy_putObj' _ D (.deferred none)) (fun r e => by cases e; exact ⟨_, hK, rfl⟩)
    refine ⟨.tuple #[.string last.2.f1, .int .i64 0], ?_, by rw [readV_hit hk e1 e2 e3], hB.trans (belowK_b (w := w) (Nat.le_refl _) W D _ _ (by omega) hK rfl rfl)⟩
    simp [results, Try.f25, go_sem, hc5, hc6]
set_option maxRecDepth 100000 in
set_option maxHeartbeats 8000000 in
theorem diskRead_bad1 (A0 : Option Addr) (c0 : Nat) (s : List ByteArray) (A1 : Option Addr) (c1 : Nat) (c : List S95) (a : Bool) (A3 : Option Addr) (c3 : Nat) (q : List Int) (at_ : Int) (w : World) (hr0 : Kd.C Kd.string w A0 s.length s) (hc0 : s.length ≤ c0) (hr1 : Kd.C k95 w A1 c.length c) (hc1 : c.length ≤ c1) (hr3 : Kd.C (Kd.int .i64) w A3 q.length q) (hc3 : q.length ≤ c3) (hok : impl_DiskOK.f s c a q = some false) :
    Calls Try.prog 25 #[.agg #[.slice A0 s.length c0, .slice A1 c.length c1, .bool a, .slice A3 q.length c3], .int .i64 at_] w fun e w' => e = .returned (.tuple #[.string ⟨#[]⟩, .int .i64 1]) ∧ Below w.heap.size w w' := by
  have hu := Try.underlying26
  have hu2 := Try.underlying95
  have HR0 := Aside0.mk hr0
  have HR1 := Aside0.mk hr1
  have HR3 := Aside0.mk hr3
  have HOK := Aside0.mk hok
  clear hr0 hr1 hr3 hok
  refine (callsIn_wide (n := 5)).1 ?_
  refine callsIn_of_wp Try.func25 rfl trivial ?_ rfl
  simp only [Try.ntmps25, List.size_toArray, List.length_cons, List.length_nil, Nat.reduceAdd, Nat.reduceSub, Array.replicate_succ, Array.replicate_zero, List.push_toArray, List.append_toArray, List.nil_append, List.cons_append]
  gi_wp2
  have kD := blk_alloc (blk_alloc (blk_alloc (blk_new w (.cells #[.slice A0 s.length c0, .slice A1 c.length c1, .bool a, .slice A3 q.length c3] 26 (0, 0))) (.cells #[.int .i64 at_] 3 (0, 0))) (.cells #[.string ⟨#[]⟩] 9 (0, 0))) (.cells #[.int .i64 0] 3 (0, 0))
  have kA := blk_alloc (blk_alloc (blk_new (w.alloc (.cells #[.slice A0 s.length c0, .slice A1 c.length c1, .bool a, .slice A3 q.length c3] 26 (0, 0))) (.cells #[.int .i64 at_] 3 (0, 0))) (.cells #[.string ⟨#[]⟩] 9 (0, 0))) (.cells #[.int .i64 0] 3 (0, 0))
  have kS := blk_alloc (blk_new ((w.alloc (.cells #[.slice A0 s.length c0, .slice A1 c.length c1, .bool a, .slice A3 q.length c3] 26 (0, 0))).alloc (.cells #[.int .i64 at_] 3 (0, 0))) (.cells #[.string ⟨#[]⟩] 9 (0, 0))) (.cells #[.int .i64 0] 3 (0, 0))
  have kC := blk_new (((w.alloc (.cells #[.slice A0 s.length c0, .slice A1 c.length c1, .bool a, .slice A3 q.length c3] 26 (0, 0))).alloc (.cells #[.int .i64 at_] 3 (0, 0))).alloc (.cells #[.string ⟨#[]⟩] 9 (0, 0))) (.cells #[.int .i64 0] 3 (0, 0))
  have hB4 : Below w.heap.size w ((((w.alloc (.cells #[.slice A0 s.length c0, .slice A1 c.length c1, .bool a, .slice A3 q.length c3] 26 (0, 0))).alloc (.cells #[.int .i64 at_] 3 (0, 0))).alloc (.cells #[.string ⟨#[]⟩] 9 (0, 0))).alloc (.cells #[.int .i64 0] 3 (0, 0))) := below_alloc (below_alloc (below_alloc (below_alloc (Below.refl _ w) _) _) _) _
  have hz4 : ((((w.alloc (.cells #[.slice A0 s.length c0, .slice A1 c.length c1, .bool a, .slice A3 q.length c3] 26 (0, 0))).alloc (.cells #[.int .i64 at_] 3 (0, 0))).alloc (.cells #[.string ⟨#[]⟩] 9 (0, 0))).alloc (.cells #[.int .i64 0] 3 (0, 0))).heap.size = w.heap.size + 4 := by simp only [World.size_alloc]
  simp only [World.size_alloc] at kA kS kC
  obtain ⟨W4, hW4⟩ : ∃ W4, W4 = ((((w.alloc (.cells #[.slice A0 s.length c0, .slice A1 c.length c1, .bool a, .slice A3 q.length c3] 26 (0, 0))).alloc (.cells #[.int .i64 at_] 3 (0, 0))).alloc (.cells #[.string ⟨#[]⟩] 9 (0, 0))).alloc (.cells #[.int .i64 0] 3 (0, 0))) := ⟨_, rfl⟩
  rw [← hW4] at kD kA kS kC hB4 hz4 ⊢
  clear hW4
  refine ⟨trivial, ?_⟩
  refine CallsIn.mono (callsIn_wide.2 (impl_DiskOK.calls (hr0_0 := Kd.C_below HR0.out hB4) (hc0_0 := hc0) (hr0_1 := Kd.C_below HR1.out hB4) (hc0_1 := hc1) (hr0_3 := Kd.C_below HR3.out hB4) (hc0_3 := hc3) (h := HOK.out))) ?_
  rintro e w1 ⟨rfl, hb1⟩
  have HB1 := Aside0.mk (below_step hB4 hb1)
  have hz1 := hb1.size
  replace kD := blk_below kD hb1
  replace kA := blk_below kA hb1
  replace kS := blk_below kS hb1
  replace kC := blk_below kC hb1
  clear hb1 hB4
  have d0 := blk_cell kD 0
  have d1 := blk_cell kD 1
  have a0 := blk_cell kA 0
  simp only [List.getElem?_toArray, List.getElem?_cons_zero, List.getElem?_cons_succ] at d0 d1 a0
  have fS := blk_frozen kS 0
  have fC := blk_frozen kC 0
  have sc := blk_cell kS 0
  have cc := blk_cell kC 0
  simp only [List.getElem?_toArray, List.getElem?_cons_zero, List.getElem?_cons_succ] at sc cc
  have kS1 : Boxed w1 (w.heap.size + 1 + 1) 9 (.string ⟨#[]⟩) := kS
  have kC1 : Boxed w1 (w.heap.size + 1 + 1 + 1) 3 (.int .i64 0) := kC
  gi_wp2
  have hc5 := (Boxed.other (B' := w.heap.size + 1 + 1 + 1) (Boxed.set (.string ⟨#[]⟩) kS1) (by omega) (.int .i64 1)).cell
  have hc6 := (Boxed.set (.int .i64 1) (Boxed.other (B' := w.heap.size + 1 + 1) kC1 (by omega) (.string ⟨#[]⟩))).cell
  try simp only [Exit.inBlock, Exit.then]
  refine bodyPost_ret (v := .tuple #[.string ⟨#[]⟩, .int .i64 1]) ?_ rfl ⟨rfl, ?_⟩
  · simp [results, Try.f25, go_sem, hc5, hc6]
  · exact ((HB1.out).setCell (p := ⟨w.heap.size + 1 + 1, 0, none⟩) (by show w.heap.size ≤ w.heap.size + 1 + 1; omega) _).setCell (p := ⟨w.heap.size + 1 + 1 + 1, 0, none⟩) (by show w.heap.size ≤ w.heap.size + 1 + 1 + 1; omega) _
set_option maxRecDepth 100000 in
set_option maxHeartbeats 8000000 in
theorem diskRead_bad4 (A0 : Option Addr) (c0 : Nat) (s : List ByteArray) (A1 : Option Addr) (c1 : Nat) (c : List S95) (a : Bool) (A3 : Option Addr) (c3 : Nat) (q : List Int) (at_ : Int) (w : World) (hr0 : Kd.C Kd.string w A0 s.length s) (hc0 : s.length ≤ c0) (hr1 : Kd.C k95 w A1 c.length c) (hc1 : c.length ≤ c1) (hr3 : Kd.C (Kd.int .i64) w A3 q.length q) (hc3 : q.length ≤ c3) (hok : impl_DiskOK.f s c a q = some true) (hat : ¬ (0 ≤ at_ ∧ at_ < (s.length : Int))) :
    Calls Try.prog 25 #[.agg #[.slice A0 s.length c0, .slice A1 c.length c1, .bool a, .slice A3 q.length c3], .int .i64 at_] w fun e w' => e = .returned (.tuple #[.string ⟨#[]⟩, .int .i64 4]) ∧ Below w.heap.size w w' := by
  have hu := Try.underlying26
  have hu2 := Try.underlying95
  have HR0 := Aside0.mk hr0
  have HR1 := Aside0.mk hr1
  have HR3 := Aside0.mk hr3
  have HOK := Aside0.mk hok
  have HAT := Aside0.mk hat
  clear hr0 hr1 hr3 hok hat
  refine (callsIn_wide (n := 5)).1 ?_
  refine callsIn_of_wp Try.func25 rfl trivial ?_ rfl
  simp only [Try.ntmps25, List.size_toArray, List.length_cons, List.length_nil, Nat.reduceAdd, Nat.reduceSub, Array.replicate_succ, Array.replicate_zero, List.push_toArray, List.append_toArray, List.nil_append, List.cons_append]
  gi_wp2
  have kD := blk_alloc (blk_alloc (blk_alloc (blk_new w (.cells #[.slice A0 s.length c0, .slice A1 c.length c1, .bool a, .slice A3 q.length c3] 26 (0, 0))) (.cells #[.int .i64 at_] 3 (0, 0))) (.cells #[.string ⟨#[]⟩] 9 (0, 0))) (.cells #[.int .i64 0] 3 (0, 0))
  have kA := blk_alloc (blk_alloc (blk_new (w.alloc (.cells #[.slice A0 s.length c0, .slice A1 c.length c1, .bool a, .slice A3 q.length c3] 26 (0, 0))) (.cells #[.int .i64 at_] 3 (0, 0))) (.cells #[.string ⟨#[]⟩] 9 (0, 0))) (.cells #[.int .i64 0] 3 (0, 0))
  have kS := blk_alloc (blk_new ((w.alloc (.cells #[.slice A0 s.length c0, .slice A1 c.length c1, .bool a, .slice A3 q.length c3] 26 (0, 0))).alloc (.cells #[.int .i64 at_] 3 (0, 0))) (.cells #[.string ⟨#[]⟩] 9 (0, 0))) (.cells #[.int .i64 0] 3 (0, 0))
  have kC := blk_new (((w.alloc (.cells #[.slice A0 s.length c0, .slice A1 c.length c1, .bool a, .slice A3 q.length c3] 26 (0, 0))).alloc (.cells #[.int .i64 at_] 3 (0, 0))).alloc (.cells #[.string ⟨#[]⟩] 9 (0, 0))) (.cells #[.int .i64 0] 3 (0, 0))
  have hB4 : Below w.heap.size w ((((w.alloc (.cells #[.slice A0 s.length c0, .slice A1 c.length c1, .bool a, .slice A3 q.length c3] 26 (0, 0))).alloc (.cells #[.int .i64 at_] 3 (0, 0))).alloc (.cells #[.string ⟨#[]⟩] 9 (0, 0))).alloc (.cells #[.int .i64 0] 3 (0, 0))) := below_alloc (below_alloc (below_alloc (below_alloc (Below.refl _ w) _) _) _) _
  have hz4 : ((((w.alloc (.cells #[.slice A0 s.length c0, .slice A1 c.length c1, .bool a, .slice A3 q.length c3] 26 (0, 0))).alloc (.cells #[.int .i64 at_] 3 (0, 0))).alloc (.cells #[.string ⟨#[]⟩] 9 (0, 0))).alloc (.cells #[.int .i64 0] 3 (0, 0))).heap.size = w.heap.size + 4 := by simp only [World.size_alloc]
  simp only [World.size_alloc] at kA kS kC
  obtain ⟨W4, hW4⟩ : ∃ W4, W4 = ((((w.alloc (.cells #[.slice A0 s.length c0, .slice A1 c.length c1, .bool a, .slice A3 q.length c3] 26 (0, 0))).alloc (.cells #[.int .i64 at_] 3 (0, 0))).alloc (.cells #[.string ⟨#[]⟩] 9 (0, 0))).alloc (.cells #[.int .i64 0] 3 (0, 0))) := ⟨_, rfl⟩
  rw [← hW4] at kD kA kS kC hB4 hz4 ⊢
  clear hW4
  refine ⟨trivial, ?_⟩
  refine CallsIn.mono (callsIn_wide.2 (impl_DiskOK.calls (hr0_0 := Kd.C_below HR0.out hB4) (hc0_0 := hc0) (hr0_1 := Kd.C_below HR1.out hB4) (hc0_1 := hc1) (hr0_3 := Kd.C_below HR3.out hB4) (hc0_3 := hc3) (h := HOK.out))) ?_
  rintro e w1 ⟨rfl, hb1⟩
  have HB1 := Aside0.mk (below_step hB4 hb1)
  have hz1 := hb1.size
  replace kD := blk_below kD hb1
  replace kA := blk_below kA hb1
  replace kS := blk_below kS hb1
  replace kC := blk_below kC hb1
  clear hb1 hB4
  have d0 := blk_cell kD 0
  have d1 := blk_cell kD 1
  have a0 := blk_cell kA 0
  simp only [List.getElem?_toArray, List.getElem?_cons_zero, List.getElem?_cons_succ] at d0 d1 a0
  have wi : IntKind.i64.wrap ((s.length : Int) - 1) = (s.length : Int) - 1 := by have := HR0.out.2.1; rw [IntKind.wrap_i64]; omega
  gi_wp2
  refine ⟨trivial, ?_⟩
  refine CallsIn.mono (callsIn_wide.2 (impl_within.calls at_ 0 ((s.length : Int) - 1) false w1 (by rw [within_is]; exact congrArg some (decide_eq_false (by have := HAT.out; omega))))) ?_
  rintro e w2 ⟨rfl, hd2⟩
  have hb2 : Below w1.heap.size w1 w2 := by first | exact hd2 | exact hd2.below
  have HB2 := Aside0.mk (below_step HB1.out hb2)
  have hz2 := hb2.size
  replace kD := blk_below kD hb2
  replace kA := blk_below kA hb2
  replace kS := blk_below kS hb2
  replace kC := blk_below kC hb2
  clear hb2 hd2 d0 d1 a0
  have d0 := blk_cell kD 0
  have d1 := blk_cell kD 1
  have a0 := blk_cell kA 0
  simp only [List.getElem?_toArray, List.getElem?_cons_zero, List.getElem?_cons_succ] at d0 d1 a0
  have fS := blk_frozen kS 0
  have fC := blk_frozen kC 0
  have sc := blk_cell kS 0
  have cc := blk_cell kC 0
  simp only [List.getElem?_toArray, List.getElem?_cons_zero, List.getElem?_cons_succ] at sc cc
  have kS1 : Boxed w2 (w.heap.size + 1 + 1) 9 (.string ⟨#[]⟩) := kS
  have kC1 : Boxed w2 (w.heap.size + 1 + 1 + 1) 3 (.int .i64 0) := kC
  gi_wp2
  have hc5 := (Boxed.other (B' := w.heap.size + 1 + 1 + 1) (Boxed.set (.string ⟨#[]⟩) kS1) (by omega) (.int .i64 4)).cell
  have hc6 := (Boxed.set (.int .i64 4) (Boxed.other (B' := w.heap.size + 1 + 1) kC1 (by omega) (.string ⟨#[]⟩))).cell
  try simp only [Exit.inBlock, Exit.then]
  refine bodyPost_ret (v := .tuple #[.string ⟨#[]⟩, .int .i64 4]) ?_ rfl ⟨rfl, ?_⟩
  · simp [results, Try.f25, go_sem, hc5, hc6]
  · exact ((HB2.out).setCell (p := ⟨w.heap.size + 1 + 1, 0, none⟩) (by show w.heap.size ≤ w.heap.size + 1 + 1; omega) _).setCell (p := ⟨w.heap.size + 1 + 1 + 1, 0, none⟩) (by show w.heap.size ≤ w.heap.size + 1 + 1 + 1; omega) _
def impl_DiskRead.f (l0_0 : List ByteArray) (l0_1 : List S95) (a0_2 : Bool) (l0_3 : List Int) (a1 : Int) : Option (ByteArray × Int) :=
  if diskB l0_0 l0_1 a0_2 l0_3 = true then (if 0 ≤ a1 ∧ a1 < (l0_0.length : Int) then some (readV l0_0 l0_1 a1, 0) else some (⟨#[]⟩, 4)) else some (⟨#[]⟩, 1)
theorem impl_DiskRead.calls (A0_0 : Option Addr) (c0_0 : Nat) (l0_0 : List ByteArray) (A0_1 : Option Addr) (c0_1 : Nat) (l0_1 : List (S95)) (a0_2 : Bool) (A0_3 : Option Addr) (c0_3 : Nat) (l0_3 : List Int) (a1 : Int) (r1 : ByteArray) (r2 : Int) (w : World) (hr0_0 : Kd.C Kd.string w A0_0 l0_0.length l0_0) (hc0_0 : l0_0.length ≤ c0_0) (hr0_1 : Kd.C k95 w A0_1 l0_1.length l0_1) (hc0_1 : l0_1.length ≤ c0_1) (hr0_3 : Kd.C (Kd.int .i64) w A0_3 l0_3.length l0_3) (hc0_3 : l0_3.length ≤ c0_3) (h : impl_DiskRead.f l0_0 l0_1 a0_2 l0_3 a1 = some (r1, r2)) :
    Calls Try.prog 25 #[.agg #[.slice A0_0 l0_0.length c0_0, .slice A0_1 l0_1.length c0_1, .bool a0_2, .slice A0_3 l0_3.length c0_3], .int .i64 a1] w fun e w' => e = .returned (.tuple #[.string r1, .int .i64 r2]) ∧ Below w.heap.size w w' := by
  unfold impl_DiskRead.f at h
  cases hd : diskB l0_0 l0_1 a0_2 l0_3 with
  | false =>
    rw [hd, if_neg (by simp)] at h
    cases h
    exact diskRead_bad1 _ _ _ _ _ _ _ _ _ _ _ _ hr0_0 hc0_0 hr0_1 hc0_1 hr0_3 hc0_3 (congrArg some hd)
  | true =>
    rw [hd, if_pos rfl] at h
    by_cases ha : 0 ≤ a1 ∧ a1 < (l0_0.length : Int)
    · rw [if_pos ha] at h
      cases h
      exact diskRead_good _ _ _ _ _ _ _ _ _ _ _ _ hr0_0 hc0_0 hr0_1 hc0_1 hr0_3 hc0_3 (congrArg some hd) ha (by have := (diskB_len hd); omega)
    · rw [if_neg ha] at h
      cases h
      exact diskRead_bad4 _ _ _ _ _ _ _ _ _ _ _ _ hr0_0 hc0_0 hr0_1 hc0_1 hr0_3 hc0_3 (congrArg some hd) ha
end Go.Proofs.Ytcpcifgpcemaeaa.X
