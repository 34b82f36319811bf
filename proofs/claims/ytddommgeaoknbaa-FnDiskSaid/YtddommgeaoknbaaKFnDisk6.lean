import Derived.Test.YtddommgeaoknbaaKFnDisk3
import Derived.Test.YtddommgeaoknbaaKFnDisk4
import Derived.Test.YtddommgeaoknbaaKFnDisk5
import Derived.RangeFuncNested
import Derived.RangeFuncBound
import Derived.RangeFuncCalls
import Derived.RangeFuncLeaves
import Derived.Shelf.Abstract
import Derived.Shelf.RegionOpen
import Derived.WalkKit
import Derived.OwnWalkIn
import Derived.TacticsInMore
import Derived.LoopNIn
import Derived.LoopIn
import Derived.LoopTactic
import Derived.WalkSpells
namespace Go.Proofs.Ytddommgeaoknbaa.X
open Go.RowKit Go.Proofs.YtddommgeaoknbaaW.PrintWords Go.Proofs.YtddommgeaoknbaaW.PrintLast Go.Proofs.YtddommgeaoknbaaW.PrintMore
attribute [local go_sem] xbin_geq xbin_leq xbin_gtr max2_int min2_int max_two min_two max_three min_three max_four min_four
set_option linter.unusedVariables false
set_option linter.unusedSimpArgs false
open Go.Shelf
attribute [local go_sem] Oper.semAt_some
def readV (s : List ByteArray) (c : List S54) (at_ : Int) : ByteArray := match c.reverse.find? (fun p => decide (p.f0 = at_)) with
  | some p => p.f1
  | none => rdOf ByteArray.empty s at_
theorem back_snd (zs : List S54) (k : Nat) (hk : k ≤ zs.length) : (backTo zs k).map (·.2) = zs.reverse.take k := by
  apply List.ext_getElem
  · simp [backTo, hk]
  · intro i h1 h2
    simp only [backTo, List.map_map, List.getElem_map, List.getElem_range, Function.comp, backAt, rd_T54, Int.toNat_natCast, List.getElem_take, List.getElem_reverse]
    simp [backTo] at h1
    rw [List.getD_eq_getElem?_getD, List.getElem?_eq_getElem (by omega)]
    rfl
theorem readV_miss {s : List ByteArray} {c : List S54} {at_ : Int} (h : ∀ p ∈ backTo c c.length, p.2.f0 ≠ at_) : readV s c at_ = rdOf ByteArray.empty s at_ := by
  have e := back_snd c c.length (Nat.le_refl _)
  rw [← List.length_reverse, List.take_length, List.length_reverse] at e
  unfold readV
  rw [List.find?_eq_none.2 (fun x hx => by
    rw [← e] at hx
    obtain ⟨p, hp, rfl⟩ := List.mem_map.1 hx
    simpa using h p hp)]
theorem readV_hit {s : List ByteArray} {c : List S54} {at_ : Int} {k : Nat} (hk : k ≤ c.length) {ini : List (Nat × S54)} {last : Nat × S54} (e : backTo c k = ini ++ [last]) (hi : ∀ p ∈ ini, p.2.f0 ≠ at_) (hl : last.2.f0 = at_) : readV s c at_ = last.2.f1 := by
  have e1 := back_snd c k hk
  rw [e] at e1
  have e2 : c.reverse = (ini.map (·.2) ++ [last.2]) ++ c.reverse.drop k := by
    have e3 := List.take_append_drop k c.reverse
    rw [← e1, List.map_append] at e3
    exact e3.symm
  unfold readV
  rw [e2, List.find?_append, List.find?_append, List.find?_eq_none.2 (fun x hx => by obtain ⟨p, hp, rfl⟩ := List.mem_map.1 hx; simpa using hi p hp)]
  simp [hl]
set_option maxRecDepth 100000 in
set_option maxHeartbeats 8000000 in
theorem diskRead_good (A0 : Option Addr) (c0 : Nat) (s : List ByteArray) (A1 : Option Addr) (c1 : Nat) (c : List S54) (a : Bool) (A3 : Option Addr) (c3 : Nat) (q : List Int) (at_ : Int) (w : World) (hr0 : Kd.C Kd.string w A0 s.length s) (hc0 : s.length ≤ c0) (hr1 : Kd.C k54 w A1 c.length c) (hc1 : c.length ≤ c1) (hr3 : Kd.C (Kd.int .i64) w A3 q.length q) (hc3 : q.length ≤ c3) (hok : impl_DiskOK.f s c a q = some true) (hat : 0 ≤ at_ ∧ at_ < (s.length : Int)) (hcl : c.length ≤ 1000000) :
    Calls Try.prog 8 #[.agg #[.slice A0 s.length c0, .slice A1 c.length c1, .bool a, .slice A3 q.length c3], .int .i64 at_] w fun e w' => e = .returned (.tuple #[.string (readV s c at_), .int .i64 0]) ∧ Below w.heap.size w w' := by
  have hu := Try.underlying27
  have hu2 := Try.underlying54
  have HR0 := Aside0.mk hr0
  have HR1 := Aside0.mk hr1
  have HR3 := Aside0.mk hr3
  have HOK := Aside0.mk hok
  have HAT := Aside0.mk hat
  clear hr0 hr1 hr3 hok hat
  refine (callsIn_wide (n := 5)).1 ?_
  refine callsIn_of_wp_marks Try.func8 rfl trivial ?_ rfl
  simp only [Try.ntmps8, List.size_toArray, List.length_cons, List.length_nil, Nat.reduceAdd, Nat.reduceSub, Array.replicate_succ, Array.replicate_zero, List.push_toArray, List.append_toArray, List.nil_append, List.cons_append]
  gi_wp2
  have kD := blk_alloc (blk_alloc (blk_alloc (blk_new w (.cells #[.slice A0 s.length c0, .slice A1 c.length c1, .bool a, .slice A3 q.length c3] 27 (0, 0))) (.cells #[.int .i64 at_] 3 (0, 0))) (.cells #[.string ⟨#[]⟩] 9 (0, 0))) (.cells #[.int .i64 0] 3 (0, 0))
  have kA := blk_alloc (blk_alloc (blk_new (w.alloc (.cells #[.slice A0 s.length c0, .slice A1 c.length c1, .bool a, .slice A3 q.length c3] 27 (0, 0))) (.cells #[.int .i64 at_] 3 (0, 0))) (.cells #[.string ⟨#[]⟩] 9 (0, 0))) (.cells #[.int .i64 0] 3 (0, 0))
  have kS := blk_alloc (blk_new ((w.alloc (.cells #[.slice A0 s.length c0, .slice A1 c.length c1, .bool a, .slice A3 q.length c3] 27 (0, 0))).alloc (.cells #[.int .i64 at_] 3 (0, 0))) (.cells #[.string ⟨#[]⟩] 9 (0, 0))) (.cells #[.int .i64 0] 3 (0, 0))
  have kC := blk_new (((w.alloc (.cells #[.slice A0 s.length c0, .slice A1 c.length c1, .bool a, .slice A3 q.length c3] 27 (0, 0))).alloc (.cells #[.int .i64 at_] 3 (0, 0))).alloc (.cells #[.string ⟨#[]⟩] 9 (0, 0))) (.cells #[.int .i64 0] 3 (0, 0))
  have hB4 : Below w.heap.size w ((((w.alloc (.cells #[.slice A0 s.length c0, .slice A1 c.length c1, .bool a, .slice A3 q.length c3] 27 (0, 0))).alloc (.cells #[.int .i64 at_] 3 (0, 0))).alloc (.cells #[.string ⟨#[]⟩] 9 (0, 0))).alloc (.cells #[.int .i64 0] 3 (0, 0))) := below_alloc (below_alloc (below_alloc (below_alloc (Below.refl _ w) _) _) _) _
  have hz4 : ((((w.alloc (.cells #[.slice A0 s.length c0, .slice A1 c.length c1, .bool a, .slice A3 q.length c3] 27 (0, 0))).alloc (.cells #[.int .i64 at_] 3 (0, 0))).alloc (.cells #[.string ⟨#[]⟩] 9 (0, 0))).alloc (.cells #[.int .i64 0] 3 (0, 0))).heap.size = w.heap.size + 4 := by simp only [World.size_alloc]
  simp only [World.size_alloc] at kA kS kC
  obtain ⟨W4, hW4⟩ : ∃ W4, W4 = ((((w.alloc (.cells #[.slice A0 s.length c0, .slice A1 c.length c1, .bool a, .slice A3 q.length c3] 27 (0, 0))).alloc (.cells #[.int .i64 at_] 3 (0, 0))).alloc (.cells #[.string ⟨#[]⟩] 9 (0, 0))).alloc (.cells #[.int .i64 0] 3 (0, 0))) := ⟨_, rfl⟩
  rw [← hW4] at kD kA kS kC hB4 hz4 ⊢
  clear hW4
  refine ⟨trivial, ?_⟩
  refine CallsIn.mono (callsIn_wide.2 (impl_DiskOK.calls (hr0_0 := Kd.C_below HR0.out hB4) (hc0_0 := hc0) (hr0_1 := Kd.C_below HR1.out hB4) (hc0_1 := hc1) (hr0_3 := Kd.C_below HR3.out hB4) (hc0_3 := hc3) (h := HOK.out))) ?_
  rintro e w1 ⟨rfl, hb1⟩
  have HB1 := Aside0.mk (below_step hB4 hb1)
  have hz1 := hb1.size
  replace kD := blk_below kD hb1
  replace kA := blk_below kA hb1
  replace kS := blk_below kS hb1
  replace kC := blk_below kC hb1
  clear hb1 hB4
  have d0 := blk_cell kD 0
  have d1 := blk_cell kD 1
  have a0 := blk_cell kA 0
  simp only [List.getElem?_toArray, List.getElem?_cons_zero, List.getElem?_cons_succ] at d0 d1 a0
  have wi : IntKind.i64.wrap ((s.length : Int) - 1) = (s.length : Int) - 1 := by have := HAT.out; have := HR0.out.2.1; rw [IntKind.wrap_i64]; omega
  gi_wp2
  refine ⟨trivial, ?_⟩
  refine CallsIn.mono (callsIn_wide.2 (impl_within.calls at_ 0 ((s.length : Int) - 1) true w1 (by rw [within_is]; exact congrArg some (decide_eq_true (by have := HAT.out; omega))))) ?_
  rintro e w2 ⟨rfl, hd2⟩
  have hb2 : Below w1.heap.size w1 w2 := by first | exact hd2 | exact hd2.below
  have HB2 := Aside0.mk (below_step HB1.out hb2)
  have hz2 := hb2.size
  replace kD := blk_below kD hb2
  replace kA := blk_below kA hb2
  replace kS := blk_below kS hb2
  replace kC := blk_below kC hb2
  clear hb2 hd2 d0 d1 a0
  have d0 := blk_cell kD 0
  have d1 := blk_cell kD 1
  have a0 := blk_cell kA 0
  simp only [List.getElem?_toArray, List.getElem?_cons_zero, List.getElem?_cons_succ] at d0 d1 a0
  gi_wp2
  refine ⟨trivial, ?_⟩
  refine CallsIn.mono (backward_in Fence.wide 4 trivial rfl A1 c.length c1 w2) ?_
  rintro e w3 ⟨rfl, rfl⟩
  clear d0 d1 a0
  gi_wp2
  obtain ⟨W3, hW3⟩ : ∃ W3, W3 = w2.alloc (.cells #[.slice A1 c.length c1] 24 (0, 0)) := ⟨_, rfl⟩
  have hb3 : Below w2.heap.size w2 W3 := by rw [hW3]; exact below_alloc (Below.refl _ w2) _
  have bN : Boxed W3 w2.heap.size 24 (.slice A1 c.length c1) := by rw [hW3]; exact Boxed.new w2 _ _
  have hs3 : W3.heap.size = w2.heap.size + 1 := by rw [hW3]; simp
  rw [← hW3]
  clear hW3
  replace kD := blk_below kD hb3
  replace kA := blk_below kA hb3
  replace kS := blk_below kS hb3
  replace kC := blk_below kC hb3
  have HB3 := Aside0.mk (below_step HB2.out hb3)
  clear hb3
  refine wpIn_rangeFunc_ownH rfl (by omega) (gf := 46) (lb := #[.pointer (some ⟨w2.heap.size, 0, none⟩)]) rfl trivial (enters_of Try.func46 (by kernel_rfl) rfl)
    (back_stops Fence.wide 4 trivial rfl (by omega) w2.heap.size W3 A1 c1 c hcl (by omega) bN.cell (Kd.C_below HR1.out HB3.out)) belowK_t (belowK_b (Nat.le_refl _)) (Below.refl _ _) (fun _ => rfl)
    (fun (pre : List (Nat × S54)) W => (∀ p ∈ pre, p.2.f0 ≠ at_) ∧ Below W3.heap.size W3 W)
    (fun cd (pre : List (Nat × S54)) W => (cd = .ret ∧ ∃ ini last, pre = ini ++ [last] ∧ (∀ p ∈ ini, p.2.f0 ≠ at_) ∧ last.2.f0 = at_ ∧ W.cell? ⟨w.heap.size + 1 + 1, 0, none⟩ = some (.string last.2.f1) ∧ W.cell? ⟨w.heap.size + 1 + 1 + 1, 0, none⟩ = some (.int .i64 0)) ∧ Below w.heap.size w W)
    (OwnFrom.and (ownFrom_pure _ _) (ownFrom_below (Nat.le_refl _) (Nat.le_refl _)))
    (fun cd => OwnFrom.and (Own.from (fun s A B row hs hg hr => by obtain ⟨hc, ini, last, e1, e2, e3, e4, e5⟩ := hs; exact ⟨hc, ini, last, e1, e2, e3, cell_kept e4 hg hr, cell_kept e5 hg hr⟩) _) (ownFrom_below (Nat.le_refl _) (by omega)))
    ⟨by simp, Below.refl _ _⟩
    (fun (x : Nat × S54) a' W => ∃ Bx, W3.heap.size ≤ Bx ∧ W.heap[Bx]? = some (.cells #[.int .i64 x.2.f0, .string x.2.f1] 54 (0, 0)) ∧ a' = {
          tmps := #[.agg #[.slice A0 s.length c0, .slice A1 c.length c1, .bool a, .slice A3 q.length c3],
          .int .i64 at_, .pointer (some ⟨w.heap.size, 0, none⟩), .pointer (some ⟨w.heap.size + 1, 0, none⟩), .pointer (some ⟨w.heap.size + 1 + 1, 0, none⟩),
          .pointer (some ⟨w.heap.size + 1 + 1 + 1, 0, none⟩), undef, .pointer (some ⟨Bx, 0, none⟩), .bool false, .agg #[.slice A0 s.length c0, .slice A1 c.length c1, .bool a, .slice A3 q.length c3],
          .bool true, .bool false, .bool false, .int .i64 at_, .pointer (some ⟨w.heap.size, 0, none⟩), .slice A0 s.length c0, .int .i64 s.length, .int .i64 (s.length - 1), .bool true, .bool false,
          .pointer (some ⟨w.heap.size, 1, none⟩), .slice A1 c.length c1, .func (.func 46) #[] #[.pointer (some ⟨w2.heap.size, 0, none⟩)], .int .i64 (x.1 : Int), .agg #[.int .i64 x.2.f0, .string x.2.f1], undef,
          undef, undef, undef, undef, undef, undef, undef, undef, undef, undef], defers := [] })
    (fun x a' _ X Y row hs hg hr => by obtain ⟨Bx, h1, h2, h3⟩ := hs; exact ⟨Bx, h1, (hg.block Bx (Array.getElem?_eq_some_iff.1 h2).1 (fun e => by obtain ⟨_, o, ho, hc⟩ := hr Bx e.symm; rw [h2] at ho; cases ho; cases hc)).trans h2, h3⟩)
    ?assign ?body ?done ?stop
  case assign =>
    rintro l pre x W K ⟨hp, hB⟩ hK
    gi_wp2
    exact hK _ _ ((KeepsOthers.alloc _ _).from _) ((Below.refl _ W).alloc hB.size _) ⟨hp, hB.alloc hB.size _⟩ ⟨W.heap.size, hB.size, blk_new W _, rfl⟩
  case body =>
    rintro l pre x a' W hl - ⟨hp, hB⟩ ⟨Bx, hBx, kX, rfl⟩ hlt
    have kD1 := blk_below kD hB
    have kA1 := blk_below kA hB
    have kS1 : Boxed W (w.heap.size + 1 + 1) 9 (.string ⟨#[]⟩) := blk_below kS hB
    have kC1 : Boxed W (w.heap.size + 1 + 1 + 1) 3 (.int .i64 0) := blk_below kC hB
    have x0 := blk_cell kX 0
    have x1 := blk_cell kX 1
    have a0 := blk_cell kA1 0
    simp only [List.getElem?_toArray, List.getElem?_cons_zero, List.getElem?_cons_succ] at x0 x1 a0
    have fS := Boxed.frozen kS1
    have fC := Boxed.frozen kC1
    have sc := Boxed.cell kS1
    have cc := Boxed.cell kC1
    by_cases hx : x.2.f0 = at_
    · have cq : decide (x.2.f0 = at_) = true := decide_eq_true hx
      gi_wp2
      refine ⟨((KeepsOthers.setCell _ _ _).from _).trans ((KeepsOthers.setCell _ _ _).from _), ⟨rfl, pre, x, rfl, hp, hx, ((Boxed.set _ kS1).other (by omega) _).cell, ((Boxed.other kC1 (by omega) _).set _).cell⟩, ?_⟩
      exact ((below_step HB3.out hB).setCell (p := ⟨w.heap.size + 1 + 1, 0, none⟩) (by show w.heap.size ≤ w.heap.size + 1 + 1; omega) _).setCell (p := ⟨w.heap.size + 1 + 1 + 1, 0, none⟩) (by show w.heap.size ≤ w.heap.size + 1 + 1 + 1; omega) _
    · have cq : decide (x.2.f0 = at_) = false := decide_eq_false hx
      gi_wp2
      exact ⟨KeepsFrom.refl _ _, Below.refl _ _, fun p hp' => (List.mem_append.1 hp').elim (hp p) (fun e => by simp at e; subst e; exact hx), hB⟩
  case done =>
    rintro D ys W hD rfl ⟨hp, hB⟩ hK
    have kD1 := blk_below kD hB
    have kA1 := blk_below kA hB
    have kS1 : Boxed W (w.heap.size + 1 + 1) 9 (.string ⟨#[]⟩) := blk_below kS hB
    have kC1 : Boxed W (w.heap.size + 1 + 1 + 1) 3 (.int .i64 0) := blk_below kC hB
    have d0 := blk_cell kD1 0
    have a0 := blk_cell kA1 0
    simp only [List.getElem?_toArray, List.getElem?_cons_zero, List.getElem?_cons_succ] at d0 a0
    have fS := Boxed.frozen kS1
    have fC := Boxed.frozen kC1
    have sc := Boxed.cell kS1
    have cc := Boxed.cell kC1
    obtain ⟨ad, e, hx0⟩ := Kd.at_string (Kd.C_below HR0.out (below_step HB3.out hB)) at_ HAT.out.1 HAT.out.2
    cases e
    have p1 : (0 ≤ at_) = True := eq_true HAT.out.1
    have q1 : (at_ < (s.length : Int)) = True := eq_true HAT.out.2
    have hrv := readV_miss (s := s) hp
    generalize rdOf ByteArray.empty s at_ = d at hx0 hrv
    have HRV := Aside0.mk hrv
    clear hrv
    gi_wp2
    have hK' := (KeepsOthers.setCell _ ⟨w.heap.size + 1 + 1 + 1, 0, none⟩ (.int .i64 0)).same D _ ((KeepsOthers.setCell W ⟨w.heap.size + 1 + 1, 0, none⟩ (.string d)).same D _ hK rfl) rfl
    refine ⟨by simp, .inl ⟨_, _, rfl, run_takeDeferred hK', ?_⟩⟩
    have hc5 := cell_kept (Boxed.other (B' := w.heap.size + 1 + 1 + 1) (Boxed.set (.string d) kS1) (by omega) (.int .i64 0)).cell (grownBy_putObj' _ D (.deferred none)) (fun r e => by cases e; exact ⟨_, hK', rfl⟩)
    have hc6 := cell_kept (Boxed.set (.int .i64 0) (Boxed.other (B' := w.heap.size + 1 + 1) kC1 (by omega) (.string d))).cell (grownBy_putObj' _ D (.deferred none)) (fun r e => by cases e; exact ⟨_, hK', rfl⟩)
    refine ⟨.tuple #[.string d, .int .i64 0], ?_, by rw [HRV.out], ?_⟩
    · simp [results, Try.f8, go_sem, hc5, hc6]
    · exact (((below_step HB3.out hB).setCell (p := ⟨w.heap.size + 1 + 1, 0, none⟩) (by show w.heap.size ≤ w.heap.size + 1 + 1; omega) _).setCell (p := ⟨w.heap.size + 1 + 1 + 1, 0, none⟩) (by show w.heap.size ≤ w.heap.size + 1 + 1 + 1; omega) _).trans (belowK_b (w := w) (Nat.le_refl _) _ D _ _ (by omega) hK' rfl rfl)
  case stop =>
    rintro D cd pre W hD ⟨k, hk, rfl⟩ ⟨⟨rfl, ini, last, e1, e2, e3, hS, hC⟩, hB⟩ hK
    gi_wp2
    refine ⟨by simp, .inl ⟨_, _, rfl, run_takeDeferred hK, ?_⟩⟩
    have hc5 := cell_kept hS (grownBy_putObj' _ D (.deferred none)) (fun r e => by cases e; exact ⟨_, hK, rfl⟩)
    have hc6 := cell_kept hC (grownBy_putObj' _ D (.deferred none)) (fun r e => by cases e; exact ⟨_, hK, rfl⟩)
    refine ⟨.tuple #[.string last.2.f1, .int .i64 0], ?_, by rw [readV_hit hk e1 e2 e3], hB.trans (belowK_b (w := w) (Nat.le_refl _) W D _ _ (by omega) hK rfl rfl)⟩
    simp [results, Try.f8, go_sem, hc5, hc6]
set_option maxRecDepth 100000 in
set_option maxHeartbeats 8000000 in
theorem diskRead_bad1 (A0 : Option Addr) (c0 : Nat) (s : List ByteArray) (A1 : Option Addr) (c1 : Nat) (c : List S54) (a : Bool) (A3 : Option Addr) (c3 : Nat) (q : List Int) (at_ : Int) (w : World) (hr0 : Kd.C Kd.string w A0 s.length s) (hc0 : s.length ≤ c0) (hr1 : Kd.C k54 w A1 c.length c) (hc1 : c.length ≤ c1) (hr3 : Kd.C (Kd.int .i64) w A3 q.length q) (hc3 : q.length ≤ c3) (hok : impl_DiskOK.f s c a q = some false) :
    Calls Try.prog 8 #[.agg #[.slice A0 s.length c0, .slice A1 c.length c1, .bool a, .slice A3 q.length c3], .int .i64 at_] w fun e w' => e = .returned (.tuple #[.string ⟨#[]⟩, .int .i64 1]) ∧ Below w.heap.size w w' := by
  have hu := Try.underlying27
  have hu2 := Try.underlying54
  have HR0 := Aside0.mk hr0
  have HR1 := Aside0.mk hr1
  have HR3 := Aside0.mk hr3
  have HOK := Aside0.mk hok
  clear hr0 hr1 hr3 hok
  refine (callsIn_wide (n := 5)).1 ?_
  refine callsIn_of_wp Try.func8 rfl trivial ?_ rfl
  simp only [Try.ntmps8, List.size_toArray, List.length_cons, List.length_nil, Nat.reduceAdd, Nat.reduceSub, Array.replicate_succ, Array.replicate_zero, List.push_toArray, List.append_toArray, List.nil_append, List.cons_append]
  gi_wp2
  have kD := blk_alloc (blk_alloc (blk_alloc (blk_new w (.cells #[.slice A0 s.length c0, .slice A1 c.length c1, .bool a, .slice A3 q.length c3] 27 (0, 0))) (.cells #[.int .i64 at_] 3 (0, 0))) (.cells #[.string ⟨#[]⟩] 9 (0, 0))) (.cells #[.int .i64 0] 3 (0, 0))
  have kA := blk_alloc (blk_alloc (blk_new (w.alloc (.cells #[.slice A0 s.length c0, .slice A1 c.length c1, .bool a, .slice A3 q.length c3] 27 (0, 0))) (.cells #[.int .i64 at_] 3 (0, 0))) (.cells #[.string ⟨#[]⟩] 9 (0, 0))) (.cells #[.int .i64 0] 3 (0, 0))
  have kS := blk_alloc (blk_new ((w.alloc (.cells #[.slice A0 s.length c0, .slice A1 c.length c1, .bool a, .slice A3 q.length c3] 27 (0, 0))).alloc (.cells #[.int .i64 at_] 3 (0, 0))) (.cells #[.string ⟨#[]⟩] 9 (0, 0))) (.cells #[.int .i64 0] 3 (0, 0))
  have kC := blk_new (((w.alloc (.cells #[.slice A0 s.length c0, .slice A1 c.length c1, .bool a, .slice A3 q.length c3] 27 (0, 0))).alloc (.cells #[.int .i64 at_] 3 (0, 0))).alloc (.cells #[.string ⟨#[]⟩] 9 (0, 0))) (.cells #[.int .i64 0] 3 (0, 0))
  have hB4 : Below w.heap.size w ((((w.alloc (.cells #[.slice A0 s.length c0, .slice A1 c.length c1, .bool a, .slice A3 q.length c3] 27 (0, 0))).alloc (.cells #[.int .i64 at_] 3 (0, 0))).alloc (.cells #[.string ⟨#[]⟩] 9 (0, 0))).alloc (.cells #[.int .i64 0] 3 (0, 0))) := below_alloc (below_alloc (below_alloc (below_alloc (Below.refl _ w) _) _) _) _
  have hz4 : ((((w.alloc (.cells #[.slice A0 s.length c0, .slice A1 c.length c1, .bool a, .slice A3 q.length c3] 27 (0, 0))).alloc (.cells #[.int .i64 at_] 3 (0, 0))).alloc (.cells #[.string ⟨#[]⟩] 9 (0, 0))).alloc (.cells #[.int .i64 0] 3 (0, 0))).heap.size = w.heap.size + 4 := by simp only [World.size_alloc]
  simp only [World.size_alloc] at kA kS kC
  obtain ⟨W4, hW4⟩ : ∃ W4, W4 = ((((w.alloc (.cells #[.slice A0 s.length c0, .slice A1 c.length c1, .bool a, .slice A3 q.length c3] 27 (0, 0))).alloc (.cells #[.int .i64 at_] 3 (0, 0))).alloc (.cells #[.string ⟨#[]⟩] 9 (0, 0))).alloc (.cells #[.int .i64 0] 3 (0, 0))) := ⟨_, rfl⟩
  rw [← hW4] at kD kA kS kC hB4 hz4 ⊢
  clear hW4
  refine ⟨trivial, ?_⟩
  refine CallsIn.mono (callsIn_wide.2 (impl_DiskOK.calls (hr0_0 := Kd.C_below HR0.out hB4) (hc0_0 := hc0) (hr0_1 := Kd.C_below HR1.out hB4) (hc0_1 := hc1) (hr0_3 := Kd.C_below HR3.out hB4) (hc0_3 := hc3) (h := HOK.out))) ?_
  rintro e w1 ⟨rfl, hb1⟩
  have HB1 := Aside0.mk (below_step hB4 hb1)
  have hz1 := hb1.size
  replace kD := blk_below kD hb1
  replace kA := blk_below kA hb1
  replace kS := blk_below kS hb1
  replace kC := blk_below kC hb1
  clear hb1 hB4
  have d0 := blk_cell kD 0
  have d1 := blk_cell kD 1
  have a0 := blk_cell kA 0
  simp only [List.getElem?_toArray, List.getElem?_cons_zero, List.getElem?_cons_succ] at d0 d1 a0
  have fS := blk_frozen kS 0
  have fC := blk_frozen kC 0
  have sc := blk_cell kS 0
  have cc := blk_cell kC 0
  simp only [List.getElem?_toArray, List.getElem?_cons_zero, List.getElem?_cons_succ] at sc cc
  have kS1 : Boxed w1 (w.heap.size + 1 + 1) 9 (.string ⟨#[]⟩) := kS
  have kC1 : Boxed w1 (w.heap.size + 1 + 1 + 1) 3 (.int .i64 0) := kC
  gi_wp2
  have hc5 := (Boxed.other (B' := w.heap.size + 1 + 1 + 1) (Boxed.set (.string ⟨#[]⟩) kS1) (by omega) (.int .i64 1)).cell
  have hc6 := (Boxed.set (.int .i64 1) (Boxed.other (B' := w.heap.size + 1 + 1) kC1 (by omega) (.string ⟨#[]⟩))).cell
  try simp only [Exit.inBlock, Exit.then]
  refine bodyPost_ret (v := .tuple #[.string ⟨#[]⟩, .int .i64 1]) ?_ rfl ⟨rfl, ?_⟩
  · simp [results, Try.f8, go_sem, hc5, hc6]
  · exact ((HB1.out).setCell (p := ⟨w.heap.size + 1 + 1, 0, none⟩) (by show w.heap.size ≤ w.heap.size + 1 + 1; omega) _).setCell (p := ⟨w.heap.size + 1 + 1 + 1, 0, none⟩) (by show w.heap.size ≤ w.heap.size + 1 + 1 + 1; omega) _
set_option maxRecDepth 100000 in
set_option maxHeartbeats 8000000 in
theorem diskRead_bad4 (A0 : Option Addr) (c0 : Nat) (s : List ByteArray) (A1 : Option Addr) (c1 : Nat) (c : List S54) (a : Bool) (A3 : Option Addr) (c3 : Nat) (q : List Int) (at_ : Int) (w : World) (hr0 : Kd.C Kd.string w A0 s.length s) (hc0 : s.length ≤ c0) (hr1 : Kd.C k54 w A1 c.length c) (hc1 : c.length ≤ c1) (hr3 : Kd.C (Kd.int .i64) w A3 q.length q) (hc3 : q.length ≤ c3) (hok : impl_DiskOK.f s c a q = some true) (hat : ¬ (0 ≤ at_ ∧ at_ < (s.length : Int))) :
    Calls Try.prog 8 #[.agg #[.slice A0 s.length c0, .slice A1 c.length c1, .bool a, .slice A3 q.length c3], .int .i64 at_] w fun e w' => e = .returned (.tuple #[.string ⟨#[]⟩, .int .i64 4]) ∧ Below w.heap.size w w' := by
  have hu := Try.underlying27
  have hu2 := Try.underlying54
  have HR0 := Aside0.mk hr0
  have HR1 := Aside0.mk hr1
  have HR3 := Aside0.mk hr3
  have HOK := Aside0.mk hok
  have HAT := Aside0.mk hat
  clear hr0 hr1 hr3 hok hat
  refine (callsIn_wide (n := 5)).1 ?_
  refine callsIn_of_wp Try.func8 rfl trivial ?_ rfl
  simp only [Try.ntmps8, List.size_toArray, List.length_cons, List.length_nil, Nat.reduceAdd, Nat.reduceSub, Array.replicate_succ, Array.replicate_zero, List.push_toArray, List.append_toArray, List.nil_append, List.cons_append]
  gi_wp2
  have kD := blk_alloc (blk_alloc (blk_alloc (blk_new w (.cells #[.slice A0 s.length c0, .slice A1 c.length c1, .bool a, .slice A3 q.length c3] 27 (0, 0))) (.cells #[.int .i64 at_] 3 (0, 0))) (.cells #[.string ⟨#[]⟩] 9 (0, 0))) (.cells #[.int .i64 0] 3 (0, 0))
  have kA := blk_alloc (blk_alloc (blk_new (w.alloc (.cells #[.slice A0 s.length c0, .slice A1 c.length c1, .bool a, .slice A3 q.length c3] 27 (0, 0))) (.cells #[.int .i64 at_] 3 (0, 0))) (.cells #[.string ⟨#[]⟩] 9 (0, 0))) (.cells #[.int .i64 0] 3 (0, 0))
  have kS := blk_alloc (blk_new ((w.alloc (.cells #[.slice A0 s.length c0, .slice A1 c.length c1, .bool a, .slice A3 q.length c3] 27 (0, 0))).alloc (.cells #[.int .i64 at_] 3 (0, 0))) (.cells #[.string ⟨#[]⟩] 9 (0, 0))) (.cells #[.int .i64 0] 3 (0, 0))
  have kC := blk_new (((w.alloc (.cells #[.slice A0 s.length c0, .slice A1 c.length c1, .bool a, .slice A3 q.length c3] 27 (0, 0))).alloc (.cells #[.int .i64 at_] 3 (0, 0))).alloc (.cells #[.string ⟨#[]⟩] 9 (0, 0))) (.cells #[.int .i64 0] 3 (0, 0))
  have hB4 : Below w.heap.size w ((((w.alloc (.cells #[.slice A0 s.length c0, .slice A1 c.length c1, .bool a, .slice A3 q.length c3] 27 (0, 0))).alloc (.cells #[.int .i64 at_] 3 (0, 0))).alloc (.cells #[.string ⟨#[]⟩] 9 (0, 0))).alloc (.cells #[.int .i64 0] 3 (0, 0))) := below_alloc (below_alloc (below_alloc (below_alloc (Below.refl _ w) _) _) _) _
  have hz4 : ((((w.alloc (.cells #[.slice A0 s.length c0, .slice A1 c.length c1, .bool a, .slice A3 q.length c3] 27 (0, 0))).alloc (.cells #[.int .i64 at_] 3 (0, 0))).alloc (.cells #[.string ⟨#[]⟩] 9 (0, 0))).alloc (.cells #[.int .i64 0] 3 (0, 0))).heap.size = w.heap.size + 4 := by simp only [World.size_alloc]
  simp only [World.size_alloc] at kA kS kC
  obtain ⟨W4, hW4⟩ : ∃ W4, W4 = ((((w.alloc (.cells #[.slice A0 s.length c0, .slice A1 c.length c1, .bool a, .slice A3 q.length c3] 27 (0, 0))).alloc (.cells #[.int .i64 at_] 3 (0, 0))).alloc (.cells #[.string ⟨#[]⟩] 9 (0, 0))).alloc (.cells #[.int .i64 0] 3 (0, 0))) := ⟨_, rfl⟩
  rw [← hW4] at kD kA kS kC hB4 hz4 ⊢
  clear hW4
  refine ⟨trivial, ?_⟩
  refine CallsIn.mono (callsIn_wide.2 (impl_DiskOK.calls (hr0_0 := Kd.C_below HR0.out hB4) (hc0_0 := hc0) (hr0_1 := Kd.C_below HR1.out hB4) (hc0_1 := hc1) (hr0_3 := Kd.C_below HR3.out hB4) (hc0_3 := hc3) (h := HOK.out))) ?_
  rintro e w1 ⟨rfl, hb1⟩
  have HB1 := Aside0.mk (below_step hB4 hb1)
  have hz1 := hb1.size
  replace kD := blk_below kD hb1
  replace kA := blk_below kA hb1
  replace kS := blk_below kS hb1
  replace kC := blk_below kC hb1
  clear hb1 hB4
  have d0 := blk_cell kD 0
  have d1 := blk_cell kD 1
  have a0 := blk_cell kA 0
  simp only [List.getElem?_toArray, List.getElem?_cons_zero, List.getElem?_cons_succ] at d0 d1 a0
  have wi : IntKind.i64.wrap ((s.length : Int) - 1) = (s.length : Int) - 1 := by have := HR0.out.2.1; rw [IntKind.wrap_i64]; omega
  gi_wp2
  refine ⟨trivial, ?_⟩
  refine CallsIn.mono (callsIn_wide.2 (impl_within.calls at_ 0 ((s.length : Int) - 1) false w1 (by rw [within_is]; exact congrArg some (decide_eq_false (by have := HAT.out; omega))))) ?_
  rintro e w2 ⟨rfl, hd2⟩
  have hb2 : Below w1.heap.size w1 w2 := by first | exact hd2 | exact hd2.below
  have HB2 := Aside0.mk (below_step HB1.out hb2)
  have hz2 := hb2.size
  replace kD := blk_below kD hb2
  replace kA := blk_below kA hb2
  replace kS := blk_below kS hb2
  replace kC := blk_below kC hb2
  clear hb2 hd2 d0 d1 a0
  have d0 := blk_cell kD 0
  have d1 := blk_cell kD 1
  have a0 := blk_cell kA 0
  simp only [List.getElem?_toArray, List.getElem?_cons_zero, List.getElem?_cons_succ] at d0 d1 a0
  have fS := blk_frozen kS 0
  have fC := blk_frozen kC 0
  have sc := blk_cell kS 0
  have cc := blk_cell kC 0
  simp only [List.getElem?_toArray, List.getElem?_cons_zero, List.getElem?_cons_succ] at sc cc
  have kS1 : Boxed w2 (w.heap.size + 1 + 1) 9 (.string ⟨#[]⟩) := kS
  have kC1 : Boxed w2 (w.heap.size + 1 + 1 + 1) 3 (.int .i64 0) := kC
  gi_wp2
  have hc5 := (Boxed.other (B' := w.heap.size + 1 + 1 + 1) (Boxed.set (.string ⟨#[]⟩) kS1) (by omega) (.int .i64 4)).cell
  have hc6 := (Boxed.set (.int .i64 4) (Boxed.other (B' := w.heap.size + 1 + 1) kC1 (by omega) (.string ⟨#[]⟩))).cell
  try simp only [Exit.inBlock, Exit.then]
  refine bodyPost_ret (v := .tuple #[.string ⟨#[]⟩, .int .i64 4]) ?_ rfl ⟨rfl, ?_⟩
  · simp [results, Try.f8, go_sem, hc5, hc6]
  · exact ((HB2.out).setCell (p := ⟨w.heap.size + 1 + 1, 0, none⟩) (by show w.heap.size ≤ w.heap.size + 1 + 1; omega) _).setCell (p := ⟨w.heap.size + 1 + 1 + 1, 0, none⟩) (by show w.heap.size ≤ w.heap.size + 1 + 1 + 1; omega) _
def impl_DiskRead.f (l0_0 : List ByteArray) (l0_1 : List S54) (a0_2 : Bool) (l0_3 : List Int) (a1 : Int) : Option (ByteArray × Int) :=
  if diskB l0_0 l0_1 a0_2 l0_3 = true then (if 0 ≤ a1 ∧ a1 < (l0_0.length : Int) then some (readV l0_0 l0_1 a1, 0) else some (⟨#[]⟩, 4)) else some (⟨#[]⟩, 1)
theorem impl_DiskRead.calls (A0_0 : Option Addr) (c0_0 : Nat) (l0_0 : List ByteArray) (A0_1 : Option Addr) (c0_1 : Nat) (l0_1 : List (S54)) (a0_2 : Bool) (A0_3 : Option Addr) (c0_3 : Nat) (l0_3 : List Int) (a1 : Int) (r1 : ByteArray) (r2 : Int) (w : World) (hr0_0 : Kd.C Kd.string w A0_0 l0_0.length l0_0) (hc0_0 : l0_0.length ≤ c0_0) (hr0_1 : Kd.C k54 w A0_1 l0_1.length l0_1) (hc0_1 : l0_1.length ≤ c0_1) (hr0_3 : Kd.C (Kd.int .i64) w A0_3 l0_3.length l0_3) (hc0_3 : l0_3.length ≤ c0_3) (h : impl_DiskRead.f l0_0 l0_1 a0_2 l0_3 a1 = some (r1, r2)) :
    Calls Try.prog 8 #[.agg #[.slice A0_0 l0_0.length c0_0, .slice A0_1 l0_1.length c0_1, .bool a0_2, .slice A0_3 l0_3.length c0_3], .int .i64 a1] w fun e w' => e = .returned (.tuple #[.string r1, .int .i64 r2]) ∧ Below w.heap.size w w' := by
  unfold impl_DiskRead.f at h
  cases hd : diskB l0_0 l0_1 a0_2 l0_3 with
  | false =>
    rw [hd, if_neg (by simp)] at h
    cases h
    exact diskRead_bad1 _ _ _ _ _ _ _ _ _ _ _ _ hr0_0 hc0_0 hr0_1 hc0_1 hr0_3 hc0_3 (congrArg some hd)
  | true =>
    rw [hd, if_pos rfl] at h
    by_cases ha : 0 ≤ a1 ∧ a1 < (l0_0.length : Int)
    · rw [if_pos ha] at h
      cases h
      exact diskRead_good _ _ _ _ _ _ _ _ _ _ _ _ hr0_0 hc0_0 hr0_1 hc0_1 hr0_3 hc0_3 (congrArg some hd) ha (by have := (diskB_len hd); omega)
    · rw [if_neg ha] at h
      cases h
      exact diskRead_bad4 _ _ _ _ _ _ _ _ _ _ _ _ hr0_0 hc0_0 hr0_1 hc0_1 hr0_3 hc0_3 (congrArg some hd) ha
end Go.Proofs.Ytddommgeaoknbaa.X
namespace Go.Proofs.Ytddommgeaoknbaa.X
open Go.RowKit Go.Proofs.YtddommgeaoknbaaW.PrintWords Go.Proofs.YtddommgeaoknbaaW.PrintLast Go.Proofs.YtddommgeaoknbaaW.PrintMore
attribute [local go_sem] xbin_geq xbin_leq xbin_gtr max2_int min2_int max_two min_two max_three min_three max_four min_four
set_option linter.unusedVariables false
set_option linter.unusedSimpArgs false
def DiskAt (w0 w : World) (g : Nat) (vs vc vk : Value) (s : List ByteArray) (c : List S54) (a : Bool) (q : List Int) : Prop :=
  w0.heap.size ≤ g ∧ w.heap[g]? = some (.cells #[vs, vc, .bool a, vk] 27 (0, 0)) ∧ Kd.R Kd.string 9 w w0.heap.size (fun _ => True) vs s ∧ Kd.R k54 54 w w0.heap.size (fun _ => True) vc c ∧ Kd.R (Kd.int .i64) 3 w w0.heap.size (fun _ => True) vk q
theorem DiskAt.below {w0 w w1 : World} {g : Nat} {vs vc vk : Value} {s : List ByteArray} {c : List S54} {a : Bool} {q : List Int} (h : DiskAt w0 w g vs vc vk s c a q) (hb : Below w.heap.size w w1) : DiskAt w0 w1 g vs vc vk s c a q :=
  ⟨h.1, blk_below h.2.1 hb, Kd.R_below h.2.2.1 hb, Kd.R_below h.2.2.2.1 hb, Kd.R_below h.2.2.2.2 hb⟩
theorem ne_string {t : Nat} (h : 9 ≠ t) : ∀ q, q ∈ 9 :: Kd.string.E → q ≠ t := fun q hq => by
  have : q = 9 := by simpa [Kd.string, Kd.scalar] using hq
  rw [this]; exact h
theorem ne_ints {t : Nat} (h : 3 ≠ t) : ∀ q, q ∈ 3 :: (Kd.int .i64).E → q ≠ t := fun q hq => by
  have : q = 3 := by simpa [Kd.int, Kd.scalar] using hq
  rw [this]; exact h
theorem ne_pend {t : Nat} (h : 54 ≠ t) : ∀ q, q ∈ 54 :: k54.E → q ≠ t := fun q hq => by
  have : q = 54 := by simpa [k54, Kd.iso, Kd.pair, Kd.int, Kd.string, Kd.scalar] using hq
  rw [this]; exact h
set_option maxHeartbeats 4000000 in
set_option maxRecDepth 100000 in
theorem disk_write (w0 w : World) (g : Nat) (vs vc vk : Value) (s : List ByteArray) (c : List S54) (a : Bool) (q : List Int) (at_ : Int) (data : ByteArray) (hB : Below w0.heap.size w0 w) (hd : DiskAt w0 w g vs vc vk s c a q) (hl : c.length ≤ 1000000) :
    Calls Try.prog 21 #[.pointer (some ⟨g, 0, none⟩), .int .i64 at_, .string data] w fun e w' => e = .returned (.tuple #[]) ∧ ∃ vc', DiskAt w0 w' g vs vc' vk s (c ++ [⟨at_, data⟩]) a q ∧ Below w0.heap.size w0 w' ∧ ∀ k cells t, w.heap[k]? = some (.cells cells t (0, 0)) → k ≠ g → 54 ≠ t → w'.heap[k]? = some (.cells cells t (0, 0)) := by
  obtain ⟨hg, hk, hs, hc, hq⟩ := hd
  have HB := Aside0.mk hB
  have HC := Aside0.mk hc
  have HS := Aside0.mk hs
  have HQ := Aside0.mk hq
  have HK := Aside0.mk hk
  have hk1 : w.cell? ⟨g, 1, none⟩ = some vc := blk_cell hk 1
  clear hs hc hq hB hk
  go_enter Try.func21, Try.ntmps21
  go_wp2_with (at_builtin; refine Kd.R_append k54 (w0 := w0) w0.heap.size rfl (.tmp 10) (.tmp 14) 24 54 (.agg #[.int .i64 0, .string ⟨#[]⟩]) 24 rfl Try.underlying24 info54 rfl (by decide) (by decide) vc c ⟨at_, data⟩ [.int .i64 at_, .string data] (fun _ => True) (fun _ => False) rfl rfl (k54_mkM _ _ _ _) (fun _ h => h.elim) (fun _ _ => trivial) HC.out HB.out HB.out.size ?aL ?_; (case aL => omega); intro v1 w1 ho1 hb1 hg1 hat1; obtain ⟨gc, cc, rfl, _⟩ := Kd.R_form ho1 (by simp); have hkb := blk_grown HK.out hg1 (Kd.R_ne HC.out HK.out (by decide)); have hk2 : w1.cell? ⟨g, 1, none⟩ = some vc := blk_cell hkb 1; have hf2 := blk_frozen hkb 1; have HK1 := Aside0.mk hkb; have HC1 := Aside0.mk ho1; have HB1 := Aside0.mk hb1; have HS1 := Aside0.mk (Kd.R_over HS.out HC.out (ne_string (by decide)) hg1); have HQ1 := Aside0.mk (Kd.R_over HQ.out HC.out (ne_ints (by decide)) hg1); have HKP := Aside0.mk (show ∀ k cells t, w.heap[k]? = some (.cells cells t (0, 0)) → k ≠ g → 54 ≠ t → w1.heap[k]? = some (.cells cells t (0, 0)) from fun k cells t hb _ ht => blk_grown hb hg1 (Kd.R_ne HC.out hb ht)); clear hkb ho1 hb1 hg1 hat1)
  go_end0
  refine ⟨rfl, _, ⟨hg, blk_set HK1.out 1 _, Kd.R_set HS1.out HK1.out (ne_string (by decide)) 1 _, ?_, Kd.R_set HQ1.out HK1.out (ne_ints (by decide)) 1 _⟩, HB1.out.setCell (p := ⟨g, 1, none⟩) hg _, fun k cells t hb hk ht => (Below.heap_setCell _ _ _ k hk).trans (HKP.out k cells t hb hk ht)⟩
  have h := Kd.R_set HC1.out HK1.out (ne_pend (by decide)) 1 (Value.slice (some ⟨gc, 0, none⟩) (c.length + 1) cc)
  simpa using h
theorem cells4 {W : World} {g : Nat} {t : TypeId} {x0 x1 x2 x3 : Value} (h : W.heap[g]? = some (.cells #[x0, x1, x2, x3] t (0, 0))) : W.cell? ⟨g, 0, none⟩ = some x0 ∧ W.cell? ⟨g, 1, none⟩ = some x1 ∧ W.cell? ⟨g, 2, none⟩ = some x2 ∧ W.cell? ⟨g, 3, none⟩ = some x3 ∧ W.frozen? ⟨g, 0, none⟩ = false ∧ W.frozen? ⟨g, 1, none⟩ = false ∧ W.frozen? ⟨g, 2, none⟩ = false ∧ W.frozen? ⟨g, 3, none⟩ = false :=
  ⟨blk_cell h 0, blk_cell h 1, blk_cell h 2, blk_cell h 3, blk_frozen h 0, blk_frozen h 1, blk_frozen h 2, blk_frozen h 3⟩
theorem set4_blk {w : World} {g : Nat} {t : TypeId} {x0 x1 x2 x3 : Value} (h : w.heap[g]? = some (.cells #[x0, x1, x2, x3] t (0, 0))) (y0 y1 y2 y3 : Value) : ((((w.setCell ⟨g, 0, none⟩ y0).setCell ⟨g, 1, none⟩ y1).setCell ⟨g, 2, none⟩ y2).setCell ⟨g, 3, none⟩ y3).heap[g]? = some (.cells #[y0, y1, y2, y3] t (0, 0)) :=
  blk_put (cs' := #[y0, y1, y2, y3]) (blk_put (cs' := #[y0, y1, y2, x3]) (blk_put (cs' := #[y0, y1, x2, x3]) (blk_put (cs' := #[y0, x1, x2, x3]) h 0 _ rfl) 1 _ rfl) 2 _ rfl) 3 _ rfl
theorem set4_below {w a : World} {g B : Nat} (h : Below B a w) (hg : B ≤ g) (y0 y1 y2 y3 : Value) : Below B a ((((w.setCell ⟨g, 0, none⟩ y0).setCell ⟨g, 1, none⟩ y1).setCell ⟨g, 2, none⟩ y2).setCell ⟨g, 3, none⟩ y3) :=
  (((h.setCell (p := ⟨g, 0, none⟩) hg _).setCell (p := ⟨g, 1, none⟩) hg _).setCell (p := ⟨g, 2, none⟩) hg _).setCell (p := ⟨g, 3, none⟩) hg _
theorem set4_far {w : World} {g k : Nat} {o : Obj} (h : w.heap[k]? = some o) (hk : k ≠ g) (y0 y1 y2 y3 : Value) : ((((w.setCell ⟨g, 0, none⟩ y0).setCell ⟨g, 1, none⟩ y1).setCell ⟨g, 2, none⟩ y2).setCell ⟨g, 3, none⟩ y3).heap[k]? = some o :=
  (Below.heap_setCell _ _ _ k hk).trans ((Below.heap_setCell _ _ _ k hk).trans ((Below.heap_setCell _ _ _ k hk).trans ((Below.heap_setCell _ _ _ k hk).trans h)))
theorem R_set4 {α : Type} {d : Kd α} {e : Nat} {w : World} {base : Nat} {ok : Nat → Prop} {v : Value} {xs : List α} {g t : Nat} {cells : Array Value} (h : d.R e w base ok v xs) (hb : w.heap[g]? = some (.cells cells t (0, 0))) (ht : ∀ q, q ∈ e :: d.E → q ≠ t) (y0 y1 y2 y3 : Value) : d.R e ((((w.setCell ⟨g, 0, none⟩ y0).setCell ⟨g, 1, none⟩ y1).setCell ⟨g, 2, none⟩ y2).setCell ⟨g, 3, none⟩ y3) base ok v xs :=
  Kd.R_set (Kd.R_set (Kd.R_set (Kd.R_set h hb ht 0 _) (blk_set hb 0 _) ht 1 _) (blk_set (blk_set hb 0 _) 1 _) ht 2 _) (blk_set (blk_set (blk_set hb 0 _) 1 _) 2 _) ht 3 _
theorem DiskAt.set4 {w0 w : World} {g k : Nat} {vs vc vk : Value} {s : List ByteArray} {c : List S54} {a : Bool} {q : List Int} {cells : Array Value} (h : DiskAt w0 w g vs vc vk s c a q) (hb : w.heap[k]? = some (.cells cells 27 (0, 0))) (hk : g ≠ k) (y0 y1 y2 y3 : Value) : DiskAt w0 ((((w.setCell ⟨k, 0, none⟩ y0).setCell ⟨k, 1, none⟩ y1).setCell ⟨k, 2, none⟩ y2).setCell ⟨k, 3, none⟩ y3) g vs vc vk s c a q :=
  ⟨h.1, set4_far h.2.1 hk _ _ _ _, R_set4 h.2.2.1 hb (ne_string (by decide)) _ _ _ _, R_set4 h.2.2.2.1 hb (ne_pend (by decide)) _ _ _ _, R_set4 h.2.2.2.2 hb (ne_ints (by decide)) _ _ _ _⟩
def impl_DiskWrite.f (l0_0 : List ByteArray) (l0_1 : List S54) (a0_2 : Bool) (l0_3 : List Int) (a1 : Int) (a2 : ByteArray) : Option (List ByteArray × List S54 × Bool × List Int × Int) :=
  if 65536 < a2.size then some ([], [], false, [], 2) else if diskB l0_0 l0_1 a0_2 l0_3 = true then (if pendB l0_0.length ⟨a1, a2⟩ = true then (if l0_1.length = 500 then some (l0_0, l0_1, a0_2, l0_3, 7) else some (l0_0, l0_1 ++ [⟨a1, a2⟩], a0_2, l0_3, 0)) else some ([], [], false, [], 4)) else some ([], [], false, [], 1)
set_option maxHeartbeats 16000000 in
set_option maxRecDepth 100000 in
theorem impl_DiskWrite.calls (A0_0 : Option Addr) (c0_0 : Nat) (l0_0 : List ByteArray) (A0_1 : Option Addr) (c0_1 : Nat) (l0_1 : List (S54)) (a0_2 : Bool) (A0_3 : Option Addr) (c0_3 : Nat) (l0_3 : List Int) (a1 : Int) (a2 : ByteArray) (r1 : List ByteArray) (r2 : List (S54)) (r3 : Bool) (r4 : List Int) (r5 : Int) (w : World) (hr0_0 : Kd.C Kd.string w A0_0 l0_0.length l0_0) (hc0_0 : l0_0.length ≤ c0_0) (hr0_1 : Kd.C k54 w A0_1 l0_1.length l0_1) (hc0_1 : l0_1.length ≤ c0_1) (hr0_3 : Kd.C (Kd.int .i64) w A0_3 l0_3.length l0_3) (hc0_3 : l0_3.length ≤ c0_3) (h : impl_DiskWrite.f l0_0 l0_1 a0_2 l0_3 a1 a2 = some (r1, r2, r3, r4, r5)) :
    Calls Try.prog 6 #[.agg #[.slice A0_0 l0_0.length c0_0, .slice A0_1 l0_1.length c0_1, .bool a0_2, .slice A0_3 l0_3.length c0_3], .int .i64 a1, .string a2] w fun e w' => ∃ v0_ v1_ v3_ : Value, e = .returned (.tuple #[.agg #[v0_, v1_, .bool r3, v3_], .int .i64 r5]) ∧ Kd.R Kd.string 9 w' w.heap.size (fun _ => True) v0_ r1 ∧ Kd.R k54 54 w' w.heap.size (fun _ => True) v1_ r2 ∧ Kd.R (Kd.int .i64) 3 w' w.heap.size (fun _ => True) v3_ r4 ∧ Below w.heap.size w w' := by
  unfold impl_DiskWrite.f at h
  have hu := Try.underlying27
  have HR0 := Aside0.mk hr0_0
  have HR1 := Aside0.mk hr0_1
  have HR3 := Aside0.mk hr0_3
  have hm := hr0_1.2.1
  have hB0 : Below w.heap.size w ((w.alloc (.cells #[.slice A0_0 l0_0.length c0_0, .slice A0_1 l0_1.length c0_1, .bool a0_2, .slice A0_3 l0_3.length c0_3] 27 (0, 0))).alloc (.cells #[.slice none 0 0, .slice none 0 0, .bool false, .slice none 0 0] 27 (0, 0))) := below_alloc (below_alloc (Below.refl _ w) _) _
  have hD0 : ((w.alloc (.cells #[.slice A0_0 l0_0.length c0_0, .slice A0_1 l0_1.length c0_1, .bool a0_2, .slice A0_3 l0_3.length c0_3] 27 (0, 0))).alloc (.cells #[.slice none 0 0, .slice none 0 0, .bool false, .slice none 0 0] 27 (0, 0))).heap[w.heap.size]? = some (.cells #[.slice A0_0 l0_0.length c0_0, .slice A0_1 l0_1.length c0_1, .bool a0_2, .slice A0_3 l0_3.length c0_3] 27 (0, 0)) := blk_alloc (blk_new w _) _
  have hsz1 : (w.alloc (.cells #[.slice A0_0 l0_0.length c0_0, .slice A0_1 l0_1.length c0_1, .bool a0_2, .slice A0_3 l0_3.length c0_3] 27 (0, 0))).heap.size = w.heap.size + 1 := by show (w.heap.push _).size = _; rw [Array.size_push]
  have hZ0 : ((w.alloc (.cells #[.slice A0_0 l0_0.length c0_0, .slice A0_1 l0_1.length c0_1, .bool a0_2, .slice A0_3 l0_3.length c0_3] 27 (0, 0))).alloc (.cells #[.slice none 0 0, .slice none 0 0, .bool false, .slice none 0 0] 27 (0, 0))).heap[w.heap.size + 1]? = some (.cells #[.slice none 0 0, .slice none 0 0, .bool false, .slice none 0 0] 27 (0, 0)) := by rw [← hsz1]; exact blk_new _ _
  have HB0 := Aside0.mk hB0
  have HD0 := Aside0.mk hD0
  have HZ0 := Aside0.mk hZ0
  clear hr0_0 hr0_1 hr0_3 hB0 hD0 hZ0 hsz1
  by_cases h1 : 65536 < a2.size
  · rw [if_pos h1] at h
    simp only [Option.some.injEq, Prod.mk.injEq] at h
    obtain ⟨rfl, rfl, rfl, rfl, rfl⟩ := h
    have c1 : decide (65536 < (a2.size : Int)) = true := decide_eq_true (by omega)
    go_enter Try.func6, Try.ntmps6
    go_wp2_with fail
    refine bodyPost_ret (results_ct rfl _ _ (w.heap.size + 1) 27 #[.slice none 0 0, .slice none 0 0, .bool false, .slice none 0 0] (0, 0) _ rfl (HZ0.out) Try.underlying27 rfl (by kernel_rfl)) rfl ?_
    exact ⟨_, _, _, rfl, Kd.R_nil _ _ _ _ _, Kd.R_nil _ _ _ _ _, Kd.R_nil _ _ _ _ _, HB0.out⟩
  · rw [if_neg h1] at h
    have c1 : decide (65536 < (a2.size : Int)) = false := decide_eq_false (by omega)
    have HOK := Aside0.mk (show impl_DiskOK.f l0_0 l0_1 a0_2 l0_3 = some (diskB l0_0 l0_1 a0_2 l0_3) from rfl)
    cases hd : diskB l0_0 l0_1 a0_2 l0_3 with
    | false =>
      rw [hd] at h HOK
      rw [if_neg (by simp)] at h
      simp only [Option.some.injEq, Prod.mk.injEq] at h
      obtain ⟨rfl, rfl, rfl, rfl, rfl⟩ := h
      clear hd
      go_enter Try.func6, Try.ntmps6
      go_wp2_with fail
      refine (impl_DiskOK.calls _ _ _ _ _ _ _ _ _ _ _ _ (Kd.C_below HR0.out HB0.out) hc0_0 (Kd.C_below HR1.out HB0.out) hc0_1 (Kd.C_below HR3.out HB0.out) hc0_3 HOK.out).mono ?_
      rintro e w1 ⟨rfl, hb1⟩
      have HB1 := Aside0.mk (below_step HB0.out hb1)
      have HD1 := Aside0.mk (blk_below HD0.out hb1)
      have HZ1 := Aside0.mk (blk_below HZ0.out hb1)
      obtain ⟨d0, d1, d2, d3, _, _, _, _⟩ := cells4 HD1.out
      obtain ⟨z0, z1, z2, z3, z4, z5, z6, z7⟩ := cells4 HZ1.out
      clear hb1
      go_wp2_with fail
      refine bodyPost_ret (results_ct rfl _ _ (w.heap.size + 1) 27 #[.slice none 0 0, .slice none 0 0, .bool false, .slice none 0 0] (0, 0) _ rfl (set4_blk HZ1.out _ _ _ _) Try.underlying27 rfl (by kernel_rfl)) rfl ?_
      exact ⟨_, _, _, rfl, Kd.R_nil _ _ _ _ _, Kd.R_nil _ _ _ _ _, Kd.R_nil _ _ _ _ _, set4_below HB1.out (by omega) _ _ _ _⟩
    | true =>
      have hl := diskB_len hd
      rw [hd] at h HOK
      rw [if_pos rfl] at h
      clear hd
      have hwr : IntKind.i64.wrap ((l0_0.length : Int) - 1) = (l0_0.length : Int) - 1 := by rw [IntKind.wrap_i64]; omega
      have hw := within_is a1 0 ((l0_0.length : Int) - 1)
      have HCL := Aside0.mk (impl_own (s := l0_0) (c := l0_1) a0_2 (q := l0_3) (by omega) (by omega) (by omega))
      have hlen : l0_1.length ≤ 500 := hl.2.1
      clear hl
      by_cases h2 : 0 ≤ a1 ∧ a1 ≤ (l0_0.length : Int) - 1
      · rw [decide_eq_true h2] at hw
        have HW := Aside0.mk hw
        clear hw
        by_cases h3 : a2.size ≤ 420
        · have c3 : decide (420 < (a2.size : Int)) = false := decide_eq_false (by omega)
          rw [if_pos (by unfold pendB; simp only; rw [decide_eq_true h2, decide_eq_true h3]; rfl)] at h
          by_cases h4 : l0_1.length = 500
          · rw [if_pos h4] at h
            simp only [Option.some.injEq, Prod.mk.injEq] at h
            obtain ⟨rfl, rfl, rfl, rfl, rfl⟩ := h
            have c4 : ((l0_1.length : Int) == 500) = true := beq_iff_eq.2 (by omega)
            have H4 := Aside0.mk h4
            clear h4 h2
            go_enter Try.func6, Try.ntmps6
            go_wp2_with fail
            refine (impl_DiskOK.calls _ _ _ _ _ _ _ _ _ _ _ _ (Kd.C_below HR0.out HB0.out) hc0_0 (Kd.C_below HR1.out HB0.out) hc0_1 (Kd.C_below HR3.out HB0.out) hc0_3 HOK.out).mono ?_
            rintro e w1 ⟨rfl, hb1⟩
            have HB1 := Aside0.mk (below_step HB0.out hb1)
            have HD1 := Aside0.mk (blk_below HD0.out hb1)
            have HZ1 := Aside0.mk (blk_below HZ0.out hb1)
            obtain ⟨d0, d1, d2, d3, _, _, _, _⟩ := cells4 HD1.out
            obtain ⟨z0, z1, z2, z3, z4, z5, z6, z7⟩ := cells4 HZ1.out
            clear hb1
            go_wp2_with fail
            refine (impl_within.calls _ _ _ _ _ HW.out).mono ?_
            rintro e w2 ⟨rfl, hb2⟩
            have HB2 := Aside0.mk (by first | exact below_step HB1.out hb2 | exact below_step HB1.out hb2.below)
            have HD2 := Aside0.mk (by first | exact blk_below HD1.out hb2 | exact blk_below HD1.out hb2.below)
            have HZ2 := Aside0.mk (by first | exact blk_below HZ1.out hb2 | exact blk_below HZ1.out hb2.below)
            clear d0 d1 d2 d3 z0 z1 z2 z3 z4 z5 z6 z7 HD1 HZ1 HB1 hb2
            obtain ⟨d0, d1, d2, d3, _, _, _, _⟩ := cells4 HD2.out
            obtain ⟨z0, z1, z2, z3, z4, z5, z6, z7⟩ := cells4 HZ2.out
            go_wp2_with fail
            refine (impl_cloneDisk.calls _ _ _ _ _ _ _ _ _ _ _ _ _ _ _ (Kd.C_below HR0.out HB2.out) hc0_0 (Kd.C_below HR1.out HB2.out) hc0_1 (Kd.C_below HR3.out HB2.out) hc0_3 HCL.out).mono ?_
            rintro e w3 ⟨x0, x1, x3, rfl, hs3, hc3, hq3, hb3⟩
            have HB3 := Aside0.mk (below_step HB2.out hb3)
            have HD3 := Aside0.mk (blk_below HD2.out hb3)
            have HZ3 := Aside0.mk (blk_below HZ2.out hb3)
            have hs4 := Kd.R_lower hs3 HB2.out.size
            have hc4 := Kd.R_lower hc3 HB2.out.size
            have hq4 := Kd.R_lower hq3 HB2.out.size
            obtain ⟨X0, y0, rfl, _, _⟩ := Kd.R_reads hs3
            obtain ⟨X1, y1, rfl, _, _⟩ := Kd.R_reads hc3
            obtain ⟨X3, y3, rfl, _, _⟩ := Kd.R_reads hq3
            have HA3 := Aside0.mk (show DiskAt w (w3.alloc (.cells #[.slice X0 l0_0.length y0, .slice X1 l0_1.length y1, .bool a0_2, .slice X3 l0_3.length y3] 27 (0, 0))) w3.heap.size (.slice X0 l0_0.length y0) (.slice X1 l0_1.length y1) (.slice X3 l0_3.length y3) l0_0 l0_1 a0_2 l0_3 from ⟨HB3.out.size, blk_new w3 _, Kd.R_alloc hs4 _, Kd.R_alloc hc4 _, Kd.R_alloc hq4 _⟩)
            have HBA := Aside0.mk (below_alloc HB3.out (.cells #[.slice X0 l0_0.length y0, .slice X1 l0_1.length y1, .bool a0_2, .slice X3 l0_3.length y3] 27 (0, 0)))
            have HDA := Aside0.mk (blk_alloc HD3.out (.cells #[.slice X0 l0_0.length y0, .slice X1 l0_1.length y1, .bool a0_2, .slice X3 l0_3.length y3] 27 (0, 0)))
            have HZA := Aside0.mk (blk_alloc HZ3.out (.cells #[.slice X0 l0_0.length y0, .slice X1 l0_1.length y1, .bool a0_2, .slice X3 l0_3.length y3] 27 (0, 0)))
            have hg3 := blk_lt HZ3.out
            have hgne : w3.heap.size ≠ w.heap.size + 1 := by omega
            have HGN := Aside0.mk hgne
            clear hs3 hc3 hq3 hs4 hc4 hq4 hb3 hg3 hgne d0 d1 d2 d3 z0 z1 z2 z3 z4 z5 z6 z7 HD2 HZ2 HB2
            obtain ⟨d0, d1, d2, d3, _, _, _, _⟩ := cells4 HDA.out
            obtain ⟨z0, z1, z2, z3, z4, z5, z6, z7⟩ := cells4 HZA.out
            obtain ⟨e0, e1, e2, e3, _, _, _, _⟩ := cells4 HA3.out.2.1
            go_wp2_with fail
            refine bodyPost_ret (results_ct rfl _ _ (w.heap.size + 1) 27 #[.slice X0 l0_0.length y0, .slice X1 l0_1.length y1, .bool a0_2, .slice X3 l0_3.length y3] (0, 0) _ rfl (set4_blk HZA.out _ _ _ _) Try.underlying27 rfl (by kernel_rfl)) rfl ?_
            have hfin := DiskAt.set4 HA3.out HZA.out HGN.out (.slice X0 l0_0.length y0) (.slice X1 l0_1.length y1) (.bool a0_2) (.slice X3 l0_3.length y3)
            exact ⟨_, _, _, rfl, hfin.2.2.1, hfin.2.2.2.1, hfin.2.2.2.2, set4_below HBA.out (by omega) _ _ _ _⟩
          · rw [if_neg h4] at h
            simp only [Option.some.injEq, Prod.mk.injEq] at h
            obtain ⟨rfl, rfl, rfl, rfl, rfl⟩ := h
            have c4 : ((l0_1.length : Int) == 500) = false := beq_eq_false_iff_ne.2 (by omega)
            have H4 := Aside0.mk h4
            clear h4 h2
            go_enter Try.func6, Try.ntmps6
            go_wp2_with fail
            refine (impl_DiskOK.calls _ _ _ _ _ _ _ _ _ _ _ _ (Kd.C_below HR0.out HB0.out) hc0_0 (Kd.C_below HR1.out HB0.out) hc0_1 (Kd.C_below HR3.out HB0.out) hc0_3 HOK.out).mono ?_
            rintro e w1 ⟨rfl, hb1⟩
            have HB1 := Aside0.mk (below_step HB0.out hb1)
            have HD1 := Aside0.mk (blk_below HD0.out hb1)
            have HZ1 := Aside0.mk (blk_below HZ0.out hb1)
            obtain ⟨d0, d1, d2, d3, _, _, _, _⟩ := cells4 HD1.out
            obtain ⟨z0, z1, z2, z3, z4, z5, z6, z7⟩ := cells4 HZ1.out
            clear hb1
            go_wp2_with fail
            refine (impl_within.calls _ _ _ _ _ HW.out).mono ?_
            rintro e w2 ⟨rfl, hb2⟩
            have HB2 := Aside0.mk (by first | exact below_step HB1.out hb2 | exact below_step HB1.out hb2.below)
            have HD2 := Aside0.mk (by first | exact blk_below HD1.out hb2 | exact blk_below HD1.out hb2.below)
            have HZ2 := Aside0.mk (by first | exact blk_below HZ1.out hb2 | exact blk_below HZ1.out hb2.below)
            clear d0 d1 d2 d3 z0 z1 z2 z3 z4 z5 z6 z7 HD1 HZ1 HB1 hb2
            obtain ⟨d0, d1, d2, d3, _, _, _, _⟩ := cells4 HD2.out
            obtain ⟨z0, z1, z2, z3, z4, z5, z6, z7⟩ := cells4 HZ2.out
            go_wp2_with fail
            refine (impl_cloneDisk.calls _ _ _ _ _ _ _ _ _ _ _ _ _ _ _ (Kd.C_below HR0.out HB2.out) hc0_0 (Kd.C_below HR1.out HB2.out) hc0_1 (Kd.C_below HR3.out HB2.out) hc0_3 HCL.out).mono ?_
            rintro e w3 ⟨x0, x1, x3, rfl, hs3, hc3, hq3, hb3⟩
            have HB3 := Aside0.mk (below_step HB2.out hb3)
            have HD3 := Aside0.mk (blk_below HD2.out hb3)
            have HZ3 := Aside0.mk (blk_below HZ2.out hb3)
            have hs4 := Kd.R_lower hs3 HB2.out.size
            have hc4 := Kd.R_lower hc3 HB2.out.size
            have hq4 := Kd.R_lower hq3 HB2.out.size
            obtain ⟨X0, y0, rfl, _, _⟩ := Kd.R_reads hs3
            obtain ⟨X1, y1, rfl, _, _⟩ := Kd.R_reads hc3
            obtain ⟨X3, y3, rfl, _, _⟩ := Kd.R_reads hq3
            have HA3 := Aside0.mk (show DiskAt w (w3.alloc (.cells #[.slice X0 l0_0.length y0, .slice X1 l0_1.length y1, .bool a0_2, .slice X3 l0_3.length y3] 27 (0, 0))) w3.heap.size (.slice X0 l0_0.length y0) (.slice X1 l0_1.length y1) (.slice X3 l0_3.length y3) l0_0 l0_1 a0_2 l0_3 from ⟨HB3.out.size, blk_new w3 _, Kd.R_alloc hs4 _, Kd.R_alloc hc4 _, Kd.R_alloc hq4 _⟩)
            have HBA := Aside0.mk (below_alloc HB3.out (.cells #[.slice X0 l0_0.length y0, .slice X1 l0_1.length y1, .bool a0_2, .slice X3 l0_3.length y3] 27 (0, 0)))
            have HDA := Aside0.mk (blk_alloc HD3.out (.cells #[.slice X0 l0_0.length y0, .slice X1 l0_1.length y1, .bool a0_2, .slice X3 l0_3.length y3] 27 (0, 0)))
            have HZA := Aside0.mk (blk_alloc HZ3.out (.cells #[.slice X0 l0_0.length y0, .slice X1 l0_1.length y1, .bool a0_2, .slice X3 l0_3.length y3] 27 (0, 0)))
            have hg3 := blk_lt HZ3.out
            have hgne : w3.heap.size ≠ w.heap.size + 1 := by omega
            have HGN := Aside0.mk hgne
            clear hs3 hc3 hq3 hs4 hc4 hq4 hb3 hg3 hgne d0 d1 d2 d3 z0 z1 z2 z3 z4 z5 z6 z7 HD2 HZ2 HB2
            obtain ⟨d0, d1, d2, d3, _, _, _, _⟩ := cells4 HDA.out
            obtain ⟨z0, z1, z2, z3, z4, z5, z6, z7⟩ := cells4 HZA.out
            obtain ⟨e0, e1, e2, e3, _, _, _, _⟩ := cells4 HA3.out.2.1
            go_wp2_with fail
            refine (disk_write w _ w3.heap.size _ _ _ l0_0 l0_1 a0_2 l0_3 a1 a2 HBA.out HA3.out (by omega)).mono ?_
            rintro e w4 ⟨rfl, vc, hd4, hb4, hk4⟩
            have HZ4 := Aside0.mk (hk4 _ _ _ HZA.out (by have := HGN.out; omega) (by decide))
            have HB4 := Aside0.mk hb4
            obtain ⟨gc, cc, rfl, _⟩ := Kd.R_form hd4.2.2.2.1 (by simp)
            rw [show (l0_1 ++ [(⟨a1, a2⟩ : S54)]).length = l0_1.length + 1 from by simp] at hd4
            have HA4 := Aside0.mk hd4
            clear hd4 hb4 hk4 d0 d1 d2 d3 z0 z1 z2 z3 z4 z5 z6 z7 e0 e1 e2 e3
            obtain ⟨e0, e1, e2, e3, _, _, _, _⟩ := cells4 HA4.out.2.1
            obtain ⟨z0, z1, z2, z3, z4, z5, z6, z7⟩ := cells4 HZ4.out
            go_wp2_with fail
            refine bodyPost_ret (results_ct rfl _ _ (w.heap.size + 1) 27 #[.slice X0 l0_0.length y0, .slice (some ⟨gc, 0, none⟩) (l0_1.length + 1) cc, .bool a0_2, .slice X3 l0_3.length y3] (0, 0) _ rfl (set4_blk HZ4.out _ _ _ _) Try.underlying27 rfl (by kernel_rfl)) rfl ?_
            have hfin := DiskAt.set4 HA4.out HZ4.out HGN.out (.slice X0 l0_0.length y0) (.slice (some ⟨gc, 0, none⟩) (l0_1.length + 1) cc) (.bool a0_2) (.slice X3 l0_3.length y3)
            exact ⟨_, _, _, rfl, hfin.2.2.1, hfin.2.2.2.1, hfin.2.2.2.2, set4_below HB4.out (by omega) _ _ _ _⟩
        · have c3 : decide (420 < (a2.size : Int)) = true := decide_eq_true (by omega)
          rw [if_neg (by unfold pendB; simp only; rw [decide_eq_true h2, decide_eq_false h3]; simp)] at h
          simp only [Option.some.injEq, Prod.mk.injEq] at h
          obtain ⟨rfl, rfl, rfl, rfl, rfl⟩ := h
          clear h2
          go_enter Try.func6, Try.ntmps6
          go_wp2_with fail
          refine (impl_DiskOK.calls _ _ _ _ _ _ _ _ _ _ _ _ (Kd.C_below HR0.out HB0.out) hc0_0 (Kd.C_below HR1.out HB0.out) hc0_1 (Kd.C_below HR3.out HB0.out) hc0_3 HOK.out).mono ?_
          rintro e w1 ⟨rfl, hb1⟩
          have HB1 := Aside0.mk (below_step HB0.out hb1)
          have HD1 := Aside0.mk (blk_below HD0.out hb1)
          have HZ1 := Aside0.mk (blk_below HZ0.out hb1)
          obtain ⟨d0, d1, d2, d3, _, _, _, _⟩ := cells4 HD1.out
          obtain ⟨z0, z1, z2, z3, z4, z5, z6, z7⟩ := cells4 HZ1.out
          clear hb1
          go_wp2_with fail
          refine (impl_within.calls _ _ _ _ _ HW.out).mono ?_
          rintro e w2 ⟨rfl, hb2⟩
          have HB2 := Aside0.mk (by first | exact below_step HB1.out hb2 | exact below_step HB1.out hb2.below)
          have HD2 := Aside0.mk (by first | exact blk_below HD1.out hb2 | exact blk_below HD1.out hb2.below)
          have HZ2 := Aside0.mk (by first | exact blk_below HZ1.out hb2 | exact blk_below HZ1.out hb2.below)
          clear d0 d1 d2 d3 z0 z1 z2 z3 z4 z5 z6 z7 HD1 HZ1 HB1 hb2
          obtain ⟨d0, d1, d2, d3, _, _, _, _⟩ := cells4 HD2.out
          obtain ⟨z0, z1, z2, z3, z4, z5, z6, z7⟩ := cells4 HZ2.out
          go_wp2_with fail
          refine bodyPost_ret (results_ct rfl _ _ (w.heap.size + 1) 27 #[.slice none 0 0, .slice none 0 0, .bool false, .slice none 0 0] (0, 0) _ rfl (set4_blk HZ2.out _ _ _ _) Try.underlying27 rfl (by kernel_rfl)) rfl ?_
          exact ⟨_, _, _, rfl, Kd.R_nil _ _ _ _ _, Kd.R_nil _ _ _ _ _, Kd.R_nil _ _ _ _ _, set4_below HB2.out (by omega) _ _ _ _⟩
      · rw [decide_eq_false h2] at hw
        have HW := Aside0.mk hw
        clear hw
        rw [if_neg (by unfold pendB; simp only; rw [decide_eq_false h2]; simp)] at h
        simp only [Option.some.injEq, Prod.mk.injEq] at h
        obtain ⟨rfl, rfl, rfl, rfl, rfl⟩ := h
        clear h2
        go_enter Try.func6, Try.ntmps6
        go_wp2_with fail
        refine (impl_DiskOK.calls _ _ _ _ _ _ _ _ _ _ _ _ (Kd.C_below HR0.out HB0.out) hc0_0 (Kd.C_below HR1.out HB0.out) hc0_1 (Kd.C_below HR3.out HB0.out) hc0_3 HOK.out).mono ?_
        rintro e w1 ⟨rfl, hb1⟩
        have HB1 := Aside0.mk (below_step HB0.out hb1)
        have HD1 := Aside0.mk (blk_below HD0.out hb1)
        have HZ1 := Aside0.mk (blk_below HZ0.out hb1)
        obtain ⟨d0, d1, d2, d3, _, _, _, _⟩ := cells4 HD1.out
        obtain ⟨z0, z1, z2, z3, z4, z5, z6, z7⟩ := cells4 HZ1.out
        clear hb1
        go_wp2_with fail
        refine (impl_within.calls _ _ _ _ _ HW.out).mono ?_
        rintro e w2 ⟨rfl, hb2⟩
        have HB2 := Aside0.mk (by first | exact below_step HB1.out hb2 | exact below_step HB1.out hb2.below)
        have HD2 := Aside0.mk (by first | exact blk_below HD1.out hb2 | exact blk_below HD1.out hb2.below)
        have HZ2 := Aside0.mk (by first | exact blk_below HZ1.out hb2 | exact blk_below HZ1.out hb2.below)
        clear d0 d1 d2 d3 z0 z1 z2 z3 z4 z5 z6 z7 HD1 HZ1 HB1 hb2
        obtain ⟨d0, d1, d2, d3, _, _, _, _⟩ := cells4 HD2.out
        obtain ⟨z0, z1, z2, z3, z4, z5, z6, z7⟩ := cells4 HZ2.out
        go_wp2_with fail
        refine bodyPost_ret (results_ct rfl _ _ (w.heap.size + 1) 27 #[.slice none 0 0, .slice none 0 0, .bool false, .slice none 0 0] (0, 0) _ rfl (set4_blk HZ2.out _ _ _ _) Try.underlying27 rfl (by kernel_rfl)) rfl ?_
        exact ⟨_, _, _, rfl, Kd.R_nil _ _ _ _ _, Kd.R_nil _ _ _ _ _, Kd.R_nil _ _ _ _ _, set4_below HB2.out (by omega) _ _ _ _⟩
end Go.Proofs.Ytddommgeaoknbaa.X
