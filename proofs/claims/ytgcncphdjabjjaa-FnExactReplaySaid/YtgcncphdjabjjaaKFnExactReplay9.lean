import Derived.Test.YtgcncphdjabjjaaKFnExactReplay3
import Derived.Test.YtgcncphdjabjjaaKFnExactReplay7
import Derived.LoopTactic
import Derived.BigQuiet
import Derived.Deep.RegionLaw
import Derived.Lib.Overlaps
import Derived.Laws.Externs
import Derived.Lib.AppendZerosOnto
import Derived.Laws.NewBlocks
namespace Go.Proofs.Ytgcncphdjabjjaa.X
open Go.RowKit Go.Proofs.YtgcncphdjabjjaaW.PrintWords Go.Proofs.YtgcncphdjabjjaaW.PrintLast Go.Proofs.YtgcncphdjabjjaaW.PrintMore
attribute [local go_sem] qaC qaD qaE qay qaz qaN qaO qat qau qaA qaB
set_option linter.unusedVariables false
set_option linter.unusedSimpArgs false
open Go.Lib
def qbX.f (l0 : List S76) (a1 : Int) (l2 : List S76) : Option (List S76) := if 0 ≤ a1 ∧ a1 ≤ (l0.length : Int) ∧ l2.length = 1 ∧ l0.length ≤ 1000000 then some (l0.take a1.toNat ++ l2 ++ l0.drop a1.toNat) else none
set_option maxHeartbeats 4000000 in
set_option maxRecDepth 100000 in
theorem qgx (P0_ : Nat → Prop) (u9000_ : Value) (l0 : List (S76)) (P2_ : Nat → Prop) (u9001_ : Value) (l2 : List (S76)) (w0 w : World) (hB : Below w0.heap.size w0 w) (ho0 : Kd.R k76 76 w w0.heap.size P0_ u9000_ l0) (hp0_2 : ∀ k_, P0_ k_ → ¬ P2_ k_) (ho2 : Kd.R k76 76 w w0.heap.size P2_ u9001_ l2) (h2 : l2.length = 1) (hl : l0.length ≤ 1000000) :
  Calls Try.prog 112 #[u9000_, .int .i64 l0.length, u9001_] w fun e w' => ∃ v0_ : Value, e = .returned (v0_) ∧ Kd.R k76 76 w' w0.heap.size (fun k_ => ((P0_ k_ ∨ P2_ k_) ∨ w.heap.size ≤ k_)) v0_ (l0 ++ l2) ∧ Below w0.heap.size w0 w' ∧ Kept w w' (fun k_ => P0_ k_ ∨ P2_ k_) := by
 obtain ⟨g2, c2, rfl, hbg2, hgl2, _, _⟩ := Kd.qdu ho2 (by omega)
 obtain ⟨_, _, hC2⟩ := Kd.qaM ho2
 have hP2 : P2_ g2 := ho2.1 g2 rfl
 obtain ⟨_, _, _, hc2, hc3, _⟩ := R_cap ho2
 have hM2 : ∀ x cs, k76.K w x cs → k76.M w w0.heap.size (fun _ => False) x cs := fun x cs h => by rw [qgM h]; exact qcG _ _ _ x
 have HC2 := Aside0.mk hC2
 have HM2 := Aside0.mk hM2
 have HBB := Aside0.mk hB
 rw [h2] at HC2 ⊢
 rcases R_cases ho0 with ⟨rfl, rfl⟩ | ⟨g, c, rfl⟩
 ·have HO := Aside0.mk (Kd.qfF k76 76 w w0.heap.size (fun k_ => ((P0_ k_ ∨ P2_ k_) ∨ w.heap.size ≤ k_)))
  clear ho0 ho2 hB hC2 hM2
  rw [List.length_nil]
  go_enter Try.func112, Try.ntmps112
  go_wp2_with (at_builtin; refine Kd.qbW k76 (w0 := w0) w0.heap.size rfl (.tmp 23) (.tmp 24) 26 76 (.agg #[.string ⟨#[]⟩, .string ⟨#[]⟩]) 32 rfl Try.underlying26 qcw rfl (by decide) (by omega) _ _ l2 _ _ _ (fun k_ => ((P0_ k_ ∨ P2_ k_) ∨ w.heap.size ≤ k_)) (fun _ => False) rfl rfl HO.out HC2.out (fun x cs h => HM2.out x cs h) (fun _ h => h.elim) (fun k hk => .inr hk) HBB.out HBB.out.size ?aL ?_; (case aL => simp); intro v1 w1 ho1 hb1 hg1 hat1)
  go_ret
  exact ⟨_, rfl, by simpa using ho1, hb1, Kept.qcg hg1 (Kept.refl w _) (fun k hk => by cases hk)⟩
 ·obtain ⟨_, hbg, hgl, hc, hc63, hok⟩ := R_cap ho0
  have HO := Aside0.mk (Kd.qbs (ok' := fun k_ => ((P0_ k_ ∨ P2_ k_) ∨ w.heap.size ≤ k_)) ho0 (fun _ hk => .inl (.inl hk)))
  clear ho0 ho2 hB hC2 hM2
  go_enter Try.func112, Try.ntmps112
  go_wp2_with (at_builtin; refine Kd.qbW k76 (w0 := w0) w0.heap.size rfl (.tmp 23) (.tmp 24) 26 76 (.agg #[.string ⟨#[]⟩, .string ⟨#[]⟩]) 32 rfl Try.underlying26 qcw rfl (by decide) (by omega) _ _ l2 _ _ _ (fun k_ => ((P0_ k_ ∨ P2_ k_) ∨ w.heap.size ≤ k_)) (fun _ => False) rfl rfl HO.out HC2.out (fun x cs h => HM2.out x cs h) (fun _ h => h.elim) (fun k hk => .inr hk) HBB.out HBB.out.size ?aL ?_; (case aL => omega); intro v1 w1 ho1 hb1 hg1 hat1)
  all_goals
   go_ret
   exact ⟨_, rfl, ho1, hb1, Kept.qcg hg1 (Kept.refl w _) (fun k hk => by injection hk with hk; subst hk; exact .inl (.inl hok))⟩
set_option maxHeartbeats 4000000 in
set_option maxRecDepth 100000 in
theorem qf2 (P0_ : Nat → Prop) (g n c i : Nat) (l0 : List (S76)) (P2_ : Nat → Prop) (u9001_ : Value) (l2 : List (S76)) (w0 w : World) (hB : Below w0.heap.size w0 w) (ho0 : Kd.R k76 76 w w0.heap.size P0_ (.slice (some ⟨g, 0, none⟩) n c) l0) (hp0_2 : ∀ k_, P0_ k_ → ¬ P2_ k_) (ho2 : Kd.R k76 76 w w0.heap.size P2_ u9001_ l2) (h2 : l2.length = 1) (hi : i < n) (hroom : n + 1 ≤ c) :
  Calls Try.prog 112 #[.slice (some ⟨g, 0, none⟩) n c, .int .i64 i, u9001_] w fun e w' => ∃ v0_ : Value, e = .returned (v0_) ∧ Kd.R k76 76 w' w0.heap.size (fun k_ => ((P0_ k_ ∨ P2_ k_) ∨ w.heap.size ≤ k_)) v0_ (l0.take i ++ l2 ++ l0.drop i) ∧ Below w0.heap.size w0 w' ∧ Kept w w' (fun k_ => P0_ k_ ∨ P2_ k_) := by
 obtain ⟨g2, c2, rfl, _, _, _, _⟩ := Kd.qdu ho2 (by omega)
 obtain ⟨cur, inner, hn, hbg, hh, _, hcm, hcs, htake, hreps, hok⟩ := qgw ho0
 obtain ⟨cur2, inner2, _, hbg2, hh2, hnc2, hcm2, hcs2, htake2, hreps2, hok2⟩ := qgw ho2
 rw [show k76.sz = 2 from rfl] at *
 have hne : g2 ≠ g := fun e => hp0_2 g hok (e ▸ hok2)
 have hil : inner.length = n * 2 := by rw [hn]; exact hreps.1
 have hil2 : inner2.length = 2 := by rw [hreps2.1, h2]
 have h1 := qd0 (by decide) hreps
 have h12 := qd0 (by decide) hreps2
 have hgl := qbg hh
 have hov : ∀ o lb cb, (callFunc 120 #[.slice (some ⟨g2, 0, none⟩) 1 c2, .slice (some ⟨g, o, none⟩) lb cb]).run Try.prog w = .ok (.value (.bool false)) w := fun o lb cb => by
  rw [run_callFunc_extern Try.func120 (by kernel_rfl) (by kernel_rfl) (by kernel_rfl) (e := Extern.SlicesOverlaps.overlaps #[26, 26] #[4]) (by kernel_rfl),
   Lib.run_overlaps_apart w 26 4 76 Try.underlying26 2 Try.sizeOf76 ⟨g2, 0, none⟩ ⟨g, o, none⟩ 1 c2 lb cb hne 76 76 cur2.size cur.size (by simp [World.shape?, hh2]) (by simp [World.shape?, hh]) (by omega) (qae hh2 _) (qae hh2 _)]
  rfl
 have hinf : (Try.prog.info? 76).map (·.size) = some 2 := by kernel_rfl
 obtain ⟨w1, cur1, hr1, hh1, hs1, hl1, hg1⟩ := qdi (P := Try.prog) w.drew 26 26 76 76 2 g ((i + 1) * 2) (n - i) ⟨g, i * 2, none⟩ (n + 1 - i) (inner.drop (i * 2)) cur Try.underlying26 hinf (by rw [List.length_drop, hil]; simp only [Nat.min_def]; split <;> omega) hh (by rw [List.length_drop]; omega)
  (fun j v hj => by
   have hj2 : j < inner.length - i * 2 := by have := (List.getElem?_eq_some_iff.1 hj).1; rwa [List.length_drop] at this
   rw [qhl]
   refine (qad (w := w.drew) hh _).trans ?_
   rw [List.getElem?_drop, ← htake, List.getElem?_take, if_pos (by omega), Array.getElem?_toList] at hj
   exact hj) (fun v hv => h1 v (List.mem_of_mem_drop hv))
 have hh21 : w1.heap[g2]? = some (.cells cur2 76 (0, 0)) := qfD (w := w.drew) hh2 hg1 (fun e => hne (by injection e))
 obtain ⟨w2, cur3, hr2, hh3, hs3, hl3, hg3⟩ := qdi (P := Try.prog) w1 26 26 76 76 2 g (i * 2) (n + 1 - i) ⟨g2, 0, none⟩ 1 inner2 cur1 Try.underlying26 hinf (by rw [hil2]; simp only [Nat.min_def]; split <;> omega) hh1 (by omega)
  (fun j v hj => by
   have hj2 : j < inner2.length := (List.getElem?_eq_some_iff.1 hj).1
   rw [add_plain]
   refine (qad hh21 _).trans ?_
   rw [← htake2, List.getElem?_take, if_pos (by omega), Array.getElem?_toList] at hj
   exact hj) h12
 have hlist := ins_list cur.toList inner inner2 (i * 2) (n * 2) 2 htake (by rw [Array.length_toList]; omega) hil2 (by omega) cur1.toList cur3.toList (by rw [hl1, show i * 2 + 2 = (i + 1) * 2 by omega]) hl3
 have hge : w.grownBy w2 (some g) := ⟨hg3.os.trans hg1.os, hg3.tape.trans hg1.tape, hg3.output.trans hg1.output, Nat.le_trans hg1.size hg3.size, fun k hk hk2 => (hg3.block k (Nat.lt_of_lt_of_le hk hg1.size) hk2).trans (hg1.block k hk hk2)⟩
 have hR : Kd.R k76 76 w2 w0.heap.size (fun k_ => ((P0_ k_ ∨ P2_ k_) ∨ w.heap.size ≤ k_)) (.slice (some ⟨g, 0, none⟩) (n + 1) c) (l0.take i ++ l2 ++ l0.drop i) := by
  refine qfj (cur := cur3) (inner := inner.take (i * 2) ++ inner2 ++ inner.drop (i * 2)) (by simp only [List.length_append, List.length_take, List.length_drop, h2]; omega) hbg hh3 hroom hcm (by show cur3.size = c * 2; omega) (by show cur3.toList.take ((n + 1) * 2) = _; rw [Nat.add_mul]; exact hlist) ?_ (.inl (.inl hok))
  have ha : Reps (k76.M w2 w0.heap.size fun k => ((P0_ k ∨ P2_ k) ∨ w.heap.size ≤ k) ∧ k ≠ g) k76.sz l0 inner := hreps.imp_ fun x cs hm => by rw [qcn hm]; exact qcG _ _ _ x
  have hb : Reps (k76.M w2 w0.heap.size fun k => ((P0_ k ∨ P2_ k) ∨ w.heap.size ≤ k) ∧ k ≠ g) k76.sz l2 inner2 := hreps2.imp_ fun x cs hm => by rw [qcn hm]; exact qcG _ _ _ x
  exact Kd.qcE (Kd.qcE (Kd.qen ha (by omega)) hb) (Kd.qeo ha)
 have HR := Aside0.mk hR
 have HG := Aside0.mk hge
 have HBB := Aside0.mk hB
 have HR2 := Aside0.mk hr2
 have HR1 := Aside0.mk hr1
 have hw1 : IntKind.i64.wrap ((i : Int) + 1) = (i : Int) + 1 := by rw [IntKind.wrap_i64]; unfold maxLen at hcm; omega
 have hz1 : ((i : Int) == (n : Int)) = false := beq_eq_false_iff_ne.2 (by omega)
 have hcm2 : c ≤ 9223372036854775807 := by unfold maxLen at hcm; omega
 have q1 : (0 : Int) ≤ (i : Int) + 1 := by omega
 have q2 : ((i : Int) + 1).toNat = i + 1 := by omega
 have q3 : ((n : Int) + 1).toNat = n + 1 := by omega
 have q4 : ¬ (c = i + 1) := by omega
 have q5 : ¬ (c = i) := by omega
 have q6 : i ≤ n := by omega
 have q7 : (i : Int) ≤ (n : Int) := by omega
 have q8 : (n : Int) + 1 ≤ (c : Int) := by omega
 have q9 : (i : Int) ≤ (n : Int) + 1 := by omega
 have q10 : (i : Int) + 1 ≤ (n : Int) + 1 := by omega
 have q11 : i ≤ n + 1 := by omega
 have q12 : i + 1 ≤ n + 1 := by omega
 clear hr1 ho0 ho2 hB hreps hreps2 hh hh2 hh1 hh21 hh3 hlist hl1 hl3 hge hR hg1 hg3 htake htake2 h1 h12 hil hil2 hs1 hs3 hcs hcs2 hcm hinf hr2 hn
 rw [h2]
 go_enter Try.func112, Try.ntmps112
 go_wp2_with (simp only [hov])
 go_region_law (refine qd4 rfl (.tmp 73) (.tmp 76) 26 26 rfl (.slice (some ⟨g, (i + 1) * 2, none⟩) (n - i) (c - (i + 1))) (.slice (some ⟨g, i * 2, none⟩) (n + 1 - i) (c - i)) (by simp [Act.eval, Act.put]) (by simp [Act.eval, Act.put]) (HR1.out 3 (c - (i + 1)) (c - i)) ?_)
 go_wp2_with (with_reducible refine wpList_copy_run _ rfl (.tmp 80) (.tmp 81) 26 26 rfl (.slice (some ⟨g, i * 2, none⟩) (n + 1 - i) (c - i)) (.slice (some ⟨g2, 0, none⟩) 1 c2) rfl rfl (HR2.out 3 (c - i) c2) ?_)
 go_ret
 exact ⟨_, rfl, HR.out, HBB.out.grown HG.out HBB.out.size (fun k hk => by injection hk with hk; subst hk; exact hbg), Kept.qcg HG.out (Kept.refl w _) (fun k hk => by injection hk with hk; subst hk; exact .inl (.inl hok))⟩
set_option maxHeartbeats 4000000 in
set_option maxRecDepth 100000 in
theorem qf3 (P0_ : Nat → Prop) (g n c i : Nat) (l0 : List (S76)) (P2_ : Nat → Prop) (u9001_ : Value) (l2 : List (S76)) (w0 w : World) (hB : Below w0.heap.size w0 w) (ho0 : Kd.R k76 76 w w0.heap.size P0_ (.slice (some ⟨g, 0, none⟩) n c) l0) (hp0_2 : ∀ k_, P0_ k_ → ¬ P2_ k_) (ho2 : Kd.R k76 76 w w0.heap.size P2_ u9001_ l2) (h2 : l2.length = 1) (hi : i < n) (hroom : c < n + 1) (hbig : n ≤ 1000000) :
  Calls Try.prog 112 #[.slice (some ⟨g, 0, none⟩) n c, .int .i64 i, u9001_] w fun e w' => ∃ v0_ : Value, e = .returned (v0_) ∧ Kd.R k76 76 w' w0.heap.size (fun k_ => ((P0_ k_ ∨ P2_ k_) ∨ w.heap.size ≤ k_)) v0_ (l0.take i ++ l2 ++ l0.drop i) ∧ Below w0.heap.size w0 w' ∧ Kept w w' (fun k_ => P0_ k_ ∨ P2_ k_) := by
 obtain ⟨g2, c2, rfl, _, _, _, _⟩ := Kd.qdu ho2 (by omega)
 obtain ⟨cur, inner, hn, hbg, hh, hnc, hcm, hcs, htake, hreps, hok⟩ := qgw ho0
 obtain ⟨cur2, inner2, _, hbg2, hh2, hnc2, hcm2, hcs2, htake2, hreps2, hok2⟩ := qgw ho2
 rw [show k76.sz = 2 from rfl] at *
 have hil : inner.length = n * 2 := by rw [hn]; exact hreps.1
 have hil2 : inner2.length = 2 := by rw [hreps2.1, h2]
 have h1 := qd0 (by decide) hreps
 have h12 := qd0 (by decide) hreps2
 have hgl := qbg hh
 have hgl2 := qbg hh2
 have hinf : (Try.prog.info? 76).map (·.size) = some 2 := by kernel_rfl
 obtain ⟨i0, hi0, hz0, hzs, hzb⟩ := info_parts qcw
 have hcell : ∀ j v, inner[j]? = some v → w.cell? ⟨g, j, none⟩ = some v := fun j v hj => by
  have hj2 : j < inner.length := (List.getElem?_eq_some_iff.1 hj).1
  refine (qad hh _).trans ?_
  rw [← htake, List.getElem?_take, if_pos (by omega), Array.getElem?_toList] at hj
  exact hj
 have hold : (Builtin.firstCells i0.size i (.slice (some ⟨g, 0, none⟩) i c)).run Try.prog w.drew = .ok (inner.take (i * 2)).toArray w.drew := by
  rw [hzs]
  exact run_firstCells_some w.drew 2 i ⟨g, 0, none⟩ i c (inner.take (i * 2)) (by rw [List.length_take]; omega) (fun j v hj => by
   rw [add_plain]
   rw [List.getElem?_take] at hj
   split at hj
   ·exact hcell j v hj
   ·cases hj)
 obtain ⟨k, hk⟩ : ∃ k, n + 1 - i = k := ⟨_, rfl⟩
 have hik : i + k = n + 1 := by omega
 have hrz := fun ty => Lib.run_append_grow_zeros (P := Try.prog) w 26 3 ty 76 i0 _ .i64 .i64 Try.underlying26 Try.underlying3 hi0 hz0 (some ⟨g, 0, none⟩) i c (inner.take (i * 2)) hold k (by omega) (by rw [hzs]; omega) (by omega) (by omega) (by rw [hzb]; omega) (by rw [hzb, hik]; exact growslice_fits hroom (by omega))
 rw [hik] at hrz
 have hGn := grownCap_ge w (n + 1) c 76
 have hG63 := grownCap_le_maxLen w (n + 1) c 76 (by unfold maxLen; omega)
 obtain ⟨G, hG⟩ : ∃ G, G = grownCap w (n + 1) c 76 := ⟨_, rfl⟩
 rw [← hG] at hrz hGn hG63
 obtain ⟨ROW, hROW⟩ : ∃ ROW : Array Value, ROW = (inner.take (i * 2)).toArray ++ Builtin.zeroCells (Value.agg #[.string ⟨#[]⟩, .string ⟨#[]⟩]).cells k ++ Builtin.zeroCells (Value.agg #[.string ⟨#[]⟩, .string ⟨#[]⟩]).cells (G - (n + 1)) := ⟨_, rfl⟩
 have hz2 : (Value.agg #[.string ⟨#[]⟩, .string ⟨#[]⟩]).cells.size = 2 := rfl
 have hrs : ROW.size = G * 2 := by
  rw [hROW]
  simp only [Array.size_append, List.size_toArray, List.length_take, size_zeroCells, hz2, hil]
  omega
 have hrt : ROW.toList.take (i * 2) = inner.take (i * 2) := by
  rw [hROW]
  simp only [Array.toList_append, List.append_assoc]
  rw [List.take_left' (by simp only [List.length_take, hil]; omega)]
 obtain ⟨W1, hW1⟩ : ∃ W1, W1 = w.drew.alloc (.cells ROW 76) := ⟨_, rfl⟩
 have hrz2 : ∀ ty, (Builtin.append_ #[26, 3] ty #[.slice (some ⟨g, 0, none⟩) i c, .int .i64 ((n : Int) + 1 - (i : Int))]).run Try.prog w = .ok (.slice (some ⟨w.heap.size, 0, none⟩) (n + 1) G) W1 := fun ty => by
  rw [hW1, hROW, show (n : Int) + 1 - (i : Int) = (k : Int) by omega]
  exact hrz ty
 have hN : W1.heap[w.heap.size]? = some (.cells ROW 76 (0, 0)) := by rw [hW1]; exact heap_alloc_new w.drew _
 have hb1 : Below w.heap.size w W1 := by rw [hW1]; exact qac (qb9 (Below.refl _ w)) _
 obtain ⟨W2, cur1, hr1, hh1, hs1, hl1, hg1⟩ := qdi (P := Try.prog) W1 26 26 76 76 2 w.heap.size (i * 2) (n + 1 - i) ⟨g2, 0, none⟩ 1 inner2 ROW Try.underlying26 hinf (by rw [hil2]; simp only [Nat.min_def]; split <;> omega) hN (by omega)
  (fun j v hj => by
   have hj2 : j < inner2.length := (List.getElem?_eq_some_iff.1 hj).1
   rw [add_plain]
   refine qb2 hb1 ((qad hh2 _).trans ?_)
   rw [← htake2, List.getElem?_take, if_pos (by omega), Array.getElem?_toList] at hj
   exact hj) h12
 have hgW : ∀ j, j < w.heap.size → W2.heap[j]? = w.heap[j]? := fun j hj => (hg1.block j (by have := hb1.size; omega) (fun e => by injection e with e; omega)).trans (hb1.block j hj)
 have hhg : W2.heap[g]? = some (.cells cur 76 (0, 0)) := (hgW g hgl).trans hh
 obtain ⟨W3, cur3, hr3, hh3, hs3, hl3, hg3⟩ := qdi (P := Try.prog) W2.drew 26 26 76 76 2 w.heap.size ((i + 1) * 2) (n - i) ⟨g, i * 2, none⟩ (n - i) (inner.drop (i * 2)) cur1 Try.underlying26 hinf (by rw [List.length_drop, hil]; simp only [Nat.min_def]; split <;> omega) hh1 (by rw [List.length_drop]; omega)
  (fun j v hj => by
   have hj2 : j < inner.length - i * 2 := by have := (List.getElem?_eq_some_iff.1 hj).1; rwa [List.length_drop] at this
   rw [qhl]
   refine (qad (w := W2.drew) hhg _).trans ?_
   rw [List.getElem?_drop, ← htake, List.getElem?_take, if_pos (by omega), Array.getElem?_toList] at hj
   exact hj) (fun v hv => h1 v (List.mem_of_mem_drop hv))
 have hlist := qhQ ROW.toList inner inner2 (i * 2) (n * 2) 2 hrt (by rw [Array.length_toList]; omega) hil2 (by omega) hil cur1.toList cur3.toList hl1 (by rw [hl3, show i * 2 + 2 = (i + 1) * 2 by omega])
 have hbe : Below w.heap.size w W3 := (qb9 (hb1.grown hg1 hb1.size (fun k hk => by injection hk with hk; omega))).grown hg3 (Nat.le_trans hb1.size hg1.size) (fun k hk => by injection hk with hk; omega)
 have hR : Kd.R k76 76 W3 w0.heap.size (fun k_ => ((P0_ k_ ∨ P2_ k_) ∨ w.heap.size ≤ k_)) (.slice (some ⟨w.heap.size, 0, none⟩) (n + 1) G) (l0.take i ++ l2 ++ l0.drop i) := by
  refine qfj (cur := cur3) (inner := inner.take (i * 2) ++ inner2 ++ inner.drop (i * 2)) (by simp only [List.length_append, List.length_take, List.length_drop, h2]; omega) hB.size hh3 hGn hG63 (by show cur3.size = G * 2; omega) (by show cur3.toList.take ((n + 1) * 2) = _; rw [Nat.add_mul]; exact hlist) ?_ (.inr (Nat.le_refl _))
  have ha : Reps (k76.M W3 w0.heap.size fun k => ((P0_ k ∨ P2_ k) ∨ w.heap.size ≤ k) ∧ k ≠ w.heap.size) k76.sz l0 inner := hreps.imp_ fun x cs hm => by rw [qcn hm]; exact qcG _ _ _ x
  have hb : Reps (k76.M W3 w0.heap.size fun k => ((P0_ k ∨ P2_ k) ∨ w.heap.size ≤ k) ∧ k ≠ w.heap.size) k76.sz l2 inner2 := hreps2.imp_ fun x cs hm => by rw [qcn hm]; exact qcG _ _ _ x
  exact Kd.qcE (Kd.qcE (Kd.qen ha (by omega)) hb) (Kd.qeo ha)
 have HR := Aside0.mk hR
 have HE := Aside0.mk hbe
 have HBB := Aside0.mk hB
 have HR1 := Aside0.mk hr1
 have HR3 := Aside0.mk hr3
 have HRZ := Aside0.mk hrz2
 have hw1 : IntKind.i64.wrap ((i : Int) + 1) = (i : Int) + 1 := by rw [IntKind.wrap_i64]; omega
 have hw2 : IntKind.i64.wrap ((n : Int) + 1 - (i : Int)) = (n : Int) + 1 - (i : Int) := by rw [IntKind.wrap_i64]; omega
 have hz1 : ((i : Int) == (n : Int)) = false := beq_eq_false_iff_ne.2 (by omega)
 have hcm3 : c ≤ 9223372036854775807 := by unfold maxLen at hcm; omega
 have hG64 : G ≤ 9223372036854775807 := by unfold maxLen at hG63; omega
 have q0 : (c : Int) < (n : Int) + 1 := by omega
 have q1 : (0 : Int) ≤ (i : Int) + 1 := by omega
 have q2 : ((i : Int) + 1).toNat = i + 1 := by omega
 have q4 : ¬ (G = i + 1) := by omega
 have q5 : ¬ (G = i) := by omega
 have q6 : i ≤ n := by omega
 have q7 : (i : Int) ≤ (n : Int) := by omega
 have q8 : ¬ (c = i) := by omega
 have q9 : (i : Int) ≤ (n : Int) + 1 := by omega
 have q10 : (i : Int) + 1 ≤ (n : Int) + 1 := by omega
 have q11 : i ≤ n + 1 := by omega
 have q12 : i + 1 ≤ n + 1 := by omega
 have q13 : i ≤ c := by omega
 clear hrz hr1 hr3 hrz2 ho0 ho2 hB hreps hreps2 hh hh2 hh1 hh3 hlist hl1 hl3 hbe hR hg1 hg3 htake htake2 h1 h12 hil hil2 hs1 hs3 hcs hcs2 hcm hinf hn hGn hG hG63 hROW hrs hrt hW1 hN hb1 hgW hhg hik hk hold hcell hi0 hz0 hzs hzb hz2
 rw [h2]
 go_enter Try.func112, Try.ntmps112
 go_wp2_with (first
  | (at_builtin; refine Lib.wpList_append_run _ rfl _ _ _ _ rfl _ _ rfl rfl _ _ (HRZ.out _) ?_)
  | (with_reducible refine wpList_copy_run _ rfl (.tmp 43) (.tmp 44) 26 26 rfl (.slice (some ⟨w.heap.size, i * 2, none⟩) (n + 1 - i) (G - i)) (.slice (some ⟨g2, 0, none⟩) 1 c2) rfl rfl (HR1.out 3 (G - i) c2) ?_))
 go_region_law (refine qd4 rfl (.tmp 50) (.tmp 53) 26 26 rfl (.slice (some ⟨w.heap.size, (i + 1) * 2, none⟩) (n - i) (G - (i + 1))) (.slice (some ⟨g, i * 2, none⟩) (n - i) (c - i)) (by simp [Act.eval, Act.put]) (by simp [Act.eval, Act.put]) (HR3.out 3 (G - (i + 1)) (c - i)) ?_)
 go_wp2_with fail
 go_ret
 exact ⟨_, rfl, HR.out, qag HBB.out HE.out, Kept.of_below HE.out _⟩
theorem qbX.calls (P0_ : Nat → Prop) (u9000_ : Value) (l0 : List (S76)) (a1 : Int) (P2_ : Nat → Prop) (u9001_ : Value) (l2 : List (S76)) (r : List (S76)) (w0 w : World) (hB : Below w0.heap.size w0 w) (ho0 : Kd.R k76 76 w w0.heap.size P0_ u9000_ l0) (hp0_2 : ∀ k_, P0_ k_ → ¬ P2_ k_) (ho2 : Kd.R k76 76 w w0.heap.size P2_ u9001_ l2) (hp2_0 : ∀ k_, P2_ k_ → ¬ P0_ k_) (h : qbX.f l0 a1 l2 = some r) :
  Calls Try.prog 112 #[u9000_, .int .i64 a1, u9001_] w fun e w' => ∃ v0_ : Value, e = .returned (v0_) ∧ Kd.R k76 76 w' w0.heap.size (fun k_ => ((P0_ k_ ∨ P2_ k_) ∨ w.heap.size ≤ k_)) v0_ r ∧ Below w0.heap.size w0 w' ∧ Kept w w' (fun k_ => P0_ k_ ∨ P2_ k_) := by
 unfold qbX.f at h
 by_cases hs : 0 ≤ a1 ∧ a1 ≤ (l0.length : Int) ∧ l2.length = 1 ∧ l0.length ≤ 1000000
 ·rw [if_pos hs] at h
  obtain rfl := Option.some.inj h
  obtain ⟨h0, h1, h2, h3⟩ := hs
  obtain ⟨i, rfl⟩ : ∃ i : Nat, a1 = (i : Int) := ⟨a1.toNat, by omega⟩
  rw [Int.toNat_natCast]
  by_cases he : i = l0.length
  ·subst he
   rw [List.take_length, List.drop_length, List.append_nil]
   exact qgx P0_ u9000_ l0 P2_ u9001_ l2 w0 w hB ho0 hp0_2 ho2 h2 h3
  ·obtain ⟨g, c, rfl, _⟩ := Kd.qdu ho0 (by omega)
   by_cases hr : l0.length + 1 ≤ c
   ·exact qf2 P0_ g l0.length c i l0 P2_ u9001_ l2 w0 w hB ho0 hp0_2 ho2 h2 (by omega) hr
   ·exact qf3 P0_ g l0.length c i l0 P2_ u9001_ l2 w0 w hB ho0 hp0_2 ho2 h2 (by omega) (by omega) h3
 ·rw [if_neg hs] at h
  cases h
end Go.Proofs.Ytgcncphdjabjjaa.X
