import Derived.Test.YtlkdcicpaneakaaKFnExactReplayAll2
import Derived.Test.YtlkdcicpaneakaaKFnExactReplayAll6
import Derived.LoopTactic
import Derived.BigQuiet
import Derived.Lib.SliceRun
import Derived.Laws.IdiomCopy
import Derived.Deep.RegionLaw
import Derived.Lib.Overlaps
import Derived.Laws.Externs
import Derived.Lib.AppendZerosOnto
import Derived.Laws.NewBlocks
namespace Go.Proofs.Ytlkdcicpaneakaa.X
open Go.RowKit Go.Proofs.YtlkdcicpaneakaaW.PrintWords Go.Proofs.YtlkdcicpaneakaaW.PrintLast Go.Proofs.YtlkdcicpaneakaaW.PrintMore
attribute [local go_sem] qaA qaB qaC qaw qax qaH qaI qap qaq qay qaz
set_option linter.unusedVariables false
set_option linter.unusedSimpArgs false
open Go.Lib in
theorem run_clear_cells {P : Program} (w : World) (t e ty : TypeId) (z : Value) (ht : P.underlying t = some (.slice e)) (hv : ∀ w, (zeroValue e).run P w = .ok z w) (b o n c : Nat) (zs : List Value) (hzs : (Builtin.zeroCells z.cells n).toList = zs) (h1 : ∀ v ∈ zs, v.oneCell' = true) (hn : 0 < n)
  (hc : ∀ j, j < zs.length → (w.cell? ⟨b, o + j, none⟩).isSome = true) (hf : ∀ j, j < zs.length → w.frozen? ⟨b, o + j, none⟩ = false) :
  (Builtin.clear_ #[t] ty #[.slice (some ⟨b, o, none⟩) n c]).run P w = .ok (.tuple #[]) (w.setCells b o zs) := by
 have hst := run_storeCells_cells (P := P) b o zs 0 w (by simpa using hc) (by simpa using hf) h1
 simp only [Nat.add_zero] at hst
 obtain ⟨m, rfl⟩ : ∃ m, n = m + 1 := ⟨n - 1, by omega⟩
 simp [Builtin.clear_, run_underlying ht, hv, hzs, hst]
theorem qf5 {z : Value} {n : Nat} (h : ∀ v ∈ z.cells, v.oneCell' = true) : ∀ v ∈ (Builtin.zeroCells z.cells n).toList, v.oneCell' = true := by
 intro v hv
 unfold Builtin.zeroCells at hv
 rw [Array.toList_map, List.mem_map] at hv
 obtain ⟨j, hj, rfl⟩ := hv
 have hj2 : j < n * z.cells.size := by simpa using hj
 have hp : 0 < z.cells.size := by
  rcases Nat.eq_zero_or_pos z.cells.size with h0 | h0
  ·rw [h0] at hj2; omega
  ·exact h0
 have hlt : j % z.cells.size < z.cells.size := Nat.mod_lt _ hp
 rw [getElem!_pos z.cells _ hlt]
 exact h _ (Array.getElem_mem hlt)
theorem qha {α : Type} {d : Kd α} {e : Nat} {w : World} {base : Nat} {ok : Nat → Prop} {g n c : Nat} {xs : List α} (h : d.R e w base ok (.slice (some ⟨g, 0, none⟩) n c) xs) :
  ∃ cur inner, n = xs.length ∧ base ≤ g ∧ w.heap[g]? = some (.cells cur e (0, 0)) ∧ n ≤ c ∧ c ≤ maxLen ∧ cur.size = c * d.sz ∧ cur.toList.take (n * d.sz) = inner ∧ Reps (d.M w base (fun k => ok k ∧ k ≠ g)) d.sz xs inner ∧ ok g := by
 obtain ⟨hn, _, _⟩ := Kd.qaO h
 obtain ⟨hok, inner, hown, hr⟩ := h
 rcases hown.2 with ⟨hv, _⟩ | ⟨g', cap', cur, hv, hb, hh, hnc, hcm, hcs, htake⟩
 ·cases hv
 injection hv with ha hn2 hc
 injection ha with ha
 injection ha with hg
 subst hg; subst hc
 exact ⟨cur, inner, hn, hb, hh, by omega, hcm, hcs, by rw [hn]; exact htake, hr.imp_ (fun _ _ hm => d.M_mono (fun k hk => ⟨hk.1, fun he => hk.2 (by rw [he]; rfl)⟩) hm), hok g rfl⟩
theorem qf6 {α : Type} {d : Kd α} {e : Nat} {w : World} {base : Nat} {ok : Nat → Prop} {g n c : Nat} {xs : List α} {cur : Array Value} {inner : List Value} (hn : n = xs.length) (hb : base ≤ g) (hh : w.heap[g]? = some (.cells cur e (0, 0))) (hnc : n ≤ c) (hcm : c ≤ maxLen) (hcs : cur.size = c * d.sz) (ht : cur.toList.take (n * d.sz) = inner)
  (hr : Reps (d.M w base (fun k => ok k ∧ k ≠ g)) d.sz xs inner) (hok : ok g) : d.R e w base ok (.slice (some ⟨g, 0, none⟩) n c) xs := by
 subst hn
 refine ⟨fun k hk => ?_, inner, ⟨hr.1, .inr ⟨g, c, cur, rfl, hb, hh, hnc, hcm, hcs, ht⟩⟩, hr.imp_ (fun _ _ hm => d.M_mono (fun k hk => ⟨hk.1, fun he => hk.2 ?_⟩) hm)⟩
 ·have : g = k := by simpa [Value.ownBlock] using hk
  exact this ▸ hok
 ·simpa [Value.ownBlock] using he
theorem qea (w : World) (g o : Nat) (vs : List Value) : w.grownBy (w.setCells g o vs) (some g) := by
 obtain ⟨h1, h2, h3, h4⟩ := qdf g vs o w
 exact ⟨h1, h2, h3, by omega, fun k _ hk => qc9 vs o k (fun he => hk (by rw [he]))⟩
theorem R_tail {α : Type} {d : Kd α} {e : Nat} {w : World} {base : Nat} {ok : Nat → Prop} {g n c : Nat} {xs : List α} (h : d.R e w base ok (.slice (some ⟨g, 0, none⟩) n c) xs) (o : Nat) (vs : List Value) (ho : n * d.sz ≤ o) (hl : o + vs.length ≤ c * d.sz) : d.R e (w.setCells g o vs) base ok (.slice (some ⟨g, 0, none⟩) n c) xs := by
 obtain ⟨cur, inner, hn, hb, hh, hnc, hcm, hcs, ht, hr, hok⟩ := qha h
 obtain ⟨cur', h1, h2, h3⟩ := qda vs o w cur hh (by omega)
 refine qf6 hn hb h1 hnc hcm (by rw [h2]; exact hcs) (inner := inner) ?_ (hr.imp_ (fun _ _ hm => d.M_move (fun k hk => qc9 vs o k hk.2) hm)) hok
 rw [h3, List.append_assoc, List.take_append_of_le_length (by rw [List.length_take, Array.length_toList]; omega), List.take_take, Nat.min_eq_left ho, ht]
theorem qiP {α : Type} {d : Kd α} {e : Nat} {w : World} {base : Nat} {ok : Nat → Prop} {g n c : Nat} {xs : List α} (h : d.R e w base ok (.slice (some ⟨g, 0, none⟩) n c) xs) (j : Nat) : (j < c * d.sz → (w.cell? ⟨g, j, none⟩).isSome = true) ∧ w.frozen? ⟨g, j, none⟩ = false := by
 obtain ⟨cur, inner, hn, hb, hh, hnc, hcm, hcs, ht, hr, hok⟩ := qha h
 refine ⟨fun hj => ?_, qae hh j⟩
 rw [qad hh j, Array.getElem?_eq_getElem (by omega)]
 rfl
theorem R_clear {P : Program} {α : Type} {d : Kd α} {e : Nat} {w : World} {base : Nat} {ok : Nat → Prop} {g n c : Nat} {xs : List α} (h : d.R e w base ok (.slice (some ⟨g, 0, none⟩) n c) xs) (t ty : TypeId) (z : Value) (ht : P.underlying t = some (.slice e)) (hv : ∀ w, (zeroValue e).run P w = .ok z w) (hz : z.cells.size = d.sz) (h1 : ∀ v ∈ z.cells, v.oneCell' = true) (m c2 : Nat) (hm : 0 < m) (hmc : n + m ≤ c) :
  ∃ w1, (Builtin.clear_ #[t] ty #[.slice (some ⟨g, n * d.sz, none⟩) m c2]).run P w = .ok (.tuple #[]) w1 ∧ d.R e w1 base ok (.slice (some ⟨g, 0, none⟩) n c) xs ∧ w.grownBy w1 (some g) := by
 have hl : (Builtin.zeroCells z.cells m).toList.length = m * d.sz := by rw [Array.length_toList, size_zeroCells, hz]
 have hle : (n + m) * d.sz ≤ c * d.sz := Nat.mul_le_mul_right _ hmc
 rw [Nat.add_mul] at hle
 refine ⟨_, run_clear_cells w t e ty z ht hv g (n * d.sz) m c2 _ rfl (qf5 h1) hm (fun j hj => (qiP h _).1 (by omega)) (fun j hj => (qiP h _).2), R_tail h _ _ (Nat.le_refl _) (by omega), qea _ _ _ _⟩
theorem R_cap {α : Type} {d : Kd α} {e : Nat} {w : World} {base : Nat} {ok : Nat → Prop} {g n c : Nat} {xs : List α} (h : d.R e w base ok (.slice (some ⟨g, 0, none⟩) n c) xs) : n = xs.length ∧ base ≤ g ∧ g < w.heap.size ∧ n ≤ c ∧ c ≤ 9223372036854775807 ∧ ok g := by
 obtain ⟨cur, inner, hn, hb, hh, hnc, hcm, _, _, _, hok⟩ := qha h
 unfold maxLen at hcm
 exact ⟨hn, hb, qbm hh, hnc, by omega, hok⟩
theorem qf7 {P : Program} (w : World) (dT sT ty elem : TypeId) (size : Nat) (b o dLen dCap : Nat) (a : Addr) (sLen sCap : Nat) (cs : List Value)
  (hu : P.underlying dT = some (.slice elem)) (hs : (P.info? elem).map (·.size) = some size) (hn : cs.length = Nat.min sLen dLen * size)
  (hsrc : ∀ j v, cs[j]? = some v → w.cell? (a.add j) = some v) (hc : ∀ j, j < cs.length → (w.cell? ⟨b, o + j, none⟩).isSome = true) (hf : ∀ j, j < cs.length → w.frozen? ⟨b, o + j, none⟩ = false) (h1 : ∀ v ∈ cs, v.oneCell' = true) :
  (Builtin.copy_ #[dT, sT] ty #[.slice (some ⟨b, o, none⟩) dLen dCap, .slice (some a) sLen sCap]).run P w = .ok (goInt (Nat.min sLen dLen)) (w.setCells b o cs) := by
 have hl := run_loadCells_list (P := P) w a cs hsrc
 have hst := run_storeCells_cells (P := P) b o cs 0 w (by simpa using hc) (by simpa using hf) h1
 cases hq : P.info? elem with
 | none => simp [hq] at hs
 | some i =>
  have hi : i.size = size := by simpa [hq] using hs
  simp [Builtin.copy_, run_underlying hu, Builtin.lenOf, Builtin.firstCells, sizeOf, typeInfo, hq, hi, ← hn, hl, hst]
theorem qdu {P : Program} (w : World) (dT sT elem e : TypeId) (size : Nat) (g o dLen : Nat) (a : Addr) (sLen : Nat) (cs : List Value) (cur : Array Value)
  (hu : P.underlying dT = some (.slice elem)) (hs : (P.info? elem).map (·.size) = some size) (hn : cs.length = Nat.min sLen dLen * size) (hh : w.heap[g]? = some (.cells cur e (0, 0))) (hl : o + cs.length ≤ cur.size)
  (hsrc : ∀ j v, cs[j]? = some v → w.cell? (a.add j) = some v) (h1 : ∀ v ∈ cs, v.oneCell' = true) :
  ∃ w1 cur1, (∀ ty dCap sCap, (Builtin.copy_ #[dT, sT] ty #[.slice (some ⟨g, o, none⟩) dLen dCap, .slice (some a) sLen sCap]).run P w = .ok (goInt (Nat.min sLen dLen)) w1) ∧ w1.heap[g]? = some (.cells cur1 e (0, 0)) ∧ cur1.size = cur.size ∧ cur1.toList = cur.toList.take o ++ cs ++ cur.toList.drop (o + cs.length) ∧ w.grownBy w1 (some g) := by
 obtain ⟨cur1, h2, h3, h4⟩ := qda cs o w cur hh hl
 refine ⟨w.setCells g o cs, cur1, fun ty dCap sCap => qf7 w dT sT ty elem size g o dLen dCap a sLen sCap cs hu hs hn hsrc (fun j hj => ?_) (fun j hj => qae hh _) h1, h2, h3, h4, qea _ _ _ _⟩
 rw [qad hh, Array.getElem?_eq_getElem (by omega)]
 rfl
theorem wp_copy_run {P : Program} (w : World) {o : Oper} {a : Act} {K : Act → World → Prop} {Q : Exit → Act → World → Prop} (d s : Operand) (t t' : TypeId)
  (ho : o.op = .call { callee := .builtin .copy, args := #[d, s], argTypes := #[t, t'] }) (v u : Value) (hd : a.eval d = v) (hs : a.eval s = u) {v' : Value} {w' : World}
  (hr : (Builtin.copy_ #[t, t'] o.type #[v, u]).run P w = .ok v' w') (h : K (a.put o.dst v') w') : o.wp P a w K Q := by
 unfold Oper.wp execOp
 simp only [ho, resolve, invoke, builtin, Sem.run_bind, Sem.run_pure, Result.andThen_ok, List.map_toArray, List.map_cons, List.map_nil, hd, hs, hr]
 exact h
theorem wpList_copy_run {P : Program} (w : World) {ops : Array Oper} {rest : List Oper} {o : Oper} {a : Act} {Q : Exit → Act → World → Prop} (hgd : o.guard = none) (d s : Operand) (t t' : TypeId)
  (ho : o.op = .call { callee := .builtin .copy, args := #[d, s], argTypes := #[t, t'] }) (v u : Value) (hd : a.eval d = v) (hs : a.eval s = u) {v' : Value} {w' : World}
  (hr : (Builtin.copy_ #[t, t'] o.type #[v, u]).run P w = .ok v' w') (h : wpList P ops Q rest (a.put o.dst v') w') : wpList P ops Q (o :: rest) a w :=
 wpList_plain hgd fun _ hK => wp_copy_run w d s t t' ho v u hd hs hr (hK _ _ h)
theorem qev {P : Program} {ops : Array Oper} {o : Oper} {a : Act} {w : World} {K : Act → World → Prop} {Q : Exit → Act → World → Prop} {E : Prop}
  (hg : o.guard = none) (d x : Operand) (dT sT : TypeId) (hop : o.op = Op.call { callee := Callee.builtin Builtin.copy, args := #[d, x], argTypes := #[dT, sT] })
  (v u : Value) (hd : a.eval d = v) (hx : a.eval x = u) {v' : Value} {w' : World} (hr : (Builtin.copy_ #[dT, sT] o.type #[v, u]).run P w = .ok v' w') (hK : K (a.put o.dst v') w') :
  if Region.wanted o (yielded ops a.tmps) = true then Oper.wp P o a w K Q else E := by
 have hw : Region.wanted o (yielded ops a.tmps) = true := by simp [Region.wanted, hg]
 rw [if_pos hw]
 unfold Oper.wp
 simp [execOp, hop, resolve, invoke, builtin, hd, hx, hr, Result.andThen]
 exact hK
theorem qeq {α : Type} {d : Kd α} {w : World} {base : Nat} {ok : Nat → Prop} {xs : List α} {cs : List Value} (hs : 0 < d.sz) (h : Reps (d.M w base ok) d.sz xs cs) : ∀ v ∈ cs, v.oneCell' = true := by
 intro u hu
 obtain ⟨q, hq, rfl⟩ := List.mem_iff_getElem.1 hu
 have hql : q / d.sz < xs.length := by
  rw [Nat.div_lt_iff_lt_mul hs, ← h.1]
  exact hq
 have hc := h.2 (q / d.sz) _ (List.getElem?_eq_getElem hql)
 refine d.K_one (d.K_of_M hc) _ ?_
 rw [List.mem_iff_getElem?]
 refine ⟨q % d.sz, ?_⟩
 rw [List.getElem?_take, if_pos (Nat.mod_lt _ hs), List.getElem?_drop, Nat.mul_comm, Nat.div_add_mod, List.getElem?_eq_getElem hq]
theorem R_cases {α : Type} {d : Kd α} {e : Nat} {w : World} {base : Nat} {ok : Nat → Prop} {v : Value} {xs : List α} (h : d.R e w base ok v xs) : (v = .slice none 0 0 ∧ xs = []) ∨ ∃ g c, v = .slice (some ⟨g, 0, none⟩) xs.length c := by
 obtain ⟨_, inner, hown, _⟩ := h
 rcases hown.2 with ⟨hv, hn⟩ | ⟨g', cap', cur, hv, _⟩
 ·exact .inl ⟨hv, List.eq_nil_of_length_eq_zero hn⟩
 ·exact .inr ⟨g', cap', hv⟩
theorem ins_list {β : Type} (cur inner vs : List β) (a N s : Nat) (hcur : cur.take N = inner) (hlen : N + s ≤ cur.length) (hv : vs.length = s) (ha : a ≤ N) (cur1 cur2 : List β) (h1 : cur1 = cur.take (a + s) ++ inner.drop a ++ cur.drop (a + s + (inner.drop a).length)) (h2 : cur2 = cur1.take a ++ vs ++ cur1.drop (a + vs.length)) :
  cur2.take (N + s) = inner.take a ++ vs ++ inner.drop a := by
 have hil : inner.length = N := by rw [← hcur, List.length_take]; omega
 have e1 : cur1.take a = inner.take a := by
  rw [h1, List.append_assoc, List.take_append_of_le_length (by rw [List.length_take]; omega), List.take_take, ← hcur, List.take_take]
  congr 1
  omega
 have e2 : cur1.drop (a + vs.length) = inner.drop a ++ cur.drop (a + s + (inner.drop a).length) := by
  rw [h1, hv, List.append_assoc]
  rw [List.drop_left' (by rw [List.length_take]; omega)]
 rw [h2, e1, e2, ← List.append_assoc]
 rw [List.take_left' (by simp only [List.length_append, List.length_take, List.length_drop]; omega)]
theorem qiQ {β : Type} (row inner vs : List β) (a N s : Nat) (hrow : row.take a = inner.take a) (hlen : N + s ≤ row.length) (hv : vs.length = s) (ha : a ≤ N) (hil : inner.length = N) (cur1 cur2 : List β) (h1 : cur1 = row.take a ++ vs ++ row.drop (a + vs.length)) (h2 : cur2 = cur1.take (a + s) ++ inner.drop a ++ cur1.drop (a + s + (inner.drop a).length)) :
  cur2.take (N + s) = inner.take a ++ vs ++ inner.drop a := by
 have e1 : cur1.take (a + s) = inner.take a ++ vs := by
  rw [h1, List.take_left' (by simp only [List.length_append, List.length_take]; omega), hrow]
 rw [h2, e1]
 rw [List.take_left' (by simp only [List.length_append, List.length_take, List.length_drop]; omega)]
end Go.Proofs.Ytlkdcicpaneakaa.X
namespace Go.Proofs.Ytlkdcicpaneakaa.X
open Go.RowKit Go.Proofs.YtlkdcicpaneakaaW.PrintWords Go.Proofs.YtlkdcicpaneakaaW.PrintLast Go.Proofs.YtlkdcicpaneakaaW.PrintMore
attribute [local go_sem] qaA qaB qaC qaw qax qaH qaI qap qaq qay qaz
set_option linter.unusedVariables false
set_option linter.unusedSimpArgs false
def qck.f (l0 : List S48) (a1 : Int) (a2 : Int) : Option (List S48) := if 0 ≤ a1 ∧ a1 < (l0.length : Int) ∧ a2 = a1 + 1 then some (l0.eraseIdx a1.toNat) else none
set_option maxHeartbeats 4000000 in
set_option maxRecDepth 100000 in
theorem qck.calls (P0_ : Nat → Prop) (u9000_ : Value) (l0 : List (S48)) (a1 : Int) (a2 : Int) (r : List (S48)) (w0 w : World) (hB : Below w0.heap.size w0 w) (ho0 : Kd.R k48 48 w w0.heap.size P0_ u9000_ l0) (h : qck.f l0 a1 a2 = some r) :
    Calls Try.prog 81 #[u9000_, .int .i64 a1, .int .i64 a2] w fun e w' => ∃ v0_ : Value, e = .returned (v0_) ∧ Kd.R k48 48 w' w0.heap.size (fun k_ => (P0_ k_ ∨ w.heap.size ≤ k_)) v0_ r ∧ Below w0.heap.size w0 w' ∧ Kept w w' (fun k_ => P0_ k_) := by
  unfold qck.f at h
  by_cases hs : 0 ≤ a1 ∧ a1 < (l0.length : Int) ∧ a2 = a1 + 1
  · rw [if_pos hs] at h
    obtain rfl := Option.some.inj h
    obtain ⟨h0, h1, rfl⟩ := hs
    clear h
    obtain ⟨k, rfl⟩ : ∃ k : Nat, a1 = (k : Int) := ⟨a1.toNat, by omega⟩
    rw [Int.toNat_natCast]
    obtain ⟨g, cap, rfl, hbg, hgl, cells, hcells⟩ := Kd.qdM ho0 (by omega)
    clear hcells cells hbg hgl
    obtain ⟨_, hbg, hgl, hnc, hcm, hok⟩ := R_cap ho0
    have HO := Aside0.mk ho0
    have HBB := Aside0.mk hB
    clear ho0 hB
    obtain ⟨m, hm⟩ : ∃ m, l0.length = m + 1 := ⟨l0.length - 1, by omega⟩
    rw [hm] at HO h1 hnc ⊢
    clear hm
    have p1 : (k : Int) ≤ (k : Int) + 1 := by omega
    have p2 : (k : Int) + 1 ≤ (m : Int) + 1 := by omega
    have p3 : (m : Int) + 1 ≤ (cap : Int) := by omega
    have p5 : ((m : Int) + 1).toNat = m + 1 := by omega
    have p6 : ¬ (cap = m) := by omega
    have p7 : m ≤ cap := by omega
    have p8 : (m : Int) ≤ (m : Int) + 1 := by omega
    have p9 : 0 ≤ (m : Int) + 1 := by omega
    have p10 : m + 1 - m = 1 := by omega
    have p4 : ((k : Int) == (k : Int) + 1) = false := by rw [beq_eq_false_iff_ne]; omega
    go_enter Try.func81, Try.ntmps81
    go_wp2_with fail
    have n1 : k ≤ cap := by omega
    have n2 : k + 1 ≤ cap := by omega
    have n3 : (k : Int) + 1 ≤ (cap : Int) := by omega
    have n4 : 0 ≤ (k : Int) + 1 := by omega
    have hA : (if cap = k + 1 then some (⟨g, 0, none⟩ : Addr) else some ⟨g, (k + 1) * 2, none⟩) = if cap = k + 1 then some ⟨g, 0, none⟩ else (some (⟨g, 0, none⟩ : Addr)).map (·.add ((k + 1) * k48.sz)) := by
      rw [Option.map_some, add_plain]
      rfl
    have HA := Aside0.mk hA
    have HI := Aside0.mk (show (Try.prog.info? 48).map (·.size) = some k48.sz from by kernel_rfl)
    clear hA
    go_region_law (refine Kd.qfU k48 (w0 := w0) w0.heap.size (by rfl) (.tmp 22) (.tmp 25) 24 48 (by rfl) Try.underlying24 HI.out (g := g) (n := m + 1) (c := cap) (k := k) (m := m - k) (by rfl) (by rfl) HA.out (by omega) (Kd.qaD HO.out) (by omega) (qcf HBB.out) HBB.out.size ?_; intro w1 ho1 hb1 hg1)
    rw [Nat.add_sub_cancel] at *
    obtain ⟨w2, hr2, ho2, hg2⟩ := R_clear (P := Try.prog) ho1 24 0 (.agg #[.string ⟨#[]⟩, .string ⟨#[]⟩]) Try.underlying24 Try.zeroValue48 rfl (by decide) 1 (cap - m) (by omega) (by omega)
    have hr3 : ∀ ty, (Builtin.clear_ #[24] ty #[.slice (some ⟨g, m * 2, none⟩) 1 (cap - m)]).run Try.prog w1 = .ok (.tuple #[]) w2 := fun ty => hr2
    clear hr2
    have HO2 := Aside0.mk ho2
    have HG2 := Aside0.mk hg2
    have HG1 := Aside0.mk hg1
    clear ho1 ho2 hg2 hg1
    go_wp2_with fail
    all_goals
      go_ret
      try (have hck : cap = k + 1 := by assumption
           subst hck)
      exact ⟨_, rfl, Kd.qbr HO2.out (fun _ hk => .inl hk), hb1.grown HG2.out hb1.size (fun k hk => by injection hk with hk; subst hk; exact hbg), Kept.qcI HG2.out (Kept.qcI HG1.out (Kept.refl w _) (fun k hk => by injection hk with hk; subst hk; exact .inl hok)) (fun k hk => by injection hk with hk; subst hk; exact .inl hok)⟩
  · rw [if_neg hs] at h
    cases h
def qbj.l0 : Nat → List (S48) → ByteArray → List (S48) → Int → Option ((List (S48)))
 | 0, _, _, _, _ => none
 | k + 1, x0, x1, x5, x6 => if x6 < (x0.length : Int) then (if 0 ≤ x6 then (if ((qaK x0 x6).f0).toList = x1.toList then (qbj.l0 k x0 x1 x5 (wrap64 (x6 + 1))) else (if x5.length < 4398046511104 then (qbj.l0 k x0 x1 (x5 ++ [(⟨(qaK x0 x6).f0, (qaK x0 x6).f1⟩ : S48)]) (wrap64 (x6 + 1))) else (none))) else (none)) else (some x5)
def qbj.f (k : Nat) (l0 : List (S48)) (a1 : ByteArray) : Option ((List (S48))) := qbj.l0 k l0 a1 (([] : List (S48))) 0
theorem qbj.qbA : ∀ k, (∀ y0 y1 y2 y3, LeO (qbj.l0 k y0 y1 y2 y3) (qbj.l0 (k + 1) y0 y1 y2 y3))
 | 0 => fun _ _ _ _ r h => by simp [qbj.l0] at h
 | k + 1 => by
  have ih0 := qbj.qbA k
  ·intro y0 y1 y2 y3
   unfold qbj.l0
   repeat' first
   | (with_reducible exact ih0 _ _ _ _)
   | (with_reducible exact LeO.refl _)
   | (with_reducible exact LeO.none _)
   | (with_reducible refine LeO.ite ?_ ?_)
   | (with_reducible refine LeO.bind ?_ (fun _ => ?_))
   | exact ih0 _ _ _ _
   | exact LeO.none _
   | refine LeO.ite ?_ ?_
   | refine LeO.bind ?_ (fun _ => ?_)
set_option maxHeartbeats 8000000 in
set_option maxRecDepth 100000 in
theorem qbj.calls (k : Nat) (A0 : Option Addr) (c0 : Nat) (l0 : List (S48)) (a1 : ByteArray) (r : List (S48)) (w : World) (hr0 : Kd.C k48 w A0 l0.length l0) (hc0 : l0.length ≤ c0) (h : qbj.f k l0 a1 = some r) :
  Calls Try.prog 48 #[.slice A0 l0.length c0, .string a1] w fun e w' => ∃ v0_ : Value, e = .returned (v0_) ∧ Kd.R k48 48 w' w.heap.size (fun _ => True) v0_ r ∧ Below w.heap.size w w' := by
 have hu48 := Try.underlying48
 have HR0 := Aside0.mk hr0
 have HC0 := Aside0.mk hc0
 clear hr0 hc0
 have HB := Aside0.mk (Below.refl w.heap.size w)
 have H : (qbj.l0 k l0 a1 (([] : List (S48))) 0) = some r := h
 clear h
 obtain ⟨y177, hy177⟩ : ∃ y_ : List (S48), y_ = (([] : List (S48))) := ⟨_, rfl⟩
 replace H : (qbj.l0 k l0 a1 y177 0) = some r := by first | (rw [hy177]; with_reducible exact H) | (have H2_ := (Option.bind_some _ _).symm.trans H; rw [hy177]; with_reducible exact H2_) | (have H2_ := (Option.bind_some _ _).symm.trans H; with_reducible exact H2_) | with_reducible exact H | (rw [hy177]; exact H) | exact H
 have Ny177 := Aside0.mk hy177
 clear hy177
 have H' := Aside0.mk H
 clear H
 go_enter Try.func48, Try.ntmps48
 go_wp2_with (first | ((with_reducible refine qaM (N := 7) rfl ?_); refine Kd.qdN k48 _ 48 ?hg (N := 7) ?hd (xs := ([] : List (S48))) (inner := []) (ok := fun _ => True) (okp := fun _ => True) ?hr ?hp (fun _ hk => hk) trivial (Below.refl _ _) (Nat.le_refl _) (by simp) ?_; (case hd => rfl); (case hg => rfl); (case hr => first | (go_simp; done) | (go_simp; rfl)); (case hp => exact (Reps.none _ _)); intro v178 w3 ho4 hb hg_ hnew_; clear hg_ hnew_; (first | rw [← Ny177.out] at ho4 | (simp only [Int.reduceToNat] at ho4; rw [← Ny177.out] at ho4)); have n0_ := Aside0.mk (Kd.qbh ho4 (qak (by repeat (first | (with_reducible first | exact HB.out | apply qac | apply qaa | apply qab) | exact HB.out)))); have n1_ := Aside0.mk (qag (by repeat (first | (with_reducible first | exact HB.out | apply qac | apply qaa | apply qab) | exact HB.out)) hb); clear HB; have HO179 := n0_; have HB := n1_; clear n0_ n1_; clear hb ho4))
 go_loopg [5, 6] k (fun kq v5 v6 w' => ∃ (x5_1 : List (S48)) (x6_1 : Int), v6 = .int .i64 x6_1 ∧ Aside0 (qbj.l0 kq l0 a1 x5_1 x6_1 = some r) ∧ Aside0 (kq ≤ k) ∧ Aside0 (Kd.R k48 48 w' w.heap.size (fun _ => True) v5 x5_1) ∧ Aside0 (Below w.heap.size w w'))
 case atStart => exact ⟨(y177), (0), (by first | rfl | (simp; done) | (simp [*]; done)), H', ⟨Nat.le_refl _⟩, ⟨by (with_reducible repeat (first | apply Kd.qar | apply Kd.qas | apply Kd.qaD)); exact HO179.out⟩, ⟨by repeat (first | (with_reducible first | exact HB.out | apply qac | apply qaa | apply qab) | exact HB.out)⟩⟩
 case round =>
  clear H'
  try clear p2
  try clear c4
  obtain ⟨x5_1, x6_1, rfl, HA, HK1, HO_5, HB⟩ := hrel
  cases gk with
  | zero => exact absurd HA.out (by simp [qbj.l0])
  | succ k1 =>
   have H := HA.out
   clear HA
   simp only [qbj.l0] at H
   by_cases c5 : x6_1 < (l0.length : Int)
   ·rw [if_pos c5] at H
    have c5b0 : decide (x6_1 < (l0.length : Int)) = true := decide_eq_true c5
    clear c5
    by_cases c6 : 0 ≤ x6_1
    ·rw [if_pos c6] at H
     have c6b0 : decide (0 ≤ x6_1) = true := decide_eq_true c6
     clear c6
     by_cases c7 : ((qaK l0 x6_1).f0).toList = a1.toList
     ·rw [if_pos c7] at H
      have c7b0 : (((qaK l0 x6_1).f0).toList == a1.toList) = true := beq_iff_eq.mpr c7
      have c7b1 : (((qaK l0 x6_1).f0).toList != a1.toList) = false := bne_eq_false_iff_eq.mpr c7
      clear c7
      have H' := Aside0.mk H
      clear H
      have p180 : 0 ≤ (x6_1 : Int) := of_decide_eq_true (by first | (with_reducible assumption) | assumption)
      have q180 : x6_1 < (l0.length : Int) := of_decide_eq_true (by first | (with_reducible assumption) | assumption)
      obtain ⟨ad180, e180, hx180_0, hx180_1⟩ := qcz HR0.out x6_1 p180 q180
      cases e180
      replace hx180_0 := (HB.out.cell (World.block_lt_of_cell? w _ hx180_0)).trans hx180_0
      replace hx180_1 := (HB.out.cell (World.block_lt_of_cell? w _ hx180_1)).trans hx180_1
      replace p180 := eq_true p180
      replace q180 := eq_true q180
      go_wp2
      go_roundg k1
      case measure => have := HK1.out; omega
      case rel => exact ⟨(x5_1), (wrap64 (x6_1 + 1)), (by first | rfl | (simp; done) | (simp [*]; done)), H', ⟨by have := HK1.out; omega⟩, ⟨by (with_reducible repeat (first | apply Kd.qar | apply Kd.qas | apply Kd.qaD)); exact HO_5.out⟩, ⟨by repeat (first | (with_reducible first | exact HB.out | apply qac | apply qaa | apply qab) | exact HB.out)⟩⟩
     ·rw [if_neg c7] at H
      have c7b0 : (((qaK l0 x6_1).f0).toList == a1.toList) = false := beq_eq_false_iff_ne.mpr c7
      have c7b1 : (((qaK l0 x6_1).f0).toList != a1.toList) = true := bne_iff_ne.mpr c7
      by_cases c8 : x5_1.length < 4398046511104
      ·rw [if_pos c8] at H
       have LMc8 := Aside0.mk c8
       clear c8
       obtain ⟨y182, hy182⟩ : ∃ y_ : List (S48), y_ = (x5_1 ++ [(⟨(qaK l0 x6_1).f0, (qaK l0 x6_1).f1⟩ : S48)]) := ⟨_, rfl⟩
       replace H : (qbj.l0 k1 l0 a1 y182 (wrap64 (x6_1 + 1))) = some r := by first | (rw [hy182]; with_reducible exact H) | (have H2_ := (Option.bind_some _ _).symm.trans H; rw [hy182]; with_reducible exact H2_) | (have H2_ := (Option.bind_some _ _).symm.trans H; with_reducible exact H2_) | with_reducible exact H | (rw [hy182]; exact H) | exact H
       have Ny182 := Aside0.mk hy182
       clear hy182
       have H' := Aside0.mk H
       clear H
       have p180 : 0 ≤ (x6_1 : Int) := of_decide_eq_true (by first | (with_reducible assumption) | assumption)
       have q180 : x6_1 < (l0.length : Int) := of_decide_eq_true (by first | (with_reducible assumption) | assumption)
       obtain ⟨ad180, e180, hx180_0, hx180_1⟩ := qcz HR0.out x6_1 p180 q180
       cases e180
       replace hx180_0 := (HB.out.cell (World.block_lt_of_cell? w _ hx180_0)).trans hx180_0
       replace hx180_1 := (HB.out.cell (World.block_lt_of_cell? w _ hx180_1)).trans hx180_1
       replace p180 := eq_true p180
       replace q180 := eq_true q180
       have p181 : 0 ≤ (x6_1 : Int) := of_decide_eq_true (by first | (with_reducible assumption) | assumption)
       have q181 : x6_1 < (l0.length : Int) := of_decide_eq_true (by first | (with_reducible assumption) | assumption)
       obtain ⟨ad181, e181, hx181_0, hx181_1⟩ := qcz HR0.out x6_1 p181 q181
       obtain rfl : ad180 = ad181 := (by injection e181)
       replace hx181_0 := (HB.out.cell (World.block_lt_of_cell? w _ hx181_0)).trans hx181_0
       replace hx181_1 := (HB.out.cell (World.block_lt_of_cell? w _ hx181_1)).trans hx181_1
       replace p181 := eq_true p181
       replace q181 := eq_true q181
       go_wp2_with (first | ((with_reducible refine qbC (b := .append) (xs := #[.tmp 21, .tmp 26]) rfl ?_); at_builtin; refine Kd.qek k48 (w0 := w) w.heap.size rfl (.tmp 21) (.tmp 26) 24 48 (.agg #[(.string ⟨#[]⟩), (.string ⟨#[]⟩)]) 32 rfl Try.underlying24 qcL rfl (by decide) (by omega) u5 x5_1 (⟨(qaK l0 x6_1).f0, (qaK l0 x6_1).f1⟩ : S48) [.string ((qaK l0 x6_1).f0), .string ((qaK l0 x6_1).f1)] (fun _ => True) (fun _ => False) rfl rfl ?aP (fun _ hk => hk.elim) ?aF ?aO ?aB ?aS ?aL ?_; (case aP => exact qcZ _ _ _ (⟨(qaK l0 x6_1).f0, (qaK l0 x6_1).f1⟩ : S48)); (case aB => exact (by repeat (first | (with_reducible first | exact HB.out | apply qac | apply qaa | apply qab) | exact HB.out))); (case aF => exact (fun _ _ => trivial)); (case aO => exact (by (with_reducible repeat (first | apply Kd.qar | apply Kd.qas | apply Kd.qaD)); exact HO_5.out)); (case aS => exact (qak (by repeat (first | (with_reducible first | exact HB.out | apply qac | apply qaa | apply qab) | exact HB.out)))); (case aL => have := LMc8.out; omega); intro v183 w9 ho hb hg hat; rw [← Ny182.out] at ho; have n0_ := Aside0.mk (hb); have n1_ := Aside0.mk (ho); clear HB HO_5; have HB := n0_; have HO184 := n1_; clear n0_ n1_; clear ho hb hg hat))
       go_roundg k1
       case measure => have := HK1.out; omega
       case rel => exact ⟨(y182), (wrap64 (x6_1 + 1)), (by first | rfl | (simp; done) | (simp [*]; done)), H', ⟨by have := HK1.out; omega⟩, ⟨by (with_reducible repeat (first | apply Kd.qar | apply Kd.qas | apply Kd.qaD)); exact HO184.out⟩, ⟨by repeat (first | (with_reducible first | exact HB.out | apply qac | apply qaa | apply qab) | exact HB.out)⟩⟩
      ·rw [if_neg c8] at H
       exact absurd H (by simp)
    ·rw [if_neg c6] at H
     exact absurd H (by simp)
   ·rw [if_neg c5] at H
    have c5b0 : decide (x6_1 < (l0.length : Int)) = false := decide_eq_false c5
    clear c5
    obtain rfl := Option.some.inj H
    go_wp2
    go_ret
    exact ⟨_, by first | rfl | (simp [qam, qan] <;> rfl) | (simp [*, qam, qan] <;> rfl), by (with_reducible repeat (first | apply Kd.qar | apply Kd.qas | apply Kd.qaD)); exact HO_5.out, by repeat (first | (with_reducible first | exact HB.out | apply qac | apply qaa | apply qab) | exact HB.out)⟩
def qcd.f (l0 : List (S48)) (a1 : ByteArray) : Option ((List (S48))) := (qbw.f l0 a1).bind fun bt326 => (if bt326.2 = true then ((qck.f l0 bt326.1 (wrap64 (bt326.1 + 1))).bind fun t328 => (some t328)) else (some l0))
set_option maxHeartbeats 8000000 in
set_option maxRecDepth 100000 in
theorem qcd.calls (P0_ : Nat → Prop) (u9000_ : Value) (l0 : List (S48)) (a1 : ByteArray) (r : List (S48)) (w0 w : World) (hB : Below w0.heap.size w0 w) (ho0 : Kd.R k48 48 w w0.heap.size P0_ u9000_ l0) (h : qcd.f l0 a1 = some r) :
  Calls Try.prog 67 #[u9000_, .string a1] w fun e w' => ∃ v0_ : Value, e = .returned (v0_) ∧ Kd.R k48 48 w' w0.heap.size (fun k_ => (P0_ k_ ∨ w.heap.size ≤ k_)) v0_ r ∧ Below w0.heap.size w0 w' ∧ Kept w w' (fun k_ => P0_ k_) := by
 have HO0 := Aside0.mk (show Kd.R k48 48 w w0.heap.size (fun k_ => (P0_ k_ ∨ w.heap.size ≤ k_)) u9000_ l0 from Kd.qbr ho0 (fun k_ hk => (.inl hk)))
 have HK := Aside0.mk (Kept.refl w (fun k_ => P0_ k_))
 have HW0 := Aside0.mk hB.size
 have HB := Aside0.mk hB
 clear hB
 have H : ((qbw.f l0 a1).bind fun bt326 => (if bt326.2 = true then ((qck.f l0 bt326.1 (wrap64 (bt326.1 + 1))).bind fun t328 => (some t328)) else (some l0))) = some r := h
 clear h
 replace H := Option.bind_eq_some_iff.mp H
 obtain ⟨⟨t326, t327⟩, A30, H⟩ := H
 try dsimp only at H
 have A3 := Aside0.mk A30
 clear A30
 by_cases c4 : t327 = true
 ·subst c4
  have H1 : ((qck.f l0 t326 (wrap64 (t326 + 1))).bind fun t328 => (some t328)) = some r := by rw [if_pos rfl] at H; exact H
  clear H
  have H := H1
  clear H1
  replace H := Option.bind_eq_some_iff.mp H
  obtain ⟨t328, A50, H⟩ := H
  try dsimp only at H
  have A5 := Aside0.mk A50
  clear A50
  obtain rfl := Option.some.inj H
  obtain ⟨Ao6, co6, eo6⟩ := Kd.qbN HO0.out
  subst eo6
  go_enter Try.func67, Try.ntmps67
  go_wp2_with (first | ((with_reducible refine qaE (f := 65) rfl ?_); refine qbn (some 10) rfl rfl Try.func65 (by kernel_rfl) rfl #[.slice Ao6 l0.length co6, .string a1] rfl (by (try simp only [List.map_toArray, List.map_cons, List.map_nil]); first | done | rfl | (simp only [List.length_drop, List.length_take]; rfl)) ?_; (with_reducible refine (qbw.calls _ _ l0 a1 t326 true _ ?side1 ?side2 A3.out).mono ?_); (case side1 => repeat (first | exact (Kd.qaO HO0.out).2.2 | (with_reducible refine Kd.qa9 ?_ _) | (with_reducible refine Kd.qba ?_ _) | (with_reducible refine Kd.qbl ?_))); (case side2 => exact (Kd.qaO HO0.out).2.1); rintro e w7 ⟨rfl, hb⟩; refine ⟨_, rfl, ?_⟩; have n0_ := Aside0.mk (Kd.qaX (by (with_reducible repeat (first | apply Kd.qar | apply Kd.qas | apply Kd.qaD)); exact HO0.out) hb); have n1_ := Aside0.mk (Kept.below (S := (fun k_ => P0_ k_)) (by repeat (first | (with_reducible first | exact HK.out | apply Kept.alloc | apply Kept.drewN | apply Kept.drew) | exact HK.out)) hb); have n2_ := Aside0.mk (qag (by repeat (first | (with_reducible first | exact HB.out | apply qac | apply qaa | apply qab) | exact HB.out)) hb); clear HO0 HK HB; have HO0 := n0_; have HK := n1_; have HB := n2_; clear n0_ n1_ n2_; (try clear hb); (try clear hb2); (try clear hk); (try clear hi)) | ((with_reducible refine qaE (f := 81) rfl ?_); refine qbn (some 18) rfl rfl Try.func81 (by kernel_rfl) rfl #[.slice Ao6 l0.length co6, .int .i64 t326, .int .i64 (wrap64 (t326 + 1))] rfl (by (try simp only [List.map_toArray, List.map_cons, List.map_nil]); first | done | rfl | (simp only [List.length_drop, List.length_take]; rfl)) ?_; (with_reducible refine (qck.calls (fun k_ => some k_ = (.slice Ao6 l0.length co6 : Value).ownBlock) (.slice Ao6 l0.length co6) l0 t326 (wrap64 (t326 + 1)) t328 w0 _ ?side1 ?side2 A5.out).mono ?_); (case side1 => repeat (first | (with_reducible first | exact HB.out | apply qac | apply qaa | apply qab) | exact HB.out)); (case side2 => exact Kd.qde rfl HO0.out); rintro e w8 ⟨v329, rfl, ho0, hb, hkp⟩; refine ⟨_, rfl, ?_⟩; have n0_ := Aside0.mk (Kd.qbr (ok' := fun k_ => (P0_ k_ ∨ w.heap.size ≤ k_)) ho0 (fun k_ hk_ => Or.elim hk_ (fun hs_ => (HO0.out.1 k_ (hs_).symm)) (fun hn_ => (.inr (Nat.le_trans (by first | exact HK.out.1 | exact (show Kept w _ (fun k_ => P0_ k_) from by repeat (first | (with_reducible first | exact HK.out | apply Kept.alloc | apply Kept.drewN | apply Kept.drew) | exact HK.out)).1) hn_))))); have n1_ := Aside0.mk (Kept.qhz (S := (fun k_ => P0_ k_)) (by repeat (first | (with_reducible first | exact HK.out | apply Kept.alloc | apply Kept.drewN | apply Kept.drew) | exact HK.out)) hkp (fun k_ hs_ => (fun e_ => (HO0.out.1 k_ e_.symm)) hs_)); have n2_ := Aside0.mk (hb); clear HK HB HO0; have HO330 := n0_; have HK := n1_; have HB := n2_; clear n0_ n1_ n2_; (try clear hb); (try clear hkp); (try clear ho0)))
  go_ret
  exact ⟨_, by first | rfl | (simp [qam, qan] <;> rfl) | (simp [*, qam, qan] <;> rfl), by (with_reducible repeat (first | apply Kd.qar | apply Kd.qas | apply Kd.qaD)); exact HO330.out, by repeat (first | (with_reducible first | exact HB.out | apply qac | apply qaa | apply qab) | exact HB.out), by repeat (first | (with_reducible first | exact HK.out | apply Kept.alloc | apply Kept.drewN | apply Kept.drew) | exact HK.out)⟩
 ·replace c4 := Bool.eq_false_iff.mpr c4
  subst c4
  have H1 : (some l0) = some r := by rw [if_neg (show ¬ (false = true) by decide)] at H; exact H
  clear H
  have H := H1
  clear H1
  obtain rfl := Option.some.inj H
  obtain ⟨Ao9, co9, eo9⟩ := Kd.qbN HO0.out
  subst eo9
  go_enter Try.func67, Try.ntmps67
  go_wp2_with (first | ((with_reducible refine qaE (f := 65) rfl ?_); refine qbn (some 10) rfl rfl Try.func65 (by kernel_rfl) rfl #[.slice Ao9 l0.length co9, .string a1] rfl (by (try simp only [List.map_toArray, List.map_cons, List.map_nil]); first | done | rfl | (simp only [List.length_drop, List.length_take]; rfl)) ?_; (with_reducible refine (qbw.calls _ _ l0 a1 t326 false _ ?side1 ?side2 A3.out).mono ?_); (case side1 => repeat (first | exact (Kd.qaO HO0.out).2.2 | (with_reducible refine Kd.qa9 ?_ _) | (with_reducible refine Kd.qba ?_ _) | (with_reducible refine Kd.qbl ?_))); (case side2 => exact (Kd.qaO HO0.out).2.1); rintro e w10 ⟨rfl, hb⟩; refine ⟨_, rfl, ?_⟩; have n0_ := Aside0.mk (Kd.qaX (by (with_reducible repeat (first | apply Kd.qar | apply Kd.qas | apply Kd.qaD)); exact HO0.out) hb); have n1_ := Aside0.mk (Kept.below (S := (fun k_ => P0_ k_)) (by repeat (first | (with_reducible first | exact HK.out | apply Kept.alloc | apply Kept.drewN | apply Kept.drew) | exact HK.out)) hb); have n2_ := Aside0.mk (qag (by repeat (first | (with_reducible first | exact HB.out | apply qac | apply qaa | apply qab) | exact HB.out)) hb); clear HO0 HK HB; have HO0 := n0_; have HK := n1_; have HB := n2_; clear n0_ n1_ n2_; (try clear hb); (try clear hb2); (try clear hk); (try clear hi)))
  go_ret
  exact ⟨_, by first | rfl | (simp [qam, qan] <;> rfl) | (simp [*, qam, qan] <;> rfl), by (with_reducible repeat (first | apply Kd.qar | apply Kd.qas | apply Kd.qaD)); exact HO0.out, by repeat (first | (with_reducible first | exact HB.out | apply qac | apply qaa | apply qab) | exact HB.out), by repeat (first | (with_reducible first | exact HK.out | apply Kept.alloc | apply Kept.drewN | apply Kept.drew) | exact HK.out)⟩
theorem ba_ext {a b : ByteArray} (h : a.toList = b.toList) : a = b := by
 rw [ByteArray.toList_eq, ByteArray.toList_eq] at h
 exact ByteArray.ext (Array.toList_inj.mp h)
theorem qiR (l : List S48) (i : Nat) (h : i < l.length) : qaK l (i : Int) = l[i] := by
 unfold qaK
 rw [Int.toNat_natCast]
 simp [List.getD_eq_getElem?_getD, h]
theorem qfg {l : List S48} {key : ByteArray} (h : hasAt l key = true) : (l[lowAt l key]'(qd6 h)).f0 = key := by
 have h2 := h
 unfold hasAt at h2
 simp only [Bool.and_eq_true, decide_eq_true_eq] at h2
 rw [qiR l _ h2.1] at h2
 exact ba_ext h2.2
theorem qfE (key : ByteArray) (rest : List S48) : ∀ (pre acc : List S48), (pre ++ rest).length ≤ 1000000 → acc.length ≤ pre.length → Ev (fun k => qbj.l0 k (pre ++ rest) key acc ((pre.length : Nat) : Int)) (acc ++ rest.filter fun p => !decide (p.f0.toList = key.toList)) := by
 induction rest with
 | nil =>
  intro pre acc hl ha
  refine Ev.succ ?_
  simp only [qbj.l0]
  exact Ev.neg (by simp) (Ev.is (by simp))
 | cons x r ih =>
  intro pre acc hl ha
  have hx : qaK (pre ++ x :: r) ((pre.length : Nat) : Int) = x := rd_at _ pre r x rfl
  have hlt : ((pre.length : Nat) : Int) < ((pre ++ x :: r).length : Int) := by simp; omega
  have hpl : pre.length < 1000000 := by simp at hl; omega
  have e1 : pre ++ x :: r = (pre ++ [x]) ++ r := by simp
  refine Ev.succ ?_
  simp only [qbj.l0, hx, qcu (n := pre.length) (by omega)]
  refine Ev.pos hlt (Ev.pos (by omega) ?_)
  rw [qcp pre x]
  by_cases hk : x.f0.toList = key.toList
  ·refine Ev.pos hk ?_
   have := ih (pre ++ [x]) acc (by rw [← e1]; exact hl) (by simp; omega)
   rw [← e1] at this
   refine Ev.same this ?_
   rw [List.filter_cons]
   simp [hk]
  ·refine Ev.neg hk (Ev.pos (by omega) ?_)
   have := ih (pre ++ [x]) (acc ++ [x]) (by rw [← e1]; exact hl) (by simp; omega)
   rw [← e1] at this
   refine Ev.same this ?_
   rw [List.filter_cons]
   simp [hk]
theorem qiS (l : List S48) (key : ByteArray) (hl : l.length ≤ 1000000) : Ev (fun k => qbj.f k l key) (l.filter fun p => !decide (p.f0.toList = key.toList)) := by
 unfold qbj.f
 have h := qfE key l [] [] hl (Nat.le_refl _)
 simpa using h
theorem qfh {l : List S48} {key : ByteArray} (hr : Rises l) (i : Nat) (hlt : i < l.length) (hk : l[i].f0 = key) : (l.filter fun p => !decide (p.f0.toList = key.toList)) = l.eraseIdx i := by
 have e : l = l.take i ++ l[i] :: l.drop (i + 1) := by
  rw [← List.drop_eq_getElem_cons hlt, List.take_append_drop]
 have f1 : (l.take i).filter (fun p => !decide (p.f0.toList = key.toList)) = l.take i := by
  refine List.filter_eq_self.2 fun x hx => ?_
  obtain ⟨j, hj, rfl⟩ := List.mem_take_iff_getElem.1 hx
  have := qet hr hlt (show j < i by omega)
  rw [hk] at this
  simp only [Bool.not_eq_true', decide_eq_false_iff_not]
  intro he
  rw [he, qdZ] at this
  cases this
 have f2 : (l.drop (i + 1)).filter (fun p => !decide (p.f0.toList = key.toList)) = l.drop (i + 1) := by
  refine List.filter_eq_self.2 fun x hx => ?_
  obtain ⟨j, hj, rfl⟩ := List.mem_drop_iff_getElem.1 hx
  have := qet hr (show i + 1 + j < l.length by omega) (show i < i + 1 + j by omega)
  rw [hk] at this
  simp only [Bool.not_eq_true', decide_eq_false_iff_not]
  intro he
  rw [he, qdZ] at this
  cases this
 rw [List.eraseIdx_eq_take_drop_succ]
 conv => lhs; rw [e]
 rw [List.filter_append, List.filter_cons, f1, f2, hk]
 simp
theorem qfi {l : List S48} {key : ByteArray} (hr : Rises l) (h : hasAt l key = true) : (l.filter fun p => !decide (p.f0.toList = key.toList)) = l.eraseIdx (lowAt l key) := qfh hr _ (qd6 h) (qfg h)
def dropP (l : List S48) (key : ByteArray) : List S48 := if hasAt l key = true then l.eraseIdx (lowAt l key) else l
theorem qiT {l : List S48} (key : ByteArray) (h : Rises l) (hl : l.length ≤ 1000000) : qcd.f l key = some (dropP l key) := by
 unfold qcd.f dropP
 rw [qg9 key h hl, Option.bind_some]
 cases hh : hasAt l key with
 | false => simp
 | true =>
  have hlt := qd6 hh
  rw [if_pos rfl, if_pos rfl]
  unfold qck.f
  rw [if_pos ⟨by simp only; omega, by simp only; omega, by rw [qby (by simp only; omega) (by simp only; omega)]⟩, Option.bind_some]
  simp
theorem qdB (l : List S48) (hl : l.length ≤ 1000000) : qaV.f l = some l := by
 unfold qaV.f
 rw [if_pos (by omega)]
end Go.Proofs.Ytlkdcicpaneakaa.X
namespace Go.Proofs.Ytlkdcicpaneakaa.X
open Go.RowKit Go.Proofs.YtlkdcicpaneakaaW.PrintWords Go.Proofs.YtlkdcicpaneakaaW.PrintLast Go.Proofs.YtlkdcicpaneakaaW.PrintMore
attribute [local go_sem] qaA qaB qaC qaw qax qaH qaI qap qaq qay qaz
set_option linter.unusedVariables false
set_option linter.unusedSimpArgs false
open Go.Lib
def qce.f (l0 : List S48) (a1 : Int) (l2 : List S48) : Option (List S48) := if 0 ≤ a1 ∧ a1 ≤ (l0.length : Int) ∧ l2.length = 1 ∧ l0.length ≤ 1000000 then some (l0.take a1.toNat ++ l2 ++ l0.drop a1.toNat) else none
set_option maxHeartbeats 4000000 in
set_option maxRecDepth 100000 in
theorem qhb (P0_ : Nat → Prop) (u9000_ : Value) (l0 : List (S48)) (P2_ : Nat → Prop) (u9001_ : Value) (l2 : List (S48)) (w0 w : World) (hB : Below w0.heap.size w0 w) (ho0 : Kd.R k48 48 w w0.heap.size P0_ u9000_ l0) (hp0_2 : ∀ k_, P0_ k_ → ¬ P2_ k_) (ho2 : Kd.R k48 48 w w0.heap.size P2_ u9001_ l2) (h2 : l2.length = 1) (hl : l0.length ≤ 1000000) :
  Calls Try.prog 80 #[u9000_, .int .i64 l0.length, u9001_] w fun e w' => ∃ v0_ : Value, e = .returned (v0_) ∧ Kd.R k48 48 w' w0.heap.size (fun k_ => ((P0_ k_ ∨ P2_ k_) ∨ w.heap.size ≤ k_)) v0_ (l0 ++ l2) ∧ Below w0.heap.size w0 w' ∧ Kept w w' (fun k_ => P0_ k_ ∨ P2_ k_) := by
 obtain ⟨g2, c2, rfl, hbg2, hgl2, _, _⟩ := Kd.qdM ho2 (by omega)
 obtain ⟨_, _, hC2⟩ := Kd.qaO ho2
 have hP2 : P2_ g2 := ho2.1 g2 rfl
 obtain ⟨_, _, _, hc2, hc3, _⟩ := R_cap ho2
 have hM2 : ∀ x cs, k48.K w x cs → k48.M w w0.heap.size (fun _ => False) x cs := fun x cs h => by rw [qho h]; exact qcZ _ _ _ x
 have HC2 := Aside0.mk hC2
 have HM2 := Aside0.mk hM2
 have HBB := Aside0.mk hB
 rw [h2] at HC2 ⊢
 rcases R_cases ho0 with ⟨rfl, rfl⟩ | ⟨g, c, rfl⟩
 ·have HO := Aside0.mk (Kd.qgP k48 48 w w0.heap.size (fun k_ => ((P0_ k_ ∨ P2_ k_) ∨ w.heap.size ≤ k_)))
  clear ho0 ho2 hB hC2 hM2
  rw [List.length_nil]
  go_enter Try.func80, Try.ntmps80
  go_wp2_with (at_builtin; refine Kd.qbQ k48 (w0 := w0) w0.heap.size rfl (.tmp 23) (.tmp 24) 24 48 (.agg #[.string ⟨#[]⟩, .string ⟨#[]⟩]) 32 rfl Try.underlying24 qcL rfl (by decide) (by omega) _ _ l2 _ _ _ (fun k_ => ((P0_ k_ ∨ P2_ k_) ∨ w.heap.size ≤ k_)) (fun _ => False) rfl rfl HO.out HC2.out (fun x cs h => HM2.out x cs h) (fun _ h => h.elim) (fun k hk => .inr hk) HBB.out HBB.out.size ?aL ?_; (case aL => simp); intro v1 w1 ho1 hb1 hg1 hat1)
  go_ret
  exact ⟨_, rfl, by simpa using ho1, hb1, Kept.qcI hg1 (Kept.refl w _) (fun k hk => by cases hk)⟩
 ·obtain ⟨_, hbg, hgl, hc, hc63, hok⟩ := R_cap ho0
  have HO := Aside0.mk (Kd.qbr (ok' := fun k_ => ((P0_ k_ ∨ P2_ k_) ∨ w.heap.size ≤ k_)) ho0 (fun _ hk => .inl (.inl hk)))
  clear ho0 ho2 hB hC2 hM2
  go_enter Try.func80, Try.ntmps80
  go_wp2_with (at_builtin; refine Kd.qbQ k48 (w0 := w0) w0.heap.size rfl (.tmp 23) (.tmp 24) 24 48 (.agg #[.string ⟨#[]⟩, .string ⟨#[]⟩]) 32 rfl Try.underlying24 qcL rfl (by decide) (by omega) _ _ l2 _ _ _ (fun k_ => ((P0_ k_ ∨ P2_ k_) ∨ w.heap.size ≤ k_)) (fun _ => False) rfl rfl HO.out HC2.out (fun x cs h => HM2.out x cs h) (fun _ h => h.elim) (fun k hk => .inr hk) HBB.out HBB.out.size ?aL ?_; (case aL => omega); intro v1 w1 ho1 hb1 hg1 hat1)
  all_goals
   go_ret
   exact ⟨_, rfl, ho1, hb1, Kept.qcI hg1 (Kept.refl w _) (fun k hk => by injection hk with hk; subst hk; exact .inl (.inl hok))⟩
set_option maxHeartbeats 4000000 in
set_option maxRecDepth 100000 in
theorem qgF (P0_ : Nat → Prop) (g n c i : Nat) (l0 : List (S48)) (P2_ : Nat → Prop) (u9001_ : Value) (l2 : List (S48)) (w0 w : World) (hB : Below w0.heap.size w0 w) (ho0 : Kd.R k48 48 w w0.heap.size P0_ (.slice (some ⟨g, 0, none⟩) n c) l0) (hp0_2 : ∀ k_, P0_ k_ → ¬ P2_ k_) (ho2 : Kd.R k48 48 w w0.heap.size P2_ u9001_ l2) (h2 : l2.length = 1) (hi : i < n) (hroom : n + 1 ≤ c) :
  Calls Try.prog 80 #[.slice (some ⟨g, 0, none⟩) n c, .int .i64 i, u9001_] w fun e w' => ∃ v0_ : Value, e = .returned (v0_) ∧ Kd.R k48 48 w' w0.heap.size (fun k_ => ((P0_ k_ ∨ P2_ k_) ∨ w.heap.size ≤ k_)) v0_ (l0.take i ++ l2 ++ l0.drop i) ∧ Below w0.heap.size w0 w' ∧ Kept w w' (fun k_ => P0_ k_ ∨ P2_ k_) := by
 obtain ⟨g2, c2, rfl, _, _, _, _⟩ := Kd.qdM ho2 (by omega)
 obtain ⟨cur, inner, hn, hbg, hh, _, hcm, hcs, htake, hreps, hok⟩ := qha ho0
 obtain ⟨cur2, inner2, _, hbg2, hh2, hnc2, hcm2, hcs2, htake2, hreps2, hok2⟩ := qha ho2
 rw [show k48.sz = 2 from rfl] at *
 have hne : g2 ≠ g := fun e => hp0_2 g hok (e ▸ hok2)
 have hil : inner.length = n * 2 := by rw [hn]; exact hreps.1
 have hil2 : inner2.length = 2 := by rw [hreps2.1, h2]
 have h1 := qeq (by decide) hreps
 have h12 := qeq (by decide) hreps2
 have hgl := qbm hh
 have hov : ∀ o lb cb, (callFunc 84 #[.slice (some ⟨g2, 0, none⟩) 1 c2, .slice (some ⟨g, o, none⟩) lb cb]).run Try.prog w = .ok (.value (.bool false)) w := fun o lb cb => by
  rw [run_callFunc_extern Try.func84 (by kernel_rfl) (by kernel_rfl) (by kernel_rfl) (e := Extern.SlicesOverlaps.overlaps #[24, 24] #[4]) (by kernel_rfl),
   Lib.run_overlaps_apart w 24 4 48 Try.underlying24 2 Try.sizeOf48 ⟨g2, 0, none⟩ ⟨g, o, none⟩ 1 c2 lb cb hne 48 48 cur2.size cur.size (by simp [World.shape?, hh2]) (by simp [World.shape?, hh]) (by omega) (qae hh2 _) (qae hh2 _)]
  rfl
 have hinf : (Try.prog.info? 48).map (·.size) = some 2 := by kernel_rfl
 obtain ⟨w1, cur1, hr1, hh1, hs1, hl1, hg1⟩ := qdu (P := Try.prog) w.drew 24 24 48 48 2 g ((i + 1) * 2) (n - i) ⟨g, i * 2, none⟩ (n + 1 - i) (inner.drop (i * 2)) cur Try.underlying24 hinf (by rw [List.length_drop, hil]; simp only [Nat.min_def]; split <;> omega) hh (by rw [List.length_drop]; omega)
  (fun j v hj => by
   have hj2 : j < inner.length - i * 2 := by have := (List.getElem?_eq_some_iff.1 hj).1; rwa [List.length_drop] at this
   rw [qh6]
   refine (qad (w := w.drew) hh _).trans ?_
   rw [List.getElem?_drop, ← htake, List.getElem?_take, if_pos (by omega), Array.getElem?_toList] at hj
   exact hj) (fun v hv => h1 v (List.mem_of_mem_drop hv))
 have hh21 : w1.heap[g2]? = some (.cells cur2 48 (0, 0)) := qdj (w := w.drew) hh2 hg1 (fun e => hne (by injection e))
 obtain ⟨w2, cur3, hr2, hh3, hs3, hl3, hg3⟩ := qdu (P := Try.prog) w1 24 24 48 48 2 g (i * 2) (n + 1 - i) ⟨g2, 0, none⟩ 1 inner2 cur1 Try.underlying24 hinf (by rw [hil2]; simp only [Nat.min_def]; split <;> omega) hh1 (by omega)
  (fun j v hj => by
   have hj2 : j < inner2.length := (List.getElem?_eq_some_iff.1 hj).1
   rw [add_plain]
   refine (qad hh21 _).trans ?_
   rw [← htake2, List.getElem?_take, if_pos (by omega), Array.getElem?_toList] at hj
   exact hj) h12
 have hlist := ins_list cur.toList inner inner2 (i * 2) (n * 2) 2 htake (by rw [Array.length_toList]; omega) hil2 (by omega) cur1.toList cur3.toList (by rw [hl1, show i * 2 + 2 = (i + 1) * 2 by omega]) hl3
 have hge : w.grownBy w2 (some g) := ⟨hg3.os.trans hg1.os, hg3.tape.trans hg1.tape, hg3.output.trans hg1.output, Nat.le_trans hg1.size hg3.size, fun k hk hk2 => (hg3.block k (Nat.lt_of_lt_of_le hk hg1.size) hk2).trans (hg1.block k hk hk2)⟩
 have hR : Kd.R k48 48 w2 w0.heap.size (fun k_ => ((P0_ k_ ∨ P2_ k_) ∨ w.heap.size ≤ k_)) (.slice (some ⟨g, 0, none⟩) (n + 1) c) (l0.take i ++ l2 ++ l0.drop i) := by
  refine qf6 (cur := cur3) (inner := inner.take (i * 2) ++ inner2 ++ inner.drop (i * 2)) (by simp only [List.length_append, List.length_take, List.length_drop, h2]; omega) hbg hh3 hroom hcm (by show cur3.size = c * 2; omega) (by show cur3.toList.take ((n + 1) * 2) = _; rw [Nat.add_mul]; exact hlist) ?_ (.inl (.inl hok))
  have ha : Reps (k48.M w2 w0.heap.size fun k => ((P0_ k ∨ P2_ k) ∨ w.heap.size ≤ k) ∧ k ≠ g) k48.sz l0 inner := hreps.imp_ fun x cs hm => by rw [qcN hm]; exact qcZ _ _ _ x
  have hb : Reps (k48.M w2 w0.heap.size fun k => ((P0_ k ∨ P2_ k) ∨ w.heap.size ≤ k) ∧ k ≠ g) k48.sz l2 inner2 := hreps2.imp_ fun x cs hm => by rw [qcN hm]; exact qcZ _ _ _ x
  exact Kd.qcP (Kd.qcP (Kd.qeV ha (by omega)) hb) (Kd.qeW ha)
 have HR := Aside0.mk hR
 have HG := Aside0.mk hge
 have HBB := Aside0.mk hB
 have HR2 := Aside0.mk hr2
 have HR1 := Aside0.mk hr1
 have hw1 : IntKind.i64.wrap ((i : Int) + 1) = (i : Int) + 1 := by rw [IntKind.wrap_i64]; unfold maxLen at hcm; omega
 have hz1 : ((i : Int) == (n : Int)) = false := beq_eq_false_iff_ne.2 (by omega)
 have hcm2 : c ≤ 9223372036854775807 := by unfold maxLen at hcm; omega
 have q1 : (0 : Int) ≤ (i : Int) + 1 := by omega
 have q2 : ((i : Int) + 1).toNat = i + 1 := by omega
 have q3 : ((n : Int) + 1).toNat = n + 1 := by omega
 have q4 : ¬ (c = i + 1) := by omega
 have q5 : ¬ (c = i) := by omega
 have q6 : i ≤ n := by omega
 have q7 : (i : Int) ≤ (n : Int) := by omega
 have q8 : (n : Int) + 1 ≤ (c : Int) := by omega
 have q9 : (i : Int) ≤ (n : Int) + 1 := by omega
 have q10 : (i : Int) + 1 ≤ (n : Int) + 1 := by omega
 have q11 : i ≤ n + 1 := by omega
 have q12 : i + 1 ≤ n + 1 := by omega
 clear hr1 ho0 ho2 hB hreps hreps2 hh hh2 hh1 hh21 hh3 hlist hl1 hl3 hge hR hg1 hg3 htake htake2 h1 h12 hil hil2 hs1 hs3 hcs hcs2 hcm hinf hr2 hn
 rw [h2]
 go_enter Try.func80, Try.ntmps80
 go_wp2_with (simp only [hov])
 go_region_law (refine qev rfl (.tmp 73) (.tmp 76) 24 24 rfl (.slice (some ⟨g, (i + 1) * 2, none⟩) (n - i) (c - (i + 1))) (.slice (some ⟨g, i * 2, none⟩) (n + 1 - i) (c - i)) (by simp [Act.eval, Act.put]) (by simp [Act.eval, Act.put]) (HR1.out 3 (c - (i + 1)) (c - i)) ?_)
 go_wp2_with (with_reducible refine wpList_copy_run _ rfl (.tmp 80) (.tmp 81) 24 24 rfl (.slice (some ⟨g, i * 2, none⟩) (n + 1 - i) (c - i)) (.slice (some ⟨g2, 0, none⟩) 1 c2) rfl rfl (HR2.out 3 (c - i) c2) ?_)
 go_ret
 exact ⟨_, rfl, HR.out, HBB.out.grown HG.out HBB.out.size (fun k hk => by injection hk with hk; subst hk; exact hbg), Kept.qcI HG.out (Kept.refl w _) (fun k hk => by injection hk with hk; subst hk; exact .inl (.inl hok))⟩
set_option maxHeartbeats 4000000 in
set_option maxRecDepth 100000 in
theorem qgG (P0_ : Nat → Prop) (g n c i : Nat) (l0 : List (S48)) (P2_ : Nat → Prop) (u9001_ : Value) (l2 : List (S48)) (w0 w : World) (hB : Below w0.heap.size w0 w) (ho0 : Kd.R k48 48 w w0.heap.size P0_ (.slice (some ⟨g, 0, none⟩) n c) l0) (hp0_2 : ∀ k_, P0_ k_ → ¬ P2_ k_) (ho2 : Kd.R k48 48 w w0.heap.size P2_ u9001_ l2) (h2 : l2.length = 1) (hi : i < n) (hroom : c < n + 1) (hbig : n ≤ 1000000) :
  Calls Try.prog 80 #[.slice (some ⟨g, 0, none⟩) n c, .int .i64 i, u9001_] w fun e w' => ∃ v0_ : Value, e = .returned (v0_) ∧ Kd.R k48 48 w' w0.heap.size (fun k_ => ((P0_ k_ ∨ P2_ k_) ∨ w.heap.size ≤ k_)) v0_ (l0.take i ++ l2 ++ l0.drop i) ∧ Below w0.heap.size w0 w' ∧ Kept w w' (fun k_ => P0_ k_ ∨ P2_ k_) := by
 obtain ⟨g2, c2, rfl, _, _, _, _⟩ := Kd.qdM ho2 (by omega)
 obtain ⟨cur, inner, hn, hbg, hh, hnc, hcm, hcs, htake, hreps, hok⟩ := qha ho0
 obtain ⟨cur2, inner2, _, hbg2, hh2, hnc2, hcm2, hcs2, htake2, hreps2, hok2⟩ := qha ho2
 rw [show k48.sz = 2 from rfl] at *
 have hil : inner.length = n * 2 := by rw [hn]; exact hreps.1
 have hil2 : inner2.length = 2 := by rw [hreps2.1, h2]
 have h1 := qeq (by decide) hreps
 have h12 := qeq (by decide) hreps2
 have hgl := qbm hh
 have hgl2 := qbm hh2
 have hinf : (Try.prog.info? 48).map (·.size) = some 2 := by kernel_rfl
 obtain ⟨i0, hi0, hz0, hzs, hzb⟩ := info_parts qcL
 have hcell : ∀ j v, inner[j]? = some v → w.cell? ⟨g, j, none⟩ = some v := fun j v hj => by
  have hj2 : j < inner.length := (List.getElem?_eq_some_iff.1 hj).1
  refine (qad hh _).trans ?_
  rw [← htake, List.getElem?_take, if_pos (by omega), Array.getElem?_toList] at hj
  exact hj
 have hold : (Builtin.firstCells i0.size i (.slice (some ⟨g, 0, none⟩) i c)).run Try.prog w.drew = .ok (inner.take (i * 2)).toArray w.drew := by
  rw [hzs]
  exact run_firstCells_some w.drew 2 i ⟨g, 0, none⟩ i c (inner.take (i * 2)) (by rw [List.length_take]; omega) (fun j v hj => by
   rw [add_plain]
   rw [List.getElem?_take] at hj
   split at hj
   ·exact hcell j v hj
   ·cases hj)
 obtain ⟨k, hk⟩ : ∃ k, n + 1 - i = k := ⟨_, rfl⟩
 have hik : i + k = n + 1 := by omega
 have hrz := fun ty => Lib.run_append_grow_zeros (P := Try.prog) w 24 3 ty 48 i0 _ .i64 .i64 Try.underlying24 Try.underlying3 hi0 hz0 (some ⟨g, 0, none⟩) i c (inner.take (i * 2)) hold k (by omega) (by rw [hzs]; omega) (by omega) (by omega) (by rw [hzb]; omega) (by rw [hzb, hik]; exact growslice_fits hroom (by omega))
 rw [hik] at hrz
 have hGn := grownCap_ge w (n + 1) c 48
 have hG63 := grownCap_le_maxLen w (n + 1) c 48 (by unfold maxLen; omega)
 obtain ⟨G, hG⟩ : ∃ G, G = grownCap w (n + 1) c 48 := ⟨_, rfl⟩
 rw [← hG] at hrz hGn hG63
 obtain ⟨ROW, hROW⟩ : ∃ ROW : Array Value, ROW = (inner.take (i * 2)).toArray ++ Builtin.zeroCells (Value.agg #[.string ⟨#[]⟩, .string ⟨#[]⟩]).cells k ++ Builtin.zeroCells (Value.agg #[.string ⟨#[]⟩, .string ⟨#[]⟩]).cells (G - (n + 1)) := ⟨_, rfl⟩
 have hz2 : (Value.agg #[.string ⟨#[]⟩, .string ⟨#[]⟩]).cells.size = 2 := rfl
 have hrs : ROW.size = G * 2 := by
  rw [hROW]
  simp only [Array.size_append, List.size_toArray, List.length_take, size_zeroCells, hz2, hil]
  omega
 have hrt : ROW.toList.take (i * 2) = inner.take (i * 2) := by
  rw [hROW]
  simp only [Array.toList_append, List.append_assoc]
  rw [List.take_left' (by simp only [List.length_take, hil]; omega)]
 obtain ⟨W1, hW1⟩ : ∃ W1, W1 = w.drew.alloc (.cells ROW 48) := ⟨_, rfl⟩
 have hrz2 : ∀ ty, (Builtin.append_ #[24, 3] ty #[.slice (some ⟨g, 0, none⟩) i c, .int .i64 ((n : Int) + 1 - (i : Int))]).run Try.prog w = .ok (.slice (some ⟨w.heap.size, 0, none⟩) (n + 1) G) W1 := fun ty => by
  rw [hW1, hROW, show (n : Int) + 1 - (i : Int) = (k : Int) by omega]
  exact hrz ty
 have hN : W1.heap[w.heap.size]? = some (.cells ROW 48 (0, 0)) := by rw [hW1]; exact heap_alloc_new w.drew _
 have hb1 : Below w.heap.size w W1 := by rw [hW1]; exact qac (qcf (Below.refl _ w)) _
 obtain ⟨W2, cur1, hr1, hh1, hs1, hl1, hg1⟩ := qdu (P := Try.prog) W1 24 24 48 48 2 w.heap.size (i * 2) (n + 1 - i) ⟨g2, 0, none⟩ 1 inner2 ROW Try.underlying24 hinf (by rw [hil2]; simp only [Nat.min_def]; split <;> omega) hN (by omega)
  (fun j v hj => by
   have hj2 : j < inner2.length := (List.getElem?_eq_some_iff.1 hj).1
   rw [add_plain]
   refine qcb hb1 ((qad hh2 _).trans ?_)
   rw [← htake2, List.getElem?_take, if_pos (by omega), Array.getElem?_toList] at hj
   exact hj) h12
 have hgW : ∀ j, j < w.heap.size → W2.heap[j]? = w.heap[j]? := fun j hj => (hg1.block j (by have := hb1.size; omega) (fun e => by injection e with e; omega)).trans (hb1.block j hj)
 have hhg : W2.heap[g]? = some (.cells cur 48 (0, 0)) := (hgW g hgl).trans hh
 obtain ⟨W3, cur3, hr3, hh3, hs3, hl3, hg3⟩ := qdu (P := Try.prog) W2.drew 24 24 48 48 2 w.heap.size ((i + 1) * 2) (n - i) ⟨g, i * 2, none⟩ (n - i) (inner.drop (i * 2)) cur1 Try.underlying24 hinf (by rw [List.length_drop, hil]; simp only [Nat.min_def]; split <;> omega) hh1 (by rw [List.length_drop]; omega)
  (fun j v hj => by
   have hj2 : j < inner.length - i * 2 := by have := (List.getElem?_eq_some_iff.1 hj).1; rwa [List.length_drop] at this
   rw [qh6]
   refine (qad (w := W2.drew) hhg _).trans ?_
   rw [List.getElem?_drop, ← htake, List.getElem?_take, if_pos (by omega), Array.getElem?_toList] at hj
   exact hj) (fun v hv => h1 v (List.mem_of_mem_drop hv))
 have hlist := qiQ ROW.toList inner inner2 (i * 2) (n * 2) 2 hrt (by rw [Array.length_toList]; omega) hil2 (by omega) hil cur1.toList cur3.toList hl1 (by rw [hl3, show i * 2 + 2 = (i + 1) * 2 by omega])
 have hbe : Below w.heap.size w W3 := (qcf (hb1.grown hg1 hb1.size (fun k hk => by injection hk with hk; omega))).grown hg3 (Nat.le_trans hb1.size hg1.size) (fun k hk => by injection hk with hk; omega)
 have hR : Kd.R k48 48 W3 w0.heap.size (fun k_ => ((P0_ k_ ∨ P2_ k_) ∨ w.heap.size ≤ k_)) (.slice (some ⟨w.heap.size, 0, none⟩) (n + 1) G) (l0.take i ++ l2 ++ l0.drop i) := by
  refine qf6 (cur := cur3) (inner := inner.take (i * 2) ++ inner2 ++ inner.drop (i * 2)) (by simp only [List.length_append, List.length_take, List.length_drop, h2]; omega) hB.size hh3 hGn hG63 (by show cur3.size = G * 2; omega) (by show cur3.toList.take ((n + 1) * 2) = _; rw [Nat.add_mul]; exact hlist) ?_ (.inr (Nat.le_refl _))
  have ha : Reps (k48.M W3 w0.heap.size fun k => ((P0_ k ∨ P2_ k) ∨ w.heap.size ≤ k) ∧ k ≠ w.heap.size) k48.sz l0 inner := hreps.imp_ fun x cs hm => by rw [qcN hm]; exact qcZ _ _ _ x
  have hb : Reps (k48.M W3 w0.heap.size fun k => ((P0_ k ∨ P2_ k) ∨ w.heap.size ≤ k) ∧ k ≠ w.heap.size) k48.sz l2 inner2 := hreps2.imp_ fun x cs hm => by rw [qcN hm]; exact qcZ _ _ _ x
  exact Kd.qcP (Kd.qcP (Kd.qeV ha (by omega)) hb) (Kd.qeW ha)
 have HR := Aside0.mk hR
 have HE := Aside0.mk hbe
 have HBB := Aside0.mk hB
 have HR1 := Aside0.mk hr1
 have HR3 := Aside0.mk hr3
 have HRZ := Aside0.mk hrz2
 have hw1 : IntKind.i64.wrap ((i : Int) + 1) = (i : Int) + 1 := by rw [IntKind.wrap_i64]; omega
 have hw2 : IntKind.i64.wrap ((n : Int) + 1 - (i : Int)) = (n : Int) + 1 - (i : Int) := by rw [IntKind.wrap_i64]; omega
 have hz1 : ((i : Int) == (n : Int)) = false := beq_eq_false_iff_ne.2 (by omega)
 have hcm3 : c ≤ 9223372036854775807 := by unfold maxLen at hcm; omega
 have hG64 : G ≤ 9223372036854775807 := by unfold maxLen at hG63; omega
 have q0 : (c : Int) < (n : Int) + 1 := by omega
 have q1 : (0 : Int) ≤ (i : Int) + 1 := by omega
 have q2 : ((i : Int) + 1).toNat = i + 1 := by omega
 have q4 : ¬ (G = i + 1) := by omega
 have q5 : ¬ (G = i) := by omega
 have q6 : i ≤ n := by omega
 have q7 : (i : Int) ≤ (n : Int) := by omega
 have q8 : ¬ (c = i) := by omega
 have q9 : (i : Int) ≤ (n : Int) + 1 := by omega
 have q10 : (i : Int) + 1 ≤ (n : Int) + 1 := by omega
 have q11 : i ≤ n + 1 := by omega
 have q12 : i + 1 ≤ n + 1 := by omega
 have q13 : i ≤ c := by omega
 clear hrz hr1 hr3 hrz2 ho0 ho2 hB hreps hreps2 hh hh2 hh1 hh3 hlist hl1 hl3 hbe hR hg1 hg3 htake htake2 h1 h12 hil hil2 hs1 hs3 hcs hcs2 hcm hinf hn hGn hG hG63 hROW hrs hrt hW1 hN hb1 hgW hhg hik hk hold hcell hi0 hz0 hzs hzb hz2
 rw [h2]
 go_enter Try.func80, Try.ntmps80
 go_wp2_with (first
  | (at_builtin; refine Lib.wpList_append_run _ rfl _ _ _ _ rfl _ _ rfl rfl _ _ (HRZ.out _) ?_)
  | (with_reducible refine wpList_copy_run _ rfl (.tmp 43) (.tmp 44) 24 24 rfl (.slice (some ⟨w.heap.size, i * 2, none⟩) (n + 1 - i) (G - i)) (.slice (some ⟨g2, 0, none⟩) 1 c2) rfl rfl (HR1.out 3 (G - i) c2) ?_))
 go_region_law (refine qev rfl (.tmp 50) (.tmp 53) 24 24 rfl (.slice (some ⟨w.heap.size, (i + 1) * 2, none⟩) (n - i) (G - (i + 1))) (.slice (some ⟨g, i * 2, none⟩) (n - i) (c - i)) (by simp [Act.eval, Act.put]) (by simp [Act.eval, Act.put]) (HR3.out 3 (G - (i + 1)) (c - i)) ?_)
 go_wp2_with fail
 go_ret
 exact ⟨_, rfl, HR.out, qag HBB.out HE.out, Kept.of_below HE.out _⟩
theorem qce.calls (P0_ : Nat → Prop) (u9000_ : Value) (l0 : List (S48)) (a1 : Int) (P2_ : Nat → Prop) (u9001_ : Value) (l2 : List (S48)) (r : List (S48)) (w0 w : World) (hB : Below w0.heap.size w0 w) (ho0 : Kd.R k48 48 w w0.heap.size P0_ u9000_ l0) (hp0_2 : ∀ k_, P0_ k_ → ¬ P2_ k_) (ho2 : Kd.R k48 48 w w0.heap.size P2_ u9001_ l2) (hp2_0 : ∀ k_, P2_ k_ → ¬ P0_ k_) (h : qce.f l0 a1 l2 = some r) :
  Calls Try.prog 80 #[u9000_, .int .i64 a1, u9001_] w fun e w' => ∃ v0_ : Value, e = .returned (v0_) ∧ Kd.R k48 48 w' w0.heap.size (fun k_ => ((P0_ k_ ∨ P2_ k_) ∨ w.heap.size ≤ k_)) v0_ r ∧ Below w0.heap.size w0 w' ∧ Kept w w' (fun k_ => P0_ k_ ∨ P2_ k_) := by
 unfold qce.f at h
 by_cases hs : 0 ≤ a1 ∧ a1 ≤ (l0.length : Int) ∧ l2.length = 1 ∧ l0.length ≤ 1000000
 ·rw [if_pos hs] at h
  obtain rfl := Option.some.inj h
  obtain ⟨h0, h1, h2, h3⟩ := hs
  obtain ⟨i, rfl⟩ : ∃ i : Nat, a1 = (i : Int) := ⟨a1.toNat, by omega⟩
  rw [Int.toNat_natCast]
  by_cases he : i = l0.length
  ·subst he
   rw [List.take_length, List.drop_length, List.append_nil]
   exact qhb P0_ u9000_ l0 P2_ u9001_ l2 w0 w hB ho0 hp0_2 ho2 h2 h3
  ·obtain ⟨g, c, rfl, _⟩ := Kd.qdM ho0 (by omega)
   by_cases hr : l0.length + 1 ≤ c
   ·exact qgF P0_ g l0.length c i l0 P2_ u9001_ l2 w0 w hB ho0 hp0_2 ho2 h2 (by omega) hr
   ·exact qgG P0_ g l0.length c i l0 P2_ u9001_ l2 w0 w hB ho0 hp0_2 ho2 h2 (by omega) (by omega) h3
 ·rw [if_neg hs] at h
  cases h
end Go.Proofs.Ytlkdcicpaneakaa.X
