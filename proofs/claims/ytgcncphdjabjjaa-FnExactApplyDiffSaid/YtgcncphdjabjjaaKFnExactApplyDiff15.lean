import Derived.Test.YtgcncphdjabjjaaKFnExactApplyDiff3
import Derived.Test.YtgcncphdjabjjaaKFnExactApplyDiff10
import Derived.Test.YtgcncphdjabjjaaKFnExactApplyDiff14
import Derived.WalkSpells
import Derived.LoopTactic
import Derived.BigQuiet
import Derived.Lib.SliceRun
import Derived.Laws.IdiomCopy
import Derived.Deep.RegionLaw
namespace Go.Proofs.Ytgcncphdjabjjaa.X
open Go.RowKit Go.Proofs.YtgcncphdjabjjaaW.PrintWords Go.Proofs.YtgcncphdjabjjaaW.PrintLast Go.Proofs.YtgcncphdjabjjaaW.PrintMore
attribute [local go_sem] xbin_geq xbin_leq xbin_gtr max2_int min2_int max_two min_two max_three min_three max_four min_four
set_option linter.unusedVariables false
set_option linter.unusedSimpArgs false
theorem spec_at_loop (l : List S76) (key : ByteArray) (hl : l.length < 9223372036854775807) (rest : List S76) : ∀ pre : List S76, l = pre ++ rest →
    Ev (fun k => spec_l01At.l0 k l key ((pre.length : Nat) : Int)) ((pre.length : Int) + (rest.findIdx fun p => !Op.bytesLess p.f0.toList key.toList : Nat)) := by
  induction rest with
  | nil =>
    intro pre h
    refine Ev.succ ?_
    simp only [spec_l01At.l0]
    exact Ev.neg (by rw [h]; simp) (Ev.is (by simp))
  | cons x r ih =>
    intro pre h
    have hx := rd_at l pre r x h
    have hlen : pre.length < l.length := by rw [h]; simp
    have hi := ih (pre ++ [x]) (by rw [h]; simp)
    rw [← len_snoc] at hi
    refine Ev.succ ?_
    simp only [spec_l01At.l0, hx, wrap_at (n := pre.length) (by omega)]
    refine Ev.pos (by omega) (Ev.pos (by omega) ?_)
    cases hb : Op.bytesLess x.f0.toList key.toList with
    | true =>
      refine Ev.pos rfl (Ev.same hi ?_)
      rw [List.findIdx_cons, hb]
      simp
      omega
    | false =>
      refine Ev.neg (by simp) (Ev.is ?_)
      rw [List.findIdx_cons, hb]
      simp
theorem spec_at (l : List S76) (key : ByteArray) (hl : l.length < 9223372036854775807) : Ev (fun k => spec_l01At.f k l key) (lowAt l key : Int) := by
  unfold spec_l01At.f
  have h := spec_at_loop l key hl l [] rfl
  simpa [lowAt] using h
def getV (l : List S76) (key : ByteArray) : ByteArray := if hasAt l key = true then (rd_T76 l (lowAt l key)).f1 else ⟨#[]⟩
theorem spec_get (l : List S76) (key : ByteArray) (hl : l.length < 9223372036854775807) : Ev (fun k => spec_l01Get.f k l key) (getV l key, hasAt l key) := by
  unfold spec_l01Get.f
  refine Ev.bind (spec_at l key hl) ?_
  unfold getV hasAt
  by_cases h : lowAt l key < l.length
  · refine Ev.pos (by omega) (Ev.pos (by omega) ?_)
    by_cases h2 : (rd_T76 l (lowAt l key)).f0.toList = key.toList
    · exact Ev.pos h2 (Ev.is (by simp [h, h2]))
    · exact Ev.neg h2 (Ev.is (by simp [h, h2]))
  · exact Ev.neg (by omega) (Ev.is (by simp [h]))
theorem impl_at {l : List S76} (key : ByteArray) (h : Rises l) (hl : l.length ≤ 1000000) : impl_pairAt.f l key = some ((lowAt l key : Int), hasAt l key) := by
  unfold impl_pairAt.f
  rw [if_pos ⟨h, hl⟩]
theorem hasAt_lt {l : List S76} {key : ByteArray} (h : hasAt l key = true) : lowAt l key < l.length := by
  unfold hasAt at h
  simp only [Bool.and_eq_true, decide_eq_true_eq] at h
  exact h.1
end Go.Proofs.Ytgcncphdjabjjaa.X
namespace Go.Proofs.Ytgcncphdjabjjaa.X
open Go.RowKit Go.Proofs.YtgcncphdjabjjaaW.PrintWords Go.Proofs.YtgcncphdjabjjaaW.PrintLast Go.Proofs.YtgcncphdjabjjaaW.PrintMore
attribute [local go_sem] xbin_geq xbin_leq xbin_gtr max2_int min2_int max_two min_two max_three min_three max_four min_four
set_option linter.unusedVariables false
set_option linter.unusedSimpArgs false
def impl_Pair_90.f (l0 : List S76) : Option (List S76) := if l0.length * 32 ≤ 140737488355328 then some l0 else none
set_option maxHeartbeats 1000000 in
set_option maxRecDepth 100000 in
theorem impl_Pair_90.calls (A0 : Option Addr) (c0 : Nat) (l0 : List S76) (r : List S76) (w : World) (hr0 : Kd.C k76 w A0 l0.length l0) (hc0 : l0.length ≤ c0) (h : impl_Pair_90.f l0 = some r) :
    Calls Try.prog 90 #[.slice A0 l0.length c0] w fun e w' => ∃ v0_ : Value, e = .returned (v0_) ∧ Kd.R k76 76 w' w.heap.size (fun _ => True) v0_ r ∧ Below w.heap.size w w' := by
  unfold impl_Pair_90.f at h
  by_cases hl : l0.length * 32 ≤ 140737488355328
  · rw [if_pos hl] at h
    obtain rfl := Option.some.inj h
    clear h
    have HL := Aside0.mk hl
    clear hl
    cases A0 with
    | none =>
      have h0 : l0.length = 0 := by
        rcases Nat.eq_zero_or_pos l0.length with h | h
        · exact h
        · obtain ⟨ad, he, _⟩ := hr0.2.2 h
          cases he
      obtain rfl := List.eq_nil_of_length_eq_zero h0
      clear h0 hr0
      have hq : ∀ w_, (binOp .eql 26 (.slice none 0 c0) (.slice none 0 0)).run Try.prog w_ = .ok (.bool true) w_ := fun w_ => by
        have := Lib.run_eql_slice_nil (P := Try.prog) w_ 26 76 none 0 c0 0 0 Try.underlying26
        simpa using this
      go_enter Try.func90, Try.ntmps90
      go_wp2_with fail
      go_ret
      exact ⟨_, rfl, Kd.R_nil _ _ _ _ _, Below.refl _ _⟩
    | some ad0 =>
      have HR0 := Aside0.mk hr0
      clear hr0
      have hq : ∀ w_, (binOp .eql 26 (.slice (some ad0) l0.length c0) (.slice none 0 0)).run Try.prog w_ = .ok (.bool false) w_ := fun w_ => by
        have := Lib.run_eql_slice_nil (P := Try.prog) w_ 26 76 (some ad0) l0.length c0 0 0 Try.underlying26
        simpa using this
      have HB := Aside0.mk (Below.refl w.heap.size w)
      go_enter Try.func90, Try.ntmps90
      go_wp2_with (first | ((with_reducible refine gate_dst (N := 5) rfl ?_); refine Kd.R_lit k76 _ 76 ?hg (N := 5) ?hd (xs := ([] : List S76)) (inner := []) (ok := fun _ => True) (okp := fun _ => True) ?hr ?hp (fun _ hk => hk) trivial (Below.refl _ _) (Nat.le_refl _) (by simp) ?_; (case hd => rfl); (case hg => rfl); (case hr => first | (go_simp; done) | (go_simp; rfl)); (case hp => exact (Reps.none _ _)); intro v1 w1 ho1 hb hg_ hnew_; clear hg_ hnew_; have n0_ := Aside0.mk (Kd.R_lower ho1 (below_size HB.out)); have n1_ := Aside0.mk (below_step HB.out hb); clear HB; have HO1 := n0_; have HB := n1_; clear n0_ n1_; clear hb ho1) | ((with_reducible refine gate_builtin (b := .append) (xs := #[.tmp 5, .tmp 6]) rfl ?_); at_builtin; refine Kd.R_append_rows k76 (w0 := w) w.heap.size rfl (.tmp 5) (.tmp 6) 26 76 (.agg #[(.string ⟨#[]⟩), (.string ⟨#[]⟩)]) 32 rfl Try.underlying26 info76 rfl (by decide) (by omega) v1 [] l0 _ _ _ (fun _ => True) (fun _ => False) rfl rfl ?aO ?aR (fun _ _ h => h) (fun _ h => h.elim) ?aF ?aB ?aS ?aL ?_; (case aR => exact (Kd.C_below HR0.out HB.out)); (case aB => exact HB.out); (case aF => exact (fun _ _ => trivial)); (case aO => exact HO1.out); (case aS => exact (below_size HB.out)); (case aL => have := HL.out; simpa using this); intro v2 w2 ho hb hg hat; have n0_ := Aside0.mk hb; have n1_ := Aside0.mk ho; clear HB HO1; have HB := n0_; have HO2 := n1_; clear n0_ n1_; clear ho hb hg hat))
      go_ret
      exact ⟨_, rfl, by simpa using HO2.out, HB.out⟩
  · rw [if_neg hl] at h
    cases h
end Go.Proofs.Ytgcncphdjabjjaa.X
namespace Go.Proofs.Ytgcncphdjabjjaa.X
open Go.RowKit Go.Proofs.YtgcncphdjabjjaaW.PrintWords Go.Proofs.YtgcncphdjabjjaaW.PrintLast Go.Proofs.YtgcncphdjabjjaaW.PrintMore
attribute [local go_sem] xbin_geq xbin_leq xbin_gtr max2_int min2_int max_two min_two max_three min_three max_four min_four
set_option linter.unusedVariables false
set_option linter.unusedSimpArgs false
open Go.Lib in
theorem run_clear_cells {P : Program} (w : World) (t e ty : TypeId) (z : Value) (ht : P.underlying t = some (.slice e)) (hv : ∀ w, (zeroValue e).run P w = .ok z w) (b o n c : Nat) (zs : List Value) (hzs : (Builtin.zeroCells z.cells n).toList = zs) (h1 : ∀ v ∈ zs, v.oneCell' = true) (hn : 0 < n)
    (hc : ∀ j, j < zs.length → (w.cell? ⟨b, o + j, none⟩).isSome = true) (hf : ∀ j, j < zs.length → w.frozen? ⟨b, o + j, none⟩ = false) :
    (Builtin.clear_ #[t] ty #[.slice (some ⟨b, o, none⟩) n c]).run P w = .ok (.tuple #[]) (w.setCells b o zs) := by
  have hst := run_storeCells_cells (P := P) b o zs 0 w (by simpa using hc) (by simpa using hf) h1
  simp only [Nat.add_zero] at hst
  obtain ⟨m, rfl⟩ : ∃ m, n = m + 1 := ⟨n - 1, by omega⟩
  simp [Builtin.clear_, run_underlying ht, hv, hzs, hst]
theorem madeCells_all {z : Value} {n : Nat} (h : ∀ v ∈ z.cells, v.oneCell' = true) : ∀ v ∈ (Builtin.zeroCells z.cells n).toList, v.oneCell' = true := by
  intro v hv
  unfold Builtin.zeroCells at hv
  rw [Array.toList_map, List.mem_map] at hv
  obtain ⟨j, hj, rfl⟩ := hv
  have hj2 : j < n * z.cells.size := by simpa using hj
  have hp : 0 < z.cells.size := by
    rcases Nat.eq_zero_or_pos z.cells.size with h0 | h0
    · rw [h0] at hj2; omega
    · exact h0
  have hlt : j % z.cells.size < z.cells.size := Nat.mod_lt _ hp
  rw [getElem!_pos z.cells _ hlt]
  exact h _ (Array.getElem_mem hlt)
theorem R_blk {α : Type} {d : Kd α} {e : Nat} {w : World} {base : Nat} {ok : Nat → Prop} {g n c : Nat} {xs : List α} (h : d.R e w base ok (.slice (some ⟨g, 0, none⟩) n c) xs) :
    ∃ cur inner, n = xs.length ∧ base ≤ g ∧ w.heap[g]? = some (.cells cur e (0, 0)) ∧ n ≤ c ∧ c ≤ maxLen ∧ cur.size = c * d.sz ∧ cur.toList.take (n * d.sz) = inner ∧ Reps (d.M w base (fun k => ok k ∧ k ≠ g)) d.sz xs inner ∧ ok g := by
  obtain ⟨hn, _, _⟩ := Kd.R_reads' h
  obtain ⟨hok, inner, hown, hr⟩ := h
  rcases hown.2 with ⟨hv, _⟩ | ⟨g', cap', cur, hv, hb, hh, hnc, hcm, hcs, htake⟩
  · cases hv
  injection hv with ha hn2 hc
  injection ha with ha
  injection ha with hg
  subst hg; subst hc
  exact ⟨cur, inner, hn, hb, hh, by omega, hcm, hcs, by rw [hn]; exact htake, hr.imp_ (fun _ _ hm => d.M_mono (fun k hk => ⟨hk.1, fun he => hk.2 (by rw [he]; rfl)⟩) hm), hok g rfl⟩
theorem R_of_blk {α : Type} {d : Kd α} {e : Nat} {w : World} {base : Nat} {ok : Nat → Prop} {g n c : Nat} {xs : List α} {cur : Array Value} {inner : List Value} (hn : n = xs.length) (hb : base ≤ g) (hh : w.heap[g]? = some (.cells cur e (0, 0))) (hnc : n ≤ c) (hcm : c ≤ maxLen) (hcs : cur.size = c * d.sz) (ht : cur.toList.take (n * d.sz) = inner)
    (hr : Reps (d.M w base (fun k => ok k ∧ k ≠ g)) d.sz xs inner) (hok : ok g) : d.R e w base ok (.slice (some ⟨g, 0, none⟩) n c) xs := by
  subst hn
  refine ⟨fun k hk => ?_, inner, ⟨hr.1, .inr ⟨g, c, cur, rfl, hb, hh, hnc, hcm, hcs, ht⟩⟩, hr.imp_ (fun _ _ hm => d.M_mono (fun k hk => ⟨hk.1, fun he => hk.2 ?_⟩) hm)⟩
  · have : g = k := by simpa [Value.ownBlock] using hk
    exact this ▸ hok
  · simpa [Value.ownBlock] using he
theorem grown_setCells (w : World) (g o : Nat) (vs : List Value) : w.grownBy (w.setCells g o vs) (some g) := by
  obtain ⟨h1, h2, h3, h4⟩ := setCells_same g vs o w
  exact ⟨h1, h2, h3, by omega, fun k _ hk => setCells_far vs o k (fun he => hk (by rw [he]))⟩
theorem R_tail {α : Type} {d : Kd α} {e : Nat} {w : World} {base : Nat} {ok : Nat → Prop} {g n c : Nat} {xs : List α} (h : d.R e w base ok (.slice (some ⟨g, 0, none⟩) n c) xs) (o : Nat) (vs : List Value) (ho : n * d.sz ≤ o) (hl : o + vs.length ≤ c * d.sz) : d.R e (w.setCells g o vs) base ok (.slice (some ⟨g, 0, none⟩) n c) xs := by
  obtain ⟨cur, inner, hn, hb, hh, hnc, hcm, hcs, ht, hr, hok⟩ := R_blk h
  obtain ⟨cur', h1, h2, h3⟩ := setCells_row vs o w cur hh (by omega)
  refine R_of_blk hn hb h1 hnc hcm (by rw [h2]; exact hcs) (inner := inner) ?_ (hr.imp_ (fun _ _ hm => d.M_move (fun k hk => setCells_far vs o k hk.2) hm)) hok
  rw [h3, List.append_assoc, List.take_append_of_le_length (by rw [List.length_take, Array.length_toList]; omega), List.take_take, Nat.min_eq_left ho, ht]
theorem R_there {α : Type} {d : Kd α} {e : Nat} {w : World} {base : Nat} {ok : Nat → Prop} {g n c : Nat} {xs : List α} (h : d.R e w base ok (.slice (some ⟨g, 0, none⟩) n c) xs) (j : Nat) : (j < c * d.sz → (w.cell? ⟨g, j, none⟩).isSome = true) ∧ w.frozen? ⟨g, j, none⟩ = false := by
  obtain ⟨cur, inner, hn, hb, hh, hnc, hcm, hcs, ht, hr, hok⟩ := R_blk h
  refine ⟨fun hj => ?_, blk_frozen hh j⟩
  rw [blk_cell hh j, Array.getElem?_eq_getElem (by omega)]
  rfl
theorem R_clear {P : Program} {α : Type} {d : Kd α} {e : Nat} {w : World} {base : Nat} {ok : Nat → Prop} {g n c : Nat} {xs : List α} (h : d.R e w base ok (.slice (some ⟨g, 0, none⟩) n c) xs) (t ty : TypeId) (z : Value) (ht : P.underlying t = some (.slice e)) (hv : ∀ w, (zeroValue e).run P w = .ok z w) (hz : z.cells.size = d.sz) (h1 : ∀ v ∈ z.cells, v.oneCell' = true) (m c2 : Nat) (hm : 0 < m) (hmc : n + m ≤ c) :
    ∃ w1, (Builtin.clear_ #[t] ty #[.slice (some ⟨g, n * d.sz, none⟩) m c2]).run P w = .ok (.tuple #[]) w1 ∧ d.R e w1 base ok (.slice (some ⟨g, 0, none⟩) n c) xs ∧ w.grownBy w1 (some g) := by
  have hl : (Builtin.zeroCells z.cells m).toList.length = m * d.sz := by rw [Array.length_toList, size_zeroCells, hz]
  have hle : (n + m) * d.sz ≤ c * d.sz := Nat.mul_le_mul_right _ hmc
  rw [Nat.add_mul] at hle
  refine ⟨_, run_clear_cells w t e ty z ht hv g (n * d.sz) m c2 _ rfl (madeCells_all h1) hm (fun j hj => (R_there h _).1 (by omega)) (fun j hj => (R_there h _).2), R_tail h _ _ (Nat.le_refl _) (by omega), grown_setCells _ _ _ _⟩
theorem R_cap {α : Type} {d : Kd α} {e : Nat} {w : World} {base : Nat} {ok : Nat → Prop} {g n c : Nat} {xs : List α} (h : d.R e w base ok (.slice (some ⟨g, 0, none⟩) n c) xs) : n = xs.length ∧ base ≤ g ∧ g < w.heap.size ∧ n ≤ c ∧ c ≤ 9223372036854775807 ∧ ok g := by
  obtain ⟨cur, inner, hn, hb, hh, hnc, hcm, _, _, _, hok⟩ := R_blk h
  unfold maxLen at hcm
  exact ⟨hn, hb, blk_lt hh, hnc, by omega, hok⟩
theorem run_copy_many {P : Program} (w : World) (dT sT ty elem : TypeId) (size : Nat) (b o dLen dCap : Nat) (a : Addr) (sLen sCap : Nat) (cs : List Value)
    (hu : P.underlying dT = some (.slice elem)) (hs : (P.info? elem).map (·.size) = some size) (hn : cs.length = Nat.min sLen dLen * size)
    (hsrc : ∀ j v, cs[j]? = some v → w.cell? (a.add j) = some v) (hc : ∀ j, j < cs.length → (w.cell? ⟨b, o + j, none⟩).isSome = true) (hf : ∀ j, j < cs.length → w.frozen? ⟨b, o + j, none⟩ = false) (h1 : ∀ v ∈ cs, v.oneCell' = true) :
    (Builtin.copy_ #[dT, sT] ty #[.slice (some ⟨b, o, none⟩) dLen dCap, .slice (some a) sLen sCap]).run P w = .ok (goInt (Nat.min sLen dLen)) (w.setCells b o cs) := by
  have hl := run_loadCells_list (P := P) w a cs hsrc
  have hst := run_storeCells_cells (P := P) b o cs 0 w (by simpa using hc) (by simpa using hf) h1
  cases hq : P.info? elem with
  | none => simp [hq] at hs
  | some i =>
    have hi : i.size = size := by simpa [hq] using hs
    simp [Builtin.copy_, run_underlying hu, Builtin.lenOf, Builtin.firstCells, sizeOf, typeInfo, hq, hi, ← hn, hl, hst]
theorem run_copy_blk {P : Program} (w : World) (dT sT elem e : TypeId) (size : Nat) (g o dLen : Nat) (a : Addr) (sLen : Nat) (cs : List Value) (cur : Array Value)
    (hu : P.underlying dT = some (.slice elem)) (hs : (P.info? elem).map (·.size) = some size) (hn : cs.length = Nat.min sLen dLen * size) (hh : w.heap[g]? = some (.cells cur e (0, 0))) (hl : o + cs.length ≤ cur.size)
    (hsrc : ∀ j v, cs[j]? = some v → w.cell? (a.add j) = some v) (h1 : ∀ v ∈ cs, v.oneCell' = true) :
    ∃ w1 cur1, (∀ ty dCap sCap, (Builtin.copy_ #[dT, sT] ty #[.slice (some ⟨g, o, none⟩) dLen dCap, .slice (some a) sLen sCap]).run P w = .ok (goInt (Nat.min sLen dLen)) w1) ∧ w1.heap[g]? = some (.cells cur1 e (0, 0)) ∧ cur1.size = cur.size ∧ cur1.toList = cur.toList.take o ++ cs ++ cur.toList.drop (o + cs.length) ∧ w.grownBy w1 (some g) := by
  obtain ⟨cur1, h2, h3, h4⟩ := setCells_row cs o w cur hh hl
  refine ⟨w.setCells g o cs, cur1, fun ty dCap sCap => run_copy_many w dT sT ty elem size g o dLen dCap a sLen sCap cs hu hs hn hsrc (fun j hj => ?_) (fun j hj => blk_frozen hh _) h1, h2, h3, h4, grown_setCells _ _ _ _⟩
  rw [blk_cell hh, Array.getElem?_eq_getElem (by omega)]
  rfl
theorem wp_copy_run {P : Program} (w : World) {o : Oper} {a : Act} {K : Act → World → Prop} {Q : Exit → Act → World → Prop} (d s : Operand) (t t' : TypeId)
    (ho : o.op = .call { callee := .builtin .copy, args := #[d, s], argTypes := #[t, t'] }) (v u : Value) (hd : a.eval d = v) (hs : a.eval s = u) {v' : Value} {w' : World}
    (hr : (Builtin.copy_ #[t, t'] o.type #[v, u]).run P w = .ok v' w') (h : K (a.put o.dst v') w') : o.wp P a w K Q := by
  unfold Oper.wp execOp
  simp only [ho, resolve, invoke, builtin, Sem.run_bind, Sem.run_pure, Result.andThen_ok, List.map_toArray, List.map_cons, List.map_nil, hd, hs, hr]
  exact h
theorem wpList_copy_run {P : Program} (w : World) {ops : Array Oper} {rest : List Oper} {o : Oper} {a : Act} {Q : Exit → Act → World → Prop} (hgd : o.guard = none) (d s : Operand) (t t' : TypeId)
    (ho : o.op = .call { callee := .builtin .copy, args := #[d, s], argTypes := #[t, t'] }) (v u : Value) (hd : a.eval d = v) (hs : a.eval s = u) {v' : Value} {w' : World}
    (hr : (Builtin.copy_ #[t, t'] o.type #[v, u]).run P w = .ok v' w') (h : wpList P ops Q rest (a.put o.dst v') w') : wpList P ops Q (o :: rest) a w :=
  wpList_plain hgd fun _ hK => wp_copy_run w d s t t' ho v u hd hs hr (hK _ _ h)
theorem step_copy_run {P : Program} {ops : Array Oper} {o : Oper} {a : Act} {w : World} {K : Act → World → Prop} {Q : Exit → Act → World → Prop} {E : Prop}
    (hg : o.guard = none) (d x : Operand) (dT sT : TypeId) (hop : o.op = Op.call { callee := Callee.builtin Builtin.copy, args := #[d, x], argTypes := #[dT, sT] })
    (v u : Value) (hd : a.eval d = v) (hx : a.eval x = u) {v' : Value} {w' : World} (hr : (Builtin.copy_ #[dT, sT] o.type #[v, u]).run P w = .ok v' w') (hK : K (a.put o.dst v') w') :
    if Region.wanted o (yielded ops a.tmps) = true then Oper.wp P o a w K Q else E := by
  have hw : Region.wanted o (yielded ops a.tmps) = true := by simp [Region.wanted, hg]
  rw [if_pos hw]
  unfold Oper.wp
  simp [execOp, hop, resolve, invoke, builtin, hd, hx, hr, Result.andThen]
  exact hK
theorem reps_one {α : Type} {d : Kd α} {w : World} {base : Nat} {ok : Nat → Prop} {xs : List α} {cs : List Value} (hs : 0 < d.sz) (h : Reps (d.M w base ok) d.sz xs cs) : ∀ v ∈ cs, v.oneCell' = true := by
  intro u hu
  obtain ⟨q, hq, rfl⟩ := List.mem_iff_getElem.1 hu
  have hql : q / d.sz < xs.length := by
    rw [Nat.div_lt_iff_lt_mul hs, ← h.1]
    exact hq
  have hc := h.2 (q / d.sz) _ (List.getElem?_eq_getElem hql)
  refine d.K_one (d.K_of_M hc) _ ?_
  rw [List.mem_iff_getElem?]
  refine ⟨q % d.sz, ?_⟩
  rw [List.getElem?_take, if_pos (Nat.mod_lt _ hs), List.getElem?_drop, Nat.mul_comm, Nat.div_add_mod, List.getElem?_eq_getElem hq]
theorem R_cases {α : Type} {d : Kd α} {e : Nat} {w : World} {base : Nat} {ok : Nat → Prop} {v : Value} {xs : List α} (h : d.R e w base ok v xs) : (v = .slice none 0 0 ∧ xs = []) ∨ ∃ g c, v = .slice (some ⟨g, 0, none⟩) xs.length c := by
  obtain ⟨_, inner, hown, _⟩ := h
  rcases hown.2 with ⟨hv, hn⟩ | ⟨g', cap', cur, hv, _⟩
  · exact .inl ⟨hv, List.eq_nil_of_length_eq_zero hn⟩
  · exact .inr ⟨g', cap', hv⟩
theorem ins_list {β : Type} (cur inner vs : List β) (a N s : Nat) (hcur : cur.take N = inner) (hlen : N + s ≤ cur.length) (hv : vs.length = s) (ha : a ≤ N) (cur1 cur2 : List β) (h1 : cur1 = cur.take (a + s) ++ inner.drop a ++ cur.drop (a + s + (inner.drop a).length)) (h2 : cur2 = cur1.take a ++ vs ++ cur1.drop (a + vs.length)) :
    cur2.take (N + s) = inner.take a ++ vs ++ inner.drop a := by
  have hil : inner.length = N := by rw [← hcur, List.length_take]; omega
  have e1 : cur1.take a = inner.take a := by
    rw [h1, List.append_assoc, List.take_append_of_le_length (by rw [List.length_take]; omega), List.take_take, ← hcur, List.take_take]
    congr 1
    omega
  have e2 : cur1.drop (a + vs.length) = inner.drop a ++ cur.drop (a + s + (inner.drop a).length) := by
    rw [h1, hv, List.append_assoc]
    rw [List.drop_left' (by rw [List.length_take]; omega)]
  rw [h2, e1, e2, ← List.append_assoc]
  rw [List.take_left' (by simp only [List.length_append, List.length_take, List.length_drop]; omega)]
theorem ins_list2 {β : Type} (row inner vs : List β) (a N s : Nat) (hrow : row.take a = inner.take a) (hlen : N + s ≤ row.length) (hv : vs.length = s) (ha : a ≤ N) (hil : inner.length = N) (cur1 cur2 : List β) (h1 : cur1 = row.take a ++ vs ++ row.drop (a + vs.length)) (h2 : cur2 = cur1.take (a + s) ++ inner.drop a ++ cur1.drop (a + s + (inner.drop a).length)) :
    cur2.take (N + s) = inner.take a ++ vs ++ inner.drop a := by
  have e1 : cur1.take (a + s) = inner.take a ++ vs := by
    rw [h1, List.take_left' (by simp only [List.length_append, List.length_take]; omega), hrow]
  rw [h2, e1]
  rw [List.take_left' (by simp only [List.length_append, List.length_take, List.length_drop]; omega)]
end Go.Proofs.Ytgcncphdjabjjaa.X
namespace Go.Proofs.Ytgcncphdjabjjaa.X
open Go.RowKit Go.Proofs.YtgcncphdjabjjaaW.PrintWords Go.Proofs.YtgcncphdjabjjaaW.PrintLast Go.Proofs.YtgcncphdjabjjaaW.PrintMore
attribute [local go_sem] xbin_geq xbin_leq xbin_gtr max2_int min2_int max_two min_two max_three min_three max_four min_four
set_option linter.unusedVariables false
set_option linter.unusedSimpArgs false
def impl_Pair_113.f (l0 : List S76) (a1 : Int) (a2 : Int) : Option (List S76) := if 0 ≤ a1 ∧ a1 < (l0.length : Int) ∧ a2 = a1 + 1 then some (l0.eraseIdx a1.toNat) else none
set_option maxHeartbeats 4000000 in
set_option maxRecDepth 100000 in
theorem impl_Pair_113.calls (P0_ : Nat → Prop) (u9000_ : Value) (l0 : List (S76)) (a1 : Int) (a2 : Int) (r : List (S76)) (w0 w : World) (hB : Below w0.heap.size w0 w) (ho0 : Kd.R k76 76 w w0.heap.size P0_ u9000_ l0) (h : impl_Pair_113.f l0 a1 a2 = some r) :
    Calls Try.prog 113 #[u9000_, .int .i64 a1, .int .i64 a2] w fun e w' => ∃ v0_ : Value, e = .returned (v0_) ∧ Kd.R k76 76 w' w0.heap.size (fun k_ => (P0_ k_ ∨ w.heap.size ≤ k_)) v0_ r ∧ Below w0.heap.size w0 w' ∧ Kept w w' (fun k_ => P0_ k_) := by
  unfold impl_Pair_113.f at h
  by_cases hs : 0 ≤ a1 ∧ a1 < (l0.length : Int) ∧ a2 = a1 + 1
  · rw [if_pos hs] at h
    obtain rfl := Option.some.inj h
    obtain ⟨h0, h1, rfl⟩ := hs
    clear h
    obtain ⟨k, rfl⟩ : ∃ k : Nat, a1 = (k : Int) := ⟨a1.toNat, by omega⟩
    rw [Int.toNat_natCast]
    obtain ⟨g, cap, rfl, hbg, hgl, cells, hcells⟩ := Kd.R_form ho0 (by omega)
    clear hcells cells hbg hgl
    obtain ⟨_, hbg, hgl, hnc, hcm, hok⟩ := R_cap ho0
    have HO := Aside0.mk ho0
    have HBB := Aside0.mk hB
    clear ho0 hB
    obtain ⟨m, hm⟩ : ∃ m, l0.length = m + 1 := ⟨l0.length - 1, by omega⟩
    rw [hm] at HO h1 hnc ⊢
    clear hm
    have p1 : (k : Int) ≤ (k : Int) + 1 := by omega
    have p2 : (k : Int) + 1 ≤ (m : Int) + 1 := by omega
    have p3 : (m : Int) + 1 ≤ (cap : Int) := by omega
    have p5 : ((m : Int) + 1).toNat = m + 1 := by omega
    have p6 : ¬ (cap = m) := by omega
    have p7 : m ≤ cap := by omega
    have p8 : (m : Int) ≤ (m : Int) + 1 := by omega
    have p9 : 0 ≤ (m : Int) + 1 := by omega
    have p10 : m + 1 - m = 1 := by omega
    have p4 : ((k : Int) == (k : Int) + 1) = false := by rw [beq_eq_false_iff_ne]; omega
    go_enter Try.func113, Try.ntmps113
    go_wp2_with fail
    have n1 : k ≤ cap := by omega
    have n2 : k + 1 ≤ cap := by omega
    have n3 : (k : Int) + 1 ≤ (cap : Int) := by omega
    have n4 : 0 ≤ (k : Int) + 1 := by omega
    have hA : (if cap = k + 1 then some (⟨g, 0, none⟩ : Addr) else some ⟨g, (k + 1) * 2, none⟩) = if cap = k + 1 then some ⟨g, 0, none⟩ else (some (⟨g, 0, none⟩ : Addr)).map (·.add ((k + 1) * k76.sz)) := by
      rw [Option.map_some, add_plain]
      rfl
    have HA := Aside0.mk hA
    have HI := Aside0.mk (show (Try.prog.info? 76).map (·.size) = some k76.sz from by kernel_rfl)
    clear hA
    go_region_law (refine Kd.R_delete_step k76 (w0 := w0) w0.heap.size (by rfl) (.tmp 22) (.tmp 25) 26 76 (by rfl) Try.underlying26 HI.out (g := g) (n := m + 1) (c := cap) (k := k) (m := m - k) (by rfl) (by rfl) HA.out (by omega) (Kd.R_drew HO.out) (by omega) (below_drew HBB.out) HBB.out.size ?_; intro w1 ho1 hb1 hg1)
    rw [Nat.add_sub_cancel] at *
    obtain ⟨w2, hr2, ho2, hg2⟩ := R_clear (P := Try.prog) ho1 26 0 (.agg #[.string ⟨#[]⟩, .string ⟨#[]⟩]) Try.underlying26 Try.zeroValue76 rfl (by decide) 1 (cap - m) (by omega) (by omega)
    have hr3 : ∀ ty, (Builtin.clear_ #[26] ty #[.slice (some ⟨g, m * 2, none⟩) 1 (cap - m)]).run Try.prog w1 = .ok (.tuple #[]) w2 := fun ty => hr2
    clear hr2
    have HO2 := Aside0.mk ho2
    have HG2 := Aside0.mk hg2
    have HG1 := Aside0.mk hg1
    clear ho1 ho2 hg2 hg1
    go_wp2_with fail
    all_goals
      go_ret
      try (have hck : cap = k + 1 := by assumption
           subst hck)
      exact ⟨_, rfl, Kd.R_mono HO2.out (fun _ hk => .inl hk), hb1.grown HG2.out hb1.size (fun k hk => by injection hk with hk; subst hk; exact hbg), Kept.of_grown HG2.out (Kept.of_grown HG1.out (Kept.refl w _) (fun k hk => by injection hk with hk; subst hk; exact .inl hok)) (fun k hk => by injection hk with hk; subst hk; exact .inl hok)⟩
  · rw [if_neg hs] at h
    cases h
end Go.Proofs.Ytgcncphdjabjjaa.X
