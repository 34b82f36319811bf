import Derived.Test.YtcpcifgpcemaeaaKFnExactDiskSync3
import Derived.Test.YtcpcifgpcemaeaaKFnExactDiskSync4
import Derived.Test.YtcpcifgpcemaeaaKFnExactDiskSync8
import Derived.Test.YtcpcifgpcemaeaaKFnExactDiskSync9
import Derived.Test.YtcpcifgpcemaeaaKFnExactDiskSync10
import Derived.Test.YtcpcifgpcemaeaaKFnExactDiskSync11
import Derived.Test.YtcpcifgpcemaeaaKFnExactDiskSync12
import Derived.Test.YtcpcifgpcemaeaaKFnExactDiskSync13
import Derived.LoopTactic
import Derived.WalkSpells
namespace Go.Proofs.Ytcpcifgpcemaeaa.X
open Go.RowKit Go.Proofs.YtcpcifgpcemaeaaW.PrintWords Go.Proofs.YtcpcifgpcemaeaaW.PrintLast Go.Proofs.YtcpcifgpcemaeaaW.PrintMore
attribute [local go_sem] xbin_geq xbin_leq xbin_gtr max2_int min2_int max_two min_two max_three min_three max_four min_four
set_option linter.unusedVariables false
set_option linter.unusedSimpArgs false
theorem diskB_len {s : List ByteArray} {c : List S95} {a : Bool} {q : List Int} (h : diskB s c a q = true) : (1 ≤ s.length ∧ s.length ≤ 80) ∧ c.length ≤ 500 ∧ q.length ≤ 500 ∧ c.all (pendB s.length) = true := by
  unfold diskB at h
  simp only [Bool.and_eq_true, decide_eq_true_eq] at h
  exact ⟨h.1, h.2.1, h.2.2.1, h.2.2.2.2.2⟩
theorem spec_own {s : List ByteArray} {c : List S95} (a : Bool) {q : List Int} (hs : s.length ≤ 1000000) (hc : c.length ≤ 1000000) (hq : q.length ≤ 1000000) : spec_l02Own.f s c a q = some (s, c, a, q) := by
  unfold spec_l02Own.f
  rw [Option.bind_some, if_pos (by simp; omega), Option.bind_some, if_pos (by simp; omega), Option.bind_some, if_pos (by simp; omega)]
  rfl
theorem impl_own {s : List ByteArray} {c : List S95} (a : Bool) {q : List Int} (hs : s.length ≤ 1000000) (hc : c.length ≤ 1000000) (hq : q.length ≤ 1000000) : impl_cloneDisk.f s c a q = some (s, c, a, q) := by
  unfold impl_cloneDisk.f
  have h1 : slices_Clone_string_string.f s = some s := by unfold slices_Clone_string_string.f; rw [if_pos (by omega)]
  have h2 : impl_Pending_118.f c = some c := by unfold impl_Pending_118.f; rw [if_pos (by omega)]
  have h3 : slices_Clone_int_int.f q = some q := by unfold slices_Clone_int_int.f; rw [if_pos (by omega)]
  rw [h1, Option.bind_some, h2, Option.bind_some, h3, Option.bind_some]
end Go.Proofs.Ytcpcifgpcemaeaa.X
namespace Go.Proofs.Ytcpcifgpcemaeaa.X
open Go.RowKit Go.Proofs.YtcpcifgpcemaeaaW.PrintWords Go.Proofs.YtcpcifgpcemaeaaW.PrintLast Go.Proofs.YtcpcifgpcemaeaaW.PrintMore
attribute [local go_sem] xbin_geq xbin_leq xbin_gtr max2_int min2_int max_two min_two max_three min_three max_four min_four
set_option linter.unusedVariables false
set_option linter.unusedSimpArgs false
def DiskAt (w0 w : World) (g : Nat) (vs vc vk : Value) (s : List ByteArray) (c : List S95) (a : Bool) (q : List Int) : Prop :=
  w0.heap.size ≤ g ∧ w.heap[g]? = some (.cells #[vs, vc, .bool a, vk] 26 (0, 0)) ∧ Kd.R Kd.string 9 w w0.heap.size (fun _ => True) vs s ∧ Kd.R k95 95 w w0.heap.size (fun _ => True) vc c ∧ Kd.R (Kd.int .i64) 3 w w0.heap.size (fun _ => True) vk q
theorem DiskAt.below {w0 w w1 : World} {g : Nat} {vs vc vk : Value} {s : List ByteArray} {c : List S95} {a : Bool} {q : List Int} (h : DiskAt w0 w g vs vc vk s c a q) (hb : Below w.heap.size w w1) : DiskAt w0 w1 g vs vc vk s c a q :=
  ⟨h.1, blk_below h.2.1 hb, Kd.R_below h.2.2.1 hb, Kd.R_below h.2.2.2.1 hb, Kd.R_below h.2.2.2.2 hb⟩
theorem ne_string {t : Nat} (h : 9 ≠ t) : ∀ q, q ∈ 9 :: Kd.string.E → q ≠ t := fun q hq => by
  have : q = 9 := by simpa [Kd.string, Kd.scalar] using hq
  rw [this]; exact h
theorem ne_ints {t : Nat} (h : 3 ≠ t) : ∀ q, q ∈ 3 :: (Kd.int .i64).E → q ≠ t := fun q hq => by
  have : q = 3 := by simpa [Kd.int, Kd.scalar] using hq
  rw [this]; exact h
theorem ne_pend {t : Nat} (h : 95 ≠ t) : ∀ q, q ∈ 95 :: k95.E → q ≠ t := fun q hq => by
  have : q = 95 := by simpa [k95, Kd.iso, Kd.pair, Kd.int, Kd.string, Kd.scalar] using hq
  rw [this]; exact h
set_option maxHeartbeats 4000000 in
set_option maxRecDepth 100000 in
theorem disk_write (w0 w : World) (g : Nat) (vs vc vk : Value) (s : List ByteArray) (c : List S95) (a : Bool) (q : List Int) (at_ : Int) (data : ByteArray) (hB : Below w0.heap.size w0 w) (hd : DiskAt w0 w g vs vc vk s c a q) (hl : c.length ≤ 1000000) :
    Calls Try.prog 80 #[.pointer (some ⟨g, 0, none⟩), .int .i64 at_, .string data] w fun e w' => e = .returned (.tuple #[]) ∧ ∃ vc', DiskAt w0 w' g vs vc' vk s (c ++ [⟨at_, data⟩]) a q ∧ Below w0.heap.size w0 w' ∧ ∀ k cells t, w.heap[k]? = some (.cells cells t (0, 0)) → k ≠ g → 95 ≠ t → w'.heap[k]? = some (.cells cells t (0, 0)) := by
  obtain ⟨hg, hk, hs, hc, hq⟩ := hd
  have HB := Aside0.mk hB
  have HC := Aside0.mk hc
  have HS := Aside0.mk hs
  have HQ := Aside0.mk hq
  have HK := Aside0.mk hk
  have hk1 : w.cell? ⟨g, 1, none⟩ = some vc := blk_cell hk 1
  clear hs hc hq hB hk
  go_enter Try.func80, Try.ntmps80
  go_wp2_with (at_builtin; refine Kd.R_append k95 (w0 := w0) w0.heap.size rfl (.tmp 10) (.tmp 14) 23 95 (.agg #[.int .i64 0, .string ⟨#[]⟩]) 24 rfl Try.underlying23 info95 rfl (by decide) (by decide) vc c ⟨at_, data⟩ [.int .i64 at_, .string data] (fun _ => True) (fun _ => False) rfl rfl (k95_mkM _ _ _ _) (fun _ h => h.elim) (fun _ _ => trivial) HC.out HB.out HB.out.size ?aL ?_; (case aL => omega); intro v1 w1 ho1 hb1 hg1 hat1; obtain ⟨gc, cc, rfl, _⟩ := Kd.R_form ho1 (by simp); have hkb := blk_grown HK.out hg1 (Kd.R_ne HC.out HK.out (by decide)); have hk2 : w1.cell? ⟨g, 1, none⟩ = some vc := blk_cell hkb 1; have hf2 := blk_frozen hkb 1; have HK1 := Aside0.mk hkb; have HC1 := Aside0.mk ho1; have HB1 := Aside0.mk hb1; have HS1 := Aside0.mk (Kd.R_over HS.out HC.out (ne_string (by decide)) hg1); have HQ1 := Aside0.mk (Kd.R_over HQ.out HC.out (ne_ints (by decide)) hg1); have HKP := Aside0.mk (show ∀ k cells t, w.heap[k]? = some (.cells cells t (0, 0)) → k ≠ g → 95 ≠ t → w1.heap[k]? = some (.cells cells t (0, 0)) from fun k cells t hb _ ht => blk_grown hb hg1 (Kd.R_ne HC.out hb ht)); clear hkb ho1 hb1 hg1 hat1)
  go_end0
  refine ⟨rfl, _, ⟨hg, blk_set HK1.out 1 _, Kd.R_set HS1.out HK1.out (ne_string (by decide)) 1 _, ?_, Kd.R_set HQ1.out HK1.out (ne_ints (by decide)) 1 _⟩, HB1.out.setCell (p := ⟨g, 1, none⟩) hg _, fun k cells t hb hk ht => (Below.heap_setCell _ _ _ k hk).trans (HKP.out k cells t hb hk ht)⟩
  have h := Kd.R_set HC1.out HK1.out (ne_pend (by decide)) 1 (Value.slice (some ⟨gc, 0, none⟩) (c.length + 1) cc)
  simpa using h
theorem cells4 {W : World} {g : Nat} {t : TypeId} {x0 x1 x2 x3 : Value} (h : W.heap[g]? = some (.cells #[x0, x1, x2, x3] t (0, 0))) : W.cell? ⟨g, 0, none⟩ = some x0 ∧ W.cell? ⟨g, 1, none⟩ = some x1 ∧ W.cell? ⟨g, 2, none⟩ = some x2 ∧ W.cell? ⟨g, 3, none⟩ = some x3 ∧ W.frozen? ⟨g, 0, none⟩ = false ∧ W.frozen? ⟨g, 1, none⟩ = false ∧ W.frozen? ⟨g, 2, none⟩ = false ∧ W.frozen? ⟨g, 3, none⟩ = false :=
  ⟨blk_cell h 0, blk_cell h 1, blk_cell h 2, blk_cell h 3, blk_frozen h 0, blk_frozen h 1, blk_frozen h 2, blk_frozen h 3⟩
theorem set4_blk {w : World} {g : Nat} {t : TypeId} {x0 x1 x2 x3 : Value} (h : w.heap[g]? = some (.cells #[x0, x1, x2, x3] t (0, 0))) (y0 y1 y2 y3 : Value) : ((((w.setCell ⟨g, 0, none⟩ y0).setCell ⟨g, 1, none⟩ y1).setCell ⟨g, 2, none⟩ y2).setCell ⟨g, 3, none⟩ y3).heap[g]? = some (.cells #[y0, y1, y2, y3] t (0, 0)) :=
  blk_put (cs' := #[y0, y1, y2, y3]) (blk_put (cs' := #[y0, y1, y2, x3]) (blk_put (cs' := #[y0, y1, x2, x3]) (blk_put (cs' := #[y0, x1, x2, x3]) h 0 _ rfl) 1 _ rfl) 2 _ rfl) 3 _ rfl
theorem set4_below {w a : World} {g B : Nat} (h : Below B a w) (hg : B ≤ g) (y0 y1 y2 y3 : Value) : Below B a ((((w.setCell ⟨g, 0, none⟩ y0).setCell ⟨g, 1, none⟩ y1).setCell ⟨g, 2, none⟩ y2).setCell ⟨g, 3, none⟩ y3) :=
  (((h.setCell (p := ⟨g, 0, none⟩) hg _).setCell (p := ⟨g, 1, none⟩) hg _).setCell (p := ⟨g, 2, none⟩) hg _).setCell (p := ⟨g, 3, none⟩) hg _
theorem set4_far {w : World} {g k : Nat} {o : Obj} (h : w.heap[k]? = some o) (hk : k ≠ g) (y0 y1 y2 y3 : Value) : ((((w.setCell ⟨g, 0, none⟩ y0).setCell ⟨g, 1, none⟩ y1).setCell ⟨g, 2, none⟩ y2).setCell ⟨g, 3, none⟩ y3).heap[k]? = some o :=
  (Below.heap_setCell _ _ _ k hk).trans ((Below.heap_setCell _ _ _ k hk).trans ((Below.heap_setCell _ _ _ k hk).trans ((Below.heap_setCell _ _ _ k hk).trans h)))
theorem R_set4 {α : Type} {d : Kd α} {e : Nat} {w : World} {base : Nat} {ok : Nat → Prop} {v : Value} {xs : List α} {g t : Nat} {cells : Array Value} (h : d.R e w base ok v xs) (hb : w.heap[g]? = some (.cells cells t (0, 0))) (ht : ∀ q, q ∈ e :: d.E → q ≠ t) (y0 y1 y2 y3 : Value) : d.R e ((((w.setCell ⟨g, 0, none⟩ y0).setCell ⟨g, 1, none⟩ y1).setCell ⟨g, 2, none⟩ y2).setCell ⟨g, 3, none⟩ y3) base ok v xs :=
  Kd.R_set (Kd.R_set (Kd.R_set (Kd.R_set h hb ht 0 _) (blk_set hb 0 _) ht 1 _) (blk_set (blk_set hb 0 _) 1 _) ht 2 _) (blk_set (blk_set (blk_set hb 0 _) 1 _) 2 _) ht 3 _
theorem DiskAt.set4 {w0 w : World} {g k : Nat} {vs vc vk : Value} {s : List ByteArray} {c : List S95} {a : Bool} {q : List Int} {cells : Array Value} (h : DiskAt w0 w g vs vc vk s c a q) (hb : w.heap[k]? = some (.cells cells 26 (0, 0))) (hk : g ≠ k) (y0 y1 y2 y3 : Value) : DiskAt w0 ((((w.setCell ⟨k, 0, none⟩ y0).setCell ⟨k, 1, none⟩ y1).setCell ⟨k, 2, none⟩ y2).setCell ⟨k, 3, none⟩ y3) g vs vc vk s c a q :=
  ⟨h.1, set4_far h.2.1 hk _ _ _ _, R_set4 h.2.2.1 hb (ne_string (by decide)) _ _ _ _, R_set4 h.2.2.2.1 hb (ne_pend (by decide)) _ _ _ _, R_set4 h.2.2.2.2 hb (ne_ints (by decide)) _ _ _ _⟩
def impl_DiskWrite.f (l0_0 : List ByteArray) (l0_1 : List S95) (a0_2 : Bool) (l0_3 : List Int) (a1 : Int) (a2 : ByteArray) : Option (List ByteArray × List S95 × Bool × List Int × Int) :=
  if 65536 < a2.size then some ([], [], false, [], 2) else if diskB l0_0 l0_1 a0_2 l0_3 = true then (if pendB l0_0.length ⟨a1, a2⟩ = true then (if l0_1.length = 500 then some (l0_0, l0_1, a0_2, l0_3, 7) else some (l0_0, l0_1 ++ [⟨a1, a2⟩], a0_2, l0_3, 0)) else some ([], [], false, [], 4)) else some ([], [], false, [], 1)
set_option maxHeartbeats 16000000 in
set_option maxRecDepth 100000 in
theorem impl_DiskWrite.calls (A0_0 : Option Addr) (c0_0 : Nat) (l0_0 : List ByteArray) (A0_1 : Option Addr) (c0_1 : Nat) (l0_1 : List (S95)) (a0_2 : Bool) (A0_3 : Option Addr) (c0_3 : Nat) (l0_3 : List Int) (a1 : Int) (a2 : ByteArray) (r1 : List ByteArray) (r2 : List (S95)) (r3 : Bool) (r4 : List Int) (r5 : Int) (w : World) (hr0_0 : Kd.C Kd.string w A0_0 l0_0.length l0_0) (hc0_0 : l0_0.length ≤ c0_0) (hr0_1 : Kd.C k95 w A0_1 l0_1.length l0_1) (hc0_1 : l0_1.length ≤ c0_1) (hr0_3 : Kd.C (Kd.int .i64) w A0_3 l0_3.length l0_3) (hc0_3 : l0_3.length ≤ c0_3) (h : impl_DiskWrite.f l0_0 l0_1 a0_2 l0_3 a1 a2 = some (r1, r2, r3, r4, r5)) :
    Calls Try.prog 27 #[.agg #[.slice A0_0 l0_0.length c0_0, .slice A0_1 l0_1.length c0_1, .bool a0_2, .slice A0_3 l0_3.length c0_3], .int .i64 a1, .string a2] w fun e w' => ∃ v0_ v1_ v3_ : Value, e = .returned (.tuple #[.agg #[v0_, v1_, .bool r3, v3_], .int .i64 r5]) ∧ Kd.R Kd.string 9 w' w.heap.size (fun _ => True) v0_ r1 ∧ Kd.R k95 95 w' w.heap.size (fun _ => True) v1_ r2 ∧ Kd.R (Kd.int .i64) 3 w' w.heap.size (fun _ => True) v3_ r4 ∧ Below w.heap.size w w' := by
  unfold impl_DiskWrite.f at h
  have hu := Try.underlying26
  have HR0 := Aside0.mk hr0_0
  have HR1 := Aside0.mk hr0_1
  have HR3 := Aside0.mk hr0_3
  have hm := hr0_1.2.1
  have hB0 : Below w.heap.size w ((w.alloc (.cells #[.slice A0_0 l0_0.length c0_0, .slice A0_1 l0_1.length c0_1, .bool a0_2, .slice A0_3 l0_3.length c0_3] 26 (0, 0))).alloc (.cells #[.slice none 0 0, .slice none 0 0, .bool false, .slice none 0 0] 26 (0, 0))) := below_alloc (below_alloc (Below.refl _ w) _) _
  have hD0 : ((w.alloc (.cells #[.slice A0_0 l0_0.length c0_0, .slice A0_1 l0_1.length c0_1, .bool a0_2, .slice A0_3 l0_3.length c0_3] 26 (0, 0))).alloc (.cells #[.slice none 0 0, .slice none 0 0, .bool false, .slice none 0 0] 26 (0, 0))).heap[w.heap.size]? = some (.cells #[.slice A0_0 l0_0.length c0_0, .slice A0_1 l0_1.length c0_1, .bool a0_2, .slice A0_3 l0_3.length c0_3] 26 (0, 0)) := blk_alloc (blk_new w _) _
  have hsz1 : (w.alloc (.cells #[.slice A0_0 l0_0.length c0_0, .slice A0_1 l0_1.length c0_1, .bool a0_2, .slice A0_3 l0_3.length c0_3] 26 (0, 0))).heap.size = w.heap.size + 1 := by show (w.heap.push _).size = _; rw [Array.size_push]
  have hZ0 : ((w.alloc (.cells #[.slice A0_0 l0_0.length c0_0, .slice A0_1 l0_1.length c0_1, .bool a0_2, .slice A0_3 l0_3.length c0_3] 26 (0, 0))).alloc (.cells #[.slice none 0 0, .slice none 0 0, .bool false, .slice none 0 0] 26 (0, 0))).heap[w.heap.size + 1]? = some (.cells #[.slice none 0 0, .slice none 0 0, .bool false, .slice none 0 0] 26 (0, 0)) := by rw [← hsz1]; exact blk_new _ _
  have HB0 := Aside0.mk hB0
  have HD0 := Aside0.mk hD0
  have HZ0 := Aside0.mk hZ0
  clear hr0_0 hr0_1 hr0_3 hB0 hD0 hZ0 hsz1
  by_cases h1 : 65536 < a2.size
  · rw [if_pos h1] at h
    simp only [Option.some.injEq, Prod.mk.injEq] at h
    obtain ⟨rfl, rfl, rfl, rfl, rfl⟩ := h
    have c1 : decide (65536 < (a2.size : Int)) = true := decide_eq_true (by omega)
    go_enter Try.func27, Try.ntmps27
    go_wp2_with fail
    refine bodyPost_ret (results_ct rfl _ _ (w.heap.size + 1) 26 #[.slice none 0 0, .slice none 0 0, .bool false, .slice none 0 0] (0, 0) _ rfl (HZ0.out) Try.underlying26 rfl (by kernel_rfl)) rfl ?_
    exact ⟨_, _, _, rfl, Kd.R_nil _ _ _ _ _, Kd.R_nil _ _ _ _ _, Kd.R_nil _ _ _ _ _, HB0.out⟩
  · rw [if_neg h1] at h
    have c1 : decide (65536 < (a2.size : Int)) = false := decide_eq_false (by omega)
    have HOK := Aside0.mk (show impl_DiskOK.f l0_0 l0_1 a0_2 l0_3 = some (diskB l0_0 l0_1 a0_2 l0_3) from rfl)
    cases hd : diskB l0_0 l0_1 a0_2 l0_3 with
    | false =>
      rw [hd] at h HOK
      rw [if_neg (by simp)] at h
      simp only [Option.some.injEq, Prod.mk.injEq] at h
      obtain ⟨rfl, rfl, rfl, rfl, rfl⟩ := h
      clear hd
      go_enter Try.func27, Try.ntmps27
      go_wp2_with fail
      refine (impl_DiskOK.calls _ _ _ _ _ _ _ _ _ _ _ _ (Kd.C_below HR0.out HB0.out) hc0_0 (Kd.C_below HR1.out HB0.out) hc0_1 (Kd.C_below HR3.out HB0.out) hc0_3 HOK.out).mono ?_
      rintro e w1 ⟨rfl, hb1⟩
      have HB1 := Aside0.mk (below_step HB0.out hb1)
      have HD1 := Aside0.mk (blk_below HD0.out hb1)
      have HZ1 := Aside0.mk (blk_below HZ0.out hb1)
      obtain ⟨d0, d1, d2, d3, _, _, _, _⟩ := cells4 HD1.out
      obtain ⟨z0, z1, z2, z3, z4, z5, z6, z7⟩ := cells4 HZ1.out
      clear hb1
      go_wp2_with fail
      refine bodyPost_ret (results_ct rfl _ _ (w.heap.size + 1) 26 #[.slice none 0 0, .slice none 0 0, .bool false, .slice none 0 0] (0, 0) _ rfl (set4_blk HZ1.out _ _ _ _) Try.underlying26 rfl (by kernel_rfl)) rfl ?_
      exact ⟨_, _, _, rfl, Kd.R_nil _ _ _ _ _, Kd.R_nil _ _ _ _ _, Kd.R_nil _ _ _ _ _, set4_below HB1.out (by omega) _ _ _ _⟩
    | true =>
      have hl := diskB_len hd
      rw [hd] at h HOK
      rw [if_pos rfl] at h
      clear hd
      have hwr : IntKind.i64.wrap ((l0_0.length : Int) - 1) = (l0_0.length : Int) - 1 := by rw [IntKind.wrap_i64]; omega
      have hw := within_is a1 0 ((l0_0.length : Int) - 1)
      have HCL := Aside0.mk (impl_own (s := l0_0) (c := l0_1) a0_2 (q := l0_3) (by omega) (by omega) (by omega))
      have hlen : l0_1.length ≤ 500 := hl.2.1
      clear hl
      by_cases h2 : 0 ≤ a1 ∧ a1 ≤ (l0_0.length : Int) - 1
      · rw [decide_eq_true h2] at hw
        have HW := Aside0.mk hw
        clear hw
        by_cases h3 : a2.size ≤ 420
        · have c3 : decide (420 < (a2.size : Int)) = false := decide_eq_false (by omega)
          rw [if_pos (by unfold pendB; simp only; rw [decide_eq_true h2, decide_eq_true h3]; rfl)] at h
          by_cases h4 : l0_1.length = 500
          · rw [if_pos h4] at h
            simp only [Option.some.injEq, Prod.mk.injEq] at h
            obtain ⟨rfl, rfl, rfl, rfl, rfl⟩ := h
            have c4 : ((l0_1.length : Int) == 500) = true := beq_iff_eq.2 (by omega)
            have H4 := Aside0.mk h4
            clear h4 h2
            go_enter Try.func27, Try.ntmps27
            go_wp2_with fail
            refine (impl_DiskOK.calls _ _ _ _ _ _ _ _ _ _ _ _ (Kd.C_below HR0.out HB0.out) hc0_0 (Kd.C_below HR1.out HB0.out) hc0_1 (Kd.C_below HR3.out HB0.out) hc0_3 HOK.out).mono ?_
            rintro e w1 ⟨rfl, hb1⟩
            have HB1 := Aside0.mk (below_step HB0.out hb1)
            have HD1 := Aside0.mk (blk_below HD0.out hb1)
            have HZ1 := Aside0.mk (blk_below HZ0.out hb1)
            obtain ⟨d0, d1, d2, d3, _, _, _, _⟩ := cells4 HD1.out
            obtain ⟨z0, z1, z2, z3, z4, z5, z6, z7⟩ := cells4 HZ1.out
            clear hb1
            go_wp2_with fail
            refine (impl_within.calls _ _ _ _ _ HW.out).mono ?_
            rintro e w2 ⟨rfl, hb2⟩
            have HB2 := Aside0.mk (by first | exact below_step HB1.out hb2 | exact below_step HB1.out hb2.below)
            have HD2 := Aside0.mk (by first | exact blk_below HD1.out hb2 | exact blk_below HD1.out hb2.below)
            have HZ2 := Aside0.mk (by first | exact blk_below HZ1.out hb2 | exact blk_below HZ1.out hb2.below)
            clear d0 d1 d2 d3 z0 z1 z2 z3 z4 z5 z6 z7 HD1 HZ1 HB1 hb2
            obtain ⟨d0, d1, d2, d3, _, _, _, _⟩ := cells4 HD2.out
            obtain ⟨z0, z1, z2, z3, z4, z5, z6, z7⟩ := cells4 HZ2.out
            go_wp2_with fail
            refine (impl_cloneDisk.calls _ _ _ _ _ _ _ _ _ _ _ _ _ _ _ (Kd.C_below HR0.out HB2.out) hc0_0 (Kd.C_below HR1.out HB2.out) hc0_1 (Kd.C_below HR3.out HB2.out) hc0_3 HCL.out).mono ?_
            rintro e w3 ⟨x0, x1, x3, rfl, hs3, hc3, hq3, hb3⟩
            have HB3 := Aside0.mk (below_step HB2.out hb3)
            have HD3 := Aside0.mk (blk_below HD2.out hb3)
            have HZ3 := Aside0.mk (blk_below HZ2.out hb3)
            have hs4 := Kd.R_lower hs3 HB2.out.size
            have hc4 := Kd.R_lower hc3 HB2.out.size
            have hq4 := Kd.R_lower hq3 HB2.out.size
            obtain ⟨X0, y0, rfl, _, _⟩ := Kd.R_reads hs3
            obtain ⟨X1, y1, rfl, _, _⟩ := Kd.R_reads hc3
            obtain ⟨X3, y3, rfl, _, _⟩ := Kd.R_reads hq3
            have HA3 := Aside0.mk (show DiskAt w (w3.alloc (.cells #[.slice X0 l0_0.length y0, .slice X1 l0_1.length y1, .bool a0_2, .slice X3 l0_3.length y3] 26 (0, 0))) w3.heap.size (.slice X0 l0_0.length y0) (.slice X1 l0_1.length y1) (.slice X3 l0_3.length y3) l0_0 l0_1 a0_2 l0_3 from ⟨HB3.out.size, blk_new w3 _, Kd.R_alloc hs4 _, Kd.R_alloc hc4 _, Kd.R_alloc hq4 _⟩)
            have HBA := Aside0.mk (below_alloc HB3.out (.cells #[.slice X0 l0_0.length y0, .slice X1 l0_1.length y1, .bool a0_2, .slice X3 l0_3.length y3] 26 (0, 0)))
            have HDA := Aside0.mk (blk_alloc HD3.out (.cells #[.slice X0 l0_0.length y0, .slice X1 l0_1.length y1, .bool a0_2, .slice X3 l0_3.length y3] 26 (0, 0)))
            have HZA := Aside0.mk (blk_alloc HZ3.out (.cells #[.slice X0 l0_0.length y0, .slice X1 l0_1.length y1, .bool a0_2, .slice X3 l0_3.length y3] 26 (0, 0)))
            have hg3 := blk_lt HZ3.out
            have hgne : w3.heap.size ≠ w.heap.size + 1 := by omega
            have HGN := Aside0.mk hgne
            clear hs3 hc3 hq3 hs4 hc4 hq4 hb3 hg3 hgne d0 d1 d2 d3 z0 z1 z2 z3 z4 z5 z6 z7 HD2 HZ2 HB2
            obtain ⟨d0, d1, d2, d3, _, _, _, _⟩ := cells4 HDA.out
            obtain ⟨z0, z1, z2, z3, z4, z5, z6, z7⟩ := cells4 HZA.out
            obtain ⟨e0, e1, e2, e3, _, _, _, _⟩ := cells4 HA3.out.2.1
            go_wp2_with fail
            refine bodyPost_ret (results_ct rfl _ _ (w.heap.size + 1) 26 #[.slice X0 l0_0.length y0, .slice X1 l0_1.length y1, .bool a0_2, .slice X3 l0_3.length y3] (0, 0) _ rfl (set4_blk HZA.out _ _ _ _) Try.underlying26 rfl (by kernel_rfl)) rfl ?_
            have hfin := DiskAt.set4 HA3.out HZA.out HGN.out (.slice X0 l0_0.length y0) (.slice X1 l0_1.length y1) (.bool a0_2) (.slice X3 l0_3.length y3)
            exact ⟨_, _, _, rfl, hfin.2.2.1, hfin.2.2.2.1, hfin.2.2.2.2, set4_below HBA.out (by omega) _ _ _ _⟩
          · rw [if_neg h4] at h
            simp only [Option.some.injEq, Prod.mk.injEq] at h
            obtain ⟨rfl, rfl, rfl, rfl, rfl⟩ := h
            have c4 : ((l0_1.length : Int) == 500) = false := beq_eq_false_iff_ne.2 (by omega)
            have H4 := Aside0.mk h4
            clear h4 h2
            go_enter Try.func27, Try.ntmps27
            go_wp2_with fail
            refine (impl_DiskOK.calls _ _ _ _ _ _ _ _ _ _ _ _ (Kd.C_below HR0.out HB0.out) hc0_0 (Kd.C_below HR1.out HB0.out) hc0_1 (Kd.C_below HR3.out HB0.out) hc0_3 HOK.out).mono ?_
            rintro e w1 ⟨rfl, hb1⟩
            have HB1 := Aside0.mk (below_step HB0.out hb1)
            have HD1 := Aside0.mk (blk_below HD0.out hb1)
            have HZ1 := Aside0.mk (blk_below HZ0.out hb1)
            obtain ⟨d0, d1, d2, d3, _, _, _, _⟩ := cells4 HD1.out
            obtain ⟨z0, z1, z2, z3, z4, z5, z6, z7⟩ := cells4 HZ1.out
            clear hb1
            go_wp2_with fail
            refine (impl_within.calls _ _ _ _ _ HW.out).mono ?_
            rintro e w2 ⟨rfl, hb2⟩
            have HB2 := Aside0.mk (by first | exact below_step HB1.out hb2 | exact below_step HB1.out hb2.below)
            have HD2 := Aside0.mk (by first | exact blk_below HD1.out hb2 | exact blk_below HD1.out hb2.below)
            have HZ2 := Aside0.mk (by first | exact blk_below HZ1.out hb2 | exact blk_below HZ1.out hb2.below)
            clear d0 d1 d2 d3 z0 z1 z2 z3 z4 z5 z6 z7 HD1 HZ1 HB1 hb2
            obtain ⟨d0, d1, d2, d3, _, _, _, _⟩ := cells4 HD2.out
            obtain ⟨z0, z1, z2, z3, z4, z5, z6, z7⟩ := cells4 HZ2.out
            go_wp2_with fail
            refine (impl_cloneDisk.calls _ _ _ _ _ _ _ _ _ _ _ _ _ _ _ (Kd.C_below HR0.out HB2.out) hc0_0 (Kd.C_below HR1.out HB2.out) hc0_1 (Kd.C_below HR3.out HB2.out) hc0_3 HCL.out).mono ?_
            rintro e w3 ⟨x0, x1, x3, rfl, hs3, hc3, hq3, hb3⟩
            have HB3 := Aside0.mk (below_step HB2.out hb3)
            have HD3 := Aside0.mk (blk_below HD2.out hb3)
            have HZ3 := Aside0.mk (blk_below HZ2.out hb3)
            have hs4 := Kd.R_lower hs3 HB2.out.size
            have hc4 := Kd.R_lower hc3 HB2.out.size
            have hq4 := Kd.R_lower hq3 HB2.out.size
            obtain ⟨X0, y0, rfl, _, _⟩ := Kd.R_reads hs3
            obtain ⟨X1, y1, rfl, _, _⟩ := Kd.R_reads hc3
            obtain ⟨X3, y3, rfl, _, _⟩ := Kd.R_reads hq3
            have HA3 := Aside0.mk (show DiskAt w (w3.alloc (.cells #[.slice X0 l0_0.length y0, .slice X1 l0_1.length y1, .bool a0_2, .slice X3 l0_3.length y3] 26 (0, 0))) w3.heap.size (.slice X0 l0_0.length y0) (.slice X1 l0_1.length y1) (.slice X3 l0_3.length y3) l0_0 l0_1 a0_2 l0_3 from ⟨HB3.out.size, blk_new w3 _, Kd.R_alloc hs4 _, Kd.R_alloc hc4 _, Kd.R_alloc hq4 _⟩)
            have HBA := Aside0.mk (below_alloc HB3.out (.cells #[.slice X0 l0_0.length y0, .slice X1 l0_1.length y1, .bool a0_2, .slice X3 l0_3.length y3] 26 (0, 0)))
            have HDA := Aside0.mk (blk_alloc HD3.out (.cells #[.slice X0 l0_0.length y0, .slice X1 l0_1.length y1, .bool a0_2, .slice X3 l0_3.length y3] 26 (0, 0)))
            have HZA := Aside0.mk (blk_alloc HZ3.out (.cells #[.slice X0 l0_0.length y0, .slice X1 l0_1.length y1, .bool a0_2, .slice X3 l0_3.length y3] 26 (0, 0)))
            have hg3 := blk_lt HZ3.out
            have hgne : w3.heap.size ≠ w.heap.size + 1 := by omega
            have HGN := Aside0.mk hgne
            clear hs3 hc3 hq3 hs4 hc4 hq4 hb3 hg3 hgne d0 d1 d2 d3 z0 z1 z2 z3 z4 z5 z6 z7 HD2 HZ2 HB2
            obtain ⟨d0, d1, d2, d3, _, _, _, _⟩ := cells4 HDA.out
            obtain ⟨z0, z1, z2, z3, z4, z5, z6, z7⟩ := cells4 HZA.out
            obtain ⟨e0, e1, e2, e3, _, _, _, _⟩ := cells4 HA3.out.2.1
            go_wp2_with fail
            refine (disk_write w _ w3.heap.size _ _ _ l0_0 l0_1 a0_2 l0_3 a1 a2 HBA.out HA3.out (by omega)).mono ?_
            rintro e w4 ⟨rfl, vc, hd4, hb4, hk4⟩
            have HZ4 := Aside0.mk (hk4 _ _ _ HZA.out (by have := HGN.out; omega) (by decide))
            have HB4 := Aside0.mk hb4
            obtain ⟨gc, cc, rfl, _⟩ := Kd.R_form hd4.2.2.2.1 (by simp)
            rw [show (l0_1 ++ [(⟨a1, a2⟩ : S95)]).length = l0_1.length + 1 from by simp] at hd4
            have HA4 := Aside0.mk hd4
            clear hd4 hb4 hk4 d0 d1 d2 d3 z0 z1 z2 z3 z4 z5 z6 z7 e0 e1 e2 e3
            obtain ⟨e0, e1, e2, e3, _, _, _, _⟩ := cells4 HA4.out.2.1
            obtain ⟨z0, z1, z2, z3, z4, z5, z6, z7⟩ := cells4 HZ4.out
            go_wp2_with fail
            refine bodyPost_ret (results_ct rfl _ _ (w.heap.size + 1) 26 #[.slice X0 l0_0.length y0, .slice (some ⟨gc, 0, none⟩) (l0_1.length + 1) cc, .bool a0_2, .slice X3 l0_3.length y3] (0, 0) _ rfl (set4_blk HZ4.out _ _ _ _) Try.underlying26 rfl (by kernel_rfl)) rfl ?_
            have hfin := DiskAt.set4 HA4.out HZ4.out HGN.out (.slice X0 l0_0.length y0) (.slice (some ⟨gc, 0, none⟩) (l0_1.length + 1) cc) (.bool a0_2) (.slice X3 l0_3.length y3)
            exact ⟨_, _, _, rfl, hfin.2.2.1, hfin.2.2.2.1, hfin.2.2.2.2, set4_below HB4.out (by omega) _ _ _ _⟩
        · have c3 : decide (420 < (a2.size : Int)) = true := decide_eq_true (by omega)
          rw [if_neg (by unfold pendB; simp only; rw [decide_eq_true h2, decide_eq_false h3]; simp)] at h
          simp only [Option.some.injEq, Prod.mk.injEq] at h
          obtain ⟨rfl, rfl, rfl, rfl, rfl⟩ := h
          clear h2
          go_enter Try.func27, Try.ntmps27
          go_wp2_with fail
          refine (impl_DiskOK.calls _ _ _ _ _ _ _ _ _ _ _ _ (Kd.C_below HR0.out HB0.out) hc0_0 (Kd.C_below HR1.out HB0.out) hc0_1 (Kd.C_below HR3.out HB0.out) hc0_3 HOK.out).mono ?_
          rintro e w1 ⟨rfl, hb1⟩
          have HB1 := Aside0.mk (below_step HB0.out hb1)
          have HD1 := Aside0.mk (blk_below HD0.out hb1)
          have HZ1 := Aside0.mk (blk_below HZ0.out hb1)
          obtain ⟨d0, d1, d2, d3, _, _, _, _⟩ := cells4 HD1.out
          obtain ⟨z0, z1, z2, z3, z4, z5, z6, z7⟩ := cells4 HZ1.out
          clear hb1
          go_wp2_with fail
          refine (impl_within.calls _ _ _ _ _ HW.out).mono ?_
          rintro e w2 ⟨rfl, hb2⟩
          have HB2 := Aside0.mk (by first | exact below_step HB1.out hb2 | exact below_step HB1.out hb2.below)
          have HD2 := Aside0.mk (by first | exact blk_below HD1.out hb2 | exact blk_below HD1.out hb2.below)
          have HZ2 := Aside0.mk (by first | exact blk_below HZ1.out hb2 | exact blk_below HZ1.out hb2.below)
          clear d0 d1 d2 d3 z0 z1 z2 z3 z4 z5 z6 z7 HD1 HZ1 HB1 hb2
          obtain ⟨d0, d1, d2, d3, _, _, _, _⟩ := cells4 HD2.out
          obtain ⟨z0, z1, z2, z3, z4, z5, z6, z7⟩ := cells4 HZ2.out
          go_wp2_with fail
          refine bodyPost_ret (results_ct rfl _ _ (w.heap.size + 1) 26 #[.slice none 0 0, .slice none 0 0, .bool false, .slice none 0 0] (0, 0) _ rfl (set4_blk HZ2.out _ _ _ _) Try.underlying26 rfl (by kernel_rfl)) rfl ?_
          exact ⟨_, _, _, rfl, Kd.R_nil _ _ _ _ _, Kd.R_nil _ _ _ _ _, Kd.R_nil _ _ _ _ _, set4_below HB2.out (by omega) _ _ _ _⟩
      · rw [decide_eq_false h2] at hw
        have HW := Aside0.mk hw
        clear hw
        rw [if_neg (by unfold pendB; simp only; rw [decide_eq_false h2]; simp)] at h
        simp only [Option.some.injEq, Prod.mk.injEq] at h
        obtain ⟨rfl, rfl, rfl, rfl, rfl⟩ := h
        clear h2
        go_enter Try.func27, Try.ntmps27
        go_wp2_with fail
        refine (impl_DiskOK.calls _ _ _ _ _ _ _ _ _ _ _ _ (Kd.C_below HR0.out HB0.out) hc0_0 (Kd.C_below HR1.out HB0.out) hc0_1 (Kd.C_below HR3.out HB0.out) hc0_3 HOK.out).mono ?_
        rintro e w1 ⟨rfl, hb1⟩
        have HB1 := Aside0.mk (below_step HB0.out hb1)
        have HD1 := Aside0.mk (blk_below HD0.out hb1)
        have HZ1 := Aside0.mk (blk_below HZ0.out hb1)
        obtain ⟨d0, d1, d2, d3, _, _, _, _⟩ := cells4 HD1.out
        obtain ⟨z0, z1, z2, z3, z4, z5, z6, z7⟩ := cells4 HZ1.out
        clear hb1
        go_wp2_with fail
        refine (impl_within.calls _ _ _ _ _ HW.out).mono ?_
        rintro e w2 ⟨rfl, hb2⟩
        have HB2 := Aside0.mk (by first | exact below_step HB1.out hb2 | exact below_step HB1.out hb2.below)
        have HD2 := Aside0.mk (by first | exact blk_below HD1.out hb2 | exact blk_below HD1.out hb2.below)
        have HZ2 := Aside0.mk (by first | exact blk_below HZ1.out hb2 | exact blk_below HZ1.out hb2.below)
        clear d0 d1 d2 d3 z0 z1 z2 z3 z4 z5 z6 z7 HD1 HZ1 HB1 hb2
        obtain ⟨d0, d1, d2, d3, _, _, _, _⟩ := cells4 HD2.out
        obtain ⟨z0, z1, z2, z3, z4, z5, z6, z7⟩ := cells4 HZ2.out
        go_wp2_with fail
        refine bodyPost_ret (results_ct rfl _ _ (w.heap.size + 1) 26 #[.slice none 0 0, .slice none 0 0, .bool false, .slice none 0 0] (0, 0) _ rfl (set4_blk HZ2.out _ _ _ _) Try.underlying26 rfl (by kernel_rfl)) rfl ?_
        exact ⟨_, _, _, rfl, Kd.R_nil _ _ _ _ _, Kd.R_nil _ _ _ _ _, Kd.R_nil _ _ _ _ _, set4_below HB2.out (by omega) _ _ _ _⟩
end Go.Proofs.Ytcpcifgpcemaeaa.X
namespace Go.Proofs.Ytcpcifgpcemaeaa.X
open Go.RowKit Go.Proofs.YtcpcifgpcemaeaaW.PrintWords Go.Proofs.YtcpcifgpcemaeaaW.PrintLast Go.Proofs.YtcpcifgpcemaeaaW.PrintMore
attribute [local go_sem] xbin_geq xbin_leq xbin_gtr max2_int min2_int max_two min_two max_three min_three max_four min_four
set_option linter.unusedVariables false
set_option linter.unusedSimpArgs false
def laws_eqIntS.l0 : Nat → List Int → List Int → Int → Option (Bool)
 | 0, _, _, _ => none
 | k + 1, x0, x1, x5 => if x5 < (x0.length : Int) then (if 0 ≤ x5 then (if x5 < (x1.length : Int) then (if (rd x0 x5) = (rd x1 x5) then (laws_eqIntS.l0 k x0 x1 (wrap64 (x5 + 1))) else (some false)) else (none)) else (none)) else (some true)
def laws_eqIntS.f (k : Nat) (l0 : List Int) (l1 : List Int) : Option (Bool) := if (l0.length : Int) = (l1.length : Int) then (laws_eqIntS.l0 k l0 l1 0) else (some false)
theorem laws_eqIntS.mono_l : ∀ k, (∀ y0 y1 y2, LeO (laws_eqIntS.l0 k y0 y1 y2) (laws_eqIntS.l0 (k + 1) y0 y1 y2))
 | 0 => fun _ _ _ r h => by simp [laws_eqIntS.l0] at h
 | k + 1 => by
  have ih0 := laws_eqIntS.mono_l k
  ·intro y0 y1 y2
   unfold laws_eqIntS.l0
   repeat' first
   | (with_reducible exact ih0 _ _ _)
   | (with_reducible exact LeO.refl _)
   | (with_reducible exact LeO.none _)
   | (with_reducible refine LeO.ite ?_ ?_)
   | (with_reducible refine LeO.bind ?_ (fun _ => ?_))
   | exact ih0 _ _ _
   | exact LeO.none _
   | refine LeO.ite ?_ ?_
   | refine LeO.bind ?_ (fun _ => ?_)
theorem laws_eqIntS.mono : ∀ a0 a1 k, LeO (laws_eqIntS.f k a0 a1) (laws_eqIntS.f (k + 1) a0 a1) := by
 intro a0 a1 k
 have ih0 := laws_eqIntS.mono_l k
 unfold laws_eqIntS.f
 repeat' first
   | (with_reducible exact ih0 _ _ _)
   | (with_reducible exact LeO.refl _)
   | (with_reducible exact LeO.none _)
   | (with_reducible refine LeO.ite ?_ ?_)
   | (with_reducible refine LeO.bind ?_ (fun _ => ?_))
   | exact ih0 _ _ _
   | exact LeO.none _
   | refine LeO.ite ?_ ?_
   | refine LeO.bind ?_ (fun _ => ?_)
set_option maxHeartbeats 8000000 in
set_option maxRecDepth 100000 in
theorem laws_eqIntS.calls (k : Nat) (A0 : Option Addr) (c0 : Nat) (l0 : List Int) (A1 : Option Addr) (c1 : Nat) (l1 : List Int) (r : Bool) (w : World) (hr0 : Kd.C (Kd.int .i64) w A0 l0.length l0) (hc0 : l0.length ≤ c0) (hr1 : Kd.C (Kd.int .i64) w A1 l1.length l1) (hc1 : l1.length ≤ c1) (h : laws_eqIntS.f k l0 l1 = some r) :
  Calls Try.prog 31 #[.slice A0 l0.length c0, .slice A1 l1.length c1] w fun e w' => e = .returned (.bool r) ∧ Drawn0 w w' := by
 have HR0 := Aside0.mk hr0
 have HC0 := Aside0.mk hc0
 clear hr0 hc0
 have HR1 := Aside0.mk hr1
 have HC1 := Aside0.mk hc1
 clear hr1 hc1
 have H : (if (l0.length : Int) = (l1.length : Int) then (laws_eqIntS.l0 k l0 l1 0) else (some false)) = some r := h
 clear h
 by_cases c3 : (l0.length : Int) = (l1.length : Int)
 ·rw [if_pos c3] at H
  have c3b0 : ((l0.length : Int) == (l1.length : Int)) = true := beq_iff_eq.mpr c3
  have c3b1 : ((l0.length : Int) != (l1.length : Int)) = false := bne_eq_false_iff_eq.mpr c3
  have c3b2 : (l0.length == l1.length) = true := by first | simpa using c3 | (simp at c3 ⊢; omega)
  clear c3
  have H' := Aside0.mk H
  clear H
  go_enter Try.func31, Try.ntmps31
  go_wp2
  repeat (go_quiet (fail); try go_wp2)
  go_loopg [5] k (fun kq v5 w' => ∃ (x5_1 : Int), v5 = .int .i64 x5_1 ∧ Aside0 (laws_eqIntS.l0 kq l0 l1 x5_1 = some r) ∧ Aside0 (kq ≤ k) ∧ Drawn0 w w')
  case atStart => exact ⟨(0), (by first | rfl | (simp; done) | (simp [*]; done)), H', ⟨Nat.le_refl _⟩, by repeat (first | exact Drawn0.refl _ | apply Drawn0.step)⟩
  case round =>
   clear H'
   try clear c1
   try clear p2
   try clear c3
   try clear c3b0
   try clear c3b1
   try clear c3b2
   obtain ⟨x5_1, rfl, HA, HK1, ⟨m1, rfl⟩⟩ := hrel
   cases gk with
   | zero => exact absurd HA.out (by simp [laws_eqIntS.l0])
   | succ k1 =>
    have H := HA.out
    clear HA
    simp only [laws_eqIntS.l0] at H
    by_cases c4 : x5_1 < (l0.length : Int)
    ·rw [if_pos c4] at H
     have c4b0 : decide (x5_1 < (l0.length : Int)) = true := decide_eq_true c4
     clear c4
     by_cases c5 : 0 ≤ x5_1
     ·rw [if_pos c5] at H
      have c5b0 : decide (0 ≤ x5_1) = true := decide_eq_true c5
      clear c5
      by_cases c6 : x5_1 < (l1.length : Int)
      ·rw [if_pos c6] at H
       have c6b0 : decide (x5_1 < (l1.length : Int)) = true := decide_eq_true c6
       clear c6
       by_cases c7 : (rd l0 x5_1) = (rd l1 x5_1)
       ·rw [if_pos c7] at H
        have c7b0 : ((rd l0 x5_1) == (rd l1 x5_1)) = true := beq_iff_eq.mpr c7
        have c7b1 : ((rd l0 x5_1) != (rd l1 x5_1)) = false := bne_eq_false_iff_eq.mpr c7
        clear c7
        have H' := Aside0.mk H
        clear H
        have p128 : 0 ≤ (x5_1 : Int) := of_decide_eq_true (by first | (with_reducible assumption) | assumption)
        have q128 : x5_1 < (l0.length : Int) := of_decide_eq_true (by first | (with_reducible assumption) | assumption)
        obtain ⟨ad128, e128, hx128_0⟩ := Kd.at_int HR0.out x5_1 p128 q128
        cases e128
        replace p128 := eq_true p128
        replace q128 := eq_true q128
        have p129 : 0 ≤ (x5_1 : Int) := of_decide_eq_true (by first | (with_reducible assumption) | assumption)
        have q129 : x5_1 < (l1.length : Int) := of_decide_eq_true (by first | (with_reducible assumption) | assumption)
        obtain ⟨ad129, e129, hx129_0⟩ := Kd.at_int HR1.out x5_1 p129 q129
        cases e129
        replace p129 := eq_true p129
        replace q129 := eq_true q129
        go_wp2
        repeat (go_quiet (fail); try go_wp2)
        go_roundg k1
        case measure => have := HK1.out; omega
        case rel => exact ⟨(wrap64 (x5_1 + 1)), (by first | rfl | (simp; done) | (simp [*]; done)), H', ⟨by have := HK1.out; omega⟩, by repeat (first | exact Drawn0.refl _ | apply Drawn0.step)⟩
       ·rw [if_neg c7] at H
        have c7b0 : ((rd l0 x5_1) == (rd l1 x5_1)) = false := beq_eq_false_iff_ne.mpr c7
        have c7b1 : ((rd l0 x5_1) != (rd l1 x5_1)) = true := bne_iff_ne.mpr c7
        obtain rfl := Option.some.inj H
        have p128 : 0 ≤ (x5_1 : Int) := of_decide_eq_true (by first | (with_reducible assumption) | assumption)
        have q128 : x5_1 < (l0.length : Int) := of_decide_eq_true (by first | (with_reducible assumption) | assumption)
        obtain ⟨ad128, e128, hx128_0⟩ := Kd.at_int HR0.out x5_1 p128 q128
        cases e128
        replace p128 := eq_true p128
        replace q128 := eq_true q128
        have p129 : 0 ≤ (x5_1 : Int) := of_decide_eq_true (by first | (with_reducible assumption) | assumption)
        have q129 : x5_1 < (l1.length : Int) := of_decide_eq_true (by first | (with_reducible assumption) | assumption)
        obtain ⟨ad129, e129, hx129_0⟩ := Kd.at_int HR1.out x5_1 p129 q129
        cases e129
        replace p129 := eq_true p129
        replace q129 := eq_true q129
        go_wp2
        repeat (go_quiet (fail); try go_wp2)
        go_ret
        exact ⟨by first | rfl | (simp; done) | (simp [*]; done), by repeat (first | exact Drawn0.refl _ | apply Drawn0.step)⟩
      ·rw [if_neg c6] at H
       exact absurd H (by simp)
     ·rw [if_neg c5] at H
      exact absurd H (by simp)
    ·rw [if_neg c4] at H
     have c4b0 : decide (x5_1 < (l0.length : Int)) = false := decide_eq_false c4
     clear c4
     obtain rfl := Option.some.inj H
     go_wp2
     repeat (go_quiet (fail); try go_wp2)
     go_ret
     exact ⟨by first | rfl | (simp; done) | (simp [*]; done), by repeat (first | exact Drawn0.refl _ | apply Drawn0.step)⟩
 ·rw [if_neg c3] at H
  have c3b0 : ((l0.length : Int) == (l1.length : Int)) = false := beq_eq_false_iff_ne.mpr c3
  have c3b1 : ((l0.length : Int) != (l1.length : Int)) = true := bne_iff_ne.mpr c3
  have c3b2 : (l0.length == l1.length) = false := by first | simpa using c3 | (simp at c3 ⊢; omega)
  obtain rfl := Option.some.inj H
  go_enter Try.func31, Try.ntmps31
  go_wp2
  repeat (go_quiet (fail); try go_wp2)
  go_ret
  exact ⟨by first | rfl | (simp; done) | (simp [*]; done), by repeat (first | exact Drawn0.refl _ | apply Drawn0.step)⟩
end Go.Proofs.Ytcpcifgpcemaeaa.X
