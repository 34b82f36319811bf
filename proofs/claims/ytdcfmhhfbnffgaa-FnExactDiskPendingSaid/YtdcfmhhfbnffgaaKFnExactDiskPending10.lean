import Derived.Test.YtdcfmhhfbnffgaaKFnExactDiskPending3
import Derived.Test.YtdcfmhhfbnffgaaKFnExactDiskPending7
import Derived.Test.YtdcfmhhfbnffgaaKFnExactDiskPending9
import Derived.Shelf.Sort.Plain
import Derived.LoopTactic
import Derived.BigQuiet
import Derived.Deep.RegionLaw
namespace Go.Proofs.Ytdcfmhhfbnffgaa.X
open Go.RowKit Go.Proofs.YtdcfmhhfbnffgaaW.PrintWords Go.Proofs.YtdcfmhhfbnffgaaW.PrintLast Go.Proofs.YtdcfmhhfbnffgaaW.PrintMore
attribute [local go_sem] xbin_geq xbin_leq xbin_gtr max2_int min2_int max_two min_two max_three min_three max_four min_four
set_option linter.unusedVariables false
set_option linter.unusedSimpArgs false
def sortedI (l : List Int) : List Int := l.mergeSort fun x y => decide (x ≤ y)
def slices_Sort_int_int.f (l0 : List Int) : Option (List Int) := if l0.length ≤ 1000000 then some (sortedI l0) else none
set_option maxHeartbeats 8000000 in
set_option maxRecDepth 100000 in
theorem ins_nil (w0 w : World) (hB : Below w0.heap.size w0 w) :
    Calls Try.prog 38 #[.slice none 0 0, .int .i64 0, .int .i64 0] w fun e w' => e = .returned (.tuple #[]) ∧ Below w0.heap.size w0 w' ∧ Kept w w' (fun _ => False) := by
  have HB := Aside0.mk hB
  have HK := Aside0.mk (Kept.refl w (fun _ => False))
  clear hB
  go_enter Try.func38, Try.ntmps38
  go_upto_region 1 with fail
  go_loopw [6] (fun v6 wr => v6 = .int .i64 1 ∧ Aside0 (Below w0.heap.size w0 wr) ∧ Aside0 (Kept w wr (fun _ => False))) (fun _ _ => 0)
  case atStart => exact ⟨rfl, HB, HK⟩
  case round =>
    clear HB HK
    obtain ⟨rfl, HB, HK⟩ := hrel
    go_wp2_with fail
    first | go_end0 | ((try simp only [Exit.inBlock, Exit.then]); refine bodyPost_ret (results_none rfl _ _ _) rfl ?_)
    exact ⟨rfl, HB.out, HK.out⟩
theorem len_nil (w0 w : World) (hB : Below w0.heap.size w0 w) :
    Calls Try.prog 34 #[.int .u64 0] w fun e w' => e = .returned (.int .i64 0) ∧ Below w0.heap.size w0 w' ∧ Kept w w' (fun _ => False) := by
  refine (calls_of_every_depth fun D => AnyS.bits_LenIn (P := Try.prog) (ρ := Trysrt_ren) { Trysrt189 with } D 0 w (by omega) (by omega)).mono ?_
  rintro e w' ⟨rfl, rfl⟩
  exact ⟨rfl, hB, Kept.refl _ _⟩
set_option maxHeartbeats 8000000 in
set_option maxRecDepth 100000 in
theorem pdq_nil (w0 w : World) (a : Int) (hB : Below w0.heap.size w0 w) :
    Calls Try.prog 33 #[.slice none 0 0, .int .i64 0, .int .i64 0, .int .i64 a] w fun e w' => e = .returned (.tuple #[]) ∧ Below w0.heap.size w0 w' ∧ Kept w w' (fun _ => False) := by
  have HB := Aside0.mk hB
  have HK := Aside0.mk (Kept.refl w (fun _ => False))
  clear hB
  go_enter Try.func33, Try.ntmps33
  go_upto_region 2 with fail
  go_loopw [1, 2] (fun v1 v2 wr => v1 = .int .i64 0 ∧ v2 = .int .i64 0 ∧ Aside0 (Below w0.heap.size w0 wr) ∧ Aside0 (Kept w wr (fun _ => False))) (fun _ _ _ => 0)
  case atStart => exact ⟨rfl, rfl, HB, HK⟩
  case round =>
    clear HB HK
    obtain ⟨rfl, rfl, HB, HK⟩ := hrel
    go_wp2_with (first | ((with_reducible refine gate_callee (f := 38) rfl ?_); refine goesL_ (some 27) rfl rfl Try.func38 (by kernel_rfl) rfl #[.slice none 0 0, .int .i64 0, .int .i64 0] rfl (by (try simp only [List.map_toArray, List.map_cons, List.map_nil]); first | done | rfl) ?_; (with_reducible refine (ins_nil w0 _ HB.out).mono ?_); rintro e w' ⟨rfl, hb, hk⟩; refine ⟨_, rfl, ?_⟩))
    first | go_end0 | ((try simp only [Exit.inBlock, Exit.then]); refine bodyPost_ret (results_none rfl _ _ _) rfl ?_)
    exact ⟨rfl, hb, HK.out.then_ hk (fun _ h => h.elim)⟩
set_option maxHeartbeats 8000000 in
set_option maxRecDepth 100000 in
theorem sort_nil (w0 w : World) (hB : Below w0.heap.size w0 w) :
    Calls Try.prog 21 #[.slice none 0 0] w fun e w' => e = .returned (.tuple #[]) ∧ Below w0.heap.size w0 w' ∧ Kept w w' (fun _ => False) := by
  have HB := Aside0.mk hB
  clear hB
  go_enter Try.func21, Try.ntmps21
  go_wp2_with (first | ((with_reducible refine gate_callee (f := 34) rfl ?_); refine goesL_ (some 9) rfl rfl Try.func34 (by kernel_rfl) rfl #[.int .u64 0] rfl (by (try simp only [List.map_toArray, List.map_cons, List.map_nil]); first | done | rfl) ?_; (with_reducible refine (len_nil w0 _ HB.out).mono ?_); rintro e w1 ⟨rfl, hb1, hk1⟩; refine ⟨_, rfl, ?_⟩) | ((with_reducible refine gate_callee (f := 33) rfl ?_); refine goesL_ (some 10) rfl rfl Try.func33 (by kernel_rfl) rfl #[.slice none 0 0, .int .i64 0, .int .i64 0, .int .i64 0] rfl (by (try simp only [List.map_toArray, List.map_cons, List.map_nil]); first | done | rfl) ?_; (with_reducible refine (pdq_nil w0 _ 0 hb1).mono ?_); rintro e w2 ⟨rfl, hb, hk⟩; refine ⟨_, rfl, ?_⟩))
  first | go_end0 | ((try simp only [Exit.inBlock, Exit.then]); refine bodyPost_ret (results_none rfl _ _ _) rfl ?_)
  exact ⟨rfl, hb, hk1.then_ hk (fun _ h => h.elim)⟩
theorem slices_Sort_int_int.calls (P0_ : Nat → Prop) (u9000_ : Value) (l0 : List Int) (r : List Int) (w0 w : World) (hB : Below w0.heap.size w0 w) (ho0 : Kd.R (Kd.int .i64) 3 w w0.heap.size P0_ u9000_ l0) (h : slices_Sort_int_int.f l0 = some r) :
    Calls Try.prog 21 #[u9000_] w fun e w' => e = .returned (.tuple #[]) ∧ Kd.R (Kd.int .i64) 3 w' w0.heap.size (fun k_ => (P0_ k_ ∨ w.heap.size ≤ k_)) u9000_ r ∧ Below w0.heap.size w0 w' ∧ Kept w w' (fun k_ => P0_ k_) := by
  unfold slices_Sort_int_int.f at h
  by_cases hl : l0.length ≤ 1000000
  · rw [if_pos hl] at h
    obtain rfl := Option.some.inj h
    rcases R_cases ho0 with ⟨rfl, rfl⟩ | ⟨g, c, rfl⟩
    · refine (sort_nil w0 w hB).mono ?_
      rintro e w' ⟨rfl, hb, hk⟩
      exact ⟨rfl, by rw [show sortedI [] = [] from List.mergeSort_nil]; exact Kd.R_nil _ _ _ _ _, hb, hk.mono (fun _ h => h.elim)⟩
    · have hok : P0_ g := (R_cap ho0).2.2.2.2.2
      refine (sort_own w0 w P0_ g l0.length c l0 hB ho0 (by omega)).mono ?_
      rintro e w' ⟨rfl, hr, hb, hg⟩
      exact ⟨rfl, Kd.R_mono hr (fun _ hk => .inl hk), hb, Kept.of_grown hg (Kept.refl _ _) (fun q hq => by injection hq with hq; subst hq; exact .inl hok)⟩
  · rw [if_neg hl] at h
    cases h
end Go.Proofs.Ytdcfmhhfbnffgaa.X
