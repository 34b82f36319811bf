import Derived.Test.YtdcfmhhfbnffgaaKFnExactDiskPending3
import Derived.Test.YtdcfmhhfbnffgaaKFnExactDiskPending7
import Derived.Test.YtdcfmhhfbnffgaaKFnExactDiskPending9
import Derived.Test.YtdcfmhhfbnffgaaKFnExactDiskPending10
import Derived.Test.YtdcfmhhfbnffgaaKFnExactDiskPending11
import Derived.Test.YtdcfmhhfbnffgaaKFnExactDiskPending21
import Derived.Test.YtdcfmhhfbnffgaaKFnExactDiskPending23
import Derived.Test.YtdcfmhhfbnffgaaKFnExactDiskPending24
import Derived.Test.YtdcfmhhfbnffgaaRows
import Derived.WalkKit
import Derived.ProofKit
import Derived.OpenShut
import Derived.ShutString
import Derived.ChangeOld
import Derived.Below
import Derived.SizedLaws
namespace Go.Proofs.Ytdcfmhhfbnffgaa.X
open Go.RowKit Go.Proofs.YtdcfmhhfbnffgaaW.PrintWords Go.Proofs.YtdcfmhhfbnffgaaW.PrintLast Go.Proofs.YtdcfmhhfbnffgaaW.PrintMore
attribute [local go_sem] xbin_geq xbin_leq xbin_gtr max2_int min2_int max_two min_two max_three min_three max_four min_four
set_option linter.unusedVariables false
set_option linter.unusedSimpArgs false
theorem rd_pendP {c : List S43} {i : Nat} (h : i < c.length) : rd_T43 c (i : Int) = c[i] := by
  unfold rd_T43
  rw [Int.toNat_natCast, List.getD_eq_getElem?_getD, List.getElem?_eq_getElem h]
  rfl
theorem belowL_succ (l : List Int) (n : Nat) : belowL l (n + 1) = if (n : Int) ∈ l then belowL l n ++ [(n : Int)] else belowL l n := by
  unfold belowL
  rw [List.range_succ, List.filter_append, List.map_append]
  by_cases h : (n : Int) ∈ l <;> simp [h]
theorem belowL_len (l : List Int) (n : Nat) : (belowL l n).length ≤ n := by
  unfold belowL
  rw [List.length_map]
  have := List.length_filter_le (fun (i : Nat) => decide ((i : Int) ∈ l)) (List.range n)
  rwa [List.length_range] at this
def pendR (s : List ByteArray) (c : List S43) (a : Bool) (q : List Int) : List Int × Int :=
  if diskB s c a q = true then (belowL (c.map (·.f0)) s.length, 0) else ([], 1)
theorem wrap_upP (i : Nat) (h : i < 1000000) : wrap64 ((i : Int) + 1) = ((i + 1 : Nat) : Int) := by unfold wrap64; omega
theorem diskB_is {s : List ByteArray} {c : List S43} {a : Bool} {q : List Int} (h : diskB s c a q = true) : s.length ≤ 80 ∧ c.length ≤ 500 ∧ ∀ p ∈ c, 0 ≤ p.f0 ∧ p.f0 < (s.length : Int) := by
  unfold diskB at h
  simp only [Bool.and_eq_true, decide_eq_true_eq, List.all_eq_true] at h
  refine ⟨h.1.2, h.2.1, fun p hp => ?_⟩
  have h3 := h.2.2.2.2.2 p hp
  unfold pendB at h3
  simp only [Bool.and_eq_true, decide_eq_true_eq] at h3
  omega
theorem spec_pend_in (s : List ByteArray) (c : List S43) (a : Bool) (q : List Int) (x : List Int) (at_ : Int) (r : List Int × Int) (hx : x.length < 17592186044416) (hc : c.length ≤ 500) : ∀ (d j : Nat) (f : Bool), j + d = c.length →
    Ev (fun k => spec_DiskPending.l0 k (if f || (c.drop j).any (fun p => p.f0 == at_) then x ++ [at_] else x) (wrap64 (at_ + 1)) s c a q) r → Ev (fun k => spec_DiskPending.l1 k x at_ f (j : Int) s c a q) r := by
  intro d
  induction d with
  | zero =>
    intro j f hj h
    refine Ev.succ ?_
    simp only [spec_DiskPending.l1]
    refine Ev.neg (by omega) ?_
    rw [List.drop_eq_nil_of_le (by omega)] at h
    cases f with
    | true => exact Ev.pos rfl (Ev.pos hx (by simpa using h))
    | false => exact Ev.neg (by simp) (by simpa using h)
  | succ d ih =>
    intro j f hj h
    have hl : j < c.length := by omega
    rw [List.drop_eq_getElem_cons hl, List.any_cons] at h
    refine Ev.succ ?_
    simp only [spec_DiskPending.l1, rd_pendP hl, wrap_upP j (by omega)]
    refine Ev.pos (by omega) ?_
    cases f with
    | true => exact Ev.pos rfl (ih (j + 1) true (by omega) (by simpa using h))
    | false => exact Ev.neg (by simp) (Ev.pos (by omega) (ih (j + 1) _ (by omega) (by simpa using h)))
theorem spec_pend_loop (s : List ByteArray) (c : List S43) (a : Bool) (q : List Int) (hs : s.length ≤ 80) (hc : c.length ≤ 500) : ∀ d i : Nat, i + d = s.length → Ev (fun k => spec_DiskPending.l0 k (belowL (c.map (·.f0)) i) (i : Int) s c a q) (belowL (c.map (·.f0)) s.length, 0) := by
  intro d
  induction d with
  | zero =>
    intro i hi
    refine Ev.succ ?_
    simp only [spec_DiskPending.l0]
    exact Ev.neg (by omega) (Ev.is (by rw [show i = s.length by omega]))
  | succ d ih =>
    intro i hi
    have := belowL_len (c.map (·.f0)) i
    refine Ev.succ ?_
    simp only [spec_DiskPending.l0]
    refine Ev.pos (by omega) (spec_pend_in s c a q _ _ _ (by omega) hc c.length 0 false (by omega) ?_)
    have h := ih (i + 1) (by omega)
    rw [belowL_succ] at h
    rw [wrap_upP i (by omega), List.drop_zero, Bool.false_or]
    have e : (c.any (fun p => p.f0 == (i : Int))) = decide ((i : Int) ∈ c.map (·.f0)) := by
      rw [Bool.eq_iff_iff, List.any_eq_true, decide_eq_true_eq, List.mem_map]
      exact ⟨fun ⟨p, hp, hq⟩ => ⟨p, hp, by simpa using hq⟩, fun ⟨p, hp, hq⟩ => ⟨p, hp, by simpa using hq⟩⟩
    rw [e]
    simpa using h
theorem spec_diskPending (s : List ByteArray) (c : List S43) (a : Bool) (q : List Int) : Ev (fun k => spec_DiskPending.f k s c a q) (pendR s c a q) := by
  unfold spec_DiskPending.f pendR
  refine Ev.bind (spec_diskOK s c a q) ?_
  cases hd : diskB s c a q with
  | false => exact Ev.neg (by simp) (Ev.is rfl)
  | true =>
    obtain ⟨h1, h2, h3⟩ := diskB_is hd
    exact Ev.pos rfl (spec_pend_loop s c a q h1 h2 s.length 0 (by omega))
theorem impl_pend_loop (c : List S43) (n : Nat) (hc : c.length ≤ 500) (hp : ∀ p ∈ c, 0 ≤ p.f0 ∧ p.f0 < (n : Int)) : ∀ d i : Nat, i + d = c.length → Ev (fun k => impl_DiskPending.l0 k ((c.take i).map (·.f0)) c (c.length : Int) (i : Int)) (belowL (c.map (·.f0)) n, 0) := by
  intro d
  induction d with
  | zero =>
    intro i hi
    refine Ev.succ ?_
    simp only [impl_DiskPending.l0]
    refine Ev.neg (by omega) ?_
    rw [show i = c.length by omega, List.take_length]
    refine Ev.is ?_
    have hs : slices_Sort_int_int.f (c.map (·.f0)) = some (sortedI (c.map (·.f0))) := if_pos (by rw [List.length_map]; omega)
    have hq : slices_Compact_int_int.f (sortedI (c.map (·.f0))) = some (compactL (sortedI (c.map (·.f0)))) := if_pos (by unfold sortedI; rw [List.length_mergeSort, List.length_map]; omega)
    have hr : compactL (sortedI (c.map (·.f0))) = belowL (c.map (·.f0)) n := sort_compact _ n fun x hx => by
      obtain ⟨p, h1, rfl⟩ := List.mem_map.1 hx
      exact hp p h1
    rw [hs, Option.bind_some, hq, Option.bind_some, hr]
  | succ d ih =>
    intro i hi
    have hl : i < c.length := by omega
    refine Ev.succ ?_
    simp only [impl_DiskPending.l0, rd_pendP hl, wrap_upP i (by omega)]
    have h := ih (i + 1) (by omega)
    rw [List.take_succ_eq_append_getElem hl, List.map_append] at h
    exact Ev.pos (by omega) (Ev.pos (by omega) (Ev.pos (by omega) (Ev.pos (by rw [List.length_map, List.length_take]; omega) h)))
theorem impl_diskPending (s : List ByteArray) (c : List S43) (a : Bool) (q : List Int) : Ev (fun k => impl_DiskPending.f k s c a q) (pendR s c a q) := by
  unfold impl_DiskPending.f pendR
  refine Ev.bindk (a := diskB s c a q) rfl ?_
  cases hd : diskB s c a q with
  | false => exact Ev.neg (by simp) (Ev.is rfl)
  | true =>
    obtain ⟨h1, h2, h3⟩ := diskB_is hd
    exact Ev.pos rfl (impl_pend_loop c s.length h2 h3 c.length 0 (by omega))
theorem pendR_len (s : List ByteArray) (c : List S43) (a : Bool) (q : List Int) : (pendR s c a q).1.length ≤ 100 := by
  unfold pendR
  split
  · rename_i h
    have := belowL_len (c.map (·.f0)) s.length
    have := (diskB_is h).1
    simp only
    omega
  · simp
end Go.Proofs.Ytdcfmhhfbnffgaa.X
set_option linter.unusedSimpArgs false
set_option linter.unusedVariables false
namespace Go.Proofs.Ytdcfmhhfbnffgaa.X.Pure
open Go.RowKit Go.Proofs.Ytdcfmhhfbnffgaa.X Go.Proofs.YtdcfmhhfbnffgaaW.PrintWords Go.Proofs.YtdcfmhhfbnffgaaW.PrintLast
theorem FnExactDiskPending : laws_FnExactDiskPending.Pure := by
  intro s c a q hs0 hc0 _ hq0
  refine Ev.rounds (g := fun k => laws_FnExactDiskPending.f k s c a q) ?_
  unfold laws_FnExactDiskPending.f
  obtain ⟨r, hr, hq⟩ := sz_Disk ⟨s, c, a, q⟩ ⟨hs0, ⟨hc0.1, fun y hy => ⟨trivial, (hc0.2 y hy).2⟩⟩, trivial, hq0.1⟩ 1048576 1048576 (by omega) (by omega) (by omega)
  refine Ev.bind hr ?_
  by_cases h : r < 0
  · exact Ev.pos h (Ev.is rfl)
  refine Ev.neg h ?_
  have hs := (hq (by omega)).2
  have ht := to_Disk ⟨s, c, a, q⟩ hs
  have n1 : (c.map cv52).length ≤ 1048576 := by rw [List.length_map]; have := hs.2.1.1; simp only at this; omega
  have n0 : s.length ≤ 1048576 := by have := hs.1.1; simp only at this; omega
  have n3 : q.length ≤ 1048576 := by have := hs.2.2.2; simp only at this; omega
  have eA := eq_Disk ⟨s, c.map cv52, a, q⟩ ⟨by simp only; omega, ⟨by simp only; omega, fun y _ => ⟨trivial, trivial⟩⟩, trivial, by simp only; omega⟩
  have mA : Ev (fun k => laws_markDisk.f k s (c.map cv52) a q 1) (1 + 1 * (s.length : Int) + 2 * ((c.map cv52).length : Int) + 1 * (q.length : Int), mk_StringS s 1, mk_PendingS (c.map cv52) (1 + 1 * (s.length : Int)), mk_IntS q (1 + 1 * (s.length : Int) + 2 * ((c.map cv52).length : Int))) := by
    unfold laws_markDisk.f
    exact Ev.bind (mark_StringS s 1 (by omega) (by omega) (by omega)) (Ev.bind (mark_PendingS (c.map cv52) _ (by omega) (by omega) (by omega)) (Ev.bind (mark_IntS q _ (by omega) (by omega) (by omega)) (Ev.is rfl)))
  have iD := impl_diskPending s (c.map cv52) a q
  have sD := spec_diskPending s (c.map cv52) a q
  have hn := pendR_len s (c.map cv52) a q
  simp only at ht eA
  generalize c.map cv52 = x at *
  generalize hR : pendR s x a q = R at *
  obtain ⟨l, code⟩ := R
  simp only at hn
  have el := eq_IntS l (by omega)
  have ml := mark_IntS l 1 (by omega) (by omega) (by omega)
  have hl := held_IntS l 1 (by omega) (by omega) (by omega)
  have hj2 : Ev (fun k => laws_FnExactDiskPending.j2 k (mk_IntS l 1) (1 + 1 * (l.length : Int)) false) true := by
    refine Ev.succ ?_
    simp only [laws_FnExactDiskPending.j2]
    exact Ev.neg (by simp) (Ev.bind hl (Ev.neg (by omega) (Ev.pos rfl (Ev.is rfl))))
  have hj1 : Ev (fun k => laws_FnExactDiskPending.j1 k l code l false s c a q) true := by
    refine Ev.succ ?_
    simp only [laws_FnExactDiskPending.j1]
    refine Ev.neg (by simp) (Ev.bind ml (Ev.bind hl (Ev.neg (by omega) (Ev.pos rfl (Ev.bind ht (Ev.bind iD (Ev.bind el (Ev.pos rfl ?_))))))))
    simp only [bne_self_eq_false]
    exact hj2
  have hj0 : Ev (fun k => laws_FnExactDiskPending.j0 k l code l code false s c a q s x a q) true := by
    refine Ev.succ ?_
    simp only [laws_FnExactDiskPending.j0]
    refine Ev.neg (by simp) (Ev.bind ht (Ev.bind eA (Ev.pos rfl (Ev.bind mA (Ev.neg (by simp only; omega) (Ev.bind el (Ev.pos rfl ?_)))))))
    simp only [bne_self_eq_false]
    exact hj1
  refine Ev.bind ht (Ev.bind sD (Ev.bind ht (Ev.bind iD (Ev.bind el (Ev.pos rfl ?_)))))
  simp only [bne_self_eq_false]
  exact hj0
end Go.Proofs.Ytdcfmhhfbnffgaa.X.Pure
namespace Go.Proofs.Ytdcfmhhfbnffgaa.fnExactDiskPending
open Go.ChangeShapes Go.WideShapes Go.ChangeAt Go.RowKit Go.Proofs.Ytdcfmhhfbnffgaa.X Go.Proofs.YtdcfmhhfbnffgaaW.PrintWords
open Go.ChangeMaps (open_string shut_string)
set_option linter.unusedVariables false
theorem own : ownKnob Try.prog.godebug = none := by kernel_rfl
theorem laidOut : laidOutB Try.prog = true := by kernel_rfl
set_option maxRecDepth 100000 in
theorem lifted (os : Os) (started : os.Started) (H : Type) (enc : TypeId × Value → H) :
    ReturnsInHanded {} Try.checked os 3 .any (Rows.fnExactDiskPendingSpec.pre6 enc Try.prog Try.f3 Rows.fnExactDiskPendingRow.domain false) (Rows.fnExactDiskPendingSpec.post enc Try.prog Try.f3 false true false false) := by
  refine returnsInHanded_of_change_sized (C := Try.checked) own started (by kernel_rfl) Try.func3
    (ChangeSpec.witness6 (enc := enc) (C := Try.checked) false ⟨#[], #[.agg #[.slice none 0 0, .slice none 0 0, .bool false, .slice none 0 0]], []⟩ 8 (by kernel_rfl) (by kernel_rfl) (by kernel_rfl) (by kernel_rfl)) ?_
  intro W base args ds gs before hval0 hW hcnd hsz0 _
  have hsz : (DataW.weightsEach Try.prog (Try.f3.params.toList ++ Rows.fnExactDiskPendingSpec.plain.varTypes Try.prog) (ds ++ gs)).all (· ≤ reachBytes) = true := hsz0
  have hval : ∀ (j : Nat) t v, Try.f3.params[j]? = some t → args[j]? = some v → Value.okWide Try.prog W .any base t v := hval0
  have hW' := hW
  obtain ⟨p, q, hA0, hV, rfl, hfz, hnd⟩ := hW
  have hA : DataW.TrodAll enc Try.prog W 0 (fun _ => true) true Try.f3.params.toList args.toList ds p := hA0
  rw [Try.params3] at hA hval hsz
  obtain ⟨v0, vs0, d0, ds0, p0, q0, hargs, rfl, rfl, h0, r0⟩ := trodAll_cons hA
  obtain ⟨rfl, rfl, rfl⟩ := trodAll_nil r0
  obtain rfl : args = #[v0] := by cases args; simp_all
  obtain ⟨rfl, rfl⟩ := trodVars_none hV
  have k0 := h0
  have lt0 : ∀ x ∈ p0, x.block < W.heap.size := by obtain ⟨m, hm⟩ := k0; exact DataW.trod_lt m _ _ _ hm
  obtain ⟨x0, cs0, rfl, hK0, hw0⟩ := Opens.agg_arg opens26 Try.underlying26 (hval 0 26 v0 rfl rfl) h0
  obtain ⟨A0_0, c0_0, A0_1, c0_1, A0_3, c0_3, rfl, hc0_0, hr0_0, hc0_1, hr0_1, hc0_3, hr0_3⟩ := k26_open hK0
  obtain ⟨l0_0, l0_1, a0_2, l0_3⟩ := x0
  clear hA0 hval0 hsz0 hsz
  obtain ⟨k, hP⟩ := X.Pure.FnExactDiskPending l0_0 l0_1 a0_2 l0_3 hw0.1 hw0.2.1 hw0.2.2.1 hw0.2.2.2
  refine (laws_FnExactDiskPending.calls k A0_0 c0_0 l0_0 A0_1 c0_1 l0_1 a0_2 A0_3 c0_3 l0_3 true W hr0_0 hc0_0 hr0_1 hc0_1 hr0_3 hc0_3 hP).mono fun e W' hQ => ?_
  obtain ⟨he, bel0⟩ := hQ
  subst he
  have bel : Below W.heap.size W W' := bel0
  exact ⟨_, rfl, _, _, _, [], _, [], hW', trodAll_mk1 (shut_bool Try.underlying4 _), (trodAll_cons_mk (Below.trod laidOut (by kernel_rfl) (of_decide_eq_true (by kernel_rfl)) k0 bel lt0) trodAll_mk0), rfl, bel.frame _, fun h => by cases h⟩
theorem over : Rows.fnExactDiskPendingRow.holds Try.pinned (OpenSpec.ofChange Rows.fnExactDiskPendingSpec) :=
  OpenClaim.holds_of_wide 3 Try.f3 rfl rfl rfl rfl rfl rfl rfl ⟨rfl, rfl, rfl, rfl, rfl⟩ rfl rfl rfl rfl rfl (by kernel_rfl) Try.func3 (by kernel_rfl)
    (of_decide_eq_true (by kernel_rfl)) (by unfold Func.isWrapper; first | (rw [if_pos (by decide +kernel)]; kernel_rfl) | (rw [if_neg (by decide +kernel)]; exact ⟨rfl, rfl⟩))
    (fun os started H enc _ => lifted os started H enc)
theorem proved : Rows.FnExactDiskPendingSaid := over
end Go.Proofs.Ytdcfmhhfbnffgaa.fnExactDiskPending
namespace Go.Proofs.Ytdcfmhhfbnffgaa
theorem fnExactDiskPending_holds : Rows.FnExactDiskPendingSaid := fnExactDiskPending.proved
end Go.Proofs.Ytdcfmhhfbnffgaa
