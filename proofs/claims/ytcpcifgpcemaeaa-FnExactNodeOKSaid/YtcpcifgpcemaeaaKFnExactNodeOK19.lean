import Derived.Test.YtcpcifgpcemaeaaKFnExactNodeOK0
import Derived.Test.YtcpcifgpcemaeaaKFnExactNodeOK7
import Derived.Test.YtcpcifgpcemaeaaKFnExactNodeOK9
import Derived.Test.YtcpcifgpcemaeaaKFnExactNodeOK13
import Derived.Test.YtcpcifgpcemaeaaKFnExactNodeOK15
import Derived.Test.YtcpcifgpcemaeaaKFnExactNodeOK17
import Derived.Test.YtcpcifgpcemaeaaKFnExactNodeOK18
import Derived.Test.YtcpcifgpcemaeaaRows
import Derived.WalkKit
import Derived.ProofKit
import Derived.OpenShut
import Derived.ShutString
import Derived.ChangeOld
import Derived.Below
import Derived.SizedLaws
namespace Go.Proofs.Ytcpcifgpcemaeaa.X
open Go.RowKit Go.Proofs.YtcpcifgpcemaeaaW.PrintWords Go.Proofs.YtcpcifgpcemaeaaW.PrintLast Go.Proofs.YtcpcifgpcemaeaaW.PrintMore
attribute [local go_sem] xbin_geq xbin_leq xbin_gtr max2_int min2_int max_two min_two max_three min_three max_four min_four   -- for this text's walks alone
set_option linter.unusedVariables false
set_option linter.unusedSimpArgs false

def freeB (leaf : Bool) (ps : List S150) (ks : List ByteArray) (cs : List Int) : Bool := !leaf && (decide (ps.length = 0) && (decide (ks.length = 0) && decide (cs.length = 0)))
/-- The way down at place i is right, and its key behind the one ahead of it. -/
def kidAt (ks : List ByteArray) (cs : List Int) (i : Nat) : Bool := inB (rd cs i) 0 49 && (keyB (rdOf ByteArray.empty ks i) && (decide (i = 0) || Op.bytesLess (rdOf ByteArray.empty ks ((i - 1 : Nat) : Int)).toList (rdOf ByteArray.empty ks i).toList))
def nodeB (leaf : Bool) (ps : List S150) (ks : List ByteArray) (cs : List Int) : Bool :=
  freeB leaf ps ks cs || (if leaf = true then (inB ps.length 1 3 && (pairsB ps && (decide (ks.length = 0) && decide (cs.length = 0)))) else (decide (ps.length = 0) && (inB cs.length 1 4 && (decide (ks.length = cs.length) && allB (kidAt ks cs) cs.length))))
theorem key_in (s : ByteArray) : inB (s.size : Int) 1 30 = keyB s := by
  unfold inB keyB
  rw [Bool.eq_iff_iff]
  simp only [Bool.and_eq_true, decide_eq_true_eq]
  omega
theorem len_eq_zero (n : Nat) : ((n : Int) == 0) = decide (n = 0) := by
  by_cases h : n = 0
  · simp [h]
  · simp [h]
theorem spec_free (leaf : Bool) (ps : List S150) (ks : List ByteArray) (cs : List Int) : spec_l03Free.f leaf ps ks cs = some (freeB leaf ps ks cs) := by
  unfold spec_l03Free.f freeB
  rw [len_eq_zero]
  cases leaf with
  | true => simp
  | false =>
    by_cases h1 : ps.length = 0
    · by_cases h2 : ks.length = 0
      · simp [h1, h2]
      · simp [h1, h2]
    · simp [h1]
theorem impl_free (leaf : Bool) (ps : List S150) (ks : List ByteArray) (cs : List Int) : impl_Node_free.f leaf ps ks cs = some (freeB leaf ps ks cs) := by
  unfold impl_Node_free.f freeB
  rw [len_eq_zero]
  cases leaf with
  | true => simp
  | false =>
    by_cases h1 : ps.length = 0
    · by_cases h2 : ks.length = 0
      · simp [h1, h2]
      · simp [h1, h2]
    · simp [h1]
theorem spec_node_loop (leaf : Bool) (ps : List S150) (ks : List ByteArray) (cs : List Int) (he : ks.length = cs.length) (hl : cs.length < 9223372036854775807) : Ev (fun k => spec_NodeOK.l0 k 0 leaf ps ks cs) (allB (kidAt ks cs) cs.length) := by
  refine Ev.same (Ev.all (g := fun k x => spec_NodeOK.l0 k x leaf ps ks cs) (kidAt ks cs) true cs.length ?_ ?_) (by simp)
  · refine Ev.succ ?_
    simp only [spec_NodeOK.l0]
    exact Ev.neg (by omega) (Ev.is rfl)
  · intro i hi r h
    refine Ev.succ ?_
    simp only [spec_NodeOK.l0, spec_in, key_in, Option.bind_some, wrap_at (n := i) (by omega)]
    refine Ev.pos (by omega) (Ev.pos (by omega) ?_)
    cases h1 : inB (rd cs i) 0 49 with
    | false => exact Ev.neg (by simp) (Ev.is (by simp [kidAt, h1]))
    | true =>
      refine Ev.pos rfl (Ev.pos (by omega) ?_)
      cases h2 : keyB (rdOf ByteArray.empty ks i) with
      | false => exact Ev.neg (by simp) (Ev.is (by simp [kidAt, h2]))
      | true =>
        refine Ev.pos rfl ?_
        by_cases h0 : i = 0
        · subst h0
          exact Ev.neg (by omega) (Ev.same h (by simp [kidAt] at *; simp [h1, h2]))
        · simp only [wrap_less (n := i) (by omega) (by omega)]
          refine Ev.pos (by omega) (Ev.pos (by omega) (Ev.pos (by omega) ?_))
          cases h4 : Op.bytesLess (rdOf ByteArray.empty ks ((i - 1 : Nat) : Int)).toList (rdOf ByteArray.empty ks i).toList with
          | false => exact Ev.neg (by simp) (Ev.is (by simp [kidAt, h4, h0]))
          | true => exact Ev.pos rfl (Ev.same h (by simp [kidAt, h1, h2, h4, h0]))
theorem impl_node_loop (leaf : Bool) (ps : List S150) (ks : List ByteArray) (cs : List Int) (he : ks.length = cs.length) (hl : cs.length < 9223372036854775807) : Ev (fun k => impl_NodeOK.l0 k ks (ks.length : Int) 0 leaf ps ks cs) (allB (kidAt ks cs) cs.length) := by
  refine Ev.same (Ev.all (g := fun k x => impl_NodeOK.l0 k ks (ks.length : Int) x leaf ps ks cs) (kidAt ks cs) true cs.length ?_ ?_) (by simp)
  · refine Ev.succ ?_
    simp only [impl_NodeOK.l0]
    exact Ev.neg (by omega) (Ev.is rfl)
  · intro i hi r h
    refine Ev.succ ?_
    simp only [impl_NodeOK.l0, impl_in, impl_key, Option.bind_some, wrap_at (n := i) (by omega)]
    refine Ev.pos (by omega) (Ev.pos (by omega) (Ev.pos (by omega) ?_))
    cases h1 : keyB (rdOf ByteArray.empty ks i) with
    | false => exact Ev.neg (by simp) (Ev.is (by simp [kidAt, h1]))
    | true =>
      refine Ev.pos rfl (Ev.pos (by omega) ?_)
      cases h2 : inB (rd cs i) 0 49 with
      | false => exact Ev.neg (by simp) (Ev.is (by simp [kidAt, h2]))
      | true =>
        refine Ev.pos rfl ?_
        by_cases h0 : i = 0
        · subst h0
          exact Ev.neg (by omega) (Ev.same h (by simp [kidAt] at *; simp [h1, h2]))
        · simp only [wrap_less (n := i) (by omega) (by omega)]
          refine Ev.pos (by omega) (Ev.pos (by omega) (Ev.pos (by omega) ?_))
          cases h4 : Op.bytesLess (rdOf ByteArray.empty ks ((i - 1 : Nat) : Int)).toList (rdOf ByteArray.empty ks i).toList with
          | false => exact Ev.neg (by simp) (Ev.is (by simp [kidAt, h4, h0]))
          | true => exact Ev.pos rfl (Ev.same h (by simp [kidAt, h1, h2, h4, h0]))
theorem len_bne (a b : Nat) : ((a : Int) != (b : Int)) = !decide (a = b) := by
  by_cases h : a = b
  · simp [h]
  · rw [decide_eq_false h]
    simp
    omega
theorem spec_nodeOK (leaf : Bool) (ps : List S150) (ks : List ByteArray) (cs : List Int) (hl : cs.length < 9223372036854775807) : Ev (fun k => spec_NodeOK.f k leaf ps ks cs) (nodeB leaf ps ks cs) := by
  have hj : ∀ c : Bool, (c = false → ks.length = cs.length) → Ev (fun k => spec_NodeOK.j0 k c leaf ps ks cs) (!c && allB (kidAt ks cs) cs.length) := by
    intro c hc
    refine Ev.succ ?_
    simp only [spec_NodeOK.j0]
    cases c with
    | true => exact Ev.pos rfl (Ev.is rfl)
    | false => exact Ev.neg (by simp) (Ev.same (spec_node_loop leaf ps ks cs (hc rfl) hl) (by simp))
  unfold spec_NodeOK.f nodeB
  simp only [spec_free, spec_in, Option.bind_some, len_eq_zero, len_bne]
  cases h0 : freeB leaf ps ks cs with
  | true => exact Ev.pos rfl (Ev.is (by simp))
  | false =>
    refine Ev.neg (by simp) ?_
    cases h1 : leaf with
    | true =>
      refine Ev.pos rfl ?_
      cases h2 : inB ps.length 1 3 with
      | false => exact Ev.neg (by simp) (Ev.is (by simp))
      | true =>
        refine Ev.pos rfl (Ev.bind (spec_pairsOK ps) ?_)
        cases h3 : pairsB ps with
        | false => exact Ev.neg (by simp) (Ev.is (by simp))
        | true =>
          refine Ev.pos rfl ?_
          by_cases h4 : ks.length = 0
          · exact Ev.pos (by omega) (Ev.is (by simp [h4]))
          · exact Ev.neg (by omega) (Ev.is (by simp [h4]))
    | false =>
      rw [h1] at hj
      refine Ev.neg (by simp) ?_
      by_cases h2 : ps.length = 0
      · refine Ev.pos (by omega) ?_
        cases h3 : inB cs.length 1 4 with
        | false => exact Ev.neg (by simp) (Ev.same (hj true (by simp)) (by simp))
        | true => exact Ev.pos rfl (Ev.same (hj _ (by simp)) (by simp [h2]))
      · exact Ev.neg (by omega) (Ev.same (hj true (by simp)) (by simp [h2]))
theorem impl_nodeOK (leaf : Bool) (ps : List S150) (ks : List ByteArray) (cs : List Int) (hl : cs.length < 9223372036854775807) : Ev (fun k => impl_NodeOK.f k leaf ps ks cs) (nodeB leaf ps ks cs) := by
  have hj : ∀ c : Bool, (c = false → ks.length = cs.length) → Ev (fun k => impl_NodeOK.j0 k c leaf ps ks cs) (!c && allB (kidAt ks cs) cs.length) := by
    intro c hc
    refine Ev.succ ?_
    simp only [impl_NodeOK.j0]
    cases c with
    | true => exact Ev.pos rfl (Ev.is rfl)
    | false => exact Ev.neg (by simp) (Ev.same (impl_node_loop leaf ps ks cs (hc rfl) hl) (by simp))
  unfold impl_NodeOK.f nodeB
  simp only [impl_free, impl_in, Option.bind_some, len_eq_zero, len_bne]
  cases h0 : freeB leaf ps ks cs with
  | true => exact Ev.pos rfl (Ev.is (by simp))
  | false =>
    refine Ev.neg (by simp) ?_
    cases h1 : leaf with
    | true =>
      refine Ev.pos rfl ?_
      cases h2 : inB ps.length 1 3 with
      | false => exact Ev.neg (by simp) (Ev.is (by simp))
      | true =>
        have hp : ps.length ≤ 3 := by simp only [inB, Bool.and_eq_true, decide_eq_true_eq] at h2; omega
        have e3 : pairsB ps = chainB none ps := by unfold pairsB; rw [decide_eq_true (by omega), Bool.true_and]
        refine Ev.pos rfl (Ev.bind (impl_rising ps (by omega)) ?_)
        rw [e3]
        cases h3 : chainB none ps with
        | false => exact Ev.neg (by simp) (Ev.is (by simp))
        | true =>
          refine Ev.pos rfl ?_
          by_cases h4 : ks.length = 0
          · exact Ev.pos (by omega) (Ev.is (by simp [h4]))
          · exact Ev.neg (by omega) (Ev.is (by simp [h4]))
    | false =>
      rw [h1] at hj
      refine Ev.neg (by simp) ?_
      by_cases h2 : ps.length = 0
      · refine Ev.neg (by omega) ?_
        cases h3 : inB cs.length 1 4 with
        | false => exact Ev.neg (by simp) (Ev.same (hj true (by simp)) (by simp))
        | true => exact Ev.pos rfl (Ev.same (hj _ (by simp)) (by simp [h2]))
      · exact Ev.pos (by omega) (Ev.same (hj true (by simp)) (by simp [h2]))

end Go.Proofs.Ytcpcifgpcemaeaa.X

/- The law FnExactNodeOK returns true for every node: the program's NodeOK answers as the reference, and writes into no argument. No conditions. -/
set_option linter.unusedSimpArgs false
set_option linter.unusedVariables false
namespace Go.Proofs.Ytcpcifgpcemaeaa.X.Pure
open Go.RowKit Go.Proofs.Ytcpcifgpcemaeaa.X Go.Proofs.YtcpcifgpcemaeaaW.PrintWords Go.Proofs.YtcpcifgpcemaeaaW.PrintLast

theorem FnExactNodeOK : laws_FnExactNodeOK.Pure := by
  intro b l1 l2 l3 _ h1 h2 h3
  refine Ev.rounds (g := fun k => laws_FnExactNodeOK.f k b l1 l2 l3) ?_
  unfold laws_FnExactNodeOK.f
  obtain ⟨r, hr, hq⟩ := sz_Node ⟨b, l1, l2, l3⟩ ⟨trivial, h1, h2, h3.1⟩ 1048576 1048576 (by omega) (by omega) (by omega)
  refine Ev.bind hr ?_
  by_cases h : r < 0
  · exact Ev.pos h (Ev.is rfl)
  refine Ev.neg h ?_
  have hs := (hq (by omega)).2
  have ht := to_Node ⟨b, l1, l2, l3⟩ hs
  have n1 : (l1.map cv148).length ≤ 1048576 := by rw [List.length_map]; have := hs.2.1.1; simp only at this; omega
  have n2 : l2.length ≤ 1048576 := by have := hs.2.2.1.1; simp only at this; omega
  have n3 : l3.length ≤ 1048576 := by have := hs.2.2.2; simp only at this; omega
  refine Ev.bind ht (Ev.bind (spec_nodeOK _ _ _ _ (by simp only; omega)) (Ev.bind ht (Ev.bind (impl_nodeOK _ _ _ _ (by simp only; omega)) (Ev.neg (by simp) (Ev.bind ht (Ev.bind (eq_Node ⟨b, l1.map cv148, l2, l3⟩ ⟨trivial, ⟨by simp only; omega, fun y _ => ⟨trivial, trivial⟩⟩, by simp only; omega, by simp only; omega⟩) (Ev.pos rfl (Ev.is rfl))))))))

end Go.Proofs.Ytcpcifgpcemaeaa.X.Pure

namespace Go.Proofs.Ytcpcifgpcemaeaa.fnExactNodeOK
open Go.ChangeShapes Go.WideShapes Go.ChangeAt Go.RowKit Go.Proofs.Ytcpcifgpcemaeaa.X Go.Proofs.YtcpcifgpcemaeaaW.PrintWords
open Go.ChangeMaps (open_string shut_string)
set_option linter.unusedVariables false
theorem own : ownKnob Try.prog.godebug = none := by kernel_rfl
theorem laidOut : laidOutB Try.prog = true := by kernel_rfl
set_option maxRecDepth 100000 in
theorem lifted (os : Os) (started : os.Started) (H : Type) (enc : TypeId × Value → H) :
    ReturnsInHanded {} Try.checked os 13 .any (Rows.fnExactNodeOKSpec.pre6 enc Try.prog Try.f13 Rows.fnExactNodeOKRow.domain false) (Rows.fnExactNodeOKSpec.post enc Try.prog Try.f13 false true false false) := by
  refine returnsInHanded_of_change_sized (C := Try.checked) own started (by kernel_rfl) Try.func13
    (ChangeSpec.witness6 (enc := enc) (C := Try.checked) false ⟨#[], #[.agg #[.bool false, .slice none 0 0, .slice none 0 0, .slice none 0 0]], []⟩ 8 (by kernel_rfl) (by kernel_rfl) (by kernel_rfl) (by kernel_rfl)) ?_
  intro W base args ds gs before hval0 hW hcnd hsz0 _
  have hsz : (DataW.weightsEach Try.prog (Try.f13.params.toList ++ Rows.fnExactNodeOKSpec.plain.varTypes Try.prog) (ds ++ gs)).all (· ≤ reachBytes) = true := hsz0
  have hval : ∀ (j : Nat) t v, Try.f13.params[j]? = some t → args[j]? = some v → Value.okWide Try.prog W .any base t v := hval0
  have hW' := hW
  obtain ⟨p, q, hA0, hV, rfl, hfz, hnd⟩ := hW
  have hA : DataW.TrodAll enc Try.prog W 0 (fun _ => true) true Try.f13.params.toList args.toList ds p := hA0
  rw [Try.params13] at hA hval hsz
  obtain ⟨v0, vs0, d0, ds0, p0, q0, hargs, rfl, rfl, h0, r0⟩ := trodAll_cons hA
  obtain ⟨rfl, rfl, rfl⟩ := trodAll_nil r0
  obtain rfl : args = #[v0] := by cases args; simp_all
  obtain ⟨rfl, rfl⟩ := trodVars_none hV
  have k0 := h0
  have lt0 : ∀ x ∈ p0, x.block < W.heap.size := by obtain ⟨m, hm⟩ := k0; exact DataW.trod_lt m _ _ _ hm
  obtain ⟨x0, cs0, rfl, hK0, hw0⟩ := Opens.agg_arg opens67 Try.underlying67 (hval 0 67 v0 rfl rfl) h0
  obtain ⟨A0_1, c0_1, A0_2, c0_2, A0_3, c0_3, rfl, hc0_1, hr0_1, hc0_2, hr0_2, hc0_3, hr0_3⟩ := k67_open hK0
  obtain ⟨a0_0, l0_1, l0_2, l0_3⟩ := x0
  clear hA0 hval0 hsz0 hsz
  obtain ⟨k, hP⟩ := X.Pure.FnExactNodeOK a0_0 l0_1 l0_2 l0_3 hw0.1 hw0.2.1 hw0.2.2.1 hw0.2.2.2
  refine (laws_FnExactNodeOK.calls k a0_0 A0_1 c0_1 l0_1 A0_2 c0_2 l0_2 A0_3 c0_3 l0_3 true W hr0_1 hc0_1 hr0_2 hc0_2 hr0_3 hc0_3 hP).mono fun e W' hQ => ?_
  obtain ⟨he, bel0⟩ := hQ
  subst he
  have bel : Below W.heap.size W W' := bel0
  exact ⟨_, rfl, _, _, _, [], _, [], hW', trodAll_mk1 (shut_bool Try.underlying4 _), (trodAll_cons_mk (Below.trod laidOut (by kernel_rfl) (of_decide_eq_true (by kernel_rfl)) k0 bel lt0) trodAll_mk0), rfl, bel.frame _, fun h => by cases h⟩
theorem over : Rows.fnExactNodeOKRow.holds Try.pinned (OpenSpec.ofChange Rows.fnExactNodeOKSpec) :=
  OpenClaim.holds_of_wide 13 Try.f13 rfl rfl rfl rfl rfl rfl rfl ⟨rfl, rfl, rfl, rfl, rfl⟩ rfl rfl rfl rfl rfl (by kernel_rfl) Try.func13 (by kernel_rfl)
    (of_decide_eq_true (by kernel_rfl)) (by unfold Func.isWrapper; first | (rw [if_pos (by decide +kernel)]; kernel_rfl) | (rw [if_neg (by decide +kernel)]; exact ⟨rfl, rfl⟩))
    (fun os started H enc _ => lifted os started H enc)
theorem proved : Rows.FnExactNodeOKSaid := over
end Go.Proofs.Ytcpcifgpcemaeaa.fnExactNodeOK
namespace Go.Proofs.Ytcpcifgpcemaeaa
/-- The row, under a short name, for the claim. -/
theorem fnExactNodeOK_holds : Rows.FnExactNodeOKSaid := fnExactNodeOK.proved
end Go.Proofs.Ytcpcifgpcemaeaa
