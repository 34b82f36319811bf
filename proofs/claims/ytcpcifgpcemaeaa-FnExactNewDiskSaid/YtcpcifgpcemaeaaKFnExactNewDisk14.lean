import Derived.Test.YtcpcifgpcemaeaaKFnExactNewDisk0
import Derived.Test.YtcpcifgpcemaeaaKFnExactNewDisk7
import Derived.Test.YtcpcifgpcemaeaaKFnExactNewDisk8
import Derived.Test.YtcpcifgpcemaeaaKFnExactNewDisk9
import Derived.Test.YtcpcifgpcemaeaaKFnExactNewDisk10
import Derived.Test.YtcpcifgpcemaeaaKFnExactNewDisk11
import Derived.Test.YtcpcifgpcemaeaaKFnExactNewDisk13
import Derived.Test.YtcpcifgpcemaeaaRows
import Derived.WalkKit
import Derived.ProofKit
import Derived.OpenShut
import Derived.ShutString
import Derived.ChangeOld
import Derived.Below
import Derived.SizedLaws
namespace Go.Proofs.Ytcpcifgpcemaeaa.X
open Go.RowKit Go.Proofs.YtcpcifgpcemaeaaW.PrintWords Go.Proofs.YtcpcifgpcemaeaaW.PrintLast Go.Proofs.YtcpcifgpcemaeaaW.PrintMore
attribute [local go_sem] xbin_geq xbin_leq xbin_gtr max2_int min2_int max_two min_two max_three min_three max_four min_four   -- for this text's walks alone
set_option linter.unusedVariables false
set_option linter.unusedSimpArgs false

theorem held_StringS_loop (rest : List ByteArray) : ∀ (pre : List ByteArray) (m : Int), 0 ≤ m → m + 1 * (rest.length : Int) ≤ 4611686018427387904 → (pre ++ rest).length ≤ 9223372036854775807 →
    Ev (fun k => laws_heldStringS.l0 k (pre ++ mk_StringS rest m) m ((pre.length : Nat) : Int)) (m + 1 * (rest.length : Int)) := by
  induction rest with
  | nil =>
    intro pre m h0 h1 hl
    refine Ev.succ ?_
    simp only [laws_heldStringS.l0]
    exact Ev.neg (by simp [mk_StringS]) (Ev.is (by simp))
  | cons x rest ih =>
    intro pre m h0 h1 hl
    simp only [mk_StringS, List.length_cons] at h1 ⊢
    have hlt : ((pre.length : Nat) : Int) < ((pre ++ (mt m) :: mk_StringS rest (m + 1)).length : Int) := by simp; omega
    have hwp : wrap64 (((pre.length : Nat) : Int) + 1) = (((pre ++ [(mt m)]).length : Nat) : Int) := by rw [← len_snoc]; exact wrap_at (by simp at hl; omega)
    have hrd : rdOf ByteArray.empty (pre ++ (mt m) :: mk_StringS rest (m + 1)) ((pre.length : Nat) : Int) = (mt m) := by simp [rdOf, List.getD_eq_getElem?_getD]
    have w1 : wrap64 (m + 1) = m + 1 := (wrap_id (by omega) (by omega)).trans (by omega)
    have hi := ih (pre ++ [(mt m)]) (m + 1) (by omega) (by omega) (by simpa using hl)
    have e3 : pre ++ (mt m) :: mk_StringS rest (m + 1) = (pre ++ [(mt m)]) ++ mk_StringS rest (m + 1) := by simp
    rw [← e3] at hi
    refine Ev.succ ?_
    simp only [laws_heldStringS.l0, hrd, hwp, w1]
    refine Ev.pos hlt (Ev.pos (by omega) ?_)
    repeat (first | refine Ev.bind (mt_ev (by omega)) ?_ | refine Ev.pos trivial ?_ | refine Ev.pos rfl ?_ | refine Ev.neg (by simp) ?_)
    exact Ev.same hi (by omega)
theorem held_StringS (l : List ByteArray) (m : Int) (h0 : 0 ≤ m) (h1 : m + 1 * (l.length : Int) ≤ 4611686018427387904) (hl : l.length ≤ 9223372036854775807) : Ev (fun k => laws_heldStringS.f k (mk_StringS l m) m) (m + 1 * (l.length : Int)) := by
  unfold laws_heldStringS.f
  have h := held_StringS_loop l [] m h0 h1 (by simpa using hl)
  simpa using h

end Go.Proofs.Ytcpcifgpcemaeaa.X

namespace Go.Proofs.Ytcpcifgpcemaeaa.X
open Go.RowKit Go.Proofs.YtcpcifgpcemaeaaW.PrintWords Go.Proofs.YtcpcifgpcemaeaaW.PrintLast Go.Proofs.YtcpcifgpcemaeaaW.PrintMore
attribute [local go_sem] xbin_geq xbin_leq xbin_gtr max2_int min2_int max_two min_two max_three min_three max_four min_four   -- for this text's walks alone
set_option linter.unusedVariables false
set_option linter.unusedSimpArgs false

theorem mark_Disk (x : S26) (m : Int) (h0 : 0 ≤ m) (h1 : m + 1 * (x.f0.length : Int) + 2 * (x.f1.length : Int) + 1 * (x.f3.length : Int) ≤ 4611686018427387904) (l0 : x.f0.length ≤ 9223372036854775807) (l1 : x.f1.length ≤ 9223372036854775807) (l3 : x.f3.length ≤ 9223372036854775807) :
    Ev (fun k => laws_markDisk.f k x.f0 x.f1 x.f2 x.f3 m) (m + 1 * (x.f0.length : Int) + 2 * (x.f1.length : Int) + 1 * (x.f3.length : Int), mk_StringS x.f0 m, mk_PendingS x.f1 (m + 1 * (x.f0.length : Int)), mk_IntS x.f3 (m + 1 * (x.f0.length : Int) + 2 * (x.f1.length : Int))) := by
  unfold laws_markDisk.f
  exact Ev.bind (mark_StringS _ m h0 (by omega) l0) (Ev.bind (mark_PendingS _ _ (by simp only; omega) (by simp only; omega) l1) (Ev.bind (mark_IntS _ _ (by simp only; omega) (by simp only; omega) l3) (Ev.is rfl)))
theorem held_Disk (x : S26) (m : Int) (h0 : 0 ≤ m) (h1 : m + 1 * (x.f0.length : Int) + 2 * (x.f1.length : Int) + 1 * (x.f3.length : Int) ≤ 4611686018427387904) (l0 : x.f0.length ≤ 9223372036854775807) (l1 : x.f1.length ≤ 9223372036854775807) (l3 : x.f3.length ≤ 9223372036854775807) :
    Ev (fun k => laws_heldDisk.f k (mk_StringS x.f0 m) (mk_PendingS x.f1 (m + 1 * (x.f0.length : Int))) x.f2 (mk_IntS x.f3 (m + 1 * (x.f0.length : Int) + 2 * (x.f1.length : Int))) m) (m + 1 * (x.f0.length : Int) + 2 * (x.f1.length : Int) + 1 * (x.f3.length : Int)) := by
  unfold laws_heldDisk.f
  exact Ev.bind (held_StringS _ m h0 (by omega) l0) (Ev.neg (by omega) (Ev.bind (held_PendingS _ _ (by omega) (by omega) l1) (Ev.neg (by omega) (Ev.bind (held_IntS _ _ (by omega) (by omega) l3) (Ev.neg (by omega) (Ev.is rfl))))))

end Go.Proofs.Ytcpcifgpcemaeaa.X

namespace Go.Proofs.Ytcpcifgpcemaeaa.X
open Go.RowKit Go.Proofs.YtcpcifgpcemaeaaW.PrintWords Go.Proofs.YtcpcifgpcemaeaaW.PrintLast Go.Proofs.YtcpcifgpcemaeaaW.PrintMore
attribute [local go_sem] xbin_geq xbin_leq xbin_gtr max2_int min2_int max_two min_two max_three min_three max_four min_four   -- for this text's walks alone
set_option linter.unusedVariables false
set_option linter.unusedSimpArgs false

def inB (x a b : Int) : Bool := decide (a ≤ x) && decide (x ≤ b)
theorem spec_in (x a b : Int) : spec_l01In.f x a b = some (inB x a b) := by
  unfold spec_l01In.f inB
  by_cases h : a ≤ x <;> simp [h]
theorem impl_in (x a b : Int) : impl_within.f x a b = some (inB x a b) := by
  unfold impl_within.f inB
  by_cases h : a ≤ x
  · rw [if_pos (by omega)]; simp [h]
  · rw [if_neg (by omega)]; simp [h]

end Go.Proofs.Ytcpcifgpcemaeaa.X

namespace Go.Proofs.Ytcpcifgpcemaeaa.X
open Go.RowKit Go.Proofs.YtcpcifgpcemaeaaW.PrintWords Go.Proofs.YtcpcifgpcemaeaaW.PrintLast Go.Proofs.YtcpcifgpcemaeaaW.PrintMore
attribute [local go_sem] xbin_geq xbin_leq xbin_gtr max2_int min2_int max_two min_two max_three min_three max_four min_four   -- for this text's walks alone
set_option linter.unusedVariables false
set_option linter.unusedSimpArgs false

def newD (n : Int) : List ByteArray × (List S95) × Bool × List Int × Int := if inB n 1 80 = true then (List.replicate n.toNat (⟨#[]⟩ : ByteArray), [], false, [], 0) else ([], [], false, [], 4)
theorem inB_is {x a b : Int} : inB x a b = true ↔ a ≤ x ∧ x ≤ b := by simp [inB]
theorem spec_new (n : Int) : spec_NewDisk.f n = some (newD n) := by
  unfold spec_NewDisk.f newD
  rw [spec_in, Option.bind_some]
  cases h : inB n 1 80 with
  | false => simp
  | true =>
    have := inB_is.1 h
    unfold spec_l02New.f
    simp only [if_true]
    rw [if_pos (by omega), if_pos (by omega), Option.bind_some]
theorem impl_new (n : Int) : impl_NewDisk.f n = some (newD n) := by
  unfold impl_NewDisk.f newD
  rw [impl_in, Option.bind_some]
  cases h : inB n 1 80 with
  | false => simp
  | true =>
    have := inB_is.1 h
    simp only [if_true]
    rw [if_pos (by omega), if_pos (by omega)]
theorem newD_len (n : Int) : (newD n).1.length ≤ 80 ∧ (newD n).2.1.length ≤ 80 ∧ (newD n).2.2.2.1.length ≤ 80 := by
  unfold newD
  cases h : inB n 1 80 with
  | false => simp
  | true =>
    have := inB_is.1 h
    simp
    omega

end Go.Proofs.Ytcpcifgpcemaeaa.X

/- The law FnExactNewDisk returns true for every size: the program's NewDisk answers as the reference, with memory of its own at each call. No conditions. -/
set_option linter.unusedSimpArgs false
set_option linter.unusedVariables false
namespace Go.Proofs.Ytcpcifgpcemaeaa.X.Pure
open Go.RowKit Go.Proofs.Ytcpcifgpcemaeaa.X Go.Proofs.YtcpcifgpcemaeaaW.PrintWords Go.Proofs.YtcpcifgpcemaeaaW.PrintLast

theorem FnExactNewDisk : laws_FnExactNewDisk.Pure := by
  intro n _
  refine Ev.rounds (g := fun k => laws_FnExactNewDisk.f k n) ?_
  unfold laws_FnExactNewDisk.f
  have sN := spec_new n
  have iN := impl_new n
  have hn := newD_len n
  generalize newD n = R at *
  obtain ⟨d0, d1, d2, d3, c⟩ := R
  simp only at hn
  have eD := eq_Disk ⟨d0, d1, d2, d3⟩ ⟨by simp only; omega, ⟨by simp only; omega, fun y _ => ⟨trivial, trivial⟩⟩, trivial, by simp only; omega⟩
  have mD := mark_Disk ⟨d0, d1, d2, d3⟩ 1 (by omega) (by simp only; omega) (by simp only; omega) (by simp only; omega) (by simp only; omega)
  have hD := held_Disk ⟨d0, d1, d2, d3⟩ 1 (by omega) (by simp only; omega) (by simp only; omega) (by simp only; omega) (by simp only; omega)
  simp only at eD mD hD
  have hj1 : Ev (fun k => laws_FnExactNewDisk.j1 k (1 + 1 * (d0.length : Int) + 2 * (d1.length : Int) + 1 * (d3.length : Int)) false (mk_StringS d0 1) (mk_PendingS d1 (1 + 1 * (d0.length : Int))) d2 (mk_IntS d3 (1 + 1 * (d0.length : Int) + 2 * (d1.length : Int)))) true := by
    refine Ev.succ ?_
    simp only [laws_FnExactNewDisk.j1]
    exact Ev.neg (by simp) (Ev.bind hD (Ev.neg (by omega) (Ev.pos rfl (Ev.is rfl))))
  have hj0 : Ev (fun k => laws_FnExactNewDisk.j0 k n c false d0 d1 d2 d3 d0 d1 d2 d3) true := by
    refine Ev.succ ?_
    simp only [laws_FnExactNewDisk.j0]
    refine Ev.neg (by simp) (Ev.bind mD (Ev.bind hD (Ev.neg (by omega) (Ev.pos rfl (Ev.bindk iN (Ev.bind eD (Ev.pos rfl ?_)))))))
    simp only [bne_self_eq_false]
    exact hj1
  refine Ev.bindk sN (Ev.bindk iN (Ev.bind eD (Ev.pos rfl ?_)))
  simp only [bne_self_eq_false]
  exact hj0

end Go.Proofs.Ytcpcifgpcemaeaa.X.Pure

namespace Go.Proofs.Ytcpcifgpcemaeaa.fnExactNewDisk
open Go.ChangeShapes Go.WideShapes Go.ChangeAt Go.RowKit Go.Proofs.Ytcpcifgpcemaeaa.X Go.Proofs.YtcpcifgpcemaeaaW.PrintWords
open Go.ChangeMaps (open_string shut_string)
set_option linter.unusedVariables false
theorem own : ownKnob Try.prog.godebug = none := by kernel_rfl
theorem laidOut : laidOutB Try.prog = true := by kernel_rfl
set_option maxRecDepth 100000 in
theorem lifted (os : Os) (started : os.Started) (H : Type) (enc : TypeId × Value → H) :
    ReturnsInHanded {} Try.checked os 3 .any (Rows.fnExactNewDiskSpec.pre6 enc Try.prog Try.f3 Rows.fnExactNewDiskRow.domain false) (Rows.fnExactNewDiskSpec.post enc Try.prog Try.f3 false true false false) := by
  refine returnsInHanded_of_change_sized (C := Try.checked) own started (by kernel_rfl) Try.func3
    (ChangeSpec.witness6 (enc := enc) (C := Try.checked) false ⟨#[], #[.int .i64 0], []⟩ 8 (by kernel_rfl) (by kernel_rfl) (by kernel_rfl) (by kernel_rfl)) ?_
  intro W base args ds gs before hval0 hW hcnd hsz0 _
  have hsz : (DataW.weightsEach Try.prog (Try.f3.params.toList ++ Rows.fnExactNewDiskSpec.plain.varTypes Try.prog) (ds ++ gs)).all (· ≤ reachBytes) = true := hsz0
  have hval : ∀ (j : Nat) t v, Try.f3.params[j]? = some t → args[j]? = some v → Value.okWide Try.prog W .any base t v := hval0
  have hW' := hW
  obtain ⟨p, q, hA0, hV, rfl, hfz, hnd⟩ := hW
  have hA : DataW.TrodAll enc Try.prog W 0 (fun _ => true) true Try.f3.params.toList args.toList ds p := hA0
  rw [Try.params3] at hA hval hsz
  obtain ⟨v0, vs0, d0, ds0, p0, q0, hargs, rfl, rfl, h0, r0⟩ := trodAll_cons hA
  obtain ⟨rfl, rfl, rfl⟩ := trodAll_nil r0
  obtain rfl : args = #[v0] := by cases args; simp_all
  obtain ⟨rfl, rfl⟩ := trodVars_none hV
  obtain ⟨a0, rfl, rfl, rfl, w0⟩ := open_int Try.underlying3 (hval 0 3 v0 rfl rfl) h0
  clear hA0 hval0 hsz0 hsz
  obtain ⟨k, hP⟩ := X.Pure.FnExactNewDisk a0 w0
  refine (laws_FnExactNewDisk.calls k a0 true W  hP).mono fun e W' hQ => ?_
  obtain ⟨he, bel0⟩ := hQ
  subst he
  have bel : Below W.heap.size W W' := bel0
  exact ⟨_, rfl, _, _, _, [], _, [], hW', trodAll_mk1 (shut_bool Try.underlying4 _), (trodAll_cons_mk (shut_int Try.underlying3 w0) trodAll_mk0), rfl, bel.frame _, fun h => by cases h⟩
theorem over : Rows.fnExactNewDiskRow.holds Try.pinned (OpenSpec.ofChange Rows.fnExactNewDiskSpec) :=
  OpenClaim.holds_of_wide 3 Try.f3 rfl rfl rfl rfl rfl rfl rfl ⟨rfl, rfl, rfl, rfl, rfl⟩ rfl rfl rfl rfl rfl (by kernel_rfl) Try.func3 (by kernel_rfl)
    (of_decide_eq_true (by kernel_rfl)) (by unfold Func.isWrapper; first | (rw [if_pos (by decide +kernel)]; kernel_rfl) | (rw [if_neg (by decide +kernel)]; exact ⟨rfl, rfl⟩))
    (fun os started H enc _ => lifted os started H enc)
theorem proved : Rows.FnExactNewDiskSaid := over
end Go.Proofs.Ytcpcifgpcemaeaa.fnExactNewDisk
namespace Go.Proofs.Ytcpcifgpcemaeaa
/-- The row, under a short name, for the claim. -/
theorem fnExactNewDisk_holds : Rows.FnExactNewDiskSaid := fnExactNewDisk.proved
end Go.Proofs.Ytcpcifgpcemaeaa
