import Derived.Test.YtonfmdgklgdgfaaKFnExactCheck322
import Derived.Test.YtonfmdgklgdgfaaKFnExactCheck323
import Derived.Test.YtonfmdgklgdgfaaKFnExactCheck324
import Derived.Test.YtonfmdgklgdgfaaKFnExactCheck325
import Derived.Test.YtonfmdgklgdgfaaRows
import Derived.WalkKit
import Derived.ProofKit
import Derived.OpenShut
import Derived.ShutString
import Derived.ChangeOld
import Derived.Below
import Derived.SizedLaws
namespace Go.Proofs.Ytonfmdgklgdgfaa.X
open Go.RowKit Go.Proofs.YtonfmdgklgdgfaaW.PrintWords Go.Proofs.YtonfmdgklgdgfaaW.PrintLast Go.Proofs.YtonfmdgklgdgfaaW.PrintMore
attribute [local go_sem] xbin_geq xbin_leq xbin_gtr max2_int min2_int max_two min_two max_three min_three max_four min_four
set_option linter.unusedVariables false
set_option linter.unusedSimpArgs false
theorem to_ByteS_loop (rest : List Int) : ∀ (pre : List Int), ((pre ++ rest).length : Int) ≤ 1048576 → (∀ y ∈ rest, True) →
    Ev (fun k => laws_toByteS.l0 k (pre ++ rest) (pre ++ List.replicate rest.length 0) ((pre.length : Nat) : Int)) ((pre ++ rest)) := by
  induction rest with
  | nil =>
    intro pre hl hs
    refine Ev.succ ?_
    simp only [laws_toByteS.l0]
    exact Ev.neg (by simp) (Ev.is (by simp))
  | cons x rest ih =>
    intro pre hl hs
    have hx : rd (pre ++ x :: rest) ((pre.length : Nat) : Int) = x := by simp [rd, List.getD_eq_getElem?_getD]
    have hlt : ((pre.length : Nat) : Int) < ((pre ++ x :: rest).length : Int) := by simp; omega
    have hw : wrap64 (((pre.length : Nat) : Int) + 1) = (((pre ++ [x]).length : Nat) : Int) := by rw [← len_snoc]; exact wrap_at (by omega)
    have hset : ∀ v : Int, ((pre ++ List.replicate (x :: rest).length 0).set ((pre.length : Nat) : Int).toNat v) = (pre ++ [v]) ++ List.replicate rest.length 0 := fun v => by rw [Int.toNat_natCast, List.length_cons, List.replicate_succ]; simp
    have hi := ih (pre ++ [x]) (by simpa using hl) (fun y hy => hs y (List.mem_cons_of_mem _ hy))
    refine Ev.succ ?_
    simp only [laws_toByteS.l0, hx]
    refine Ev.pos hlt (Ev.pos (by omega) ?_)
    refine Ev.pos (by simp; omega) ?_
    simp only [hset, hw]
    have e1 : pre ++ x :: rest = (pre ++ [x]) ++ rest := by simp
    rw [e1]
    exact hi
theorem to_ByteS (l : List Int) (hs : (l.length : Int) ≤ 1048576) : Ev (fun k => laws_toByteS.f k l) (l) := by
  have hl : (l.length : Int) ≤ 1048576 := hs
  unfold laws_toByteS.f
  refine Ev.pos (by omega) (Ev.pos (by omega) ?_)
  have h := to_ByteS_loop l [] (by simpa using hl) (fun _ _ => trivial)
  simpa using h
end Go.Proofs.Ytonfmdgklgdgfaa.X
namespace Go.Proofs.Ytonfmdgklgdgfaa.X
open Go.RowKit Go.Proofs.YtonfmdgklgdgfaaW.PrintWords Go.Proofs.YtonfmdgklgdgfaaW.PrintLast Go.Proofs.YtonfmdgklgdgfaaW.PrintMore
attribute [local go_sem] xbin_geq xbin_leq xbin_gtr max2_int min2_int max_two min_two max_three min_three max_four min_four
set_option linter.unusedVariables false
set_option linter.unusedSimpArgs false
theorem eq_ByteS_loop (rest : List Int) : ∀ (pre : List Int), (pre ++ rest).length ≤ 9223372036854775807 → (True) → Ev (fun k => laws_eqByteS.l0 k (pre ++ rest) (pre ++ rest) ((pre.length : Nat) : Int)) true := by
  induction rest with
  | nil =>
    intro pre hl hs
    refine Ev.succ ?_
    simp only [laws_eqByteS.l0]
    exact Ev.neg (by simp) (Ev.is rfl)
  | cons x rest ih =>
    intro pre hl hs
    have hx : rd (pre ++ x :: rest) ((pre.length : Nat) : Int) = x := by simp [rd, List.getD_eq_getElem?_getD]
    have hlt : ((pre.length : Nat) : Int) < ((pre ++ x :: rest).length : Int) := by simp; omega
    have hwp : wrap64 (((pre.length : Nat) : Int) + 1) = (((pre ++ [x]).length : Nat) : Int) := by rw [← len_snoc]; exact wrap_at (by simp at hl; omega)
    have e1 : pre ++ x :: rest = (pre ++ [x]) ++ rest := by simp
    have hi := ih (pre ++ [x]) (by rw [← e1]; exact hl) trivial
    rw [← e1] at hi
    refine Ev.succ ?_
    simp only [laws_eqByteS.l0, hx, hwp]
    exact Ev.pos hlt (Ev.pos (by omega) (Ev.pos hlt (Ev.pos (by first | trivial | rfl) hi)))
theorem eq_ByteS (l : List Int) (h : l.length ≤ 9223372036854775807) : Ev (fun k => laws_eqByteS.f k l l) true := by
  unfold laws_eqByteS.f
  have hh := eq_ByteS_loop l [] (by simpa using h) trivial
  exact Ev.pos rfl (by simpa using hh)
end Go.Proofs.Ytonfmdgklgdgfaa.X
namespace Go.Proofs.Ytonfmdgklgdgfaa.X
open Go.RowKit Go.Proofs.YtonfmdgklgdgfaaW.PrintWords Go.Proofs.YtonfmdgklgdgfaaW.PrintLast Go.Proofs.YtonfmdgklgdgfaaW.PrintMore
attribute [local go_sem] xbin_geq xbin_leq xbin_gtr max2_int min2_int max_two min_two max_three min_three max_four min_four
set_option linter.unusedVariables false
set_option linter.unusedSimpArgs false
theorem wf_u8 {x : Int} (h : (Lit.int .u8 x).wf = true) : isByte x := by
  simp only [Lit.wf, Bool.and_eq_true, decide_eq_true_eq] at h
  have e1 : IntKind.u8.min = 0 := rfl
  have e2 : IntKind.u8.max = 255 := rfl
  rw [e1, e2] at h
  exact ⟨h.1, by omega⟩
def check32 (l : List Int) : Int := if 65536 < l.length then 0 else sumOf32 l
theorem spec_check (l : List Int) (hb : ∀ c, c ∈ l → isByte c) : spec_Check32.f l = some (check32 l) := by
  unfold spec_Check32.f check32 spec_l01Check.f
  by_cases h : 65536 < l.length
  · rw [if_pos (by omega), if_pos h]
  · have hb2 : ∀ c, c ∈ l → 0 ≤ c ∧ c < 256 := hb
    rw [if_neg (by omega), if_neg h, if_pos hb2]
    rfl
theorem impl_check (l : List Int) (hb : ∀ c, c ∈ l → isByte c) : Ev (fun k => impl_Check32.f k l) (check32 l) := by
  unfold impl_Check32.f check32
  by_cases h : 65536 < l.length
  · exact Ev.pos (by omega) (Ev.is (by rw [if_pos h]))
  · exact Ev.neg (by omega) (Ev.bind (impl_crc_is l (by omega) hb) (Ev.is (by rw [if_neg h])))
end Go.Proofs.Ytonfmdgklgdgfaa.X
set_option linter.unusedSimpArgs false
set_option linter.unusedVariables false
namespace Go.Proofs.Ytonfmdgklgdgfaa.X.Pure
open Go.RowKit Go.Proofs.Ytonfmdgklgdgfaa.X Go.Proofs.YtonfmdgklgdgfaaW.PrintWords Go.Proofs.YtonfmdgklgdgfaaW.PrintLast
theorem FnExactCheck32 : laws_FnExactCheck32.Pure := by
  intro l hw
  refine Ev.rounds (g := fun k => laws_FnExactCheck32.f k l) ?_
  unfold laws_FnExactCheck32.f
  by_cases h : (l.length : Int) > 1048576
  · exact Ev.pos h (Ev.is rfl)
  have hb : ∀ c, c ∈ l → isByte c := fun c hc => wf_u8 (hw.2 c hc)
  have ht := to_ByteS l (by omega)
  exact Ev.neg h (Ev.bind ht (Ev.bindk (spec_check l hb) (Ev.bind ht (Ev.bind (impl_check l hb) (Ev.pos rfl (Ev.bind ht (Ev.bind (eq_ByteS l (by omega)) (Ev.pos rfl (Ev.is rfl)))))))))
end Go.Proofs.Ytonfmdgklgdgfaa.X.Pure
namespace Go.Proofs.Ytonfmdgklgdgfaa.fnExactCheck32
open Go.ChangeShapes Go.WideShapes Go.ChangeAt Go.RowKit Go.Proofs.Ytonfmdgklgdgfaa.X Go.Proofs.YtonfmdgklgdgfaaW.PrintWords
open Go.ChangeMaps (open_string shut_string)
set_option linter.unusedVariables false
theorem own : ownKnob Try.prog.godebug = none := by kernel_rfl
theorem laidOut : laidOutB Try.prog = true := by kernel_rfl
set_option maxRecDepth 100000 in
theorem lifted (os : Os) (started : os.Started) (H : Type) (enc : TypeId × Value → H) :
    ReturnsInHanded {} Try.checked os 8 .any (Rows.fnExactCheck32Spec.pre6 enc Try.prog Try.f8 Rows.fnExactCheck32Row.domain false) (Rows.fnExactCheck32Spec.post enc Try.prog Try.f8 false true false false) := by
  refine returnsInHanded_of_change_sized (C := Try.checked) own started (by kernel_rfl) Try.func8
    (ChangeSpec.witness6 (enc := enc) (C := Try.checked) false ⟨#[], #[.slice none 0 0], []⟩ 8 (by kernel_rfl) (by kernel_rfl) (by kernel_rfl) (by kernel_rfl)) ?_
  intro W base args ds gs before hval0 hW hcnd hsz0 _
  have hsz : (DataW.weightsEach Try.prog (Try.f8.params.toList ++ Rows.fnExactCheck32Spec.plain.varTypes Try.prog) (ds ++ gs)).all (· ≤ reachBytes) = true := hsz0
  have hval : ∀ (j : Nat) t v, Try.f8.params[j]? = some t → args[j]? = some v → Value.okWide Try.prog W .any base t v := hval0
  have hW' := hW
  obtain ⟨p, q, hA0, hV, rfl, hfz, hnd⟩ := hW
  have hA : DataW.TrodAll enc Try.prog W 0 (fun _ => true) true Try.f8.params.toList args.toList ds p := hA0
  rw [Try.params8] at hA hval hsz
  obtain ⟨v0, vs0, d0, ds0, p0, q0, hargs, rfl, rfl, h0, r0⟩ := trodAll_cons hA
  obtain ⟨rfl, rfl, rfl⟩ := trodAll_nil r0
  obtain rfl : args = #[v0] := by cases args; simp_all
  obtain ⟨rfl, rfl⟩ := trodVars_none hV
  have k0 := h0
  have lt0 : ∀ x ∈ p0, x.block < W.heap.size := by obtain ⟨m, hm⟩ := k0; exact DataW.trod_lt m _ _ _ hm
  obtain ⟨A0, len0, c0, rfl⟩ := okWide_slice Try.underlying27 (hval 0 27 v0 rfl rfl)
  obtain ⟨l0, rfl, hc0, hr0, hw0⟩ := Opens.slice_arg opens27 h0
  clear hA0 hval0 hsz0 hsz
  obtain ⟨k, hP⟩ := X.Pure.FnExactCheck32 l0 hw0
  refine (laws_FnExactCheck32.calls k A0 c0 l0 true W hr0 hc0 hP).mono fun e W' hQ => ?_
  obtain ⟨he, bel0⟩ := hQ
  subst he
  have bel : Below W.heap.size W W' := bel0
  exact ⟨_, rfl, _, _, _, [], _, [], hW', trodAll_mk1 (shut_bool Try.underlying4 _), (trodAll_cons_mk (Below.trod laidOut (by kernel_rfl) (of_decide_eq_true (by kernel_rfl)) k0 bel lt0) trodAll_mk0), rfl, bel.frame _, fun h => by cases h⟩
theorem over : Rows.fnExactCheck32Row.holds Try.pinned (OpenSpec.ofChange Rows.fnExactCheck32Spec) :=
  OpenClaim.holds_of_wide 8 Try.f8 rfl rfl rfl rfl rfl rfl rfl ⟨rfl, rfl, rfl, rfl, rfl⟩ rfl rfl rfl rfl rfl (by kernel_rfl) Try.func8 (by kernel_rfl)
    (of_decide_eq_true (by kernel_rfl)) (by unfold Func.isWrapper; first | (rw [if_pos (by decide +kernel)]; kernel_rfl) | (rw [if_neg (by decide +kernel)]; exact ⟨rfl, rfl⟩))
    (fun os started H enc _ => lifted os started H enc)
theorem proved : Rows.FnExactCheck32Said := over
end Go.Proofs.Ytonfmdgklgdgfaa.fnExactCheck32
namespace Go.Proofs.Ytonfmdgklgdgfaa
theorem fnExactCheck32_holds : Rows.FnExactCheck32Said := fnExactCheck32.proved
end Go.Proofs.Ytonfmdgklgdgfaa
