import Derived.Test.YtcpcifgpcemaeaaKFnExactDiskRead4
import Derived.Test.YtcpcifgpcemaeaaKFnExactDiskRead5
import Derived.Test.YtcpcifgpcemaeaaKFnExactDiskRead6
import Derived.Test.YtcpcifgpcemaeaaKFnExactDiskRead8
import Derived.Test.YtcpcifgpcemaeaaKFnExactDiskRead10
import Derived.Test.YtcpcifgpcemaeaaKFnExactDiskRead16
import Derived.Test.YtcpcifgpcemaeaaKFnExactDiskRead25
import Derived.Test.YtcpcifgpcemaeaaKFnExactDiskRead26
import Derived.Test.YtcpcifgpcemaeaaKFnExactDiskRead28
import Derived.Test.YtcpcifgpcemaeaaRows
import Derived.WalkKit
import Derived.ProofKit
import Derived.OpenShut
import Derived.ShutString
import Derived.ChangeOld
import Derived.Below
import Derived.SizedLaws
namespace Go.Proofs.Ytcpcifgpcemaeaa.X
open Go.RowKit Go.Proofs.YtcpcifgpcemaeaaW.PrintWords Go.Proofs.YtcpcifgpcemaeaaW.PrintLast Go.Proofs.YtcpcifgpcemaeaaW.PrintMore
attribute [local go_sem] xbin_geq xbin_leq xbin_gtr max2_int min2_int max_two min_two max_three min_three max_four min_four
set_option linter.unusedVariables false
set_option linter.unusedSimpArgs false
theorem rd_pendR {c : List S95} {i : Nat} (h : i < c.length) : rd_T95 c (i : Int) = c[i] := by
  unfold rd_T95
  rw [Int.toNat_natCast, List.getD_eq_getElem?_getD, List.getElem?_eq_getElem h]
  rfl
theorem readV_snoc (s : List ByteArray) (c : List S95) (x : S95) (at_ : Int) : readV s (c ++ [x]) at_ = if x.f0 = at_ then x.f1 else readV s c at_ := by
  unfold readV
  rw [List.reverse_append]
  by_cases h : x.f0 = at_
  · simp [h]
  · simp [h]
theorem spec_read (s : List ByteArray) (c : List S95) (a : Bool) (q : List Int) (at_ : Int) (h : 0 ≤ at_ ∧ at_ < (s.length : Int)) (hc : c.length ≤ 500) : ∀ j, j ≤ c.length → Ev (fun k => spec_l02Read.l0 k at_ ((j : Int) - 1) s c a q) (readV s (c.take j) at_) := by
  intro j
  induction j with
  | zero =>
    intro _
    refine Ev.succ ?_
    simp only [spec_l02Read.l0]
    exact Ev.neg (by omega) (Ev.pos h.1 (Ev.pos h.2 (Ev.is rfl)))
  | succ m ih =>
    intro hj
    have e : ((m + 1 : Nat) : Int) - 1 = (m : Int) := by omega
    rw [e]
    refine Ev.succ ?_
    rw [List.take_succ_eq_append_getElem (by omega), readV_snoc]
    simp only [spec_l02Read.l0, rd_pendR (show m < c.length by omega), wrap_id (x := (m : Int) - 1) (by omega) (by omega)]
    refine Ev.pos (by omega) (Ev.pos (by omega) (Ev.pos (by omega) ?_))
    by_cases hx : (c[m]'(by omega)).f0 = at_
    · exact Ev.pos hx (Ev.is (by rw [if_pos hx]))
    · refine Ev.neg hx ?_
      rw [if_neg hx]
      exact ih (by omega)
def readR (s : List ByteArray) (c : List S95) (a : Bool) (q : List Int) (at_ : Int) : ByteArray × Int :=
  if diskB s c a q = true then (if 0 ≤ at_ ∧ at_ < (s.length : Int) then (readV s c at_, 0) else (⟨#[]⟩, 4)) else (⟨#[]⟩, 1)
theorem impl_diskRead (s : List ByteArray) (c : List S95) (a : Bool) (q : List Int) (at_ : Int) : impl_DiskRead.f s c a q at_ = some (readR s c a q at_) := by
  unfold impl_DiskRead.f readR
  split
  · split <;> rfl
  · rfl
theorem spec_diskRead (s : List ByteArray) (c : List S95) (a : Bool) (q : List Int) (at_ : Int) : Ev (fun k => spec_DiskRead.f k s c a q at_) (readR s c a q at_) := by
  unfold spec_DiskRead.f readR
  refine Ev.bind (spec_diskOK s c a q) ?_
  cases hd : diskB s c a q with
  | false => exact Ev.neg (by simp) (Ev.is rfl)
  | true =>
    have hl := diskB_len hd
    refine Ev.pos rfl ?_
    rw [wrap_id (x := (s.length : Int) - 1) (by omega) (by omega)]
    refine Ev.bindk (spec_in _ _ _) ?_
    rw [if_pos rfl]
    by_cases ha : 0 ≤ at_ ∧ at_ < (s.length : Int)
    · rw [if_pos ha]
      refine Ev.pos (inB_is.2 (by omega)) ?_
      have hr := spec_read s c a q at_ ha hl.2.1 c.length (Nat.le_refl _)
      rw [List.take_length] at hr
      refine Ev.bind (g := fun k => spec_l02Read.f k s c a q at_) ?_ (Ev.is rfl)
      unfold spec_l02Read.f
      rw [wrap_id (x := (c.length : Int) - 1) (by omega) (by omega)]
      exact hr
    · rw [if_neg ha]
      exact Ev.neg (fun hb => ha (by have := inB_is.1 hb; omega)) (Ev.is rfl)
end Go.Proofs.Ytcpcifgpcemaeaa.X
set_option linter.unusedSimpArgs false
set_option linter.unusedVariables false
namespace Go.Proofs.Ytcpcifgpcemaeaa.X.Pure
open Go.RowKit Go.Proofs.Ytcpcifgpcemaeaa.X Go.Proofs.YtcpcifgpcemaeaaW.PrintWords Go.Proofs.YtcpcifgpcemaeaaW.PrintLast
theorem FnExactDiskRead : laws_FnExactDiskRead.Pure := by
  intro s c a q n hs0 hc0 _ hq0 _
  refine Ev.rounds (g := fun k => laws_FnExactDiskRead.f k s c a q n) ?_
  unfold laws_FnExactDiskRead.f
  obtain ⟨r, hr, hq⟩ := sz_Disk ⟨s, c, a, q⟩ ⟨hs0, ⟨hc0.1, fun y hy => ⟨trivial, (hc0.2 y hy).2⟩⟩, trivial, hq0.1⟩ 1048576 1048576 (by omega) (by omega) (by omega)
  refine Ev.bind hr ?_
  by_cases h : r < 0
  · exact Ev.pos h (Ev.is rfl)
  refine Ev.neg h ?_
  have hs := (hq (by omega)).2
  have ht := to_Disk ⟨s, c, a, q⟩ hs
  have n1 : (c.map cv131).length ≤ 1048576 := by rw [List.length_map]; have := hs.2.1.1; simp only at this; omega
  have n0 : s.length ≤ 1048576 := by have := hs.1.1; simp only at this; omega
  have n3 : q.length ≤ 1048576 := by have := hs.2.2.2; simp only at this; omega
  refine Ev.bind ht (Ev.bind (spec_diskRead _ _ _ _ _) (Ev.bind ht (Ev.bindk (impl_diskRead _ _ _ _ _) (Ev.pos rfl ?_))))
  rw [bne_self_eq_false]
  refine Ev.succ ?_
  simp only [laws_FnExactDiskRead.j0]
  exact Ev.neg (by simp) (Ev.bind ht (Ev.bind (eq_Disk ⟨s, c.map cv131, a, q⟩ ⟨by simp only; omega, ⟨by simp only; omega, fun y _ => ⟨trivial, trivial⟩⟩, trivial, by simp only; omega⟩) (Ev.pos rfl (Ev.is rfl))))
end Go.Proofs.Ytcpcifgpcemaeaa.X.Pure
namespace Go.Proofs.Ytcpcifgpcemaeaa.fnExactDiskRead
open Go.ChangeShapes Go.WideShapes Go.ChangeAt Go.RowKit Go.Proofs.Ytcpcifgpcemaeaa.X Go.Proofs.YtcpcifgpcemaeaaW.PrintWords
open Go.ChangeMaps (open_string shut_string)
set_option linter.unusedVariables false
theorem own : ownKnob Try.prog.godebug = none := by kernel_rfl
theorem laidOut : laidOutB Try.prog = true := by kernel_rfl
set_option maxRecDepth 100000 in
theorem lifted (os : Os) (started : os.Started) (H : Type) (enc : TypeId × Value → H) :
    ReturnsInHanded {} Try.checked os 5 .any (Rows.fnExactDiskReadSpec.pre6 enc Try.prog Try.f5 Rows.fnExactDiskReadRow.domain false) (Rows.fnExactDiskReadSpec.post enc Try.prog Try.f5 false true false false) := by
  refine returnsInHanded_of_change_sized (C := Try.checked) own started (by kernel_rfl) Try.func5
    (ChangeSpec.witness6 (enc := enc) (C := Try.checked) false ⟨#[], #[.agg #[.slice none 0 0, .slice none 0 0, .bool false, .slice none 0 0], .int .i64 0], []⟩ 8 (by kernel_rfl) (by kernel_rfl) (by kernel_rfl) (by kernel_rfl)) ?_
  intro W base args ds gs before hval0 hW hcnd hsz0 _
  have hsz : (DataW.weightsEach Try.prog (Try.f5.params.toList ++ Rows.fnExactDiskReadSpec.plain.varTypes Try.prog) (ds ++ gs)).all (· ≤ reachBytes) = true := hsz0
  have hval : ∀ (j : Nat) t v, Try.f5.params[j]? = some t → args[j]? = some v → Value.okWide Try.prog W .any base t v := hval0
  have hW' := hW
  obtain ⟨p, q, hA0, hV, rfl, hfz, hnd⟩ := hW
  have hA : DataW.TrodAll enc Try.prog W 0 (fun _ => true) true Try.f5.params.toList args.toList ds p := hA0
  rw [Try.params5] at hA hval hsz
  obtain ⟨v0, vs0, d0, ds0, p0, q0, hargs, rfl, rfl, h0, r0⟩ := trodAll_cons hA
  obtain ⟨v1, vs1, d1, ds1, p1, q1, rfl, rfl, rfl, h1, r1⟩ := trodAll_cons r0
  obtain ⟨rfl, rfl, rfl⟩ := trodAll_nil r1
  obtain rfl : args = #[v0, v1] := by cases args; simp_all
  obtain ⟨rfl, rfl⟩ := trodVars_none hV
  have k0 := h0
  have lt0 : ∀ x ∈ p0, x.block < W.heap.size := by obtain ⟨m, hm⟩ := k0; exact DataW.trod_lt m _ _ _ hm
  obtain ⟨x0, cs0, rfl, hK0, hw0⟩ := Opens.agg_arg opens34 Try.underlying34 (hval 0 34 v0 rfl rfl) h0
  obtain ⟨A0_0, c0_0, A0_1, c0_1, A0_3, c0_3, rfl, hc0_0, hr0_0, hc0_1, hr0_1, hc0_3, hr0_3⟩ := k34_open hK0
  obtain ⟨l0_0, l0_1, a0_2, l0_3⟩ := x0
  obtain ⟨a1, rfl, rfl, rfl, w1⟩ := open_int Try.underlying3 (hval 1 3 v1 rfl rfl) h1
  clear hA0 hval0 hsz0 hsz
  obtain ⟨k, hP⟩ := X.Pure.FnExactDiskRead l0_0 l0_1 a0_2 l0_3 a1 hw0.1 hw0.2.1 hw0.2.2.1 hw0.2.2.2 w1
  refine (laws_FnExactDiskRead.calls k A0_0 c0_0 l0_0 A0_1 c0_1 l0_1 a0_2 A0_3 c0_3 l0_3 a1 true W hr0_0 hc0_0 hr0_1 hc0_1 hr0_3 hc0_3 hP).mono fun e W' hQ => ?_
  obtain ⟨he, bel0⟩ := hQ
  subst he
  have bel : Below W.heap.size W W' := bel0
  exact ⟨_, rfl, _, _, _, [], _, [], hW', trodAll_mk1 (shut_bool Try.underlying4 _), (trodAll_cons_mk (Below.trod laidOut (by kernel_rfl) (of_decide_eq_true (by kernel_rfl)) k0 bel lt0) (trodAll_cons_mk (shut_int Try.underlying3 w1) trodAll_mk0)), rfl, bel.frame _, fun h => by cases h⟩
theorem over : Rows.fnExactDiskReadRow.holds Try.pinned (OpenSpec.ofChange Rows.fnExactDiskReadSpec) :=
  OpenClaim.holds_of_wide 5 Try.f5 rfl rfl rfl rfl rfl rfl rfl ⟨rfl, rfl, rfl, rfl, rfl⟩ rfl rfl rfl rfl rfl (by kernel_rfl) Try.func5 (by kernel_rfl)
    (of_decide_eq_true (by kernel_rfl)) (by unfold Func.isWrapper; first | (rw [if_pos (by decide +kernel)]; kernel_rfl) | (rw [if_neg (by decide +kernel)]; exact ⟨rfl, rfl⟩))
    (fun os started H enc _ => lifted os started H enc)
theorem proved : Rows.FnExactDiskReadSaid := over
end Go.Proofs.Ytcpcifgpcemaeaa.fnExactDiskRead
namespace Go.Proofs.Ytcpcifgpcemaeaa
theorem fnExactDiskRead_holds : Rows.FnExactDiskReadSaid := fnExactDiskRead.proved
end Go.Proofs.Ytcpcifgpcemaeaa
