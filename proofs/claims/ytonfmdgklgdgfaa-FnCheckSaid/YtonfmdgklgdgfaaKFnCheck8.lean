import Derived.Test.YtonfmdgklgdgfaaKFnCheck4
import Derived.Test.YtonfmdgklgdgfaaKFnCheck5
import Derived.Test.YtonfmdgklgdgfaaKFnCheck6
import Derived.Test.YtonfmdgklgdgfaaKFnCheck7
import Derived.Test.YtonfmdgklgdgfaaRows
import Derived.WalkKit
import Derived.ProofKit
import Derived.OpenShut
import Derived.ShutString
import Derived.ChangeOld
import Derived.Below
import Derived.SizedLaws
namespace Go.Proofs.Ytonfmdgklgdgfaa.X
open Go.RowKit Go.Proofs.YtonfmdgklgdgfaaW.PrintWords Go.Proofs.YtonfmdgklgdgfaaW.PrintLast Go.Proofs.YtonfmdgklgdgfaaW.PrintMore
attribute [local go_sem] xbin_geq xbin_leq xbin_gtr max2_int min2_int max_two min_two max_three min_three max_four min_four
set_option linter.unusedVariables false
set_option linter.unusedSimpArgs false
theorem opens5 : Opens Try.prog 5 (Kd.int .u8) (fun x => (Lit.int .u8 x).wf = true) := Opens.int_ Try.underlying5 (by kernel_rfl)
def wfL5 (xs : List Int) : Prop := xs.length ≤ maxLen ∧ ∀ x ∈ xs, (Lit.int .u8 x).wf = true
theorem opens27 : Opens Try.prog 27 (Kd.slice 5 (Kd.int .u8)) wfL5 := Opens.slice_ Try.underlying27 (by kernel_rfl) opens5
def laws_FnCheck.Pure : Prop := ∀ (l0 : List Int) (l1 : List Int), (wfL5 l0) → (wfL5 l1) → ∃ k, laws_FnCheck.f k l0 l1 = some true
end Go.Proofs.Ytonfmdgklgdgfaa.X
namespace Go.Proofs.Ytonfmdgklgdgfaa.X
open Go.RowKit Go.Proofs.YtonfmdgklgdgfaaW.PrintWords Go.Proofs.YtonfmdgklgdgfaaW.PrintLast Go.Proofs.YtonfmdgklgdgfaaW.PrintMore
attribute [local go_sem] xbin_geq xbin_leq xbin_gtr max2_int min2_int max_two min_two max_three min_three max_four min_four
set_option linter.unusedVariables false
set_option linter.unusedSimpArgs false
theorem wf_u8 {x : Int} (h : (Lit.int .u8 x).wf = true) : isByte x := by
  simp only [Lit.wf, Bool.and_eq_true, decide_eq_true_eq] at h
  have e1 : IntKind.u8.min = 0 := rfl
  have e2 : IntKind.u8.max = 255 := rfl
  rw [e1, e2] at h
  exact ⟨h.1, by omega⟩
def check32 (l : List Int) : Int := if 65536 < l.length then 0 else sumOf32 l
theorem spec_check (l : List Int) (hb : ∀ c, c ∈ l → isByte c) : spec_Check32.f l = some (check32 l) := by
  unfold spec_Check32.f check32 spec_l01Check.f
  by_cases h : 65536 < l.length
  · rw [if_pos (by omega), if_pos h]
  · have hb2 : ∀ c, c ∈ l → 0 ≤ c ∧ c < 256 := hb
    rw [if_neg (by omega), if_neg h, if_pos hb2]
    rfl
theorem impl_check (l : List Int) (hb : ∀ c, c ∈ l → isByte c) : Ev (fun k => impl_Check32.f k l) (check32 l) := by
  unfold impl_Check32.f check32
  by_cases h : 65536 < l.length
  · exact Ev.pos (by omega) (Ev.is (by rw [if_pos h]))
  · exact Ev.neg (by omega) (Ev.bind (impl_crc_is l (by omega) hb) (Ev.is (by rw [if_neg h])))
end Go.Proofs.Ytonfmdgklgdgfaa.X
namespace Go.Proofs.Ytonfmdgklgdgfaa.X
open Go.RowKit Go.Proofs.YtonfmdgklgdgfaaW.PrintWords Go.Proofs.YtonfmdgklgdgfaaW.PrintLast Go.Proofs.YtonfmdgklgdgfaaW.PrintMore
attribute [local go_sem] xbin_geq xbin_leq xbin_gtr max2_int min2_int max_two min_two max_three min_three max_four min_four
set_option linter.unusedVariables false
set_option linter.unusedSimpArgs false
theorem tmod_in {x n : Int} (h0 : 0 ≤ x) (hn : 0 < n) : 0 ≤ Int.tmod x n ∧ Int.tmod x n < n := ⟨Int.tmod_nonneg n h0, Int.tmod_lt_of_pos x hn⟩
theorem at_bound (l : List Int) (a n : Int) (ha : 0 ≤ a) (ha1 : a ≤ 1) (hn : 1 ≤ n) (hl : l.length ≤ 1048576) (hb : ∀ c, c ∈ l → isByte c) : ∃ t, laws_at.f l a n = some t ∧ 0 ≤ t ∧ t < n := by
  unfold laws_at.f
  by_cases h1 : n ≤ 1
  · exact ⟨0, by rw [if_pos h1], by omega, by omega⟩
  rw [if_neg h1]
  by_cases h2 : (l.length : Int) = 0
  · rw [if_pos h2, if_neg (by omega), wrap_id (by omega) (by omega)]
    have := tmod_in (x := a * 7) (n := n) (by omega) (by omega)
    exact ⟨_, rfl, this.1, this.2⟩
  rw [if_neg h2]
  have i1 := tmod_in (x := a) (n := (l.length : Int)) ha (by omega)
  have i2 := tmod_in (x := wrap64 (a + 1)) (n := (l.length : Int)) (by rw [wrap_id (by omega) (by omega)]; omega) (by omega)
  have rb : ∀ i : Int, 0 ≤ i → i < (l.length : Int) → isByte (rd l i) := by
    intro i h0 h1
    have e : rd l i = l[i.toNat]'(by omega) := by unfold rd; simp [List.getD_eq_getElem?_getD, show i.toNat < l.length by omega]
    rw [e]
    exact hb _ (List.getElem_mem _)
  have r1 := rb _ i1.1 i1.2
  have r2 := rb _ i2.1 i2.2
  rw [if_pos i1.1, if_pos i1.2, if_pos i2.1, if_pos i2.2, if_neg (by omega)]
  generalize rd l (Int.tmod a (l.length : Int)) = x at *
  generalize rd l (Int.tmod (wrap64 (a + 1)) (l.length : Int)) = y at *
  have hd : 0 ≤ Int.tdiv a (l.length : Int) ∧ Int.tdiv a (l.length : Int) ≤ 1 := ⟨Int.tdiv_nonneg ha (by omega), by rw [Int.tdiv_eq_ediv_of_nonneg ha]; exact Int.le_trans (Int.ediv_le_self _ ha) ha1⟩
  generalize Int.tdiv a (l.length : Int) = d at *
  have x1 := r1.1
  have x2 := r1.2
  have y1 := r2.1
  have y2 := r2.2
  rw [wrap_id (x := x) (by omega) (by omega), wrap_id (x := y) (by omega) (by omega), wrap_id (x := d) (by omega) (by omega), wrap_id (x := x * 31) (by omega) (by omega), wrap_id (x := x * 31 + y) (by omega) (by omega), wrap_id (x := x * 31 + y + d) (by omega) (by omega)]
  have := tmod_in (x := x * 31 + y + d) (n := n) (by omega) (by omega)
  exact ⟨_, rfl, this.1, this.2⟩
theorem u64_small {b : Int} (h0 : 0 ≤ b) (h1 : b < 256) : IntKind.u64.wrap b = b := by
  simp [IntKind.wrap, IntKind.bits, IntKind.signed]
  omega
theorem shl_bit : ∀ b : Fin 8, shl .u8 1 ((b : Nat) : Int) = ((2 ^ (b : Nat) : Nat) : Int) := by decide
theorem flip_bit (l : List Int) (t b : Int) (hb : ∀ c, c ∈ l → isByte c) (t0 : 0 ≤ t) (t1 : t < (l.length : Int)) (b0 : 0 ≤ b) (b1 : b < 8) :
    (∀ c, c ∈ l.set t.toNat (Go.bits .xor .u8 (rd l t) (shl .u8 1 (IntKind.u64.wrap b))) → isByte c) ∧ sumOf32 (l.set t.toNat (Go.bits .xor .u8 (rd l t) (shl .u8 1 (IntKind.u64.wrap b)))) ≠ sumOf32 l := by
  have ht : t.toNat < l.length := by omega
  have ex : rd l t = l[t.toNat] := by unfold rd; simp [List.getD_eq_getElem?_getD, ht]
  have hx := hb _ (List.getElem_mem ht)
  rw [← ex] at hx
  rw [u64_small b0 (by omega)]
  have es := shl_bit ⟨b.toNat, by omega⟩
  simp only at es
  rw [show ((b.toNat : Nat) : Int) = b by omega] at es
  rw [es]
  have hp : 2 ^ b.toNat < 256 := Nat.pow_lt_pow_right (by omega) (show b.toNat < 8 by omega)
  have hp0 : 0 < 2 ^ b.toNat := Nat.pow_pos (by omega)
  generalize 2 ^ b.toNat = q at *
  obtain ⟨c, hc⟩ : ∃ c : Nat, rd l t = (c : Int) := ⟨(rd l t).toNat, by have := hx.1; omega⟩
  rw [hc] at hx ⊢
  have h1 := hx.1
  have h2 := hx.2
  rw [u8_xor_nat c q (by omega) (by omega)]
  have hlt : c ^^^ q < 256 := Nat.xor_lt_two_pow (n := 8) (by omega) (by omega)
  have hby : isByte ((c ^^^ q : Nat) : Int) := ⟨by omega, by omega⟩
  have hne : ((c ^^^ q : Nat) : Int) ≠ (c : Int) := by
    intro e
    have e2 : c ^^^ q = c := by omega
    have e3 := congrArg (c ^^^ ·) e2
    simp only [← Nat.xor_assoc, Nat.xor_self, Nat.zero_xor] at e3
    omega
  have hset : l.set t.toNat ((c ^^^ q : Nat) : Int) = l.take t.toNat ++ ((c ^^^ q : Nat) : Int) :: l.drop (t.toNat + 1) := by
    rw [List.set_eq_take_append_cons_drop, if_pos ht]
  have hl : l = l.take t.toNat ++ (c : Int) :: l.drop (t.toNat + 1) := by
    rw [← hc, ex, ← List.drop_eq_getElem_cons ht, List.take_append_drop]
  have hA : ∀ x, x ∈ l.take t.toNat → isByte x := fun x hx => hb x (List.mem_of_mem_take hx)
  have hB : ∀ x, x ∈ l.drop (t.toNat + 1) → isByte x := fun x hx => hb x (List.mem_of_mem_drop hx)
  refine ⟨fun x hx => ?_, fun e => ?_⟩
  · rw [hset, List.mem_append, List.mem_cons] at hx
    rcases hx with hx | rfl | hx
    · exact hA x hx
    · exact hby
    · exact hB x hx
  · unfold sumOf32 at e
    rw [hset] at e
    have e1 : 4294967295 ^^^ crcF 4294967295 (l.take t.toNat ++ ((c ^^^ q : Nat) : Int) :: l.drop (t.toNat + 1)) = 4294967295 ^^^ crcF 4294967295 l := by omega
    have e2 := congrArg (4294967295 ^^^ ·) e1
    simp only [← Nat.xor_assoc, Nat.xor_self, Nat.zero_xor] at e2
    conv at e2 => rhs; rw [hl]
    exact crcF_differs _ _ _ _ _ (by decide) hA hB hby hx hne e2
end Go.Proofs.Ytonfmdgklgdgfaa.X
set_option linter.unusedSimpArgs false
set_option linter.unusedVariables false
namespace Go.Proofs.Ytonfmdgklgdgfaa.X.Pure
open Go.RowKit Go.Proofs.Ytonfmdgklgdgfaa.X Go.Proofs.YtonfmdgklgdgfaaW.PrintWords Go.Proofs.YtonfmdgklgdgfaaW.PrintLast
theorem FnCheck : laws_FnCheck.Pure := by
  intro l m hw hm
  refine Ev.rounds (g := fun k => laws_FnCheck.f k l m) ?_
  have hb : ∀ c, c ∈ l → isByte c := fun c hc => wf_u8 (hw.2 c hc)
  have hbm : ∀ c, c ∈ m → isByte c := fun c hc => wf_u8 (hm.2 c hc)
  have hj1 : l.length ≤ 65536 → m.length ≤ 1048576 → Ev (fun k => laws_FnCheck.j1 k l m (check32 l) ((l.length : Int) == 0)) true := by
    intro h1 h2
    refine Ev.succ ?_
    simp only [laws_FnCheck.j1]
    by_cases h0 : l.length = 0
    · exact Ev.pos (by simp [h0]) (Ev.bindk (spec_check l hb) (Ev.is (by simp)))
    refine Ev.neg (by simp only [beq_iff_eq]; omega) ?_
    obtain ⟨t, ht, t0, t1⟩ := at_bound m 0 (l.length : Int) (by omega) (by omega) (by omega) h2 hbm
    obtain ⟨b, hbt, b0, b1⟩ := at_bound m 1 8 (by omega) (by omega) (by omega) h2 hbm
    simp only [Option.bind_some, List.nil_append]
    refine Ev.pos (by simp; omega) (Ev.bindk ht (Ev.pos t0 (Ev.pos t1 (Ev.bindk hbt (Ev.pos ?_ ?_)))))
    · rw [u64_small b0 (by omega)]; exact b0
    obtain ⟨h3, h4⟩ := flip_bit l t b hb t0 t1 b0 b1
    refine Ev.bind (impl_check _ h3) (Ev.is ?_)
    have e1 : check32 l = sumOf32 l := by unfold check32; rw [if_neg (by omega)]
    have e2 : check32 (l.set t.toNat (Go.bits .xor .u8 (rd l t) (shl .u8 1 (IntKind.u64.wrap b)))) = sumOf32 (l.set t.toNat (Go.bits .xor .u8 (rd l t) (shl .u8 1 (IntKind.u64.wrap b)))) := by unfold check32; rw [if_neg (by rw [List.length_set]; omega)]
    rw [e1, e2]
    simpa using h4
  have hj0 : ∀ c : Bool, (c = false → l.length ≤ 1048576 ∧ m.length ≤ 1048576) → Ev (fun k => laws_FnCheck.j0 k l m c) true := by
    intro c hc
    refine Ev.succ ?_
    simp only [laws_FnCheck.j0]
    cases c with
    | true => exact Ev.pos (by trivial) (Ev.is rfl)
    | false =>
      have hc2 := hc rfl
      refine Ev.neg (by simp) ?_
      by_cases h1 : (l.length : Int) > 65536
      · exact Ev.pos h1 (Ev.bind (impl_check l hb) (Ev.is (by unfold check32; rw [if_pos (by omega)]; rfl)))
      · exact Ev.neg h1 (Ev.bind (impl_check l hb) (Ev.bindk (spec_check l hb) (Ev.pos rfl (hj1 (by omega) hc2.2))))
  unfold laws_FnCheck.f
  by_cases h : (l.length : Int) > 1048576
  · exact Ev.pos h (hj0 true (by simp))
  · refine Ev.neg h (hj0 _ ?_)
    intro hd
    simp at hd
    omega
end Go.Proofs.Ytonfmdgklgdgfaa.X.Pure
namespace Go.Proofs.Ytonfmdgklgdgfaa.fnCheck
open Go.ChangeShapes Go.WideShapes Go.ChangeAt Go.RowKit Go.Proofs.Ytonfmdgklgdgfaa.X Go.Proofs.YtonfmdgklgdgfaaW.PrintWords
open Go.ChangeMaps (open_string shut_string)
set_option linter.unusedVariables false
theorem own : ownKnob Try.prog.godebug = none := by kernel_rfl
theorem laidOut : laidOutB Try.prog = true := by kernel_rfl
set_option maxRecDepth 100000 in
theorem lifted (os : Os) (started : os.Started) (H : Type) (enc : TypeId × Value → H) :
    ReturnsInHanded {} Try.checked os 7 .any (Rows.fnCheckSpec.pre6 enc Try.prog Try.f7 Rows.fnCheckRow.domain false) (Rows.fnCheckSpec.post enc Try.prog Try.f7 false true false false) := by
  refine returnsInHanded_of_change_sized (C := Try.checked) own started (by kernel_rfl) Try.func7
    (ChangeSpec.witness6 (enc := enc) (C := Try.checked) false ⟨#[], #[.slice none 0 0, .slice none 0 0], []⟩ 8 (by kernel_rfl) (by kernel_rfl) (by kernel_rfl) (by kernel_rfl)) ?_
  intro W base args ds gs before hval0 hW hcnd hsz0 _
  have hsz : (DataW.weightsEach Try.prog (Try.f7.params.toList ++ Rows.fnCheckSpec.plain.varTypes Try.prog) (ds ++ gs)).all (· ≤ reachBytes) = true := hsz0
  have hval : ∀ (j : Nat) t v, Try.f7.params[j]? = some t → args[j]? = some v → Value.okWide Try.prog W .any base t v := hval0
  have hW' := hW
  obtain ⟨p, q, hA0, hV, rfl, hfz, hnd⟩ := hW
  have hA : DataW.TrodAll enc Try.prog W 0 (fun _ => true) true Try.f7.params.toList args.toList ds p := hA0
  rw [Try.params7] at hA hval hsz
  obtain ⟨v0, vs0, d0, ds0, p0, q0, hargs, rfl, rfl, h0, r0⟩ := trodAll_cons hA
  obtain ⟨v1, vs1, d1, ds1, p1, q1, rfl, rfl, rfl, h1, r1⟩ := trodAll_cons r0
  obtain ⟨rfl, rfl, rfl⟩ := trodAll_nil r1
  obtain rfl : args = #[v0, v1] := by cases args; simp_all
  obtain ⟨rfl, rfl⟩ := trodVars_none hV
  have k0 := h0
  have lt0 : ∀ x ∈ p0, x.block < W.heap.size := by obtain ⟨m, hm⟩ := k0; exact DataW.trod_lt m _ _ _ hm
  obtain ⟨A0, len0, c0, rfl⟩ := okWide_slice Try.underlying27 (hval 0 27 v0 rfl rfl)
  obtain ⟨l0, rfl, hc0, hr0, hw0⟩ := Opens.slice_arg opens27 h0
  have k1 := h1
  have lt1 : ∀ x ∈ p1, x.block < W.heap.size := by obtain ⟨m, hm⟩ := k1; exact DataW.trod_lt m _ _ _ hm
  obtain ⟨A1, len1, c1, rfl⟩ := okWide_slice Try.underlying27 (hval 1 27 v1 rfl rfl)
  obtain ⟨l1, rfl, hc1, hr1, hw1⟩ := Opens.slice_arg opens27 h1
  clear hA0 hval0 hsz0 hsz
  obtain ⟨k, hP⟩ := X.Pure.FnCheck l0 l1 hw0 hw1
  refine (laws_FnCheck.calls k A0 c0 l0 A1 c1 l1 true W hr0 hc0 hr1 hc1 hP).mono fun e W' hQ => ?_
  obtain ⟨he, bel0⟩ := hQ
  subst he
  have bel : Below W.heap.size W W' := bel0
  exact ⟨_, rfl, _, _, _, [], _, [], hW', trodAll_mk1 (shut_bool Try.underlying4 _), (trodAll_cons_mk (Below.trod laidOut (by kernel_rfl) (of_decide_eq_true (by kernel_rfl)) k0 bel lt0) (trodAll_cons_mk (Below.trod laidOut (by kernel_rfl) (of_decide_eq_true (by kernel_rfl)) k1 bel lt1) trodAll_mk0)), rfl, bel.frame _, fun h => by cases h⟩
theorem over : Rows.fnCheckRow.holds Try.pinned (OpenSpec.ofChange Rows.fnCheckSpec) :=
  OpenClaim.holds_of_wide 7 Try.f7 rfl rfl rfl rfl rfl rfl rfl ⟨rfl, rfl, rfl, rfl, rfl⟩ rfl rfl rfl rfl rfl (by kernel_rfl) Try.func7 (by kernel_rfl)
    (of_decide_eq_true (by kernel_rfl)) (by unfold Func.isWrapper; first | (rw [if_pos (by decide +kernel)]; kernel_rfl) | (rw [if_neg (by decide +kernel)]; exact ⟨rfl, rfl⟩))
    (fun os started H enc _ => lifted os started H enc)
theorem proved : Rows.FnCheckSaid := over
end Go.Proofs.Ytonfmdgklgdgfaa.fnCheck
namespace Go.Proofs.Ytonfmdgklgdgfaa
theorem fnCheck_holds : Rows.FnCheckSaid := fnCheck.proved
end Go.Proofs.Ytonfmdgklgdgfaa
