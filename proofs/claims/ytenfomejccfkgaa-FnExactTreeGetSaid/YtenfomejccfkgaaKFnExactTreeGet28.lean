import Derived.Test.YtenfomejccfkgaaKFnExactTreeGet10
import Derived.Test.YtenfomejccfkgaaKFnExactTreeGet26
import Derived.Test.YtenfomejccfkgaaKFnExactTreeGet27
import Derived.Test.YtenfomejccfkgaaRows
import Derived.WalkKit
import Derived.ProofKit
import Derived.OpenShut
import Derived.ShutString
import Derived.ChangeOld
import Derived.Below
import Derived.SizedLaws
set_option linter.unusedSimpArgs false
set_option linter.unusedVariables false
namespace Go.Proofs.Ytenfomejccfkgaa.X.Pure
open Go.RowKit Go.Proofs.Ytenfomejccfkgaa.X Go.Proofs.YtenfomejccfkgaaW.PrintWords Go.Proofs.YtenfomejccfkgaaW.PrintLast
theorem cv_small {l : List S50} (hs : sm24 1048576 ⟨l⟩) : qcv (l.map cv50) = true := by
 refine qcE.2 fun x hx => ?_
 obtain ⟨y, hy, rfl⟩ := List.mem_map.1 hx
 have := (hs.2 y hy).2.2.2
 simp only [cv50]
 omega
theorem cv_len {l : List S50} (hs : sm24 1048576 ⟨l⟩) : len29 ⟨l.map cv50⟩ := by
 refine ⟨by simp only [List.length_map]; have := hs.1; simp only at this; omega, fun x hx => ?_⟩
 obtain ⟨y, hy, rfl⟩ := List.mem_map.1 hx
 have h := hs.2 y hy
 refine ⟨trivial, ⟨by simp only [cv50, List.length_map]; have := h.2.1.1; omega, fun _ _ => ⟨trivial, trivial⟩⟩, by simp only [cv50]; have := h.2.2.1.1; omega, by simp only [cv50]; have := h.2.2.2; omega⟩
theorem wf_wl {l : List S50} (h : wfL50 l) : wl24 ⟨l⟩ := ⟨h.1, fun y hy => ⟨trivial, (h.2 y hy).2.1, (h.2 y hy).2.2.1, (h.2 y hy).2.2.2.1⟩⟩
theorem FnExactTreeGet : qav.Pure := by
 intro l root key hw _ hk1 hk2
 refine Ev.rounds (g := fun k => qav.f k l root key) ?_
 unfold qav.f
 by_cases hk : (key.size : Int) > 1048576
 ·exact Ev.pos hk (Ev.is rfl)
 refine Ev.neg hk ?_
 obtain ⟨r, hr, hq⟩ := sz_Heap ⟨l⟩ (wf_wl hw) 1048576 1048576 (by omega) (by omega) (by omega)
 refine Ev.bind hr ?_
 by_cases h : r < 0
 ·exact Ev.pos h (Ev.is rfl)
 refine Ev.neg h ?_
 have hs := (hq (by omega)).2
 have ht := to_Heap ⟨l⟩ hs
 have hm := cv_small hs
 refine Ev.bind ht (Ev.bind (qe2 root key hm) (Ev.bind ht (Ev.bind (qe3 root key hm) (Ev.pos rfl ?_))))
 rw [bne_self_eq_false]
 refine Ev.succ ?_
 simp only [qav.j0]
 exact Ev.neg (by simp) (Ev.bind ht (Ev.bind (eq_Heap ⟨l.map cv50⟩ (cv_len hs)) (Ev.pos rfl (Ev.is rfl))))
end Go.Proofs.Ytenfomejccfkgaa.X.Pure
namespace Go.Proofs.Ytenfomejccfkgaa.fnExactTreeGet
open Go.ChangeShapes Go.WideShapes Go.ChangeAt Go.RowKit Go.Proofs.Ytenfomejccfkgaa.X Go.Proofs.YtenfomejccfkgaaW.PrintWords
open Go.ChangeMaps (open_string shut_string)
set_option linter.unusedVariables false
theorem own : ownKnob Try.prog.godebug = none := by kernel_rfl
theorem laidOut : laidOutB Try.prog = true := by kernel_rfl
set_option maxRecDepth 100000 in
theorem lifted (os : Os) (started : os.Started) (H : Type) (enc : TypeId × Value → H) :
  ReturnsInHanded {} Try.checked os 5 .any (Rows.fnExactTreeGetSpec.pre6 enc Try.prog Try.f5 Rows.fnExactTreeGetRow.domain false) (Rows.fnExactTreeGetSpec.post enc Try.prog Try.f5 false true false false) := by
 refine returnsInHanded_of_change_sized (C := Try.checked) own started (by kernel_rfl) Try.func5
  (ChangeSpec.witness6 (enc := enc) (C := Try.checked) false ⟨#[], #[.agg #[.slice none 0 0], .int .i64 0, .string ByteArray.empty], []⟩ 8 (by kernel_rfl) (by kernel_rfl) (by kernel_rfl) (by kernel_rfl)) ?_
 intro W base args ds gs before hval0 hW hcnd hsz0 _
 have hsz : (DataW.weightsEach Try.prog (Try.f5.params.toList ++ Rows.fnExactTreeGetSpec.plain.varTypes Try.prog) (ds ++ gs)).all (· ≤ reachBytes) = true := hsz0
 have hval : ∀ (j : Nat) t v, Try.f5.params[j]? = some t → args[j]? = some v → Value.okWide Try.prog W .any base t v := hval0
 have hW' := hW
 obtain ⟨p, q, hA0, hV, rfl, hfz, hnd⟩ := hW
 have hA : DataW.TrodAll enc Try.prog W 0 (fun _ => true) true Try.f5.params.toList args.toList ds p := hA0
 rw [Try.params5] at hA hval hsz
 obtain ⟨v0, vs0, d0, ds0, p0, q0, hargs, rfl, rfl, h0, r0⟩ := trodAll_cons hA
 obtain ⟨v1, vs1, d1, ds1, p1, q1, rfl, rfl, rfl, h1, r1⟩ := trodAll_cons r0
 obtain ⟨v2, vs2, d2, ds2, p2, q2, rfl, rfl, rfl, h2, r2⟩ := trodAll_cons r1
 obtain ⟨rfl, rfl, rfl⟩ := trodAll_nil r2
 obtain rfl : args = #[v0, v1, v2] := by cases args; simp_all
 obtain ⟨rfl, rfl⟩ := trodVars_none hV
 have k0 := h0
 have lt0 : ∀ x ∈ p0, x.block < W.heap.size := by obtain ⟨m, hm⟩ := k0; exact DataW.trod_lt m _ _ _ hm
 obtain ⟨x0, cs0, rfl, hK0, hw0⟩ := Opens.agg_arg opens24 Try.underlying24 (hval 0 24 v0 rfl rfl) h0
 obtain ⟨A0_0, c0_0, rfl, hc0_0, hr0_0⟩ := k24_open hK0
 obtain ⟨l0_0⟩ := x0
 obtain ⟨a1, rfl, rfl, rfl, w1⟩ := open_int Try.underlying3 (hval 1 3 v1 rfl rfl) h1
 obtain ⟨a2, rfl, rfl, rfl, y2⟩ := open_string Try.underlying9 (hval 2 9 v2 rfl rfl) h2
 have w2 : a2.size ≤ 140737488351232 := by
  have z := sized_string hsz (j := 2) (t := 9) rfl rfl
  rw [Array.length_toList] at z
  exact z
 clear hA0 hval0 hsz0 hsz
 obtain ⟨k, hP⟩ := X.Pure.FnExactTreeGet l0_0 a1 a2 hw0 w1 y2 w2
 refine (qav.calls k A0_0 c0_0 l0_0 a1 a2 true W hr0_0 hc0_0 hP).mono fun e W' hQ => ?_
 obtain ⟨he, bel0⟩ := hQ
 subst he
 have bel : Below W.heap.size W W' := bel0
 exact ⟨_, rfl, _, _, _, [], _, [], hW', trodAll_mk1 (shut_bool Try.underlying4 _), (trodAll_cons_mk (Below.trod laidOut (by kernel_rfl) (of_decide_eq_true (by kernel_rfl)) k0 bel lt0) (trodAll_cons_mk (shut_int Try.underlying3 w1) (trodAll_cons_mk (shut_string Try.underlying9 y2) trodAll_mk0))), rfl, bel.frame _, fun h => by cases h⟩
theorem over : Rows.fnExactTreeGetRow.holds Try.pinned (OpenSpec.ofChange Rows.fnExactTreeGetSpec) :=
 OpenClaim.holds_of_wide 5 Try.f5 rfl rfl rfl rfl rfl rfl rfl ⟨rfl, rfl, rfl, rfl, rfl⟩ rfl rfl rfl rfl rfl (by kernel_rfl) Try.func5 (by kernel_rfl)
  (of_decide_eq_true (by kernel_rfl)) (by unfold Func.isWrapper; first | (rw [if_pos (by decide +kernel)]; kernel_rfl) | (rw [if_neg (by decide +kernel)]; exact ⟨rfl, rfl⟩))
  (fun os started H enc _ => lifted os started H enc)
theorem proved : Rows.FnExactTreeGetSaid := over
end Go.Proofs.Ytenfomejccfkgaa.fnExactTreeGet
namespace Go.Proofs.Ytenfomejccfkgaa
theorem fnExactTreeGet_holds : Rows.FnExactTreeGetSaid := fnExactTreeGet.proved
end Go.Proofs.Ytenfomejccfkgaa
