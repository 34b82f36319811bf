import Derived.Test.YtonfmdgklgdgfaaKFnExactPairPut3
import Derived.Test.YtonfmdgklgdgfaaKFnExactPairPut10
import Derived.Test.YtonfmdgklgdgfaaKFnExactPairPut11
import Derived.Test.YtonfmdgklgdgfaaKFnExactPairPut12
import Derived.Test.YtonfmdgklgdgfaaKFnExactPairPut14
import Derived.Test.YtonfmdgklgdgfaaKFnExactPairPut16
import Derived.Test.YtonfmdgklgdgfaaKFnExactPairPut17
import Derived.Test.YtonfmdgklgdgfaaKFnExactPairPut18
import Derived.Test.YtonfmdgklgdgfaaKFnExactPairPut20
import Derived.Test.YtonfmdgklgdgfaaKFnExactPairPut22
import Derived.Test.YtonfmdgklgdgfaaRows
import Derived.WalkKit
import Derived.ProofKit
import Derived.OpenShut
import Derived.ShutString
import Derived.ChangeOld
import Derived.Below
import Derived.SizedLaws
namespace Go.Proofs.Ytonfmdgklgdgfaa.X
open Go.RowKit Go.Proofs.YtonfmdgklgdgfaaW.PrintWords Go.Proofs.YtonfmdgklgdgfaaW.PrintLast Go.Proofs.YtonfmdgklgdgfaaW.PrintMore
attribute [local go_sem] xbin_geq xbin_leq xbin_gtr max2_int min2_int max_two min_two max_three min_three max_four min_four
set_option linter.unusedVariables false
set_option linter.unusedSimpArgs false
def impl_dropPair.f (l0 : List (S65)) (a1 : ByteArray) : Option ((List (S65))) := (impl_pairAt.f l0 a1).bind fun bt365 => (if bt365.2 = true then ((impl_Pair_99.f l0 bt365.1 (wrap64 (bt365.1 + 1))).bind fun t367 => (some t367)) else (some l0))
set_option maxHeartbeats 8000000 in
set_option maxRecDepth 100000 in
theorem impl_dropPair.calls (P0_ : Nat → Prop) (u9000_ : Value) (l0 : List (S65)) (a1 : ByteArray) (r : List (S65)) (w0 w : World) (hB : Below w0.heap.size w0 w) (ho0 : Kd.R k65 65 w w0.heap.size P0_ u9000_ l0) (h : impl_dropPair.f l0 a1 = some r) :
  Calls Try.prog 77 #[u9000_, .string a1] w fun e w' => ∃ v0_ : Value, e = .returned (v0_) ∧ Kd.R k65 65 w' w0.heap.size (fun k_ => (P0_ k_ ∨ w.heap.size ≤ k_)) v0_ r ∧ Below w0.heap.size w0 w' ∧ Kept w w' (fun k_ => P0_ k_) := by
 have HO0 := Aside0.mk (show Kd.R k65 65 w w0.heap.size (fun k_ => (P0_ k_ ∨ w.heap.size ≤ k_)) u9000_ l0 from Kd.R_mono ho0 (fun k_ hk => (.inl hk)))
 have HK := Aside0.mk (Kept.refl w (fun k_ => P0_ k_))
 have HW0 := Aside0.mk hB.size
 have HB := Aside0.mk hB
 clear hB
 have H : ((impl_pairAt.f l0 a1).bind fun bt365 => (if bt365.2 = true then ((impl_Pair_99.f l0 bt365.1 (wrap64 (bt365.1 + 1))).bind fun t367 => (some t367)) else (some l0))) = some r := h
 clear h
 replace H := Option.bind_eq_some_iff.mp H
 obtain ⟨⟨t365, t366⟩, A30, H⟩ := H
 replace H : (if t366 = true then ((impl_Pair_99.f l0 t365 (wrap64 (t365 + 1))).bind fun t367 => (some t367)) else (some l0)) = some r := H
 have A3 := Aside0.mk A30
 clear A30
 by_cases c4 : t366 = true
 ·subst c4
  have H1 : ((impl_Pair_99.f l0 t365 (wrap64 (t365 + 1))).bind fun t367 => (some t367)) = some r := by rw [if_pos rfl] at H; exact H
  clear H
  have H := H1
  clear H1
  replace H := Option.bind_eq_some_iff.mp H
  obtain ⟨t367, A50, H⟩ := H
  replace H : (some t367) = some r := H
  have A5 := Aside0.mk A50
  clear A50
  obtain rfl := Option.some.inj H
  obtain ⟨Ao6, co6, eo6⟩ := Kd.R_slice HO0.out
  subst eo6
  go_enter Try.func77, Try.ntmps77
  go_wp2_with (first | ((with_reducible refine gate_callee (f := 70) rfl ?_); refine goesL_ (some 10) rfl rfl Try.func70 (by kernel_rfl) rfl #[.slice Ao6 l0.length co6, .string a1] rfl (by (try simp only [List.map_toArray, List.map_cons, List.map_nil]); first | done | rfl | (simp only [List.length_drop, List.length_take]; rfl)) ?_; (with_reducible refine (impl_pairAt.calls _ _ l0 a1 t365 true _ ?side1 ?side2 A3.out).mono ?_); (case side1 => repeat (first | exact (Kd.R_reads' HO0.out).2.2 | (with_reducible refine Kd.C_alloc ?_ _) | (with_reducible refine Kd.C_drewN ?_ _) | (with_reducible refine Kd.C_drew ?_))); (case side2 => exact (Kd.R_reads' HO0.out).2.1); rintro e w7 ⟨rfl, hb⟩; refine ⟨_, rfl, ?_⟩; have n0_ := Aside0.mk (Kd.R_below (by (with_reducible repeat (first | apply Kd.R_alloc | apply Kd.R_drewN | apply Kd.R_drew)); exact HO0.out) hb); have n1_ := Aside0.mk (Kept.below (S := (fun k_ => P0_ k_)) (by repeat (first | (with_reducible first | exact HK.out | apply Kept.alloc | apply Kept.drewN | apply Kept.drew) | exact HK.out)) hb); have n2_ := Aside0.mk (below_step (by repeat (first | (with_reducible first | exact HB.out | apply below_alloc | apply pw_below_drewN | apply below_drew1) | exact HB.out)) hb); clear HO0; clear HK; clear HB; have HO0 := n0_; have HK := n1_; have HB := n2_; clear n0_ n1_ n2_; (try clear hb); (try clear hb2); (try clear hk); (try clear hi)) | ((with_reducible refine gate_callee (f := 99) rfl ?_); refine goesL_ (some 18) rfl rfl Try.func99 (by kernel_rfl) rfl #[.slice Ao6 l0.length co6, .int .i64 t365, .int .i64 (wrap64 (t365 + 1))] rfl (by (try simp only [List.map_toArray, List.map_cons, List.map_nil]); first | done | rfl | (simp only [List.length_drop, List.length_take]; rfl)) ?_; (with_reducible refine (impl_Pair_99.calls (fun k_ => some k_ = (.slice Ao6 l0.length co6 : Value).ownBlock) (.slice Ao6 l0.length co6) l0 t365 (wrap64 (t365 + 1)) t367 w0 _ ?side1 ?side2 A5.out).mono ?_); (case side1 => repeat (first | (with_reducible first | exact HB.out | apply below_alloc | apply pw_below_drewN | apply below_drew1) | exact HB.out)); (case side2 => exact Kd.R_tight rfl HO0.out); rintro e w8 ⟨v368, rfl, ho0, hb, hkp⟩; refine ⟨_, rfl, ?_⟩; have n0_ := Aside0.mk (Kd.R_mono (ok' := fun k_ => (P0_ k_ ∨ w.heap.size ≤ k_)) ho0 (fun k_ hk_ => Or.elim hk_ (fun hs_ => (HO0.out.1 k_ (hs_).symm)) (fun hn_ => (.inr (Nat.le_trans (by first | exact HK.out.1 | exact (show Kept w _ (fun k_ => P0_ k_) from by repeat (first | (with_reducible first | exact HK.out | apply Kept.alloc | apply Kept.drewN | apply Kept.drew) | exact HK.out)).1) hn_))))); have n1_ := Aside0.mk (Kept.then_ (S := (fun k_ => P0_ k_)) (by repeat (first | (with_reducible first | exact HK.out | apply Kept.alloc | apply Kept.drewN | apply Kept.drew) | exact HK.out)) hkp (fun k_ hs_ => (fun e_ => (HO0.out.1 k_ e_.symm)) hs_)); have n2_ := Aside0.mk (hb); clear HK; clear HB; clear HO0; have HO369 := n0_; have HK := n1_; have HB := n2_; clear n0_ n1_ n2_; (try clear hb); (try clear hkp); (try clear ho0)))
  go_ret
  exact ⟨_, by first | rfl | (simp [errW_none, errW_some] <;> rfl) | (simp [*, errW_none, errW_some] <;> rfl), by (with_reducible repeat (first | apply Kd.R_alloc | apply Kd.R_drewN | apply Kd.R_drew)); exact HO369.out, by repeat (first | (with_reducible first | exact HB.out | apply below_alloc | apply pw_below_drewN | apply below_drew1) | exact HB.out), by repeat (first | (with_reducible first | exact HK.out | apply Kept.alloc | apply Kept.drewN | apply Kept.drew) | exact HK.out)⟩
 ·replace c4 := Bool.eq_false_iff.mpr c4
  subst c4
  have H1 : (some l0) = some r := by rw [if_neg (show ¬ (false = true) by decide)] at H; exact H
  clear H
  have H := H1
  clear H1
  obtain rfl := Option.some.inj H
  obtain ⟨Ao9, co9, eo9⟩ := Kd.R_slice HO0.out
  subst eo9
  go_enter Try.func77, Try.ntmps77
  go_wp2_with (first | ((with_reducible refine gate_callee (f := 70) rfl ?_); refine goesL_ (some 10) rfl rfl Try.func70 (by kernel_rfl) rfl #[.slice Ao9 l0.length co9, .string a1] rfl (by (try simp only [List.map_toArray, List.map_cons, List.map_nil]); first | done | rfl | (simp only [List.length_drop, List.length_take]; rfl)) ?_; (with_reducible refine (impl_pairAt.calls _ _ l0 a1 t365 false _ ?side1 ?side2 A3.out).mono ?_); (case side1 => repeat (first | exact (Kd.R_reads' HO0.out).2.2 | (with_reducible refine Kd.C_alloc ?_ _) | (with_reducible refine Kd.C_drewN ?_ _) | (with_reducible refine Kd.C_drew ?_))); (case side2 => exact (Kd.R_reads' HO0.out).2.1); rintro e w10 ⟨rfl, hb⟩; refine ⟨_, rfl, ?_⟩; have n0_ := Aside0.mk (Kd.R_below (by (with_reducible repeat (first | apply Kd.R_alloc | apply Kd.R_drewN | apply Kd.R_drew)); exact HO0.out) hb); have n1_ := Aside0.mk (Kept.below (S := (fun k_ => P0_ k_)) (by repeat (first | (with_reducible first | exact HK.out | apply Kept.alloc | apply Kept.drewN | apply Kept.drew) | exact HK.out)) hb); have n2_ := Aside0.mk (below_step (by repeat (first | (with_reducible first | exact HB.out | apply below_alloc | apply pw_below_drewN | apply below_drew1) | exact HB.out)) hb); clear HO0; clear HK; clear HB; have HO0 := n0_; have HK := n1_; have HB := n2_; clear n0_ n1_ n2_; (try clear hb); (try clear hb2); (try clear hk); (try clear hi)))
  go_ret
  exact ⟨_, by first | rfl | (simp [errW_none, errW_some] <;> rfl) | (simp [*, errW_none, errW_some] <;> rfl), by (with_reducible repeat (first | apply Kd.R_alloc | apply Kd.R_drewN | apply Kd.R_drew)); exact HO0.out, by repeat (first | (with_reducible first | exact HB.out | apply below_alloc | apply pw_below_drewN | apply below_drew1) | exact HB.out), by repeat (first | (with_reducible first | exact HK.out | apply Kept.alloc | apply Kept.drewN | apply Kept.drew) | exact HK.out)⟩
end Go.Proofs.Ytonfmdgklgdgfaa.X
namespace Go.Proofs.Ytonfmdgklgdgfaa.X
open Go.RowKit Go.Proofs.YtonfmdgklgdgfaaW.PrintWords Go.Proofs.YtonfmdgklgdgfaaW.PrintLast Go.Proofs.YtonfmdgklgdgfaaW.PrintMore
attribute [local go_sem] xbin_geq xbin_leq xbin_gtr max2_int min2_int max_two min_two max_three min_three max_four min_four
set_option linter.unusedVariables false
set_option linter.unusedSimpArgs false
theorem ba_ext {a b : ByteArray} (h : a.toList = b.toList) : a = b := by
  rw [ByteArray.toList_eq, ByteArray.toList_eq] at h
  exact ByteArray.ext (Array.toList_inj.mp h)
theorem rdP_at (l : List S65) (i : Nat) (h : i < l.length) : rd_T65 l (i : Int) = l[i] := by
  unfold rd_T65
  rw [Int.toNat_natCast]
  simp [List.getD_eq_getElem?_getD, h]
theorem hasAt_key {l : List S65} {key : ByteArray} (h : hasAt l key = true) : (l[lowAt l key]'(hasAt_lt h)).f0 = key := by
  have h2 := h
  unfold hasAt at h2
  simp only [Bool.and_eq_true, decide_eq_true_eq] at h2
  rw [rdP_at l _ h2.1] at h2
  exact ba_ext h2.2
theorem impl_clone (l : List S65) (hl : l.length ≤ 1000000) : impl_Pair_73.f l = some l := by
  unfold impl_Pair_73.f
  rw [if_pos (by omega)]
end Go.Proofs.Ytonfmdgklgdgfaa.X
namespace Go.Proofs.Ytonfmdgklgdgfaa.X
open Go.RowKit Go.Proofs.YtonfmdgklgdgfaaW.PrintWords Go.Proofs.YtonfmdgklgdgfaaW.PrintLast Go.Proofs.YtonfmdgklgdgfaaW.PrintMore
attribute [local go_sem] xbin_geq xbin_leq xbin_gtr max2_int min2_int max_two min_two max_three min_three max_four min_four
set_option linter.unusedVariables false
set_option linter.unusedSimpArgs false
def putP (l : List S65) (key v : ByteArray) : List S65 := if hasAt l key = true then l.set (lowAt l key) ⟨key, v⟩ else l.take (lowAt l key) ++ [⟨key, v⟩] ++ l.drop (lowAt l key)
theorem lowAt_le (l : List S65) (key : ByteArray) : lowAt l key ≤ l.length := by
  unfold lowAt
  exact List.findIdx_le_length
theorem putP_length (l : List S65) (key v : ByteArray) : (putP l key v).length = l.length + (if hasAt l key = true then 0 else 1) := by
  unfold putP
  have h := lowAt_le l key
  cases hh : hasAt l key with
  | true => simp
  | false => simp; omega
theorem impl_put {l : List S65} (key v : ByteArray) (h : Rises l) (hl : l.length ≤ 1000000) : impl_putPair.f l key v = some (putP l key v) := by
  unfold impl_putPair.f putP
  rw [impl_at key h hl, Option.bind_some]
  have hle := lowAt_le l key
  cases hh : hasAt l key with
  | false =>
    rw [if_neg (by simp), if_neg (by simp)]
    unfold impl_Pair_100.f
    rw [if_pos ⟨by simp only; omega, by simp only; omega, rfl, hl⟩, Option.bind_some]
    simp
  | true =>
    have hlt := hasAt_lt hh
    have hk := hasAt_key hh
    rw [if_pos rfl, if_pos rfl, if_pos (by simp only; omega), if_pos (by simp only; omega)]
    simp only [Int.toNat_natCast]
    rw [rdP_at l _ hlt, hk]
theorem set_is {α : Type} (l : List α) (i : Nat) (x : α) (h : i < l.length) : l.set i x = l.take i ++ [x] ++ l.drop (i + 1) := by
  rw [List.set_eq_take_append_cons_drop, if_pos h]
  simp
theorem spec_put (l : List S65) (key v : ByteArray) (hl : l.length ≤ 1000000) : Ev (fun k => spec_l01Put.f k l key v) (putP l key v) := by
  unfold spec_l01Put.f putP
  have hle := lowAt_le l key
  refine Ev.bind (spec_at l key (by omega)) (Ev.pos (by omega) (Ev.pos (by omega) (Ev.bindk rfl ?_)))
  simp only [Int.toNat_natCast]
  by_cases h : lowAt l key < l.length
  · refine Ev.pos (by omega) ?_
    by_cases h2 : (rd_T65 l (lowAt l key)).f0.toList = key.toList
    · have hh : hasAt l key = true := by unfold hasAt; simp [h, h2]
      have e := wrap_at (n := lowAt l key) (by omega)
      refine Ev.pos h2 (Ev.pos (by omega) (Ev.pos (by omega) (Ev.bindk rfl (Ev.bindk rfl (Ev.bindk rfl (Ev.pos (by simp; omega) (Ev.bindk rfl (Ev.pos (by simp; omega) (Ev.bindk rfl (Ev.pos (by simp; omega) (Ev.is ?_)))))))))))
      rw [if_pos hh, e, Int.toNat_natCast, set_is _ _ _ h]
      simp
    · have hh : hasAt l key = false := by unfold hasAt; simp [h2]
      refine Ev.neg h2 (Ev.bindk rfl (Ev.bindk rfl (Ev.pos (by simp; omega) (Ev.bindk rfl (Ev.pos (by simp; omega) (Ev.bindk rfl (Ev.pos (by simp; omega) (Ev.is ?_))))))))
      rw [if_neg (by rw [hh]; simp)]
      simp
  · have hh : hasAt l key = false := by unfold hasAt; simp [h]
    refine Ev.neg (by omega) (Ev.bindk rfl (Ev.bindk rfl (Ev.pos (by simp; omega) (Ev.bindk rfl (Ev.pos (by simp; omega) (Ev.bindk rfl (Ev.pos (by simp; omega) (Ev.is ?_))))))))
    rw [if_neg (by rw [hh]; simp)]
    simp
end Go.Proofs.Ytonfmdgklgdgfaa.X
namespace Go.Proofs.Ytonfmdgklgdgfaa.X
open Go.RowKit Go.Proofs.YtonfmdgklgdgfaaW.PrintWords Go.Proofs.YtonfmdgklgdgfaaW.PrintLast Go.Proofs.YtonfmdgklgdgfaaW.PrintMore
attribute [local go_sem] xbin_geq xbin_leq xbin_gtr max2_int min2_int max_two min_two max_three min_three max_four min_four
set_option linter.unusedVariables false
set_option linter.unusedSimpArgs false
def putR (l : List S65) (key v : ByteArray) : List S65 × Int := if askP l key = 2 ∨ 65536 < v.size then ([], 2) else if askP l key = 0 then (if 90 < v.size then ([], 4) else if hasAt l key = false ∧ l.length = 60 then (l, 7) else (putP l key v, 0)) else ([], askP l key)
theorem putR_length (l : List S65) (key v : ByteArray) : (putR l key v).1.length ≤ l.length + 1 := by
  unfold putR
  have := putP_length l key v
  split
  · exact Nat.zero_le _
  · split
    · split
      · exact Nat.zero_le _
      · split
        · simp only; omega
        · simp only [this]; split <;> omega
    · exact Nat.zero_le _
theorem askP_two (l : List S65) (key : ByteArray) : askP l key = 2 ↔ 4096 < l.length ∨ 65536 < key.size := by
  unfold askP
  by_cases h : 4096 < l.length ∨ 65536 < key.size
  · simp [h]
  · rw [if_neg h]
    constructor
    · intro e
      split at e
      · split at e <;> omega
      · omega
    · intro e; exact absurd e h
theorem spec_pairPut (l : List S65) (key v : ByteArray) : Ev (fun k => spec_PairPut.f k l key v) (putR l key v) := by
  have hj : ∀ b : Bool, (b = true ↔ askP l key = 2) → Ev (fun k => spec_PairPut.j0 k l key v b) (putR l key v) := by
    intro b hb
    refine Ev.succ ?_
    simp only [spec_PairPut.j0]
    unfold putR
    cases b with
    | true => exact Ev.pos rfl (Ev.is (by simp [hb.1 rfl]))
    | false =>
      have hn : ¬ askP l key = 2 := fun e => by have := hb.2 e; cases this
      refine Ev.neg (by simp) ?_
      by_cases hv : (v.size : Int) > 65536
      · exact Ev.pos hv (Ev.is (by rw [if_pos (.inr (by omega))]))
      · refine Ev.neg hv (Ev.bind (spec_ask l key) ?_)
        refine Ev.same ?_ (if_neg (by omega)).symm
        by_cases h : askP l key = 0
        · obtain ⟨h1, _, _, h4, _⟩ := askP_zero h
          refine Ev.same ?_ (if_pos h).symm
          refine Ev.pos h ?_
          by_cases hv2 : (v.size : Int) > 90
          · exact Ev.pos hv2 (Ev.is (by rw [if_pos (by omega)]))
          · refine Ev.neg hv2 (Ev.bind (spec_put l key v (by omega)) ?_)
            refine Ev.same ?_ (if_neg (by omega)).symm
            have hpl := putP_length l key v
            by_cases hf : hasAt l key = false ∧ l.length = 60
            · rw [if_neg (by rw [hf.1]; simp)] at hpl
              refine Ev.same ?_ (if_pos hf).symm
              exact Ev.pos (by omega) (Ev.bindk rfl (Ev.pos (by simp; omega) (Ev.is (by simp))))
            · refine Ev.same ?_ (if_neg hf).symm
              refine Ev.neg ?_ (Ev.is rfl)
              by_cases hh : hasAt l key = true
              · rw [if_pos hh] at hpl; omega
              · have h5 : hasAt l key = false := by simpa using hh
                have h6 : l.length ≠ 60 := fun e => hf ⟨h5, e⟩
                rw [if_neg hh] at hpl
                omega
        · refine Ev.same ?_ (if_neg h).symm
          exact Ev.neg h (Ev.is rfl)
  unfold spec_PairPut.f
  by_cases h : (l.length : Int) > 4096
  · exact Ev.pos h (hj true (by rw [askP_two]; simp; omega))
  · refine Ev.neg h (hj _ ?_)
    rw [askP_two]
    simp only [decide_eq_true_eq]
    omega
theorem impl_pairPut (l : List S65) (key v : ByteArray) : Ev (fun k => impl_PairPut.f k l key v) (putR l key v) := by
  have hj : ∀ b : Bool, (b = true ↔ (askP l key = 2 ∨ 65536 < v.size)) → Ev (fun k => impl_PairPut.j0 k l key v (askP l key) b) (putR l key v) := by
    intro b hb
    refine Ev.succ ?_
    simp only [impl_PairPut.j0]
    unfold putR
    cases b with
    | true => exact Ev.pos rfl (Ev.is (by rw [if_pos (hb.1 rfl)]))
    | false =>
      have hn : ¬ (askP l key = 2 ∨ 65536 < v.size) := fun e => by have := hb.2 e; cases this
      refine Ev.neg (by simp) ?_
      refine Ev.same ?_ (if_neg hn).symm
      by_cases h : askP l key = 0
      · obtain ⟨h1, _, _, h4, _⟩ := askP_zero h
        refine Ev.same ?_ (if_pos h).symm
        refine Ev.pos h ?_
        by_cases hv2 : (v.size : Int) > 90
        · exact Ev.pos hv2 (Ev.is (by rw [if_pos (by omega)]))
        · refine Ev.neg hv2 (Ev.bindk (impl_clone l (by omega)) (Ev.bindk (impl_at key h4 (by omega)) ?_))
          refine Ev.same ?_ (if_neg (by omega)).symm
          cases hh : hasAt l key with
          | true => exact Ev.pos rfl (Ev.bindk (impl_put key v h4 (by omega)) (Ev.is (by simp)))
          | false =>
            refine Ev.neg (by simp) ?_
            by_cases hf : (l.length : Int) = 60
            · exact Ev.pos hf (Ev.is (by rw [if_pos ⟨rfl, by omega⟩]))
            · exact Ev.neg hf (Ev.bindk (impl_put key v h4 (by omega)) (Ev.is (by rw [if_neg (by omega)])))
      · refine Ev.same ?_ (if_neg h).symm
        exact Ev.neg h (Ev.is rfl)
  unfold impl_PairPut.f
  refine Ev.bind (impl_asked l key) ?_
  by_cases h : askP l key = 2
  · exact Ev.pos h (hj true (by simp [h]))
  · refine Ev.neg h (hj _ ?_)
    simp only [decide_eq_true_eq]
    omega
end Go.Proofs.Ytonfmdgklgdgfaa.X
set_option linter.unusedSimpArgs false
set_option linter.unusedVariables false
namespace Go.Proofs.Ytonfmdgklgdgfaa.X.Pure
open Go.RowKit Go.Proofs.Ytonfmdgklgdgfaa.X Go.Proofs.YtonfmdgklgdgfaaW.PrintWords Go.Proofs.YtonfmdgklgdgfaaW.PrintLast
theorem FnExactPairPut : laws_FnExactPairPut.Pure := by
  intro l key v hw hx0 hy0 hx1 hy1
  refine Ev.rounds (g := fun k => laws_FnExactPairPut.f k l key v) ?_
  unfold laws_FnExactPairPut.f
  by_cases hk0 : (key.size : Int) > 1048576
  · exact Ev.pos hk0 (Ev.is rfl)
  refine Ev.neg hk0 ?_
  by_cases hk1 : (v.size : Int) > 1048576
  · exact Ev.pos hk1 (Ev.is rfl)
  refine Ev.neg hk1 ?_
  obtain ⟨r, hr, hq⟩ := sz_PairS l hw 1048576 1048576 (by omega) (by omega) (by omega)
  refine Ev.bind hr ?_
  by_cases h : r < 0
  · exact Ev.pos h (Ev.is rfl)
  refine Ev.neg h ?_
  have hs := (hq (by omega)).2
  have ht := to_PairS l hs
  have hlen : (l.map cv63).length ≤ 1048576 := by rw [List.length_map]; have := hs.1; omega
  have e0 := eq_PairS (l.map cv63) ⟨by omega, fun y _ => ⟨trivial, trivial⟩⟩
  have m0 := mark_PairS (l.map cv63) 1 (by omega) (by omega) (by omega)
  have hn := putR_length (l.map cv63) key v
  have iD := impl_pairPut (l.map cv63) key v
  have sD := spec_pairPut (l.map cv63) key v
  generalize l.map cv63 = x at *
  generalize hR : putR x key v = R at *
  have eR := eq_PairS R.1 ⟨by omega, fun y _ => ⟨trivial, trivial⟩⟩
  have mR := mark_PairS R.1 1 (by omega) (by omega) (by omega)
  have hH := held_PairS R.1 1 (by omega) (by omega) (by omega)
  have hj2 : Ev (fun k => laws_FnExactPairPut.j2 k (mk_PairS R.1 1) (1 + 2 * (R.1.length : Int)) false) true := by
    refine Ev.succ ?_
    simp only [laws_FnExactPairPut.j2]
    exact Ev.neg (by simp) (Ev.bind hH (Ev.neg (by omega) (Ev.pos rfl (Ev.is rfl))))
  have hj1 : Ev (fun k => laws_FnExactPairPut.j1 k l key v R.1 R.2 R.1 false) true := by
    refine Ev.succ ?_
    simp only [laws_FnExactPairPut.j1]
    refine Ev.neg (by simp) (Ev.bind mR (Ev.bind hH (Ev.neg (by omega) (Ev.pos rfl (Ev.bind ht (Ev.bind iD (Ev.bind eR (Ev.pos rfl ?_))))))))
    rw [bne_self_eq_false]
    exact hj2
  have hj0 : Ev (fun k => laws_FnExactPairPut.j0 k l key v R.1 R.2 x R.1 R.2 false) true := by
    refine Ev.succ ?_
    simp only [laws_FnExactPairPut.j0]
    refine Ev.neg (by simp) (Ev.bind ht (Ev.bind e0 (Ev.pos rfl (Ev.bind m0 (Ev.neg (by simp only; omega) (Ev.bind eR (Ev.pos rfl ?_)))))))
    rw [bne_self_eq_false]
    exact hj1
  refine Ev.bind ht (Ev.bind sD (Ev.bind ht (Ev.bind iD (Ev.bind eR (Ev.pos rfl ?_)))))
  rw [bne_self_eq_false]
  exact hj0
end Go.Proofs.Ytonfmdgklgdgfaa.X.Pure
namespace Go.Proofs.Ytonfmdgklgdgfaa.fnExactPairPut
open Go.ChangeShapes Go.WideShapes Go.ChangeAt Go.RowKit Go.Proofs.Ytonfmdgklgdgfaa.X Go.Proofs.YtonfmdgklgdgfaaW.PrintWords
open Go.ChangeMaps (open_string shut_string)
set_option linter.unusedVariables false
theorem own : ownKnob Try.prog.godebug = none := by kernel_rfl
theorem laidOut : laidOutB Try.prog = true := by kernel_rfl
set_option maxRecDepth 100000 in
theorem lifted (os : Os) (started : os.Started) (H : Type) (enc : TypeId × Value → H) :
    ReturnsInHanded {} Try.checked os 14 .any (Rows.fnExactPairPutSpec.pre6 enc Try.prog Try.f14 Rows.fnExactPairPutRow.domain false) (Rows.fnExactPairPutSpec.post enc Try.prog Try.f14 false true false false) := by
  refine returnsInHanded_of_change_sized (C := Try.checked) own started (by kernel_rfl) Try.func14
    (ChangeSpec.witness6 (enc := enc) (C := Try.checked) false ⟨#[], #[.slice none 0 0, .string ByteArray.empty, .string ByteArray.empty], []⟩ 8 (by kernel_rfl) (by kernel_rfl) (by kernel_rfl) (by kernel_rfl)) ?_
  intro W base args ds gs before hval0 hW hcnd hsz0 _
  have hsz : (DataW.weightsEach Try.prog (Try.f14.params.toList ++ Rows.fnExactPairPutSpec.plain.varTypes Try.prog) (ds ++ gs)).all (· ≤ reachBytes) = true := hsz0
  have hval : ∀ (j : Nat) t v, Try.f14.params[j]? = some t → args[j]? = some v → Value.okWide Try.prog W .any base t v := hval0
  have hW' := hW
  obtain ⟨p, q, hA0, hV, rfl, hfz, hnd⟩ := hW
  have hA : DataW.TrodAll enc Try.prog W 0 (fun _ => true) true Try.f14.params.toList args.toList ds p := hA0
  rw [Try.params14] at hA hval hsz
  obtain ⟨v0, vs0, d0, ds0, p0, q0, hargs, rfl, rfl, h0, r0⟩ := trodAll_cons hA
  obtain ⟨v1, vs1, d1, ds1, p1, q1, rfl, rfl, rfl, h1, r1⟩ := trodAll_cons r0
  obtain ⟨v2, vs2, d2, ds2, p2, q2, rfl, rfl, rfl, h2, r2⟩ := trodAll_cons r1
  obtain ⟨rfl, rfl, rfl⟩ := trodAll_nil r2
  obtain rfl : args = #[v0, v1, v2] := by cases args; simp_all
  obtain ⟨rfl, rfl⟩ := trodVars_none hV
  have k0 := h0
  have lt0 : ∀ x ∈ p0, x.block < W.heap.size := by obtain ⟨m, hm⟩ := k0; exact DataW.trod_lt m _ _ _ hm
  obtain ⟨A0, len0, c0, rfl⟩ := okWide_slice Try.underlying34 (hval 0 34 v0 rfl rfl)
  obtain ⟨l0, rfl, hc0, hr0, hw0⟩ := Opens.slice_arg opens34 h0
  obtain ⟨a1, rfl, rfl, rfl, y1⟩ := open_string Try.underlying9 (hval 1 9 v1 rfl rfl) h1
  have w1 : a1.size ≤ 140737488351232 := by
    have z := sized_string hsz (j := 1) (t := 9) rfl rfl
    rw [Array.length_toList] at z
    exact z
  obtain ⟨a2, rfl, rfl, rfl, y2⟩ := open_string Try.underlying9 (hval 2 9 v2 rfl rfl) h2
  have w2 : a2.size ≤ 140737488351232 := by
    have z := sized_string hsz (j := 2) (t := 9) rfl rfl
    rw [Array.length_toList] at z
    exact z
  clear hA0 hval0 hsz0 hsz
  obtain ⟨k, hP⟩ := X.Pure.FnExactPairPut l0 a1 a2 hw0 y1 w1 y2 w2
  refine (laws_FnExactPairPut.calls k A0 c0 l0 a1 a2 true W hr0 hc0 hP).mono fun e W' hQ => ?_
  obtain ⟨he, bel0⟩ := hQ
  subst he
  have bel : Below W.heap.size W W' := bel0
  exact ⟨_, rfl, _, _, _, [], _, [], hW', trodAll_mk1 (shut_bool Try.underlying4 _), (trodAll_cons_mk (Below.trod laidOut (by kernel_rfl) (of_decide_eq_true (by kernel_rfl)) k0 bel lt0) (trodAll_cons_mk (shut_string Try.underlying9 y1) (trodAll_cons_mk (shut_string Try.underlying9 y2) trodAll_mk0))), rfl, bel.frame _, fun h => by cases h⟩
theorem over : Rows.fnExactPairPutRow.holds Try.pinned (OpenSpec.ofChange Rows.fnExactPairPutSpec) :=
  OpenClaim.holds_of_wide 14 Try.f14 rfl rfl rfl rfl rfl rfl rfl ⟨rfl, rfl, rfl, rfl, rfl⟩ rfl rfl rfl rfl rfl (by kernel_rfl) Try.func14 (by kernel_rfl)
    (of_decide_eq_true (by kernel_rfl)) (by unfold Func.isWrapper; first | (rw [if_pos (by decide +kernel)]; kernel_rfl) | (rw [if_neg (by decide +kernel)]; exact ⟨rfl, rfl⟩))
    (fun os started H enc _ => lifted os started H enc)
theorem proved : Rows.FnExactPairPutSaid := over
end Go.Proofs.Ytonfmdgklgdgfaa.fnExactPairPut
namespace Go.Proofs.Ytonfmdgklgdgfaa
theorem fnExactPairPut_holds : Rows.FnExactPairPutSaid := fnExactPairPut.proved
end Go.Proofs.Ytonfmdgklgdgfaa
