import Derived.Test.YtgcncphdjabjjaaKFnExactApplyDiff3
import Derived.Test.YtgcncphdjabjjaaKFnExactApplyDiff10
import Derived.Test.YtgcncphdjabjjaaKFnExactApplyDiff11
import Derived.Test.YtgcncphdjabjjaaKFnExactApplyDiff14
import Derived.Test.YtgcncphdjabjjaaKFnExactApplyDiff15
import Derived.Test.YtgcncphdjabjjaaKFnExactApplyDiff16
import Derived.Test.YtgcncphdjabjjaaKFnExactApplyDiff17
import Derived.Test.YtgcncphdjabjjaaKFnExactApplyDiff18
import Derived.Test.YtgcncphdjabjjaaKFnExactApplyDiff19
namespace Go.Proofs.Ytgcncphdjabjjaa.X
open Go.RowKit Go.Proofs.YtgcncphdjabjjaaW.PrintWords Go.Proofs.YtgcncphdjabjjaaW.PrintLast Go.Proofs.YtgcncphdjabjjaaW.PrintMore
attribute [local go_sem] xbin_geq xbin_leq xbin_gtr max2_int min2_int max_two min_two max_three min_three max_four min_four
set_option linter.unusedVariables false
set_option linter.unusedSimpArgs false
def impl_putPair.f (l0 : List (S76)) (a1 : ByteArray) (a2 : ByteArray) : Option ((List (S76))) := (impl_pairAt.f l0 a1).bind fun bt472 => (if bt472.2 = true then (if 0 ≤ bt472.1 then (if bt472.1 < (l0.length : Int) then (some (l0.set (bt472.1 : Int).toNat (⟨(rd_T76 l0 bt472.1).f0, a2⟩ : S76))) else (none)) else (none)) else ((impl_Pair_112.f l0 bt472.1 (([(⟨a1, a2⟩ : S76)] : List (S76)))).bind fun t478 => (some t478)))
set_option maxHeartbeats 8000000 in
set_option maxRecDepth 100000 in
theorem impl_putPair.calls (P0_ : Nat → Prop) (u9000_ : Value) (l0 : List (S76)) (a1 : ByteArray) (a2 : ByteArray) (r : List (S76)) (w0 w : World) (hB : Below w0.heap.size w0 w) (ho0 : Kd.R k76 76 w w0.heap.size P0_ u9000_ l0) (h : impl_putPair.f l0 a1 a2 = some r) :
  Calls Try.prog 92 #[u9000_, .string a1, .string a2] w fun e w' => ∃ v0_ : Value, e = .returned (v0_) ∧ Kd.R k76 76 w' w0.heap.size (fun k_ => (P0_ k_ ∨ w.heap.size ≤ k_)) v0_ r ∧ Below w0.heap.size w0 w' ∧ Kept w w' (fun k_ => P0_ k_) := by
 have hu76 := Try.underlying76
 have HO0 := Aside0.mk (show Kd.R k76 76 w w0.heap.size (fun k_ => (P0_ k_ ∨ w.heap.size ≤ k_)) u9000_ l0 from Kd.R_mono ho0 (fun k_ hk => (.inl hk)))
 have HK := Aside0.mk (Kept.refl w (fun k_ => P0_ k_))
 have HW0 := Aside0.mk hB.size
 have HB := Aside0.mk hB
 clear hB
 have H : ((impl_pairAt.f l0 a1).bind fun bt472 => (if bt472.2 = true then (if 0 ≤ bt472.1 then (if bt472.1 < (l0.length : Int) then (some (l0.set (bt472.1 : Int).toNat (⟨(rd_T76 l0 bt472.1).f0, a2⟩ : S76))) else (none)) else (none)) else ((impl_Pair_112.f l0 bt472.1 (([(⟨a1, a2⟩ : S76)] : List (S76)))).bind fun t478 => (some t478)))) = some r := h
 clear h
 replace H := Option.bind_eq_some_iff.mp H
 obtain ⟨⟨t472, t473⟩, A40, H⟩ := H
 replace H : (if t473 = true then (if 0 ≤ t472 then (if t472 < (l0.length : Int) then (some (l0.set (t472 : Int).toNat (⟨(rd_T76 l0 t472).f0, a2⟩ : S76))) else (none)) else (none)) else ((impl_Pair_112.f l0 t472 (([(⟨a1, a2⟩ : S76)] : List (S76)))).bind fun t478 => (some t478))) = some r := H
 have A4 := Aside0.mk A40
 clear A40
 by_cases c5 : t473 = true
 ·subst c5
  have H1 : (if 0 ≤ t472 then (if t472 < (l0.length : Int) then (some (l0.set (t472 : Int).toNat (⟨(rd_T76 l0 t472).f0, a2⟩ : S76))) else (none)) else (none)) = some r := by rw [if_pos rfl] at H; exact H
  clear H
  have H := H1
  clear H1
  by_cases c6 : 0 ≤ t472
  ·rw [if_pos c6] at H
   have c6b0 : decide (0 ≤ t472) = true := decide_eq_true c6
   clear c6
   by_cases c7 : t472 < (l0.length : Int)
   ·rw [if_pos c7] at H
    have c7b0 : decide (t472 < (l0.length : Int)) = true := decide_eq_true c7
    clear c7
    obtain ⟨y474, hy474⟩ : ∃ y_ : List (S76), y_ = (l0.set (t472 : Int).toNat (⟨(rd_T76 l0 t472).f0, a2⟩ : S76)) := ⟨_, rfl⟩
    replace H : (some y474) = some r := by first | (rw [hy474]; with_reducible exact H) | (have H2_ := (Option.bind_some _ _).symm.trans H; rw [hy474]; with_reducible exact H2_) | (have H2_ := (Option.bind_some _ _).symm.trans H; with_reducible exact H2_) | with_reducible exact H | (rw [hy474]; exact H) | exact H
    have Ny474 := Aside0.mk hy474
    clear hy474
    obtain rfl := Option.some.inj H
    obtain ⟨Ao9, co9, eo9⟩ := Kd.R_slice HO0.out
    subst eo9
    go_enter Try.func92, Try.ntmps92
    go_wp2_with (first | ((with_reducible refine gate_callee (f := 91) rfl ?_); refine goesL_ (some 12) rfl rfl Try.func91 (by kernel_rfl) rfl #[.slice Ao9 l0.length co9, .string a1] rfl (by (try simp only [List.map_toArray, List.map_cons, List.map_nil]); first | done | rfl | (simp only [List.length_drop, List.length_take]; rfl)) ?_; (with_reducible refine (impl_pairAt.calls _ _ l0 a1 t472 true _ ?side1 ?side2 A4.out).mono ?_); (case side1 => repeat (first | exact (Kd.R_reads' HO0.out).2.2 | (with_reducible refine Kd.C_alloc ?_ _) | (with_reducible refine Kd.C_drewN ?_ _) | (with_reducible refine Kd.C_drew ?_))); (case side2 => exact (Kd.R_reads' HO0.out).2.1); rintro e w10 ⟨rfl, hb⟩; refine ⟨_, rfl, ?_⟩; have n0_ := Aside0.mk (Kd.R_below (by (with_reducible repeat (first | apply Kd.R_alloc | apply Kd.R_drewN | apply Kd.R_drew)); exact HO0.out) hb); have n1_ := Aside0.mk (Kept.below (S := (fun k_ => P0_ k_)) (by repeat (first | (with_reducible first | exact HK.out | apply Kept.alloc | apply Kept.drewN | apply Kept.drew) | exact HK.out)) hb); have n2_ := Aside0.mk (below_step (by repeat (first | (with_reducible first | exact HB.out | apply below_alloc | apply pw_below_drewN | apply below_drew1) | exact HB.out)) hb); clear HO0; clear HK; clear HB; have HO0 := n0_; have HK := n1_; have HB := n2_; clear n0_ n1_ n2_; (try clear hb); (try clear hb2); (try clear hk); (try clear hi); have p8 : 0 ≤ (t472 : Int) := of_decide_eq_true (by first | (with_reducible assumption) | assumption); have q8 : (t472 : Int) < ((l0.length : Int) : Int) := of_decide_eq_true (by first | (with_reducible assumption) | assumption); obtain ⟨go8, co8, eo8, gb8, gl8, cl8, HG8⟩ := Kd.R_form HO0.out (by omega); (first | cases eo8 | (injection eo8 with ea_ en_ ec_; (first | subst ea_ | (injection ea_ with ea_; subst ea_)); subst ec_; clear en_)); have GB8 := Aside0.mk gb8; have GG8 := Aside0.mk HG8; clear gb8 gl8 HG8; have HMgo8 := Aside0.mk (show (P0_ go8 ∨ w.heap.size ≤ go8) from (HO0.out.1 _ rfl)); obtain ⟨ce8, hcl8, hM8, hcc8, hfr8⟩ := Kd.R_elem HO0.out z76 (t472 : Int) p8 q8; obtain rfl := k76_openM hM8; have hx8_0 : w10.cell? ⟨go8, (t472 : Int).toNat * 2, none⟩ = some (.string ((rd_T76 l0 t472).f0)) := hcc8 0 _ rfl; have hx8_1 : w10.cell? ⟨go8, (t472 : Int).toNat * 2 + 1, none⟩ = some (.string ((rd_T76 l0 t472).f1)) := hcc8 1 _ rfl; have hf8_0 : w10.frozen? ⟨go8, (t472 : Int).toNat * 2, none⟩ = false := hfr8 0; have hf8_1 : w10.frozen? ⟨go8, (t472 : Int).toNat * 2 + 1, none⟩ = false := hfr8 1; clear hcl8 hcc8 hfr8 hM8; replace p8 := eq_true p8; replace q8 := eq_true q8; have HX11 := Aside0.mk (show Kd.R k76 76 w10 w0.heap.size (fun k_ => (P0_ k_ ∨ w.heap.size ≤ k_)) (.slice (some ⟨go8, 0, none⟩) l0.length co9) l0 from (by (with_reducible repeat (first | apply Kd.R_alloc | apply Kd.R_drewN | apply Kd.R_drew)); exact HO0.out)); obtain ⟨ce11, hcl11, hM11, hcc11, hfr11⟩ := Kd.R_elem HX11.out z76 (t472 : Int) (of_decide_eq_true (by first | (with_reducible assumption) | assumption)) (by have h_ : (t472 : Int) < ((l0.length : Int) : Int) := of_decide_eq_true (by first | (with_reducible assumption) | assumption); first | exact h_ | (have e_ := (Kd.R_reads' HO0.out).1; omega) | simpa using h_); obtain rfl := k76_openM hM11; have HP11 := Kd.R_seg HX11.out (t472 : Int) (of_decide_eq_true (by first | (with_reducible assumption) | assumption)) (by have h_ : (t472 : Int) < ((l0.length : Int) : Int) := of_decide_eq_true (by first | (with_reducible assumption) | assumption); first | exact h_ | (have e_ := (Kd.R_reads' HO0.out).1; omega) | simpa using h_) (seg := [.string a2]) (j := 1) hcl11 hcc11 (show 2 ≤ 2 from by decide) (x' := (⟨(rd_T76 l0 t472).f0, a2⟩ : S76)) (k76_mkM _ _ _ (⟨(rd_T76 l0 t472).f0, a2⟩ : S76) ) (fun _ hk => hk); have hx11_1 := hcc11 1 _ rfl; (try simp only [show (k76).sz = 2 from rfl, Nat.mul_one, Nat.add_zero] at hx11_1); have hf11_1 := hfr11 1; (try simp only [show (k76).sz = 2 from rfl, Nat.mul_one, Nat.add_zero] at hf11_1); clear hcl11 hcc11 hfr11 hM11) | ((with_reducible refine gate_store (t := 9) (p := 20) rfl ?_); refine store_event (t := 9) (p := 20) (v := ?vo_w12) (w1 := (w10.setCell ⟨go8, (t472 : Int).toNat * 2 + 1, none⟩ (.string a2))) ?hg ?ho ?hn ?hr ?_; (case ho => rfl); (case hg => rfl); (case hn => rfl); (case hr => first | (go_simp; done) | (go_simp; rfl)); intro w12 hw; have hg : w10.grownBy w12 (some go8) := (by rw [hw]; exact HP11.2); have hp_ : Kd.R k76 76 w12 w0.heap.size (fun k_ => (P0_ k_ ∨ w.heap.size ≤ k_)) (.slice (some ⟨go8, 0, none⟩) l0.length co9) y474 := (by rw [hw, Ny474.out]; exact HP11.1); clear HP11; have n0_ := Aside0.mk (hp_); have n1_ := Aside0.mk ((by rw [hw]; exact below_set (HB.out) GB8.out : Below w0.heap.size w0 w12)); have n2_ := Aside0.mk (Kept.of_grown (S := (fun k_ => P0_ k_)) hg (by repeat (first | (with_reducible first | exact HK.out | apply Kept.alloc | apply Kept.drewN | apply Kept.drew) | exact HK.out)) (fun k_ e_ => (HO0.out.1 k_ e_))); clear HO0; clear HB; clear HK; have HO0 := n0_; have HB := n1_; have HK := n2_; clear n0_ n1_ n2_; clear hg hw hp_))
    go_ret
    exact ⟨_, by first | rfl | (simp [errW_none, errW_some] <;> rfl) | (simp [*, errW_none, errW_some] <;> rfl), by (with_reducible repeat (first | apply Kd.R_alloc | apply Kd.R_drewN | apply Kd.R_drew)); exact HO0.out, by repeat (first | (with_reducible first | exact HB.out | apply below_alloc | apply pw_below_drewN | apply below_drew1) | exact HB.out), by repeat (first | (with_reducible first | exact HK.out | apply Kept.alloc | apply Kept.drewN | apply Kept.drew) | exact HK.out)⟩
   ·rw [if_neg c7] at H
    exact absurd H (by simp)
  ·rw [if_neg c6] at H
   exact absurd H (by simp)
 ·replace c5 := Bool.eq_false_iff.mpr c5
  subst c5
  have H1 : ((impl_Pair_112.f l0 t472 (([(⟨a1, a2⟩ : S76)] : List (S76)))).bind fun t478 => (some t478)) = some r := by rw [if_neg (show ¬ (false = true) by decide)] at H; exact H
  clear H
  have H := H1
  clear H1
  obtain ⟨y475, hy475⟩ : ∃ y_ : List (S76), y_ = (([(⟨a1, a2⟩ : S76)] : List (S76))) := ⟨_, rfl⟩
  replace H : ((impl_Pair_112.f l0 t472 y475).bind fun t478 => (some t478)) = some r := by first | (rw [hy475]; with_reducible exact H) | (have H2_ := (Option.bind_some _ _).symm.trans H; rw [hy475]; with_reducible exact H2_) | (have H2_ := (Option.bind_some _ _).symm.trans H; with_reducible exact H2_) | with_reducible exact H | (rw [hy475]; exact H) | exact H
  have Ny475 := Aside0.mk hy475
  clear hy475
  replace H := Option.bind_eq_some_iff.mp H
  obtain ⟨t478, A130, H⟩ := H
  replace H : (some t478) = some r := H
  have A13 := Aside0.mk A130
  clear A130
  obtain rfl := Option.some.inj H
  obtain ⟨Ao14, co14, eo14⟩ := Kd.R_slice HO0.out
  subst eo14
  go_enter Try.func92, Try.ntmps92
  go_wp2_with (first | ((with_reducible refine gate_callee (f := 91) rfl ?_); refine goesL_ (some 12) rfl rfl Try.func91 (by kernel_rfl) rfl #[.slice Ao14 l0.length co14, .string a1] rfl (by (try simp only [List.map_toArray, List.map_cons, List.map_nil]); first | done | rfl | (simp only [List.length_drop, List.length_take]; rfl)) ?_; (with_reducible refine (impl_pairAt.calls _ _ l0 a1 t472 false _ ?side1 ?side2 A4.out).mono ?_); (case side1 => repeat (first | exact (Kd.R_reads' HO0.out).2.2 | (with_reducible refine Kd.C_alloc ?_ _) | (with_reducible refine Kd.C_drewN ?_ _) | (with_reducible refine Kd.C_drew ?_))); (case side2 => exact (Kd.R_reads' HO0.out).2.1); rintro e w15 ⟨rfl, hb⟩; refine ⟨_, rfl, ?_⟩; have n0_ := Aside0.mk (Kd.R_below (by (with_reducible repeat (first | apply Kd.R_alloc | apply Kd.R_drewN | apply Kd.R_drew)); exact HO0.out) hb); have n1_ := Aside0.mk (Kept.below (S := (fun k_ => P0_ k_)) (by repeat (first | (with_reducible first | exact HK.out | apply Kept.alloc | apply Kept.drewN | apply Kept.drew) | exact HK.out)) hb); have n2_ := Aside0.mk (below_step (by repeat (first | (with_reducible first | exact HB.out | apply below_alloc | apply pw_below_drewN | apply below_drew1) | exact HB.out)) hb); clear HO0; clear HK; clear HB; have HO0 := n0_; have HK := n1_; have HB := n2_; clear n0_ n1_ n2_; (try clear hb); (try clear hb2); (try clear hk); (try clear hi)) | ((with_reducible refine gate_dst (N := 27) rfl ?_); refine Kd.R_lit k76 _ 76 ?hg (N := 27) ?hd (xs := ([(⟨a1, a2⟩ : S76)] : List (S76))) (inner := [.string a1, .string a2]) (ok := fun _ => True) (okp := fun _ => True) ?hr ?hp (fun _ hk => hk) trivial (Below.refl _ _) (Nat.le_refl _) (by simp) ?_; (case hd => rfl); (case hg => rfl); (case hr => first | (go_simp; done) | (go_simp; rfl)); (case hp => exact (Reps.c2 (show Kd.M k76 _ _ _ (⟨a1, a2⟩ : S76) [.string a1, .string a2] from (k76_mkM _ _ _ (⟨a1, a2⟩ : S76) )) (Reps.none _ _))); intro v476 w16 ho17 hb hg_ hnew_; clear hg_ hnew_; (first | rw [← Ny475.out] at ho17 | (simp only [Int.reduceToNat] at ho17; rw [← Ny475.out] at ho17)); have n0_ := Aside0.mk (Kd.R_elder' (by (with_reducible repeat (first | apply Kd.R_alloc | apply Kd.R_drewN | apply Kd.R_drew)); exact HO0.out) (Kd.R_base ho17) hb); have n1_ := Aside0.mk (Kd.R_lower (Kd.R_new' (Kd.R_newM (M := fun k_ => (P0_ k_ ∨ w.heap.size ≤ k_)) ho17 (by first | exact HK.out.1 | exact (show Kept w _ (fun k_ => P0_ k_) from by repeat (first | (with_reducible first | exact HK.out | apply Kept.alloc | apply Kept.drewN | apply Kept.drew) | exact HK.out)).1) (fun k_ h_ => .inr h_)) (Kd.R_lt (by (with_reducible repeat (first | apply Kd.R_alloc | apply Kd.R_drewN | apply Kd.R_drew)); exact HO0.out))) (below_size (by repeat (first | (with_reducible first | exact HB.out | apply below_alloc | apply pw_below_drewN | apply below_drew1) | exact HB.out)))); have n2_ := Aside0.mk (Kept.below (S := (fun k_ => P0_ k_)) (by repeat (first | (with_reducible first | exact HK.out | apply Kept.alloc | apply Kept.drewN | apply Kept.drew) | exact HK.out)) hb); have n3_ := Aside0.mk (below_step (by repeat (first | (with_reducible first | exact HB.out | apply below_alloc | apply pw_below_drewN | apply below_drew1) | exact HB.out)) hb); clear HO0; clear HK; clear HB; have HO0 := n0_; have HO477 := n1_; have HK := n2_; have HB := n3_; clear n0_ n1_ n2_ n3_; clear hb ho17; obtain ⟨Ao18, co18, eo18⟩ := Kd.R_slice HO477.out; subst eo18) | ((with_reducible refine gate_callee (f := 112) rfl ?_); refine goesL_ (some 28) rfl rfl Try.func112 (by kernel_rfl) rfl #[.slice Ao14 l0.length co14, .int .i64 t472, .slice Ao18 y475.length co18] rfl (by (try simp only [List.map_toArray, List.map_cons, List.map_nil]); first | done | rfl | (simp only [List.length_drop, List.length_take]; rfl)) ?_; (with_reducible refine (impl_Pair_112.calls (fun k_ => some k_ = (.slice Ao14 l0.length co14 : Value).ownBlock) (.slice Ao14 l0.length co14) l0 t472 (fun k_ => some k_ = (.slice Ao18 y475.length co18 : Value).ownBlock) (.slice Ao18 y475.length co18) y475 t478 w0 _ ?side1 ?side2 ?side3 ?side4 ?side5 A13.out).mono ?_); (case side1 => repeat (first | (with_reducible first | exact HB.out | apply below_alloc | apply pw_below_drewN | apply below_drew1) | exact HB.out)); (case side2 => exact Kd.R_tight rfl HO0.out); (case side3 => exact fun k_ e_ => (HO0.out.1 k_ e_.symm).2); (case side4 => exact Kd.R_tight rfl HO477.out); (case side5 => exact fun k_ e_ => (HO477.out.1 k_ e_.symm).2); rintro e w19 ⟨v479, rfl, ho0, hb, hkp⟩; refine ⟨_, rfl, ?_⟩; have n0_ := Aside0.mk (Kd.R_mono (ok' := fun k_ => (P0_ k_ ∨ w.heap.size ≤ k_)) ho0 (fun k_ hk_ => Or.elim hk_ (fun hs_ => Or.elim hs_ (fun hs_ => (HO0.out.1 k_ (hs_).symm).1) (fun hs_ => (HO477.out.1 k_ (hs_).symm).1.1)) (fun hn_ => (.inr (Nat.le_trans (by first | exact HK.out.1 | exact (show Kept w _ (fun k_ => P0_ k_) from by repeat (first | (with_reducible first | exact HK.out | apply Kept.alloc | apply Kept.drewN | apply Kept.drew) | exact HK.out)).1) hn_))))); have n1_ := Aside0.mk (Kept.then_ (S := (fun k_ => P0_ k_)) (by repeat (first | (with_reducible first | exact HK.out | apply Kept.alloc | apply Kept.drewN | apply Kept.drew) | exact HK.out)) hkp (fun k_ hs_ => Or.elim hs_ (fun e_ => (fun e_ => (HO0.out.1 k_ e_.symm).1) e_) (fun e_ => (fun e_ => (HO477.out.1 k_ e_.symm).1.1) e_))); have n2_ := Aside0.mk (hb); clear HK; clear HB; clear HO0; clear HO477; have HO480 := n0_; have HK := n1_; have HB := n2_; clear n0_ n1_ n2_; (try clear hb); (try clear hkp); (try clear ho0)))
  go_ret
  exact ⟨_, by first | rfl | (simp [errW_none, errW_some] <;> rfl) | (simp [*, errW_none, errW_some] <;> rfl), by (with_reducible repeat (first | apply Kd.R_alloc | apply Kd.R_drewN | apply Kd.R_drew)); exact HO480.out, by repeat (first | (with_reducible first | exact HB.out | apply below_alloc | apply pw_below_drewN | apply below_drew1) | exact HB.out), by repeat (first | (with_reducible first | exact HK.out | apply Kept.alloc | apply Kept.drewN | apply Kept.drew) | exact HK.out)⟩
end Go.Proofs.Ytgcncphdjabjjaa.X
namespace Go.Proofs.Ytgcncphdjabjjaa.X
open Go.RowKit Go.Proofs.YtgcncphdjabjjaaW.PrintWords Go.Proofs.YtgcncphdjabjjaaW.PrintLast Go.Proofs.YtgcncphdjabjjaaW.PrintMore
attribute [local go_sem] xbin_geq xbin_leq xbin_gtr max2_int min2_int max_two min_two max_three min_three max_four min_four
set_option linter.unusedVariables false
set_option linter.unusedSimpArgs false
def putP (l : List S76) (key v : ByteArray) : List S76 := if hasAt l key = true then l.set (lowAt l key) ⟨key, v⟩ else l.take (lowAt l key) ++ [⟨key, v⟩] ++ l.drop (lowAt l key)
theorem lowAt_le (l : List S76) (key : ByteArray) : lowAt l key ≤ l.length := by
  unfold lowAt
  exact List.findIdx_le_length
theorem putP_length (l : List S76) (key v : ByteArray) : (putP l key v).length = l.length + (if hasAt l key = true then 0 else 1) := by
  unfold putP
  have h := lowAt_le l key
  cases hh : hasAt l key with
  | true => simp
  | false => simp; omega
theorem impl_put {l : List S76} (key v : ByteArray) (h : Rises l) (hl : l.length ≤ 1000000) : impl_putPair.f l key v = some (putP l key v) := by
  unfold impl_putPair.f putP
  rw [impl_at key h hl, Option.bind_some]
  have hle := lowAt_le l key
  cases hh : hasAt l key with
  | false =>
    rw [if_neg (by simp), if_neg (by simp)]
    unfold impl_Pair_112.f
    rw [if_pos ⟨by simp only; omega, by simp only; omega, rfl, hl⟩, Option.bind_some]
    simp
  | true =>
    have hlt := hasAt_lt hh
    have hk := hasAt_key hh
    rw [if_pos rfl, if_pos rfl, if_pos (by simp only; omega), if_pos (by simp only; omega)]
    simp only [Int.toNat_natCast]
    rw [rdP_at l _ hlt, hk]
theorem set_is {α : Type} (l : List α) (i : Nat) (x : α) (h : i < l.length) : l.set i x = l.take i ++ [x] ++ l.drop (i + 1) := by
  rw [List.set_eq_take_append_cons_drop, if_pos h]
  simp
theorem spec_put (l : List S76) (key v : ByteArray) (hl : l.length ≤ 1000000) : Ev (fun k => spec_l01Put.f k l key v) (putP l key v) := by
  unfold spec_l01Put.f putP
  have hle := lowAt_le l key
  refine Ev.bind (spec_at l key (by omega)) (Ev.pos (by omega) (Ev.pos (by omega) (Ev.bindk rfl ?_)))
  simp only [Int.toNat_natCast]
  by_cases h : lowAt l key < l.length
  · refine Ev.pos (by omega) ?_
    by_cases h2 : (rd_T76 l (lowAt l key)).f0.toList = key.toList
    · have hh : hasAt l key = true := by unfold hasAt; simp [h, h2]
      have e := wrap_at (n := lowAt l key) (by omega)
      refine Ev.pos h2 (Ev.pos (by omega) (Ev.pos (by omega) (Ev.bindk rfl (Ev.bindk rfl (Ev.bindk rfl (Ev.pos (by simp; omega) (Ev.bindk rfl (Ev.pos (by simp; omega) (Ev.bindk rfl (Ev.pos (by simp; omega) (Ev.is ?_)))))))))))
      rw [if_pos hh, e, Int.toNat_natCast, set_is _ _ _ h]
      simp
    · have hh : hasAt l key = false := by unfold hasAt; simp [h2]
      refine Ev.neg h2 (Ev.bindk rfl (Ev.bindk rfl (Ev.pos (by simp; omega) (Ev.bindk rfl (Ev.pos (by simp; omega) (Ev.bindk rfl (Ev.pos (by simp; omega) (Ev.is ?_))))))))
      rw [if_neg (by rw [hh]; simp)]
      simp
  · have hh : hasAt l key = false := by unfold hasAt; simp [h]
    refine Ev.neg (by omega) (Ev.bindk rfl (Ev.bindk rfl (Ev.pos (by simp; omega) (Ev.bindk rfl (Ev.pos (by simp; omega) (Ev.bindk rfl (Ev.pos (by simp; omega) (Ev.is ?_))))))))
    rw [if_neg (by rw [hh]; simp)]
    simp
end Go.Proofs.Ytgcncphdjabjjaa.X
namespace Go.Proofs.Ytgcncphdjabjjaa.X
open Go.RowKit Go.Proofs.YtgcncphdjabjjaaW.PrintWords Go.Proofs.YtgcncphdjabjjaaW.PrintLast Go.Proofs.YtgcncphdjabjjaaW.PrintMore
attribute [local go_sem] xbin_geq xbin_leq xbin_gtr max2_int min2_int max_two min_two max_three min_three max_four min_four
set_option linter.unusedVariables false
set_option linter.unusedSimpArgs false
def Fine (l : List S76) : Prop := (∀ p ∈ l, okP p = true) ∧ Rises l
theorem bne_dec (a b : List UInt8) : (a != b) = !decide (a = b) := by by_cases h : a = b <;> simp [h]
theorem low_below {l : List S76} {key : ByteArray} {j : Nat} (hl : j < l.length) (hj : j < lowAt l key) : Op.bytesLess l[j].f0.toList key.toList = true := by
  have h := List.not_of_lt_findIdx (xs := l) (p := fun p => !Op.bytesLess p.f0.toList key.toList) hj
  simpa using h
theorem low_above {l : List S76} {key : ByteArray} (hr : Rises l) (hh : hasAt l key = false) {j : Nat} (hl : j < l.length) (hj : lowAt l key ≤ j) : Op.bytesLess key.toList l[j].f0.toList = true := by
  have hlt : lowAt l key < l.length := by omega
  have h1 : Op.bytesLess (l[lowAt l key]).f0.toList key.toList = false := by
    have h := List.findIdx_getElem (xs := l) (p := fun p => !Op.bytesLess p.f0.toList key.toList) (w := (show List.findIdx (fun p => !Op.bytesLess p.f0.toList key.toList) l < l.length from hlt))
    have h9 : (!Op.bytesLess (l[lowAt l key]).f0.toList key.toList) = true := h
    simpa using h9
  have h2 : Op.bytesLess key.toList (l[lowAt l key]).f0.toList = true := by
    cases h : Op.bytesLess key.toList (l[lowAt l key]).f0.toList with
    | true => rfl
    | false =>
      have he := bless_eq_of h1 h
      unfold hasAt at hh
      rw [rdP_at l _ hlt, he] at hh
      simp [hlt] at hh
  rcases Nat.eq_or_lt_of_le hj with e | e
  · subst e; exact h2
  · exact bless_trans h2 (rises_lt hr hl e)
theorem rises_put {l : List S76} {key v : ByteArray} (hr : Rises l) : Rises (putP l key v) := by
  unfold putP
  cases hh : hasAt l key with
  | true =>
    rw [if_pos rfl]
    have hk := hasAt_key hh
    have hlt := hasAt_lt hh
    have e : (l.set (lowAt l key) ⟨key, v⟩).map (fun p => p.f0) = l.map (fun p => p.f0) := by
      rw [List.map_set]
      have : key = (l.map fun p => p.f0)[lowAt l key]'(by rw [List.length_map]; exact hlt) := by rw [List.getElem_map]; exact hk.symm
      conv => lhs; rw [show (⟨key, v⟩ : S76).f0 = (l.map fun p => p.f0)[lowAt l key]'(by rw [List.length_map]; exact hlt) from this]
      exact List.set_getElem_self _
    have h1 : (l.map fun p => p.f0).Pairwise (fun a b => Op.bytesLess a.toList b.toList = true) := List.pairwise_map.2 hr
    rw [← e] at h1
    exact List.pairwise_map.1 h1
  | false =>
    rw [if_neg (by simp)]
    have h1 : ∀ x ∈ l.take (lowAt l key), Op.bytesLess x.f0.toList key.toList = true := by
      intro x hx
      obtain ⟨j, hj, rfl⟩ := List.mem_take_iff_getElem.1 hx
      exact low_below (by omega) (by omega)
    have h2 : ∀ x ∈ l.drop (lowAt l key), Op.bytesLess key.toList x.f0.toList = true := by
      intro x hx
      obtain ⟨j, hj, rfl⟩ := List.mem_drop_iff_getElem.1 hx
      exact low_above hr hh (by omega) (by omega)
    unfold Rises
    rw [List.append_assoc, List.pairwise_append]
    refine ⟨List.Pairwise.sublist (List.take_sublist _ _) hr, ?_, ?_⟩
    · rw [List.singleton_append, List.pairwise_cons]
      exact ⟨h2, List.Pairwise.sublist (List.drop_sublist _ _) hr⟩
    · intro a ha b hb
      rw [List.singleton_append] at hb
      rcases List.mem_cons.1 hb with rfl | hb
      · exact h1 a ha
      · exact bless_trans (h1 a ha) (h2 b hb)
theorem fine_put {l : List S76} {key v : ByteArray} (h : Fine l) (hk : keyB key = true) (hv : v.size ≤ 90) : Fine (putP l key v) := by
  refine ⟨fun p hp => ?_, rises_put h.2⟩
  have hn : okP ⟨key, v⟩ = true := by simp [okP, hk, hv]
  unfold putP at hp
  split at hp
  · rcases List.mem_or_eq_of_mem_set hp with hp | rfl
    · exact h.1 p hp
    · exact hn
  · rw [List.append_assoc] at hp
    rcases List.mem_append.1 hp with hp | hp
    · exact h.1 p (List.mem_of_mem_take hp)
    · rcases List.mem_append.1 hp with hp | hp
      · rw [List.mem_singleton.1 hp]; exact hn
      · exact h.1 p (List.mem_of_mem_drop hp)
theorem fine_drop {l : List S76} {key : ByteArray} (h : Fine l) : Fine (dropP l key) := by
  unfold dropP
  split
  · exact ⟨fun p hp => h.1 p (List.mem_of_mem_eraseIdx hp), List.Pairwise.sublist (List.eraseIdx_sublist _ _) h.2⟩
  · exact h
theorem dropP_le (l : List S76) (key : ByteArray) : (dropP l key).length ≤ l.length := by
  unfold dropP
  split
  · exact (List.eraseIdx_sublist _ _).length_le
  · exact Nat.le_refl _
def fitsB (out : List S76) (d : S82) : Bool := if hasAt out d.f0 = d.f3 then (if hasAt out d.f0 = true then decide ((getV out d.f0).toList = d.f1.toList) else true) else false
def stepD (out : List S76) (d : S82) : List S76 := if d.f4 = true then putP out d.f0 d.f2 else dropP out d.f0
def applyL (l0 : List S76) : List S76 → List S82 → List S76 × Int
  | out, [] => if 60 < out.length then (l0, 7) else (out, 0)
  | out, d :: r => if diffOne d = true then (if fitsB out d = true then applyL l0 (stepD out d) r else (l0, 18)) else (l0, 3)
theorem stepD_length (out : List S76) (d : S82) : (stepD out d).length ≤ out.length + 1 := by
  unfold stepD
  have h1 := putP_length out d.f0 d.f2
  have h2 := dropP_le out d.f0
  split
  · rw [h1]; split <;> omega
  · omega
theorem diffOne_is {d : S82} (h : diffOne d = true) : keyB d.f0 = true ∧ d.f1.size ≤ 90 ∧ d.f2.size ≤ 90 ∧ (d.f4 = false → d.f3 = true) := by
  unfold diffOne at h
  cases h3 : d.f3 <;> cases h4 : d.f4 <;> simp [h3, h4] at h ⊢
  · exact ⟨h.1, h.2.1, h.2.2.1⟩
  · exact ⟨h.1, h.2.1, h.2.2.1⟩
  · exact h
theorem diffOne_bool (d : S82) : diffOne d = (okP ⟨d.f0, d.f2⟩ && (decide (d.f1.size ≤ 90) && (if d.f3 = true then (d.f4 || d.f2.toList == ([] : List UInt8)) else (d.f4 && d.f1.toList == ([] : List UInt8))))) := by
  unfold diffOne okP
  cases keyB d.f0 <;> by_cases h1 : d.f1.size ≤ 90 <;> by_cases h2 : d.f2.size ≤ 90 <;> simp [h1, h2]
theorem stepD_fine {out : List S76} {d : S82} (h : Fine out) (hd : diffOne d = true) : Fine (stepD out d) := by
  obtain ⟨h1, _, h2, _⟩ := diffOne_is hd
  unfold stepD
  split
  · exact fine_put h h1 h2
  · exact fine_drop h
theorem applyL_length (l0 : List S76) (r : List S82) : ∀ out, (applyL l0 out r).1.length ≤ l0.length + out.length + r.length := by
  induction r with
  | nil => intro out; unfold applyL; split <;> simp only [List.length_nil] <;> omega
  | cons d r ih =>
    intro out
    unfold applyL
    have h1 := ih (stepD out d)
    have h2 := stepD_length out d
    simp only [List.length_cons]
    split
    · split
      · omega
      · simp only; omega
    · simp only; omega
end Go.Proofs.Ytgcncphdjabjjaa.X
