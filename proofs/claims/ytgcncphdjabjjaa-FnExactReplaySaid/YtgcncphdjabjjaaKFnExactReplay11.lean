import Derived.Test.YtgcncphdjabjjaaKFnExactReplay3
import Derived.Test.YtgcncphdjabjjaaKFnExactReplay4
import Derived.Test.YtgcncphdjabjjaaKFnExactReplay5
import Derived.Test.YtgcncphdjabjjaaKFnExactReplay6
import Derived.Test.YtgcncphdjabjjaaKFnExactReplay7
import Derived.Test.YtgcncphdjabjjaaKFnExactReplay8
import Derived.Test.YtgcncphdjabjjaaKFnExactReplay9
import Derived.Test.YtgcncphdjabjjaaKFnExactReplay10
import Derived.LoopTactic
import Derived.WalkSpells
namespace Go.Proofs.Ytgcncphdjabjjaa.X
open Go.RowKit Go.Proofs.YtgcncphdjabjjaaW.PrintWords Go.Proofs.YtgcncphdjabjjaaW.PrintLast Go.Proofs.YtgcncphdjabjjaaW.PrintMore
attribute [local go_sem] qaC qaD qaE qay qaz qaN qaO qat qau qaA qaB
set_option linter.unusedVariables false
set_option linter.unusedSimpArgs false
def qca.f (l0 : List (S76)) (a1 : ByteArray) (a2 : ByteArray) : Option ((List (S76))) := (qbx.f l0 a1).bind fun bt472 => (if bt472.2 = true then (if 0 ≤ bt472.1 then (if bt472.1 < (l0.length : Int) then (some (l0.set (bt472.1 : Int).toNat (⟨(qap l0 bt472.1).f0, a2⟩ : S76))) else (none)) else (none)) else ((qbX.f l0 bt472.1 (([(⟨a1, a2⟩ : S76)] : List (S76)))).bind fun t478 => (some t478)))
set_option maxHeartbeats 8000000 in
set_option maxRecDepth 100000 in
theorem qca.calls (P0_ : Nat → Prop) (u9000_ : Value) (l0 : List (S76)) (a1 : ByteArray) (a2 : ByteArray) (r : List (S76)) (w0 w : World) (hB : Below w0.heap.size w0 w) (ho0 : Kd.R k76 76 w w0.heap.size P0_ u9000_ l0) (h : qca.f l0 a1 a2 = some r) :
  Calls Try.prog 92 #[u9000_, .string a1, .string a2] w fun e w' => ∃ v0_ : Value, e = .returned (v0_) ∧ Kd.R k76 76 w' w0.heap.size (fun k_ => (P0_ k_ ∨ w.heap.size ≤ k_)) v0_ r ∧ Below w0.heap.size w0 w' ∧ Kept w w' (fun k_ => P0_ k_) := by
 have hu76 := Try.underlying76
 have HO0 := Aside0.mk (show Kd.R k76 76 w w0.heap.size (fun k_ => (P0_ k_ ∨ w.heap.size ≤ k_)) u9000_ l0 from Kd.qbs ho0 (fun k_ hk => (.inl hk)))
 have HK := Aside0.mk (Kept.refl w (fun k_ => P0_ k_))
 have HW0 := Aside0.mk hB.size
 have HB := Aside0.mk hB
 clear hB
 have H : ((qbx.f l0 a1).bind fun bt472 => (if bt472.2 = true then (if 0 ≤ bt472.1 then (if bt472.1 < (l0.length : Int) then (some (l0.set (bt472.1 : Int).toNat (⟨(qap l0 bt472.1).f0, a2⟩ : S76))) else (none)) else (none)) else ((qbX.f l0 bt472.1 (([(⟨a1, a2⟩ : S76)] : List (S76)))).bind fun t478 => (some t478)))) = some r := h
 clear h
 replace H := Option.bind_eq_some_iff.mp H
 obtain ⟨⟨t472, t473⟩, A40, H⟩ := H
 replace H : (if t473 = true then (if 0 ≤ t472 then (if t472 < (l0.length : Int) then (some (l0.set (t472 : Int).toNat (⟨(qap l0 t472).f0, a2⟩ : S76))) else (none)) else (none)) else ((qbX.f l0 t472 (([(⟨a1, a2⟩ : S76)] : List (S76)))).bind fun t478 => (some t478))) = some r := H
 have A4 := Aside0.mk A40
 clear A40
 by_cases c5 : t473 = true
 ·subst c5
  have H1 : (if 0 ≤ t472 then (if t472 < (l0.length : Int) then (some (l0.set (t472 : Int).toNat (⟨(qap l0 t472).f0, a2⟩ : S76))) else (none)) else (none)) = some r := by rw [if_pos rfl] at H; exact H
  clear H
  have H := H1
  clear H1
  by_cases c6 : 0 ≤ t472
  ·rw [if_pos c6] at H
   have c6b0 : decide (0 ≤ t472) = true := decide_eq_true c6
   clear c6
   by_cases c7 : t472 < (l0.length : Int)
   ·rw [if_pos c7] at H
    have c7b0 : decide (t472 < (l0.length : Int)) = true := decide_eq_true c7
    clear c7
    obtain ⟨y474, hy474⟩ : ∃ y_ : List (S76), y_ = (l0.set (t472 : Int).toNat (⟨(qap l0 t472).f0, a2⟩ : S76)) := ⟨_, rfl⟩
    replace H : (some y474) = some r := by first | (rw [hy474]; with_reducible exact H) | (have H2_ := (Option.bind_some _ _).symm.trans H; rw [hy474]; with_reducible exact H2_) | (have H2_ := (Option.bind_some _ _).symm.trans H; with_reducible exact H2_) | with_reducible exact H | (rw [hy474]; exact H) | exact H
    have Ny474 := Aside0.mk hy474
    clear hy474
    obtain rfl := Option.some.inj H
    obtain ⟨Ao9, co9, eo9⟩ := Kd.qbN HO0.out
    subst eo9
    go_enter Try.func92, Try.ntmps92
    go_wp2_with (first | ((with_reducible refine qav (f := 91) rfl ?_); refine qbd (some 12) rfl rfl Try.func91 (by kernel_rfl) rfl #[.slice Ao9 l0.length co9, .string a1] rfl (by (try simp only [List.map_toArray, List.map_cons, List.map_nil]); first | done | rfl | (simp only [List.length_drop, List.length_take]; rfl)) ?_; (with_reducible refine (qbx.calls _ _ l0 a1 t472 true _ ?side1 ?side2 A4.out).mono ?_); (case side1 => repeat (first | exact (Kd.qaM HO0.out).2.2 | (with_reducible refine Kd.qa6 ?_ _) | (with_reducible refine Kd.qa7 ?_ _) | (with_reducible refine Kd.qbj ?_))); (case side2 => exact (Kd.qaM HO0.out).2.1); rintro e w10 ⟨rfl, hb⟩; refine ⟨_, rfl, ?_⟩; have n0_ := Aside0.mk (Kd.qaR (by (with_reducible repeat (first | apply Kd.qaw | apply Kd.qax | apply Kd.qaI)); exact HO0.out) hb); have n1_ := Aside0.mk (Kept.below (S := (fun k_ => P0_ k_)) (by repeat (first | (with_reducible first | exact HK.out | apply Kept.alloc | apply Kept.drewN | apply Kept.drew) | exact HK.out)) hb); have n2_ := Aside0.mk (qag (by repeat (first | (with_reducible first | exact HB.out | apply qac | apply qaa | apply qab) | exact HB.out)) hb); clear HO0; clear HK; clear HB; have HO0 := n0_; have HK := n1_; have HB := n2_; clear n0_ n1_ n2_; (try clear hb); (try clear hb2); (try clear hk); (try clear hi); have p8 : 0 ≤ (t472 : Int) := of_decide_eq_true (by first | (with_reducible assumption) | assumption); have q8 : (t472 : Int) < ((l0.length : Int) : Int) := of_decide_eq_true (by first | (with_reducible assumption) | assumption); obtain ⟨go8, co8, eo8, gb8, gl8, cl8, HG8⟩ := Kd.qdu HO0.out (by omega); (first | cases eo8 | (injection eo8 with ea_ en_ ec_; (first | subst ea_ | (injection ea_ with ea_; subst ea_)); subst ec_; clear en_)); have GB8 := Aside0.mk gb8; have GG8 := Aside0.mk HG8; clear gb8 gl8 HG8; have HMgo8 := Aside0.mk (show (P0_ go8 ∨ w.heap.size ≤ go8) from (HO0.out.1 _ rfl)); obtain ⟨ce8, hcl8, hM8, hcc8, hfr8⟩ := Kd.qcJ HO0.out z76 (t472 : Int) p8 q8; obtain rfl := qcn hM8; have hx8_0 : w10.cell? ⟨go8, (t472 : Int).toNat * 2, none⟩ = some (.string ((qap l0 t472).f0)) := hcc8 0 _ rfl; have hx8_1 : w10.cell? ⟨go8, (t472 : Int).toNat * 2 + 1, none⟩ = some (.string ((qap l0 t472).f1)) := hcc8 1 _ rfl; have hf8_0 : w10.frozen? ⟨go8, (t472 : Int).toNat * 2, none⟩ = false := hfr8 0; have hf8_1 : w10.frozen? ⟨go8, (t472 : Int).toNat * 2 + 1, none⟩ = false := hfr8 1; clear hcl8 hcc8 hfr8 hM8; replace p8 := eq_true p8; replace q8 := eq_true q8; have HX11 := Aside0.mk (show Kd.R k76 76 w10 w0.heap.size (fun k_ => (P0_ k_ ∨ w.heap.size ≤ k_)) (.slice (some ⟨go8, 0, none⟩) l0.length co9) l0 from (by (with_reducible repeat (first | apply Kd.qaw | apply Kd.qax | apply Kd.qaI)); exact HO0.out)); obtain ⟨ce11, hcl11, hM11, hcc11, hfr11⟩ := Kd.qcJ HX11.out z76 (t472 : Int) (of_decide_eq_true (by first | (with_reducible assumption) | assumption)) (by have h_ : (t472 : Int) < ((l0.length : Int) : Int) := of_decide_eq_true (by first | (with_reducible assumption) | assumption); first | exact h_ | (have e_ := (Kd.qaM HO0.out).1; omega) | simpa using h_); obtain rfl := qcn hM11; have HP11 := Kd.qeM HX11.out (t472 : Int) (of_decide_eq_true (by first | (with_reducible assumption) | assumption)) (by have h_ : (t472 : Int) < ((l0.length : Int) : Int) := of_decide_eq_true (by first | (with_reducible assumption) | assumption); first | exact h_ | (have e_ := (Kd.qaM HO0.out).1; omega) | simpa using h_) (seg := [.string a2]) (j := 1) hcl11 hcc11 (show 2 ≤ 2 from by decide) (x' := (⟨(qap l0 t472).f0, a2⟩ : S76)) (qcG _ _ _ (⟨(qap l0 t472).f0, a2⟩ : S76) ) (fun _ hk => hk); have hx11_1 := hcc11 1 _ rfl; (try simp only [show (k76).sz = 2 from rfl, Nat.mul_one, Nat.add_zero] at hx11_1); have hf11_1 := hfr11 1; (try simp only [show (k76).sz = 2 from rfl, Nat.mul_one, Nat.add_zero] at hf11_1); clear hcl11 hcc11 hfr11 hM11) | ((with_reducible refine qcf (t := 9) (p := 20) rfl ?_); refine qb7 (t := 9) (p := 20) (v := ?vo_w12) (w1 := (w10.setCell ⟨go8, (t472 : Int).toNat * 2 + 1, none⟩ (.string a2))) ?hg ?ho ?hn ?hr ?_; (case ho => rfl); (case hg => rfl); (case hn => rfl); (case hr => first | (go_simp; done) | (go_simp; rfl)); intro w12 hw; have hg : w10.grownBy w12 (some go8) := (by rw [hw]; exact HP11.2); have hp_ : Kd.R k76 76 w12 w0.heap.size (fun k_ => (P0_ k_ ∨ w.heap.size ≤ k_)) (.slice (some ⟨go8, 0, none⟩) l0.length co9) y474 := (by rw [hw, Ny474.out]; exact HP11.1); clear HP11; have n0_ := Aside0.mk (hp_); have n1_ := Aside0.mk ((by rw [hw]; exact qah (HB.out) GB8.out : Below w0.heap.size w0 w12)); have n2_ := Aside0.mk (Kept.qcg (S := (fun k_ => P0_ k_)) hg (by repeat (first | (with_reducible first | exact HK.out | apply Kept.alloc | apply Kept.drewN | apply Kept.drew) | exact HK.out)) (fun k_ e_ => (HO0.out.1 k_ e_))); clear HO0; clear HB; clear HK; have HO0 := n0_; have HB := n1_; have HK := n2_; clear n0_ n1_ n2_; clear hg hw hp_))
    go_ret
    exact ⟨_, by first | rfl | (simp [qam, qan] <;> rfl) | (simp [*, qam, qan] <;> rfl), by (with_reducible repeat (first | apply Kd.qaw | apply Kd.qax | apply Kd.qaI)); exact HO0.out, by repeat (first | (with_reducible first | exact HB.out | apply qac | apply qaa | apply qab) | exact HB.out), by repeat (first | (with_reducible first | exact HK.out | apply Kept.alloc | apply Kept.drewN | apply Kept.drew) | exact HK.out)⟩
   ·rw [if_neg c7] at H
    exact absurd H (by simp)
  ·rw [if_neg c6] at H
   exact absurd H (by simp)
 ·replace c5 := Bool.eq_false_iff.mpr c5
  subst c5
  have H1 : ((qbX.f l0 t472 (([(⟨a1, a2⟩ : S76)] : List (S76)))).bind fun t478 => (some t478)) = some r := by rw [if_neg (show ¬ (false = true) by decide)] at H; exact H
  clear H
  have H := H1
  clear H1
  obtain ⟨y475, hy475⟩ : ∃ y_ : List (S76), y_ = (([(⟨a1, a2⟩ : S76)] : List (S76))) := ⟨_, rfl⟩
  replace H : ((qbX.f l0 t472 y475).bind fun t478 => (some t478)) = some r := by first | (rw [hy475]; with_reducible exact H) | (have H2_ := (Option.bind_some _ _).symm.trans H; rw [hy475]; with_reducible exact H2_) | (have H2_ := (Option.bind_some _ _).symm.trans H; with_reducible exact H2_) | with_reducible exact H | (rw [hy475]; exact H) | exact H
  have Ny475 := Aside0.mk hy475
  clear hy475
  replace H := Option.bind_eq_some_iff.mp H
  obtain ⟨t478, A130, H⟩ := H
  replace H : (some t478) = some r := H
  have A13 := Aside0.mk A130
  clear A130
  obtain rfl := Option.some.inj H
  obtain ⟨Ao14, co14, eo14⟩ := Kd.qbN HO0.out
  subst eo14
  go_enter Try.func92, Try.ntmps92
  go_wp2_with (first | ((with_reducible refine qav (f := 91) rfl ?_); refine qbd (some 12) rfl rfl Try.func91 (by kernel_rfl) rfl #[.slice Ao14 l0.length co14, .string a1] rfl (by (try simp only [List.map_toArray, List.map_cons, List.map_nil]); first | done | rfl | (simp only [List.length_drop, List.length_take]; rfl)) ?_; (with_reducible refine (qbx.calls _ _ l0 a1 t472 false _ ?side1 ?side2 A4.out).mono ?_); (case side1 => repeat (first | exact (Kd.qaM HO0.out).2.2 | (with_reducible refine Kd.qa6 ?_ _) | (with_reducible refine Kd.qa7 ?_ _) | (with_reducible refine Kd.qbj ?_))); (case side2 => exact (Kd.qaM HO0.out).2.1); rintro e w15 ⟨rfl, hb⟩; refine ⟨_, rfl, ?_⟩; have n0_ := Aside0.mk (Kd.qaR (by (with_reducible repeat (first | apply Kd.qaw | apply Kd.qax | apply Kd.qaI)); exact HO0.out) hb); have n1_ := Aside0.mk (Kept.below (S := (fun k_ => P0_ k_)) (by repeat (first | (with_reducible first | exact HK.out | apply Kept.alloc | apply Kept.drewN | apply Kept.drew) | exact HK.out)) hb); have n2_ := Aside0.mk (qag (by repeat (first | (with_reducible first | exact HB.out | apply qac | apply qaa | apply qab) | exact HB.out)) hb); clear HO0; clear HK; clear HB; have HO0 := n0_; have HK := n1_; have HB := n2_; clear n0_ n1_ n2_; (try clear hb); (try clear hb2); (try clear hk); (try clear hi)) | ((with_reducible refine qaH (N := 27) rfl ?_); refine Kd.qdW k76 _ 76 ?hg (N := 27) ?hd (xs := ([(⟨a1, a2⟩ : S76)] : List (S76))) (inner := [.string a1, .string a2]) (ok := fun _ => True) (okp := fun _ => True) ?hr ?hp (fun _ hk => hk) trivial (Below.refl _ _) (Nat.le_refl _) (by simp) ?_; (case hd => rfl); (case hg => rfl); (case hr => first | (go_simp; done) | (go_simp; rfl)); (case hp => exact (Reps.c2 (show Kd.M k76 _ _ _ (⟨a1, a2⟩ : S76) [.string a1, .string a2] from (qcG _ _ _ (⟨a1, a2⟩ : S76) )) (Reps.none _ _))); intro v476 w16 ho17 hb hg_ hnew_; clear hg_ hnew_; (first | rw [← Ny475.out] at ho17 | (simp only [Int.reduceToNat] at ho17; rw [← Ny475.out] at ho17)); have n0_ := Aside0.mk (Kd.qch (by (with_reducible repeat (first | apply Kd.qaw | apply Kd.qax | apply Kd.qaI)); exact HO0.out) (Kd.qcQ ho17) hb); have n1_ := Aside0.mk (Kd.qbp (Kd.qc7 (Kd.qfR (M := fun k_ => (P0_ k_ ∨ w.heap.size ≤ k_)) ho17 (by first | exact HK.out.1 | exact (show Kept w _ (fun k_ => P0_ k_) from by repeat (first | (with_reducible first | exact HK.out | apply Kept.alloc | apply Kept.drewN | apply Kept.drew) | exact HK.out)).1) (fun k_ h_ => .inr h_)) (Kd.R_lt (by (with_reducible repeat (first | apply Kd.qaw | apply Kd.qax | apply Kd.qaI)); exact HO0.out))) (qak (by repeat (first | (with_reducible first | exact HB.out | apply qac | apply qaa | apply qab) | exact HB.out)))); have n2_ := Aside0.mk (Kept.below (S := (fun k_ => P0_ k_)) (by repeat (first | (with_reducible first | exact HK.out | apply Kept.alloc | apply Kept.drewN | apply Kept.drew) | exact HK.out)) hb); have n3_ := Aside0.mk (qag (by repeat (first | (with_reducible first | exact HB.out | apply qac | apply qaa | apply qab) | exact HB.out)) hb); clear HO0; clear HK; clear HB; have HO0 := n0_; have HO477 := n1_; have HK := n2_; have HB := n3_; clear n0_ n1_ n2_ n3_; clear hb ho17; obtain ⟨Ao18, co18, eo18⟩ := Kd.qbN HO477.out; subst eo18) | ((with_reducible refine qav (f := 112) rfl ?_); refine qbd (some 28) rfl rfl Try.func112 (by kernel_rfl) rfl #[.slice Ao14 l0.length co14, .int .i64 t472, .slice Ao18 y475.length co18] rfl (by (try simp only [List.map_toArray, List.map_cons, List.map_nil]); first | done | rfl | (simp only [List.length_drop, List.length_take]; rfl)) ?_; (with_reducible refine (qbX.calls (fun k_ => some k_ = (.slice Ao14 l0.length co14 : Value).ownBlock) (.slice Ao14 l0.length co14) l0 t472 (fun k_ => some k_ = (.slice Ao18 y475.length co18 : Value).ownBlock) (.slice Ao18 y475.length co18) y475 t478 w0 _ ?side1 ?side2 ?side3 ?side4 ?side5 A13.out).mono ?_); (case side1 => repeat (first | (with_reducible first | exact HB.out | apply qac | apply qaa | apply qab) | exact HB.out)); (case side2 => exact Kd.qcF rfl HO0.out); (case side3 => exact fun k_ e_ => (HO0.out.1 k_ e_.symm).2); (case side4 => exact Kd.qcF rfl HO477.out); (case side5 => exact fun k_ e_ => (HO477.out.1 k_ e_.symm).2); rintro e w19 ⟨v479, rfl, ho0, hb, hkp⟩; refine ⟨_, rfl, ?_⟩; have n0_ := Aside0.mk (Kd.qbs (ok' := fun k_ => (P0_ k_ ∨ w.heap.size ≤ k_)) ho0 (fun k_ hk_ => Or.elim hk_ (fun hs_ => Or.elim hs_ (fun hs_ => (HO0.out.1 k_ (hs_).symm).1) (fun hs_ => (HO477.out.1 k_ (hs_).symm).1.1)) (fun hn_ => (.inr (Nat.le_trans (by first | exact HK.out.1 | exact (show Kept w _ (fun k_ => P0_ k_) from by repeat (first | (with_reducible first | exact HK.out | apply Kept.alloc | apply Kept.drewN | apply Kept.drew) | exact HK.out)).1) hn_))))); have n1_ := Aside0.mk (Kept.qfQ (S := (fun k_ => P0_ k_)) (by repeat (first | (with_reducible first | exact HK.out | apply Kept.alloc | apply Kept.drewN | apply Kept.drew) | exact HK.out)) hkp (fun k_ hs_ => Or.elim hs_ (fun e_ => (fun e_ => (HO0.out.1 k_ e_.symm).1) e_) (fun e_ => (fun e_ => (HO477.out.1 k_ e_.symm).1.1) e_))); have n2_ := Aside0.mk (hb); clear HK; clear HB; clear HO0; clear HO477; have HO480 := n0_; have HK := n1_; have HB := n2_; clear n0_ n1_ n2_; (try clear hb); (try clear hkp); (try clear ho0)))
  go_ret
  exact ⟨_, by first | rfl | (simp [qam, qan] <;> rfl) | (simp [*, qam, qan] <;> rfl), by (with_reducible repeat (first | apply Kd.qaw | apply Kd.qax | apply Kd.qaI)); exact HO480.out, by repeat (first | (with_reducible first | exact HB.out | apply qac | apply qaa | apply qab) | exact HB.out), by repeat (first | (with_reducible first | exact HK.out | apply Kept.alloc | apply Kept.drewN | apply Kept.drew) | exact HK.out)⟩
end Go.Proofs.Ytgcncphdjabjjaa.X
namespace Go.Proofs.Ytgcncphdjabjjaa.X
open Go.RowKit Go.Proofs.YtgcncphdjabjjaaW.PrintWords Go.Proofs.YtgcncphdjabjjaaW.PrintLast Go.Proofs.YtgcncphdjabjjaaW.PrintMore
attribute [local go_sem] qaC qaD qaE qay qaz qaN qaO qat qau qaA qaB
set_option linter.unusedVariables false
set_option linter.unusedSimpArgs false
def putP (l : List S76) (key v : ByteArray) : List S76 := if hasAt l key = true then l.set (lowAt l key) ⟨key, v⟩ else l.take (lowAt l key) ++ [⟨key, v⟩] ++ l.drop (lowAt l key)
theorem qfl (l : List S76) (key : ByteArray) : lowAt l key ≤ l.length := by
 unfold lowAt
 exact List.findIdx_le_length
theorem qgy (l : List S76) (key v : ByteArray) : (putP l key v).length = l.length + (if hasAt l key = true then 0 else 1) := by
 unfold putP
 have h := qfl l key
 cases hh : hasAt l key with
 | true => simp
 | false => simp; omega
theorem impl_put {l : List S76} (key v : ByteArray) (h : Rises l) (hl : l.length ≤ 1000000) : qca.f l key v = some (putP l key v) := by
 unfold qca.f putP
 rw [qgv key h hl, Option.bind_some]
 have hle := qfl l key
 cases hh : hasAt l key with
 | false =>
  rw [if_neg (by simp), if_neg (by simp)]
  unfold qbX.f
  rw [if_pos ⟨by simp only; omega, by simp only; omega, rfl, hl⟩, Option.bind_some]
  simp
 | true =>
  have hlt := qdJ hh
  have hk := qeC hh
  rw [if_pos rfl, if_pos rfl, if_pos (by simp only; omega), if_pos (by simp only; omega)]
  simp only [Int.toNat_natCast]
  rw [qhR l _ hlt, hk]
theorem set_is {α : Type} (l : List α) (i : Nat) (x : α) (h : i < l.length) : l.set i x = l.take i ++ [x] ++ l.drop (i + 1) := by
 rw [List.set_eq_take_append_cons_drop, if_pos h]
 simp
theorem qgR (l : List S76) (key v : ByteArray) (hl : l.length ≤ 1000000) : Ev (fun k => qcc.f k l key v) (putP l key v) := by
 unfold qcc.f putP
 have hle := qfl l key
 refine Ev.bind (qhO l key (by omega)) (Ev.pos (by omega) (Ev.pos (by omega) (Ev.bindk rfl ?_)))
 simp only [Int.toNat_natCast]
 by_cases h : lowAt l key < l.length
 ·refine Ev.pos (by omega) ?_
  by_cases h2 : (qap l (lowAt l key)).f0.toList = key.toList
  ·have hh : hasAt l key = true := by unfold hasAt; simp [h, h2]
   have e := qci (n := lowAt l key) (by omega)
   refine Ev.pos h2 (Ev.pos (by omega) (Ev.pos (by omega) (Ev.bindk rfl (Ev.bindk rfl (Ev.bindk rfl (Ev.pos (by simp; omega) (Ev.bindk rfl (Ev.pos (by simp; omega) (Ev.bindk rfl (Ev.pos (by simp; omega) (Ev.is ?_)))))))))))
   rw [if_pos hh, e, Int.toNat_natCast, set_is _ _ _ h]
   simp
  ·have hh : hasAt l key = false := by unfold hasAt; simp [h2]
   refine Ev.neg h2 (Ev.bindk rfl (Ev.bindk rfl (Ev.pos (by simp; omega) (Ev.bindk rfl (Ev.pos (by simp; omega) (Ev.bindk rfl (Ev.pos (by simp; omega) (Ev.is ?_))))))))
   rw [if_neg (by rw [hh]; simp)]
   simp
 ·have hh : hasAt l key = false := by unfold hasAt; simp [h]
  refine Ev.neg (by omega) (Ev.bindk rfl (Ev.bindk rfl (Ev.pos (by simp; omega) (Ev.bindk rfl (Ev.pos (by simp; omega) (Ev.bindk rfl (Ev.pos (by simp; omega) (Ev.is ?_))))))))
  rw [if_neg (by rw [hh]; simp)]
  simp
end Go.Proofs.Ytgcncphdjabjjaa.X
namespace Go.Proofs.Ytgcncphdjabjjaa.X
open Go.RowKit Go.Proofs.YtgcncphdjabjjaaW.PrintWords Go.Proofs.YtgcncphdjabjjaaW.PrintLast Go.Proofs.YtgcncphdjabjjaaW.PrintMore
attribute [local go_sem] qaC qaD qaE qay qaz qaN qaO qat qau qaA qaB
set_option linter.unusedVariables false
set_option linter.unusedSimpArgs false
def Fine (l : List S76) : Prop := (∀ p ∈ l, okP p = true) ∧ Rises l
theorem bne_dec (a b : List UInt8) : (a != b) = !decide (a = b) := by by_cases h : a = b <;> simp [h]
theorem qhU {l : List S76} {key : ByteArray} {j : Nat} (hl : j < l.length) (hj : j < lowAt l key) : Op.bytesLess l[j].f0.toList key.toList = true := by
 have h := List.not_of_lt_findIdx (xs := l) (p := fun p => !Op.bytesLess p.f0.toList key.toList) hj
 simpa using h
theorem qhV {l : List S76} {key : ByteArray} (hr : Rises l) (hh : hasAt l key = false) {j : Nat} (hl : j < l.length) (hj : lowAt l key ≤ j) : Op.bytesLess key.toList l[j].f0.toList = true := by
 have hlt : lowAt l key < l.length := by omega
 have h1 : Op.bytesLess (l[lowAt l key]).f0.toList key.toList = false := by
  have h := List.findIdx_getElem (xs := l) (p := fun p => !Op.bytesLess p.f0.toList key.toList) (w := (show List.findIdx (fun p => !Op.bytesLess p.f0.toList key.toList) l < l.length from hlt))
  have h9 : (!Op.bytesLess (l[lowAt l key]).f0.toList key.toList) = true := h
  simpa using h9
 have h2 : Op.bytesLess key.toList (l[lowAt l key]).f0.toList = true := by
  cases h : Op.bytesLess key.toList (l[lowAt l key]).f0.toList with
  | true => rfl
  | false =>
   have he := qgq h1 h
   unfold hasAt at hh
   rw [qhR l _ hlt, he] at hh
   simp [hlt] at hh
 rcases Nat.eq_or_lt_of_le hj with e | e
 ·subst e; exact h2
 ·exact qdb h2 (qd1 hr hl e)
theorem qhW {l : List S76} {key v : ByteArray} (hr : Rises l) : Rises (putP l key v) := by
 unfold putP
 cases hh : hasAt l key with
 | true =>
  rw [if_pos rfl]
  have hk := qeC hh
  have hlt := qdJ hh
  have e : (l.set (lowAt l key) ⟨key, v⟩).map (fun p => p.f0) = l.map (fun p => p.f0) := by
   rw [List.map_set]
   have : key = (l.map fun p => p.f0)[lowAt l key]'(by rw [List.length_map]; exact hlt) := by rw [List.getElem_map]; exact hk.symm
   conv => lhs; rw [show (⟨key, v⟩ : S76).f0 = (l.map fun p => p.f0)[lowAt l key]'(by rw [List.length_map]; exact hlt) from this]
   exact List.set_getElem_self _
  have h1 : (l.map fun p => p.f0).Pairwise (fun a b => Op.bytesLess a.toList b.toList = true) := List.pairwise_map.2 hr
  rw [← e] at h1
  exact List.pairwise_map.1 h1
 | false =>
  rw [if_neg (by simp)]
  have h1 : ∀ x ∈ l.take (lowAt l key), Op.bytesLess x.f0.toList key.toList = true := by
   intro x hx
   obtain ⟨j, hj, rfl⟩ := List.mem_take_iff_getElem.1 hx
   exact qhU (by omega) (by omega)
  have h2 : ∀ x ∈ l.drop (lowAt l key), Op.bytesLess key.toList x.f0.toList = true := by
   intro x hx
   obtain ⟨j, hj, rfl⟩ := List.mem_drop_iff_getElem.1 hx
   exact qhV hr hh (by omega) (by omega)
  unfold Rises
  rw [List.append_assoc, List.pairwise_append]
  refine ⟨List.Pairwise.sublist (List.take_sublist _ _) hr, ?_, ?_⟩
  ·rw [List.singleton_append, List.pairwise_cons]
   exact ⟨h2, List.Pairwise.sublist (List.drop_sublist _ _) hr⟩
  ·intro a ha b hb
   rw [List.singleton_append] at hb
   rcases List.mem_cons.1 hb with rfl | hb
   ·exact h1 a ha
   ·exact qdb (h1 a ha) (h2 b hb)
theorem fine_put {l : List S76} {key v : ByteArray} (h : Fine l) (hk : keyB key = true) (hv : v.size ≤ 90) : Fine (putP l key v) := by
 refine ⟨fun p hp => ?_, qhW h.2⟩
 have hn : okP ⟨key, v⟩ = true := by simp [okP, hk, hv]
 unfold putP at hp
 split at hp
 ·rcases List.mem_or_eq_of_mem_set hp with hp | rfl
  ·exact h.1 p hp
  ·exact hn
 ·rw [List.append_assoc] at hp
  rcases List.mem_append.1 hp with hp | hp
  ·exact h.1 p (List.mem_of_mem_take hp)
  ·rcases List.mem_append.1 hp with hp | hp
   ·rw [List.mem_singleton.1 hp]; exact hn
   ·exact h.1 p (List.mem_of_mem_drop hp)
theorem qhX {l : List S76} {key : ByteArray} (h : Fine l) : Fine (dropP l key) := by
 unfold dropP
 split
 ·exact ⟨fun p hp => h.1 p (List.mem_of_mem_eraseIdx hp), List.Pairwise.sublist (List.eraseIdx_sublist _ _) h.2⟩
 ·exact h
theorem dropP_le (l : List S76) (key : ByteArray) : (dropP l key).length ≤ l.length := by
 unfold dropP
 split
 ·exact (List.eraseIdx_sublist _ _).length_le
 ·exact Nat.le_refl _
def fitsB (out : List S76) (d : S82) : Bool := if hasAt out d.f0 = d.f3 then (if hasAt out d.f0 = true then decide ((getV out d.f0).toList = d.f1.toList) else true) else false
def stepD (out : List S76) (d : S82) : List S76 := if d.f4 = true then putP out d.f0 d.f2 else dropP out d.f0
def qbI (l0 : List S76) : List S76 → List S82 → List S76 × Int
 | out, [] => if 60 < out.length then (l0, 7) else (out, 0)
 | out, d :: r => if qbU d = true then (if fitsB out d = true then qbI l0 (stepD out d) r else (l0, 18)) else (l0, 3)
theorem qcU (out : List S76) (d : S82) : (stepD out d).length ≤ out.length + 1 := by
 unfold stepD
 have h1 := qgy out d.f0 d.f2
 have h2 := dropP_le out d.f0
 split
 ·rw [h1]; split <;> omega
 ·omega
theorem qg4 {d : S82} (h : qbU d = true) : keyB d.f0 = true ∧ d.f1.size ≤ 90 ∧ d.f2.size ≤ 90 ∧ (d.f4 = false → d.f3 = true) := by
 unfold qbU at h
 cases h3 : d.f3 <;> cases h4 : d.f4 <;> simp [h3, h4] at h ⊢
 ·exact ⟨h.1, h.2.1, h.2.2.1⟩
 ·exact ⟨h.1, h.2.1, h.2.2.1⟩
 ·exact h
theorem qf4 (d : S82) : qbU d = (okP ⟨d.f0, d.f2⟩ && (decide (d.f1.size ≤ 90) && (if d.f3 = true then (d.f4 || d.f2.toList == ([] : List UInt8)) else (d.f4 && d.f1.toList == ([] : List UInt8))))) := by
 unfold qbU okP
 cases keyB d.f0 <;> by_cases h1 : d.f1.size ≤ 90 <;> by_cases h2 : d.f2.size ≤ 90 <;> simp [h1, h2]
theorem qdo {out : List S76} {d : S82} (h : Fine out) (hd : qbU d = true) : Fine (stepD out d) := by
 obtain ⟨h1, _, h2, _⟩ := qg4 hd
 unfold stepD
 split
 ·exact fine_put h h1 h2
 ·exact qhX h
theorem qfm (l0 : List S76) (r : List S82) : ∀ out, (qbI l0 out r).1.length ≤ l0.length + out.length + r.length := by
 induction r with
 | nil => intro out; unfold qbI; split <;> simp only [List.length_nil] <;> omega
 | cons d r ih =>
  intro out
  unfold qbI
  have h1 := ih (stepD out d)
  have h2 := qcU out d
  simp only [List.length_cons]
  split
  ·split
   ·omega
   ·simp only; omega
  ·simp only; omega
theorem qgz (l0 : List S76) (h0 : Fine l0) (r : List S82) : ∀ out, Fine out → Fine (qbI l0 out r).1 := by
 induction r with
 | nil => intro out h; unfold qbI; split <;> assumption
 | cons d r ih =>
  intro out h
  unfold qbI
  split
  ·rename_i hd
   split
   ·exact ih _ (qdo h hd)
   ·exact h0
  ·exact h0
end Go.Proofs.Ytgcncphdjabjjaa.X
namespace Go.Proofs.Ytgcncphdjabjjaa.X
open Go.RowKit Go.Proofs.YtgcncphdjabjjaaW.PrintWords Go.Proofs.YtgcncphdjabjjaaW.PrintLast Go.Proofs.YtgcncphdjabjjaaW.PrintMore
attribute [local go_sem] qaC qaD qaE qay qaz qaN qaO qat qau qaA qaB
set_option linter.unusedVariables false
set_option linter.unusedSimpArgs false
instance fineDec (l : List S76) : Decidable (Fine l) := by unfold Fine; infer_instance
def qbY.f (l0 : List S76) (l1 : List S82) : Option (List S76 × Int) := if Fine l0 ∧ l0.length ≤ 100000 ∧ l1.length ≤ 100000 then some (qbI l0 l0 l1) else none
set_option maxHeartbeats 8000000 in
set_option maxRecDepth 100000 in
theorem qbY.calls (P0_ : Nat → Prop) (A0 : Option Addr) (c0 : Nat) (l0 : List S76) (A1 : Option Addr) (c1 : Nat) (l1 : List S82) (r1 : List S76) (r2 : Int) (w : World) (hs0 : Kd.V k76 76 w w.heap.size (fun k_ => P0_ k_) (.slice A0 l0.length c0) l0) (hr1 : Kd.C k82 w A1 l1.length l1) (hc1 : l1.length ≤ c1) (h : qbY.f l0 l1 = some (r1, r2)) :
  Calls Try.prog 61 #[.slice A0 l0.length c0, .slice A1 l1.length c1] w fun e w' => ∃ v0_ : Value, e = .returned (.tuple #[v0_, .int .i64 r2]) ∧ Kd.V k76 76 w' w.heap.size (fun k_ => (P0_ k_ ∨ w.heap.size ≤ k_)) v0_ r1 ∧ Below w.heap.size w w' := by
 unfold qbY.f at h
 by_cases hs : Fine l0 ∧ l0.length ≤ 100000 ∧ l1.length ≤ 100000
 ·rw [if_pos hs] at h
  have h := Option.some.inj h
  obtain ⟨hf0, hl0, hl1⟩ := hs
  have hu := Try.underlying82
  have hu2 := Try.underlying76
  have HV0 := Aside0.mk (show Kd.V k76 76 w w.heap.size (fun k_ => (P0_ k_ ∨ w.heap.size ≤ k_)) (.slice A0 l0.length c0) l0 from Kd.qe2 hs0 (fun k_ hk => .inl hk))
  have HR := Aside0.mk hr1
  have HE := Aside0.mk h
  have HF0 := Aside0.mk hf0
  clear hs0 hr1 h hf0
  go_enter Try.func61, Try.ntmps61
  go_wp2_with fail
  go_loopw [6, 7] (fun v6 v7 wr => ∃ (i : Nat) (out : List S76), i ≤ l1.length ∧ v7 = .int .i64 i ∧ out.length + (l1.length - i) ≤ 200000 ∧ Aside0 (Fine out) ∧ Aside0 (qbI l0 out (l1.drop i) = (r1, r2)) ∧ Aside0 (Kd.V k76 76 wr w.heap.size (fun k_ => (P0_ k_ ∨ w.heap.size ≤ k_)) v6 out) ∧ Aside0 (Below w.heap.size w wr)) (fun _ v7 _ => l1.length - (intOf v7).toNat)
  case atStart => exact ⟨0, l0, Nat.zero_le _, rfl, by omega, HF0, ⟨by rw [List.drop_zero]; exact HE.out⟩, HV0, ⟨Below.refl _ _⟩⟩
  case round =>
   obtain ⟨i, out, hi, rfl, hlo, HF, HA, HV, HB⟩ := hrel
   obtain ⟨A6, c6, rfl⟩ := Kd.qfe HV.out
   by_cases hlt : i < l1.length
   ·have c1 : decide ((i : Int) < (l1.length : Int)) = true := decide_eq_true (by omega)
    have p1 : 0 ≤ (i : Int) := by omega
    have q1 : (i : Int) < (l1.length : Int) := by omega
    obtain ⟨ad, e, hx0, hx1, hx2, hx3, hx4⟩ := qc9 HR.out (i : Int) p1 q1
    cases e
    have et : qaf l1 (i : Int) = l1[i] := by unfold qaf; rw [Int.toNat_natCast]; simp [List.getD_eq_getElem?_getD, hlt]
    rw [et, Int.toNat_natCast] at hx0 hx1 hx2 hx3 hx4
    have hdr : l1.drop i = l1[i] :: l1.drop (i + 1) := List.drop_eq_getElem_cons hlt
    replace hx0 := (HB.out.cell (World.block_lt_of_cell? w _ hx0)).trans hx0
    replace hx1 := (HB.out.cell (World.block_lt_of_cell? w _ hx1)).trans hx1
    replace hx2 := (HB.out.cell (World.block_lt_of_cell? w _ hx2)).trans hx2
    replace hx3 := (HB.out.cell (World.block_lt_of_cell? w _ hx3)).trans hx3
    replace hx4 := (HB.out.cell (World.block_lt_of_cell? w _ hx4)).trans hx4
    clear et
    rw [hdr] at HA
    clear hdr
    generalize l1[i] = d at hx0 hx1 hx2 hx3 hx4 HA
    have hd1 := qf4 d
    obtain ⟨dk, dold, dnew, dwas, dis⟩ := d
    simp only at hx0 hx1 hx2 hx3 hx4 hd1
    replace p1 := eq_true p1
    replace q1 := eq_true q1
    obtain ⟨K, hK⟩ := spec_get out dk (by omega)
    have HK := Aside0.mk (hK K (Nat.le_refl _))
    clear hK
    have HD := Aside0.mk hd1
    clear hd1
    go_wp2_with fail
    have hv1 := Kd.qd6 HV.out (.cells #[.string dk, .string dold, .string dnew, .bool dwas, .bool dis] 82 (0, 0))
    obtain ⟨_, hle6, hC6⟩ := Kd.qcX hv1
    refine (qcj.calls K _ _ out dk (getV out dk) (hasAt out dk) _ hC6 hle6 HK.out).mono ?_
    rintro e w1 ⟨rfl, hd⟩
    have hblk : w1.heap[wr.heap.size]? = some (.cells #[.string dk, .string dold, .string dnew, .bool dwas, .bool dis] 82 (0, 0)) := qao (qc0 wr (.cells #[.string dk, .string dold, .string dnew, .bool dwas, .bool dis] 82 (0, 0))) hd.below
    have HBK := Aside0.mk hblk
    have HB1 := Aside0.mk (show Below wr.heap.size wr w1 from qag ((Below.refl _ wr).alloc (Nat.le_refl _) (.cells #[.string dk, .string dold, .string dnew, .bool dwas, .bool dis] 82 (0, 0))) hd.below)
    have b0 := qad hblk 0
    have b1 := qad hblk 1
    have b2 := qad hblk 2
    have b3 := qad hblk 3
    have b4 := qad hblk 4
    simp only [List.getElem?_toArray, List.getElem?_cons_zero, List.getElem?_cons_succ] at b0 b1 b2 b3 b4
    clear hd hv1 hle6 hC6 hblk hx0 hx1 hx2 hx3 hx4
    go_upto_region 7 with fail
    go_cut [71] (fun v71 wc => v71 = .bool (!(qbU ⟨dk, dold, dnew, dwas, dis⟩)) ∧ Aside0 (Below wr.heap.size wr wc) ∧ Aside0 (wc.heap[wr.heap.size]? = some (.cells #[.string dk, .string dold, .string dnew, .bool dwas, .bool dis] 82 (0, 0))))
    case first =>
     have hsp := qeA ⟨dk, dnew⟩
     simp only at hsp
     generalize hok : okP ⟨dk, dnew⟩ = ok at hsp HD
     have HSP := Aside0.mk hsp
     clear hsp hok
     cases ok with
     | false =>
      go_wp2_with fail
      refine (qbr.calls dk dnew false _ HSP.out).mono ?_
      rintro e w2 ⟨rfl, hb2⟩
      have HB2 := Aside0.mk (qag HB1.out hb2)
      have HBK2 := Aside0.mk (qao HBK.out hb2)
      clear hb2 b0 b1 b2 b3 b4
      go_wp2_with fail
      go_meet
      case rel => exact ⟨by rw [HD.out]; rfl, HB2, HBK2⟩
     | true =>
      by_cases hsz : dold.size ≤ 90
      ·have hz1 : decide (90 < (dold.size : Int)) = false := decide_eq_false (by omega)
       have hz2 := decide_eq_true hsz
       cases dwas with
       | true =>
        cases dis with
        | true =>
         go_wp2_with fail
         refine (qbr.calls dk dnew true _ HSP.out).mono ?_
         rintro e w2 ⟨rfl, hb2⟩
         have HB2 := Aside0.mk (qag HB1.out hb2)
         have HBK2 := Aside0.mk (qao HBK.out hb2)
         clear hb2 b0 b1 b2 b3 b4
         have b0 := qad HBK2.out 0
         have b1 := qad HBK2.out 1
         have b2 := qad HBK2.out 2
         have b3 := qad HBK2.out 3
         have b4 := qad HBK2.out 4
         simp only [List.getElem?_toArray, List.getElem?_cons_zero, List.getElem?_cons_succ] at b0 b1 b2 b3 b4
         go_wp2_with fail
         go_meet
         case rel => exact ⟨by rw [HD.out, hz2]; rfl, HB2, HBK2⟩
        | false =>
         go_wp2_with fail
         refine (qbr.calls dk dnew true _ HSP.out).mono ?_
         rintro e w2 ⟨rfl, hb2⟩
         have HB2 := Aside0.mk (qag HB1.out hb2)
         have HBK2 := Aside0.mk (qao HBK.out hb2)
         clear hb2 b0 b1 b2 b3 b4
         have b0 := qad HBK2.out 0
         have b1 := qad HBK2.out 1
         have b2 := qad HBK2.out 2
         have b3 := qad HBK2.out 3
         have b4 := qad HBK2.out 4
         simp only [List.getElem?_toArray, List.getElem?_cons_zero, List.getElem?_cons_succ] at b0 b1 b2 b3 b4
         go_wp2_with fail
         go_meet
         case rel => exact ⟨by rw [HD.out, hz2]; cases hq : dnew.toList <;> simp [hq], HB2, HBK2⟩
       | false =>
        cases dis with
        | false =>
         go_wp2_with fail
         refine (qbr.calls dk dnew true _ HSP.out).mono ?_
         rintro e w2 ⟨rfl, hb2⟩
         have HB2 := Aside0.mk (qag HB1.out hb2)
         have HBK2 := Aside0.mk (qao HBK.out hb2)
         clear hb2 b0 b1 b2 b3 b4
         have b0 := qad HBK2.out 0
         have b1 := qad HBK2.out 1
         have b2 := qad HBK2.out 2
         have b3 := qad HBK2.out 3
         have b4 := qad HBK2.out 4
         simp only [List.getElem?_toArray, List.getElem?_cons_zero, List.getElem?_cons_succ] at b0 b1 b2 b3 b4
         go_wp2_with fail
         go_meet
         case rel => exact ⟨by rw [HD.out, hz2]; rfl, HB2, HBK2⟩
        | true =>
         by_cases he : dold.toList = ([] : List UInt8)
         ·have e1 : (dold.toList != ([] : List UInt8)) = false := by simp [he]
          have e2 : (dold.toList == ([] : List UInt8)) = true := by simp [he]
          go_wp2_with fail
          refine (qbr.calls dk dnew true _ HSP.out).mono ?_
          rintro e w2 ⟨rfl, hb2⟩
          have HB2 := Aside0.mk (qag HB1.out hb2)
          have HBK2 := Aside0.mk (qao HBK.out hb2)
          clear hb2 b0 b1 b2 b3 b4
          have b0 := qad HBK2.out 0
          have b1 := qad HBK2.out 1
          have b2 := qad HBK2.out 2
          have b3 := qad HBK2.out 3
          have b4 := qad HBK2.out 4
          simp only [List.getElem?_toArray, List.getElem?_cons_zero, List.getElem?_cons_succ] at b0 b1 b2 b3 b4
          go_wp2_with fail
          go_meet
          case rel => exact ⟨by rw [HD.out, hz2]; simp [he], HB2, HBK2⟩
         ·have e1 : (dold.toList != ([] : List UInt8)) = true := by simp [he]
          have e2 : (dold.toList == ([] : List UInt8)) = false := by simp [he]
          go_wp2_with fail
          refine (qbr.calls dk dnew true _ HSP.out).mono ?_
          rintro e w2 ⟨rfl, hb2⟩
          have HB2 := Aside0.mk (qag HB1.out hb2)
          have HBK2 := Aside0.mk (qao HBK.out hb2)
          clear hb2 b0 b1 b2 b3 b4
          have b0 := qad HBK2.out 0
          have b1 := qad HBK2.out 1
          have b2 := qad HBK2.out 2
          have b3 := qad HBK2.out 3
          have b4 := qad HBK2.out 4
          simp only [List.getElem?_toArray, List.getElem?_cons_zero, List.getElem?_cons_succ] at b0 b1 b2 b3 b4
          go_wp2_with fail
          go_meet
          case rel => exact ⟨by rw [HD.out, hz2]; simp [he], HB2, HBK2⟩
      ·have hz1 : decide (90 < (dold.size : Int)) = true := decide_eq_true (by omega)
       go_wp2_with fail
       refine (qbr.calls dk dnew true _ HSP.out).mono ?_
       rintro e w2 ⟨rfl, hb2⟩
       have HB2 := Aside0.mk (qag HB1.out hb2)
       have HBK2 := Aside0.mk (qao HBK.out hb2)
       clear hb2 b0 b1 b2 b3 b4
       have b1 := qad HBK2.out 1
       simp only [List.getElem?_toArray, List.getElem?_cons_zero, List.getElem?_cons_succ] at b1
       go_wp2_with fail
       go_meet
       case rel => exact ⟨by rw [HD.out, decide_eq_false hsz]; rfl, HB2, HBK2⟩
    case rest =>
     obtain ⟨rfl, HBc, HBKc⟩ := hcut
     have HBw := Aside0.mk (qag HB.out HBc.out)
     have b0 := qad HBKc.out 0
     have b1 := qad HBKc.out 1
     have b2 := qad HBKc.out 2
     have b3 := qad HBKc.out 3
     have b4 := qad HBKc.out 4
     simp only [List.getElem?_toArray, List.getElem?_cons_zero, List.getElem?_cons_succ] at b0 b1 b2 b3 b4
     clear HD HK HB1 HBK
     cases hone : qbU ⟨dk, dold, dnew, dwas, dis⟩ with
     | false =>
      go_wp2_with fail
      go_ret2
      have ha := HA.out
      unfold qbI at ha
      rw [if_neg (by rw [hone]; decide)] at ha
      simp only [Prod.mk.injEq] at ha
      obtain ⟨rfl, rfl⟩ := ha
      exact ⟨_, rfl, Kd.qc8 HV0.out HBw.out, HBw.out⟩
     | true =>
      cases hh : hasAt out dk with
      | false =>
       cases dwas with
       | true =>
        go_wp2_with fail
        go_ret2
        have ha := HA.out
        unfold qbI at ha
        rw [if_pos hone, if_neg (by simp [fitsB, hh])] at ha
        simp only [Prod.mk.injEq] at ha
        obtain ⟨rfl, rfl⟩ := ha
        exact ⟨_, rfl, Kd.qc8 HV0.out HBw.out, HBw.out⟩
       | false =>
        cases dis with
        | false => simp [qbU] at hone
        | true =>
         go_wp2_with fail
         have hvc := Kd.qc8 HV.out HBc.out
         obtain ⟨_, hle, hC⟩ := Kd.qcX hvc
         obtain ⟨K2, hK2⟩ := qgR out dk dnew (by omega)
         refine (qcc.calls K2 _ _ out dk dnew _ _ hC hle (hK2 K2 (Nat.le_refl _))).mono ?_
         rintro e w3 ⟨v3, rfl, hr3, hb3⟩
         have hsw := HBw.out.size
         have HV3 := Aside0.mk (Kd.R_V (base' := w.heap.size) (Kd.qbs (Kd.qb3 hr3) (fun k hk => (show P0_ k ∨ w.heap.size ≤ k from .inr (Nat.le_trans hsw hk.2.1)))))
         have HB3 := Aside0.mk (qag HBw.out hb3)
         have hsl : (stepD out ⟨dk, dold, dnew, false, true⟩) = putP out dk dnew := by simp [stepD]
         have hlen := qcU out ⟨dk, dold, dnew, false, true⟩
         have hfine := qdo HF.out hone
         have ha := HA.out
         unfold qbI at ha
         rw [if_pos hone, if_pos (show fitsB out ⟨dk, dold, dnew, false, true⟩ = true from by simp [fitsB, hh])] at ha
         rw [hsl] at hlen hfine ha
         have HF3 := Aside0.mk hfine
         have HA3 := Aside0.mk ha
         clear hr3 hb3 hvc hle hC hfine ha hsw b0 b1 b2 b3 b4
         go_wp2_with fail
         go_roundw
         case rel => exact ⟨i + 1, putP out dk dnew, by omega, by go_num, by omega, HF3, HA3, HV3, HB3⟩
         case measure => simp [intOf]; omega
      | true =>
       cases dwas with
       | false =>
        go_wp2_with fail
        go_ret2
        have ha := HA.out
        unfold qbI at ha
        rw [if_pos hone, if_neg (by simp [fitsB, hh])] at ha
        simp only [Prod.mk.injEq] at ha
        obtain ⟨rfl, rfl⟩ := ha
        exact ⟨_, rfl, Kd.qc8 HV0.out HBw.out, HBw.out⟩
       | true =>
        by_cases hv : (getV out dk).toList = dold.toList
        ·have e1 : ((getV out dk).toList != dold.toList) = false := by simp [hv]
         cases dis with
         | true =>
          go_wp2_with fail
          have hvc := Kd.qc8 HV.out HBc.out
          obtain ⟨_, hle, hC⟩ := Kd.qcX hvc
          obtain ⟨K2, hK2⟩ := qgR out dk dnew (by omega)
          refine (qcc.calls K2 _ _ out dk dnew _ _ hC hle (hK2 K2 (Nat.le_refl _))).mono ?_
          rintro e w3 ⟨v3, rfl, hr3, hb3⟩
          have hsw := HBw.out.size
          have HV3 := Aside0.mk (Kd.R_V (base' := w.heap.size) (Kd.qbs (Kd.qb3 hr3) (fun k hk => (show P0_ k ∨ w.heap.size ≤ k from .inr (Nat.le_trans hsw hk.2.1)))))
          have HB3 := Aside0.mk (qag HBw.out hb3)
          have hsl : (stepD out ⟨dk, dold, dnew, true, true⟩) = putP out dk dnew := by simp [stepD]
          have hlen := qcU out ⟨dk, dold, dnew, true, true⟩
          have hfine := qdo HF.out hone
          have ha := HA.out
          unfold qbI at ha
          rw [if_pos hone, if_pos (show fitsB out ⟨dk, dold, dnew, true, true⟩ = true from by simp [fitsB, hh, hv])] at ha
          rw [hsl] at hlen hfine ha
          have HF3 := Aside0.mk hfine
          have HA3 := Aside0.mk ha
          clear hr3 hb3 hvc hle hC hfine ha hsw b0 b1 b2 b3 b4
          go_wp2_with fail
          go_roundw
          case rel => exact ⟨i + 1, putP out dk dnew, by omega, by go_num, by omega, HF3, HA3, HV3, HB3⟩
          case measure => simp [intOf]; omega
         | false =>
          go_wp2_with fail
          have hvc := Kd.qc8 HV.out HBc.out
          obtain ⟨_, hle, hC⟩ := Kd.qcX hvc
          obtain ⟨K2, hK2⟩ := qhS out dk (by omega)
          rw [show (out.filter fun p => !decide (p.f0.toList = dk.toList)) = dropP out dk from by unfold dropP; rw [if_pos hh]; exact qeE HF.out.2 hh] at hK2
          refine (qbb.calls K2 _ _ out dk _ _ hC hle (hK2 K2 (Nat.le_refl _))).mono ?_
          rintro e w3 ⟨v3, rfl, hr3, hb3⟩
          have hsw := HBw.out.size
          have HV3 := Aside0.mk (Kd.R_V (base' := w.heap.size) (Kd.qbs (Kd.qb3 hr3) (fun k hk => (show P0_ k ∨ w.heap.size ≤ k from .inr (Nat.le_trans hsw hk.2.1)))))
          have HB3 := Aside0.mk (qag HBw.out hb3)
          have hsl : (stepD out ⟨dk, dold, dnew, true, false⟩) = dropP out dk := by simp [stepD]
          have hlen := qcU out ⟨dk, dold, dnew, true, false⟩
          have hfine := qdo HF.out hone
          have ha := HA.out
          unfold qbI at ha
          rw [if_pos hone, if_pos (show fitsB out ⟨dk, dold, dnew, true, false⟩ = true from by simp [fitsB, hh, hv])] at ha
          rw [hsl] at hlen hfine ha
          have HF3 := Aside0.mk hfine
          have HA3 := Aside0.mk ha
          clear hr3 hb3 hvc hle hC hfine ha hsw b0 b1 b2 b3 b4
          go_wp2_with fail
          go_roundw
          case rel => exact ⟨i + 1, dropP out dk, by omega, by go_num, by omega, HF3, HA3, HV3, HB3⟩
          case measure => simp [intOf]; omega
        ·have e1 : ((getV out dk).toList == dold.toList) = false := by simp [hv]
         go_wp2_with fail
         go_ret2
         have ha := HA.out
         unfold qbI at ha
         rw [if_pos hone, if_neg (by simp [fitsB, hh, hv])] at ha
         simp only [Prod.mk.injEq] at ha
         obtain ⟨rfl, rfl⟩ := ha
         exact ⟨_, rfl, Kd.qc8 HV0.out HBw.out, HBw.out⟩
   ·have he : i = l1.length := by omega
    have c1 : decide ((i : Int) < (l1.length : Int)) = false := decide_eq_false (by omega)
    have ha := HA.out
    rw [he, List.drop_length] at ha
    unfold qbI at ha
    by_cases h60 : 60 < out.length
    ·have c2 : decide (60 < (out.length : Int)) = true := decide_eq_true (by omega)
     rw [if_pos h60] at ha
     simp only [Prod.mk.injEq] at ha
     obtain ⟨rfl, rfl⟩ := ha
     go_wp2_with fail
     go_ret2
     exact ⟨_, rfl, Kd.qc8 HV0.out HB.out, HB.out⟩
    ·have c2 : decide (60 < (out.length : Int)) = false := decide_eq_false (by omega)
     rw [if_neg h60] at ha
     simp only [Prod.mk.injEq] at ha
     obtain ⟨rfl, rfl⟩ := ha
     go_wp2_with fail
     go_ret2
     exact ⟨_, rfl, HV.out, HB.out⟩
 ·rw [if_neg hs] at h
  cases h
end Go.Proofs.Ytgcncphdjabjjaa.X
