import Derived.Test.YtenfomejccfkgaaKFnExactCountRefs4
import Derived.LoopTactic
import Derived.WalkSpells
namespace Go.Proofs.Ytenfomejccfkgaa.X
open Go.RowKit Go.Proofs.YtenfomejccfkgaaW.PrintWords Go.Proofs.YtenfomejccfkgaaW.PrintLast Go.Proofs.YtenfomejccfkgaaW.PrintMore
attribute [local go_sem] qaC qaD qaE qay qaz qaO qaP qas qat qaA qaB
set_option linter.unusedVariables false
set_option linter.unusedSimpArgs false
def qa4.l0 : Nat → List (S99) → Int → Int → Option (Int × (List (S99)))
 | 0, _, _, _ => none
 | k + 1, x0, x1, x5 => if x5 < (x0.length : Int) then ((qaR.f k x1).bind fun t274 => (if 0 ≤ x5 then ((some (x0.set (x5 : Int).toNat (⟨t274, (qaF x0 x5).f1⟩ : S99) : List (S99))).bind fun y275 => ((qaR.f k (wrap64 (x1 + 1))).bind fun t276 => (qa4.l0 k (y275.set (x5 : Int).toNat (⟨(qaF y275 x5).f0, t276⟩ : S99)) (wrap64 ((wrap64 (x1 + 1)) + 1)) (wrap64 (x5 + 1))))) else (none))) else (some (x1, x0))
def qa4.f (k : Nat) (l0 : List (S99)) (a1 : Int) : Option (Int × (List (S99))) := qa4.l0 k l0 a1 0
theorem qa4.qbm : ∀ k, (∀ y0 y1 y2, LeO (qa4.l0 k y0 y1 y2) (qa4.l0 (k + 1) y0 y1 y2))
 | 0 => fun _ _ _ r h => by simp [qa4.l0] at h
 | k + 1 => by
  have ih0 := qa4.qbm k
  ·intro y0 y1 y2
   unfold qa4.l0
   repeat' first
   | (with_reducible exact ih0 _ _ _)
   | (with_reducible exact qaR.mono _ _)
   | (with_reducible exact LeO.refl _)
   | (with_reducible exact LeO.none _)
   | (with_reducible refine LeO.ite ?_ ?_)
   | (with_reducible refine LeO.bind ?_ (fun _ => ?_))
   | exact ih0 _ _ _
   | exact qaR.mono _ _
   | exact LeO.none _
   | refine LeO.ite ?_ ?_
   | refine LeO.bind ?_ (fun _ => ?_)
theorem qa4.mono : ∀ a0 a1 k, LeO (qa4.f k a0 a1) (qa4.f (k + 1) a0 a1) := by
 intro a0 a1 k
 have ih0 := qa4.qbm k
 unfold qa4.f
 repeat' first
   | (with_reducible exact ih0 _ _ _)
   | (with_reducible exact qaR.mono _ _)
   | (with_reducible exact LeO.refl _)
   | (with_reducible exact LeO.none _)
   | (with_reducible refine LeO.ite ?_ ?_)
   | (with_reducible refine LeO.bind ?_ (fun _ => ?_))
   | exact ih0 _ _ _
   | exact qaR.mono _ _
   | exact LeO.none _
   | refine LeO.ite ?_ ?_
   | refine LeO.bind ?_ (fun _ => ?_)
set_option maxHeartbeats 8000000 in
set_option maxRecDepth 100000 in
theorem qa4.calls (k : Nat) (P0_ : Nat → Prop) (u9000_ : Value) (l0 : List (S99)) (a1 : Int) (r1 : Int) (r2 : List (S99)) (w0 w : World) (hB : Below w0.heap.size w0 w) (ho0 : Kd.R k99 99 w w0.heap.size P0_ u9000_ l0) (h : qa4.f k l0 a1 = some (r1, r2)) :
  Calls Try.prog 22 #[u9000_, .int .i64 a1] w fun e w' => e = .returned (.int .i64 r1) ∧ Kd.R k99 99 w' w0.heap.size (fun k_ => (P0_ k_ ∨ w.heap.size ≤ k_)) u9000_ r2 ∧ Below w0.heap.size w0 w' ∧ Kept w w' (fun k_ => P0_ k_) := by
 have HO0 := Aside0.mk (show Kd.R k99 99 w w0.heap.size (fun k_ => (P0_ k_ ∨ w.heap.size ≤ k_)) u9000_ l0 from Kd.qbv ho0 (fun k_ hk => (.inl hk)))
 have HK := Aside0.mk (Kept.refl w (fun k_ => P0_ k_))
 have HW0 := Aside0.mk hB.size
 have HB := Aside0.mk hB
 clear hB
 have H : (qa4.l0 k l0 a1 0) = some (r1, r2) := h
 clear h
 have H' := Aside0.mk H
 clear H
 go_enter Try.func22, Try.ntmps22
 go_wp2
 go_loopg [1, 5] k (fun kq v1 v5 w' => ∃ (x0_1 : List (S99)) (x1_1 : Int) (x5_1 : Int), v1 = .int .i64 x1_1 ∧ v5 = .int .i64 x5_1 ∧ Aside0 (qa4.l0 kq x0_1 x1_1 x5_1 = some (r1, r2)) ∧ Aside0 (kq ≤ k) ∧ Aside0 (Kd.R k99 99 w' w0.heap.size (fun k_ => (P0_ k_ ∨ w.heap.size ≤ k_)) u9000_ x0_1) ∧ Aside0 (Kept w w' (fun k_ => P0_ k_)) ∧ Aside0 (Below w0.heap.size w0 w'))
 case atStart => exact ⟨(l0), (a1), (0), (by first | rfl | (simp; done) | (simp [*]; done)), (by first | rfl | (simp; done) | (simp [*]; done)), H', ⟨Nat.le_refl _⟩, ⟨by (with_reducible repeat (first | apply Kd.qa3 | apply Kd.qa8 | apply Kd.qbi)); exact HO0.out⟩, ⟨by repeat (first | (with_reducible first | exact HK.out | apply Kept.alloc | apply Kept.drewN | apply Kept.drew) | exact HK.out)⟩, ⟨by repeat (first | (with_reducible first | exact HB.out | apply qab | apply qaa | apply qac) | exact HB.out)⟩⟩
 case round =>
  clear H'
  try clear c2
  try clear p2
  obtain ⟨x0_1, x1_1, x5_1, rfl, rfl, HA, HK1, HO_0, HK, HB⟩ := hrel
  cases gk with
  | zero => exact absurd HA.out (by simp [qa4.l0])
  | succ k1 =>
   have H := HA.out
   clear HA
   simp only [qa4.l0] at H
   by_cases c3 : x5_1 < (x0_1.length : Int)
   ·rw [if_pos c3] at H
    have c3b0 : decide (x5_1 < (x0_1.length : Int)) = true := decide_eq_true c3
    clear c3
    replace H := Option.bind_eq_some_iff.mp H
    obtain ⟨t274, A40, H⟩ := H
    replace H : (if 0 ≤ x5_1 then ((some (x0_1.set (x5_1 : Int).toNat (⟨t274, (qaF x0_1 x5_1).f1⟩ : S99) : List (S99))).bind fun y275 => ((qaR.f k1 (wrap64 (x1_1 + 1))).bind fun t276 => (qa4.l0 k1 (y275.set (x5_1 : Int).toNat (⟨(qaF y275 x5_1).f0, t276⟩ : S99)) (wrap64 ((wrap64 (x1_1 + 1)) + 1)) (wrap64 (x5_1 + 1))))) else (none)) = some (r1, r2) := H
    have A4 := Aside0.mk A40
    clear A40
    by_cases c5 : 0 ≤ x5_1
    ·rw [if_pos c5] at H
     have c5b0 : decide (0 ≤ x5_1) = true := decide_eq_true c5
     clear c5
     obtain ⟨y275, hy275⟩ : ∃ y_ : List (S99), y_ = (x0_1.set (x5_1 : Int).toNat (⟨t274, (qaF x0_1 x5_1).f1⟩ : S99)) := ⟨_, rfl⟩
     replace H : ((qaR.f k1 (wrap64 (x1_1 + 1))).bind fun t276 => (qa4.l0 k1 (y275.set (x5_1 : Int).toNat (⟨(qaF y275 x5_1).f0, t276⟩ : S99)) (wrap64 ((wrap64 (x1_1 + 1)) + 1)) (wrap64 (x5_1 + 1)))) = some (r1, r2) := by first | (rw [hy275]; with_reducible exact H) | (have H2_ := (Option.bind_some _ _).symm.trans H; rw [hy275]; with_reducible exact H2_) | (have H2_ := (Option.bind_some _ _).symm.trans H; with_reducible exact H2_) | with_reducible exact H | (rw [hy275]; exact H) | exact H
     have Ny275 := Aside0.mk hy275
     clear hy275
     replace H := Option.bind_eq_some_iff.mp H
     obtain ⟨t276, A70, H⟩ := H
     replace H : (qa4.l0 k1 (y275.set (x5_1 : Int).toNat (⟨(qaF y275 x5_1).f0, t276⟩ : S99)) (wrap64 ((wrap64 (x1_1 + 1)) + 1)) (wrap64 (x5_1 + 1))) = some (r1, r2) := H
     have A7 := Aside0.mk A70
     clear A70
     obtain ⟨y277, hy277⟩ : ∃ y_ : List (S99), y_ = (y275.set (x5_1 : Int).toNat (⟨(qaF y275 x5_1).f0, t276⟩ : S99)) := ⟨_, rfl⟩
     replace H : (qa4.l0 k1 y277 (wrap64 ((wrap64 (x1_1 + 1)) + 1)) (wrap64 (x5_1 + 1))) = some (r1, r2) := by first | (rw [hy277]; with_reducible exact H) | (have H2_ := (Option.bind_some _ _).symm.trans H; rw [hy277]; with_reducible exact H2_) | (have H2_ := (Option.bind_some _ _).symm.trans H; with_reducible exact H2_) | with_reducible exact H | (rw [hy277]; exact H) | exact H
     have Ny277 := Aside0.mk hy277
     clear hy277
     have H' := Aside0.mk H
     clear H
     obtain ⟨Ao9, co9, eo9⟩ := Kd.qbW HO_0.out
     subst eo9
     go_wp2_with (first | ((with_reducible refine qax (f := 68) rfl ?_); refine qbl (some 15) rfl rfl Try.func68 (by kernel_rfl) rfl #[.int .i64 x1_1] rfl (by (try simp only [List.map_toArray, List.map_cons, List.map_nil]); first | done | rfl | (simp only [List.length_drop, List.length_take]; rfl)) ?_; (with_reducible refine (qaR.calls k1 x1_1 t274 _ A4.out).mono ?_); rintro e w10 ⟨rfl, hb⟩; refine ⟨_, rfl, ?_⟩; have n0_ := Aside0.mk (Kd.qbj (by (with_reducible repeat (first | apply Kd.qa3 | apply Kd.qa8 | apply Kd.qbi)); exact HO_0.out) hb); have n1_ := Aside0.mk (Kept.below (S := (fun k_ => P0_ k_)) (by repeat (first | (with_reducible first | exact HK.out | apply Kept.alloc | apply Kept.drewN | apply Kept.drew) | exact HK.out)) hb); have n2_ := Aside0.mk (qai (by repeat (first | (with_reducible first | exact HB.out | apply qab | apply qaa | apply qac) | exact HB.out)) hb); clear HO_0; clear HK; clear HB; have HO_0 := n0_; have HK := n1_; have HB := n2_; clear n0_ n1_ n2_; (try clear hb); (try clear hb2); (try clear hk); (try clear hi); have p6 : 0 ≤ (x5_1 : Int) := of_decide_eq_true (by first | (with_reducible assumption) | assumption); have q6 : (x5_1 : Int) < ((x0_1.length : Int) : Int) := of_decide_eq_true (by first | (with_reducible assumption) | assumption); obtain ⟨go6, co6, eo6, gb6, gl6, cl6, HG6⟩ := Kd.qce HO_0.out (by omega); (first | cases eo6 | (injection eo6 with ea_ en_ ec_; (first | subst ea_ | (injection ea_ with ea_; subst ea_)); subst ec_; clear en_)); have GB6 := Aside0.mk gb6; have GG6 := Aside0.mk HG6; clear gb6 gl6 HG6; have HMgo6 := Aside0.mk (show (P0_ go6 ∨ w.heap.size ≤ go6) from (HO_0.out.1 _ rfl)); obtain ⟨ce6, hcl6, hM6, hcc6, hfr6⟩ := Kd.qdO HO_0.out z99 (x5_1 : Int) p6 q6; obtain rfl := qcP hM6; have hx6_0 : w10.cell? ⟨go6, (x5_1 : Int).toNat * 2, none⟩ = some (.string ((qaF x0_1 x5_1).f0)) := hcc6 0 _ rfl; have hx6_1 : w10.cell? ⟨go6, (x5_1 : Int).toNat * 2 + 1, none⟩ = some (.string ((qaF x0_1 x5_1).f1)) := hcc6 1 _ rfl; have hf6_0 : w10.frozen? ⟨go6, (x5_1 : Int).toNat * 2, none⟩ = false := hfr6 0; have hf6_1 : w10.frozen? ⟨go6, (x5_1 : Int).toNat * 2 + 1, none⟩ = false := hfr6 1; clear hcl6 hcc6 hfr6 hM6; replace p6 := eq_true p6; replace q6 := eq_true q6; have HX11 := Aside0.mk (show Kd.R k99 99 w10 w0.heap.size (fun k_ => (P0_ k_ ∨ w.heap.size ≤ k_)) (.slice (some ⟨go6, 0, none⟩) x0_1.length co9) x0_1 from (by (with_reducible repeat (first | apply Kd.qa3 | apply Kd.qa8 | apply Kd.qbi)); exact HO_0.out)); obtain ⟨ce11, hcl11, hM11, hcc11, hfr11⟩ := Kd.qdO HX11.out z99 (x5_1 : Int) (of_decide_eq_true (by first | (with_reducible assumption) | assumption)) (by have h_ : (x5_1 : Int) < ((x0_1.length : Int) : Int) := of_decide_eq_true (by first | (with_reducible assumption) | assumption); first | exact h_ | (have e_ := (Kd.qbe HO_0.out).1; omega) | simpa using h_); obtain rfl := qcP hM11; have HP11 := Kd.R_seg HX11.out (x5_1 : Int) (of_decide_eq_true (by first | (with_reducible assumption) | assumption)) (by have h_ : (x5_1 : Int) < ((x0_1.length : Int) : Int) := of_decide_eq_true (by first | (with_reducible assumption) | assumption); first | exact h_ | (have e_ := (Kd.qbe HO_0.out).1; omega) | simpa using h_) (seg := [.string t274]) (j := 0) hcl11 hcc11 (show 1 ≤ 2 from by decide) (x' := (⟨t274, (qaF x0_1 x5_1).f1⟩ : S99)) (qe8 _ _ _ (⟨t274, (qaF x0_1 x5_1).f1⟩ : S99) ) (fun _ hk => hk); have hx11_0 := hcc11 0 _ rfl; (try simp only [show (k99).sz = 2 from rfl, Nat.mul_one, Nat.add_zero] at hx11_0); have hf11_0 := hfr11 0; (try simp only [show (k99).sz = 2 from rfl, Nat.mul_one, Nat.add_zero] at hf11_0); clear hcl11 hcc11 hfr11 hM11) | ((with_reducible refine qbM (t := 9) (p := 17) rfl ?_); refine qbF (t := 9) (p := 17) (v := ?vo_w12) (w1 := (w10.setCell ⟨go6, (x5_1 : Int).toNat * 2, none⟩ (.string t274))) ?hg ?ho ?hn ?hr ?_; (case ho => rfl); (case hg => rfl); (case hn => rfl); (case hr => first | (go_simp; done) | (go_simp; rfl)); intro w12 hw; have hg : w10.grownBy w12 (some go6) := (by rw [hw]; exact HP11.2); have hp_ : Kd.R k99 99 w12 w0.heap.size (fun k_ => (P0_ k_ ∨ w.heap.size ≤ k_)) (.slice (some ⟨go6, 0, none⟩) x0_1.length co9) y275 := (by rw [hw, Ny275.out]; exact HP11.1); clear HP11; have n0_ := Aside0.mk (hp_); have n1_ := Aside0.mk ((by rw [hw]; exact qaf (HB.out) GB6.out : Below w0.heap.size w0 w12)); have n2_ := Aside0.mk (Kept.qdV (S := (fun k_ => P0_ k_)) hg (by repeat (first | (with_reducible first | exact HK.out | apply Kept.alloc | apply Kept.drewN | apply Kept.drew) | exact HK.out)) (fun k_ e_ => (HO_0.out.1 k_ e_))); clear HO_0; clear HB; clear HK; have HO_0 := n0_; have HB := n1_; have HK := n2_; clear n0_ n1_ n2_; clear hg hw hp_) | ((with_reducible refine qax (f := 68) rfl ?_); refine qbl (some 23) rfl rfl Try.func68 (by kernel_rfl) rfl #[.int .i64 (wrap64 (x1_1 + 1))] rfl (by (try simp only [List.map_toArray, List.map_cons, List.map_nil]); first | done | rfl | (simp only [List.length_drop, List.length_take]; rfl)) ?_; (with_reducible refine (qaR.calls k1 (wrap64 (x1_1 + 1)) t276 _ A7.out).mono ?_); rintro e w13 ⟨rfl, hb⟩; refine ⟨_, rfl, ?_⟩; have n0_ := Aside0.mk (Kd.qbj (by (with_reducible repeat (first | apply Kd.qa3 | apply Kd.qa8 | apply Kd.qbi)); exact HO_0.out) hb); have n1_ := Aside0.mk (Kept.below (S := (fun k_ => P0_ k_)) (by repeat (first | (with_reducible first | exact HK.out | apply Kept.alloc | apply Kept.drewN | apply Kept.drew) | exact HK.out)) hb); have n2_ := Aside0.mk (qai (by repeat (first | (with_reducible first | exact HB.out | apply qab | apply qaa | apply qac) | exact HB.out)) hb); clear HO_0; clear HK; clear HB; have HO_0 := n0_; have HK := n1_; have HB := n2_; clear n0_ n1_ n2_; (try clear hb); (try clear hb2); (try clear hk); (try clear hi); have p8 : 0 ≤ (x5_1 : Int) := of_decide_eq_true (by first | (with_reducible assumption) | assumption); have q8 : (x5_1 : Int) < ((x0_1.length : Int) : Int) := of_decide_eq_true (by first | (with_reducible assumption) | assumption); obtain ⟨ce8, hcl8, hM8, hcc8, hfr8⟩ := Kd.qdO HO_0.out z99 (x5_1 : Int) p8 q8; obtain rfl := qcP hM8; have hx8_0 : w13.cell? ⟨go6, (x5_1 : Int).toNat * 2, none⟩ = some (.string ((qaF y275 x5_1).f0)) := hcc8 0 _ rfl; have hx8_1 : w13.cell? ⟨go6, (x5_1 : Int).toNat * 2 + 1, none⟩ = some (.string ((qaF y275 x5_1).f1)) := hcc8 1 _ rfl; have hf8_0 : w13.frozen? ⟨go6, (x5_1 : Int).toNat * 2, none⟩ = false := hfr8 0; have hf8_1 : w13.frozen? ⟨go6, (x5_1 : Int).toNat * 2 + 1, none⟩ = false := hfr8 1; clear hcl8 hcc8 hfr8 hM8; replace p8 := eq_true p8; replace q8 := eq_true q8; have HX14 := Aside0.mk (show Kd.R k99 99 w13 w0.heap.size (fun k_ => (P0_ k_ ∨ w.heap.size ≤ k_)) (.slice (some ⟨go6, 0, none⟩) x0_1.length co9) y275 from (by (with_reducible repeat (first | apply Kd.qa3 | apply Kd.qa8 | apply Kd.qbi)); exact HO_0.out)); obtain ⟨ce14, hcl14, hM14, hcc14, hfr14⟩ := Kd.qdO HX14.out z99 (x5_1 : Int) (of_decide_eq_true (by first | (with_reducible assumption) | assumption)) (by have h_ : (x5_1 : Int) < ((x0_1.length : Int) : Int) := of_decide_eq_true (by first | (with_reducible assumption) | assumption); first | exact h_ | (have e_ := (Kd.qbe HO_0.out).1; omega) | simpa using h_); obtain rfl := qcP hM14; have HP14 := Kd.R_seg HX14.out (x5_1 : Int) (of_decide_eq_true (by first | (with_reducible assumption) | assumption)) (by have h_ : (x5_1 : Int) < ((x0_1.length : Int) : Int) := of_decide_eq_true (by first | (with_reducible assumption) | assumption); first | exact h_ | (have e_ := (Kd.qbe HO_0.out).1; omega) | simpa using h_) (seg := [.string t276]) (j := 1) hcl14 hcc14 (show 2 ≤ 2 from by decide) (x' := (⟨(qaF y275 x5_1).f0, t276⟩ : S99)) (qe8 _ _ _ (⟨(qaF y275 x5_1).f0, t276⟩ : S99) ) (fun _ hk => hk); have hx14_1 := hcc14 1 _ rfl; (try simp only [show (k99).sz = 2 from rfl, Nat.mul_one, Nat.add_zero] at hx14_1); have hf14_1 := hfr14 1; (try simp only [show (k99).sz = 2 from rfl, Nat.mul_one, Nat.add_zero] at hf14_1); clear hcl14 hcc14 hfr14 hM14) | ((with_reducible refine qbM (t := 9) (p := 25) rfl ?_); refine qbF (t := 9) (p := 25) (v := ?vo_w15) (w1 := (w13.setCell ⟨go6, (x5_1 : Int).toNat * 2 + 1, none⟩ (.string t276))) ?hg ?ho ?hn ?hr ?_; (case ho => rfl); (case hg => rfl); (case hn => rfl); (case hr => first | (go_simp; done) | (go_simp; rfl)); intro w15 hw; have hg : w13.grownBy w15 (some go6) := (by rw [hw]; exact HP14.2); have hp_ : Kd.R k99 99 w15 w0.heap.size (fun k_ => (P0_ k_ ∨ w.heap.size ≤ k_)) (.slice (some ⟨go6, 0, none⟩) x0_1.length co9) y277 := (by rw [hw, Ny277.out]; exact HP14.1); clear HP14; have n0_ := Aside0.mk (hp_); have n1_ := Aside0.mk ((by rw [hw]; exact qaf (HB.out) GB6.out : Below w0.heap.size w0 w15)); have n2_ := Aside0.mk (Kept.qdV (S := (fun k_ => P0_ k_)) hg (by repeat (first | (with_reducible first | exact HK.out | apply Kept.alloc | apply Kept.drewN | apply Kept.drew) | exact HK.out)) (fun k_ e_ => (HO_0.out.1 k_ e_))); clear HO_0; clear HB; clear HK; have HO_0 := n0_; have HB := n1_; have HK := n2_; clear n0_ n1_ n2_; clear hg hw hp_))
     go_roundg k1
     case measure => have := HK1.out; omega
     case rel => exact ⟨(y277), (wrap64 ((wrap64 (x1_1 + 1)) + 1)), (wrap64 (x5_1 + 1)), (by first | rfl | (simp; done) | (simp [*]; done)), (by first | rfl | (simp; done) | (simp [*]; done)), H', ⟨by have := HK1.out; omega⟩, ⟨by (with_reducible repeat (first | apply Kd.qa3 | apply Kd.qa8 | apply Kd.qbi)); exact HO_0.out⟩, ⟨by repeat (first | (with_reducible first | exact HK.out | apply Kept.alloc | apply Kept.drewN | apply Kept.drew) | exact HK.out)⟩, ⟨by repeat (first | (with_reducible first | exact HB.out | apply qab | apply qaa | apply qac) | exact HB.out)⟩⟩
    ·rw [if_neg c5] at H
     exact absurd H (by simp)
   ·rw [if_neg c3] at H
    have c3b0 : decide (x5_1 < (x0_1.length : Int)) = false := decide_eq_false c3
    clear c3
    simp only [Option.some.injEq, Prod.mk.injEq] at H
    obtain ⟨rfl, rfl⟩ := H
    obtain ⟨Ao16, co16, eo16⟩ := Kd.qbW HO_0.out
    subst eo16
    go_wp2
    go_ret
    exact ⟨by first | rfl | (simp [qal, qam] <;> rfl) | (simp [*, qal, qam] <;> rfl), by (with_reducible repeat (first | apply Kd.qa3 | apply Kd.qa8 | apply Kd.qbi)); exact HO_0.out, by repeat (first | (with_reducible first | exact HB.out | apply qab | apply qaa | apply qac) | exact HB.out), by repeat (first | (with_reducible first | exact HK.out | apply Kept.alloc | apply Kept.drewN | apply Kept.drew) | exact HK.out)⟩
end Go.Proofs.Ytenfomejccfkgaa.X
namespace Go.Proofs.Ytenfomejccfkgaa.X
open Go.RowKit Go.Proofs.YtenfomejccfkgaaW.PrintWords Go.Proofs.YtenfomejccfkgaaW.PrintLast Go.Proofs.YtenfomejccfkgaaW.PrintMore
attribute [local go_sem] qaC qaD qaE qay qaz qaO qaP qas qat qaA qaB
set_option linter.unusedVariables false
set_option linter.unusedSimpArgs false
noncomputable def qcN : List S99 → Int → List S99
 | [], _ => []
 | _ :: xs, m => ⟨mt m, mt (m + 1)⟩ :: qcN xs (m + 2)
theorem qeg (rest : List S99) : ∀ (pre : List S99) (m : Int), 0 ≤ m → m + 2 * (rest.length : Int) ≤ 4611686018427387904 → (pre ++ rest).length ≤ 9223372036854775807 →
  Ev (fun k => qa4.l0 k (pre ++ rest) m ((pre.length : Nat) : Int)) (m + 2 * (rest.length : Int), pre ++ qcN rest m) := by
 induction rest with
 | nil =>
  intro pre m h0 h1 hl
  refine Ev.succ ?_
  simp only [qa4.l0]
  exact Ev.neg (by simp) (Ev.is (by simp [qcN]))
 | cons x rest ih =>
  intro pre m h0 h1 hl
  have hlt : ((pre.length : Nat) : Int) < ((pre ++ x :: rest).length : Int) := by simp; omega
  have hwp : ∀ v : S99, wrap64 (((pre.length : Nat) : Int) + 1) = (((pre ++ [v]).length : Nat) : Int) := fun v => by rw [← qbV]; exact qb5 (by simp at hl; omega)
  have hset : ∀ v u : S99, (pre ++ u :: rest).set ((pre.length : Nat) : Int).toNat v = pre ++ v :: rest := fun v u => by rw [Int.toNat_natCast]; exact set_mid pre u v rest
  have hrd : ∀ u : S99, qaF (pre ++ u :: rest) ((pre.length : Nat) : Int) = u := fun u => by simp [qaF, List.getD_eq_getElem?_getD]
  simp only [List.length_cons] at h1
  have w1 : wrap64 (m + 1) = m + 1 := (qct (by omega) (by omega)).trans (by omega)
  have w2 : wrap64 ((m + 1) + 1) = m + 2 := (qct (by omega) (by omega)).trans (by omega)
  have hi := ih (pre ++ [⟨mt m, mt (m + 1)⟩]) (m + 2) (by omega) (by omega) (by simpa using hl)
  refine Ev.succ ?_
  simp only [qa4.l0, w1, w2]
  refine Ev.pos hlt ?_
  refine Ev.bind (mt_ev (by omega)) ?_
  refine Ev.pos (show (0 : Int) ≤ ((pre.length : Nat) : Int) by omega) ?_
  refine Ev.bindk rfl ?_
  refine Ev.bind (mt_ev (by omega)) ?_
  simp only [hset, hrd]
  rw [hwp (⟨mt m, mt (m + 1)⟩)]
  have e3 : pre ++ (⟨mt m, mt (m + 1)⟩ : S99) :: rest = (pre ++ [⟨mt m, mt (m + 1)⟩]) ++ rest := by simp
  have e4 : (m + 2 + 2 * (rest.length : Int), (pre ++ [⟨mt m, mt (m + 1)⟩]) ++ qcN rest (m + 2)) = (m + 2 * (((x :: rest).length : Nat) : Int), pre ++ qcN (x :: rest) m) := by
   refine Prod.ext ?_ ?_
   ·simp only [List.length_cons]; omega
   ·simp [qcN]
  rw [← e4, e3]
  exact hi
theorem qgz (l : List S99) (m : Int) (h0 : 0 ≤ m) (h1 : m + 2 * (l.length : Int) ≤ 4611686018427387904) (hl : l.length ≤ 9223372036854775807) : Ev (fun k => qa4.f k l m) (m + 2 * (l.length : Int), qcN l m) := by
 unfold qa4.f
 have h := qeg l [] m h0 h1 (by simpa using hl)
 simpa using h
end Go.Proofs.Ytenfomejccfkgaa.X
namespace Go.Proofs.Ytenfomejccfkgaa.X
open Go.RowKit Go.Proofs.YtenfomejccfkgaaW.PrintWords Go.Proofs.YtenfomejccfkgaaW.PrintLast Go.Proofs.YtenfomejccfkgaaW.PrintMore
attribute [local go_sem] qaC qaD qaE qay qaz qaO qaP qas qat qaA qaB
set_option linter.unusedVariables false
set_option linter.unusedSimpArgs false
def qaZ.l0 : Nat → List ByteArray → Int → Int → Option (Int × List ByteArray)
 | 0, _, _, _ => none
 | k + 1, x0, x1, x5 => if x5 < (x0.length : Int) then ((qaR.f k x1).bind fun t279 => (if 0 ≤ x5 then (qaZ.l0 k (x0.set (x5 : Int).toNat t279) (wrap64 (x1 + 1)) (wrap64 (x5 + 1))) else (none))) else (some (x1, x0))
def qaZ.f (k : Nat) (l0 : List ByteArray) (a1 : Int) : Option (Int × List ByteArray) := qaZ.l0 k l0 a1 0
theorem qaZ.qbm : ∀ k, (∀ y0 y1 y2, LeO (qaZ.l0 k y0 y1 y2) (qaZ.l0 (k + 1) y0 y1 y2))
 | 0 => fun _ _ _ r h => by simp [qaZ.l0] at h
 | k + 1 => by
  have ih0 := qaZ.qbm k
  ·intro y0 y1 y2
   unfold qaZ.l0
   repeat' first
   | (with_reducible exact ih0 _ _ _)
   | (with_reducible exact qaR.mono _ _)
   | (with_reducible exact LeO.refl _)
   | (with_reducible exact LeO.none _)
   | (with_reducible refine LeO.ite ?_ ?_)
   | (with_reducible refine LeO.bind ?_ (fun _ => ?_))
   | exact ih0 _ _ _
   | exact qaR.mono _ _
   | exact LeO.none _
   | refine LeO.ite ?_ ?_
   | refine LeO.bind ?_ (fun _ => ?_)
theorem qaZ.mono : ∀ a0 a1 k, LeO (qaZ.f k a0 a1) (qaZ.f (k + 1) a0 a1) := by
 intro a0 a1 k
 have ih0 := qaZ.qbm k
 unfold qaZ.f
 repeat' first
   | (with_reducible exact ih0 _ _ _)
   | (with_reducible exact qaR.mono _ _)
   | (with_reducible exact LeO.refl _)
   | (with_reducible exact LeO.none _)
   | (with_reducible refine LeO.ite ?_ ?_)
   | (with_reducible refine LeO.bind ?_ (fun _ => ?_))
   | exact ih0 _ _ _
   | exact qaR.mono _ _
   | exact LeO.none _
   | refine LeO.ite ?_ ?_
   | refine LeO.bind ?_ (fun _ => ?_)
set_option maxHeartbeats 8000000 in
set_option maxRecDepth 100000 in
theorem qaZ.calls (k : Nat) (P0_ : Nat → Prop) (u9000_ : Value) (l0 : List ByteArray) (a1 : Int) (r1 : Int) (r2 : List ByteArray) (w0 w : World) (hB : Below w0.heap.size w0 w) (ho0 : Kd.R Kd.string 9 w w0.heap.size P0_ u9000_ l0) (h : qaZ.f k l0 a1 = some (r1, r2)) :
  Calls Try.prog 86 #[u9000_, .int .i64 a1] w fun e w' => e = .returned (.int .i64 r1) ∧ Kd.R Kd.string 9 w' w0.heap.size (fun k_ => (P0_ k_ ∨ w.heap.size ≤ k_)) u9000_ r2 ∧ Below w0.heap.size w0 w' ∧ Kept w w' (fun k_ => P0_ k_) := by
 have HO0 := Aside0.mk (show Kd.R Kd.string 9 w w0.heap.size (fun k_ => (P0_ k_ ∨ w.heap.size ≤ k_)) u9000_ l0 from Kd.qbv ho0 (fun k_ hk => (.inl hk)))
 have HK := Aside0.mk (Kept.refl w (fun k_ => P0_ k_))
 have HW0 := Aside0.mk hB.size
 have HB := Aside0.mk hB
 clear hB
 have H : (qaZ.l0 k l0 a1 0) = some (r1, r2) := h
 clear h
 have H' := Aside0.mk H
 clear H
 go_enter Try.func86, Try.ntmps86
 go_wp2
 go_loopg [1, 5] k (fun kq v1 v5 w' => ∃ (x0_1 : List ByteArray) (x1_1 : Int) (x5_1 : Int), v1 = .int .i64 x1_1 ∧ v5 = .int .i64 x5_1 ∧ Aside0 (qaZ.l0 kq x0_1 x1_1 x5_1 = some (r1, r2)) ∧ Aside0 (kq ≤ k) ∧ Aside0 (Kd.R Kd.string 9 w' w0.heap.size (fun k_ => (P0_ k_ ∨ w.heap.size ≤ k_)) u9000_ x0_1) ∧ Aside0 (Kept w w' (fun k_ => P0_ k_)) ∧ Aside0 (Below w0.heap.size w0 w'))
 case atStart => exact ⟨(l0), (a1), (0), (by first | rfl | (simp; done) | (simp [*]; done)), (by first | rfl | (simp; done) | (simp [*]; done)), H', ⟨Nat.le_refl _⟩, ⟨by (with_reducible repeat (first | apply Kd.qa3 | apply Kd.qa8 | apply Kd.qbi)); exact HO0.out⟩, ⟨by repeat (first | (with_reducible first | exact HK.out | apply Kept.alloc | apply Kept.drewN | apply Kept.drew) | exact HK.out)⟩, ⟨by repeat (first | (with_reducible first | exact HB.out | apply qab | apply qaa | apply qac) | exact HB.out)⟩⟩
 case round =>
  clear H'
  try clear p2
  obtain ⟨x0_1, x1_1, x5_1, rfl, rfl, HA, HK1, HO_0, HK, HB⟩ := hrel
  cases gk with
  | zero => exact absurd HA.out (by simp [qaZ.l0])
  | succ k1 =>
   have H := HA.out
   clear HA
   simp only [qaZ.l0] at H
   by_cases c3 : x5_1 < (x0_1.length : Int)
   ·rw [if_pos c3] at H
    have c3b0 : decide (x5_1 < (x0_1.length : Int)) = true := decide_eq_true c3
    clear c3
    replace H := Option.bind_eq_some_iff.mp H
    obtain ⟨t279, A40, H⟩ := H
    replace H : (if 0 ≤ x5_1 then (qaZ.l0 k1 (x0_1.set (x5_1 : Int).toNat t279) (wrap64 (x1_1 + 1)) (wrap64 (x5_1 + 1))) else (none)) = some (r1, r2) := H
    have A4 := Aside0.mk A40
    clear A40
    by_cases c5 : 0 ≤ x5_1
    ·rw [if_pos c5] at H
     have c5b0 : decide (0 ≤ x5_1) = true := decide_eq_true c5
     clear c5
     obtain ⟨y280, hy280⟩ : ∃ y_ : List ByteArray, y_ = (x0_1.set (x5_1 : Int).toNat t279) := ⟨_, rfl⟩
     replace H : (qaZ.l0 k1 y280 (wrap64 (x1_1 + 1)) (wrap64 (x5_1 + 1))) = some (r1, r2) := by first | (rw [hy280]; with_reducible exact H) | (have H2_ := (Option.bind_some _ _).symm.trans H; rw [hy280]; with_reducible exact H2_) | (have H2_ := (Option.bind_some _ _).symm.trans H; with_reducible exact H2_) | with_reducible exact H | (rw [hy280]; exact H) | exact H
     have Ny280 := Aside0.mk hy280
     clear hy280
     have H' := Aside0.mk H
     clear H
     obtain ⟨Ao7, co7, eo7⟩ := Kd.qbW HO_0.out
     subst eo7
     go_wp2_with (first | ((with_reducible refine qax (f := 68) rfl ?_); refine qbl (some 15) rfl rfl Try.func68 (by kernel_rfl) rfl #[.int .i64 x1_1] rfl (by (try simp only [List.map_toArray, List.map_cons, List.map_nil]); first | done | rfl | (simp only [List.length_drop, List.length_take]; rfl)) ?_; (with_reducible refine (qaR.calls k1 x1_1 t279 _ A4.out).mono ?_); rintro e w8 ⟨rfl, hb⟩; refine ⟨_, rfl, ?_⟩; have n0_ := Aside0.mk (Kd.qbj (by (with_reducible repeat (first | apply Kd.qa3 | apply Kd.qa8 | apply Kd.qbi)); exact HO_0.out) hb); have n1_ := Aside0.mk (Kept.below (S := (fun k_ => P0_ k_)) (by repeat (first | (with_reducible first | exact HK.out | apply Kept.alloc | apply Kept.drewN | apply Kept.drew) | exact HK.out)) hb); have n2_ := Aside0.mk (qai (by repeat (first | (with_reducible first | exact HB.out | apply qab | apply qaa | apply qac) | exact HB.out)) hb); clear HO_0; clear HK; clear HB; have HO_0 := n0_; have HK := n1_; have HB := n2_; clear n0_ n1_ n2_; (try clear hb); (try clear hb2); (try clear hk); (try clear hi); have p6 : 0 ≤ (x5_1 : Int) := of_decide_eq_true (by first | (with_reducible assumption) | assumption); have q6 : (x5_1 : Int) < ((x0_1.length : Int) : Int) := of_decide_eq_true (by first | (with_reducible assumption) | assumption); obtain ⟨go6, co6, eo6, gb6, gl6, cl6, HG6⟩ := Kd.qce HO_0.out (by omega); (first | cases eo6 | (injection eo6 with ea_ en_ ec_; (first | subst ea_ | (injection ea_ with ea_; subst ea_)); subst ec_; clear en_)); have GB6 := Aside0.mk gb6; have GG6 := Aside0.mk HG6; clear gb6 gl6 HG6; have HMgo6 := Aside0.mk (show (P0_ go6 ∨ w.heap.size ≤ go6) from (HO_0.out.1 _ rfl)); obtain ⟨hx6_0, hf6_0⟩ := Kd.qca (⟨#[]⟩ : ByteArray) HO_0.out (x5_1 : Int) p6 q6; replace p6 := eq_true p6; replace q6 := eq_true q6; obtain ⟨hy9_, hz9_⟩ := Kd.qca (⟨#[]⟩ : ByteArray) HO_0.out (x5_1 : Int) (of_decide_eq_true (by first | (with_reducible assumption) | assumption)) (of_decide_eq_true (by first | (with_reducible assumption) | assumption)); have HP9 := Kd.qdi HO_0.out (x5_1 : Int) t279) | ((with_reducible refine qbM (t := 9) (p := 16) rfl ?_); refine qbF (t := 9) (p := 16) (v := ?vo_w10) (w1 := (w8.setCell ⟨go6, (x5_1 : Int).toNat, none⟩ (.string t279))) ?hg ?ho ?hn ?hr ?_; (case ho => rfl); (case hg => rfl); (case hn => rfl); (case hr => first | (go_simp; done) | (go_simp; rfl)); intro w10 hw; have hg : w8.grownBy w10 (some go6) := (by rw [hw]; exact HP9.2); have hp_ : Kd.R Kd.string 9 w10 w0.heap.size (fun k_ => (P0_ k_ ∨ w.heap.size ≤ k_)) (.slice (some ⟨go6, 0, none⟩) x0_1.length co7) y280 := (by rw [hw, Ny280.out]; exact HP9.1); clear HP9; have n0_ := Aside0.mk (hp_); have n1_ := Aside0.mk ((by rw [hw]; exact qaf (HB.out) GB6.out : Below w0.heap.size w0 w10)); have n2_ := Aside0.mk (Kept.qdV (S := (fun k_ => P0_ k_)) hg (by repeat (first | (with_reducible first | exact HK.out | apply Kept.alloc | apply Kept.drewN | apply Kept.drew) | exact HK.out)) (fun k_ e_ => (HO_0.out.1 k_ e_))); clear HO_0; clear HB; clear HK; have HO_0 := n0_; have HB := n1_; have HK := n2_; clear n0_ n1_ n2_; clear hg hw hp_))
     go_roundg k1
     case measure => have := HK1.out; omega
     case rel => exact ⟨(y280), (wrap64 (x1_1 + 1)), (wrap64 (x5_1 + 1)), (by first | rfl | (simp; done) | (simp [*]; done)), (by first | rfl | (simp; done) | (simp [*]; done)), H', ⟨by have := HK1.out; omega⟩, ⟨by (with_reducible repeat (first | apply Kd.qa3 | apply Kd.qa8 | apply Kd.qbi)); exact HO_0.out⟩, ⟨by repeat (first | (with_reducible first | exact HK.out | apply Kept.alloc | apply Kept.drewN | apply Kept.drew) | exact HK.out)⟩, ⟨by repeat (first | (with_reducible first | exact HB.out | apply qab | apply qaa | apply qac) | exact HB.out)⟩⟩
    ·rw [if_neg c5] at H
     exact absurd H (by simp)
   ·rw [if_neg c3] at H
    have c3b0 : decide (x5_1 < (x0_1.length : Int)) = false := decide_eq_false c3
    clear c3
    simp only [Option.some.injEq, Prod.mk.injEq] at H
    obtain ⟨rfl, rfl⟩ := H
    obtain ⟨Ao11, co11, eo11⟩ := Kd.qbW HO_0.out
    subst eo11
    go_wp2
    go_ret
    exact ⟨by first | rfl | (simp [qal, qam] <;> rfl) | (simp [*, qal, qam] <;> rfl), by (with_reducible repeat (first | apply Kd.qa3 | apply Kd.qa8 | apply Kd.qbi)); exact HO_0.out, by repeat (first | (with_reducible first | exact HB.out | apply qab | apply qaa | apply qac) | exact HB.out), by repeat (first | (with_reducible first | exact HK.out | apply Kept.alloc | apply Kept.drewN | apply Kept.drew) | exact HK.out)⟩
end Go.Proofs.Ytenfomejccfkgaa.X
namespace Go.Proofs.Ytenfomejccfkgaa.X
open Go.RowKit Go.Proofs.YtenfomejccfkgaaW.PrintWords Go.Proofs.YtenfomejccfkgaaW.PrintLast Go.Proofs.YtenfomejccfkgaaW.PrintMore
attribute [local go_sem] qaC qaD qaE qay qaz qaO qaP qas qat qaA qaB
set_option linter.unusedVariables false
set_option linter.unusedSimpArgs false
noncomputable def qcp : List ByteArray → Int → List ByteArray
 | [], _ => []
 | _ :: xs, m => mt m :: qcp xs (m + 1)
theorem qdG (rest : List ByteArray) : ∀ (pre : List ByteArray) (m : Int), 0 ≤ m → m + 1 * (rest.length : Int) ≤ 4611686018427387904 → (pre ++ rest).length ≤ 9223372036854775807 →
  Ev (fun k => qaZ.l0 k (pre ++ rest) m ((pre.length : Nat) : Int)) (m + 1 * (rest.length : Int), pre ++ qcp rest m) := by
 induction rest with
 | nil =>
  intro pre m h0 h1 hl
  refine Ev.succ ?_
  simp only [qaZ.l0]
  exact Ev.neg (by simp) (Ev.is (by simp [qcp]))
 | cons x rest ih =>
  intro pre m h0 h1 hl
  have hlt : ((pre.length : Nat) : Int) < ((pre ++ x :: rest).length : Int) := by simp; omega
  have hwp : ∀ v : ByteArray, wrap64 (((pre.length : Nat) : Int) + 1) = (((pre ++ [v]).length : Nat) : Int) := fun v => by rw [← qbV]; exact qb5 (by simp at hl; omega)
  have hset : ∀ v u : ByteArray, (pre ++ u :: rest).set ((pre.length : Nat) : Int).toNat v = pre ++ v :: rest := fun v u => by rw [Int.toNat_natCast]; exact set_mid pre u v rest
  have hrd : ∀ u : ByteArray, rdOf ByteArray.empty (pre ++ u :: rest) ((pre.length : Nat) : Int) = u := fun u => by simp [rdOf, List.getD_eq_getElem?_getD]
  simp only [List.length_cons] at h1
  have w1 : wrap64 (m + 1) = m + 1 := (qct (by omega) (by omega)).trans (by omega)
  have hi := ih (pre ++ [mt m]) (m + 1) (by omega) (by omega) (by simpa using hl)
  refine Ev.succ ?_
  simp only [qaZ.l0, w1]
  refine Ev.pos hlt ?_
  refine Ev.bind (mt_ev (by omega)) ?_
  refine Ev.pos (show (0 : Int) ≤ ((pre.length : Nat) : Int) by omega) ?_
  simp only [hset, hrd]
  rw [hwp (mt m)]
  have e3 : pre ++ (mt m : ByteArray) :: rest = (pre ++ [mt m]) ++ rest := by simp
  have e4 : (m + 1 + 1 * (rest.length : Int), (pre ++ [mt m]) ++ qcp rest (m + 1)) = (m + 1 * (((x :: rest).length : Nat) : Int), pre ++ qcp (x :: rest) m) := by
   refine Prod.ext ?_ ?_
   ·simp only [List.length_cons]; omega
   ·simp [qcp]
  rw [← e4, e3]
  exact hi
theorem qfC (l : List ByteArray) (m : Int) (h0 : 0 ≤ m) (h1 : m + 1 * (l.length : Int) ≤ 4611686018427387904) (hl : l.length ≤ 9223372036854775807) : Ev (fun k => qaZ.f k l m) (m + 1 * (l.length : Int), qcp l m) := by
 unfold qaZ.f
 have h := qdG l [] m h0 h1 (by simpa using hl)
 simpa using h
end Go.Proofs.Ytenfomejccfkgaa.X
namespace Go.Proofs.Ytenfomejccfkgaa.X
open Go.RowKit Go.Proofs.YtenfomejccfkgaaW.PrintWords Go.Proofs.YtenfomejccfkgaaW.PrintLast Go.Proofs.YtenfomejccfkgaaW.PrintMore
attribute [local go_sem] qaC qaD qaE qay qaz qaO qaP qas qat qaA qaB
set_option linter.unusedVariables false
set_option linter.unusedSimpArgs false
noncomputable def qgn (x : S56) (m : Int) : S56 := ⟨m % 3 == 0, qcN x.f1 (m + 1), qcp x.f2 (m + 1 + 2 * (x.f1.length : Int)), qcb x.f3 (m + 1 + 2 * (x.f1.length : Int) + (x.f2.length : Int))⟩
def costN (x : S56) : Nat := 1 + 2 * x.f1.length + x.f2.length + x.f3.length
def qcl : List S56 → Nat
 | [] => 0
 | x :: xs => costN x + qcl xs
noncomputable def qcU : List S56 → Int → List S56
 | [], _ => []
 | x :: xs, m => qgn x m :: qcU xs (m + (costN x : Int))
theorem qgA (l : List S56) : l.length ≤ qcl l := by
 induction l with
 | nil => exact Nat.le_refl _
 | cons x l ih => rw [qcl, List.length_cons]; unfold costN; omega
theorem qcu {w : World} {α β : Type} {d : Kd α} {d' : Kd β} {e e' base : Nat} {ok ok' : Nat → Prop} {v v' : Value} {xs : List α} {ys : List β} (h : d.R e w base ok v xs) (h' : d'.R e' w base ok' v' ys) (hne : e ≠ e') : ∀ k, some k = v.ownBlock → ¬ some k = v'.ownBlock := fun k h1 h2 => by
 obtain ⟨c1, e1⟩ := Kd.qe0 h k h1.symm
 obtain ⟨c2, e2⟩ := Kd.qe0 h' k h2.symm
 rw [e1] at e2
 injection e2 with e2
 injection e2 with _ e3 _
 exact hne e3
set_option maxHeartbeats 8000000 in
set_option maxRecDepth 100000 in
theorem qfD (P : Nat → Prop) (g n cap : Nat) (l : List S56) (m : Int) (w0 w : World) (hB : Below w0.heap.size w0 w) (hS : Kd.S k56 56 w w0.heap.size P (.slice (some ⟨g, 0, none⟩) n cap) l) (hm : 0 ≤ m) (hcost : m + (qcl l : Int) ≤ 4611686018427387904) :
  Calls Try.prog 67 #[.slice (some ⟨g, 0, none⟩) n cap, .int .i64 m] w fun e w' => e = .returned (.int .i64 (m + (qcl l : Int))) ∧ Kd.S k56 56 w' w0.heap.size P (.slice (some ⟨g, 0, none⟩) n cap) (qcU l m) ∧ Below w0.heap.size w0 w' ∧ Kept w w' P := by
 have hu := Try.underlying56
 have hn := (Kd.qb1 hS).1
 have HN := Aside0.mk hn
 have hnn : n ≤ 9223372036854775807 := by have := qgA l; omega
 have HS := Aside0.mk hS
 have HB := Aside0.mk hB
 have HC := Aside0.mk hcost
 clear hB hS hn
 go_enter Try.func67, Try.ntmps67
 go_wp2_with fail
 go_loopw [1, 5] (fun v1 v5 wr => ∃ (i : Nat) (q : Int) (ys : List S56), i ≤ n ∧ v5 = .int .i64 i ∧ v1 = .int .i64 q ∧ 0 ≤ q ∧ Aside0 (q + (qcl (l.drop i) : Int) = m + (qcl l : Int)) ∧ Aside0 (ys.drop i = l.drop i) ∧ Aside0 (ys.take i ++ qcU (l.drop i) q = qcU l m) ∧ Aside0 (Kd.S k56 56 wr w0.heap.size P (.slice (some ⟨g, 0, none⟩) n cap) ys) ∧ Aside0 (Below w0.heap.size w0 wr) ∧ Aside0 (Kept w wr P)) (fun _ v5 _ => n - (intOf v5).toNat)
 case atStart => exact ⟨0, m, l, by omega, rfl, rfl, hm, ⟨rfl⟩, ⟨rfl⟩, ⟨rfl⟩, HS, HB, ⟨Kept.refl _ _⟩⟩
 case round =>
  clear HS HB
  obtain ⟨i, q, ys, hi, rfl, rfl, hq0, HQ, HD, HT, HS, HB, HK⟩ := hrel
  by_cases hlt : i < n
  ·have c1 : decide ((i : Int) < (n : Int)) = true := decide_eq_true (by omega)
   obtain ⟨oki, c, hcl, hM, hcc, hfr, hoki, hH⟩ := Kd.qg4 HS.out z56 (i : Int) (by omega) (by omega)
   obtain ⟨x, hx⟩ : ∃ x, x = ys.getD (i : Int).toNat z56 := ⟨_, rfl⟩
   rw [← hx] at hM
   obtain ⟨v1, v2, v3, rfl, g1, g2, g3⟩ := qed hM
   have e0 := hcc 0 _ rfl
   have e1 := hcc 1 _ rfl
   have e2 := hcc 2 _ rfl
   have e3 := hcc 3 _ rfl
   have f0 := hfr 0
   rw [Int.toNat_natCast] at e0 e1 e2 e3 f0
   simp only [show k56.sz = 4 from rfl, Nat.add_zero] at e0 e1 e2 e3 f0
   have hyl : i < ys.length := by have := (Kd.qb1 HS.out).1; omega
   have hll : i < l.length := by rw [← HN.out]; exact hlt
   have hxl : x = l[i] := by
    have e5 : ys[i] = l[i] := by
     have h0 := congrArg (fun z => z[0]?) HD.out
     simp only [List.getElem?_drop, Nat.add_zero] at h0
     rw [List.getElem?_eq_getElem hyl, List.getElem?_eq_getElem hll] at h0
     exact Option.some.inj h0
    rw [hx, ← e5, Int.toNat_natCast]
    simp [List.getD_eq_getElem?_getD, hyl]
   have hdr : l.drop i = x :: l.drop (i + 1) := by rw [hxl]; exact List.drop_eq_getElem_cons hll
   have hq2 : q + (costN x : Int) + (qcl (l.drop (i + 1)) : Int) = m + (qcl l : Int) := by
    have h := HQ.out
    rw [hdr, qcl] at h
    omega
   have HQ2 := Aside0.mk hq2
   have HDR := Aside0.mk hdr
   have HYL := Aside0.mk hyl
   have hsum : q + (costN x : Int) ≤ 4611686018427387904 := by omega
   clear hxl hq2 hdr hll
   have w1 : IntKind.i64.wrap (q + 1) = q + 1 := by rw [IntKind.wrap_i64]; omega
   have w2 : IntKind.i64.wrap ((i : Int) + 1) = (i : Int) + 1 := by rw [IntKind.wrap_i64]; omega
   have p1 : 0 ≤ (i : Int) := by omega
   have q1 : (i : Int) < (n : Int) := by omega
   obtain ⟨hH1, hg1⟩ := Kd.H_seg hH (by omega) (by omega) (seg := [.bool (q % 3 == 0)]) (j := 0) (by show 0 + 1 ≤ 4; omega) (by simp [Value.oneCell'])
   have HH1 := Aside0.mk (show Kd.H k56 56 (wr.setCell ⟨g, i * 4, none⟩ (.bool (q % 3 == 0))) w0.heap.size P (.slice (some ⟨g, 0, none⟩) n cap) ys (i : Int) oki [.bool (q % 3 == 0), v1, v2, v3] from hH1)
   have G1 := Aside0.mk g1
   have G2 := Aside0.mk g2
   have G3 := Aside0.mk g3
   have HO := Aside0.mk hoki
   have HX := Aside0.mk hx
   clear hcl hcc hfr hM hH hH1 hg1 g1 g2 g3 hoki hx
   go_wp2_with fail
   have hbg : w0.heap.size ≤ g := Kd.S_base HS.out g rfl
   have hcost2 : 1 + 2 * x.f1.length + x.f2.length + x.f3.length = costN x := rfl
   have b1 := HB.out.setCell (p := ⟨g, i * 4, none⟩) hbg (.bool (q % 3 == 0))
   have r1 := Kd.qcB (p := ⟨g, i * 4, none⟩) (Kd.qe7 rfl G1.out) (fun k hk => (HO.out k hk.2).2) (.bool (q % 3 == 0))
   have r2 := Kd.qcB (p := ⟨g, i * 4, none⟩) (Kd.qe7 rfl G2.out) (fun k hk => (HO.out k hk.2).2) (.bool (q % 3 == 0))
   have r3 := Kd.qcB (p := ⟨g, i * 4, none⟩) (Kd.qe7 rfl G3.out) (fun k hk => (HO.out k hk.2).2) (.bool (q % 3 == 0))
   have R2 := Aside0.mk r2
   have R3 := Aside0.mk r3
   obtain ⟨k1, hk1⟩ := qgz x.f1 (q + 1) (by omega) (by omega) (by omega)
   have hk1 := hk1 k1 (Nat.le_refl _)
   have o12 := qcu r2 r1 (by decide)
   have o13 := qcu r3 r1 (by decide)
   refine (qa4.calls k1 _ v1 x.f1 (q + 1) _ _ w0 _ b1 r1 hk1).mono ?_
   rintro e wa ⟨rfl, ha1, hba, hka⟩
   have HHa := Aside0.mk (Kd.qg6 HH1.out hka (fun k _ hn h => hn h.2))
   have RA1 := Aside0.mk (show k99.R 99 wa w0.heap.size (fun k => some k = v1.ownBlock ∧ oki k) v1 _ from Kd.qfA rfl ha1 (fun k hk => ⟨hk.symm, G1.out.1 k hk⟩))
   have RA2 := Aside0.mk (Kd.qcX R2.out hka (fun k h2 h1 => o12 k h2.1 h1.1))
   have RA3 := Aside0.mk (Kd.qcX R3.out hka (fun k h2 h1 => o13 k h2.1 h1.1))
   have HBa := Aside0.mk hba
   obtain ⟨ca, fa⟩ := Kd.H_at HHa.out (by omega) (by omega)
   have a2 := ca 2 _ rfl
   simp only [Int.toNat_natCast, show k56.sz = 4 from rfl] at a2
   clear e0 e1 e2 e3 f0 b1 r1 r2 r3 ha1 hba ca fa
   go_wp2_with fail
   obtain ⟨k2, hk2⟩ := qfC x.f2 (q + 1 + 2 * (x.f1.length : Int)) (by omega) (by omega) (by omega)
   have hk2 := hk2 k2 (Nat.le_refl _)
   have o21 := qcu RA1.out RA2.out (by decide)
   have o23 := qcu RA3.out RA2.out (by decide)
   refine (qaZ.calls k2 _ v2 x.f2 (q + 1 + 2 * (x.f1.length : Int)) _ _ w0 wa HBa.out RA2.out hk2).mono ?_
   rintro e wb ⟨rfl, ha2, hbb, hkb⟩
   have HHb := Aside0.mk (Kd.qg6 HHa.out hkb (fun k _ hn h => hn h.2))
   have RB1 := Aside0.mk (Kd.qcX RA1.out hkb (fun k h2 h1 => o21 k h2.1 h1.1))
   have RB2 := Aside0.mk (show Kd.string.R 9 wb w0.heap.size (fun k => some k = v2.ownBlock ∧ oki k) v2 _ from Kd.qfA rfl ha2 (fun k hk => ⟨hk.symm, G2.out.1 k hk⟩))
   have RB3 := Aside0.mk (Kd.qcX RA3.out hkb (fun k h2 h1 => o23 k h2.1 h1.1))
   have HBb := Aside0.mk hbb
   obtain ⟨cb, fb⟩ := Kd.H_at HHb.out (by omega) (by omega)
   have a3 := cb 3 _ rfl
   simp only [Int.toNat_natCast, show k56.sz = 4 from rfl] at a3
   clear a2 ha2 hbb cb fb RA1 RA2 RA3 HHa HBa
   go_wp2_with fail
   obtain ⟨k3, hk3⟩ := qee x.f3 (q + 1 + 2 * (x.f1.length : Int) + (x.f2.length : Int)) (by omega) (by omega) (by omega)
   have hk3 := hk3 k3 (Nat.le_refl _)
   have o31 := qcu RB1.out RB3.out (by decide)
   have o32 := qcu RB2.out RB3.out (by decide)
   refine (qa9.calls k3 _ v3 x.f3 (q + 1 + 2 * (x.f1.length : Int) + (x.f2.length : Int)) _ _ w0 wb HBb.out RB3.out hk3).mono ?_
   rintro e wc ⟨rfl, ha3, hbc, hkc⟩
   have HHc := Aside0.mk (Kd.qg6 HHb.out hkc (fun k _ hn h => hn h.2))
   have RC1 := Aside0.mk (Kd.qcX RB1.out hkc (fun k h2 h1 => o31 k h2.1 h1.1))
   have RC2 := Aside0.mk (Kd.qcX RB2.out hkc (fun k h2 h1 => o32 k h2.1 h1.1))
   have RC3 := Aside0.mk (show (Kd.int .i64).R 3 wc w0.heap.size (fun k => some k = v3.ownBlock ∧ oki k) v3 _ from Kd.qfA rfl ha3 (fun k hk => ⟨hk.symm, G3.out.1 k hk⟩))
   have HBc := Aside0.mk hbc
   have HSc := Aside0.mk (show Kd.S k56 56 wc w0.heap.size P (.slice (some ⟨g, 0, none⟩) n cap) (ys.set i (qgn x q)) from Kd.H_back HHc.out (qf6 wc w0.heap.size oki (qgn x q) (Kd.qbv RC1.out (fun k hk => hk.2)) (Kd.qbv RC2.out (fun k hk => hk.2)) (Kd.qbv RC3.out (fun k hk => hk.2))) (fun _ hk => hk))
   clear a3 ha3 hbc RB1 RB2 RB3 HHb HBb HHc RC1 RC2 RC3
   go_wp2_with fail
   go_roundw
   case rel => exact ⟨i + 1, _, ys.set i (qgn x q), by omega, by go_num, rfl, by omega, ⟨by have h := HQ2.out; omega⟩, ⟨by
    rw [List.drop_set_of_lt (by omega)]
    have h0 := congrArg (fun z => z.drop 1) HD.out
    simpa [List.drop_drop] using h0⟩, ⟨by
    rw [List.take_succ_eq_append_getElem (by rw [List.length_set]; exact HYL.out), List.take_set_of_le (Nat.le_refl _), List.getElem_set_self, ← HT.out, HDR.out, qcU, List.append_assoc, show q + (costN x : Int) = q + 1 + 2 * (x.f1.length : Int) + (x.f2.length : Int) + 1 * (x.f3.length : Int) from by omega]
    simp⟩, HSc, HBc, ⟨(((HK.out.setCell (p := ⟨g, i * 4, none⟩) (.inl ((Kd.S_R HS.out).1 g rfl)) _).qf3 hka (fun k h => .inl (HO.out k h.2).1)).qf3 hkb (fun k h => .inl (HO.out k h.2).1)).qf3 hkc (fun k h => .inl (HO.out k h.2).1)⟩⟩
   case measure => simp [intOf]; omega
  ·have he : i = n := by omega
   have c1 : decide ((i : Int) < (n : Int)) = false := decide_eq_false (by omega)
   have hyn : ys.length = n := ((Kd.qb1 HS.out).1).symm
   have HE := Aside0.mk (show ys = qcU l m from by
    have h := HT.out
    rw [he, HN.out, List.drop_length, qcU, List.append_nil, ← HN.out, ← hyn, List.take_length] at h
    exact h)
   have hq : q = m + (qcl l : Int) := by
    have h := HQ.out
    rw [he, HN.out, List.drop_length, qcl] at h
    omega
   clear he hyn
   go_wp2_with fail
   go_ret
   exact ⟨congrArg (fun z => Ending.returned (Value.int .i64 z)) hq, by rw [← HE.out]; exact HS.out, HB.out, HK.out⟩
end Go.Proofs.Ytenfomejccfkgaa.X
namespace Go.Proofs.Ytenfomejccfkgaa.X
open Go.RowKit Go.Proofs.YtenfomejccfkgaaW.PrintWords Go.Proofs.YtenfomejccfkgaaW.PrintLast Go.Proofs.YtenfomejccfkgaaW.PrintMore
attribute [local go_sem] qaC qaD qaE qay qaz qaO qaP qas qat qaA qaB
set_option linter.unusedVariables false
set_option linter.unusedSimpArgs false
set_option maxRecDepth 100000 in
theorem qf8 (P : Nat → Prop) (g n cap : Nat) (l : List S56) (m : Int) (w0 w : World) (hB : Below w0.heap.size w0 w) (hS : Kd.S k56 56 w w0.heap.size P (.slice (some ⟨g, 0, none⟩) n cap) l) (hm : 0 ≤ m) (hcost : m + (qcl l : Int) ≤ 4611686018427387904) :
  Calls Try.prog 21 #[.agg #[.slice (some ⟨g, 0, none⟩) n cap], .int .i64 m] w fun e w' => e = .returned (.int .i64 (m + (qcl l : Int))) ∧ Kd.S k56 56 w' w0.heap.size P (.slice (some ⟨g, 0, none⟩) n cap) (qcU l m) ∧ Below w0.heap.size w0 w' ∧ Kept w w' P := by
 have hu := Try.underlying29
 have HB := Aside0.mk hB
 have HS := Aside0.mk hS
 clear hB hS
 go_enter Try.func21, Try.ntmps21
 go_wp2_with fail
 refine (qfD P g n cap l m w0 _ (HB.out.alloc HB.out.size (.cells #[.slice (some ⟨g, 0, none⟩) n cap] 29 (0, 0))) (Kd.qc8 HS.out _) hm hcost).mono ?_
 rintro e w1 ⟨rfl, h1, h2, h3⟩
 have h3 := ((Kept.refl w P).alloc (.cells #[.slice (some ⟨g, 0, none⟩) n cap] 29 (0, 0))).qf3 h3 (fun k h => .inl h)
 go_wp2_with fail
 go_ret
 exact ⟨rfl, h1, h2, h3⟩
end Go.Proofs.Ytenfomejccfkgaa.X
namespace Go.Proofs.Ytenfomejccfkgaa.X
open Go.RowKit Go.Proofs.YtenfomejccfkgaaW.PrintWords Go.Proofs.YtenfomejccfkgaaW.PrintLast Go.Proofs.YtenfomejccfkgaaW.PrintMore
attribute [local go_sem] qaC qaD qaE qay qaz qaO qaP qas qat qaA qaB
set_option linter.unusedVariables false
set_option linter.unusedSimpArgs false
set_option maxRecDepth 100000 in
theorem qeF (A : Option Addr) (cap : Nat) (m : Int) (w : World) : Calls Try.prog 67 #[.slice A 0 cap, .int .i64 m] w fun e w' => e = .returned (.int .i64 m) ∧ Below w.heap.size w w' := by
 have hu := Try.underlying56
 have HB := Aside0.mk (Below.refl w.heap.size w)
 go_enter Try.func67, Try.ntmps67
 go_wp2_with fail
 go_loopw [1, 5] (fun v1 v5 wr => v5 = .int .i64 0 ∧ v1 = .int .i64 m ∧ Aside0 (Below w.heap.size w wr)) (fun _ v5 _ => 0)
 case atStart => exact ⟨rfl, rfl, HB⟩
 case round =>
  clear HB
  obtain ⟨rfl, rfl, HB⟩ := hrel
  have c1 : decide ((0 : Int) < ((0 : Nat) : Int)) = false := rfl
  go_wp2_with fail
  go_ret
  exact ⟨rfl, HB.out⟩
set_option maxRecDepth 100000 in
theorem qe9 (A : Option Addr) (cap : Nat) (m : Int) (w : World) : Calls Try.prog 21 #[.agg #[.slice A 0 cap], .int .i64 m] w fun e w' => e = .returned (.int .i64 m) ∧ Below w.heap.size w w' := by
 have hu := Try.underlying29
 have HB := Aside0.mk (qab (Below.refl w.heap.size w) (.cells #[.slice A 0 cap] 29 (0, 0)))
 go_enter Try.func21, Try.ntmps21
 go_wp2_with fail
 refine (qeF A cap m _).mono ?_
 rintro e w1 ⟨rfl, hb⟩
 have HB1 := Aside0.mk (qai HB.out hb)
 clear hb HB
 go_wp2_with fail
 go_ret
 exact ⟨rfl, HB1.out⟩
theorem qfE (P : Nat → Prop) (A : Option Addr) (n cap : Nat) (l : List S56) (m : Int) (w0 w : World) (hB : Below w0.heap.size w0 w) (hS : Kd.S k56 56 w w0.heap.size P (.slice A n cap) l) (hm : 0 ≤ m) (hcost : m + (qcl l : Int) ≤ 4611686018427387904) :
  Calls Try.prog 21 #[.agg #[.slice A n cap], .int .i64 m] w fun e w' => e = .returned (.int .i64 (m + (qcl l : Int))) ∧ Kd.S k56 56 w' w0.heap.size P (.slice A n cap) (qcU l m) ∧ Below w0.heap.size w0 w' ∧ Kept w w' P := by
 rcases Nat.eq_zero_or_pos l.length with h0 | h0
 ·have hn := (Kd.qb1 hS).1
  obtain rfl := List.eq_nil_of_length_eq_zero h0
  rw [List.length_nil] at hn
  subst hn
  refine (qe9 A cap m w).mono ?_
  rintro e w' ⟨rfl, hb⟩
  refine ⟨?_, Kd.qcg hS hb, qai hB hb, hb.size, fun k hk _ => hb.block k hk⟩
  show Ending.returned (.int .i64 m) = .returned (.int .i64 (m + ((0 : Nat) : Int)))
  rw [show m + ((0 : Nat) : Int) = m by omega]
 ·obtain ⟨g, c, he, _⟩ := Kd.S_form hS h0
  injection he with h1 h2 h3
  subst h1; subst h2; subst h3
  exact qf8 P g _ _ l m w0 w hB hS hm hcost
theorem qhd {c : Nat} (l : List S56) (h : ∀ x, x ∈ l → costN x ≤ c) : qcl l ≤ l.length * c := by
 induction l with
 | nil => exact Nat.zero_le _
 | cons x l ih =>
  have h1 := h x List.mem_cons_self
  have h2 := ih fun y hy => h y (List.mem_cons_of_mem _ hy)
  show costN x + qcl l ≤ (l.length + 1) * c
  rw [Nat.add_mul, Nat.one_mul]
  omega
end Go.Proofs.Ytenfomejccfkgaa.X
