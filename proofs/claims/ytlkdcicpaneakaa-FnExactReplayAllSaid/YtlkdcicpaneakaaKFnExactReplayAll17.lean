import Derived.Test.YtlkdcicpaneakaaKFnExactReplayAll2
import Derived.Test.YtlkdcicpaneakaaKFnExactReplayAll16
namespace Go.Proofs.Ytlkdcicpaneakaa.X
open Go.RowKit Go.Proofs.YtlkdcicpaneakaaW.PrintWords Go.Proofs.YtlkdcicpaneakaaW.PrintLast Go.Proofs.YtlkdcicpaneakaaW.PrintMore
attribute [local go_sem] qaA qaB qaC qaw qax qaH qaI qap qaq qay qaz
set_option linter.unusedVariables false
set_option linter.unusedSimpArgs false
def qa4.l0 : Nat → List (S72) → List (S56) → Int → Option ((List (S56)))
 | 0, _, _, _ => none
 | k + 1, x0, x3, x4 => if x4 < (x0.length : Int) then (if 0 ≤ x4 then ((qds.f ((qbz x0 x4).f0) ((qbz x0 x4).f1) ((qbz x0 x4).f2) ((qbz x0 x4).f3) ((qbz x0 x4).f4)).bind fun bt282 => (if x4 < (x3.length : Int) then (qa4.l0 k x0 (x3.set (x4 : Int).toNat (⟨bt282.1, bt282.2.1, bt282.2.2.1, bt282.2.2.2.1, bt282.2.2.2.2⟩ : S56)) (wrap64 (x4 + 1))) else (none))) else (none)) else (some x3)
def qa4.f (k : Nat) (l0 : List (S72)) : Option ((List (S56))) := if 0 ≤ (l0.length : Int) then (if ((l0.length : Int) : Int).toNat ≤ 5026338869833 then (qa4.l0 k l0 (List.replicate ((l0.length : Int) : Int).toNat z56) 0) else (none)) else (none)
theorem qa4.qbA : ∀ k, (∀ y0 y1 y2, LeO (qa4.l0 k y0 y1 y2) (qa4.l0 (k + 1) y0 y1 y2))
 | 0 => fun _ _ _ r h => by simp [qa4.l0] at h
 | k + 1 => by
  have ih0 := qa4.qbA k
  ·intro y0 y1 y2
   unfold qa4.l0
   repeat' first
   | (with_reducible exact ih0 _ _ _)
   | (with_reducible exact LeO.refl _)
   | (with_reducible exact LeO.none _)
   | (with_reducible refine LeO.ite ?_ ?_)
   | (with_reducible refine LeO.bind ?_ (fun _ => ?_))
   | exact ih0 _ _ _
   | exact LeO.none _
   | refine LeO.ite ?_ ?_
   | refine LeO.bind ?_ (fun _ => ?_)
theorem qa4.mono : ∀ a0 k, LeO (qa4.f k a0) (qa4.f (k + 1) a0) := by
 intro a0 k
 have ih0 := qa4.qbA k
 unfold qa4.f
 repeat' first
   | (with_reducible exact ih0 _ _ _)
   | (with_reducible exact LeO.refl _)
   | (with_reducible exact LeO.none _)
   | (with_reducible refine LeO.ite ?_ ?_)
   | (with_reducible refine LeO.bind ?_ (fun _ => ?_))
   | exact ih0 _ _ _
   | exact LeO.none _
   | refine LeO.ite ?_ ?_
   | refine LeO.bind ?_ (fun _ => ?_)
set_option maxHeartbeats 8000000 in
set_option maxRecDepth 100000 in
theorem qa4.calls (k : Nat) (A0 : Option Addr) (c0 : Nat) (l0 : List (S72)) (r : List (S56)) (w : World) (hr0 : Kd.C k72 w A0 l0.length l0) (hc0 : l0.length ≤ c0) (h : qa4.f k l0 = some r) :
  Calls Try.prog 35 #[.slice A0 l0.length c0] w fun e w' => ∃ v0_ : Value, e = .returned (v0_) ∧ Kd.R k56 56 w' w.heap.size (fun _ => True) v0_ r ∧ Below w.heap.size w w' := by
 have hu72 := Try.underlying72
 have hu56 := Try.underlying56
 have HR0 := Aside0.mk hr0
 have HC0 := Aside0.mk hc0
 clear hr0 hc0
 have HB := Aside0.mk (Below.refl w.heap.size w)
 have H : (if 0 ≤ (l0.length : Int) then (if ((l0.length : Int) : Int).toNat ≤ 5026338869833 then (qa4.l0 k l0 (List.replicate ((l0.length : Int) : Int).toNat z56) 0) else (none)) else (none)) = some r := h
 clear h
 by_cases c2 : 0 ≤ (l0.length : Int)
 ·rw [if_pos c2] at H
  have c2b0 := eq_true c2
  have c2b1 : decide (0 ≤ (l0.length : Int)) = true := decide_eq_true c2
  clear c2
  by_cases c3 : ((l0.length : Int) : Int).toNat ≤ 5026338869833
  ·rw [if_pos c3] at H
   have c3b0 := eq_true c3
   have c3b1 : decide (((l0.length : Int) : Int).toNat ≤ 5026338869833) = true := decide_eq_true c3
   clear c3
   obtain ⟨y278, hy278⟩ : ∃ y_ : List (S56), y_ = (List.replicate ((l0.length : Int) : Int).toNat z56) := ⟨_, rfl⟩
   replace H : (qa4.l0 k l0 y278 0) = some r := by first | (rw [hy278]; with_reducible exact H) | (have H2_ := (Option.bind_some _ _).symm.trans H; rw [hy278]; with_reducible exact H2_) | (have H2_ := (Option.bind_some _ _).symm.trans H; with_reducible exact H2_) | with_reducible exact H | (rw [hy278]; exact H) | exact H
   have Ny278 := Aside0.mk hy278
   clear hy278
   have H' := Aside0.mk H
   clear H
   go_enter Try.func35, Try.ntmps35
   go_wp2_with (first | ((with_reducible refine qaM (N := 7) rfl ?_); refine Kd.qh3 k56 _ 56 rfl (N := 7) rfl 39 _ _ rfl (l0.length : Int) rfl rfl Try.underlying39 (.agg #[(.string ⟨#[]⟩), (.string ⟨#[]⟩), (.string ⟨#[]⟩), (.bool false), (.bool false)]) 56 info56 rfl (by decide) (by omega) z56 (ok := fun _ => True) (okp := fun _ => True) (qee _ _ _ z56 ) (fun _ hk => hk) trivial (of_decide_eq_true (by first | (with_reducible assumption) | assumption)) (Nat.le_trans (Nat.mul_le_mul_right _ (of_decide_eq_true (by first | (with_reducible assumption) | assumption) : (l0.length : Int).toNat ≤ 5026338869833)) (by omega)) (Below.refl _ _) (Nat.le_refl _) ?_; intro v279 w4 ho5 hb hg_ hnew_; clear hg_ hnew_; (first | rw [← Ny278.out] at ho5 | (simp only [Int.reduceToNat] at ho5; rw [← Ny278.out] at ho5)); have n0_ := Aside0.mk (Kd.qbh ho5 (qak (by repeat (first | (with_reducible first | exact HB.out | apply qac | apply qaa | apply qab) | exact HB.out)))); have n1_ := Aside0.mk (qag (by repeat (first | (with_reducible first | exact HB.out | apply qac | apply qaa | apply qab) | exact HB.out)) hb); clear HB; have HO280 := n0_; have HB := n1_; clear n0_ n1_; clear hb ho5))
   go_loopg [4] k (fun kq v4 w' => ∃ (x3_1 : List (S56)) (x4_1 : Int), v4 = .int .i64 x4_1 ∧ Aside0 (qa4.l0 kq l0 x3_1 x4_1 = some r) ∧ Aside0 (kq ≤ k) ∧ Aside0 (Kd.R k56 56 w' w.heap.size (fun _ => True) v279 x3_1) ∧ Aside0 (Below w.heap.size w w'))
   case atStart => exact ⟨(y278), (0), (by first | rfl | (simp; done) | (simp [*]; done)), H', ⟨Nat.le_refl _⟩, ⟨by (with_reducible repeat (first | apply Kd.qar | apply Kd.qas | apply Kd.qaD)); exact HO280.out⟩, ⟨by repeat (first | (with_reducible first | exact HB.out | apply qac | apply qaa | apply qab) | exact HB.out)⟩⟩
   case round =>
    clear H'
    try clear c2
    try clear c2b0
    try clear c2b1
    try clear p2
    try clear c3
    try clear c3b0
    try clear c3b1
    obtain ⟨x3_1, x4_1, rfl, HA, HK1, HO_3, HB⟩ := hrel
    cases gk with
    | zero => exact absurd HA.out (by simp [qa4.l0])
    | succ k1 =>
     have H := HA.out
     clear HA
     simp only [qa4.l0] at H
     by_cases c6 : x4_1 < (l0.length : Int)
     ·rw [if_pos c6] at H
      have c6b0 : decide (x4_1 < (l0.length : Int)) = true := decide_eq_true c6
      clear c6
      by_cases c7 : 0 ≤ x4_1
      ·rw [if_pos c7] at H
       have c7b0 : decide (0 ≤ x4_1) = true := decide_eq_true c7
       clear c7
       replace H := Option.bind_eq_some_iff.mp H
       obtain ⟨⟨t282, t283, t284, t285, t286⟩, A80, H⟩ := H
       try dsimp only at H
       have A8 := Aside0.mk A80
       clear A80
       by_cases c9 : x4_1 < (x3_1.length : Int)
       ·rw [if_pos c9] at H
        have c9b0 : decide (x4_1 < (x3_1.length : Int)) = true := decide_eq_true c9
        clear c9
        obtain ⟨y287, hy287⟩ : ∃ y_ : List (S56), y_ = (x3_1.set (x4_1 : Int).toNat (⟨t282, t283, t284, t285, t286⟩ : S56)) := ⟨_, rfl⟩
        replace H : (qa4.l0 k1 l0 y287 (wrap64 (x4_1 + 1))) = some r := by first | (rw [hy287]; with_reducible exact H) | (have H2_ := (Option.bind_some _ _).symm.trans H; rw [hy287]; with_reducible exact H2_) | (have H2_ := (Option.bind_some _ _).symm.trans H; with_reducible exact H2_) | with_reducible exact H | (rw [hy287]; exact H) | exact H
        have Ny287 := Aside0.mk hy287
        clear hy287
        have H' := Aside0.mk H
        clear H
        have p281 : 0 ≤ (x4_1 : Int) := of_decide_eq_true (by first | (with_reducible assumption) | assumption)
        have q281 : x4_1 < (l0.length : Int) := of_decide_eq_true (by first | (with_reducible assumption) | assumption)
        obtain ⟨ad281, e281, hx281_0, hx281_1, hx281_2, hx281_3, hx281_4⟩ := qil HR0.out x4_1 p281 q281
        cases e281
        replace hx281_0 := (HB.out.cell (World.block_lt_of_cell? w _ hx281_0)).trans hx281_0
        replace hx281_1 := (HB.out.cell (World.block_lt_of_cell? w _ hx281_1)).trans hx281_1
        replace hx281_2 := (HB.out.cell (World.block_lt_of_cell? w _ hx281_2)).trans hx281_2
        replace hx281_3 := (HB.out.cell (World.block_lt_of_cell? w _ hx281_3)).trans hx281_3
        replace hx281_4 := (HB.out.cell (World.block_lt_of_cell? w _ hx281_4)).trans hx281_4
        replace p281 := eq_true p281
        replace q281 := eq_true q281
        go_wp2_with (first | ((with_reducible refine qaE (f := 51) rfl ?_); refine qbn (some 20) rfl rfl Try.func51 (by kernel_rfl) rfl #[.agg #[.string ((qbz l0 x4_1).f0), .string ((qbz l0 x4_1).f1), .string ((qbz l0 x4_1).f2), .bool ((qbz l0 x4_1).f3), .bool ((qbz l0 x4_1).f4)]] rfl (by (try simp only [List.map_toArray, List.map_cons, List.map_nil]); first | done | rfl | (simp only [List.length_drop, List.length_take]; rfl)) ?_; (with_reducible refine (qds.calls ((qbz l0 x4_1).f0) ((qbz l0 x4_1).f1) ((qbz l0 x4_1).f2) ((qbz l0 x4_1).f3) ((qbz l0 x4_1).f4) t282 t283 t284 t285 t286 _ A8.out).mono ?_); rintro e w11 ⟨rfl, hb⟩; refine ⟨_, rfl, ?_⟩; have n0_ := Aside0.mk (Kd.qaX (by (with_reducible repeat (first | apply Kd.qar | apply Kd.qas | apply Kd.qaD)); exact HO_3.out) hb); have n1_ := Aside0.mk (qag (by repeat (first | (with_reducible first | exact HB.out | apply qac | apply qaa | apply qab) | exact HB.out)) hb); clear HO_3 HB; have HO_3 := n0_; have HB := n1_; clear n0_ n1_; (try clear hb); (try clear hb2); (try clear hk); (try clear hi); have p10 : 0 ≤ (x4_1 : Int) := of_decide_eq_true (by first | (with_reducible assumption) | assumption); have q10 : (x4_1 : Int) < ((x3_1.length : Int) : Int) := of_decide_eq_true (by first | (with_reducible assumption) | assumption); obtain ⟨go10, co10, eo10, gb10, gl10, cl10, HG10⟩ := Kd.qdM HO_3.out (by omega); (first | cases eo10 | (injection eo10 with ea_ en_ ec_; (first | subst ea_ | (injection ea_ with ea_; subst ea_)); subst ec_; clear en_)); have GB10 := Aside0.mk gb10; have GG10 := Aside0.mk HG10; clear gb10 gl10 HG10; obtain ⟨ce10, hcl10, hM10, hcc10, hfr10⟩ := Kd.qcU HO_3.out z56 (x4_1 : Int) p10 q10; obtain rfl := qcy hM10; have hx10_0 : w11.cell? ⟨go10, (x4_1 : Int).toNat * 5, none⟩ = some (.string ((qaf x3_1 x4_1).f0)) := hcc10 0 _ rfl; have hx10_1 : w11.cell? ⟨go10, (x4_1 : Int).toNat * 5 + 1, none⟩ = some (.string ((qaf x3_1 x4_1).f1)) := hcc10 1 _ rfl; have hx10_2 : w11.cell? ⟨go10, (x4_1 : Int).toNat * 5 + 2, none⟩ = some (.string ((qaf x3_1 x4_1).f2)) := hcc10 2 _ rfl; have hx10_3 : w11.cell? ⟨go10, (x4_1 : Int).toNat * 5 + 3, none⟩ = some (.bool ((qaf x3_1 x4_1).f3)) := hcc10 3 _ rfl; have hx10_4 : w11.cell? ⟨go10, (x4_1 : Int).toNat * 5 + 4, none⟩ = some (.bool ((qaf x3_1 x4_1).f4)) := hcc10 4 _ rfl; have hf10_0 : w11.frozen? ⟨go10, (x4_1 : Int).toNat * 5, none⟩ = false := hfr10 0; have hf10_1 : w11.frozen? ⟨go10, (x4_1 : Int).toNat * 5 + 1, none⟩ = false := hfr10 1; have hf10_2 : w11.frozen? ⟨go10, (x4_1 : Int).toNat * 5 + 2, none⟩ = false := hfr10 2; have hf10_3 : w11.frozen? ⟨go10, (x4_1 : Int).toNat * 5 + 3, none⟩ = false := hfr10 3; have hf10_4 : w11.frozen? ⟨go10, (x4_1 : Int).toNat * 5 + 4, none⟩ = false := hfr10 4; clear hcl10 hcc10 hfr10 hM10; replace p10 := eq_true p10; replace q10 := eq_true q10; have HX12 := Aside0.mk (show Kd.R k56 56 w11 w.heap.size (fun _ => True) (.slice (some ⟨go10, 0, none⟩) x3_1.length co10) x3_1 from (by (with_reducible repeat (first | apply Kd.qar | apply Kd.qas | apply Kd.qaD)); exact HO_3.out)); obtain ⟨ce12, hcl12, hM12, hcc12, hfr12⟩ := Kd.qcU HX12.out z56 (x4_1 : Int) (of_decide_eq_true (by first | (with_reducible assumption) | assumption)) (by have h_ : (x4_1 : Int) < ((x3_1.length : Int) : Int) := of_decide_eq_true (by first | (with_reducible assumption) | assumption); first | exact h_ | (have e_ := (Kd.qaO HO_3.out).1; omega) | simpa using h_); obtain rfl := qcy hM12; have HP12 := Kd.qfx HX12.out (x4_1 : Int) (of_decide_eq_true (by first | (with_reducible assumption) | assumption)) (by have h_ : (x4_1 : Int) < ((x3_1.length : Int) : Int) := of_decide_eq_true (by first | (with_reducible assumption) | assumption); first | exact h_ | (have e_ := (Kd.qaO HO_3.out).1; omega) | simpa using h_) (seg := [.string t282, .string t283, .string t284, .bool t285, .bool t286]) (j := 0) hcl12 hcc12 (show 5 ≤ 5 from by decide) (x' := (⟨t282, t283, t284, t285, t286⟩ : S56)) (qee _ _ _ (⟨t282, t283, t284, t285, t286⟩ : S56) ) (fun _ hk => hk); have hx12_0 := hcc12 0 _ rfl; (try simp only [show (k56).sz = 5 from rfl, Nat.mul_one, Nat.add_zero] at hx12_0); have hf12_0 := hfr12 0; (try simp only [show (k56).sz = 5 from rfl, Nat.mul_one, Nat.add_zero] at hf12_0); have hx12_1 := hcc12 1 _ rfl; (try simp only [show (k56).sz = 5 from rfl, Nat.mul_one, Nat.add_zero] at hx12_1); have hf12_1 := hfr12 1; (try simp only [show (k56).sz = 5 from rfl, Nat.mul_one, Nat.add_zero] at hf12_1); have hx12_2 := hcc12 2 _ rfl; (try simp only [show (k56).sz = 5 from rfl, Nat.mul_one, Nat.add_zero] at hx12_2); have hf12_2 := hfr12 2; (try simp only [show (k56).sz = 5 from rfl, Nat.mul_one, Nat.add_zero] at hf12_2); have hx12_3 := hcc12 3 _ rfl; (try simp only [show (k56).sz = 5 from rfl, Nat.mul_one, Nat.add_zero] at hx12_3); have hf12_3 := hfr12 3; (try simp only [show (k56).sz = 5 from rfl, Nat.mul_one, Nat.add_zero] at hf12_3); have hx12_4 := hcc12 4 _ rfl; (try simp only [show (k56).sz = 5 from rfl, Nat.mul_one, Nat.add_zero] at hx12_4); have hf12_4 := hfr12 4; (try simp only [show (k56).sz = 5 from rfl, Nat.mul_one, Nat.add_zero] at hf12_4); clear hcl12 hcc12 hfr12 hM12) | ((with_reducible refine qcr (t := 56) (p := 21) rfl ?_); refine qcg (t := 56) (p := 21) (v := ?vo_w13) (w1 := (((((w11.setCell ⟨go10, (x4_1 : Int).toNat * 5, none⟩ (.string t282)).setCell ⟨go10, (x4_1 : Int).toNat * 5 + 1, none⟩ (.string t283)).setCell ⟨go10, (x4_1 : Int).toNat * 5 + 2, none⟩ (.string t284)).setCell ⟨go10, (x4_1 : Int).toNat * 5 + 3, none⟩ (.bool t285)).setCell ⟨go10, (x4_1 : Int).toNat * 5 + 4, none⟩ (.bool t286))) ?hg ?ho ?hn ?hr ?_; (case ho => rfl); (case hg => rfl); (case hn => rfl); (case hr => first | (go_simp; done) | (go_simp; rfl)); intro w13 hw; have hg : w11.grownBy w13 (some go10) := (by rw [hw]; exact HP12.2); have hp_ : Kd.R k56 56 w13 w.heap.size (fun _ => True) (.slice (some ⟨go10, 0, none⟩) x3_1.length co10) y287 := (by rw [hw, Ny287.out]; exact HP12.1); clear HP12; have n0_ := Aside0.mk (hp_); have n1_ := Aside0.mk ((by rw [hw]; exact qah (qah (qah (qah (qah (HB.out) GB10.out) GB10.out) GB10.out) GB10.out) GB10.out : Below w.heap.size w w13)); clear HO_3 HB; have HO_3 := n0_; have HB := n1_; clear n0_ n1_; clear hg hw hp_))
        go_roundg k1
        case measure => have := HK1.out; omega
        case rel => exact ⟨(y287), (wrap64 (x4_1 + 1)), (by first | rfl | (simp; done) | (simp [*]; done)), H', ⟨by have := HK1.out; omega⟩, ⟨by (with_reducible repeat (first | apply Kd.qar | apply Kd.qas | apply Kd.qaD)); exact HO_3.out⟩, ⟨by repeat (first | (with_reducible first | exact HB.out | apply qac | apply qaa | apply qab) | exact HB.out)⟩⟩
       ·rw [if_neg c9] at H
        exact absurd H (by simp)
      ·rw [if_neg c7] at H
       exact absurd H (by simp)
     ·rw [if_neg c6] at H
      have c6b0 : decide (x4_1 < (l0.length : Int)) = false := decide_eq_false c6
      clear c6
      obtain rfl := Option.some.inj H
      go_wp2
      go_ret
      exact ⟨_, by first | rfl | (simp [qam, qan] <;> rfl) | (simp [*, qam, qan] <;> rfl), by (with_reducible repeat (first | apply Kd.qar | apply Kd.qas | apply Kd.qaD)); exact HO_3.out, by repeat (first | (with_reducible first | exact HB.out | apply qac | apply qaa | apply qab) | exact HB.out)⟩
  ·rw [if_neg c3] at H
   exact absurd H (by simp)
 ·rw [if_neg c2] at H
  exact absurd H (by simp)
theorem qgf (rest : List S72) : ∀ (pre : List S72), ((pre ++ rest).length : Int) ≤ 1048576 → (∀ y ∈ rest, sm72 1048576 y) →
  Ev (fun k => qa4.l0 k (pre ++ rest) (pre.map cv72 ++ List.replicate rest.length z56) ((pre.length : Nat) : Int)) ((pre ++ rest).map cv72) := by
 induction rest with
 | nil =>
  intro pre hl hs
  refine Ev.succ ?_
  simp only [qa4.l0]
  exact Ev.neg (by simp) (Ev.is (by simp))
 | cons x rest ih =>
  intro pre hl hs
  have hx : qbz (pre ++ x :: rest) ((pre.length : Nat) : Int) = x := by simp [qbz, List.getD_eq_getElem?_getD]
  have hlt : ((pre.length : Nat) : Int) < ((pre ++ x :: rest).length : Int) := by simp; omega
  have hw : wrap64 (((pre.length : Nat) : Int) + 1) = (((pre ++ [x]).length : Nat) : Int) := by rw [← qcp]; exact qcu (by omega)
  have hset : ∀ v : S56, ((pre.map cv72 ++ List.replicate (x :: rest).length z56).set ((pre.length : Nat) : Int).toNat v) = (pre.map cv72 ++ [v]) ++ List.replicate rest.length z56 := fun v => by rw [Int.toNat_natCast, List.length_cons, List.replicate_succ]; simp
  have hi := ih (pre ++ [x]) (by simpa using hl) (fun y hy => hs y (List.mem_cons_of_mem _ hy))
  refine Ev.succ ?_
  simp only [qa4.l0, hx]
  refine Ev.pos hlt (Ev.pos (by omega) ?_)
  refine Ev.bindk (to_Diff x) ?_
  refine Ev.pos (by simp; omega) ?_
  simp only [hset, hw]
  have e1 : pre ++ x :: rest = (pre ++ [x]) ++ rest := by simp
  have e2 : (pre ++ [x]).map cv72 = pre.map cv72 ++ [cv72 x] := by simp
  rw [e1]
  rw [e2] at hi
  exact hi
theorem to_DiffS (l : List S72) (hs : ((l.length : Int) ≤ 1048576 ∧ ∀ y ∈ l, sm72 1048576 y)) : Ev (fun k => qa4.f k l) (l.map cv72) := by
 have hl : (l.length : Int) ≤ 1048576 := hs.1
 unfold qa4.f
 refine Ev.pos (by omega) (Ev.pos (by omega) ?_)
 have h := qgf l [] (by simpa using hl) hs.2
 simpa using h
def qbR.f (k : Nat) (a0_0 : ByteArray) (a0_1 : ByteArray) (a0_2 : Int) (l0_3 : List (S72)) (a0_4 : Int) : Option (ByteArray × ByteArray × Int × (List (S56)) × Int) := (qa4.f k l0_3).bind fun t291 => (some (a0_0, a0_1, a0_2, t291, a0_4))
theorem qbR.mono : ∀ a0 a1 a2 a3 a4 k, LeO (qbR.f k a0 a1 a2 a3 a4) (qbR.f (k + 1) a0 a1 a2 a3 a4) := by
 intro a0 a1 a2 a3 a4 k
 unfold qbR.f
 repeat' first
   | (with_reducible exact qa4.mono _ _)
   | (with_reducible exact LeO.refl _)
   | (with_reducible exact LeO.none _)
   | (with_reducible refine LeO.ite ?_ ?_)
   | (with_reducible refine LeO.bind ?_ (fun _ => ?_))
   | exact qa4.mono _ _
   | exact LeO.none _
   | refine LeO.ite ?_ ?_
   | refine LeO.bind ?_ (fun _ => ?_)
set_option maxHeartbeats 8000000 in
set_option maxRecDepth 100000 in
theorem qbR.calls (k : Nat) (a0_0 : ByteArray) (a0_1 : ByteArray) (a0_2 : Int) (A0_3 : Option Addr) (c0_3 : Nat) (l0_3 : List (S72)) (a0_4 : Int) (r1 : ByteArray) (r2 : ByteArray) (r3 : Int) (r4 : List (S56)) (r5 : Int) (w : World) (hr0_3 : Kd.C k72 w A0_3 l0_3.length l0_3) (hc0_3 : l0_3.length ≤ c0_3) (h : qbR.f k a0_0 a0_1 a0_2 l0_3 a0_4 = some (r1, r2, r3, r4, r5)) :
  Calls Try.prog 17 #[.agg #[.string a0_0, .string a0_1, .int .i64 a0_2, .slice A0_3 l0_3.length c0_3, .int .i64 a0_4]] w fun e w' => ∃ v3_ : Value, e = .returned (.agg #[.string r1, .string r2, .int .i64 r3, v3_, .int .i64 r5]) ∧ Kd.R k56 56 w' w.heap.size (fun _ => True) v3_ r4 ∧ Below w.heap.size w w' := by
 have hu37 := Try.underlying37
 have hu41 := Try.underlying41
 have HR0_3 := Aside0.mk hr0_3
 have HC0_3 := Aside0.mk hc0_3
 clear hr0_3 hc0_3
 have HB := Aside0.mk (Below.refl w.heap.size w)
 have H : ((qa4.f k l0_3).bind fun t291 => (some (a0_0, a0_1, a0_2, t291, a0_4))) = some (r1, r2, r3, r4, r5) := h
 clear h
 replace H := Option.bind_eq_some_iff.mp H
 obtain ⟨t291, A20, H⟩ := H
 try dsimp only at H
 have A2 := Aside0.mk A20
 clear A20
 simp only [Option.some.injEq, Prod.mk.injEq] at H
 obtain ⟨rfl, rfl, rfl, rfl, rfl⟩ := H
 go_enter Try.func17, Try.ntmps17
 go_wp2_with (first | ((with_reducible refine qaM (N := 1) rfl ?_); refine qaN ?hg (N := 1) ?hd (cs := #[.string a0_0, .string a0_1, .int .i64 a0_2, .slice A0_3 l0_3.length c0_3, .int .i64 a0_4]) (t := 37) ?hr ?_; (case hd => rfl); (case hg => rfl); (case hr => first | (go_simp; done) | (go_simp; rfl)); intro gb288 hg w3 hbox hb; have n0_ := Aside0.mk (qag (by repeat (first | (with_reducible first | exact HB.out | apply qac | apply qaa | apply qab) | exact HB.out)) hb); have n1_ := Aside0.mk (hbox); have n2_ := Aside0.mk ((by rw [hg]; exact (qak (by repeat (first | (with_reducible first | exact HB.out | apply qac | apply qaa | apply qab) | exact HB.out))) : w.heap.size ≤ gb288)); have n3_ := Aside0.mk ((by rw [hg]; exact (qak (by repeat (first | (with_reducible first | exact HB.out | apply qac | apply qaa | apply qab) | exact HB.out))) : w.heap.size ≤ gb288)); clear HB; have HB := n0_; have BK288 := n1_; have GW288 := n2_; have GE288 := n3_; clear n0_ n1_ n2_ n3_; clear hb hbox hg) | ((with_reducible refine qaM (N := 2) rfl ?_); refine qaN ?hg (N := 2) ?hd (cs := #[.string (⟨#[]⟩ : ByteArray), .string (⟨#[]⟩ : ByteArray), .int .i64 0, .slice none 0 0, .int .i64 0]) (t := 41) ?hr ?_; (case hd => rfl); (case hg => rfl); (case hr => first | (go_simp; done) | (go_simp; rfl)); intro gb289 hg w4 hbox hb; have n0_ := Aside0.mk (qao (g := gb288) (o := .cells #[.string a0_0, .string a0_1, .int .i64 a0_2, .slice A0_3 l0_3.length c0_3, .int .i64 a0_4] 37 (0, 0)) (by (with_reducible repeat (first | refine qaj ?_ _ | refine qal ?_ | refine qai ?_ _)); exact BK288.out) hb); have n1_ := Aside0.mk (qag (by repeat (first | (with_reducible first | exact HB.out | apply qac | apply qaa | apply qab | refine qah ?_ GE288.out) | exact HB.out)) hb); have n2_ := Aside0.mk (hbox); have n3_ := Aside0.mk ((by rw [hg]; exact (qak (by repeat (first | (with_reducible first | exact HB.out | apply qac | apply qaa | apply qab | refine qah ?_ GE288.out) | exact HB.out))) : w.heap.size ≤ gb289)); have n4_ := Aside0.mk ((by rw [hg]; exact (qak (by repeat (first | (with_reducible first | exact HB.out | apply qac | apply qaa | apply qab | refine qah ?_ GE288.out) | exact HB.out))) : w.heap.size ≤ gb289)); have n5_ := Aside0.mk ((by rw [hg]; exact Nat.ne_of_lt (qbm (g := gb288) (o := .cells #[.string a0_0, .string a0_1, .int .i64 a0_2, .slice A0_3 l0_3.length c0_3, .int .i64 a0_4] 37 (0, 0)) (by (with_reducible repeat (first | refine qaj ?_ _ | refine qal ?_ | refine qai ?_ _)); exact BK288.out)) : gb288 ≠ gb289)); have n6_ := Aside0.mk ((by rw [hg]; exact Nat.ne_of_gt (qbm (g := gb288) (o := .cells #[.string a0_0, .string a0_1, .int .i64 a0_2, .slice A0_3 l0_3.length c0_3, .int .i64 a0_4] 37 (0, 0)) (by (with_reducible repeat (first | refine qaj ?_ _ | refine qal ?_ | refine qai ?_ _)); exact BK288.out)) : gb289 ≠ gb288)); clear BK288 HB; have BK288 := n0_; have HB := n1_; have BK289 := n2_; have GW289 := n3_; have GE289 := n4_; have NB288_289 := n5_; have NB289_288 := n6_; clear n0_ n1_ n2_ n3_ n4_ n5_ n6_; clear hb hbox hg) | ((with_reducible refine qaM (N := 3) rfl ?_); refine qaN ?hg (N := 3) ?hd (cs := #[.string (⟨#[]⟩ : ByteArray), .string (⟨#[]⟩ : ByteArray), .int .i64 0, .slice none 0 0, .int .i64 0]) (t := 41) ?hr ?_; (case hd => rfl); (case hg => rfl); (case hr => first | (go_simp; done) | (go_simp; rfl)); intro gb290 hg w5 hbox hb; have n0_ := Aside0.mk (qao (g := gb288) (o := .cells #[.string a0_0, .string a0_1, .int .i64 a0_2, .slice A0_3 l0_3.length c0_3, .int .i64 a0_4] 37 (0, 0)) (by (with_reducible repeat (first | refine qaj ?_ _ | refine qal ?_ | refine qai ?_ _)); exact BK288.out) hb); have n1_ := Aside0.mk (qao (g := gb289) (o := .cells #[.string (⟨#[]⟩ : ByteArray), .string (⟨#[]⟩ : ByteArray), .int .i64 0, .slice none 0 0, .int .i64 0] 41 (0, 0)) (by (with_reducible repeat (first | refine qaj ?_ _ | refine qal ?_ | refine qai ?_ _)); exact BK289.out) hb); have n2_ := Aside0.mk (qag (by repeat (first | (with_reducible first | exact HB.out | apply qac | apply qaa | apply qab | refine qah ?_ GE288.out | refine qah ?_ GE289.out) | exact HB.out)) hb); have n3_ := Aside0.mk (hbox); have n4_ := Aside0.mk ((by rw [hg]; exact (qak (by repeat (first | (with_reducible first | exact HB.out | apply qac | apply qaa | apply qab | refine qah ?_ GE288.out | refine qah ?_ GE289.out) | exact HB.out))) : w.heap.size ≤ gb290)); have n5_ := Aside0.mk ((by rw [hg]; exact (qak (by repeat (first | (with_reducible first | exact HB.out | apply qac | apply qaa | apply qab | refine qah ?_ GE288.out | refine qah ?_ GE289.out) | exact HB.out))) : w.heap.size ≤ gb290)); have n6_ := Aside0.mk ((by rw [hg]; exact Nat.ne_of_lt (qbm (g := gb288) (o := .cells #[.string a0_0, .string a0_1, .int .i64 a0_2, .slice A0_3 l0_3.length c0_3, .int .i64 a0_4] 37 (0, 0)) (by (with_reducible repeat (first | refine qaj ?_ _ | refine qal ?_ | refine qai ?_ _)); exact BK288.out)) : gb288 ≠ gb290)); have n7_ := Aside0.mk ((by rw [hg]; exact Nat.ne_of_gt (qbm (g := gb288) (o := .cells #[.string a0_0, .string a0_1, .int .i64 a0_2, .slice A0_3 l0_3.length c0_3, .int .i64 a0_4] 37 (0, 0)) (by (with_reducible repeat (first | refine qaj ?_ _ | refine qal ?_ | refine qai ?_ _)); exact BK288.out)) : gb290 ≠ gb288)); have n8_ := Aside0.mk ((by rw [hg]; exact Nat.ne_of_lt (qbm (g := gb289) (o := .cells #[.string (⟨#[]⟩ : ByteArray), .string (⟨#[]⟩ : ByteArray), .int .i64 0, .slice none 0 0, .int .i64 0] 41 (0, 0)) (by (with_reducible repeat (first | refine qaj ?_ _ | refine qal ?_ | refine qai ?_ _)); exact BK289.out)) : gb289 ≠ gb290)); have n9_ := Aside0.mk ((by rw [hg]; exact Nat.ne_of_gt (qbm (g := gb289) (o := .cells #[.string (⟨#[]⟩ : ByteArray), .string (⟨#[]⟩ : ByteArray), .int .i64 0, .slice none 0 0, .int .i64 0] 41 (0, 0)) (by (with_reducible repeat (first | refine qaj ?_ _ | refine qal ?_ | refine qai ?_ _)); exact BK289.out)) : gb290 ≠ gb289)); clear BK288 BK289 HB; have BK288 := n0_; have BK289 := n1_; have HB := n2_; have BK290 := n3_; have GW290 := n4_; have GE290 := n5_; have NB288_290 := n6_; have NB290_288 := n7_; have NB289_290 := n8_; have NB290_289 := n9_; clear n0_ n1_ n2_ n3_ n4_ n5_ n6_ n7_ n8_ n9_ hb hbox hg; have hnb6 := NB288_289.out; have hnc6 := NB289_288.out; have hnb7 := NB288_290.out; have hnc7 := NB290_288.out; have hcz8_0 : w5.cell? ⟨gb288, 0, none⟩ = some (.string a0_0) := (qad BK288.out 0).trans rfl; have hcz8_1 : w5.cell? ⟨gb288, 1, none⟩ = some (.string a0_1) := (qad BK288.out 1).trans rfl; have hcz8_2 : w5.cell? ⟨gb288, 2, none⟩ = some (.int .i64 a0_2) := (qad BK288.out 2).trans rfl; have hcz8_3 : w5.cell? ⟨gb288, 3, none⟩ = some (.slice A0_3 l0_3.length c0_3) := (qad BK288.out 3).trans rfl; have hcz8_4 : w5.cell? ⟨gb288, 4, none⟩ = some (.int .i64 a0_4) := (qad BK288.out 4).trans rfl; have hfz8_0 := qae BK288.out 0; have hfz8_1 := qae BK288.out 1; have hfz8_2 := qae BK288.out 2; have hfz8_3 := qae BK288.out 3; have hfz8_4 := qae BK288.out 4; have hnb9 := NB290_289.out; have hnc9 := NB289_290.out; have hcz10_0 : w5.cell? ⟨gb290, 0, none⟩ = some (.string (⟨#[]⟩ : ByteArray)) := (qad BK290.out 0).trans rfl; have hcz10_1 : w5.cell? ⟨gb290, 1, none⟩ = some (.string (⟨#[]⟩ : ByteArray)) := (qad BK290.out 1).trans rfl; have hcz10_2 : w5.cell? ⟨gb290, 2, none⟩ = some (.int .i64 0) := (qad BK290.out 2).trans rfl; have hcz10_3 : w5.cell? ⟨gb290, 3, none⟩ = some (.slice none 0 0) := (qad BK290.out 3).trans rfl; have hcz10_4 : w5.cell? ⟨gb290, 4, none⟩ = some (.int .i64 0) := (qad BK290.out 4).trans rfl; have hfz10_0 := qae BK290.out 0; have hfz10_1 := qae BK290.out 1; have hfz10_2 := qae BK290.out 2; have hfz10_3 := qae BK290.out 3; have hfz10_4 := qae BK290.out 4) | ((with_reducible refine qaE (f := 35) rfl ?_); refine qbn (some 15) rfl rfl Try.func35 (by kernel_rfl) rfl #[.slice A0_3 l0_3.length c0_3] rfl (by (try simp only [List.map_toArray, List.map_cons, List.map_nil]); first | done | rfl | (simp only [List.length_drop, List.length_take]; rfl)) ?_; (with_reducible refine (qa4.calls k _ _ l0_3 t291 _ ?side1 ?side2 A2.out).mono ?_); (case side1 => exact Kd.qa8 HR0_3.out (by repeat (first | (with_reducible first | exact HB.out | apply qac | apply qaa | apply qab | refine qah ?_ GE288.out | refine qah ?_ GE289.out | refine qah ?_ GE290.out) | exact HB.out))); (case side2 => exact HC0_3.out); rintro e w11 ⟨v292, rfl, ho0, hb⟩; refine ⟨_, rfl, ?_⟩; have n0_ := Aside0.mk (Kd.qbh ho0 (qak (by repeat (first | (with_reducible first | exact HB.out | apply qac | apply qaa | apply qab | refine qah ?_ GE288.out | refine qah ?_ GE289.out | refine qah ?_ GE290.out) | exact HB.out)))); have n1_ := Aside0.mk (qao (g := gb288) (o := .cells #[.string a0_0, .string a0_1, .int .i64 a0_2, .slice A0_3 l0_3.length c0_3, .int .i64 a0_4] 37 (0, 0)) (by (with_reducible repeat (first | refine qaj ?_ _ | refine qal ?_ | refine qai ?_ _)); refine qbH ?_ NB288_290.out _; (with_reducible repeat (first | refine qaj ?_ _ | refine qal ?_ | refine qai ?_ _)); refine qbH ?_ NB288_290.out _; (with_reducible repeat (first | refine qaj ?_ _ | refine qal ?_ | refine qai ?_ _)); refine qbH ?_ NB288_290.out _; (with_reducible repeat (first | refine qaj ?_ _ | refine qal ?_ | refine qai ?_ _)); exact BK288.out) hb); have n2_ := Aside0.mk (qao (g := gb289) (o := .cells #[.string (⟨#[]⟩ : ByteArray), .string (⟨#[]⟩ : ByteArray), .int .i64 0, .slice none 0 0, .int .i64 0] 41 (0, 0)) (by (with_reducible repeat (first | refine qaj ?_ _ | refine qal ?_ | refine qai ?_ _)); refine qbH ?_ NB289_290.out _; (with_reducible repeat (first | refine qaj ?_ _ | refine qal ?_ | refine qai ?_ _)); refine qbH ?_ NB289_290.out _; (with_reducible repeat (first | refine qaj ?_ _ | refine qal ?_ | refine qai ?_ _)); refine qbH ?_ NB289_290.out _; (with_reducible repeat (first | refine qaj ?_ _ | refine qal ?_ | refine qai ?_ _)); exact BK289.out) hb); have n3_ := Aside0.mk (qao (g := gb290) (o := .cells #[.string a0_0, .string a0_1, .int .i64 a0_2, .slice none 0 0, .int .i64 0] 41 (0, 0)) (by (with_reducible repeat (first | refine qaj ?_ _ | refine qal ?_ | refine qai ?_ _)); refine qaY (cs := #[.string a0_0, .string a0_1, .int .i64 0, .slice none 0 0, .int .i64 0]) ?_ 2 _ rfl; (with_reducible repeat (first | refine qaj ?_ _ | refine qal ?_ | refine qai ?_ _)); refine qaY (cs := #[.string a0_0, .string (⟨#[]⟩ : ByteArray), .int .i64 0, .slice none 0 0, .int .i64 0]) ?_ 1 _ rfl; (with_reducible repeat (first | refine qaj ?_ _ | refine qal ?_ | refine qai ?_ _)); refine qaY (cs := #[.string (⟨#[]⟩ : ByteArray), .string (⟨#[]⟩ : ByteArray), .int .i64 0, .slice none 0 0, .int .i64 0]) ?_ 0 _ rfl; (with_reducible repeat (first | refine qaj ?_ _ | refine qal ?_ | refine qai ?_ _)); exact BK290.out) hb); have n4_ := Aside0.mk (qag (by repeat (first | (with_reducible first | exact HB.out | apply qac | apply qaa | apply qab | refine qah ?_ GE288.out | refine qah ?_ GE289.out | refine qah ?_ GE290.out) | exact HB.out)) hb); clear BK288 BK289 BK290 HB; have HO293 := n0_; have BK288 := n1_; have BK289 := n2_; have BK290 := n3_; have HB := n4_; clear n0_ n1_ n2_ n3_ n4_; (try clear hb); (try clear hb2); (try clear hk); (try clear hi); (try clear ho0); obtain ⟨Ao12, co12, eo12⟩ := Kd.qbN HO293.out; subst eo12; have hcz13_0 : w11.cell? ⟨gb290, 0, none⟩ = some (.string a0_0) := (qad BK290.out 0).trans rfl; have hcz13_1 : w11.cell? ⟨gb290, 1, none⟩ = some (.string a0_1) := (qad BK290.out 1).trans rfl; have hcz13_2 : w11.cell? ⟨gb290, 2, none⟩ = some (.int .i64 a0_2) := (qad BK290.out 2).trans rfl; have hcz13_3 : w11.cell? ⟨gb290, 3, none⟩ = some (.slice none 0 0) := (qad BK290.out 3).trans rfl; have hcz13_4 : w11.cell? ⟨gb290, 4, none⟩ = some (.int .i64 0) := (qad BK290.out 4).trans rfl; have hfz13_0 := qae BK290.out 0; have hfz13_1 := qae BK290.out 1; have hfz13_2 := qae BK290.out 2; have hfz13_3 := qae BK290.out 3; have hfz13_4 := qae BK290.out 4; have hcz14_0 : w11.cell? ⟨gb288, 0, none⟩ = some (.string a0_0) := (qad BK288.out 0).trans rfl; have hcz14_1 : w11.cell? ⟨gb288, 1, none⟩ = some (.string a0_1) := (qad BK288.out 1).trans rfl; have hcz14_2 : w11.cell? ⟨gb288, 2, none⟩ = some (.int .i64 a0_2) := (qad BK288.out 2).trans rfl; have hcz14_3 : w11.cell? ⟨gb288, 3, none⟩ = some (.slice A0_3 l0_3.length c0_3) := (qad BK288.out 3).trans rfl; have hcz14_4 : w11.cell? ⟨gb288, 4, none⟩ = some (.int .i64 a0_4) := (qad BK288.out 4).trans rfl; have hfz14_0 := qae BK288.out 0; have hfz14_1 := qae BK288.out 1; have hfz14_2 := qae BK288.out 2; have hfz14_3 := qae BK288.out 3; have hfz14_4 := qae BK288.out 4; have hcz15_0 : w11.cell? ⟨gb289, 0, none⟩ = some (.string (⟨#[]⟩ : ByteArray)) := (qad BK289.out 0).trans rfl; have hcz15_1 : w11.cell? ⟨gb289, 1, none⟩ = some (.string (⟨#[]⟩ : ByteArray)) := (qad BK289.out 1).trans rfl; have hcz15_2 : w11.cell? ⟨gb289, 2, none⟩ = some (.int .i64 0) := (qad BK289.out 2).trans rfl; have hcz15_3 : w11.cell? ⟨gb289, 3, none⟩ = some (.slice none 0 0) := (qad BK289.out 3).trans rfl; have hcz15_4 : w11.cell? ⟨gb289, 4, none⟩ = some (.int .i64 0) := (qad BK289.out 4).trans rfl; have hfz15_0 := qae BK289.out 0; have hfz15_1 := qae BK289.out 1; have hfz15_2 := qae BK289.out 2; have hfz15_3 := qae BK289.out 3; have hfz15_4 := qae BK289.out 4))
 refine bodyPost_ret (results_cell_row rfl _ _ gb289 41 #[.string a0_0, .string a0_1, .int .i64 a0_2, .slice Ao12 t291.length co12, .int .i64 a0_4] (0, 0) _ rfl (by (with_reducible repeat (first | refine qaj ?_ _ | refine qal ?_ | refine qai ?_ _)); refine qaY (cs := #[.string a0_0, .string a0_1, .int .i64 a0_2, .slice Ao12 t291.length co12, .int .i64 0]) ?_ 4 _ rfl; (with_reducible repeat (first | refine qaj ?_ _ | refine qal ?_ | refine qai ?_ _)); refine qaY (cs := #[.string a0_0, .string a0_1, .int .i64 a0_2, .slice none 0 0, .int .i64 0]) ?_ 3 _ rfl; (with_reducible repeat (first | refine qaj ?_ _ | refine qal ?_ | refine qai ?_ _)); refine qaY (cs := #[.string a0_0, .string a0_1, .int .i64 0, .slice none 0 0, .int .i64 0]) ?_ 2 _ rfl; (with_reducible repeat (first | refine qaj ?_ _ | refine qal ?_ | refine qai ?_ _)); refine qaY (cs := #[.string a0_0, .string (⟨#[]⟩ : ByteArray), .int .i64 0, .slice none 0 0, .int .i64 0]) ?_ 1 _ rfl; (with_reducible repeat (first | refine qaj ?_ _ | refine qal ?_ | refine qai ?_ _)); refine qaY (cs := #[.string (⟨#[]⟩ : ByteArray), .string (⟨#[]⟩ : ByteArray), .int .i64 0, .slice none 0 0, .int .i64 0]) ?_ 0 _ rfl; (with_reducible repeat (first | refine qaj ?_ _ | refine qal ?_ | refine qai ?_ _)); refine qbH ?_ NB289_290.out _; (with_reducible repeat (first | refine qaj ?_ _ | refine qal ?_ | refine qai ?_ _)); refine qbH ?_ NB289_290.out _; (with_reducible repeat (first | refine qaj ?_ _ | refine qal ?_ | refine qai ?_ _)); exact BK289.out) Try.underlying41 rfl (by kernel_rfl)) rfl ?_
 exact ⟨_, by first | rfl | (simp [qam, qan] <;> rfl) | (simp [*, qam, qan] <;> rfl), by (with_reducible repeat (first | apply Kd.qar | apply Kd.qas | apply Kd.qaD)); exact Kd.qbr (Kd.qcq (p := ⟨gb289, 4, none⟩) (Kd.qcq (p := ⟨gb289, 3, none⟩) (Kd.qcq (p := ⟨gb289, 2, none⟩) (Kd.qcq (p := ⟨gb289, 1, none⟩) (Kd.qcq (p := ⟨gb289, 0, none⟩) (Kd.qcq (p := ⟨gb290, 4, none⟩) (Kd.qcq (p := ⟨gb290, 3, none⟩) (Kd.qdL (Kd.qdL HO293.out BK290.out (by decide)) BK289.out (by decide)) (fun _ hk => hk.1.2) (.slice Ao12 t291.length co12)) (fun _ hk => hk.1.2) (.int .i64 a0_4)) (fun _ hk => hk.2) (.string a0_0)) (fun _ hk => hk.2) (.string a0_1)) (fun _ hk => hk.2) (.int .i64 a0_2)) (fun _ hk => hk.2) (.slice Ao12 t291.length co12)) (fun _ hk => hk.2) (.int .i64 a0_4)) (fun _ hk => trivial), by repeat (first | (with_reducible first | exact HB.out | apply qac | apply qaa | apply qab | refine qah ?_ GE288.out | refine qah ?_ GE289.out | refine qah ?_ GE290.out) | exact HB.out)⟩
def cv37 (x : S37) : S41 := ⟨x.f0, x.f1, x.f2, (x.f3).map cv72, x.f4⟩
def sm37 (B : Int) (x : S37) : Prop := (x.f0.size : Int) ≤ B ∧ (x.f1.size : Int) ≤ B ∧ True ∧ ((x.f3.length : Int) ≤ B ∧ ∀ y ∈ x.f3, sm72 B y) ∧ True
def wl37 (x : S37) : Prop := x.f0.size ≤ maxLen ∧ x.f1.size ≤ maxLen ∧ True ∧ (x.f3.length ≤ maxLen ∧ ∀ y ∈ x.f3, wl72 y) ∧ True
theorem qi2 (x : S37) (hs : sm37 1048576 x) : Ev (fun k => qbR.f k (x.f0) (x.f1) (x.f2) (x.f3) (x.f4)) (x.f0, x.f1, x.f2, (x.f3).map cv72, x.f4) := by
 unfold qbR.f
 exact Ev.bind (to_DiffS _ hs.2.2.2.1) (Ev.is rfl)
def qbK.f (k : Nat) (a0_0 : ByteArray) (a0_1 : ByteArray) (a0_2 : Int) (l0_3 : List (S72)) (a0_4 : Int) (a1 : Int) : Option (Int) := if (wrap64 (a1 - (a0_0.size : Int))) < 0 then (some (-1)) else (if (wrap64 ((wrap64 (a1 - (a0_0.size : Int))) - (a0_1.size : Int))) < 0 then (some (-1)) else ((qa3.f k l0_3 (wrap64 ((wrap64 (a1 - (a0_0.size : Int))) - (a0_1.size : Int)))).bind fun t105 => (if t105 < 0 then (some (-1)) else (some t105))))
theorem qbK.mono : ∀ a0 a1 a2 a3 a4 a5 k, LeO (qbK.f k a0 a1 a2 a3 a4 a5) (qbK.f (k + 1) a0 a1 a2 a3 a4 a5) := by
 intro a0 a1 a2 a3 a4 a5 k
 unfold qbK.f
 repeat' first
   | (with_reducible exact qa3.mono _ _ _)
   | (with_reducible exact LeO.refl _)
   | (with_reducible exact LeO.none _)
   | (with_reducible refine LeO.ite ?_ ?_)
   | (with_reducible refine LeO.bind ?_ (fun _ => ?_))
   | exact qa3.mono _ _ _
   | exact LeO.none _
   | refine LeO.ite ?_ ?_
   | refine LeO.bind ?_ (fun _ => ?_)
set_option maxHeartbeats 8000000 in
set_option maxRecDepth 100000 in
theorem qbK.calls (k : Nat) (a0_0 : ByteArray) (a0_1 : ByteArray) (a0_2 : Int) (A0_3 : Option Addr) (c0_3 : Nat) (l0_3 : List (S72)) (a0_4 : Int) (a1 : Int) (r : Int) (w : World) (hr0_3 : Kd.C k72 w A0_3 l0_3.length l0_3) (hc0_3 : l0_3.length ≤ c0_3) (h : qbK.f k a0_0 a0_1 a0_2 l0_3 a0_4 a1 = some r) :
  Calls Try.prog 13 #[.agg #[.string a0_0, .string a0_1, .int .i64 a0_2, .slice A0_3 l0_3.length c0_3, .int .i64 a0_4], .int .i64 a1] w fun e w' => e = .returned (.int .i64 r) ∧ Below w.heap.size w w' := by
 have hu37 := Try.underlying37
 have HR0_3 := Aside0.mk hr0_3
 have HC0_3 := Aside0.mk hc0_3
 clear hr0_3 hc0_3
 have HB := Aside0.mk (Below.refl w.heap.size w)
 have H : (if (wrap64 (a1 - (a0_0.size : Int))) < 0 then (some (-1)) else (if (wrap64 ((wrap64 (a1 - (a0_0.size : Int))) - (a0_1.size : Int))) < 0 then (some (-1)) else ((qa3.f k l0_3 (wrap64 ((wrap64 (a1 - (a0_0.size : Int))) - (a0_1.size : Int)))).bind fun t105 => (if t105 < 0 then (some (-1)) else (some t105))))) = some r := h
 clear h
 by_cases c3 : (wrap64 (a1 - (a0_0.size : Int))) < 0
 ·rw [if_pos c3] at H
  have c3b0 : decide ((wrap64 (a1 - (a0_0.size : Int))) < 0) = true := decide_eq_true c3
  clear c3
  obtain rfl := Option.some.inj H
  go_enter Try.func13, Try.ntmps13
  go_wp2_with (first | ((with_reducible refine qaM (N := 2) rfl ?_); refine qaN ?hg (N := 2) ?hd (cs := #[.string a0_0, .string a0_1, .int .i64 a0_2, .slice A0_3 l0_3.length c0_3, .int .i64 a0_4]) (t := 37) ?hr ?_; (case hd => rfl); (case hg => rfl); (case hr => first | (go_simp; done) | (go_simp; rfl)); intro gb104 hg w4 hbox hb; have n0_ := Aside0.mk (qag (by repeat (first | (with_reducible first | exact HB.out | apply qac | apply qaa | apply qab) | exact HB.out)) hb); have n1_ := Aside0.mk (hbox); have n2_ := Aside0.mk ((by rw [hg]; exact (qak (by repeat (first | (with_reducible first | exact HB.out | apply qac | apply qaa | apply qab) | exact HB.out))) : w.heap.size ≤ gb104)); have n3_ := Aside0.mk ((by rw [hg]; exact (qak (by repeat (first | (with_reducible first | exact HB.out | apply qac | apply qaa | apply qab) | exact HB.out))) : w.heap.size ≤ gb104)); clear HB; have HB := n0_; have BK104 := n1_; have GW104 := n2_; have GE104 := n3_; clear n0_ n1_ n2_ n3_ hb hbox hg; have hcz5_0 : w4.cell? ⟨gb104, 0, none⟩ = some (.string a0_0) := (qad BK104.out 0).trans rfl; have hcz5_1 : w4.cell? ⟨gb104, 1, none⟩ = some (.string a0_1) := (qad BK104.out 1).trans rfl; have hcz5_2 : w4.cell? ⟨gb104, 2, none⟩ = some (.int .i64 a0_2) := (qad BK104.out 2).trans rfl; have hcz5_3 : w4.cell? ⟨gb104, 3, none⟩ = some (.slice A0_3 l0_3.length c0_3) := (qad BK104.out 3).trans rfl; have hcz5_4 : w4.cell? ⟨gb104, 4, none⟩ = some (.int .i64 a0_4) := (qad BK104.out 4).trans rfl; have hfz5_0 := qae BK104.out 0; have hfz5_1 := qae BK104.out 1; have hfz5_2 := qae BK104.out 2; have hfz5_3 := qae BK104.out 3; have hfz5_4 := qae BK104.out 4))
  go_ret
  exact ⟨by first | rfl | (simp [qam, qan] <;> rfl) | (simp [*, qam, qan] <;> rfl), by repeat (first | (with_reducible first | exact HB.out | apply qac | apply qaa | apply qab | refine qah ?_ GE104.out) | exact HB.out)⟩
 ·rw [if_neg c3] at H
  have c3b0 : decide ((wrap64 (a1 - (a0_0.size : Int))) < 0) = false := decide_eq_false c3
  clear c3
  by_cases c6 : (wrap64 ((wrap64 (a1 - (a0_0.size : Int))) - (a0_1.size : Int))) < 0
  ·rw [if_pos c6] at H
   have c6b0 : decide ((wrap64 ((wrap64 (a1 - (a0_0.size : Int))) - (a0_1.size : Int))) < 0) = true := decide_eq_true c6
   clear c6
   obtain rfl := Option.some.inj H
   go_enter Try.func13, Try.ntmps13
   go_wp2_with (first | ((with_reducible refine qaM (N := 2) rfl ?_); refine qaN ?hg (N := 2) ?hd (cs := #[.string a0_0, .string a0_1, .int .i64 a0_2, .slice A0_3 l0_3.length c0_3, .int .i64 a0_4]) (t := 37) ?hr ?_; (case hd => rfl); (case hg => rfl); (case hr => first | (go_simp; done) | (go_simp; rfl)); intro gb104 hg w7 hbox hb; have n0_ := Aside0.mk (qag (by repeat (first | (with_reducible first | exact HB.out | apply qac | apply qaa | apply qab) | exact HB.out)) hb); have n1_ := Aside0.mk (hbox); have n2_ := Aside0.mk ((by rw [hg]; exact (qak (by repeat (first | (with_reducible first | exact HB.out | apply qac | apply qaa | apply qab) | exact HB.out))) : w.heap.size ≤ gb104)); have n3_ := Aside0.mk ((by rw [hg]; exact (qak (by repeat (first | (with_reducible first | exact HB.out | apply qac | apply qaa | apply qab) | exact HB.out))) : w.heap.size ≤ gb104)); clear HB; have HB := n0_; have BK104 := n1_; have GW104 := n2_; have GE104 := n3_; clear n0_ n1_ n2_ n3_ hb hbox hg; have hcz8_0 : w7.cell? ⟨gb104, 0, none⟩ = some (.string a0_0) := (qad BK104.out 0).trans rfl; have hcz8_1 : w7.cell? ⟨gb104, 1, none⟩ = some (.string a0_1) := (qad BK104.out 1).trans rfl; have hcz8_2 : w7.cell? ⟨gb104, 2, none⟩ = some (.int .i64 a0_2) := (qad BK104.out 2).trans rfl; have hcz8_3 : w7.cell? ⟨gb104, 3, none⟩ = some (.slice A0_3 l0_3.length c0_3) := (qad BK104.out 3).trans rfl; have hcz8_4 : w7.cell? ⟨gb104, 4, none⟩ = some (.int .i64 a0_4) := (qad BK104.out 4).trans rfl; have hfz8_0 := qae BK104.out 0; have hfz8_1 := qae BK104.out 1; have hfz8_2 := qae BK104.out 2; have hfz8_3 := qae BK104.out 3; have hfz8_4 := qae BK104.out 4))
   go_ret
   exact ⟨by first | rfl | (simp [qam, qan] <;> rfl) | (simp [*, qam, qan] <;> rfl), by repeat (first | (with_reducible first | exact HB.out | apply qac | apply qaa | apply qab | refine qah ?_ GE104.out) | exact HB.out)⟩
  ·rw [if_neg c6] at H
   have c6b0 : decide ((wrap64 ((wrap64 (a1 - (a0_0.size : Int))) - (a0_1.size : Int))) < 0) = false := decide_eq_false c6
   clear c6
   replace H := Option.bind_eq_some_iff.mp H
   obtain ⟨t105, A90, H⟩ := H
   try dsimp only at H
   have A9 := Aside0.mk A90
   clear A90
   by_cases c10 : t105 < 0
   ·rw [if_pos c10] at H
    have c10b0 : decide (t105 < 0) = true := decide_eq_true c10
    clear c10
    obtain rfl := Option.some.inj H
    go_enter Try.func13, Try.ntmps13
    go_wp2_with (first | ((with_reducible refine qaM (N := 2) rfl ?_); refine qaN ?hg (N := 2) ?hd (cs := #[.string a0_0, .string a0_1, .int .i64 a0_2, .slice A0_3 l0_3.length c0_3, .int .i64 a0_4]) (t := 37) ?hr ?_; (case hd => rfl); (case hg => rfl); (case hr => first | (go_simp; done) | (go_simp; rfl)); intro gb104 hg w11 hbox hb; have n0_ := Aside0.mk (qag (by repeat (first | (with_reducible first | exact HB.out | apply qac | apply qaa | apply qab) | exact HB.out)) hb); have n1_ := Aside0.mk (hbox); have n2_ := Aside0.mk ((by rw [hg]; exact (qak (by repeat (first | (with_reducible first | exact HB.out | apply qac | apply qaa | apply qab) | exact HB.out))) : w.heap.size ≤ gb104)); have n3_ := Aside0.mk ((by rw [hg]; exact (qak (by repeat (first | (with_reducible first | exact HB.out | apply qac | apply qaa | apply qab) | exact HB.out))) : w.heap.size ≤ gb104)); clear HB; have HB := n0_; have BK104 := n1_; have GW104 := n2_; have GE104 := n3_; clear n0_ n1_ n2_ n3_ hb hbox hg; have hcz12_0 : w11.cell? ⟨gb104, 0, none⟩ = some (.string a0_0) := (qad BK104.out 0).trans rfl; have hcz12_1 : w11.cell? ⟨gb104, 1, none⟩ = some (.string a0_1) := (qad BK104.out 1).trans rfl; have hcz12_2 : w11.cell? ⟨gb104, 2, none⟩ = some (.int .i64 a0_2) := (qad BK104.out 2).trans rfl; have hcz12_3 : w11.cell? ⟨gb104, 3, none⟩ = some (.slice A0_3 l0_3.length c0_3) := (qad BK104.out 3).trans rfl; have hcz12_4 : w11.cell? ⟨gb104, 4, none⟩ = some (.int .i64 a0_4) := (qad BK104.out 4).trans rfl; have hfz12_0 := qae BK104.out 0; have hfz12_1 := qae BK104.out 1; have hfz12_2 := qae BK104.out 2; have hfz12_3 := qae BK104.out 3; have hfz12_4 := qae BK104.out 4) | ((with_reducible refine qaE (f := 26) rfl ?_); refine qbn (some 22) rfl rfl Try.func26 (by kernel_rfl) rfl #[.slice A0_3 l0_3.length c0_3, .int .i64 (wrap64 ((wrap64 (a1 - (a0_0.size : Int))) - (a0_1.size : Int)))] rfl (by (try simp only [List.map_toArray, List.map_cons, List.map_nil]); first | done | rfl | (simp only [List.length_drop, List.length_take]; rfl)) ?_; (with_reducible refine (qa3.calls k _ _ l0_3 (wrap64 ((wrap64 (a1 - (a0_0.size : Int))) - (a0_1.size : Int))) t105 _ ?side1 ?side2 A9.out).mono ?_); (case side1 => repeat (first | exact (Kd.qa8 HR0_3.out HB.out) | (with_reducible refine Kd.qa9 ?_ _) | (with_reducible refine Kd.qba ?_ _) | (with_reducible refine Kd.qbl ?_))); (case side2 => exact HC0_3.out); rintro e w13 ⟨rfl, hb⟩; refine ⟨_, rfl, ?_⟩; have n0_ := Aside0.mk (qao (g := gb104) (o := .cells #[.string a0_0, .string a0_1, .int .i64 a0_2, .slice A0_3 l0_3.length c0_3, .int .i64 a0_4] 37 (0, 0)) (by (with_reducible repeat (first | refine qaj ?_ _ | refine qal ?_ | refine qai ?_ _)); exact BK104.out) hb); have n1_ := Aside0.mk (qag (by repeat (first | (with_reducible first | exact HB.out | apply qac | apply qaa | apply qab | refine qah ?_ GE104.out) | exact HB.out)) hb); clear BK104 HB; have BK104 := n0_; have HB := n1_; clear n0_ n1_; (try clear hb); (try clear hb2); (try clear hk); (try clear hi)))
    go_ret
    exact ⟨by first | rfl | (simp [qam, qan] <;> rfl) | (simp [*, qam, qan] <;> rfl), by repeat (first | (with_reducible first | exact HB.out | apply qac | apply qaa | apply qab | refine qah ?_ GE104.out) | exact HB.out)⟩
   ·rw [if_neg c10] at H
    have c10b0 : decide (t105 < 0) = false := decide_eq_false c10
    clear c10
    obtain rfl := Option.some.inj H
    go_enter Try.func13, Try.ntmps13
    go_wp2_with (first | ((with_reducible refine qaM (N := 2) rfl ?_); refine qaN ?hg (N := 2) ?hd (cs := #[.string a0_0, .string a0_1, .int .i64 a0_2, .slice A0_3 l0_3.length c0_3, .int .i64 a0_4]) (t := 37) ?hr ?_; (case hd => rfl); (case hg => rfl); (case hr => first | (go_simp; done) | (go_simp; rfl)); intro gb104 hg w14 hbox hb; have n0_ := Aside0.mk (qag (by repeat (first | (with_reducible first | exact HB.out | apply qac | apply qaa | apply qab) | exact HB.out)) hb); have n1_ := Aside0.mk (hbox); have n2_ := Aside0.mk ((by rw [hg]; exact (qak (by repeat (first | (with_reducible first | exact HB.out | apply qac | apply qaa | apply qab) | exact HB.out))) : w.heap.size ≤ gb104)); have n3_ := Aside0.mk ((by rw [hg]; exact (qak (by repeat (first | (with_reducible first | exact HB.out | apply qac | apply qaa | apply qab) | exact HB.out))) : w.heap.size ≤ gb104)); clear HB; have HB := n0_; have BK104 := n1_; have GW104 := n2_; have GE104 := n3_; clear n0_ n1_ n2_ n3_ hb hbox hg; have hcz15_0 : w14.cell? ⟨gb104, 0, none⟩ = some (.string a0_0) := (qad BK104.out 0).trans rfl; have hcz15_1 : w14.cell? ⟨gb104, 1, none⟩ = some (.string a0_1) := (qad BK104.out 1).trans rfl; have hcz15_2 : w14.cell? ⟨gb104, 2, none⟩ = some (.int .i64 a0_2) := (qad BK104.out 2).trans rfl; have hcz15_3 : w14.cell? ⟨gb104, 3, none⟩ = some (.slice A0_3 l0_3.length c0_3) := (qad BK104.out 3).trans rfl; have hcz15_4 : w14.cell? ⟨gb104, 4, none⟩ = some (.int .i64 a0_4) := (qad BK104.out 4).trans rfl; have hfz15_0 := qae BK104.out 0; have hfz15_1 := qae BK104.out 1; have hfz15_2 := qae BK104.out 2; have hfz15_3 := qae BK104.out 3; have hfz15_4 := qae BK104.out 4) | ((with_reducible refine qaE (f := 26) rfl ?_); refine qbn (some 22) rfl rfl Try.func26 (by kernel_rfl) rfl #[.slice A0_3 l0_3.length c0_3, .int .i64 (wrap64 ((wrap64 (a1 - (a0_0.size : Int))) - (a0_1.size : Int)))] rfl (by (try simp only [List.map_toArray, List.map_cons, List.map_nil]); first | done | rfl | (simp only [List.length_drop, List.length_take]; rfl)) ?_; (with_reducible refine (qa3.calls k _ _ l0_3 (wrap64 ((wrap64 (a1 - (a0_0.size : Int))) - (a0_1.size : Int))) t105 _ ?side1 ?side2 A9.out).mono ?_); (case side1 => repeat (first | exact (Kd.qa8 HR0_3.out HB.out) | (with_reducible refine Kd.qa9 ?_ _) | (with_reducible refine Kd.qba ?_ _) | (with_reducible refine Kd.qbl ?_))); (case side2 => exact HC0_3.out); rintro e w16 ⟨rfl, hb⟩; refine ⟨_, rfl, ?_⟩; have n0_ := Aside0.mk (qao (g := gb104) (o := .cells #[.string a0_0, .string a0_1, .int .i64 a0_2, .slice A0_3 l0_3.length c0_3, .int .i64 a0_4] 37 (0, 0)) (by (with_reducible repeat (first | refine qaj ?_ _ | refine qal ?_ | refine qai ?_ _)); exact BK104.out) hb); have n1_ := Aside0.mk (qag (by repeat (first | (with_reducible first | exact HB.out | apply qac | apply qaa | apply qab | refine qah ?_ GE104.out) | exact HB.out)) hb); clear BK104 HB; have BK104 := n0_; have HB := n1_; clear n0_ n1_; (try clear hb); (try clear hb2); (try clear hk); (try clear hi)))
    go_ret
    exact ⟨by first | rfl | (simp [qam, qan] <;> rfl) | (simp [*, qam, qan] <;> rfl), by repeat (first | (with_reducible first | exact HB.out | apply qac | apply qaa | apply qab | refine qah ?_ GE104.out) | exact HB.out)⟩
theorem qi3 (x : S37) (hw : wl37 x) (B left : Int) (h0 : 0 ≤ left) (h1 : left ≤ B) (hB : B ≤ 1048576) : ∃ r, Ev (fun k => qbK.f k (x.f0) (x.f1) (x.f2) (x.f3) (x.f4) left) r ∧ (0 ≤ r → r ≤ left ∧ sm37 B x) := by
 unfold qbK.f
 have hs0 : x.f0.size ≤ 9223372036854775807 := Nat.le_trans hw.1 qdm
 have e0 : wrap64 (left - (x.f0.size : Int)) = left - (x.f0.size : Int) := qby (by omega) (by omega)
 simp only [e0]
 by_cases c0 : left - (x.f0.size : Int) < 0
 ·exact ⟨-1, Ev.pos c0 (Ev.is rfl), fun h => by omega⟩
 suffices hh : ∃ r, Ev _ r ∧ (0 ≤ r → r ≤ left ∧ sm37 B x) from (let ⟨r, hr, hq⟩ := hh; ⟨r, Ev.neg c0 hr, hq⟩)
 have hs1 : x.f1.size ≤ 9223372036854775807 := Nat.le_trans hw.2.1 qdm
 have e1 : wrap64 ((left - (x.f0.size : Int)) - (x.f1.size : Int)) = (left - (x.f0.size : Int)) - (x.f1.size : Int) := qby (by omega) (by omega)
 simp only [e1]
 by_cases c1 : (left - (x.f0.size : Int)) - (x.f1.size : Int) < 0
 ·exact ⟨-1, Ev.pos c1 (Ev.is rfl), fun h => by omega⟩
 suffices hh : ∃ r, Ev _ r ∧ (0 ≤ r → r ≤ left ∧ sm37 B x) from (let ⟨r, hr, hq⟩ := hh; ⟨r, Ev.neg c1 hr, hq⟩)
 obtain ⟨r3, hr3, hq3⟩ := sz_DiffS x.f3 hw.2.2.2.1 B ((left - (x.f0.size : Int)) - (x.f1.size : Int)) (by omega) (by omega) hB
 by_cases c3 : r3 < 0
 ·exact ⟨-1, Ev.bind hr3 (Ev.pos c3 (Ev.is rfl)), fun h => by omega⟩
 have hq3' := hq3 (by omega)
 suffices hh : ∃ r, Ev _ r ∧ (0 ≤ r → r ≤ left ∧ sm37 B x) from (let ⟨r, hr, hq⟩ := hh; ⟨r, Ev.bind hr3 (Ev.neg c3 hr), hq⟩)
 have hz3 := hq3'.1
 exact ⟨r3, Ev.is rfl, fun _ => ⟨by omega, ⟨(by omega), (by omega), trivial, hq3'.2, trivial⟩⟩⟩
def qa6.l0 : Nat → List (S37) → Int → Int → Option (Int)
 | 0, _, _, _ => none
 | k + 1, x0, x1, x5 => if x5 < (x0.length : Int) then (if 0 ≤ x5 then ((qbK.f k ((qbx x0 x5).f0) ((qbx x0 x5).f1) ((qbx x0 x5).f2) ((qbx x0 x5).f3) ((qbx x0 x5).f4) x1).bind fun t107 => (if t107 < 0 then (some (-1)) else (qa6.l0 k x0 t107 (wrap64 (x5 + 1))))) else (none)) else (some x1)
def qa6.f (k : Nat) (l0 : List (S37)) (a1 : Int) : Option (Int) := if (wrap64 (a1 - (l0.length : Int))) < 0 then (some (-1)) else (qa6.l0 k l0 (wrap64 (a1 - (l0.length : Int))) 0)
theorem qa6.qbA : ∀ k, (∀ y0 y1 y2, LeO (qa6.l0 k y0 y1 y2) (qa6.l0 (k + 1) y0 y1 y2))
 | 0 => fun _ _ _ r h => by simp [qa6.l0] at h
 | k + 1 => by
  have ih0 := qa6.qbA k
  ·intro y0 y1 y2
   unfold qa6.l0
   repeat' first
   | (with_reducible exact ih0 _ _ _)
   | (with_reducible exact qbK.mono _ _ _ _ _ _ _)
   | (with_reducible exact LeO.refl _)
   | (with_reducible exact LeO.none _)
   | (with_reducible refine LeO.ite ?_ ?_)
   | (with_reducible refine LeO.bind ?_ (fun _ => ?_))
   | exact ih0 _ _ _
   | exact qbK.mono _ _ _ _ _ _ _
   | exact LeO.none _
   | refine LeO.ite ?_ ?_
   | refine LeO.bind ?_ (fun _ => ?_)
set_option maxHeartbeats 8000000 in
set_option maxRecDepth 100000 in
theorem qa6.calls (k : Nat) (A0 : Option Addr) (c0 : Nat) (l0 : List (S37)) (a1 : Int) (r : Int) (w : World) (hr0 : Kd.C k37 w A0 l0.length l0) (hc0 : l0.length ≤ c0) (h : qa6.f k l0 a1 = some r) :
  Calls Try.prog 4 #[.slice A0 l0.length c0, .int .i64 a1] w fun e w' => e = .returned (.int .i64 r) ∧ Below w.heap.size w w' := by
 have hu37 := Try.underlying37
 have HR0 := Aside0.mk hr0
 have HC0 := Aside0.mk hc0
 clear hr0 hc0
 have HB := Aside0.mk (Below.refl w.heap.size w)
 have H : (if (wrap64 (a1 - (l0.length : Int))) < 0 then (some (-1)) else (qa6.l0 k l0 (wrap64 (a1 - (l0.length : Int))) 0)) = some r := h
 clear h
 by_cases c3 : (wrap64 (a1 - (l0.length : Int))) < 0
 ·rw [if_pos c3] at H
  have c3b0 : decide ((wrap64 (a1 - (l0.length : Int))) < 0) = true := decide_eq_true c3
  clear c3
  obtain rfl := Option.some.inj H
  go_enter Try.func4, Try.ntmps4
  go_wp2
  go_ret
  exact ⟨by first | rfl | (simp [qam, qan] <;> rfl) | (simp [*, qam, qan] <;> rfl), by repeat (first | (with_reducible first | exact HB.out | apply qac | apply qaa | apply qab) | exact HB.out)⟩
 ·rw [if_neg c3] at H
  have c3b0 : decide ((wrap64 (a1 - (l0.length : Int))) < 0) = false := decide_eq_false c3
  clear c3
  have H' := Aside0.mk H
  clear H
  go_enter Try.func4, Try.ntmps4
  go_wp2
  go_loopg [1, 5] k (fun kq v1 v5 w' => ∃ (x1_1 : Int) (x5_1 : Int), v1 = .int .i64 x1_1 ∧ v5 = .int .i64 x5_1 ∧ Aside0 (qa6.l0 kq l0 x1_1 x5_1 = some r) ∧ Aside0 (kq ≤ k) ∧ Aside0 (Below w.heap.size w w'))
  case atStart => exact ⟨(wrap64 (a1 - (l0.length : Int))), (0), (by first | rfl | (simp; done) | (simp [*]; done)), (by first | rfl | (simp; done) | (simp [*]; done)), H', ⟨Nat.le_refl _⟩, ⟨by repeat (first | (with_reducible first | exact HB.out | apply qac | apply qaa | apply qab) | exact HB.out)⟩⟩
  case round =>
   clear H'
   try clear p2
   try clear c3
   try clear c3b0
   obtain ⟨x1_1, x5_1, rfl, rfl, HA, HK1, HB⟩ := hrel
   cases gk with
   | zero => exact absurd HA.out (by simp [qa6.l0])
   | succ k1 =>
    have H := HA.out
    clear HA
    simp only [qa6.l0] at H
    by_cases c4 : x5_1 < (l0.length : Int)
    ·rw [if_pos c4] at H
     have c4b0 : decide (x5_1 < (l0.length : Int)) = true := decide_eq_true c4
     clear c4
     by_cases c5 : 0 ≤ x5_1
     ·rw [if_pos c5] at H
      have c5b0 : decide (0 ≤ x5_1) = true := decide_eq_true c5
      clear c5
      replace H := Option.bind_eq_some_iff.mp H
      obtain ⟨t107, A60, H⟩ := H
      try dsimp only at H
      have A6 := Aside0.mk A60
      clear A60
      by_cases c7 : t107 < 0
      ·rw [if_pos c7] at H
       have c7b0 : decide (t107 < 0) = true := decide_eq_true c7
       clear c7
       obtain rfl := Option.some.inj H
       have p106 : 0 ≤ (x5_1 : Int) := of_decide_eq_true (by first | (with_reducible assumption) | assumption)
       have q106 : x5_1 < (l0.length : Int) := of_decide_eq_true (by first | (with_reducible assumption) | assumption)
       obtain ⟨ad106, A106_3, c106_3, e106, hx106_0, hx106_1, hx106_2, hx106_3, hx106_4, hl106_3, hi106_3⟩ := qim HR0.out x5_1 p106 q106
       cases e106
       replace hx106_0 := (HB.out.cell (World.block_lt_of_cell? w _ hx106_0)).trans hx106_0
       replace hx106_1 := (HB.out.cell (World.block_lt_of_cell? w _ hx106_1)).trans hx106_1
       replace hx106_2 := (HB.out.cell (World.block_lt_of_cell? w _ hx106_2)).trans hx106_2
       replace hx106_3 := (HB.out.cell (World.block_lt_of_cell? w _ hx106_3)).trans hx106_3
       replace hx106_4 := (HB.out.cell (World.block_lt_of_cell? w _ hx106_4)).trans hx106_4
       have HR106_3 := Aside0.mk hi106_3
       have HC106_3 := Aside0.mk hl106_3
       clear hi106_3 hl106_3
       replace p106 := eq_true p106
       replace q106 := eq_true q106
       go_wp2_with (first | ((with_reducible refine qaE (f := 13) rfl ?_); refine qbn (some 23) rfl rfl Try.func13 (by kernel_rfl) rfl #[.agg #[.string ((qbx l0 x5_1).f0), .string ((qbx l0 x5_1).f1), .int .i64 ((qbx l0 x5_1).f2), .slice A106_3 ((qbx l0 x5_1).f3).length c106_3, .int .i64 ((qbx l0 x5_1).f4)], .int .i64 x1_1] rfl (by (try simp only [List.map_toArray, List.map_cons, List.map_nil]); first | done | rfl | (simp only [List.length_drop, List.length_take]; rfl)) ?_; (with_reducible refine (qbK.calls k1 ((qbx l0 x5_1).f0) ((qbx l0 x5_1).f1) ((qbx l0 x5_1).f2) _ _ ((qbx l0 x5_1).f3) ((qbx l0 x5_1).f4) x1_1 t107 _ ?side1 ?side2 A6.out).mono ?_); (case side1 => repeat (first | exact (Kd.qa8 HR106_3.out HB.out) | (with_reducible refine Kd.qa9 ?_ _) | (with_reducible refine Kd.qba ?_ _) | (with_reducible refine Kd.qbl ?_))); (case side2 => exact HC106_3.out); rintro e w8 ⟨rfl, hb⟩; refine ⟨_, rfl, ?_⟩; have n0_ := Aside0.mk (qag (by repeat (first | (with_reducible first | exact HB.out | apply qac | apply qaa | apply qab) | exact HB.out)) hb); clear HB; have HB := n0_; clear n0_; (try clear hb); (try clear hb2); (try clear hk); (try clear hi)))
       go_ret
       exact ⟨by first | rfl | (simp [qam, qan] <;> rfl) | (simp [*, qam, qan] <;> rfl), by repeat (first | (with_reducible first | exact HB.out | apply qac | apply qaa | apply qab) | exact HB.out)⟩
      ·rw [if_neg c7] at H
       have c7b0 : decide (t107 < 0) = false := decide_eq_false c7
       clear c7
       have H' := Aside0.mk H
       clear H
       have p106 : 0 ≤ (x5_1 : Int) := of_decide_eq_true (by first | (with_reducible assumption) | assumption)
       have q106 : x5_1 < (l0.length : Int) := of_decide_eq_true (by first | (with_reducible assumption) | assumption)
       obtain ⟨ad106, A106_3, c106_3, e106, hx106_0, hx106_1, hx106_2, hx106_3, hx106_4, hl106_3, hi106_3⟩ := qim HR0.out x5_1 p106 q106
       cases e106
       replace hx106_0 := (HB.out.cell (World.block_lt_of_cell? w _ hx106_0)).trans hx106_0
       replace hx106_1 := (HB.out.cell (World.block_lt_of_cell? w _ hx106_1)).trans hx106_1
       replace hx106_2 := (HB.out.cell (World.block_lt_of_cell? w _ hx106_2)).trans hx106_2
       replace hx106_3 := (HB.out.cell (World.block_lt_of_cell? w _ hx106_3)).trans hx106_3
       replace hx106_4 := (HB.out.cell (World.block_lt_of_cell? w _ hx106_4)).trans hx106_4
       have HR106_3 := Aside0.mk hi106_3
       have HC106_3 := Aside0.mk hl106_3
       clear hi106_3 hl106_3
       replace p106 := eq_true p106
       replace q106 := eq_true q106
       go_wp2_with (first | ((with_reducible refine qaE (f := 13) rfl ?_); refine qbn (some 23) rfl rfl Try.func13 (by kernel_rfl) rfl #[.agg #[.string ((qbx l0 x5_1).f0), .string ((qbx l0 x5_1).f1), .int .i64 ((qbx l0 x5_1).f2), .slice A106_3 ((qbx l0 x5_1).f3).length c106_3, .int .i64 ((qbx l0 x5_1).f4)], .int .i64 x1_1] rfl (by (try simp only [List.map_toArray, List.map_cons, List.map_nil]); first | done | rfl | (simp only [List.length_drop, List.length_take]; rfl)) ?_; (with_reducible refine (qbK.calls k1 ((qbx l0 x5_1).f0) ((qbx l0 x5_1).f1) ((qbx l0 x5_1).f2) _ _ ((qbx l0 x5_1).f3) ((qbx l0 x5_1).f4) x1_1 t107 _ ?side1 ?side2 A6.out).mono ?_); (case side1 => repeat (first | exact (Kd.qa8 HR106_3.out HB.out) | (with_reducible refine Kd.qa9 ?_ _) | (with_reducible refine Kd.qba ?_ _) | (with_reducible refine Kd.qbl ?_))); (case side2 => exact HC106_3.out); rintro e w9 ⟨rfl, hb⟩; refine ⟨_, rfl, ?_⟩; have n0_ := Aside0.mk (qag (by repeat (first | (with_reducible first | exact HB.out | apply qac | apply qaa | apply qab) | exact HB.out)) hb); clear HB; have HB := n0_; clear n0_; (try clear hb); (try clear hb2); (try clear hk); (try clear hi)))
       go_roundg k1
       case measure => have := HK1.out; omega
       case rel => exact ⟨(t107), (wrap64 (x5_1 + 1)), (by first | rfl | (simp; done) | (simp [*]; done)), (by first | rfl | (simp; done) | (simp [*]; done)), H', ⟨by have := HK1.out; omega⟩, ⟨by repeat (first | (with_reducible first | exact HB.out | apply qac | apply qaa | apply qab) | exact HB.out)⟩⟩
     ·rw [if_neg c5] at H
      exact absurd H (by simp)
    ·rw [if_neg c4] at H
     have c4b0 : decide (x5_1 < (l0.length : Int)) = false := decide_eq_false c4
     clear c4
     obtain rfl := Option.some.inj H
     go_wp2
     go_ret
     exact ⟨by first | rfl | (simp [qam, qan] <;> rfl) | (simp [*, qam, qan] <;> rfl), by repeat (first | (with_reducible first | exact HB.out | apply qac | apply qaa | apply qab) | exact HB.out)⟩
theorem qft (B : Int) (hB : B ≤ 1048576) (rest : List S37) : ∀ (pre : List S37) (left : Int), (pre ++ rest).length ≤ 9223372036854775807 → (∀ y ∈ rest, wl37 y) → 0 ≤ left → left ≤ B →
  ∃ r, Ev (fun k => qa6.l0 k (pre ++ rest) left ((pre.length : Nat) : Int)) r ∧ (0 ≤ r → r ≤ left ∧ ∀ y ∈ rest, sm37 B y) := by
 induction rest with
 | nil =>
  intro pre left hl hw h0 h1
  refine ⟨left, Ev.succ ?_, fun _ => ⟨Int.le_refl _, fun y hy => by cases hy⟩⟩
  simp only [qa6.l0]
  exact Ev.neg (by simp) (Ev.is rfl)
 | cons x rest ih =>
  intro pre left hl hw h0 h1
  have hx : qbx (pre ++ x :: rest) ((pre.length : Nat) : Int) = x := by simp [qbx, List.getD_eq_getElem?_getD]
  have hlt : ((pre.length : Nat) : Int) < ((pre ++ x :: rest).length : Int) := by simp; omega
  have hwp : wrap64 (((pre.length : Nat) : Int) + 1) = (((pre ++ [x]).length : Nat) : Int) := by rw [← qcp]; exact qcu (by omega)
  have e1 : pre ++ x :: rest = (pre ++ [x]) ++ rest := by simp
  have hl2 : ((pre ++ [x]) ++ rest).length ≤ 9223372036854775807 := by rw [← e1]; exact hl
  obtain ⟨r, hr, hq⟩ := qi3 x (hw x List.mem_cons_self) B left h0 h1 hB
  by_cases c : r < 0
  ·refine ⟨-1, Ev.succ ?_, fun h => by omega⟩
   simp only [qa6.l0, hx]
   exact Ev.pos hlt (Ev.pos (by omega) (Ev.bind hr (Ev.pos c (Ev.is rfl))))
  ·have hq' := hq (by omega)
   obtain ⟨r2, hr2, hq2⟩ := ih (pre ++ [x]) r hl2 (fun y hy => hw y (List.mem_cons_of_mem _ hy)) (by omega) (by omega)
   refine ⟨r2, Ev.succ ?_, fun h => ?_⟩
   ·simp only [qa6.l0, hx, hwp]
    rw [← e1] at hr2
    exact Ev.pos hlt (Ev.pos (by omega) (Ev.bind hr (Ev.neg c hr2)))
   ·have h3 := hq2 h
    refine ⟨by omega, fun y hy => ?_⟩
    rcases List.mem_cons.1 hy with rfl | hy
    ·exact hq'.2
    ·exact h3.2 y hy
theorem qhU (l : List S37) (hw : (l.length ≤ maxLen ∧ ∀ y ∈ l, wl37 y)) (B left : Int) (h0 : 0 ≤ left) (h1 : left ≤ B) (hB : B ≤ 1048576) : ∃ r, Ev (fun k => qa6.f k l left) r ∧ (0 ≤ r → r ≤ left ∧ ((l.length : Int) ≤ B ∧ ∀ y ∈ l, sm37 B y)) := by
 have hl := Nat.le_trans hw.1 qdm
 unfold qa6.f
 have e : wrap64 (left - (l.length : Int)) = left - (l.length : Int) := qby (by omega) (by omega)
 simp only [e]
 by_cases c : left - (l.length : Int) < 0
 ·exact ⟨-1, Ev.pos c (Ev.is rfl), fun h => by omega⟩
 ·obtain ⟨r, hr, hq⟩ := qft B hB l [] (left - (l.length : Int)) (by simpa using hl) hw.2 (by omega) (by omega)
  exact ⟨r, Ev.neg c (by simpa using hr), fun h => ⟨by have := (hq h).1; omega, by omega, (hq h).2⟩⟩
def qa1.l0 : Nat → List (S37) → List (S41) → Int → Option ((List (S41)))
 | 0, _, _, _ => none
 | k + 1, x0, x3, x4 => if x4 < (x0.length : Int) then (if 0 ≤ x4 then ((qbR.f k ((qbx x0 x4).f0) ((qbx x0 x4).f1) ((qbx x0 x4).f2) ((qbx x0 x4).f3) ((qbx x0 x4).f4)).bind fun bt298 => (if x4 < (x3.length : Int) then (qa1.l0 k x0 (x3.set (x4 : Int).toNat (⟨bt298.1, bt298.2.1, bt298.2.2.1, bt298.2.2.2.1, bt298.2.2.2.2⟩ : S41)) (wrap64 (x4 + 1))) else (none))) else (none)) else (some x3)
def qa1.f (k : Nat) (l0 : List (S37)) : Option ((List (S41))) := if 0 ≤ (l0.length : Int) then (if ((l0.length : Int) : Int).toNat ≤ 3909374676536 then (qa1.l0 k l0 (List.replicate ((l0.length : Int) : Int).toNat z41) 0) else (none)) else (none)
theorem qa1.qbA : ∀ k, (∀ y0 y1 y2, LeO (qa1.l0 k y0 y1 y2) (qa1.l0 (k + 1) y0 y1 y2))
 | 0 => fun _ _ _ r h => by simp [qa1.l0] at h
 | k + 1 => by
  have ih0 := qa1.qbA k
  ·intro y0 y1 y2
   unfold qa1.l0
   repeat' first
   | (with_reducible exact ih0 _ _ _)
   | (with_reducible exact qbR.mono _ _ _ _ _ _)
   | (with_reducible exact LeO.refl _)
   | (with_reducible exact LeO.none _)
   | (with_reducible refine LeO.ite ?_ ?_)
   | (with_reducible refine LeO.bind ?_ (fun _ => ?_))
   | exact ih0 _ _ _
   | exact qbR.mono _ _ _ _ _ _
   | exact LeO.none _
   | refine LeO.ite ?_ ?_
   | refine LeO.bind ?_ (fun _ => ?_)
set_option maxHeartbeats 8000000 in
set_option maxRecDepth 100000 in
theorem qa1.calls (k : Nat) (A0 : Option Addr) (c0 : Nat) (l0 : List (S37)) (r : List (S41)) (w : World) (hr0 : Kd.C k37 w A0 l0.length l0) (hc0 : l0.length ≤ c0) (h : qa1.f k l0 = some r) :
  Calls Try.prog 6 #[.slice A0 l0.length c0] w fun e w' => ∃ v0_ : Value, e = .returned (v0_) ∧ Kd.S k41 41 w' w.heap.size (fun _ => True) v0_ r ∧ Below w.heap.size w w' := by
 have hu37 := Try.underlying37
 have hu41 := Try.underlying41
 have HR0 := Aside0.mk hr0
 have HC0 := Aside0.mk hc0
 clear hr0 hc0
 have HB := Aside0.mk (Below.refl w.heap.size w)
 have H : (if 0 ≤ (l0.length : Int) then (if ((l0.length : Int) : Int).toNat ≤ 3909374676536 then (qa1.l0 k l0 (List.replicate ((l0.length : Int) : Int).toNat z41) 0) else (none)) else (none)) = some r := h
 clear h
 by_cases c2 : 0 ≤ (l0.length : Int)
 ·rw [if_pos c2] at H
  have c2b0 := eq_true c2
  have c2b1 : decide (0 ≤ (l0.length : Int)) = true := decide_eq_true c2
  clear c2
  by_cases c3 : ((l0.length : Int) : Int).toNat ≤ 3909374676536
  ·rw [if_pos c3] at H
   have c3b0 := eq_true c3
   have c3b1 : decide (((l0.length : Int) : Int).toNat ≤ 3909374676536) = true := decide_eq_true c3
   clear c3
   obtain ⟨y294, hy294⟩ : ∃ y_ : List (S41), y_ = (List.replicate ((l0.length : Int) : Int).toNat z41) := ⟨_, rfl⟩
   replace H : (qa1.l0 k l0 y294 0) = some r := by first | (rw [hy294]; with_reducible exact H) | (have H2_ := (Option.bind_some _ _).symm.trans H; rw [hy294]; with_reducible exact H2_) | (have H2_ := (Option.bind_some _ _).symm.trans H; with_reducible exact H2_) | with_reducible exact H | (rw [hy294]; exact H) | exact H
   have Ny294 := Aside0.mk hy294
   clear hy294
   have H' := Aside0.mk H
   clear H
   go_enter Try.func6, Try.ntmps6
   go_wp2_with (first | ((with_reducible refine qaM (N := 7) rfl ?_); refine Kd.S_make k41 _ 41 rfl (N := 7) rfl 27 _ _ rfl (l0.length : Int) rfl rfl Try.underlying27 (.agg #[(.string ⟨#[]⟩), (.string ⟨#[]⟩), (.int .i64 0), (.slice none 0 0), (.int .i64 0)]) 72 info41 rfl (by decide) (by omega) z41 (ok := fun _ => True) (okp := fun _ => True) (qgV _ _ _ z41 (Kd.qgP _ _ _ _ _)) (fun _ hk => hk) trivial (of_decide_eq_true (by first | (with_reducible assumption) | assumption)) (Nat.le_trans (Nat.mul_le_mul_right _ (of_decide_eq_true (by first | (with_reducible assumption) | assumption) : (l0.length : Int).toNat ≤ 3909374676536)) (by omega)) (Below.refl _ _) (Nat.le_refl _) ?_; intro v295 w4 ho5 hb hg_ hnew_; clear hg_ hnew_; (first | rw [← Ny294.out] at ho5 | (simp only [Int.reduceToNat] at ho5; rw [← Ny294.out] at ho5)); have n0_ := Aside0.mk (Kd.qe4 ho5 (qak (by repeat (first | (with_reducible first | exact HB.out | apply qac | apply qaa | apply qab) | exact HB.out)))); have n1_ := Aside0.mk (qag (by repeat (first | (with_reducible first | exact HB.out | apply qac | apply qaa | apply qab) | exact HB.out)) hb); clear HB; have HO296 := n0_; have HB := n1_; clear n0_ n1_; clear hb ho5))
   go_loopg [4] k (fun kq v4 w' => ∃ (x3_1 : List (S41)) (x4_1 : Int), v4 = .int .i64 x4_1 ∧ Aside0 (qa1.l0 kq l0 x3_1 x4_1 = some r) ∧ Aside0 (kq ≤ k) ∧ Aside0 (Kd.S k41 41 w' w.heap.size (fun _ => True) v295 x3_1) ∧ Aside0 (Below w.heap.size w w'))
   case atStart => exact ⟨(y294), (0), (by first | rfl | (simp; done) | (simp [*]; done)), H', ⟨Nat.le_refl _⟩, ⟨by (with_reducible repeat (first | apply Kd.qe5 | apply Kd.qe6 | apply Kd.qgq)); exact HO296.out⟩, ⟨by repeat (first | (with_reducible first | exact HB.out | apply qac | apply qaa | apply qab) | exact HB.out)⟩⟩
   case round =>
    clear H'
    try clear c2
    try clear c2b0
    try clear c2b1
    try clear p2
    try clear c3
    try clear c3b0
    try clear c3b1
    obtain ⟨x3_1, x4_1, rfl, HA, HK1, HO_3, HB⟩ := hrel
    cases gk with
    | zero => exact absurd HA.out (by simp [qa1.l0])
    | succ k1 =>
     have H := HA.out
     clear HA
     simp only [qa1.l0] at H
     by_cases c6 : x4_1 < (l0.length : Int)
     ·rw [if_pos c6] at H
      have c6b0 : decide (x4_1 < (l0.length : Int)) = true := decide_eq_true c6
      clear c6
      by_cases c7 : 0 ≤ x4_1
      ·rw [if_pos c7] at H
       have c7b0 : decide (0 ≤ x4_1) = true := decide_eq_true c7
       clear c7
       replace H := Option.bind_eq_some_iff.mp H
       obtain ⟨⟨t298, t299, t300, t301, t304⟩, A80, H⟩ := H
       try dsimp only at H
       have A8 := Aside0.mk A80
       clear A80
       by_cases c9 : x4_1 < (x3_1.length : Int)
       ·rw [if_pos c9] at H
        have c9b0 : decide (x4_1 < (x3_1.length : Int)) = true := decide_eq_true c9
        clear c9
        obtain ⟨y305, hy305⟩ : ∃ y_ : List (S41), y_ = (x3_1.set (x4_1 : Int).toNat (⟨t298, t299, t300, t301, t304⟩ : S41)) := ⟨_, rfl⟩
        replace H : (qa1.l0 k1 l0 y305 (wrap64 (x4_1 + 1))) = some r := by first | (rw [hy305]; with_reducible exact H) | (have H2_ := (Option.bind_some _ _).symm.trans H; rw [hy305]; with_reducible exact H2_) | (have H2_ := (Option.bind_some _ _).symm.trans H; with_reducible exact H2_) | with_reducible exact H | (rw [hy305]; exact H) | exact H
        have Ny305 := Aside0.mk hy305
        clear hy305
        have H' := Aside0.mk H
        clear H
        have p297 : 0 ≤ (x4_1 : Int) := of_decide_eq_true (by first | (with_reducible assumption) | assumption)
        have q297 : x4_1 < (l0.length : Int) := of_decide_eq_true (by first | (with_reducible assumption) | assumption)
        obtain ⟨ad297, A297_3, c297_3, e297, hx297_0, hx297_1, hx297_2, hx297_3, hx297_4, hl297_3, hi297_3⟩ := qim HR0.out x4_1 p297 q297
        cases e297
        replace hx297_0 := (HB.out.cell (World.block_lt_of_cell? w _ hx297_0)).trans hx297_0
        replace hx297_1 := (HB.out.cell (World.block_lt_of_cell? w _ hx297_1)).trans hx297_1
        replace hx297_2 := (HB.out.cell (World.block_lt_of_cell? w _ hx297_2)).trans hx297_2
        replace hx297_3 := (HB.out.cell (World.block_lt_of_cell? w _ hx297_3)).trans hx297_3
        replace hx297_4 := (HB.out.cell (World.block_lt_of_cell? w _ hx297_4)).trans hx297_4
        have HR297_3 := Aside0.mk hi297_3
        have HC297_3 := Aside0.mk hl297_3
        clear hi297_3 hl297_3
        replace p297 := eq_true p297
        replace q297 := eq_true q297
        go_wp2_with (first | ((with_reducible refine qaE (f := 17) rfl ?_); refine qbn (some 20) rfl rfl Try.func17 (by kernel_rfl) rfl #[.agg #[.string ((qbx l0 x4_1).f0), .string ((qbx l0 x4_1).f1), .int .i64 ((qbx l0 x4_1).f2), .slice A297_3 ((qbx l0 x4_1).f3).length c297_3, .int .i64 ((qbx l0 x4_1).f4)]] rfl (by (try simp only [List.map_toArray, List.map_cons, List.map_nil]); first | done | rfl | (simp only [List.length_drop, List.length_take]; rfl)) ?_; (with_reducible refine (qbR.calls k1 ((qbx l0 x4_1).f0) ((qbx l0 x4_1).f1) ((qbx l0 x4_1).f2) _ _ ((qbx l0 x4_1).f3) ((qbx l0 x4_1).f4) t298 t299 t300 t301 t304 _ ?side1 ?side2 A8.out).mono ?_); (case side1 => repeat (first | exact (Kd.qa8 HR297_3.out HB.out) | (with_reducible refine Kd.qa9 ?_ _) | (with_reducible refine Kd.qba ?_ _) | (with_reducible refine Kd.qbl ?_))); (case side2 => exact HC297_3.out); rintro e w11 ⟨v302, rfl, ho0, hb⟩; refine ⟨_, rfl, ?_⟩; have n0_ := Aside0.mk (Kd.S_elder' (by (with_reducible repeat (first | apply Kd.qe5 | apply Kd.qe6 | apply Kd.qgq)); exact HO_3.out) (Kd.qcT ho0) hb); have n1_ := Aside0.mk (Kd.qbh ho0 (qak (by repeat (first | (with_reducible first | exact HB.out | apply qac | apply qaa | apply qab) | exact HB.out)))); have n2_ := Aside0.mk (qag (by repeat (first | (with_reducible first | exact HB.out | apply qac | apply qaa | apply qab) | exact HB.out)) hb); clear HO_3 HB; have HO_3 := n0_; have HO303 := n1_; have HB := n2_; clear n0_ n1_ n2_; have hsv302_ : ∀ (a_ : Addr) (m_ : Mode) (W_ : World), (store a_ v302 m_).run Try.prog W_ = stored Try.prog W_ a_ v302 m_ := (fun a_ m_ W_ => run_store _ W_ a_ v302 m_ (by obtain ⟨_, _, e_⟩ := Kd.qbN HO303.out; rw [e_]; rfl)); (try clear hb); (try clear hb2); (try clear hk); (try clear hi); (try clear ho0); have p10 : 0 ≤ (x4_1 : Int) := of_decide_eq_true (by first | (with_reducible assumption) | assumption); have q10 : (x4_1 : Int) < ((x3_1.length : Int) : Int) := of_decide_eq_true (by first | (with_reducible assumption) | assumption); obtain ⟨go10, co10, eo10, gb10, gl10, cl10, HG10⟩ := Kd.S_form HO_3.out (by omega); (first | cases eo10 | (injection eo10 with ea_ en_ ec_; (first | subst ea_ | (injection ea_ with ea_; subst ea_)); subst ec_; clear en_)); have GB10 := Aside0.mk gb10; have GG10 := Aside0.mk HG10; clear gb10 gl10 HG10; obtain ⟨_, ce10, hcl10, hM10, hcc10, hfr10, _, _⟩ := Kd.qid HO_3.out z41 (x4_1 : Int) p10 q10; obtain ⟨ve10_3, rfl, ge10_3⟩ := qfb hM10; have hx10_0 : w11.cell? ⟨go10, (x4_1 : Int).toNat * 5, none⟩ = some (.string ((qbc x3_1 x4_1).f0)) := hcc10 0 _ rfl; have hx10_1 : w11.cell? ⟨go10, (x4_1 : Int).toNat * 5 + 1, none⟩ = some (.string ((qbc x3_1 x4_1).f1)) := hcc10 1 _ rfl; have hx10_2 : w11.cell? ⟨go10, (x4_1 : Int).toNat * 5 + 2, none⟩ = some (.int .i64 ((qbc x3_1 x4_1).f2)) := hcc10 2 _ rfl; have hx10_3 : w11.cell? ⟨go10, (x4_1 : Int).toNat * 5 + 3, none⟩ = some (ve10_3) := hcc10 3 _ rfl; have hx10_4 : w11.cell? ⟨go10, (x4_1 : Int).toNat * 5 + 4, none⟩ = some (.int .i64 ((qbc x3_1 x4_1).f4)) := hcc10 4 _ rfl; have hf10_0 : w11.frozen? ⟨go10, (x4_1 : Int).toNat * 5, none⟩ = false := hfr10 0; have hf10_1 : w11.frozen? ⟨go10, (x4_1 : Int).toNat * 5 + 1, none⟩ = false := hfr10 1; have hf10_2 : w11.frozen? ⟨go10, (x4_1 : Int).toNat * 5 + 2, none⟩ = false := hfr10 2; have hf10_3 : w11.frozen? ⟨go10, (x4_1 : Int).toNat * 5 + 3, none⟩ = false := hfr10 3; have hf10_4 : w11.frozen? ⟨go10, (x4_1 : Int).toNat * 5 + 4, none⟩ = false := hfr10 4; clear hcl10 hcc10 hfr10 hM10; replace p10 := eq_true p10; replace q10 := eq_true q10; have n_ := Aside0.mk (Kd.qe2 (ok' := (fun k_ => some k_ ≠ (v302 : Value).ownBlock)) HO_3.out (fun k_ hk => hk.2)); clear HO_3; have HO_3 := n_; clear n_; have HX12 := Aside0.mk (show Kd.S k41 41 w11 w.heap.size (fun k_ => ((fun _ => True)) k_ ∧ ¬ ((fun k_ => some k_ = (v302 : Value).ownBlock)) k_) (.slice (some ⟨go10, 0, none⟩) x3_1.length co10) x3_1 from (by (with_reducible repeat (first | apply Kd.qe5 | apply Kd.qe6 | apply Kd.qgq)); exact Kd.qe2 HO_3.out (fun k_ hk => ⟨trivial, fun e_ => hk e_⟩))); obtain ⟨oki12, ce12, hcl12, hM12, hcc12, hfr12, hoki12, hH12⟩ := Kd.qid HX12.out z41 (x4_1 : Int) (of_decide_eq_true (by first | (with_reducible assumption) | assumption)) (by have h_ : (x4_1 : Int) < ((x3_1.length : Int) : Int) := of_decide_eq_true (by first | (with_reducible assumption) | assumption); first | exact h_ | (have e_ := (Kd.qct HO_3.out).1; omega) | simpa using h_); obtain ⟨ve12_3, rfl, ge12_3⟩ := qfb hM12; have HP12 := Kd.S_seg hH12 (of_decide_eq_true (by first | (with_reducible assumption) | assumption)) (by have h_ : (x4_1 : Int) < ((x3_1.length : Int) : Int) := of_decide_eq_true (by first | (with_reducible assumption) | assumption); first | exact h_ | (have e_ := (Kd.qct HO_3.out).1; omega) | simpa using h_) (seg := [.string t298, .string t299, .int .i64 t300, v302, .int .i64 t304]) (j := 0) (show 5 ≤ 5 from by decide) (x' := (⟨t298, t299, t300, t301, t304⟩ : S41)) (qgV _ _ _ (⟨t298, t299, t300, t301, t304⟩ : S41) (Kd.qbr (Kd.qde rfl (Kd.qbr (ok' := fun k_ => ((fun _ => True)) k_ ∧ k_ ≠ go10) (Kd.qhi (HO303.out) (Kd.qib HO_3.out) (by decide)) (fun k_ hk => ⟨trivial, fun e_ => (hk.2) (by rw [e_]; rfl)⟩))) (fun _ h_ => Or.inr (h_)))) (fun _ hk => hk) (fun k_ hk_ => ((Kd.qbr (ok' := fun k_ => ((fun _ => True)) k_ ∧ k_ ≠ go10) (Kd.qhi (HO303.out) (Kd.qib HO_3.out) (by decide)) (fun k_ hk => ⟨trivial, fun e_ => (hk.2) (by rw [e_]; rfl)⟩))).1 k_ hk_.symm); have hx12_0 := hcc12 0 _ rfl; (try simp only [show (k41).sz = 5 from rfl, Nat.mul_one, Nat.add_zero] at hx12_0); have hf12_0 := hfr12 0; (try simp only [show (k41).sz = 5 from rfl, Nat.mul_one, Nat.add_zero] at hf12_0); have hx12_1 := hcc12 1 _ rfl; (try simp only [show (k41).sz = 5 from rfl, Nat.mul_one, Nat.add_zero] at hx12_1); have hf12_1 := hfr12 1; (try simp only [show (k41).sz = 5 from rfl, Nat.mul_one, Nat.add_zero] at hf12_1); have hx12_2 := hcc12 2 _ rfl; (try simp only [show (k41).sz = 5 from rfl, Nat.mul_one, Nat.add_zero] at hx12_2); have hf12_2 := hfr12 2; (try simp only [show (k41).sz = 5 from rfl, Nat.mul_one, Nat.add_zero] at hf12_2); have hx12_3 := hcc12 3 _ rfl; (try simp only [show (k41).sz = 5 from rfl, Nat.mul_one, Nat.add_zero] at hx12_3); have hf12_3 := hfr12 3; (try simp only [show (k41).sz = 5 from rfl, Nat.mul_one, Nat.add_zero] at hf12_3); have hx12_4 := hcc12 4 _ rfl; (try simp only [show (k41).sz = 5 from rfl, Nat.mul_one, Nat.add_zero] at hx12_4); have hf12_4 := hfr12 4; (try simp only [show (k41).sz = 5 from rfl, Nat.mul_one, Nat.add_zero] at hf12_4); clear hcl12 hcc12 hfr12 hM12 hoki12 hH12) | ((with_reducible refine qcr (t := 41) (p := 21) rfl ?_); refine qcg (t := 41) (p := 21) (v := ?vo_w13) (w1 := (((((w11.setCell ⟨go10, (x4_1 : Int).toNat * 5, none⟩ (.string t298)).setCell ⟨go10, (x4_1 : Int).toNat * 5 + 1, none⟩ (.string t299)).setCell ⟨go10, (x4_1 : Int).toNat * 5 + 2, none⟩ (.int .i64 t300)).setCell ⟨go10, (x4_1 : Int).toNat * 5 + 3, none⟩ (v302)).setCell ⟨go10, (x4_1 : Int).toNat * 5 + 4, none⟩ (.int .i64 t304))) ?hg ?ho ?hn ?hr ?_; (case ho => rfl); (case hg => rfl); (case hn => rfl); (case hr => first | (go_simp; done) | (go_simp; rfl)); intro w13 hw; have hg : w11.grownBy w13 (some go10) := (by rw [hw]; exact HP12.2); have hp_ : Kd.S k41 41 w13 w.heap.size (fun _ => True) (.slice (some ⟨go10, 0, none⟩) x3_1.length co10) y305 := (by rw [hw, Ny305.out]; exact HP12.1); clear HP12; have n0_ := Aside0.mk (hp_); have n1_ := Aside0.mk ((by rw [hw]; exact qah (qah (qah (qah (qah (HB.out) GB10.out) GB10.out) GB10.out) GB10.out) GB10.out : Below w.heap.size w w13)); clear HO_3 HB HO303; have HO_3 := n0_; have HB := n1_; clear n0_ n1_; clear hg hw hp_))
        go_roundg k1
        case measure => have := HK1.out; omega
        case rel => exact ⟨(y305), (wrap64 (x4_1 + 1)), (by first | rfl | (simp; done) | (simp [*]; done)), H', ⟨by have := HK1.out; omega⟩, ⟨by (with_reducible repeat (first | apply Kd.qe5 | apply Kd.qe6 | apply Kd.qgq)); exact HO_3.out⟩, ⟨by repeat (first | (with_reducible first | exact HB.out | apply qac | apply qaa | apply qab) | exact HB.out)⟩⟩
       ·rw [if_neg c9] at H
        exact absurd H (by simp)
      ·rw [if_neg c7] at H
       exact absurd H (by simp)
     ·rw [if_neg c6] at H
      have c6b0 : decide (x4_1 < (l0.length : Int)) = false := decide_eq_false c6
      clear c6
      obtain rfl := Option.some.inj H
      go_wp2
      go_ret
      exact ⟨_, by first | rfl | (simp [qam, qan] <;> rfl) | (simp [*, qam, qan] <;> rfl), by (with_reducible repeat (first | apply Kd.qe5 | apply Kd.qe6 | apply Kd.qgq)); exact HO_3.out, by repeat (first | (with_reducible first | exact HB.out | apply qac | apply qaa | apply qab) | exact HB.out)⟩
  ·rw [if_neg c3] at H
   exact absurd H (by simp)
 ·rw [if_neg c2] at H
  exact absurd H (by simp)
theorem qfu (rest : List S37) : ∀ (pre : List S37), ((pre ++ rest).length : Int) ≤ 1048576 → (∀ y ∈ rest, sm37 1048576 y) →
  Ev (fun k => qa1.l0 k (pre ++ rest) (pre.map cv37 ++ List.replicate rest.length z41) ((pre.length : Nat) : Int)) ((pre ++ rest).map cv37) := by
 induction rest with
 | nil =>
  intro pre hl hs
  refine Ev.succ ?_
  simp only [qa1.l0]
  exact Ev.neg (by simp) (Ev.is (by simp))
 | cons x rest ih =>
  intro pre hl hs
  have hx : qbx (pre ++ x :: rest) ((pre.length : Nat) : Int) = x := by simp [qbx, List.getD_eq_getElem?_getD]
  have hlt : ((pre.length : Nat) : Int) < ((pre ++ x :: rest).length : Int) := by simp; omega
  have hw : wrap64 (((pre.length : Nat) : Int) + 1) = (((pre ++ [x]).length : Nat) : Int) := by rw [← qcp]; exact qcu (by omega)
  have hset : ∀ v : S41, ((pre.map cv37 ++ List.replicate (x :: rest).length z41).set ((pre.length : Nat) : Int).toNat v) = (pre.map cv37 ++ [v]) ++ List.replicate rest.length z41 := fun v => by rw [Int.toNat_natCast, List.length_cons, List.replicate_succ]; simp
  have hi := ih (pre ++ [x]) (by simpa using hl) (fun y hy => hs y (List.mem_cons_of_mem _ hy))
  refine Ev.succ ?_
  simp only [qa1.l0, hx]
  refine Ev.pos hlt (Ev.pos (by omega) ?_)
  refine Ev.bind (qi2 x (hs x List.mem_cons_self)) ?_
  refine Ev.pos (by simp; omega) ?_
  simp only [hset, hw]
  have e1 : pre ++ x :: rest = (pre ++ [x]) ++ rest := by simp
  have e2 : (pre ++ [x]).map cv37 = pre.map cv37 ++ [cv37 x] := by simp
  rw [e1]
  rw [e2] at hi
  exact hi
theorem qhV (l : List S37) (hs : ((l.length : Int) ≤ 1048576 ∧ ∀ y ∈ l, sm37 1048576 y)) : Ev (fun k => qa1.f k l) (l.map cv37) := by
 have hl : (l.length : Int) ≤ 1048576 := hs.1
 unfold qa1.f
 refine Ev.pos (by omega) (Ev.pos (by omega) ?_)
 have h := qfu l [] (by simpa using hl) hs.2
 simpa using h
end Go.Proofs.Ytlkdcicpaneakaa.X
