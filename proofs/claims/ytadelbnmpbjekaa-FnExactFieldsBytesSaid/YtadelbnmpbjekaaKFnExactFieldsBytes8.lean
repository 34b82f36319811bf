import Derived.Test.YtadelbnmpbjekaaKFnExactFieldsBytes2
import Derived.Test.YtadelbnmpbjekaaKFnExactFieldsBytes4
import Derived.Test.YtadelbnmpbjekaaKFnExactFieldsBytes5
import Derived.Test.YtadelbnmpbjekaaKFnExactFieldsBytes6
import Derived.Test.YtadelbnmpbjekaaKFnExactFieldsBytes7
import Derived.LoopTactic
import Derived.WalkSpells
import Derived.Deep.RegionHeld3
namespace Go.Proofs.Ytadelbnmpbjekaa.X
open Go.RowKit Go.Proofs.YtadelbnmpbjekaaW.PrintWords Go.Proofs.YtadelbnmpbjekaaW.PrintLast Go.Proofs.YtadelbnmpbjekaaW.PrintMore
attribute [local go_sem] xbin_geq xbin_leq xbin_gtr max2_int min2_int max_two min_two max_three min_three max_four min_four
set_option linter.unusedVariables false
set_option linter.unusedSimpArgs false
def laws_toStringS.l0 : Nat → List ByteArray → List ByteArray → Int → Option (List ByteArray)
 | 0, _, _, _ => none
 | k + 1, x0, x3, x4 => if x4 < (x0.length : Int) then (if 0 ≤ x4 then (if x4 < (x3.length : Int) then (laws_toStringS.l0 k x0 (x3.set (x4 : Int).toNat (rdOf ByteArray.empty x0 x4)) (wrap64 (x4 + 1))) else (none)) else (none)) else (some x3)
def laws_toStringS.f (k : Nat) (l0 : List ByteArray) : Option (List ByteArray) := if 0 ≤ (l0.length : Int) then (if ((l0.length : Int) : Int).toNat ≤ 17592186044416 then (laws_toStringS.l0 k l0 (List.replicate ((l0.length : Int) : Int).toNat (⟨#[]⟩ : ByteArray)) 0) else (none)) else (none)
theorem laws_toStringS.mono_l : ∀ k, (∀ y0 y1 y2, LeO (laws_toStringS.l0 k y0 y1 y2) (laws_toStringS.l0 (k + 1) y0 y1 y2))
 | 0 => fun _ _ _ r h => by simp [laws_toStringS.l0] at h
 | k + 1 => by
  have ih0 := laws_toStringS.mono_l k
  ·intro y0 y1 y2
   unfold laws_toStringS.l0
   repeat' first
   | (with_reducible exact ih0 _ _ _)
   | (with_reducible exact LeO.refl _)
   | (with_reducible exact LeO.none _)
   | (with_reducible refine LeO.ite ?_ ?_)
   | (with_reducible refine LeO.bind ?_ (fun _ => ?_))
   | exact ih0 _ _ _
   | exact LeO.none _
   | refine LeO.ite ?_ ?_
   | refine LeO.bind ?_ (fun _ => ?_)
theorem laws_toStringS.mono : ∀ a0 k, LeO (laws_toStringS.f k a0) (laws_toStringS.f (k + 1) a0) := by
 intro a0 k
 have ih0 := laws_toStringS.mono_l k
 unfold laws_toStringS.f
 repeat' first
   | (with_reducible exact ih0 _ _ _)
   | (with_reducible exact LeO.refl _)
   | (with_reducible exact LeO.none _)
   | (with_reducible refine LeO.ite ?_ ?_)
   | (with_reducible refine LeO.bind ?_ (fun _ => ?_))
   | exact ih0 _ _ _
   | exact LeO.none _
   | refine LeO.ite ?_ ?_
   | refine LeO.bind ?_ (fun _ => ?_)
set_option maxHeartbeats 8000000 in
set_option maxRecDepth 100000 in
theorem laws_toStringS.calls (k : Nat) (A0 : Option Addr) (c0 : Nat) (l0 : List ByteArray) (r : List ByteArray) (w : World) (hr0 : Kd.C Kd.string w A0 l0.length l0) (hc0 : l0.length ≤ c0) (h : laws_toStringS.f k l0 = some r) :
  Calls Try.prog 6 #[.slice A0 l0.length c0] w fun e w' => ∃ v0_ : Value, e = .returned (v0_) ∧ Kd.R Kd.string 9 w' w.heap.size (fun _ => True) v0_ r ∧ Below w.heap.size w w' := by
 have HR0 := Aside0.mk hr0
 have HC0 := Aside0.mk hc0
 clear hr0 hc0
 have HB := Aside0.mk (Below.refl w.heap.size w)
 have H : (if 0 ≤ (l0.length : Int) then (if ((l0.length : Int) : Int).toNat ≤ 17592186044416 then (laws_toStringS.l0 k l0 (List.replicate ((l0.length : Int) : Int).toNat (⟨#[]⟩ : ByteArray)) 0) else (none)) else (none)) = some r := h
 clear h
 by_cases c2 : 0 ≤ (l0.length : Int)
 ·rw [if_pos c2] at H
  have c2b0 := eq_true c2
  have c2b1 : decide (0 ≤ (l0.length : Int)) = true := decide_eq_true c2
  clear c2
  by_cases c3 : ((l0.length : Int) : Int).toNat ≤ 17592186044416
  ·rw [if_pos c3] at H
   have c3b0 := eq_true c3
   have c3b1 : decide (((l0.length : Int) : Int).toNat ≤ 17592186044416) = true := decide_eq_true c3
   clear c3
   obtain ⟨y121, hy121⟩ : ∃ y_ : List ByteArray, y_ = (List.replicate ((l0.length : Int) : Int).toNat (⟨#[]⟩ : ByteArray)) := ⟨_, rfl⟩
   replace H : (laws_toStringS.l0 k l0 y121 0) = some r := by first | (rw [hy121]; with_reducible exact H) | (have H2_ := (Option.bind_some _ _).symm.trans H; rw [hy121]; with_reducible exact H2_) | (have H2_ := (Option.bind_some _ _).symm.trans H; with_reducible exact H2_) | with_reducible exact H | (rw [hy121]; exact H) | exact H
   have Ny121 := Aside0.mk hy121
   clear hy121
   have H' := Aside0.mk H
   clear H
   go_enter Try.func6, Try.ntmps6
   go_wp2_with (first | ((with_reducible refine gate_dst (N := 7) rfl ?_); refine Kd.R_make Kd.string _ 9 rfl (N := 7) rfl 22 _ _ rfl (l0.length : Int) rfl rfl Try.underlying22 (.string ⟨#[]⟩) 16 info9 rfl (by decide) (by omega) (⟨#[]⟩ : ByteArray) (ok := fun _ => True) (okp := fun _ => True) rfl (fun _ hk => hk) trivial (of_decide_eq_true (by first | (with_reducible assumption) | assumption)) (Nat.le_trans (Nat.mul_le_mul_right _ (of_decide_eq_true (by first | (with_reducible assumption) | assumption) : (l0.length : Int).toNat ≤ 17592186044416)) (by omega)) (Below.refl _ _) (Nat.le_refl _) ?_; intro v122 w4 ho5 hb hg_ hnew_; clear hg_ hnew_; (first | rw [← Ny121.out] at ho5 | (simp only [Int.reduceToNat] at ho5; rw [← Ny121.out] at ho5)); have n0_ := Aside0.mk (Kd.R_lower ho5 (below_size (by repeat (first | (with_reducible first | exact HB.out | apply below_alloc | apply pw_below_drewN | apply below_drew1) | exact HB.out)))); have n1_ := Aside0.mk (below_step (by repeat (first | (with_reducible first | exact HB.out | apply below_alloc | apply pw_below_drewN | apply below_drew1) | exact HB.out)) hb); clear HB; have HO123 := n0_; have HB := n1_; clear n0_ n1_; clear hb ho5))
   go_loopg [4] k (fun kq v4 w' => ∃ (x3_1 : List ByteArray) (x4_1 : Int), v4 = .int .i64 x4_1 ∧ Aside0 (laws_toStringS.l0 kq l0 x3_1 x4_1 = some r) ∧ Aside0 (kq ≤ k) ∧ Aside0 (Kd.R Kd.string 9 w' w.heap.size (fun _ => True) v122 x3_1) ∧ Aside0 (Below w.heap.size w w'))
   case atStart => exact ⟨(y121), (0), (by first | rfl | (simp; done) | (simp [*]; done)), H', ⟨Nat.le_refl _⟩, ⟨by (with_reducible repeat (first | apply Kd.R_alloc | apply Kd.R_drewN | apply Kd.R_drew)); exact HO123.out⟩, ⟨by repeat (first | (with_reducible first | exact HB.out | apply below_alloc | apply pw_below_drewN | apply below_drew1) | exact HB.out)⟩⟩
   case round =>
    clear H'
    try clear c2
    try clear c2b0
    try clear c2b1
    try clear p2
    try clear c3
    try clear c3b0
    try clear c3b1
    obtain ⟨x3_1, x4_1, rfl, HA, HK1, HO_3, HB⟩ := hrel
    cases gk with
    | zero => exact absurd HA.out (by simp [laws_toStringS.l0])
    | succ k1 =>
     have H := HA.out
     clear HA
     simp only [laws_toStringS.l0] at H
     by_cases c6 : x4_1 < (l0.length : Int)
     ·rw [if_pos c6] at H
      have c6b0 : decide (x4_1 < (l0.length : Int)) = true := decide_eq_true c6
      clear c6
      by_cases c7 : 0 ≤ x4_1
      ·rw [if_pos c7] at H
       have c7b0 : decide (0 ≤ x4_1) = true := decide_eq_true c7
       clear c7
       by_cases c8 : x4_1 < (x3_1.length : Int)
       ·rw [if_pos c8] at H
        have c8b0 : decide (x4_1 < (x3_1.length : Int)) = true := decide_eq_true c8
        clear c8
        obtain ⟨y125, hy125⟩ : ∃ y_ : List ByteArray, y_ = (x3_1.set (x4_1 : Int).toNat (rdOf ByteArray.empty l0 x4_1)) := ⟨_, rfl⟩
        replace H : (laws_toStringS.l0 k1 l0 y125 (wrap64 (x4_1 + 1))) = some r := by first | (rw [hy125]; with_reducible exact H) | (have H2_ := (Option.bind_some _ _).symm.trans H; rw [hy125]; with_reducible exact H2_) | (have H2_ := (Option.bind_some _ _).symm.trans H; with_reducible exact H2_) | with_reducible exact H | (rw [hy125]; exact H) | exact H
        have Ny125 := Aside0.mk hy125
        clear hy125
        have H' := Aside0.mk H
        clear H
        have p124 : 0 ≤ (x4_1 : Int) := of_decide_eq_true (by first | (with_reducible assumption) | assumption)
        have q124 : x4_1 < (l0.length : Int) := of_decide_eq_true (by first | (with_reducible assumption) | assumption)
        obtain ⟨ad124, e124, hx124_0⟩ := Kd.at_string HR0.out x4_1 p124 q124
        cases e124
        replace hx124_0 := (HB.out.cell (World.block_lt_of_cell? w _ hx124_0)).trans hx124_0
        replace p124 := eq_true p124
        replace q124 := eq_true q124
        have p9 : 0 ≤ (x4_1 : Int) := of_decide_eq_true (by first | (with_reducible assumption) | assumption)
        have q9 : (x4_1 : Int) < ((x3_1.length : Int) : Int) := of_decide_eq_true (by first | (with_reducible assumption) | assumption)
        obtain ⟨go9, co9, eo9, gb9, gl9, cl9, HG9⟩ := Kd.R_form HO_3.out (by omega)
        (first | cases eo9 | (injection eo9 with ea_ en_ ec_; (first | subst ea_ | (injection ea_ with ea_; subst ea_)); subst ec_; clear en_))
        have GB9 := Aside0.mk gb9
        have GG9 := Aside0.mk HG9
        clear gb9 gl9 HG9
        obtain ⟨hx9_0, hf9_0⟩ := Kd.R_celln (⟨#[]⟩ : ByteArray) HO_3.out (x4_1 : Int) p9 q9
        replace p9 := eq_true p9
        replace q9 := eq_true q9
        have HP10 := Kd.R_putg HO_3.out (x4_1 : Int) (rdOf ByteArray.empty l0 x4_1)
        go_wp2_with (first | ((with_reducible refine gate_store (t := 9) (p := 20) rfl ?_); refine store_event (t := 9) (p := 20) (v := ?vo_w11) (w1 := (wr.setCell ⟨go9, (x4_1 : Int).toNat, none⟩ (.string (rdOf ByteArray.empty l0 x4_1)))) ?hg ?ho ?hn ?hr ?_; (case ho => rfl); (case hg => rfl); (case hn => rfl); (case hr => first | (go_simp; done) | (go_simp; rfl)); intro w11 hw; have hg : wr.grownBy w11 (some go9) := (by rw [hw]; exact HP10.2); have hp_ : Kd.R Kd.string 9 w11 w.heap.size (fun _ => True) (.slice (some ⟨go9, 0, none⟩) x3_1.length co9) y125 := (by rw [hw, Ny125.out]; exact HP10.1); clear HP10; have n0_ := Aside0.mk (hp_); have n1_ := Aside0.mk ((by rw [hw]; exact below_set (HB.out) GB9.out : Below w.heap.size w w11)); clear HO_3; clear HB; have HO_3 := n0_; have HB := n1_; clear n0_ n1_; clear hg hw hp_))
        go_roundg k1
        case measure => have := HK1.out; omega
        case rel => exact ⟨(y125), (wrap64 (x4_1 + 1)), (by first | rfl | (simp; done) | (simp [*]; done)), H', ⟨by have := HK1.out; omega⟩, ⟨by (with_reducible repeat (first | apply Kd.R_alloc | apply Kd.R_drewN | apply Kd.R_drew)); exact HO_3.out⟩, ⟨by repeat (first | (with_reducible first | exact HB.out | apply below_alloc | apply pw_below_drewN | apply below_drew1) | exact HB.out)⟩⟩
       ·rw [if_neg c8] at H
        exact absurd H (by simp)
      ·rw [if_neg c7] at H
       exact absurd H (by simp)
     ·rw [if_neg c6] at H
      have c6b0 : decide (x4_1 < (l0.length : Int)) = false := decide_eq_false c6
      clear c6
      obtain rfl := Option.some.inj H
      go_wp2
      go_ret
      exact ⟨_, by first | rfl | (simp [errW_none, errW_some] <;> rfl) | (simp [*, errW_none, errW_some] <;> rfl), by (with_reducible repeat (first | apply Kd.R_alloc | apply Kd.R_drewN | apply Kd.R_drew)); exact HO_3.out, by repeat (first | (with_reducible first | exact HB.out | apply below_alloc | apply pw_below_drewN | apply below_drew1) | exact HB.out)⟩
  ·rw [if_neg c3] at H
   exact absurd H (by simp)
 ·rw [if_neg c2] at H
  exact absurd H (by simp)
end Go.Proofs.Ytadelbnmpbjekaa.X
namespace Go.Proofs.Ytadelbnmpbjekaa.X
open Go.RowKit Go.Proofs.YtadelbnmpbjekaaW.PrintWords Go.Proofs.YtadelbnmpbjekaaW.PrintLast Go.Proofs.YtadelbnmpbjekaaW.PrintMore
attribute [local go_sem] xbin_geq xbin_leq xbin_gtr max2_int min2_int max_two min_two max_three min_three max_four min_four
set_option linter.unusedVariables false
set_option linter.unusedSimpArgs false
theorem to_StringS_loop (rest : List ByteArray) : ∀ (pre : List ByteArray), ((pre ++ rest).length : Int) ≤ 1048576 → (∀ y ∈ rest, True) →
    Ev (fun k => laws_toStringS.l0 k (pre ++ rest) (pre ++ List.replicate rest.length (⟨#[]⟩ : ByteArray)) ((pre.length : Nat) : Int)) ((pre ++ rest)) := by
  induction rest with
  | nil =>
    intro pre hl hs
    refine Ev.succ ?_
    simp only [laws_toStringS.l0]
    exact Ev.neg (by simp) (Ev.is (by simp))
  | cons x rest ih =>
    intro pre hl hs
    have hx : rdOf ByteArray.empty (pre ++ x :: rest) ((pre.length : Nat) : Int) = x := by simp [rdOf, List.getD_eq_getElem?_getD]
    have hlt : ((pre.length : Nat) : Int) < ((pre ++ x :: rest).length : Int) := by simp; omega
    have hw : wrap64 (((pre.length : Nat) : Int) + 1) = (((pre ++ [x]).length : Nat) : Int) := by rw [← len_snoc]; exact wrap_at (by omega)
    have hset : ∀ v : ByteArray, ((pre ++ List.replicate (x :: rest).length (⟨#[]⟩ : ByteArray)).set ((pre.length : Nat) : Int).toNat v) = (pre ++ [v]) ++ List.replicate rest.length (⟨#[]⟩ : ByteArray) := fun v => by rw [Int.toNat_natCast, List.length_cons, List.replicate_succ]; simp
    have hi := ih (pre ++ [x]) (by simpa using hl) (fun y hy => hs y (List.mem_cons_of_mem _ hy))
    refine Ev.succ ?_
    simp only [laws_toStringS.l0, hx]
    refine Ev.pos hlt (Ev.pos (by omega) ?_)
    refine Ev.pos (by simp; omega) ?_
    simp only [hset, hw]
    have e1 : pre ++ x :: rest = (pre ++ [x]) ++ rest := by simp
    rw [e1]
    exact hi
theorem to_StringS (l : List ByteArray) (hs : ((l.length : Int) ≤ 1048576 ∧ ∀ y ∈ l, (y.size : Int) ≤ 1048576)) : Ev (fun k => laws_toStringS.f k l) (l) := by
  have hl : (l.length : Int) ≤ 1048576 := hs.1
  unfold laws_toStringS.f
  refine Ev.pos (by omega) (Ev.pos (by omega) ?_)
  have h := to_StringS_loop l [] (by simpa using hl) (fun _ _ => trivial)
  simpa using h
end Go.Proofs.Ytadelbnmpbjekaa.X
namespace Go.Proofs.Ytadelbnmpbjekaa.X
open Go.RowKit Go.Proofs.YtadelbnmpbjekaaW.PrintWords Go.Proofs.YtadelbnmpbjekaaW.PrintLast Go.Proofs.YtadelbnmpbjekaaW.PrintMore
attribute [local go_sem] xbin_geq xbin_leq xbin_gtr max2_int min2_int max_two min_two max_three min_three max_four min_four
set_option linter.unusedVariables false
set_option linter.unusedSimpArgs false
set_option maxHeartbeats 8000000 in
set_option maxRecDepth 100000 in
theorem small_FieldsBytes (kz : Nat) (z : Int) (A0 : Option Addr) (c0 : Nat) (l : List ByteArray) (w : World) (hr0 : Kd.C Kd.string w A0 l.length l) (hc0 : l.length ≤ c0) (hz : laws_szStringS.f kz l 1048576 = some z) (hzn : z < 0) :
    Calls Try.prog 3 #[.slice A0 l.length c0] w fun e w' => e = .returned (.bool true) ∧ Below w.heap.size w w' := by
  have t1 : decide (z < 0) = true := decide_eq_true hzn
  have HR0 := Aside0.mk hr0
  have Ahz := Aside0.mk hz
  have HBi := Aside0.mk (Below.refl w.heap.size w)
  clear hr0 hz
  go_enter Try.func3, Try.ntmps3
  go_wp2_with fail
  refine (laws_szStringS.calls (hr0 := Kd.C_below HR0.out HBi.out) (hc0 := hc0) (h := Ahz.out)).mono ?_
  rintro e w1 ⟨rfl, hb1⟩
  have hb1 := (show Below (w).heap.size (w) w1 from by first | exact hb1 | exact hb1.below)
  have HB1 := Aside0.mk (below_step HBi.out hb1)
  have Z1_0 := Aside0.mk (show (w).heap.size ≤ w1.heap.size from hb1.size)
  clear hb1 HBi
  go_wp2_with fail
  go_ret
  exact ⟨rfl, HB1.out⟩
set_option maxHeartbeats 8000000 in
set_option maxRecDepth 100000 in
theorem walk_FieldsBytes (kz kt ks keR keX kmX kh : Nat) (z : Int) (A0 : Option Addr) (c0 : Nat) (l : List ByteArray) (R : List Int) (code : Int) (mX : Int) (lX : List ByteArray) (w : World) (hr0 : Kd.C Kd.string w A0 l.length l) (hc0 : l.length ≤ c0) (hz : laws_szStringS.f kz l 1048576 = some z) (hzn : ¬ z < 0)
    (ht : laws_toStringS.f kt l = some l) (hsp : spec_FieldsBytes.f ks l = some (R, code)) (him : fieldsR l = (R, code)) (heR : laws_eqByteS.f keR R R = some true) (heX : laws_eqStringS.f keX l l = some true) (hmX : laws_markStringS.f kmX l 1 = some (mX, lX)) (hh : laws_heldByteS.f kh (mk_ByteS R 1) 1 = some (1 + (R.length : Int))) (hmXn : ¬ mX < 0) (hRl : (R.length : Int) ≤ 4611686018427387000) :
    Calls Try.prog 3 #[.slice A0 l.length c0] w fun e w' => e = .returned (.bool true) ∧ Below w.heap.size w w' := by
  have t1 : decide (z < 0) = false := decide_eq_false hzn
  have t2 : decide (mX < 0) = false := decide_eq_false hmXn
  have t5 : (code != code) = false := bne_self_eq_false _
  obtain ⟨m, hm⟩ : ∃ m : Int, m = 1 + (R.length : Int) := ⟨_, rfl⟩
  rw [← hm] at hh
  have HM := Aside0.mk hm
  have t4 : decide (m < 0) = false := decide_eq_false (by omega)
  have t6 : (m != m) = false := bne_self_eq_false _
  have HRL := Aside0.mk hRl
  clear hm hRl
  have HR0 := Aside0.mk hr0
  have Ahz := Aside0.mk hz
  have Aht := Aside0.mk ht
  have Ahsp := Aside0.mk hsp
  have Ahim := Aside0.mk him
  have AheR := Aside0.mk heR
  have AheX := Aside0.mk heX
  have AhmX := Aside0.mk hmX
  have Ahh := Aside0.mk hh
  have HBi := Aside0.mk (Below.refl w.heap.size w)
  clear hr0 hz ht hsp him heR heX hmX hh
  go_enter Try.func3, Try.ntmps3
  go_wp2_with fail
  refine (laws_szStringS.calls (hr0 := Kd.C_below HR0.out HBi.out) (hc0 := hc0) (h := Ahz.out)).mono ?_
  rintro e w1 ⟨rfl, hb1⟩
  have hb1 := (show Below (w).heap.size (w) w1 from by first | exact hb1 | exact hb1.below)
  have HB1 := Aside0.mk (below_step HBi.out hb1)
  have Z1_0 := Aside0.mk (show (w).heap.size ≤ w1.heap.size from hb1.size)
  clear hb1 HBi
  go_wp2_with fail
  refine (laws_toStringS.calls (hr0 := Kd.C_below HR0.out HB1.out) (hc0 := hc0) (h := Aht.out)).mono ?_
  rintro e w2 ⟨v2_0, rfl, ho2_0, hb2⟩
  have hb2 := (show Below (w1).heap.size (w1) w2 from by first | exact hb2 | exact hb2.below)
  obtain ⟨A2X0, c2X0, rfl, _, _⟩ := Kd.R_reads ho2_0
  have nho2_0 := Aside0.mk (Kd.R_lower (Kd.R_mono (Kd.R_bound ho2_0) (fun k hk => (show (w1).heap.size ≤ k ∧ k < w2.heap.size from ⟨hk.2.1, hk.2.2.1⟩))) HB1.out.size)
  have HB2 := Aside0.mk (below_step HB1.out hb2)
  have Z2_1 := Aside0.mk (show (w1).heap.size ≤ w2.heap.size from hb2.size)
  clear hb2 ho2_0 HB1
  go_wp2_with fail
  refine (spec_FieldsBytes.calls (hr0 := (Kd.R_reads' nho2_0.out).2.2) (hc0 := (Kd.R_reads' nho2_0.out).2.1) (h := Ahsp.out)).mono ?_
  rintro e w3 ⟨v3_0, rfl, ho3_0, hb3⟩
  have hb3 := (show Below (w2).heap.size (w2) w3 from by first | exact hb3 | exact hb3.below)
  obtain ⟨A3W, c3W, rfl, _, _⟩ := Kd.R_reads ho3_0
  have nho3_0 := Aside0.mk (Kd.R_lower (Kd.R_mono (Kd.R_bound ho3_0) (fun k hk => (show (w2).heap.size ≤ k ∧ k < w3.heap.size from ⟨hk.2.1, hk.2.2.1⟩))) HB2.out.size)
  have HB3 := Aside0.mk (below_step HB2.out hb3)
  have HX03 := Aside0.mk (Kd.R_below nho2_0.out hb3)
  have Z3_2 := Aside0.mk (show (w2).heap.size ≤ w3.heap.size from hb3.size)
  clear hb3 ho3_0 HB2 nho2_0
  go_wp2_with fail
  refine (laws_toStringS.calls (hr0 := Kd.C_below HR0.out HB3.out) (hc0 := hc0) (h := Aht.out)).mono ?_
  rintro e w4 ⟨v4_0, rfl, ho4_0, hb4⟩
  have hb4 := (show Below (w3).heap.size (w3) w4 from by first | exact hb4 | exact hb4.below)
  obtain ⟨A4X, c4X, rfl, _, _⟩ := Kd.R_reads ho4_0
  have nho4_0 := Aside0.mk (Kd.R_lower (Kd.R_mono (Kd.R_bound ho4_0) (fun k hk => (show (w3).heap.size ≤ k ∧ k < w4.heap.size from ⟨hk.2.1, hk.2.2.1⟩))) HB3.out.size)
  have HB4 := Aside0.mk (below_step HB3.out hb4)
  have HW4 := Aside0.mk (Kd.R_below nho3_0.out hb4)
  have Z4_3 := Aside0.mk (show (w3).heap.size ≤ w4.heap.size from hb4.size)
  clear hb4 ho4_0 HB3 nho3_0
  go_wp2_with fail
  refine (implFieldsBytes_at A4X c4X l R code w4 (Kd.R_reads' nho4_0.out).2.2 (Kd.R_reads' nho4_0.out).2.1 Ahim.out).mono ?_
  rintro e w5 ⟨v5_0, rfl, ho5_0, hb5⟩
  have hb5 := (show Below (w4).heap.size (w4) w5 from by first | exact hb5 | exact hb5.below)
  obtain ⟨A5G, c5G, rfl, _, _⟩ := BR.reads ho5_0
  have nho5_0 := Aside0.mk (BR.lower (BR.mono ho5_0 (fun k _ h1 h2 => (show (w4).heap.size ≤ k ∧ k < w5.heap.size from ⟨h1, h2⟩))) HB4.out.size)
  have HB5 := Aside0.mk (below_step HB4.out hb5)
  have HW5 := Aside0.mk (Kd.R_below HW4.out hb5)
  have HX5 := Aside0.mk (Kd.R_below nho4_0.out hb5)
  have Z5_4 := Aside0.mk (show (w4).heap.size ≤ w5.heap.size from hb5.size)
  clear hb5 ho5_0 HB4 HW4 nho4_0
  go_wp2_with fail
  refine (laws_eqByteS.calls (hr0 := (BR.reads2 nho5_0.out).2.2) (hc0 := (BR.reads2 nho5_0.out).2.1) (hr1 := (Kd.R_reads' HW5.out).2.2) (hc1 := (Kd.R_reads' HW5.out).2.1) (h := AheR.out)).mono ?_
  rintro e w6 ⟨rfl, hb6⟩
  have hb6 := (show Below (w5).heap.size (w5) w6 from by first | exact hb6 | exact hb6.below)
  have HB6 := Aside0.mk (below_step HB5.out hb6)
  have HW6 := Aside0.mk (Kd.R_below HW5.out hb6)
  have HX6 := Aside0.mk (Kd.R_below HX5.out hb6)
  have HG6 := Aside0.mk (BR.below nho5_0.out hb6)
  have Z6_5 := Aside0.mk (show (w5).heap.size ≤ w6.heap.size from hb6.size)
  clear hb6 HB5 HW5 HX5 nho5_0
  go_wp2_with fail
  refine (laws_toStringS.calls (hr0 := Kd.C_below HR0.out HB6.out) (hc0 := hc0) (h := Aht.out)).mono ?_
  rintro e w7 ⟨v7_0, rfl, ho7_0, hb7⟩
  have hb7 := (show Below (w6).heap.size (w6) w7 from by first | exact hb7 | exact hb7.below)
  obtain ⟨A7T1, c7T1, rfl, _, _⟩ := Kd.R_reads ho7_0
  have nho7_0 := Aside0.mk (Kd.R_lower (Kd.R_mono (Kd.R_bound ho7_0) (fun k hk => (show (w6).heap.size ≤ k ∧ k < w7.heap.size from ⟨hk.2.1, hk.2.2.1⟩))) HB6.out.size)
  have HB7 := Aside0.mk (below_step HB6.out hb7)
  have HW7 := Aside0.mk (Kd.R_below HW6.out hb7)
  have HX7 := Aside0.mk (Kd.R_below HX6.out hb7)
  have HG7 := Aside0.mk (BR.below HG6.out hb7)
  have Z7_6 := Aside0.mk (show (w6).heap.size ≤ w7.heap.size from hb7.size)
  clear hb7 ho7_0 HB6 HW6 HX6 HG6
  go_wp2_with fail
  refine (laws_eqStringS.calls (hr0 := (Kd.R_reads' HX7.out).2.2) (hc0 := (Kd.R_reads' HX7.out).2.1) (hr1 := (Kd.R_reads' nho7_0.out).2.2) (hc1 := (Kd.R_reads' nho7_0.out).2.1) (h := AheX.out)).mono ?_
  rintro e w8 ⟨rfl, hb8⟩
  have hb8 := (show Below (w7).heap.size (w7) w8 from by first | exact hb8 | exact hb8.below)
  have HB8 := Aside0.mk (below_step HB7.out hb8)
  have HW8 := Aside0.mk (Kd.R_below HW7.out hb8)
  have HX8 := Aside0.mk (Kd.R_below HX7.out hb8)
  have HG8 := Aside0.mk (BR.below HG7.out hb8)
  have HT18 := Aside0.mk (Kd.R_below nho7_0.out hb8)
  have Z8_7 := Aside0.mk (show (w7).heap.size ≤ w8.heap.size from hb8.size)
  clear hb8 HB7 HW7 HX7 HG7 nho7_0
  go_wp2_with fail
  have ZA9 := Aside0.mk (And.intro Z1_0.out (And.intro Z2_1.out (And.intro Z3_2.out (And.intro Z4_3.out (And.intro Z5_4.out (And.intro Z6_5.out (And.intro Z7_6.out (Z8_7.out))))))))
  refine (laws_markStringS.calls (w0 := w) (hB := HB8.out) (ho0 := HX8.out) (h := AhmX.out)).mono ?_
  rintro e w9 ⟨rfl, hr9, hb9, hk9⟩
  have hr9 := Aside0.mk (Kd.R_reok (ok := (fun k => (w3).heap.size ≤ k ∧ k < w4.heap.size)) rfl hr9 (fun k hk => HX8.out.1 k hk))
  have HB9 := Aside0.mk (hb9)
  have HW9 := Aside0.mk (Kd.R_kept HW8.out hk9 (fun k hk h => (by have h1 := hk.1; have h2 := hk.2; have h3 := h.1; have h4 := h.2; have z := ZA9.out; omega)))
  have HG9 := Aside0.mk (BR.kept HG8.out hk9 (fun k hk h => (by have h1 := hk.1; have h2 := hk.2; have h3 := h.1; have h4 := h.2; have z := ZA9.out; omega)))
  have Z9_8 := Aside0.mk (show (w8).heap.size ≤ w9.heap.size from hk9.1)
  clear hb9 hk9 HB8 HW8 HG8 HX8
  go_wp2_with fail
  refine (laws_eqByteS.calls (hr0 := (BR.reads2 HG9.out).2.2) (hc0 := (BR.reads2 HG9.out).2.1) (hr1 := (Kd.R_reads' HW9.out).2.2) (hc1 := (Kd.R_reads' HW9.out).2.1) (h := AheR.out)).mono ?_
  rintro e w10 ⟨rfl, hb10⟩
  have hb10 := (show Below (w9).heap.size (w9) w10 from by first | exact hb10 | exact hb10.below)
  have HB10 := Aside0.mk (below_step HB9.out hb10)
  have HW10 := Aside0.mk (Kd.R_below HW9.out hb10)
  have HG10 := Aside0.mk (BR.below HG9.out hb10)
  have Z10_9 := Aside0.mk (show (w9).heap.size ≤ w10.heap.size from hb10.size)
  clear hb10 HB9 HW9 HG9
  go_wp2_with fail
  have ZA11 := Aside0.mk (And.intro Z1_0.out (And.intro Z2_1.out (And.intro Z3_2.out (And.intro Z4_3.out (And.intro Z5_4.out (And.intro Z6_5.out (And.intro Z7_6.out (And.intro Z8_7.out (And.intro Z9_8.out (Z10_9.out))))))))))
  refine (markByteS_br _ A5G c5G R 1 w w10 HB10.out HG10.out (by omega) (by have := HRL.out; omega)).mono ?_
  rintro e w11 ⟨rfl, hr11, hb11, hk11⟩
  have hr11 := Aside0.mk hr11
  have HB11 := Aside0.mk (hb11)
  have HW11 := Aside0.mk (Kd.R_kept HW10.out hk11 (fun k hk h => (by have h1 := hk.1; have h2 := hk.2; have h3 := h.1; have h4 := h.2; have z := ZA11.out; omega)))
  have Z11_10 := Aside0.mk (show (w10).heap.size ≤ w11.heap.size from hk11.1)
  clear hb11 hk11 HB10 HW10 HG10
  rw [← HM.out]
  go_wp2_with fail
  have hl11 := (BR.reads2 hr11.out).1
  have hh11 := laws_heldByteS.calls (A0 := A5G) (c0 := c5G) (hr0 := by exact (BR.reads2 hr11.out).2.2) (hc0 := by rw [← hl11]; exact (BR.reads2 hr11.out).2.1) (h := Ahh.out)
  rw [← hl11] at hh11
  clear hl11
  refine (hh11).mono ?_
  rintro e w12 ⟨rfl, hb12⟩
  have hb12 := (show Below (w11).heap.size (w11) w12 from by first | exact hb12 | exact hb12.below)
  have HB12 := Aside0.mk (below_step HB11.out hb12)
  have HW12 := Aside0.mk (Kd.R_below HW11.out hb12)
  have HG12 := Aside0.mk (BR.below hr11.out hb12)
  have Z12_11 := Aside0.mk (show (w11).heap.size ≤ w12.heap.size from hb12.size)
  clear hb12 HB11 HW11 hr11
  clear hh11
  go_wp2_with fail
  refine (laws_toStringS.calls (hr0 := Kd.C_below HR0.out HB12.out) (hc0 := hc0) (h := Aht.out)).mono ?_
  rintro e w13 ⟨v13_0, rfl, ho13_0, hb13⟩
  have hb13 := (show Below (w12).heap.size (w12) w13 from by first | exact hb13 | exact hb13.below)
  obtain ⟨A13T3, c13T3, rfl, _, _⟩ := Kd.R_reads ho13_0
  have nho13_0 := Aside0.mk (Kd.R_lower (Kd.R_mono (Kd.R_bound ho13_0) (fun k hk => (show (w12).heap.size ≤ k ∧ k < w13.heap.size from ⟨hk.2.1, hk.2.2.1⟩))) HB12.out.size)
  have HB13 := Aside0.mk (below_step HB12.out hb13)
  have HW13 := Aside0.mk (Kd.R_below HW12.out hb13)
  have HG13 := Aside0.mk (BR.below HG12.out hb13)
  have Z13_12 := Aside0.mk (show (w12).heap.size ≤ w13.heap.size from hb13.size)
  clear hb13 ho13_0 HB12 HW12 HG12
  go_wp2_with fail
  refine (implFieldsBytes_at A13T3 c13T3 l R code w13 (Kd.R_reads' nho13_0.out).2.2 (Kd.R_reads' nho13_0.out).2.1 Ahim.out).mono ?_
  rintro e w14 ⟨v14_0, rfl, ho14_0, hb14⟩
  have hb14 := (show Below (w13).heap.size (w13) w14 from by first | exact hb14 | exact hb14.below)
  obtain ⟨A14Q, c14Q, rfl, _, _⟩ := BR.reads ho14_0
  have nho14_0 := Aside0.mk (BR.lower (BR.mono ho14_0 (fun k _ h1 h2 => (show (w13).heap.size ≤ k ∧ k < w14.heap.size from ⟨h1, h2⟩))) HB13.out.size)
  have HB14 := Aside0.mk (below_step HB13.out hb14)
  have HW14 := Aside0.mk (Kd.R_below HW13.out hb14)
  have HG14 := Aside0.mk (BR.below HG13.out hb14)
  have HT314 := Aside0.mk (Kd.R_below nho13_0.out hb14)
  have Z14_13 := Aside0.mk (show (w13).heap.size ≤ w14.heap.size from hb14.size)
  clear hb14 ho14_0 HB13 HW13 HG13 nho13_0
  go_wp2_with fail
  refine (laws_eqByteS.calls (hr0 := (BR.reads2 nho14_0.out).2.2) (hc0 := (BR.reads2 nho14_0.out).2.1) (hr1 := (Kd.R_reads' HW14.out).2.2) (hc1 := (Kd.R_reads' HW14.out).2.1) (h := AheR.out)).mono ?_
  rintro e w15 ⟨rfl, hb15⟩
  have hb15 := (show Below (w14).heap.size (w14) w15 from by first | exact hb15 | exact hb15.below)
  have HB15 := Aside0.mk (below_step HB14.out hb15)
  have HW15 := Aside0.mk (Kd.R_below HW14.out hb15)
  have HG15 := Aside0.mk (BR.below HG14.out hb15)
  have HQ15 := Aside0.mk (BR.below nho14_0.out hb15)
  have Z15_14 := Aside0.mk (show (w14).heap.size ≤ w15.heap.size from hb15.size)
  clear hb15 HB14 HW14 HG14 nho14_0
  go_wp2_with fail
  have hl15 := (BR.reads2 HG15.out).1
  have hh15 := laws_heldByteS.calls (A0 := A5G) (c0 := c5G) (hr0 := by exact (BR.reads2 HG15.out).2.2) (hc0 := by rw [← hl15]; exact (BR.reads2 HG15.out).2.1) (h := Ahh.out)
  rw [← hl15] at hh15
  clear hl15
  refine (hh15).mono ?_
  rintro e w16 ⟨rfl, hb16⟩
  have hb16 := (show Below (w15).heap.size (w15) w16 from by first | exact hb16 | exact hb16.below)
  have HB16 := Aside0.mk (below_step HB15.out hb16)
  have HW16 := Aside0.mk (Kd.R_below HW15.out hb16)
  have HG16 := Aside0.mk (BR.below HG15.out hb16)
  have HQ16 := Aside0.mk (BR.below HQ15.out hb16)
  have Z16_15 := Aside0.mk (show (w15).heap.size ≤ w16.heap.size from hb16.size)
  clear hb16 HB15 HW15 HG15 HQ15
  clear hh15
  go_wp2_with fail
  go_ret
  exact ⟨rfl, HB16.out⟩
open Classical in
noncomputable def laws_FnExactFieldsBytes.f (l0 : List ByteArray) : Option Bool := if (l0.length ≤ maxLen ∧ ∀ y ∈ l0, y.size ≤ maxLen) then some true else none
theorem laws_FnExactFieldsBytes.calls (A0 : Option Addr) (c0 : Nat) (l0 : List ByteArray) (r : Bool) (w : World) (hr0 : Kd.C Kd.string w A0 l0.length l0) (hc0 : l0.length ≤ c0) (h : laws_FnExactFieldsBytes.f l0 = some r) :
    Calls Try.prog 3 #[.slice A0 l0.length c0] w fun e w' => e = .returned (.bool r) ∧ Below w.heap.size w w' := by
  unfold laws_FnExactFieldsBytes.f at h
  by_cases hw : (l0.length ≤ maxLen ∧ ∀ y ∈ l0, y.size ≤ maxLen)
  · rw [if_pos hw] at h
    obtain rfl := Option.some.inj h
    clear h
    obtain ⟨z, hz, hq⟩ := sz_StringS l0 hw 1048576 1048576 (by omega) (by omega) (by omega)
    obtain ⟨kz, hz⟩ := Ev.rounds hz
    by_cases hzn : z < 0
    · exact small_FieldsBytes kz z A0 c0 l0 w hr0 hc0 hz hzn
    have hs := (hq (by omega)).2
    obtain ⟨kt, ht⟩ := Ev.rounds (to_StringS l0 hs)
    have n0 : l0.length ≤ 1048576 := by have := hs.1; omega
    have hn := fieldsR_length l0
    obtain ⟨ks, hsp⟩ := Ev.rounds (spec_fieldsR l0)
    obtain ⟨RR, him⟩ : ∃ RR, fieldsR l0 = RR := ⟨_, rfl⟩
    rw [him] at hsp hn
    obtain ⟨R, code⟩ := RR
    simp only at hn
    obtain ⟨keX, heX⟩ := Ev.rounds (eq_StringS l0 (by omega))
    obtain ⟨keR, heR⟩ := Ev.rounds (eq_ByteS R (by omega))
    obtain ⟨kmX, hmX⟩ := Ev.rounds (mark_StringS l0 1 (by omega) (by omega) (by omega))
    obtain ⟨kh, hh⟩ := Ev.rounds (Ev.same (held_ByteS R 1 (by omega) (by omega) (by omega)) (show _ = 1 + (R.length : Int) by omega))
    exact walk_FieldsBytes kz kt ks keR keX kmX kh z A0 c0 l0 R code _ _ w hr0 hc0 hz hzn ht hsp him heR heX hmX hh (by omega) (by omega)
  · rw [if_neg hw] at h
    cases h
end Go.Proofs.Ytadelbnmpbjekaa.X
