import Derived.Test.YtgcncphdjabjjaaKFnExactBackupBytes4
import Derived.Test.YtgcncphdjabjjaaKFnExactBackupBytes6
import Derived.LoopTactic
import Derived.WalkSpells
import Derived.Lib.ConvBytes
import Derived.BigQuiet
namespace Go.Proofs.Ytgcncphdjabjjaa.X
open Go.RowKit Go.Proofs.YtgcncphdjabjjaaW.PrintWords Go.Proofs.YtgcncphdjabjjaaW.PrintLast Go.Proofs.YtgcncphdjabjjaaW.PrintMore
attribute [local go_sem] xbin_geq xbin_leq xbin_gtr max2_int min2_int max_two min_two max_three min_three max_four min_four
set_option linter.unusedVariables false
set_option linter.unusedSimpArgs false
def laws_markByteS.l0 : Nat → List Int → Int → Int → Option (Int × List Int)
 | 0, _, _, _ => none
 | k + 1, x0, x1, x5 => if x5 < (x0.length : Int) then (if 0 ≤ x5 then (laws_markByteS.l0 k (x0.set (x5 : Int).toNat ((x1) % 256)) (wrap64 (x1 + 1)) (wrap64 (x5 + 1))) else (none)) else (some (x1, x0))
def laws_markByteS.f (k : Nat) (l0 : List Int) (a1 : Int) : Option (Int × List Int) := laws_markByteS.l0 k l0 a1 0
theorem laws_markByteS.mono_l : ∀ k, (∀ y0 y1 y2, LeO (laws_markByteS.l0 k y0 y1 y2) (laws_markByteS.l0 (k + 1) y0 y1 y2))
 | 0 => fun _ _ _ r h => by simp [laws_markByteS.l0] at h
 | k + 1 => by
  have ih0 := laws_markByteS.mono_l k
  ·intro y0 y1 y2
   unfold laws_markByteS.l0
   repeat' first
   | (with_reducible exact ih0 _ _ _)
   | (with_reducible exact LeO.refl _)
   | (with_reducible exact LeO.none _)
   | (with_reducible refine LeO.ite ?_ ?_)
   | (with_reducible refine LeO.bind ?_ (fun _ => ?_))
   | exact ih0 _ _ _
   | exact LeO.none _
   | refine LeO.ite ?_ ?_
   | refine LeO.bind ?_ (fun _ => ?_)
theorem laws_markByteS.mono : ∀ a0 a1 k, LeO (laws_markByteS.f k a0 a1) (laws_markByteS.f (k + 1) a0 a1) := by
 intro a0 a1 k
 have ih0 := laws_markByteS.mono_l k
 unfold laws_markByteS.f
 repeat' first
   | (with_reducible exact ih0 _ _ _)
   | (with_reducible exact LeO.refl _)
   | (with_reducible exact LeO.none _)
   | (with_reducible refine LeO.ite ?_ ?_)
   | (with_reducible refine LeO.bind ?_ (fun _ => ?_))
   | exact ih0 _ _ _
   | exact LeO.none _
   | refine LeO.ite ?_ ?_
   | refine LeO.bind ?_ (fun _ => ?_)
set_option maxHeartbeats 8000000 in
set_option maxRecDepth 100000 in
theorem laws_markByteS.calls (k : Nat) (P0_ : Nat → Prop) (u9000_ : Value) (l0 : List Int) (a1 : Int) (r1 : Int) (r2 : List Int) (w0 w : World) (hB : Below w0.heap.size w0 w) (ho0 : Kd.R (Kd.int .u8) 5 w w0.heap.size P0_ u9000_ l0) (h : laws_markByteS.f k l0 a1 = some (r1, r2)) :
  Calls Try.prog 36 #[u9000_, .int .i64 a1] w fun e w' => e = .returned (.int .i64 r1) ∧ Kd.R (Kd.int .u8) 5 w' w0.heap.size (fun k_ => (P0_ k_ ∨ w.heap.size ≤ k_)) u9000_ r2 ∧ Below w0.heap.size w0 w' ∧ Kept w w' (fun k_ => P0_ k_) := by
 have HO0 := Aside0.mk (show Kd.R (Kd.int .u8) 5 w w0.heap.size (fun k_ => (P0_ k_ ∨ w.heap.size ≤ k_)) u9000_ l0 from Kd.R_mono ho0 (fun k_ hk => (.inl hk)))
 have HK := Aside0.mk (Kept.refl w (fun k_ => P0_ k_))
 have HW0 := Aside0.mk hB.size
 have HB := Aside0.mk hB
 clear hB
 have H : (laws_markByteS.l0 k l0 a1 0) = some (r1, r2) := h
 clear h
 have H' := Aside0.mk H
 clear H
 go_enter Try.func36, Try.ntmps36
 go_wp2
 go_loopg [1, 5] k (fun kq v1 v5 w' => ∃ (x0_1 : List Int) (x1_1 : Int) (x5_1 : Int), v1 = .int .i64 x1_1 ∧ v5 = .int .i64 x5_1 ∧ Aside0 (laws_markByteS.l0 kq x0_1 x1_1 x5_1 = some (r1, r2)) ∧ Aside0 (kq ≤ k) ∧ Aside0 (Kd.R (Kd.int .u8) 5 w' w0.heap.size (fun k_ => (P0_ k_ ∨ w.heap.size ≤ k_)) u9000_ x0_1) ∧ Aside0 (Kept w w' (fun k_ => P0_ k_)) ∧ Aside0 (Below w0.heap.size w0 w'))
 case atStart => exact ⟨(l0), (a1), (0), (by first | rfl | (simp; done) | (simp [*]; done)), (by first | rfl | (simp; done) | (simp [*]; done)), H', ⟨Nat.le_refl _⟩, ⟨by (with_reducible repeat (first | apply Kd.R_alloc | apply Kd.R_drewN | apply Kd.R_drew)); exact HO0.out⟩, ⟨by repeat (first | (with_reducible first | exact HK.out | apply Kept.alloc | apply Kept.drewN | apply Kept.drew) | exact HK.out)⟩, ⟨by repeat (first | (with_reducible first | exact HB.out | apply below_alloc | apply pw_below_drewN | apply below_drew1) | exact HB.out)⟩⟩
 case round =>
  clear H'
  try clear p2
  obtain ⟨x0_1, x1_1, x5_1, rfl, rfl, HA, HK1, HO_0, HK, HB⟩ := hrel
  cases gk with
  | zero => exact absurd HA.out (by simp [laws_markByteS.l0])
  | succ k1 =>
   have H := HA.out
   clear HA
   simp only [laws_markByteS.l0] at H
   by_cases c3 : x5_1 < (x0_1.length : Int)
   ·rw [if_pos c3] at H
    have c3b0 : decide (x5_1 < (x0_1.length : Int)) = true := decide_eq_true c3
    clear c3
    by_cases c4 : 0 ≤ x5_1
    ·rw [if_pos c4] at H
     have c4b0 : decide (0 ≤ x5_1) = true := decide_eq_true c4
     clear c4
     obtain ⟨y740, hy740⟩ : ∃ y_ : List Int, y_ = (x0_1.set (x5_1 : Int).toNat ((x1_1) % 256)) := ⟨_, rfl⟩
     replace H : (laws_markByteS.l0 k1 y740 (wrap64 (x1_1 + 1)) (wrap64 (x5_1 + 1))) = some (r1, r2) := by first | (rw [hy740]; with_reducible exact H) | (have H2_ := (Option.bind_some _ _).symm.trans H; rw [hy740]; with_reducible exact H2_) | (have H2_ := (Option.bind_some _ _).symm.trans H; with_reducible exact H2_) | with_reducible exact H | (rw [hy740]; exact H) | exact H
     have Ny740 := Aside0.mk hy740
     clear hy740
     have H' := Aside0.mk H
     clear H
     obtain ⟨Ao6, co6, eo6⟩ := Kd.R_slice HO_0.out
     subst eo6
     have p5 : 0 ≤ (x5_1 : Int) := of_decide_eq_true (by first | (with_reducible assumption) | assumption)
     have q5 : (x5_1 : Int) < ((x0_1.length : Int) : Int) := of_decide_eq_true (by first | (with_reducible assumption) | assumption)
     obtain ⟨go5, co5, eo5, gb5, gl5, cl5, HG5⟩ := Kd.R_form HO_0.out (by omega)
     (first | cases eo5 | (injection eo5 with ea_ en_ ec_; (first | subst ea_ | (injection ea_ with ea_; subst ea_)); subst ec_; clear en_))
     have GB5 := Aside0.mk gb5
     have GG5 := Aside0.mk HG5
     clear gb5 gl5 HG5
     have HMgo5 := Aside0.mk (show (P0_ go5 ∨ w.heap.size ≤ go5) from (HO_0.out.1 _ rfl))
     obtain ⟨hx5_0, hf5_0⟩ := Kd.R_celln 0 HO_0.out (x5_1 : Int) p5 q5
     replace p5 := eq_true p5
     replace q5 := eq_true q5
     have HP7 := Kd.R_putg HO_0.out (x5_1 : Int) ((x1_1) % 256)
     go_wp2_with (first | ((with_reducible refine gate_store (t := 5) (p := 16) rfl ?_); refine store_event (t := 5) (p := 16) (v := ?vo_w8) (w1 := (wr.setCell ⟨go5, (x5_1 : Int).toNat, none⟩ (.int .u8 ((x1_1) % 256)))) ?hg ?ho ?hn ?hr ?_; (case ho => rfl); (case hg => rfl); (case hn => rfl); (case hr => first | (go_simp; done) | (go_simp; rfl)); intro w8 hw; have hg : wr.grownBy w8 (some go5) := (by rw [hw]; exact HP7.2); have hp_ : Kd.R (Kd.int .u8) 5 w8 w0.heap.size (fun k_ => (P0_ k_ ∨ w.heap.size ≤ k_)) (.slice (some ⟨go5, 0, none⟩) x0_1.length co6) y740 := (by rw [hw, Ny740.out]; exact HP7.1); clear HP7; have n0_ := Aside0.mk (hp_); have n1_ := Aside0.mk ((by rw [hw]; exact below_set (HB.out) GB5.out : Below w0.heap.size w0 w8)); have n2_ := Aside0.mk (Kept.of_grown (S := (fun k_ => P0_ k_)) hg (by repeat (first | (with_reducible first | exact HK.out | apply Kept.alloc | apply Kept.drewN | apply Kept.drew) | exact HK.out)) (fun k_ e_ => (HO_0.out.1 k_ e_))); clear HO_0; clear HB; clear HK; have HO_0 := n0_; have HB := n1_; have HK := n2_; clear n0_ n1_ n2_; clear hg hw hp_))
     go_roundg k1
     case measure => have := HK1.out; omega
     case rel => exact ⟨(y740), (wrap64 (x1_1 + 1)), (wrap64 (x5_1 + 1)), (by first | rfl | (simp; done) | (simp [*]; done)), (by first | rfl | (simp; done) | (simp [*]; done)), H', ⟨by have := HK1.out; omega⟩, ⟨by (with_reducible repeat (first | apply Kd.R_alloc | apply Kd.R_drewN | apply Kd.R_drew)); exact HO_0.out⟩, ⟨by repeat (first | (with_reducible first | exact HK.out | apply Kept.alloc | apply Kept.drewN | apply Kept.drew) | exact HK.out)⟩, ⟨by repeat (first | (with_reducible first | exact HB.out | apply below_alloc | apply pw_below_drewN | apply below_drew1) | exact HB.out)⟩⟩
    ·rw [if_neg c4] at H
     exact absurd H (by simp)
   ·rw [if_neg c3] at H
    have c3b0 : decide (x5_1 < (x0_1.length : Int)) = false := decide_eq_false c3
    clear c3
    simp only [Option.some.injEq, Prod.mk.injEq] at H
    obtain ⟨rfl, rfl⟩ := H
    obtain ⟨Ao9, co9, eo9⟩ := Kd.R_slice HO_0.out
    subst eo9
    go_wp2
    go_ret
    exact ⟨by first | rfl | (simp [errW_none, errW_some] <;> rfl) | (simp [*, errW_none, errW_some] <;> rfl), by (with_reducible repeat (first | apply Kd.R_alloc | apply Kd.R_drewN | apply Kd.R_drew)); exact HO_0.out, by repeat (first | (with_reducible first | exact HB.out | apply below_alloc | apply pw_below_drewN | apply below_drew1) | exact HB.out), by repeat (first | (with_reducible first | exact HK.out | apply Kept.alloc | apply Kept.drewN | apply Kept.drew) | exact HK.out)⟩
end Go.Proofs.Ytgcncphdjabjjaa.X
namespace Go.Proofs.Ytgcncphdjabjjaa.X
open Go.RowKit Go.Proofs.YtgcncphdjabjjaaW.PrintWords Go.Proofs.YtgcncphdjabjjaaW.PrintLast Go.Proofs.YtgcncphdjabjjaaW.PrintMore
attribute [local go_sem] xbin_geq xbin_leq xbin_gtr max2_int min2_int max_two min_two max_three min_three max_four min_four
set_option linter.unusedVariables false
set_option linter.unusedSimpArgs false
noncomputable def mk_ByteS : List Int → Int → List Int
  | [], _ => []
  | _ :: xs, m => ((m) % 256) :: mk_ByteS xs (m + 1)
end Go.Proofs.Ytgcncphdjabjjaa.X
namespace Go.Proofs.Ytgcncphdjabjjaa.X
open Go.RowKit Go.Proofs.YtgcncphdjabjjaaW.PrintWords Go.Proofs.YtgcncphdjabjjaaW.PrintLast Go.Proofs.YtgcncphdjabjjaaW.PrintMore
attribute [local go_sem] xbin_geq xbin_leq xbin_gtr max2_int min2_int max_two min_two max_three min_three max_four min_four
set_option linter.unusedVariables false
set_option linter.unusedSimpArgs false
def BR (W : World) (base : Nat) (P : Nat → Prop) (v : Value) (l : List Int) : Prop :=
  (v = .slice none 0 0 ∧ l = []) ∨ ∃ g c cur lo hi, v = .slice (some ⟨g, 0, none⟩) l.length c ∧ l.length ≤ c ∧ base ≤ g ∧ P g ∧ W.heap[g]? = some (.cells cur 5 (lo, hi)) ∧ l.length ≤ 9223372036854775807 ∧ l.length ≤ lo ∧ (∀ j, j < l.length → cur[j]? = some (.int .u8 (l.getD j 0)))
theorem blk_cellF {W : World} {g : Nat} {cur : Array Value} {t : TypeId} {fr : Nat × Nat} (h : W.heap[g]? = some (.cells cur t fr)) (j : Nat) : W.cell? ⟨g, j, none⟩ = cur[j]? := by simp [World.cell?, h]
section
variable {W W1 w : World} {base base' : Nat} {P P' S : Nat → Prop} {v : Value} {l : List Int}
theorem BR.nil : BR W base P (.slice none 0 0) [] := .inl ⟨rfl, rfl⟩
theorem BR.move (h : BR W base P v l) (hm : ∀ k, P k → base ≤ k → k < W.heap.size → W1.heap[k]? = W.heap[k]?) : BR W1 base P v l := by
  rcases h with h | ⟨g, c, cur, lo, hi, h1, h2, h3, h4, h5, h6⟩
  · exact .inl h
  · exact .inr ⟨g, c, cur, lo, hi, h1, h2, h3, h4, (hm g h4 h3 (blk_lt h5)).trans h5, h6⟩
theorem BR.mono (h : BR W base P v l) (hp : ∀ k, P k → base ≤ k → k < W.heap.size → P' k) : BR W base P' v l := by
  rcases h with h | ⟨g, c, cur, lo, hi, h1, h2, h3, h4, h5, h6⟩
  · exact .inl h
  · exact .inr ⟨g, c, cur, lo, hi, h1, h2, h3, hp g h4 h3 (blk_lt h5), h5, h6⟩
theorem BR.lower (h : BR W base P v l) (hb : base' ≤ base) : BR W base' P v l := by
  rcases h with h | ⟨g, c, cur, lo, hi, h1, h2, h3, h4⟩
  · exact .inl h
  · exact .inr ⟨g, c, cur, lo, hi, h1, h2, Nat.le_trans hb h3, h4⟩
theorem BR.below (h : BR W base P v l) (hb : Below W.heap.size W W1) : BR W1 base P v l := h.move fun k _ _ hk => hb.block k hk
theorem BR.alloc (h : BR W base P v l) (o : Obj) : BR (W.alloc o) base P v l := h.below (below_alloc (Below.refl _ _) o)
theorem BR.drew (h : BR W base P v l) : BR W.drew base P v l := h.below (below_drew (Below.refl _ _))
theorem BR.kept (h : BR W base P v l) (hk : Kept W W1 S) (hne : ∀ k, P k → ¬ S k) : BR W1 base P v l := h.move fun k hp _ hlt => hk.2 k hlt (hne k hp)
theorem BR.reads (h : BR W base P v l) : ∃ A c, v = .slice A l.length c ∧ l.length ≤ c ∧ Kd.C (Kd.int .u8) W A l.length l := by
  rcases h with ⟨rfl, rfl⟩ | ⟨g, c, cur, lo, hi, rfl, h2, h3, h4, h5, h6, h7, h8⟩
  · exact ⟨none, 0, rfl, Nat.le_refl _, Kd.C_nil _ _⟩
  · refine ⟨_, c, rfl, h2, Kd.C_of_reads (d := 0) ⟨rfl, h6, fun _ => ⟨_, rfl, fun j hj => ?_⟩⟩⟩
    rw [add_plain, blk_cellF h5 j]
    exact h8 j hj
theorem BR.reads2 {A : Option Addr} {n c : Nat} (h : BR W base P (.slice A n c) l) : n = l.length ∧ n ≤ c ∧ Kd.C (Kd.int .u8) W A l.length l := by
  obtain ⟨A', c', e, h1, h2⟩ := h.reads
  injection e with e1 e2 e3
  subst e1; subst e2; subst e3
  exact ⟨rfl, h1, h2⟩
theorem BR.of_bytes (s : ByteArray) (hs : s.size ≤ 4611686018427387904) : BR (Lib.bytesWorld w 5 s) w.heap.size (fun _ => True) (.slice (some ⟨w.heap.size, 0, none⟩) s.size (grownCap w s.size 0 5)) (bytesOf s) := by
  refine .inr ⟨_, grownCap w s.size 0 5, _, _, _, by rw [bytesOf_length], ?_, Nat.le_refl _, trivial, Lib.bytesWorld_at_new w 5 s, ?_, ?_, fun j hj => ?_⟩
  · rw [bytesOf_length]; exact grownCap_ge _ _ _ _
  · rw [bytesOf_length]; omega
  · rw [bytesOf_length]
    have : (Lib.bytesCells w 5 s).size = s.size + (grownCap w s.size 0 5 - s.size) := by
      simp [Lib.bytesCells]
    omega
  · rw [bytesOf_length] at hj
    have h := Lib.bytesWorld_cell w 5 s j hj
    have h2 := blk_cellF (Lib.bytesWorld_at_new w 5 s) j
    rw [← h2, h]
    have h' : j < s.data.toList.length := by rw [data_length]; exact hj
    simp [bytesOf, List.getD_eq_getElem?_getD, List.getElem?_eq_getElem h']
theorem BR.set {A : Option Addr} {n c : Nat} (h : BR W base P (.slice A n c) l) (i : Nat) (hi : i < n) (u : Int) : ∃ g, A = some ⟨g, 0, none⟩ ∧ base ≤ g ∧ P g ∧ W.cell? ⟨g, i, none⟩ = some (.int .u8 (l.getD i 0)) ∧ W.frozen? ⟨g, i, none⟩ = false ∧ BR (W.setCell ⟨g, i, none⟩ (.int .u8 u)) base P (.slice A n c) (l.set i u) := by
  rcases h with ⟨h1, rfl⟩ | ⟨g, c', cur, lo, hi', h1, h2, h3, h4, h5, h6, h7, h8⟩
  · injection h1 with _ h1; omega
  · injection h1 with e1 e2 e3
    subst e1; subst e2; subst e3
    have hic : i < cur.size := by
      have h9 := h8 i hi
      rcases Nat.lt_or_ge i cur.size with h | h
      · exact h
      · rw [Array.getElem?_eq_none h] at h9; cases h9
    refine ⟨g, rfl, h3, h4, ?_, ?_, .inr ⟨g, c, cur.setIfInBounds i (.int .u8 u), lo, hi', by rw [List.length_set], by rw [List.length_set]; exact h2, h3, h4, ?_, by rw [List.length_set]; exact h6, by rw [List.length_set]; exact h7, fun j hj => ?_⟩⟩
    · rw [blk_cellF h5 i]; exact h8 i hi
    · simp only [World.frozen?, h5]
      have : ¬ lo ≤ i := by omega
      simp [this]
    · show (W.heap.modify g _)[g]? = _
      rw [Array.getElem?_modify, if_pos rfl, h5]
      rfl
    · rw [List.length_set] at hj
      by_cases e : j = i
      · subst e
        rw [Array.getElem?_setIfInBounds_self_of_lt hic]
        simp [List.getD_eq_getElem?_getD, hj]
      · rw [Array.getElem?_setIfInBounds_ne (fun h => e h.symm), h8 j hj]
        simp [List.getD_eq_getElem?_getD, List.getElem?_set_ne (fun h => e h.symm)]
end
set_option maxHeartbeats 4000000 in
set_option maxRecDepth 100000 in
theorem markByteS_br (P : Nat → Prop) (A : Option Addr) (c : Nat) (l : List Int) (m : Int) (w0 w : World) (hB : Below w0.heap.size w0 w) (hS : BR w w0.heap.size P (.slice A l.length c) l) (hm : 0 ≤ m) (hcost : m + (l.length : Int) ≤ 4611686018427387904) :
    Calls Try.prog 36 #[.slice A l.length c, .int .i64 m] w fun e w' => e = .returned (.int .i64 (m + (l.length : Int))) ∧ BR w' w0.heap.size P (.slice A l.length c) (mk_ByteS l m) ∧ Below w0.heap.size w0 w' ∧ Kept w w' P := by
  obtain ⟨n, hn⟩ : ∃ n, n = l.length := ⟨_, rfl⟩
  rw [← hn] at hS ⊢
  have HN := Aside0.mk hn
  have HS := Aside0.mk hS
  have HB := Aside0.mk hB
  rw [← hn] at hcost
  clear hB hS hn
  go_enter Try.func36, Try.ntmps36
  go_wp2_with fail
  go_loopw [1, 5] (fun v1 v4 wr => ∃ (i : Nat) (ys : List Int), i ≤ n ∧ v4 = .int .i64 i ∧ v1 = .int .i64 (m + (i : Int)) ∧ Aside0 (ys.length = n) ∧ Aside0 (ys.take i ++ mk_ByteS (l.drop i) (m + (i : Int)) = mk_ByteS l m) ∧ Aside0 (BR wr w0.heap.size P (.slice A n c) ys) ∧ Aside0 (Below w0.heap.size w0 wr) ∧ Aside0 (Kept w wr P)) (fun _ v4 _ => n - (intOf v4).toNat)
  case atStart => exact ⟨0, l, by omega, rfl, by simp, ⟨HN.out.symm⟩, ⟨by simp⟩, HS, HB, ⟨Kept.refl _ _⟩⟩
  case round =>
    clear HS HB
    obtain ⟨i, ys, hi, rfl, rfl, HL, HT, HS, HB, HK⟩ := hrel
    by_cases hlt : i < n
    · have c1 : decide ((i : Int) < (n : Int)) = true := decide_eq_true (by omega)
      obtain ⟨g, rfl, hbg, hP, hcs, hfr, hS2⟩ := HS.out.set i hlt ((m + (i : Int)) % 256)
      have HS2 := Aside0.mk hS2
      have HG := Aside0.mk (And.intro hbg hP)
      have p1 : (0 ≤ (i : Int)) = True := eq_true (by omega)
      have q1 : ((i : Int) < (n : Int)) = True := eq_true (by omega)
      have w1 : IntKind.i64.wrap (m + (i : Int) + 1) = m + (i : Int) + 1 := by rw [IntKind.wrap_i64]; omega
      have w2 : IntKind.i64.wrap ((i : Int) + 1) = (i : Int) + 1 := by rw [IntKind.wrap_i64]; omega
      clear hS2 hbg hP
      go_wp2_with fail
      go_roundw
      case rel => exact ⟨i + 1, ys.set i ((m + (i : Int)) % 256), by omega, by go_num, by go_num, ⟨by rw [List.length_set]; exact HL.out⟩, ⟨by
        have hy : i < ys.length := by rw [HL.out]; exact hlt
        have hl2 : i < l.length := by rw [← HN.out]; exact hlt
        rw [List.take_succ_eq_append_getElem (by rw [List.length_set]; exact hy), List.take_set_of_le (Nat.le_refl _), List.getElem_set_self, ← HT.out, List.drop_eq_getElem_cons hl2, mk_ByteS, List.append_assoc]
        rw [show m + ((i + 1 : Nat) : Int) = m + (i : Int) + 1 from by omega]
        rfl⟩, HS2, ⟨HB.out.setCell (p := ⟨g, i, none⟩) HG.out.1 _⟩, ⟨HK.out.setCell (p := ⟨g, i, none⟩) (.inl HG.out.2) _⟩⟩
      case measure => simp [intOf]; omega
    · obtain rfl : i = n := by omega
      have c1 : decide ((i : Int) < (i : Int)) = false := decide_eq_false (by omega)
      have HE := Aside0.mk (show ys = mk_ByteS l m from by
        have h := HT.out
        rw [show l.drop i = [] from by rw [HN.out, List.drop_length], mk_ByteS, List.append_nil, ← HL.out, List.take_length] at h
        exact h)
      go_wp2_with fail
      go_ret
      exact ⟨rfl, by rw [← HE.out]; exact HS.out, HB.out, HK.out⟩
end Go.Proofs.Ytgcncphdjabjjaa.X
namespace Go.Proofs.Ytgcncphdjabjjaa.X
open Go.RowKit Go.Proofs.YtgcncphdjabjjaaW.PrintWords Go.Proofs.YtgcncphdjabjjaaW.PrintLast Go.Proofs.YtgcncphdjabjjaaW.PrintMore
attribute [local go_sem] xbin_geq xbin_leq xbin_gtr max2_int min2_int max_two min_two max_three min_three max_four min_four
set_option linter.unusedVariables false
set_option linter.unusedSimpArgs false
set_option maxRecDepth 100000
theorem crcF_take (l : List Int) (k : Nat) (h : k < l.length) (r : Nat) : crcF r (l.take (k + 1)) = step8 (crcF r (l.take k) ^^^ (rd l (k : Int)).toNat) := by
  have e : rd l (k : Int) = l[k] := by unfold rd; rw [Int.toNat_natCast]; simp [List.getD_eq_getElem?_getD, h]
  rw [List.take_succ_eq_append_getElem h, crcF_append, e]
  rfl
theorem nib_lt {x c : Nat} (h : x < 4294967296) : nib x c < 4294967296 := by
  unfold nib
  exact Nat.xor_lt_two_pow (n := 32) (by omega) (step4_lt (by omega))
theorem idx_bits (x c : Nat) (h : x < 4294967296) (hc : c < 256) : bits .and .i64 (bits .xor .i64 (x : Int) (c : Int)) 15 = (((x ^^^ c) % 16 : Nat) : Int) := by
  have hx : x ^^^ c < 4294967296 := Nat.xor_lt_two_pow (n := 32) h (by omega)
  rw [i64_xor_nat _ _ (by omega) (by omega)]
  have := i64_and_nat (x ^^^ c) 15 (by omega) (by decide)
  rw [show (15 : Nat) = 2 ^ 4 - 1 from rfl, Nat.and_two_pow_sub_one_eq_mod] at this
  exact this
theorem nib_bits (x c : Nat) (h : x < 4294967296) : bits .xor .i64 ((x : Int) / 16) (tabZ ((x ^^^ c) % 16)) = ((nib x c : Nat) : Int) := by
  have e : (x : Int) / 16 = ((x / 16 : Nat) : Int) := by omega
  have h4 : step4 ((x ^^^ c) % 16) < 4294967296 := step4_lt (by omega)
  unfold tabZ
  rw [e, i64_xor_nat _ _ (by omega) (by omega)]
  rfl
def spec_l01Check.f (l0 : List Int) : Option Int := if (∀ c, c ∈ l0 → 0 ≤ c ∧ c < 256) then some (sumOf32 l0) else none
set_option maxHeartbeats 2000000 in
theorem spec_l01Check.calls (A0 : Option Addr) (c0 : Nat) (l0 : List Int) (r : Int) (w : World) (hr0 : Kd.C (Kd.int .u8) w A0 l0.length l0) (hc0 : l0.length ≤ c0) (h : spec_l01Check.f l0 = some r) :
    Calls Try.prog 81 #[.slice A0 l0.length c0] w fun e w' => e = .returned (.int .i64 r) ∧ Below w.heap.size w w' := by
  unfold spec_l01Check.f at h
  by_cases hb : ∀ c, c ∈ l0 → 0 ≤ c ∧ c < 256
  · rw [if_pos hb] at h
    obtain rfl := Option.some.inj h
    clear h
    have hm : l0.length ≤ 9223372036854775807 := hr0.2.1
    have HR := Aside0.mk hr0
    have HY := Aside0.mk hb
    clear hr0 hb
    have hy : tabRow 16 = #[.int .i64 (tabZ 0), .int .i64 (tabZ 1), .int .i64 (tabZ 2), .int .i64 (tabZ 3), .int .i64 (tabZ 4), .int .i64 (tabZ 5), .int .i64 (tabZ 6), .int .i64 (tabZ 7), .int .i64 (tabZ 8), .int .i64 (tabZ 9), .int .i64 (tabZ 10), .int .i64 (tabZ 11), .int .i64 (tabZ 12), .int .i64 (tabZ 13), .int .i64 (tabZ 14), .int .i64 (tabZ 15)] := rfl
    generalize tabZ 0 = y0 at *
    generalize tabZ 1 = y1 at *
    generalize tabZ 2 = y2 at *
    generalize tabZ 3 = y3 at *
    generalize tabZ 4 = y4 at *
    generalize tabZ 5 = y5 at *
    generalize tabZ 6 = y6 at *
    generalize tabZ 7 = y7 at *
    generalize tabZ 8 = y8 at *
    generalize tabZ 9 = y9 at *
    generalize tabZ 10 = y10 at *
    generalize tabZ 11 = y11 at *
    generalize tabZ 12 = y12 at *
    generalize tabZ 13 = y13 at *
    generalize tabZ 14 = y14 at *
    generalize tabZ 15 = y15 at *
    have HT := Aside0.mk hy
    clear hy
    go_enter Try.func81, Try.ntmps81
    go_wp2_with fail
    refine (l01Table_calls w).mono ?_
    rintro e w1 ⟨rfl, hb1⟩
    rw [HT.out]
    go_wp2_with fail
    have HG := Aside0.mk (show (w1.alloc (.cells #[.int .i64 y0, .int .i64 y1, .int .i64 y2, .int .i64 y3, .int .i64 y4, .int .i64 y5, .int .i64 y6, .int .i64 y7, .int .i64 y8, .int .i64 y9, .int .i64 y10, .int .i64 y11, .int .i64 y12, .int .i64 y13, .int .i64 y14, .int .i64 y15] 122 (0, 0))).heap[w1.heap.size]? = some (.cells (tabRow 16) 122 (0, 0)) from by rw [HT.out]; exact blk_new _ _)
    have HB := Aside0.mk (show Below w.heap.size w (w1.alloc (.cells #[.int .i64 y0, .int .i64 y1, .int .i64 y2, .int .i64 y3, .int .i64 y4, .int .i64 y5, .int .i64 y6, .int .i64 y7, .int .i64 y8, .int .i64 y9, .int .i64 y10, .int .i64 y11, .int .i64 y12, .int .i64 y13, .int .i64 y14, .int .i64 y15] 122 (0, 0))) from hb1.alloc (below_size hb1) _)
    generalize w1.alloc (.cells #[.int .i64 y0, .int .i64 y1, .int .i64 y2, .int .i64 y3, .int .i64 y4, .int .i64 y5, .int .i64 y6, .int .i64 y7, .int .i64 y8, .int .i64 y9, .int .i64 y10, .int .i64 y11, .int .i64 y12, .int .i64 y13, .int .i64 y14, .int .i64 y15] 122 (0, 0)) = w2 at HG HB ⊢
    generalize w1.heap.size = g at HG ⊢
    clear hb1
    go_loopw [4, 5] (fun v4 v5 wr => ∃ k : Nat, k ≤ l0.length ∧ v4 = .int .i64 ((crcF 4294967295 (l0.take k) : Nat) : Int) ∧ v5 = .int .i64 k ∧ wr = w2) (fun v4 v5 _ => l0.length - (intOf v5).toNat)
    case atStart => exact ⟨0, Nat.zero_le _, rfl, rfl, rfl⟩
    case round =>
      obtain ⟨k, hk, rfl, rfl, rfl⟩ := hrel
      have hxl : crcF 4294967295 (l0.take k) < 4294967296 := crcF_lt _ _ (by decide) fun c hc => HY.out c (List.mem_of_mem_take hc)
      by_cases hlt : k < l0.length
      · have c1 : decide ((k : Int) < (l0.length : Int)) = true := decide_eq_true (by omega)
        have p1 : 0 ≤ (k : Int) := by omega
        have q1 : (k : Int) < (l0.length : Int) := by omega
        obtain ⟨ad, e, hx⟩ := Kd.at_int HR.out (k : Int) p1 q1
        cases e
        have hmem : rd l0 (k : Int) ∈ l0 := by
          have e : rd l0 (k : Int) = l0[k] := by unfold rd; rw [Int.toNat_natCast]; simp [List.getD_eq_getElem?_getD, hlt]
          rw [e]; exact List.getElem_mem hlt
        have hbyte := HY.out _ hmem
        have hstep := crcF_take l0 k hlt 4294967295
        obtain ⟨c, hc⟩ : ∃ c : Nat, rd l0 (k : Int) = (c : Int) := ⟨(rd l0 (k : Int)).toNat, by omega⟩
        rw [hc] at hx hbyte hstep
        rw [Int.toNat_natCast] at hx hstep
        have hc2 : c < 256 := by omega
        rw [step8_nib _ _ hc2] at hstep
        replace hx := (HB.out.cell (World.block_lt_of_cell? w _ hx)).trans hx
        have HS := Aside0.mk hstep
        clear hstep hbyte hmem
        generalize crcF 4294967295 (l0.take k) = x at hxl HS ⊢
        replace p1 := eq_true p1
        replace q1 := eq_true q1
        have hn1 : nib x c < 4294967296 := nib_lt hxl
        have hn2 : nib (nib x c) (c / 16) < 4294967296 := nib_lt hn1
        have e1 := idx_bits x c hxl (by omega)
        have e2 := nib_bits x c hxl
        have ed : (c : Int) / 16 = ((c / 16 : Nat) : Int) := by omega
        have e3 := idx_bits (nib x c) (c / 16) hn1 (by omega)
        have e4 := nib_bits (nib x c) (c / 16) hn1
        have y16 : (x ^^^ c) % 16 < 16 := Nat.mod_lt _ (by decide)
        have z16 : (nib x c ^^^ (c / 16)) % 16 < 16 := Nat.mod_lt _ (by decide)
        have hcy : wr.cell? ⟨g, (x ^^^ c) % 16, none⟩ = some (.int .i64 (tabZ ((x ^^^ c) % 16))) := (blk_cell HG.out _).trans (by rw [tabRow_at _ y16, if_pos y16]; rfl)
        have hcz : wr.cell? ⟨g, (nib x c ^^^ (c / 16)) % 16, none⟩ = some (.int .i64 (tabZ ((nib x c ^^^ (c / 16)) % 16))) := (blk_cell HG.out _).trans (by rw [tabRow_at _ z16, if_pos z16]; rfl)
        generalize nib (nib x c) (c / 16) = n2 at *
        generalize nib x c = n1 at *
        generalize c / 16 = d at *
        generalize (x ^^^ c) % 16 = y at *
        generalize (n1 ^^^ d) % 16 = z at *
        generalize tabZ y = ty at *
        generalize tabZ z = tz at *
        have r1 : (0 ≤ (y : Int)) = True := eq_true (by omega)
        have r2 : ((y : Int) < 16) = True := eq_true (by omega)
        have r3 : (0 ≤ (z : Int)) = True := eq_true (by omega)
        have r4 : ((z : Int) < 16) = True := eq_true (by omega)
        go_wp2_with fail
        exact ⟨⟨k + 1, by omega, by rw [HS.out], rfl, trivial⟩, by simp [intOf]; omega⟩
      · have e : k = l0.length := by omega
        have c1 : decide ((k : Int) < (l0.length : Int)) = false := decide_eq_false (by omega)
        have e9 : crcF 4294967295 (l0.take k) = crcF 4294967295 l0 := by rw [e, List.take_length]
        rw [e9] at hxl ⊢
        have e1 : bits .xor .i64 ((crcF 4294967295 l0 : Nat) : Int) 4294967295 = sumOf32 l0 := by
          have := i64_xor_nat (crcF 4294967295 l0) 4294967295 (by omega) (by decide)
          rw [Nat.xor_comm] at this
          exact this
        generalize hS : sumOf32 l0 = s at e1
        generalize crcF 4294967295 l0 = x at e1 ⊢
        go_wp2_with fail
        go_ret
        exact ⟨by rw [hS]; rfl, HB.out⟩
  · rw [if_neg hb] at h
    cases h
end Go.Proofs.Ytgcncphdjabjjaa.X
namespace Go.Proofs.Ytgcncphdjabjjaa.X
open Go.RowKit Go.Proofs.YtgcncphdjabjjaaW.PrintWords Go.Proofs.YtgcncphdjabjjaaW.PrintLast Go.Proofs.YtgcncphdjabjjaaW.PrintMore
attribute [local go_sem] xbin_geq xbin_leq xbin_gtr max2_int min2_int max_two min_two max_three min_three max_four min_four
set_option linter.unusedVariables false
set_option linter.unusedSimpArgs false
def allFrom (f : Nat → Bool) : Nat → Nat → Bool
  | _, 0 => true
  | i, d + 1 => f i && allFrom f (i + 1) d
def allB (f : Nat → Bool) (n : Nat) : Bool := allFrom f 0 n
theorem allFrom_iff (f : Nat → Bool) (d : Nat) : ∀ i, allFrom f i d = true ↔ ∀ j, i ≤ j → j < i + d → f j = true := by
  induction d with
  | zero => intro i; simp only [allFrom, true_iff]; intro j h1 h2; omega
  | succ d ih =>
    intro i
    simp only [allFrom, Bool.and_eq_true, ih]
    refine ⟨fun h j h1 h2 => ?_, fun h => ⟨h i (by omega) (by omega), fun j h1 h2 => h j (by omega) (by omega)⟩⟩
    rcases Nat.lt_or_ge i j with h3 | h3
    · exact h.2 j h3 (by omega)
    · rw [show j = i by omega]; exact h.1
theorem allB_iff {f : Nat → Bool} {n : Nat} : allB f n = true ↔ ∀ j, j < n → f j = true := by
  unfold allB
  rw [allFrom_iff]
  exact ⟨fun h j hj => h j (by omega) (by omega), fun h j _ hj => h j (by omega)⟩
theorem Ev.allFrom {g : Nat → Int → Option Bool} (f : Nat → Bool) (fin : Bool) (n : Nat) (hend : Ev (fun k => g k (n : Int)) fin) (hstep : ∀ i : Nat, i < n → ∀ r, Ev (fun k => g k ((i + 1 : Nat) : Int)) r → Ev (fun k => g k (i : Int)) (f i && r)) (d : Nat) : ∀ i : Nat, i + d = n → Ev (fun k => g k (i : Int)) (allFrom f i d && fin) := by
  induction d with
  | zero => intro i hi; rw [show i = n by omega]; simpa [X.allFrom] using hend
  | succ d ih =>
    intro i hi
    have := hstep i (by omega) _ (ih (i + 1) (by omega))
    simpa [X.allFrom, Bool.and_assoc] using this
theorem Ev.all {g : Nat → Int → Option Bool} (f : Nat → Bool) (fin : Bool) (n : Nat) (hend : Ev (fun k => g k (n : Int)) fin) (hstep : ∀ i : Nat, i < n → ∀ r, Ev (fun k => g k ((i + 1 : Nat) : Int)) r → Ev (fun k => g k (i : Int)) (f i && r)) : Ev (fun k => g k 0) (allB f n && fin) := Ev.allFrom f fin n hend hstep n 0 (by omega)
theorem wrap_less {n : Nat} (h : n < 9223372036854775807) (h0 : 0 < n) : wrap64 ((n : Int) - 1) = ((n - 1 : Nat) : Int) := by unfold wrap64; omega
end Go.Proofs.Ytgcncphdjabjjaa.X
namespace Go.Proofs.Ytgcncphdjabjjaa.X
open Go.RowKit Go.Proofs.YtgcncphdjabjjaaW.PrintWords Go.Proofs.YtgcncphdjabjjaaW.PrintLast Go.Proofs.YtgcncphdjabjjaaW.PrintMore
attribute [local go_sem] xbin_geq xbin_leq xbin_gtr max2_int min2_int max_two min_two max_three min_three max_four min_four
set_option linter.unusedVariables false
set_option linter.unusedSimpArgs false
def impl_within.f (a0 : Int) (a1 : Int) (a2 : Int) : Option (Bool) := if a0 ≥ a1 then (some (decide (a0 ≤ a2))) else (some false)
set_option maxHeartbeats 8000000 in
set_option maxRecDepth 100000 in
theorem impl_within.calls (a0 : Int) (a1 : Int) (a2 : Int) (r : Bool) (w : World) (h : impl_within.f a0 a1 a2 = some r) :
  Calls Try.prog 67 #[.int .i64 a0, .int .i64 a1, .int .i64 a2] w fun e w' => e = .returned (.bool r) ∧ Drawn0 w w' := by
 have H : (if a0 ≥ a1 then (some (decide (a0 ≤ a2))) else (some false)) = some r := h
 clear h
 by_cases c4 : a0 ≥ a1
 ·rw [if_pos c4] at H
  have c4b0 : decide (a1 ≤ a0) = true := decide_eq_true c4
  clear c4
  obtain rfl := Option.some.inj H
  go_enter Try.func67, Try.ntmps67
  go_wp2
  go_ret
  exact ⟨by first | rfl | (simp; done) | (simp [*]; done), by repeat (first | exact Drawn0.refl _ | apply Drawn0.step)⟩
 ·rw [if_neg c4] at H
  have c4b0 : decide (a1 ≤ a0) = false := decide_eq_false c4
  clear c4
  obtain rfl := Option.some.inj H
  go_enter Try.func67, Try.ntmps67
  go_wp2
  go_ret
  exact ⟨by first | rfl | (simp; done) | (simp [*]; done), by repeat (first | exact Drawn0.refl _ | apply Drawn0.step)⟩
end Go.Proofs.Ytgcncphdjabjjaa.X
namespace Go.Proofs.Ytgcncphdjabjjaa.X
open Go.RowKit Go.Proofs.YtgcncphdjabjjaaW.PrintWords Go.Proofs.YtgcncphdjabjjaaW.PrintLast Go.Proofs.YtgcncphdjabjjaaW.PrintMore
attribute [local go_sem] xbin_geq xbin_leq xbin_gtr max2_int min2_int max_two min_two max_three min_three max_four min_four
set_option linter.unusedVariables false
set_option linter.unusedSimpArgs false
def spec_l01In.f (a0 : Int) (a1 : Int) (a2 : Int) : Option (Bool) := if a1 ≤ a0 then (some (decide (a0 ≤ a2))) else (some false)
set_option maxHeartbeats 8000000 in
set_option maxRecDepth 100000 in
theorem spec_l01In.calls (a0 : Int) (a1 : Int) (a2 : Int) (r : Bool) (w : World) (h : spec_l01In.f a0 a1 a2 = some r) :
  Calls Try.prog 65 #[.int .i64 a0, .int .i64 a1, .int .i64 a2] w fun e w' => e = .returned (.bool r) ∧ Drawn0 w w' := by
 have H : (if a1 ≤ a0 then (some (decide (a0 ≤ a2))) else (some false)) = some r := h
 clear h
 by_cases c4 : a1 ≤ a0
 ·rw [if_pos c4] at H
  have c4b0 : decide (a1 ≤ a0) = true := decide_eq_true c4
  clear c4
  obtain rfl := Option.some.inj H
  go_enter Try.func65, Try.ntmps65
  go_wp2
  go_ret
  exact ⟨by first | rfl | (simp; done) | (simp [*]; done), by repeat (first | exact Drawn0.refl _ | apply Drawn0.step)⟩
 ·rw [if_neg c4] at H
  have c4b0 : decide (a1 ≤ a0) = false := decide_eq_false c4
  clear c4
  obtain rfl := Option.some.inj H
  go_enter Try.func65, Try.ntmps65
  go_wp2
  go_ret
  exact ⟨by first | rfl | (simp; done) | (simp [*]; done), by repeat (first | exact Drawn0.refl _ | apply Drawn0.step)⟩
end Go.Proofs.Ytgcncphdjabjjaa.X
namespace Go.Proofs.Ytgcncphdjabjjaa.X
open Go.RowKit Go.Proofs.YtgcncphdjabjjaaW.PrintWords Go.Proofs.YtgcncphdjabjjaaW.PrintLast Go.Proofs.YtgcncphdjabjjaaW.PrintMore
attribute [local go_sem] xbin_geq xbin_leq xbin_gtr max2_int min2_int max_two min_two max_three min_three max_four min_four
set_option linter.unusedVariables false
set_option linter.unusedSimpArgs false
def inB (x a b : Int) : Bool := decide (a ≤ x) && decide (x ≤ b)
theorem spec_in (x a b : Int) : spec_l01In.f x a b = some (inB x a b) := by
  unfold spec_l01In.f inB
  by_cases h : a ≤ x <;> simp [h]
theorem impl_in (x a b : Int) : impl_within.f x a b = some (inB x a b) := by
  unfold impl_within.f inB
  by_cases h : a ≤ x
  · rw [if_pos (by omega)]; simp [h]
  · rw [if_neg (by omega)]; simp [h]
end Go.Proofs.Ytgcncphdjabjjaa.X
namespace Go.Proofs.Ytgcncphdjabjjaa.X
open Go.RowKit Go.Proofs.YtgcncphdjabjjaaW.PrintWords Go.Proofs.YtgcncphdjabjjaaW.PrintLast Go.Proofs.YtgcncphdjabjjaaW.PrintMore
attribute [local go_sem] xbin_geq xbin_leq xbin_gtr max2_int min2_int max_two min_two max_three min_three max_four min_four
set_option linter.unusedVariables false
set_option linter.unusedSimpArgs false
def impl_keyOK.f (a0 : ByteArray) : Option (Bool) := (impl_within.f (a0.size : Int) 1 30).bind fun t143 => (some t143)
set_option maxHeartbeats 8000000 in
set_option maxRecDepth 100000 in
theorem impl_keyOK.calls (a0 : ByteArray) (r : Bool) (w : World) (h : impl_keyOK.f a0 = some r) :
  Calls Try.prog 96 #[.string a0] w fun e w' => e = .returned (.bool r) ∧ Drawn0 w w' := by
 have H : ((impl_within.f (a0.size : Int) 1 30).bind fun t143 => (some t143)) = some r := h
 clear h
 replace H := Option.bind_eq_some_iff.mp H
 obtain ⟨t143, A20, H⟩ := H
 replace H : (some t143) = some r := H
 have A2 := Aside0.mk A20
 clear A20
 obtain rfl := Option.some.inj H
 go_enter Try.func96, Try.ntmps96
 go_wp2_with (first | ((with_reducible refine gate_callee (f := 67) rfl ?_); refine goesL_ (some 5) rfl rfl Try.func67 (by kernel_rfl) rfl #[.int .i64 (a0.size : Int), .int .i64 1, .int .i64 30] rfl (by (try simp only [List.map_toArray, List.map_cons, List.map_nil]); first | done | rfl | (simp only [List.length_drop, List.length_take]; rfl)) ?_; (with_reducible refine (impl_within.calls (a0.size : Int) 1 30 t143 _ A2.out).mono ?_); rintro e w' ⟨rfl, ⟨nd, rfl⟩⟩; refine ⟨_, rfl, ?_⟩))
 go_ret
 exact ⟨by first | rfl | (simp; done) | (simp [*]; done), by repeat (first | exact Drawn0.refl _ | apply Drawn0.step)⟩
end Go.Proofs.Ytgcncphdjabjjaa.X
namespace Go.Proofs.Ytgcncphdjabjjaa.X
open Go.RowKit Go.Proofs.YtgcncphdjabjjaaW.PrintWords Go.Proofs.YtgcncphdjabjjaaW.PrintLast Go.Proofs.YtgcncphdjabjjaaW.PrintMore
attribute [local go_sem] xbin_geq xbin_leq xbin_gtr max2_int min2_int max_two min_two max_three min_three max_four min_four
set_option linter.unusedVariables false
set_option linter.unusedSimpArgs false
def keyB (s : ByteArray) : Bool := decide (1 ≤ s.size) && decide (s.size ≤ 30)
theorem spec_key (s : ByteArray) : spec_l01In.f (s.size : Int) 1 30 = some (keyB s) := by
  unfold spec_l01In.f keyB
  by_cases h : 1 ≤ s.size
  · rw [if_pos (by omega), decide_eq_true h]
    have e : ((s.size : Int) ≤ 30) = (s.size ≤ 30) := propext (by omega)
    simp [e]
  · rw [if_neg (by omega), decide_eq_false h]
    rfl
theorem impl_key (s : ByteArray) : impl_keyOK.f s = some (keyB s) := by
  unfold impl_keyOK.f impl_within.f keyB
  by_cases h : 1 ≤ s.size
  · rw [if_pos (by omega), decide_eq_true h]
    have e : ((s.size : Int) ≤ 30) = (s.size ≤ 30) := propext (by omega)
    simp [e]
  · rw [if_neg (by omega), decide_eq_false h]
    rfl
end Go.Proofs.Ytgcncphdjabjjaa.X
