import Derived.Test.YtcpcifgpcemaeaaKFnExactNewHeap5
import Derived.Test.YtcpcifgpcemaeaaKFnExactNewHeap6
import Derived.LoopTactic
import Derived.WalkSpells
namespace Go.Proofs.Ytcpcifgpcemaeaa.X
open Go.RowKit Go.Proofs.YtcpcifgpcemaeaaW.PrintWords Go.Proofs.YtcpcifgpcemaeaaW.PrintLast Go.Proofs.YtcpcifgpcemaeaaW.PrintMore
attribute [local go_sem] xbin_geq xbin_leq xbin_gtr max2_int min2_int max_two min_two max_three min_three max_four min_four
set_option linter.unusedVariables false
set_option linter.unusedSimpArgs false
noncomputable def mk_PairS : List S150 → Int → List S150
  | [], _ => []
  | _ :: xs, m => ⟨mt m, mt (m + 1)⟩ :: mk_PairS xs (m + 2)
theorem mark_PairS_loop (rest : List S150) : ∀ (pre : List S150) (m : Int), 0 ≤ m → m + 2 * (rest.length : Int) ≤ 4611686018427387904 → (pre ++ rest).length ≤ 9223372036854775807 →
    Ev (fun k => laws_markPairS.l0 k (pre ++ rest) m ((pre.length : Nat) : Int)) (m + 2 * (rest.length : Int), pre ++ mk_PairS rest m) := by
  induction rest with
  | nil =>
    intro pre m h0 h1 hl
    refine Ev.succ ?_
    simp only [laws_markPairS.l0]
    exact Ev.neg (by simp) (Ev.is (by simp [mk_PairS]))
  | cons x rest ih =>
    intro pre m h0 h1 hl
    have hlt : ((pre.length : Nat) : Int) < ((pre ++ x :: rest).length : Int) := by simp; omega
    have hwp : ∀ v : S150, wrap64 (((pre.length : Nat) : Int) + 1) = (((pre ++ [v]).length : Nat) : Int) := fun v => by rw [← len_snoc]; exact wrap_at (by simp at hl; omega)
    have hset : ∀ v u : S150, (pre ++ u :: rest).set ((pre.length : Nat) : Int).toNat v = pre ++ v :: rest := fun v u => by rw [Int.toNat_natCast]; exact set_mid pre u v rest
    have hrd : ∀ u : S150, rd_T150 (pre ++ u :: rest) ((pre.length : Nat) : Int) = u := fun u => by simp [rd_T150, List.getD_eq_getElem?_getD]
    simp only [List.length_cons] at h1
    have w1 : wrap64 (m + 1) = m + 1 := (wrap_id (by omega) (by omega)).trans (by omega)
    have w2 : wrap64 ((m + 1) + 1) = m + 2 := (wrap_id (by omega) (by omega)).trans (by omega)
    have hi := ih (pre ++ [⟨mt m, mt (m + 1)⟩]) (m + 2) (by omega) (by omega) (by simpa using hl)
    refine Ev.succ ?_
    simp only [laws_markPairS.l0, w1, w2]
    refine Ev.pos hlt ?_
    refine Ev.bind (mt_ev (by omega)) ?_
    refine Ev.pos (show (0 : Int) ≤ ((pre.length : Nat) : Int) by omega) ?_
    refine Ev.bindk rfl ?_
    refine Ev.bind (mt_ev (by omega)) ?_
    simp only [hset, hrd]
    rw [hwp (⟨mt m, mt (m + 1)⟩)]
    have e3 : pre ++ (⟨mt m, mt (m + 1)⟩ : S150) :: rest = (pre ++ [⟨mt m, mt (m + 1)⟩]) ++ rest := by simp
    have e4 : (m + 2 + 2 * (rest.length : Int), (pre ++ [⟨mt m, mt (m + 1)⟩]) ++ mk_PairS rest (m + 2)) = (m + 2 * (((x :: rest).length : Nat) : Int), pre ++ mk_PairS (x :: rest) m) := by
      refine Prod.ext ?_ ?_
      · simp only [List.length_cons]; omega
      · simp [mk_PairS]
    rw [← e4, e3]
    exact hi
theorem mark_PairS (l : List S150) (m : Int) (h0 : 0 ≤ m) (h1 : m + 2 * (l.length : Int) ≤ 4611686018427387904) (hl : l.length ≤ 9223372036854775807) : Ev (fun k => laws_markPairS.f k l m) (m + 2 * (l.length : Int), mk_PairS l m) := by
  unfold laws_markPairS.f
  have h := mark_PairS_loop l [] m h0 h1 (by simpa using hl)
  simpa using h
end Go.Proofs.Ytcpcifgpcemaeaa.X
namespace Go.Proofs.Ytcpcifgpcemaeaa.X
open Go.RowKit Go.Proofs.YtcpcifgpcemaeaaW.PrintWords Go.Proofs.YtcpcifgpcemaeaaW.PrintLast Go.Proofs.YtcpcifgpcemaeaaW.PrintMore
attribute [local go_sem] xbin_geq xbin_leq xbin_gtr max2_int min2_int max_two min_two max_three min_three max_four min_four
set_option linter.unusedVariables false
set_option linter.unusedSimpArgs false
def laws_markStringS.l0 : Nat → List ByteArray → Int → Int → Option (Int × List ByteArray)
 | 0, _, _, _ => none
 | k + 1, x0, x1, x5 => if x5 < (x0.length : Int) then ((laws_markText.f k x1).bind fun t146 => (if 0 ≤ x5 then (laws_markStringS.l0 k (x0.set (x5 : Int).toNat t146) (wrap64 (x1 + 1)) (wrap64 (x5 + 1))) else (none))) else (some (x1, x0))
def laws_markStringS.f (k : Nat) (l0 : List ByteArray) (a1 : Int) : Option (Int × List ByteArray) := laws_markStringS.l0 k l0 a1 0
theorem laws_markStringS.mono_l : ∀ k, (∀ y0 y1 y2, LeO (laws_markStringS.l0 k y0 y1 y2) (laws_markStringS.l0 (k + 1) y0 y1 y2))
 | 0 => fun _ _ _ r h => by simp [laws_markStringS.l0] at h
 | k + 1 => by
  have ih0 := laws_markStringS.mono_l k
  ·intro y0 y1 y2
   unfold laws_markStringS.l0
   repeat' first
   | (with_reducible exact ih0 _ _ _)
   | (with_reducible exact laws_markText.mono _ _)
   | (with_reducible exact LeO.refl _)
   | (with_reducible exact LeO.none _)
   | (with_reducible refine LeO.ite ?_ ?_)
   | (with_reducible refine LeO.bind ?_ (fun _ => ?_))
   | exact ih0 _ _ _
   | exact laws_markText.mono _ _
   | exact LeO.none _
   | refine LeO.ite ?_ ?_
   | refine LeO.bind ?_ (fun _ => ?_)
theorem laws_markStringS.mono : ∀ a0 a1 k, LeO (laws_markStringS.f k a0 a1) (laws_markStringS.f (k + 1) a0 a1) := by
 intro a0 a1 k
 have ih0 := laws_markStringS.mono_l k
 unfold laws_markStringS.f
 repeat' first
   | (with_reducible exact ih0 _ _ _)
   | (with_reducible exact laws_markText.mono _ _)
   | (with_reducible exact LeO.refl _)
   | (with_reducible exact LeO.none _)
   | (with_reducible refine LeO.ite ?_ ?_)
   | (with_reducible refine LeO.bind ?_ (fun _ => ?_))
   | exact ih0 _ _ _
   | exact laws_markText.mono _ _
   | exact LeO.none _
   | refine LeO.ite ?_ ?_
   | refine LeO.bind ?_ (fun _ => ?_)
set_option maxHeartbeats 8000000 in
set_option maxRecDepth 100000 in
theorem laws_markStringS.calls (k : Nat) (P0_ : Nat → Prop) (u9000_ : Value) (l0 : List ByteArray) (a1 : Int) (r1 : Int) (r2 : List ByteArray) (w0 w : World) (hB : Below w0.heap.size w0 w) (ho0 : Kd.R Kd.string 9 w w0.heap.size P0_ u9000_ l0) (h : laws_markStringS.f k l0 a1 = some (r1, r2)) :
  Calls Try.prog 64 #[u9000_, .int .i64 a1] w fun e w' => e = .returned (.int .i64 r1) ∧ Kd.R Kd.string 9 w' w0.heap.size (fun k_ => (P0_ k_ ∨ w.heap.size ≤ k_)) u9000_ r2 ∧ Below w0.heap.size w0 w' ∧ Kept w w' (fun k_ => P0_ k_) := by
 have HO0 := Aside0.mk (show Kd.R Kd.string 9 w w0.heap.size (fun k_ => (P0_ k_ ∨ w.heap.size ≤ k_)) u9000_ l0 from Kd.R_mono ho0 (fun k_ hk => (.inl hk)))
 have HK := Aside0.mk (Kept.refl w (fun k_ => P0_ k_))
 have HW0 := Aside0.mk hB.size
 have HB := Aside0.mk hB
 clear hB
 have H : (laws_markStringS.l0 k l0 a1 0) = some (r1, r2) := h
 clear h
 have H' := Aside0.mk H
 clear H
 go_enter Try.func64, Try.ntmps64
 go_wp2
 go_loopg [1, 5] k (fun kq v1 v5 w' => ∃ (x0_1 : List ByteArray) (x1_1 : Int) (x5_1 : Int), v1 = .int .i64 x1_1 ∧ v5 = .int .i64 x5_1 ∧ Aside0 (laws_markStringS.l0 kq x0_1 x1_1 x5_1 = some (r1, r2)) ∧ Aside0 (kq ≤ k) ∧ Aside0 (Kd.R Kd.string 9 w' w0.heap.size (fun k_ => (P0_ k_ ∨ w.heap.size ≤ k_)) u9000_ x0_1) ∧ Aside0 (Kept w w' (fun k_ => P0_ k_)) ∧ Aside0 (Below w0.heap.size w0 w'))
 case atStart => exact ⟨(l0), (a1), (0), (by first | rfl | (simp; done) | (simp [*]; done)), (by first | rfl | (simp; done) | (simp [*]; done)), H', ⟨Nat.le_refl _⟩, ⟨by (with_reducible repeat (first | apply Kd.R_alloc | apply Kd.R_drewN | apply Kd.R_drew)); exact HO0.out⟩, ⟨by repeat (first | (with_reducible first | exact HK.out | apply Kept.alloc | apply Kept.drewN | apply Kept.drew) | exact HK.out)⟩, ⟨by repeat (first | (with_reducible first | exact HB.out | apply below_alloc | apply pw_below_drewN | apply below_drew1) | exact HB.out)⟩⟩
 case round =>
  clear H'
  try clear p2
  obtain ⟨x0_1, x1_1, x5_1, rfl, rfl, HA, HK1, HO_0, HK, HB⟩ := hrel
  cases gk with
  | zero => exact absurd HA.out (by simp [laws_markStringS.l0])
  | succ k1 =>
   have H := HA.out
   clear HA
   simp only [laws_markStringS.l0] at H
   by_cases c3 : x5_1 < (x0_1.length : Int)
   ·rw [if_pos c3] at H
    have c3b0 : decide (x5_1 < (x0_1.length : Int)) = true := decide_eq_true c3
    clear c3
    replace H := Option.bind_eq_some_iff.mp H
    obtain ⟨t146, A40, H⟩ := H
    replace H : (if 0 ≤ x5_1 then (laws_markStringS.l0 k1 (x0_1.set (x5_1 : Int).toNat t146) (wrap64 (x1_1 + 1)) (wrap64 (x5_1 + 1))) else (none)) = some (r1, r2) := H
    have A4 := Aside0.mk A40
    clear A40
    by_cases c5 : 0 ≤ x5_1
    ·rw [if_pos c5] at H
     have c5b0 : decide (0 ≤ x5_1) = true := decide_eq_true c5
     clear c5
     obtain ⟨y147, hy147⟩ : ∃ y_ : List ByteArray, y_ = (x0_1.set (x5_1 : Int).toNat t146) := ⟨_, rfl⟩
     replace H : (laws_markStringS.l0 k1 y147 (wrap64 (x1_1 + 1)) (wrap64 (x5_1 + 1))) = some (r1, r2) := by first | (rw [hy147]; with_reducible exact H) | (have H2_ := (Option.bind_some _ _).symm.trans H; rw [hy147]; with_reducible exact H2_) | (have H2_ := (Option.bind_some _ _).symm.trans H; with_reducible exact H2_) | with_reducible exact H | (rw [hy147]; exact H) | exact H
     have Ny147 := Aside0.mk hy147
     clear hy147
     have H' := Aside0.mk H
     clear H
     obtain ⟨Ao7, co7, eo7⟩ := Kd.R_slice HO_0.out
     subst eo7
     go_wp2_with (first | ((with_reducible refine gate_callee (f := 112) rfl ?_); refine goesL_ (some 15) rfl rfl Try.func112 (by kernel_rfl) rfl #[.int .i64 x1_1] rfl (by (try simp only [List.map_toArray, List.map_cons, List.map_nil]); first | done | rfl | (simp only [List.length_drop, List.length_take]; rfl)) ?_; (with_reducible refine (laws_markText.calls k1 x1_1 t146 _ A4.out).mono ?_); rintro e w8 ⟨rfl, hb⟩; refine ⟨_, rfl, ?_⟩; have n0_ := Aside0.mk (Kd.R_below (by (with_reducible repeat (first | apply Kd.R_alloc | apply Kd.R_drewN | apply Kd.R_drew)); exact HO_0.out) hb); have n1_ := Aside0.mk (Kept.below (S := (fun k_ => P0_ k_)) (by repeat (first | (with_reducible first | exact HK.out | apply Kept.alloc | apply Kept.drewN | apply Kept.drew) | exact HK.out)) hb); have n2_ := Aside0.mk (below_step (by repeat (first | (with_reducible first | exact HB.out | apply below_alloc | apply pw_below_drewN | apply below_drew1) | exact HB.out)) hb); clear HO_0; clear HK; clear HB; have HO_0 := n0_; have HK := n1_; have HB := n2_; clear n0_ n1_ n2_; (try clear hb); (try clear hb2); (try clear hk); (try clear hi); have p6 : 0 ≤ (x5_1 : Int) := of_decide_eq_true (by first | (with_reducible assumption) | assumption); have q6 : (x5_1 : Int) < ((x0_1.length : Int) : Int) := of_decide_eq_true (by first | (with_reducible assumption) | assumption); obtain ⟨go6, co6, eo6, gb6, gl6, cl6, HG6⟩ := Kd.R_form HO_0.out (by omega); (first | cases eo6 | (injection eo6 with ea_ en_ ec_; (first | subst ea_ | (injection ea_ with ea_; subst ea_)); subst ec_; clear en_)); have GB6 := Aside0.mk gb6; have GG6 := Aside0.mk HG6; clear gb6 gl6 HG6; have HMgo6 := Aside0.mk (show (P0_ go6 ∨ w.heap.size ≤ go6) from (HO_0.out.1 _ rfl)); obtain ⟨hx6_0, hf6_0⟩ := Kd.R_celln (⟨#[]⟩ : ByteArray) HO_0.out (x5_1 : Int) p6 q6; replace p6 := eq_true p6; replace q6 := eq_true q6; obtain ⟨hy9_, hz9_⟩ := Kd.R_celln (⟨#[]⟩ : ByteArray) HO_0.out (x5_1 : Int) (of_decide_eq_true (by first | (with_reducible assumption) | assumption)) (of_decide_eq_true (by first | (with_reducible assumption) | assumption)); have HP9 := Kd.R_putg HO_0.out (x5_1 : Int) t146) | ((with_reducible refine gate_store (t := 9) (p := 16) rfl ?_); refine store_event (t := 9) (p := 16) (v := ?vo_w10) (w1 := (w8.setCell ⟨go6, (x5_1 : Int).toNat, none⟩ (.string t146))) ?hg ?ho ?hn ?hr ?_; (case ho => rfl); (case hg => rfl); (case hn => rfl); (case hr => first | (go_simp; done) | (go_simp; rfl)); intro w10 hw; have hg : w8.grownBy w10 (some go6) := (by rw [hw]; exact HP9.2); have hp_ : Kd.R Kd.string 9 w10 w0.heap.size (fun k_ => (P0_ k_ ∨ w.heap.size ≤ k_)) (.slice (some ⟨go6, 0, none⟩) x0_1.length co7) y147 := (by rw [hw, Ny147.out]; exact HP9.1); clear HP9; have n0_ := Aside0.mk (hp_); have n1_ := Aside0.mk ((by rw [hw]; exact below_set (HB.out) GB6.out : Below w0.heap.size w0 w10)); have n2_ := Aside0.mk (Kept.of_grown (S := (fun k_ => P0_ k_)) hg (by repeat (first | (with_reducible first | exact HK.out | apply Kept.alloc | apply Kept.drewN | apply Kept.drew) | exact HK.out)) (fun k_ e_ => (HO_0.out.1 k_ e_))); clear HO_0; clear HB; clear HK; have HO_0 := n0_; have HB := n1_; have HK := n2_; clear n0_ n1_ n2_; clear hg hw hp_))
     go_roundg k1
     case measure => have := HK1.out; omega
     case rel => exact ⟨(y147), (wrap64 (x1_1 + 1)), (wrap64 (x5_1 + 1)), (by first | rfl | (simp; done) | (simp [*]; done)), (by first | rfl | (simp; done) | (simp [*]; done)), H', ⟨by have := HK1.out; omega⟩, ⟨by (with_reducible repeat (first | apply Kd.R_alloc | apply Kd.R_drewN | apply Kd.R_drew)); exact HO_0.out⟩, ⟨by repeat (first | (with_reducible first | exact HK.out | apply Kept.alloc | apply Kept.drewN | apply Kept.drew) | exact HK.out)⟩, ⟨by repeat (first | (with_reducible first | exact HB.out | apply below_alloc | apply pw_below_drewN | apply below_drew1) | exact HB.out)⟩⟩
    ·rw [if_neg c5] at H
     exact absurd H (by simp)
   ·rw [if_neg c3] at H
    have c3b0 : decide (x5_1 < (x0_1.length : Int)) = false := decide_eq_false c3
    clear c3
    simp only [Option.some.injEq, Prod.mk.injEq] at H
    obtain ⟨rfl, rfl⟩ := H
    obtain ⟨Ao11, co11, eo11⟩ := Kd.R_slice HO_0.out
    subst eo11
    go_wp2
    go_ret
    exact ⟨by first | rfl | (simp [errW_none, errW_some] <;> rfl) | (simp [*, errW_none, errW_some] <;> rfl), by (with_reducible repeat (first | apply Kd.R_alloc | apply Kd.R_drewN | apply Kd.R_drew)); exact HO_0.out, by repeat (first | (with_reducible first | exact HB.out | apply below_alloc | apply pw_below_drewN | apply below_drew1) | exact HB.out), by repeat (first | (with_reducible first | exact HK.out | apply Kept.alloc | apply Kept.drewN | apply Kept.drew) | exact HK.out)⟩
end Go.Proofs.Ytcpcifgpcemaeaa.X
namespace Go.Proofs.Ytcpcifgpcemaeaa.X
open Go.RowKit Go.Proofs.YtcpcifgpcemaeaaW.PrintWords Go.Proofs.YtcpcifgpcemaeaaW.PrintLast Go.Proofs.YtcpcifgpcemaeaaW.PrintMore
attribute [local go_sem] xbin_geq xbin_leq xbin_gtr max2_int min2_int max_two min_two max_three min_three max_four min_four
set_option linter.unusedVariables false
set_option linter.unusedSimpArgs false
noncomputable def mk_StringS : List ByteArray → Int → List ByteArray
  | [], _ => []
  | _ :: xs, m => mt m :: mk_StringS xs (m + 1)
theorem mark_StringS_loop (rest : List ByteArray) : ∀ (pre : List ByteArray) (m : Int), 0 ≤ m → m + 1 * (rest.length : Int) ≤ 4611686018427387904 → (pre ++ rest).length ≤ 9223372036854775807 →
    Ev (fun k => laws_markStringS.l0 k (pre ++ rest) m ((pre.length : Nat) : Int)) (m + 1 * (rest.length : Int), pre ++ mk_StringS rest m) := by
  induction rest with
  | nil =>
    intro pre m h0 h1 hl
    refine Ev.succ ?_
    simp only [laws_markStringS.l0]
    exact Ev.neg (by simp) (Ev.is (by simp [mk_StringS]))
  | cons x rest ih =>
    intro pre m h0 h1 hl
    have hlt : ((pre.length : Nat) : Int) < ((pre ++ x :: rest).length : Int) := by simp; omega
    have hwp : ∀ v : ByteArray, wrap64 (((pre.length : Nat) : Int) + 1) = (((pre ++ [v]).length : Nat) : Int) := fun v => by rw [← len_snoc]; exact wrap_at (by simp at hl; omega)
    have hset : ∀ v u : ByteArray, (pre ++ u :: rest).set ((pre.length : Nat) : Int).toNat v = pre ++ v :: rest := fun v u => by rw [Int.toNat_natCast]; exact set_mid pre u v rest
    have hrd : ∀ u : ByteArray, rdOf ByteArray.empty (pre ++ u :: rest) ((pre.length : Nat) : Int) = u := fun u => by simp [rdOf, List.getD_eq_getElem?_getD]
    simp only [List.length_cons] at h1
    have w1 : wrap64 (m + 1) = m + 1 := (wrap_id (by omega) (by omega)).trans (by omega)
    have hi := ih (pre ++ [mt m]) (m + 1) (by omega) (by omega) (by simpa using hl)
    refine Ev.succ ?_
    simp only [laws_markStringS.l0, w1]
    refine Ev.pos hlt ?_
    refine Ev.bind (mt_ev (by omega)) ?_
    refine Ev.pos (show (0 : Int) ≤ ((pre.length : Nat) : Int) by omega) ?_
    simp only [hset, hrd]
    rw [hwp (mt m)]
    have e3 : pre ++ (mt m : ByteArray) :: rest = (pre ++ [mt m]) ++ rest := by simp
    have e4 : (m + 1 + 1 * (rest.length : Int), (pre ++ [mt m]) ++ mk_StringS rest (m + 1)) = (m + 1 * (((x :: rest).length : Nat) : Int), pre ++ mk_StringS (x :: rest) m) := by
      refine Prod.ext ?_ ?_
      · simp only [List.length_cons]; omega
      · simp [mk_StringS]
    rw [← e4, e3]
    exact hi
theorem mark_StringS (l : List ByteArray) (m : Int) (h0 : 0 ≤ m) (h1 : m + 1 * (l.length : Int) ≤ 4611686018427387904) (hl : l.length ≤ 9223372036854775807) : Ev (fun k => laws_markStringS.f k l m) (m + 1 * (l.length : Int), mk_StringS l m) := by
  unfold laws_markStringS.f
  have h := mark_StringS_loop l [] m h0 h1 (by simpa using hl)
  simpa using h
end Go.Proofs.Ytcpcifgpcemaeaa.X
namespace Go.Proofs.Ytcpcifgpcemaeaa.X
open Go.RowKit Go.Proofs.YtcpcifgpcemaeaaW.PrintWords Go.Proofs.YtcpcifgpcemaeaaW.PrintLast Go.Proofs.YtcpcifgpcemaeaaW.PrintMore
attribute [local go_sem] xbin_geq xbin_leq xbin_gtr max2_int min2_int max_two min_two max_three min_three max_four min_four
set_option linter.unusedVariables false
set_option linter.unusedSimpArgs false
noncomputable def mkNode (x : S72) (m : Int) : S72 := ⟨m % 3 == 0, mk_PairS x.f1 (m + 1), mk_StringS x.f2 (m + 1 + 2 * (x.f1.length : Int)), mk_IntS x.f3 (m + 1 + 2 * (x.f1.length : Int) + (x.f2.length : Int))⟩
def costN (x : S72) : Nat := 1 + 2 * x.f1.length + x.f2.length + x.f3.length
def costNs : List S72 → Nat
  | [] => 0
  | x :: xs => costN x + costNs xs
noncomputable def mkNodes : List S72 → Int → List S72
  | [], _ => []
  | x :: xs, m => mkNode x m :: mkNodes xs (m + (costN x : Int))
theorem costNs_len (l : List S72) : l.length ≤ costNs l := by
  induction l with
  | nil => exact Nat.le_refl _
  | cons x l ih => rw [costNs, List.length_cons]; unfold costN; omega
theorem other_block {w : World} {α β : Type} {d : Kd α} {d' : Kd β} {e e' base : Nat} {ok ok' : Nat → Prop} {v v' : Value} {xs : List α} {ys : List β} (h : d.R e w base ok v xs) (h' : d'.R e' w base ok' v' ys) (hne : e ≠ e') : ∀ k, some k = v.ownBlock → ¬ some k = v'.ownBlock := fun k h1 h2 => by
  obtain ⟨c1, e1⟩ := Kd.R_typed h k h1.symm
  obtain ⟨c2, e2⟩ := Kd.R_typed h' k h2.symm
  rw [e1] at e2
  injection e2 with e2
  injection e2 with _ e3 _
  exact hne e3
set_option maxHeartbeats 8000000 in
set_option maxRecDepth 100000 in
theorem markNodeS_at (P : Nat → Prop) (g n cap : Nat) (l : List S72) (m : Int) (w0 w : World) (hB : Below w0.heap.size w0 w) (hS : Kd.S k72 72 w w0.heap.size P (.slice (some ⟨g, 0, none⟩) n cap) l) (hm : 0 ≤ m) (hcost : m + (costNs l : Int) ≤ 4611686018427387904) :
    Calls Try.prog 95 #[.slice (some ⟨g, 0, none⟩) n cap, .int .i64 m] w fun e w' => e = .returned (.int .i64 (m + (costNs l : Int))) ∧ Kd.S k72 72 w' w0.heap.size P (.slice (some ⟨g, 0, none⟩) n cap) (mkNodes l m) ∧ Below w0.heap.size w0 w' ∧ Kept w w' P := by
  have hu := Try.underlying72
  have hn := (Kd.S_reads' hS).1
  have HN := Aside0.mk hn
  have hnn : n ≤ 9223372036854775807 := by have := costNs_len l; omega
  have HS := Aside0.mk hS
  have HB := Aside0.mk hB
  have HC := Aside0.mk hcost
  clear hB hS hn
  go_enter Try.func95, Try.ntmps95
  go_wp2_with fail
  go_loopw [1, 5] (fun v1 v5 wr => ∃ (i : Nat) (q : Int) (ys : List S72), i ≤ n ∧ v5 = .int .i64 i ∧ v1 = .int .i64 q ∧ 0 ≤ q ∧ Aside0 (q + (costNs (l.drop i) : Int) = m + (costNs l : Int)) ∧ Aside0 (ys.drop i = l.drop i) ∧ Aside0 (ys.take i ++ mkNodes (l.drop i) q = mkNodes l m) ∧ Aside0 (Kd.S k72 72 wr w0.heap.size P (.slice (some ⟨g, 0, none⟩) n cap) ys) ∧ Aside0 (Below w0.heap.size w0 wr) ∧ Aside0 (Kept w wr P)) (fun _ v5 _ => n - (intOf v5).toNat)
  case atStart => exact ⟨0, m, l, by omega, rfl, rfl, hm, ⟨rfl⟩, ⟨rfl⟩, ⟨rfl⟩, HS, HB, ⟨Kept.refl _ _⟩⟩
  case round =>
    clear HS HB
    obtain ⟨i, q, ys, hi, rfl, rfl, hq0, HQ, HD, HT, HS, HB, HK⟩ := hrel
    by_cases hlt : i < n
    · have c1 : decide ((i : Int) < (n : Int)) = true := decide_eq_true (by omega)
      obtain ⟨oki, c, hcl, hM, hcc, hfr, hoki, hH⟩ := Kd.S_elem HS.out z72 (i : Int) (by omega) (by omega)
      obtain ⟨x, hx⟩ : ∃ x, x = ys.getD (i : Int).toNat z72 := ⟨_, rfl⟩
      rw [← hx] at hM
      obtain ⟨v1, v2, v3, rfl, g1, g2, g3⟩ := k72_openM hM
      have e0 := hcc 0 _ rfl
      have e1 := hcc 1 _ rfl
      have e2 := hcc 2 _ rfl
      have e3 := hcc 3 _ rfl
      have f0 := hfr 0
      rw [Int.toNat_natCast] at e0 e1 e2 e3 f0
      simp only [show k72.sz = 4 from rfl, Nat.add_zero] at e0 e1 e2 e3 f0
      have hyl : i < ys.length := by have := (Kd.S_reads' HS.out).1; omega
      have hll : i < l.length := by rw [← HN.out]; exact hlt
      have hxl : x = l[i] := by
        have e5 : ys[i] = l[i] := by
          have h0 := congrArg (fun z => z[0]?) HD.out
          simp only [List.getElem?_drop, Nat.add_zero] at h0
          rw [List.getElem?_eq_getElem hyl, List.getElem?_eq_getElem hll] at h0
          exact Option.some.inj h0
        rw [hx, ← e5, Int.toNat_natCast]
        simp [List.getD_eq_getElem?_getD, hyl]
      have hdr : l.drop i = x :: l.drop (i + 1) := by rw [hxl]; exact List.drop_eq_getElem_cons hll
      have hq2 : q + (costN x : Int) + (costNs (l.drop (i + 1)) : Int) = m + (costNs l : Int) := by
        have h := HQ.out
        rw [hdr, costNs] at h
        omega
      have HQ2 := Aside0.mk hq2
      have HDR := Aside0.mk hdr
      have HYL := Aside0.mk hyl
      have hsum : q + (costN x : Int) ≤ 4611686018427387904 := by omega
      clear hxl hq2 hdr hll
      have w1 : IntKind.i64.wrap (q + 1) = q + 1 := by rw [IntKind.wrap_i64]; omega
      have w2 : IntKind.i64.wrap ((i : Int) + 1) = (i : Int) + 1 := by rw [IntKind.wrap_i64]; omega
      have p1 : 0 ≤ (i : Int) := by omega
      have q1 : (i : Int) < (n : Int) := by omega
      obtain ⟨hH1, hg1⟩ := Kd.H_seg hH (by omega) (by omega) (seg := [.bool (q % 3 == 0)]) (j := 0) (by show 0 + 1 ≤ 4; omega) (by simp [Value.oneCell'])
      have HH1 := Aside0.mk (show Kd.H k72 72 (wr.setCell ⟨g, i * 4, none⟩ (.bool (q % 3 == 0))) w0.heap.size P (.slice (some ⟨g, 0, none⟩) n cap) ys (i : Int) oki [.bool (q % 3 == 0), v1, v2, v3] from hH1)
      have G1 := Aside0.mk g1
      have G2 := Aside0.mk g2
      have G3 := Aside0.mk g3
      have HO := Aside0.mk hoki
      have HX := Aside0.mk hx
      clear hcl hcc hfr hM hH hH1 hg1 g1 g2 g3 hoki hx
      go_wp2_with fail
      have hbg : w0.heap.size ≤ g := Kd.S_base HS.out g rfl
      have hcost2 : 1 + 2 * x.f1.length + x.f2.length + x.f3.length = costN x := rfl
      have b1 := HB.out.setCell (p := ⟨g, i * 4, none⟩) hbg (.bool (q % 3 == 0))
      have r1 := Kd.R_far (p := ⟨g, i * 4, none⟩) (Kd.R_tight2 rfl G1.out) (fun k hk => (HO.out k hk.2).2) (.bool (q % 3 == 0))
      have r2 := Kd.R_far (p := ⟨g, i * 4, none⟩) (Kd.R_tight2 rfl G2.out) (fun k hk => (HO.out k hk.2).2) (.bool (q % 3 == 0))
      have r3 := Kd.R_far (p := ⟨g, i * 4, none⟩) (Kd.R_tight2 rfl G3.out) (fun k hk => (HO.out k hk.2).2) (.bool (q % 3 == 0))
      have R2 := Aside0.mk r2
      have R3 := Aside0.mk r3
      obtain ⟨k1, hk1⟩ := mark_PairS x.f1 (q + 1) (by omega) (by omega) (by omega)
      have hk1 := hk1 k1 (Nat.le_refl _)
      have o12 := other_block r2 r1 (by decide)
      have o13 := other_block r3 r1 (by decide)
      refine (laws_markPairS.calls k1 _ v1 x.f1 (q + 1) _ _ w0 _ b1 r1 hk1).mono ?_
      rintro e wa ⟨rfl, ha1, hba, hka⟩
      have HHa := Aside0.mk (Kd.H_kept HH1.out hka (fun k _ hn h => hn h.2))
      have RA1 := Aside0.mk (show k150.R 150 wa w0.heap.size (fun k => some k = v1.ownBlock ∧ oki k) v1 _ from Kd.R_reok rfl ha1 (fun k hk => ⟨hk.symm, G1.out.1 k hk⟩))
      have RA2 := Aside0.mk (Kd.R_kept R2.out hka (fun k h2 h1 => o12 k h2.1 h1.1))
      have RA3 := Aside0.mk (Kd.R_kept R3.out hka (fun k h2 h1 => o13 k h2.1 h1.1))
      have HBa := Aside0.mk hba
      obtain ⟨ca, fa⟩ := Kd.H_at HHa.out (by omega) (by omega)
      have a2 := ca 2 _ rfl
      simp only [Int.toNat_natCast, show k72.sz = 4 from rfl] at a2
      clear e0 e1 e2 e3 f0 b1 r1 r2 r3 ha1 hba ca fa
      go_wp2_with fail
      obtain ⟨k2, hk2⟩ := mark_StringS x.f2 (q + 1 + 2 * (x.f1.length : Int)) (by omega) (by omega) (by omega)
      have hk2 := hk2 k2 (Nat.le_refl _)
      have o21 := other_block RA1.out RA2.out (by decide)
      have o23 := other_block RA3.out RA2.out (by decide)
      refine (laws_markStringS.calls k2 _ v2 x.f2 (q + 1 + 2 * (x.f1.length : Int)) _ _ w0 wa HBa.out RA2.out hk2).mono ?_
      rintro e wb ⟨rfl, ha2, hbb, hkb⟩
      have HHb := Aside0.mk (Kd.H_kept HHa.out hkb (fun k _ hn h => hn h.2))
      have RB1 := Aside0.mk (Kd.R_kept RA1.out hkb (fun k h2 h1 => o21 k h2.1 h1.1))
      have RB2 := Aside0.mk (show Kd.string.R 9 wb w0.heap.size (fun k => some k = v2.ownBlock ∧ oki k) v2 _ from Kd.R_reok rfl ha2 (fun k hk => ⟨hk.symm, G2.out.1 k hk⟩))
      have RB3 := Aside0.mk (Kd.R_kept RA3.out hkb (fun k h2 h1 => o23 k h2.1 h1.1))
      have HBb := Aside0.mk hbb
      obtain ⟨cb, fb⟩ := Kd.H_at HHb.out (by omega) (by omega)
      have a3 := cb 3 _ rfl
      simp only [Int.toNat_natCast, show k72.sz = 4 from rfl] at a3
      clear a2 ha2 hbb cb fb RA1 RA2 RA3 HHa HBa
      go_wp2_with fail
      obtain ⟨k3, hk3⟩ := mark_IntS x.f3 (q + 1 + 2 * (x.f1.length : Int) + (x.f2.length : Int)) (by omega) (by omega) (by omega)
      have hk3 := hk3 k3 (Nat.le_refl _)
      have o31 := other_block RB1.out RB3.out (by decide)
      have o32 := other_block RB2.out RB3.out (by decide)
      refine (laws_markIntS.calls k3 _ v3 x.f3 (q + 1 + 2 * (x.f1.length : Int) + (x.f2.length : Int)) _ _ w0 wb HBb.out RB3.out hk3).mono ?_
      rintro e wc ⟨rfl, ha3, hbc, hkc⟩
      have HHc := Aside0.mk (Kd.H_kept HHb.out hkc (fun k _ hn h => hn h.2))
      have RC1 := Aside0.mk (Kd.R_kept RB1.out hkc (fun k h2 h1 => o31 k h2.1 h1.1))
      have RC2 := Aside0.mk (Kd.R_kept RB2.out hkc (fun k h2 h1 => o32 k h2.1 h1.1))
      have RC3 := Aside0.mk (show (Kd.int .i64).R 3 wc w0.heap.size (fun k => some k = v3.ownBlock ∧ oki k) v3 _ from Kd.R_reok rfl ha3 (fun k hk => ⟨hk.symm, G3.out.1 k hk⟩))
      have HBc := Aside0.mk hbc
      have HSc := Aside0.mk (show Kd.S k72 72 wc w0.heap.size P (.slice (some ⟨g, 0, none⟩) n cap) (ys.set i (mkNode x q)) from Kd.H_back HHc.out (k72_mkM wc w0.heap.size oki (mkNode x q) (Kd.R_mono RC1.out (fun k hk => hk.2)) (Kd.R_mono RC2.out (fun k hk => hk.2)) (Kd.R_mono RC3.out (fun k hk => hk.2))) (fun _ hk => hk))
      clear a3 ha3 hbc RB1 RB2 RB3 HHb HBb HHc RC1 RC2 RC3
      go_wp2_with fail
      go_roundw
      case rel => exact ⟨i + 1, _, ys.set i (mkNode x q), by omega, by go_num, rfl, by omega, ⟨by have h := HQ2.out; omega⟩, ⟨by
        rw [List.drop_set_of_lt (by omega)]
        have h0 := congrArg (fun z => z.drop 1) HD.out
        simpa [List.drop_drop] using h0⟩, ⟨by
        rw [List.take_succ_eq_append_getElem (by rw [List.length_set]; exact HYL.out), List.take_set_of_le (Nat.le_refl _), List.getElem_set_self, ← HT.out, HDR.out, mkNodes, List.append_assoc, show q + (costN x : Int) = q + 1 + 2 * (x.f1.length : Int) + (x.f2.length : Int) + 1 * (x.f3.length : Int) from by omega]
        simp⟩, HSc, HBc, ⟨(((HK.out.setCell (p := ⟨g, i * 4, none⟩) (.inl ((Kd.S_R HS.out).1 g rfl)) _).then_ hka (fun k h => .inl (HO.out k h.2).1)).then_ hkb (fun k h => .inl (HO.out k h.2).1)).then_ hkc (fun k h => .inl (HO.out k h.2).1)⟩⟩
      case measure => simp [intOf]; omega
    · have he : i = n := by omega
      have c1 : decide ((i : Int) < (n : Int)) = false := decide_eq_false (by omega)
      have hyn : ys.length = n := ((Kd.S_reads' HS.out).1).symm
      have HE := Aside0.mk (show ys = mkNodes l m from by
        have h := HT.out
        rw [he, HN.out, List.drop_length, mkNodes, List.append_nil, ← HN.out, ← hyn, List.take_length] at h
        exact h)
      have hq : q = m + (costNs l : Int) := by
        have h := HQ.out
        rw [he, HN.out, List.drop_length, costNs] at h
        omega
      clear he hyn
      go_wp2_with fail
      go_ret
      exact ⟨congrArg (fun z => Ending.returned (Value.int .i64 z)) hq, by rw [← HE.out]; exact HS.out, HB.out, HK.out⟩
end Go.Proofs.Ytcpcifgpcemaeaa.X
