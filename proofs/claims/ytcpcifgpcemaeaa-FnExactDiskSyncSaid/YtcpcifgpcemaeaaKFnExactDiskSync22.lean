import Derived.Test.YtcpcifgpcemaeaaKFnExactDiskSync3
import Derived.Test.YtcpcifgpcemaeaaKFnExactDiskSync4
import Derived.Test.YtcpcifgpcemaeaaKFnExactDiskSync10
import Derived.Test.YtcpcifgpcemaeaaKFnExactDiskSync14
import Derived.Test.YtcpcifgpcemaeaaKFnExactDiskSync17
import Derived.Test.YtcpcifgpcemaeaaKFnExactDiskSync18
import Derived.Test.YtcpcifgpcemaeaaKFnExactDiskSync19
import Derived.Test.YtcpcifgpcemaeaaKFnExactDiskSync20
import Derived.Test.YtcpcifgpcemaeaaKFnExactDiskSync21
import Derived.LoopTactic
import Derived.WalkSpells
import Derived.Outline
import Derived.Deep.RegionHeld3
namespace Go.Proofs.Ytcpcifgpcemaeaa.X
open Go.RowKit Go.Proofs.YtcpcifgpcemaeaaW.PrintWords Go.Proofs.YtcpcifgpcemaeaaW.PrintLast Go.Proofs.YtcpcifgpcemaeaaW.PrintMore
attribute [local go_sem] xbin_geq xbin_leq xbin_gtr max2_int min2_int max_two min_two max_three min_three max_four min_four
set_option linter.unusedVariables false
set_option linter.unusedSimpArgs false
noncomputable def mk_PendingS : List S95 → Int → List S95
  | [], _ => []
  | _ :: xs, m => ⟨(m), mt (m + 1)⟩ :: mk_PendingS xs (m + 2)
theorem mark_PendingS_loop (rest : List S95) : ∀ (pre : List S95) (m : Int), 0 ≤ m → m + 2 * (rest.length : Int) ≤ 4611686018427387904 → (pre ++ rest).length ≤ 9223372036854775807 →
    Ev (fun k => laws_markPendingS.l0 k (pre ++ rest) m ((pre.length : Nat) : Int)) (m + 2 * (rest.length : Int), pre ++ mk_PendingS rest m) := by
  induction rest with
  | nil =>
    intro pre m h0 h1 hl
    refine Ev.succ ?_
    simp only [laws_markPendingS.l0]
    exact Ev.neg (by simp) (Ev.is (by simp [mk_PendingS]))
  | cons x rest ih =>
    intro pre m h0 h1 hl
    have hlt : ((pre.length : Nat) : Int) < ((pre ++ x :: rest).length : Int) := by simp; omega
    have hwp : ∀ v : S95, wrap64 (((pre.length : Nat) : Int) + 1) = (((pre ++ [v]).length : Nat) : Int) := fun v => by rw [← len_snoc]; exact wrap_at (by simp at hl; omega)
    have hset : ∀ v u : S95, (pre ++ u :: rest).set ((pre.length : Nat) : Int).toNat v = pre ++ v :: rest := fun v u => by rw [Int.toNat_natCast]; exact set_mid pre u v rest
    have hrd : ∀ u : S95, rd_T95 (pre ++ u :: rest) ((pre.length : Nat) : Int) = u := fun u => by simp [rd_T95, List.getD_eq_getElem?_getD]
    simp only [List.length_cons] at h1
    have w1 : wrap64 (m + 1) = m + 1 := (wrap_id (by omega) (by omega)).trans (by omega)
    have w2 : wrap64 ((m + 1) + 1) = m + 2 := (wrap_id (by omega) (by omega)).trans (by omega)
    have hi := ih (pre ++ [⟨(m), mt (m + 1)⟩]) (m + 2) (by omega) (by omega) (by simpa using hl)
    refine Ev.succ ?_
    simp only [laws_markPendingS.l0, w1, w2]
    refine Ev.pos hlt ?_
    refine Ev.pos (show (0 : Int) ≤ ((pre.length : Nat) : Int) by omega) ?_
    refine Ev.bindk rfl ?_
    refine Ev.bind (mt_ev (by omega)) ?_
    simp only [hset, hrd]
    rw [hwp (⟨(m), mt (m + 1)⟩)]
    have e3 : pre ++ (⟨(m), mt (m + 1)⟩ : S95) :: rest = (pre ++ [⟨(m), mt (m + 1)⟩]) ++ rest := by simp
    have e4 : (m + 2 + 2 * (rest.length : Int), (pre ++ [⟨(m), mt (m + 1)⟩]) ++ mk_PendingS rest (m + 2)) = (m + 2 * (((x :: rest).length : Nat) : Int), pre ++ mk_PendingS (x :: rest) m) := by
      refine Prod.ext ?_ ?_
      · simp only [List.length_cons]; omega
      · simp [mk_PendingS]
    rw [← e4, e3]
    exact hi
theorem mark_PendingS (l : List S95) (m : Int) (h0 : 0 ≤ m) (h1 : m + 2 * (l.length : Int) ≤ 4611686018427387904) (hl : l.length ≤ 9223372036854775807) : Ev (fun k => laws_markPendingS.f k l m) (m + 2 * (l.length : Int), mk_PendingS l m) := by
  unfold laws_markPendingS.f
  have h := mark_PendingS_loop l [] m h0 h1 (by simpa using hl)
  simpa using h
end Go.Proofs.Ytcpcifgpcemaeaa.X
namespace Go.Proofs.Ytcpcifgpcemaeaa.X
open Go.RowKit Go.Proofs.YtcpcifgpcemaeaaW.PrintWords Go.Proofs.YtcpcifgpcemaeaaW.PrintLast Go.Proofs.YtcpcifgpcemaeaaW.PrintMore
attribute [local go_sem] xbin_geq xbin_leq xbin_gtr max2_int min2_int max_two min_two max_three min_three max_four min_four
set_option linter.unusedVariables false
set_option linter.unusedSimpArgs false
theorem held_PendingS_loop (rest : List S95) : ∀ (pre : List S95) (m : Int), 0 ≤ m → m + 2 * (rest.length : Int) ≤ 4611686018427387904 → (pre ++ rest).length ≤ 9223372036854775807 →
    Ev (fun k => laws_heldPendingS.l0 k (pre ++ mk_PendingS rest m) m ((pre.length : Nat) : Int)) (m + 2 * (rest.length : Int)) := by
  induction rest with
  | nil =>
    intro pre m h0 h1 hl
    refine Ev.succ ?_
    simp only [laws_heldPendingS.l0]
    exact Ev.neg (by simp [mk_PendingS]) (Ev.is (by simp))
  | cons x rest ih =>
    intro pre m h0 h1 hl
    simp only [mk_PendingS, List.length_cons] at h1 ⊢
    have hlt : ((pre.length : Nat) : Int) < ((pre ++ (⟨(m), mt (m + 1)⟩ : S95) :: mk_PendingS rest (m + 2)).length : Int) := by simp; omega
    have hwp : wrap64 (((pre.length : Nat) : Int) + 1) = (((pre ++ [(⟨(m), mt (m + 1)⟩ : S95)]).length : Nat) : Int) := by rw [← len_snoc]; exact wrap_at (by simp at hl; omega)
    have hrd : rd_T95 (pre ++ (⟨(m), mt (m + 1)⟩ : S95) :: mk_PendingS rest (m + 2)) ((pre.length : Nat) : Int) = (⟨(m), mt (m + 1)⟩ : S95) := by simp [rd_T95, List.getD_eq_getElem?_getD]
    have w1 : wrap64 (m + 1) = m + 1 := (wrap_id (by omega) (by omega)).trans (by omega)
    have w2 : wrap64 ((m + 1) + 1) = m + 2 := (wrap_id (by omega) (by omega)).trans (by omega)
    have hi := ih (pre ++ [(⟨(m), mt (m + 1)⟩ : S95)]) (m + 2) (by omega) (by omega) (by simpa using hl)
    have e3 : pre ++ (⟨(m), mt (m + 1)⟩ : S95) :: mk_PendingS rest (m + 2) = (pre ++ [(⟨(m), mt (m + 1)⟩ : S95)]) ++ mk_PendingS rest (m + 2) := by simp
    rw [← e3] at hi
    refine Ev.succ ?_
    simp only [laws_heldPendingS.l0, hrd, hwp, w1, w2]
    refine Ev.pos hlt (Ev.pos (by omega) ?_)
    repeat (first | refine Ev.bind (mt_ev (by omega)) ?_ | refine Ev.pos trivial ?_ | refine Ev.pos rfl ?_ | refine Ev.neg (by simp) ?_)
    exact Ev.same hi (by omega)
theorem held_PendingS (l : List S95) (m : Int) (h0 : 0 ≤ m) (h1 : m + 2 * (l.length : Int) ≤ 4611686018427387904) (hl : l.length ≤ 9223372036854775807) : Ev (fun k => laws_heldPendingS.f k (mk_PendingS l m) m) (m + 2 * (l.length : Int)) := by
  unfold laws_heldPendingS.f
  have h := held_PendingS_loop l [] m h0 h1 (by simpa using hl)
  simpa using h
end Go.Proofs.Ytcpcifgpcemaeaa.X
namespace Go.Proofs.Ytcpcifgpcemaeaa.X
open Go.RowKit Go.Proofs.YtcpcifgpcemaeaaW.PrintWords Go.Proofs.YtcpcifgpcemaeaaW.PrintLast Go.Proofs.YtcpcifgpcemaeaaW.PrintMore
attribute [local go_sem] xbin_geq xbin_leq xbin_gtr max2_int min2_int max_two min_two max_three min_three max_four min_four
set_option linter.unusedVariables false
set_option linter.unusedSimpArgs false
noncomputable def mk_StringS : List ByteArray → Int → List ByteArray
  | [], _ => []
  | _ :: xs, m => mt m :: mk_StringS xs (m + 1)
theorem mark_StringS_loop (rest : List ByteArray) : ∀ (pre : List ByteArray) (m : Int), 0 ≤ m → m + 1 * (rest.length : Int) ≤ 4611686018427387904 → (pre ++ rest).length ≤ 9223372036854775807 →
    Ev (fun k => laws_markStringS.l0 k (pre ++ rest) m ((pre.length : Nat) : Int)) (m + 1 * (rest.length : Int), pre ++ mk_StringS rest m) := by
  induction rest with
  | nil =>
    intro pre m h0 h1 hl
    refine Ev.succ ?_
    simp only [laws_markStringS.l0]
    exact Ev.neg (by simp) (Ev.is (by simp [mk_StringS]))
  | cons x rest ih =>
    intro pre m h0 h1 hl
    have hlt : ((pre.length : Nat) : Int) < ((pre ++ x :: rest).length : Int) := by simp; omega
    have hwp : ∀ v : ByteArray, wrap64 (((pre.length : Nat) : Int) + 1) = (((pre ++ [v]).length : Nat) : Int) := fun v => by rw [← len_snoc]; exact wrap_at (by simp at hl; omega)
    have hset : ∀ v u : ByteArray, (pre ++ u :: rest).set ((pre.length : Nat) : Int).toNat v = pre ++ v :: rest := fun v u => by rw [Int.toNat_natCast]; exact set_mid pre u v rest
    have hrd : ∀ u : ByteArray, rdOf ByteArray.empty (pre ++ u :: rest) ((pre.length : Nat) : Int) = u := fun u => by simp [rdOf, List.getD_eq_getElem?_getD]
    simp only [List.length_cons] at h1
    have w1 : wrap64 (m + 1) = m + 1 := (wrap_id (by omega) (by omega)).trans (by omega)
    have hi := ih (pre ++ [mt m]) (m + 1) (by omega) (by omega) (by simpa using hl)
    refine Ev.succ ?_
    simp only [laws_markStringS.l0, w1]
    refine Ev.pos hlt ?_
    refine Ev.bind (mt_ev (by omega)) ?_
    refine Ev.pos (show (0 : Int) ≤ ((pre.length : Nat) : Int) by omega) ?_
    simp only [hset, hrd]
    rw [hwp (mt m)]
    have e3 : pre ++ (mt m : ByteArray) :: rest = (pre ++ [mt m]) ++ rest := by simp
    have e4 : (m + 1 + 1 * (rest.length : Int), (pre ++ [mt m]) ++ mk_StringS rest (m + 1)) = (m + 1 * (((x :: rest).length : Nat) : Int), pre ++ mk_StringS (x :: rest) m) := by
      refine Prod.ext ?_ ?_
      · simp only [List.length_cons]; omega
      · simp [mk_StringS]
    rw [← e4, e3]
    exact hi
theorem mark_StringS (l : List ByteArray) (m : Int) (h0 : 0 ≤ m) (h1 : m + 1 * (l.length : Int) ≤ 4611686018427387904) (hl : l.length ≤ 9223372036854775807) : Ev (fun k => laws_markStringS.f k l m) (m + 1 * (l.length : Int), mk_StringS l m) := by
  unfold laws_markStringS.f
  have h := mark_StringS_loop l [] m h0 h1 (by simpa using hl)
  simpa using h
end Go.Proofs.Ytcpcifgpcemaeaa.X
namespace Go.Proofs.Ytcpcifgpcemaeaa.X
open Go.RowKit Go.Proofs.YtcpcifgpcemaeaaW.PrintWords Go.Proofs.YtcpcifgpcemaeaaW.PrintLast Go.Proofs.YtcpcifgpcemaeaaW.PrintMore
attribute [local go_sem] xbin_geq xbin_leq xbin_gtr max2_int min2_int max_two min_two max_three min_three max_four min_four
set_option linter.unusedVariables false
set_option linter.unusedSimpArgs false
theorem held_StringS_loop (rest : List ByteArray) : ∀ (pre : List ByteArray) (m : Int), 0 ≤ m → m + 1 * (rest.length : Int) ≤ 4611686018427387904 → (pre ++ rest).length ≤ 9223372036854775807 →
    Ev (fun k => laws_heldStringS.l0 k (pre ++ mk_StringS rest m) m ((pre.length : Nat) : Int)) (m + 1 * (rest.length : Int)) := by
  induction rest with
  | nil =>
    intro pre m h0 h1 hl
    refine Ev.succ ?_
    simp only [laws_heldStringS.l0]
    exact Ev.neg (by simp [mk_StringS]) (Ev.is (by simp))
  | cons x rest ih =>
    intro pre m h0 h1 hl
    simp only [mk_StringS, List.length_cons] at h1 ⊢
    have hlt : ((pre.length : Nat) : Int) < ((pre ++ (mt m) :: mk_StringS rest (m + 1)).length : Int) := by simp; omega
    have hwp : wrap64 (((pre.length : Nat) : Int) + 1) = (((pre ++ [(mt m)]).length : Nat) : Int) := by rw [← len_snoc]; exact wrap_at (by simp at hl; omega)
    have hrd : rdOf ByteArray.empty (pre ++ (mt m) :: mk_StringS rest (m + 1)) ((pre.length : Nat) : Int) = (mt m) := by simp [rdOf, List.getD_eq_getElem?_getD]
    have w1 : wrap64 (m + 1) = m + 1 := (wrap_id (by omega) (by omega)).trans (by omega)
    have hi := ih (pre ++ [(mt m)]) (m + 1) (by omega) (by omega) (by simpa using hl)
    have e3 : pre ++ (mt m) :: mk_StringS rest (m + 1) = (pre ++ [(mt m)]) ++ mk_StringS rest (m + 1) := by simp
    rw [← e3] at hi
    refine Ev.succ ?_
    simp only [laws_heldStringS.l0, hrd, hwp, w1]
    refine Ev.pos hlt (Ev.pos (by omega) ?_)
    repeat (first | refine Ev.bind (mt_ev (by omega)) ?_ | refine Ev.pos trivial ?_ | refine Ev.pos rfl ?_ | refine Ev.neg (by simp) ?_)
    exact Ev.same hi (by omega)
theorem held_StringS (l : List ByteArray) (m : Int) (h0 : 0 ≤ m) (h1 : m + 1 * (l.length : Int) ≤ 4611686018427387904) (hl : l.length ≤ 9223372036854775807) : Ev (fun k => laws_heldStringS.f k (mk_StringS l m) m) (m + 1 * (l.length : Int)) := by
  unfold laws_heldStringS.f
  have h := held_StringS_loop l [] m h0 h1 (by simpa using hl)
  simpa using h
end Go.Proofs.Ytcpcifgpcemaeaa.X
namespace Go.Proofs.Ytcpcifgpcemaeaa.X
open Go.RowKit Go.Proofs.YtcpcifgpcemaeaaW.PrintWords Go.Proofs.YtcpcifgpcemaeaaW.PrintLast Go.Proofs.YtcpcifgpcemaeaaW.PrintMore
attribute [local go_sem] xbin_geq xbin_leq xbin_gtr max2_int min2_int max_two min_two max_three min_three max_four min_four
set_option linter.unusedVariables false
set_option linter.unusedSimpArgs false
theorem mark_Disk (x : S26) (m : Int) (h0 : 0 ≤ m) (h1 : m + 1 * (x.f0.length : Int) + 2 * (x.f1.length : Int) + 1 * (x.f3.length : Int) ≤ 4611686018427387904) (l0 : x.f0.length ≤ 9223372036854775807) (l1 : x.f1.length ≤ 9223372036854775807) (l3 : x.f3.length ≤ 9223372036854775807) :
    Ev (fun k => laws_markDisk.f k x.f0 x.f1 x.f2 x.f3 m) (m + 1 * (x.f0.length : Int) + 2 * (x.f1.length : Int) + 1 * (x.f3.length : Int), mk_StringS x.f0 m, mk_PendingS x.f1 (m + 1 * (x.f0.length : Int)), mk_IntS x.f3 (m + 1 * (x.f0.length : Int) + 2 * (x.f1.length : Int))) := by
  unfold laws_markDisk.f
  exact Ev.bind (mark_StringS _ m h0 (by omega) l0) (Ev.bind (mark_PendingS _ _ (by simp only; omega) (by simp only; omega) l1) (Ev.bind (mark_IntS _ _ (by simp only; omega) (by simp only; omega) l3) (Ev.is rfl)))
theorem held_Disk (x : S26) (m : Int) (h0 : 0 ≤ m) (h1 : m + 1 * (x.f0.length : Int) + 2 * (x.f1.length : Int) + 1 * (x.f3.length : Int) ≤ 4611686018427387904) (l0 : x.f0.length ≤ 9223372036854775807) (l1 : x.f1.length ≤ 9223372036854775807) (l3 : x.f3.length ≤ 9223372036854775807) :
    Ev (fun k => laws_heldDisk.f k (mk_StringS x.f0 m) (mk_PendingS x.f1 (m + 1 * (x.f0.length : Int))) x.f2 (mk_IntS x.f3 (m + 1 * (x.f0.length : Int) + 2 * (x.f1.length : Int))) m) (m + 1 * (x.f0.length : Int) + 2 * (x.f1.length : Int) + 1 * (x.f3.length : Int)) := by
  unfold laws_heldDisk.f
  exact Ev.bind (held_StringS _ m h0 (by omega) l0) (Ev.neg (by omega) (Ev.bind (held_PendingS _ _ (by omega) (by omega) l1) (Ev.neg (by omega) (Ev.bind (held_IntS _ _ (by omega) (by omega) l3) (Ev.neg (by omega) (Ev.is rfl))))))
end Go.Proofs.Ytcpcifgpcemaeaa.X
namespace Go.Proofs.Ytcpcifgpcemaeaa.X
open Go.RowKit Go.Proofs.YtcpcifgpcemaeaaW.PrintWords Go.Proofs.YtcpcifgpcemaeaaW.PrintLast Go.Proofs.YtcpcifgpcemaeaaW.PrintMore
attribute [local go_sem] xbin_geq xbin_leq xbin_gtr max2_int min2_int max_two min_two max_three min_three max_four min_four
set_option linter.unusedVariables false
set_option linter.unusedSimpArgs false
def impl_DiskCrash.f (l0_0 : List ByteArray) (l0_1 : List S95) (a0_2 : Bool) (l0_3 : List Int) (l1 : List Int) : Option (List ByteArray × List S95 × Bool × List Int × Int) :=
  if 4096 < l1.length then some ([], [], false, [], 2) else if diskB l0_0 l0_1 a0_2 l0_3 = true then some (settleL (keepB l1) l0_1 0 l0_0, [], false, [], 0) else some ([], [], false, [], 1)
set_option maxHeartbeats 16000000 in
set_option maxRecDepth 100000 in
theorem impl_DiskCrash.calls (A0_0 : Option Addr) (c0_0 : Nat) (l0_0 : List ByteArray) (A0_1 : Option Addr) (c0_1 : Nat) (l0_1 : List (S95)) (a0_2 : Bool) (A0_3 : Option Addr) (c0_3 : Nat) (l0_3 : List Int) (A1 : Option Addr) (c1 : Nat) (l1 : List Int) (r1 : List ByteArray) (r2 : List (S95)) (r3 : Bool) (r4 : List Int) (r5 : Int) (w : World) (hr0_0 : Kd.C Kd.string w A0_0 l0_0.length l0_0) (hc0_0 : l0_0.length ≤ c0_0) (hr0_1 : Kd.C k95 w A0_1 l0_1.length l0_1) (hc0_1 : l0_1.length ≤ c0_1) (hr0_3 : Kd.C (Kd.int .i64) w A0_3 l0_3.length l0_3) (hc0_3 : l0_3.length ≤ c0_3) (hr1 : Kd.C (Kd.int .i64) w A1 l1.length l1) (hc1 : l1.length ≤ c1) (h : impl_DiskCrash.f l0_0 l0_1 a0_2 l0_3 l1 = some (r1, r2, r3, r4, r5)) :
    Calls Try.prog 34 #[.agg #[.slice A0_0 l0_0.length c0_0, .slice A0_1 l0_1.length c0_1, .bool a0_2, .slice A0_3 l0_3.length c0_3], .slice A1 l1.length c1] w fun e w' => ∃ v0_ v1_ v3_ : Value, e = .returned (.tuple #[.agg #[v0_, v1_, .bool r3, v3_], .int .i64 r5]) ∧ Kd.R Kd.string 9 w' w.heap.size (fun _ => True) v0_ r1 ∧ Kd.R k95 95 w' w.heap.size (fun _ => True) v1_ r2 ∧ Kd.R (Kd.int .i64) 3 w' w.heap.size (fun _ => True) v3_ r4 ∧ Below w.heap.size w w' := by
  unfold impl_DiskCrash.f at h
  have hu := Try.underlying26
  have HR0 := Aside0.mk hr0_0
  have HR1 := Aside0.mk hr0_1
  have HR3 := Aside0.mk hr0_3
  have HR4 := Aside0.mk hr1
  clear hr1
  have hB0 : Below w.heap.size w ((w.alloc (.cells #[.slice A0_0 l0_0.length c0_0, .slice A0_1 l0_1.length c0_1, .bool a0_2, .slice A0_3 l0_3.length c0_3] 26 (0, 0))).alloc (.cells #[.slice none 0 0, .slice none 0 0, .bool false, .slice none 0 0] 26 (0, 0))) := below_alloc (below_alloc (Below.refl _ w) _) _
  have hD0 : ((w.alloc (.cells #[.slice A0_0 l0_0.length c0_0, .slice A0_1 l0_1.length c0_1, .bool a0_2, .slice A0_3 l0_3.length c0_3] 26 (0, 0))).alloc (.cells #[.slice none 0 0, .slice none 0 0, .bool false, .slice none 0 0] 26 (0, 0))).heap[w.heap.size]? = some (.cells #[.slice A0_0 l0_0.length c0_0, .slice A0_1 l0_1.length c0_1, .bool a0_2, .slice A0_3 l0_3.length c0_3] 26 (0, 0)) := blk_alloc (blk_new w _) _
  have hsz1 : (w.alloc (.cells #[.slice A0_0 l0_0.length c0_0, .slice A0_1 l0_1.length c0_1, .bool a0_2, .slice A0_3 l0_3.length c0_3] 26 (0, 0))).heap.size = w.heap.size + 1 := by show (w.heap.push _).size = _; rw [Array.size_push]
  have hZ0 : ((w.alloc (.cells #[.slice A0_0 l0_0.length c0_0, .slice A0_1 l0_1.length c0_1, .bool a0_2, .slice A0_3 l0_3.length c0_3] 26 (0, 0))).alloc (.cells #[.slice none 0 0, .slice none 0 0, .bool false, .slice none 0 0] 26 (0, 0))).heap[w.heap.size + 1]? = some (.cells #[.slice none 0 0, .slice none 0 0, .bool false, .slice none 0 0] 26 (0, 0)) := by have h := blk_new (w.alloc (.cells #[.slice A0_0 l0_0.length c0_0, .slice A0_1 l0_1.length c0_1, .bool a0_2, .slice A0_3 l0_3.length c0_3] 26 (0, 0))) (.cells #[.slice none 0 0, .slice none 0 0, .bool false, .slice none 0 0] 26 (0, 0)); rw [hsz1] at h; exact h
  have HB0 := Aside0.mk hB0
  have HD0 := Aside0.mk hD0
  have HZ0 := Aside0.mk hZ0
  clear hr0_0 hr0_1 hr0_3 hB0 hD0 hZ0 hsz1
  by_cases h1 : 4096 < l1.length
  · rw [if_pos h1] at h
    simp only [Option.some.injEq, Prod.mk.injEq] at h
    obtain ⟨rfl, rfl, rfl, rfl, rfl⟩ := h
    have hx1 : decide (4096 < (l1.length : Int)) = true := decide_eq_true (by omega)
    go_enter Try.func34, Try.ntmps34
    go_wp2_with fail
    refine bodyPost_ret (results_ct rfl _ _ (w.heap.size + 1) 26 #[.slice none 0 0, .slice none 0 0, .bool false, .slice none 0 0] (0, 0) _ rfl (HZ0.out) Try.underlying26 rfl (by kernel_rfl)) rfl ?_
    exact ⟨_, _, _, rfl, Kd.R_nil _ _ _ _ _, Kd.R_nil _ _ _ _ _, Kd.R_nil _ _ _ _ _, HB0.out⟩
  · rw [if_neg h1] at h
    have hx1 : decide (4096 < (l1.length : Int)) = false := decide_eq_false (by omega)
    have HOK := Aside0.mk (show impl_DiskOK.f l0_0 l0_1 a0_2 l0_3 = some (diskB l0_0 l0_1 a0_2 l0_3) from rfl)
    cases hd : diskB l0_0 l0_1 a0_2 l0_3 with
    | false =>
      rw [hd] at h HOK
      rw [if_neg (by simp)] at h
      simp only [Option.some.injEq, Prod.mk.injEq] at h
      obtain ⟨rfl, rfl, rfl, rfl, rfl⟩ := h
      clear hd
      go_enter Try.func34, Try.ntmps34
      go_wp2_with fail
      refine (impl_DiskOK.calls _ _ _ _ _ _ _ _ _ _ _ _ (Kd.C_below HR0.out HB0.out) hc0_0 (Kd.C_below HR1.out HB0.out) hc0_1 (Kd.C_below HR3.out HB0.out) hc0_3 HOK.out).mono ?_
      rintro e w1 ⟨rfl, hb1⟩
      have HB1 := Aside0.mk (below_step HB0.out hb1)
      have HD1 := Aside0.mk (blk_below HD0.out hb1)
      have HZ1 := Aside0.mk (blk_below HZ0.out hb1)
      obtain ⟨d0, d1, d2, d3, _, _, _, _⟩ := cells4 HD1.out
      obtain ⟨z0, z1, z2, z3, z4, z5, z6, z7⟩ := cells4 HZ1.out
      clear hb1
      go_wp2_with fail
      refine bodyPost_ret (results_ct rfl _ _ (w.heap.size + 1) 26 #[.slice none 0 0, .slice none 0 0, .bool false, .slice none 0 0] (0, 0) _ rfl (set4_blk HZ1.out _ _ _ _) Try.underlying26 rfl (by kernel_rfl)) rfl ?_
      exact ⟨_, _, _, rfl, Kd.R_nil _ _ _ _ _, Kd.R_nil _ _ _ _ _, Kd.R_nil _ _ _ _ _, set4_below HB1.out (by omega) _ _ _ _⟩
    | true =>
      have hl := diskB_len hd
      rw [hd] at h HOK
      rw [if_pos rfl] at h
      clear hd
      have HCL := Aside0.mk (impl_own (s := l0_0) (c := l0_1) a0_2 (q := l0_3) (by omega) (by omega) (by omega))
      have HIN := Aside0.mk (show ∀ p, p ∈ l0_1 → 0 ≤ p.f0 ∧ p.f0 < (l0_0.length : Int) from fun p hp => by
        have h1 := List.all_eq_true.1 hl.2.2.2 p hp
        unfold pendB at h1
        simp only [Bool.and_eq_true, decide_eq_true_eq] at h1
        omega)
      have hm : l0_1.length ≤ 1000000 := by omega
      have hq : l0_3.length ≤ 1000000 := by omega
      clear hl
      simp only [Option.some.injEq, Prod.mk.injEq] at h
      obtain ⟨rfl, rfl, rfl, rfl, rfl⟩ := h
      have hk : l1.length ≤ 1000000 := by omega
      go_enter Try.func34, Try.ntmps34
      go_wp2_with fail
      refine (impl_DiskOK.calls _ _ _ _ _ _ _ _ _ _ _ _ (Kd.C_below HR0.out HB0.out) hc0_0 (Kd.C_below HR1.out HB0.out) hc0_1 (Kd.C_below HR3.out HB0.out) hc0_3 HOK.out).mono ?_
      rintro e w1 ⟨rfl, hb1⟩
      have HB1 := Aside0.mk (below_step HB0.out hb1)
      have HD1 := Aside0.mk (blk_below HD0.out hb1)
      have HZ1 := Aside0.mk (blk_below HZ0.out hb1)
      obtain ⟨d0, d1, d2, d3, _, _, _, _⟩ := cells4 HD1.out
      obtain ⟨z0, z1, z2, z3, z4, z5, z6, z7⟩ := cells4 HZ1.out
      clear hb1
      go_wp2_with fail
      refine (impl_cloneDisk.calls _ _ _ _ _ _ _ _ _ _ _ _ _ _ _ (Kd.C_below HR0.out HB1.out) hc0_0 (Kd.C_below HR1.out HB1.out) hc0_1 (Kd.C_below HR3.out HB1.out) hc0_3 HCL.out).mono ?_
      rintro e w3 ⟨x0, x1, x3, rfl, hs3, hc3, hq3, hb3⟩
      have HB3 := Aside0.mk (below_step HB1.out hb3)
      have HD3 := Aside0.mk (blk_below HD1.out hb3)
      have HZ3 := Aside0.mk (blk_below HZ1.out hb3)
      have hs4 := Kd.R_lower hs3 HB1.out.size
      have hc4 := Kd.R_lower hc3 HB1.out.size
      have hq4 := Kd.R_lower hq3 HB1.out.size
      obtain ⟨X0, y0, rfl, _, _⟩ := Kd.R_reads hs3
      obtain ⟨X1, y1, rfl, _, _⟩ := Kd.R_reads hc3
      obtain ⟨X3, y3, rfl, _, _⟩ := Kd.R_reads hq3
      have HA3 := Aside0.mk (show DiskAt w (w3.alloc (.cells #[.slice X0 l0_0.length y0, .slice X1 l0_1.length y1, .bool a0_2, .slice X3 l0_3.length y3] 26 (0, 0))) w3.heap.size (.slice X0 l0_0.length y0) (.slice X1 l0_1.length y1) (.slice X3 l0_3.length y3) l0_0 l0_1 _ l0_3 from ⟨HB3.out.size, blk_new w3 _, Kd.R_alloc hs4 _, Kd.R_alloc hc4 _, Kd.R_alloc hq4 _⟩)
      have HBA := Aside0.mk (below_alloc HB3.out (.cells #[.slice X0 l0_0.length y0, .slice X1 l0_1.length y1, .bool a0_2, .slice X3 l0_3.length y3] 26 (0, 0)))
      have HDA := Aside0.mk (blk_alloc HD3.out (.cells #[.slice X0 l0_0.length y0, .slice X1 l0_1.length y1, .bool a0_2, .slice X3 l0_3.length y3] 26 (0, 0)))
      have HZA := Aside0.mk (blk_alloc HZ3.out (.cells #[.slice X0 l0_0.length y0, .slice X1 l0_1.length y1, .bool a0_2, .slice X3 l0_3.length y3] 26 (0, 0)))
      have hg3 := blk_lt HZ3.out
      have hgne : w3.heap.size ≠ w.heap.size + 1 := by omega
      have HGN := Aside0.mk hgne
      clear hs3 hc3 hq3 hs4 hc4 hq4 hb3 hg3 hgne d0 d1 d2 d3 z0 z1 z2 z3 z4 z5 z6 z7 HD1 HZ1 HB1
      obtain ⟨d0, d1, d2, d3, _, _, _, _⟩ := cells4 HDA.out
      obtain ⟨z0, z1, z2, z3, z4, z5, z6, z7⟩ := cells4 HZA.out
      obtain ⟨e0, e1, e2, e3, _, _, _, _⟩ := cells4 HA3.out.2.1
      go_wp2_with fail
      refine (disk_crash w _ w3.heap.size X0 y0 X1 y1 _ l0_0 l0_1 a0_2 l0_3 A1 c1 l1 HBA.out HA3.out HIN.out hm hk (fun W hW _ => Kd.C_below HR4.out hW)).mono ?_
      rintro e w4 ⟨rfl, hd4, hb4, hk4⟩
      have HZ4 := Aside0.mk (hk4 _ _ _ HZA.out (by have := HGN.out; omega) (by decide))
      have HB4 := Aside0.mk hb4
      have HA4 := Aside0.mk hd4
      clear hd4 hb4 hk4 d0 d1 d2 d3 z0 z1 z2 z3 z4 z5 z6 z7 e0 e1 e2 e3
      obtain ⟨e0, e1, e2, e3, _, _, _, _⟩ := cells4 HA4.out.2.1
      obtain ⟨z0, z1, z2, z3, z4, z5, z6, z7⟩ := cells4 HZ4.out
      go_wp2_with fail
      refine bodyPost_ret (results_ct rfl _ _ (w.heap.size + 1) 26 #[.slice X0 l0_0.length y0, .slice none 0 0, .bool false, (.slice none 0 0)] (0, 0) _ rfl (set4_blk HZ4.out _ _ _ _) Try.underlying26 rfl (by kernel_rfl)) rfl ?_
      have hfin := DiskAt.set4 HA4.out HZ4.out HGN.out (.slice X0 l0_0.length y0) (.slice none 0 0) (.bool false) (.slice none 0 0)
      exact ⟨_, _, _, rfl, hfin.2.2.1, hfin.2.2.2.1, hfin.2.2.2.2, set4_below HB4.out (by omega) _ _ _ _⟩
end Go.Proofs.Ytcpcifgpcemaeaa.X
