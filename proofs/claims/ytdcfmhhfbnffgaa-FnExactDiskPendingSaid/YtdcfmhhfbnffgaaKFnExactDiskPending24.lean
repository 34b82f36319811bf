import Derived.Test.YtdcfmhhfbnffgaaKFnExactDiskPending3
import Derived.Test.YtdcfmhhfbnffgaaKFnExactDiskPending8
import Derived.Test.YtdcfmhhfbnffgaaKFnExactDiskPending9
import Derived.Test.YtdcfmhhfbnffgaaKFnExactDiskPending12
import Derived.Test.YtdcfmhhfbnffgaaKFnExactDiskPending14
import Derived.Test.YtdcfmhhfbnffgaaKFnExactDiskPending15
import Derived.Test.YtdcfmhhfbnffgaaKFnExactDiskPending16
import Derived.Test.YtdcfmhhfbnffgaaKFnExactDiskPending17
import Derived.Test.YtdcfmhhfbnffgaaKFnExactDiskPending19
import Derived.Test.YtdcfmhhfbnffgaaKFnExactDiskPending20
import Derived.Test.YtdcfmhhfbnffgaaKFnExactDiskPending23
namespace Go.Proofs.Ytdcfmhhfbnffgaa.X
open Go.RowKit Go.Proofs.YtdcfmhhfbnffgaaW.PrintWords Go.Proofs.YtdcfmhhfbnffgaaW.PrintLast Go.Proofs.YtdcfmhhfbnffgaaW.PrintMore
attribute [local go_sem] xbin_geq xbin_leq xbin_gtr max2_int min2_int max_two min_two max_three min_three max_four min_four
set_option linter.unusedVariables false
set_option linter.unusedSimpArgs false
theorem eq_StringS_loop (rest : List ByteArray) : ∀ (pre : List ByteArray), (pre ++ rest).length ≤ 9223372036854775807 → (True) → Ev (fun k => laws_eqStringS.l0 k (pre ++ rest) (pre ++ rest) ((pre.length : Nat) : Int)) true := by
  induction rest with
  | nil =>
    intro pre hl hs
    refine Ev.succ ?_
    simp only [laws_eqStringS.l0]
    exact Ev.neg (by simp) (Ev.is rfl)
  | cons x rest ih =>
    intro pre hl hs
    have hx : rdOf ByteArray.empty (pre ++ x :: rest) ((pre.length : Nat) : Int) = x := by simp [rdOf, List.getD_eq_getElem?_getD]
    have hlt : ((pre.length : Nat) : Int) < ((pre ++ x :: rest).length : Int) := by simp; omega
    have hwp : wrap64 (((pre.length : Nat) : Int) + 1) = (((pre ++ [x]).length : Nat) : Int) := by rw [← len_snoc]; exact wrap_at (by simp at hl; omega)
    have e1 : pre ++ x :: rest = (pre ++ [x]) ++ rest := by simp
    have hi := ih (pre ++ [x]) (by rw [← e1]; exact hl) trivial
    rw [← e1] at hi
    refine Ev.succ ?_
    simp only [laws_eqStringS.l0, hx, hwp]
    exact Ev.pos hlt (Ev.pos (by omega) (Ev.pos hlt (Ev.pos (by first | trivial | rfl) hi)))
theorem eq_StringS (l : List ByteArray) (h : l.length ≤ 9223372036854775807) : Ev (fun k => laws_eqStringS.f k l l) true := by
  unfold laws_eqStringS.f
  have hh := eq_StringS_loop l [] (by simpa using h) trivial
  exact Ev.pos rfl (by simpa using hh)
end Go.Proofs.Ytdcfmhhfbnffgaa.X
namespace Go.Proofs.Ytdcfmhhfbnffgaa.X
open Go.RowKit Go.Proofs.YtdcfmhhfbnffgaaW.PrintWords Go.Proofs.YtdcfmhhfbnffgaaW.PrintLast Go.Proofs.YtdcfmhhfbnffgaaW.PrintMore
attribute [local go_sem] xbin_geq xbin_leq xbin_gtr max2_int min2_int max_two min_two max_three min_three max_four min_four
set_option linter.unusedVariables false
set_option linter.unusedSimpArgs false
def len32 (x : S32) : Prop := (x.f0.length ≤ 9223372036854775807) ∧ (x.f1.length ≤ 9223372036854775807 ∧ ∀ y ∈ x.f1, len43 y) ∧ True ∧ (x.f3.length ≤ 9223372036854775807)
theorem eq_Disk (x : S32) (h : len32 x) : Ev (fun k => laws_eqDisk.f k (x.f0) (x.f1) (x.f2) (x.f3) (x.f0) (x.f1) (x.f2) (x.f3)) true := by
  unfold laws_eqDisk.f
  exact Ev.bind (eq_StringS _ h.1) (Ev.pos rfl (Ev.bind (eq_PendingS _ h.2.1) (Ev.pos rfl (Ev.neg (by simp) (Ev.bind (eq_IntS _ h.2.2.2) (Ev.pos rfl (Ev.is rfl)))))))
end Go.Proofs.Ytdcfmhhfbnffgaa.X
namespace Go.Proofs.Ytdcfmhhfbnffgaa.X
open Go.RowKit Go.Proofs.YtdcfmhhfbnffgaaW.PrintWords Go.Proofs.YtdcfmhhfbnffgaaW.PrintLast Go.Proofs.YtdcfmhhfbnffgaaW.PrintMore
attribute [local go_sem] xbin_geq xbin_leq xbin_gtr max2_int min2_int max_two min_two max_three min_three max_four min_four
set_option linter.unusedVariables false
set_option linter.unusedSimpArgs false
theorem markText_any (n : Nat) : ∀ (a : Int) (acc : ByteArray), a.toNat ≤ n → 0 ≤ a → a ≤ 4611686018427387904 → acc.size + n ≤ 4611686018427387905 → ∃ s, Ev (fun k => laws_markText.l0 k a acc) s := by
  induction n with
  | zero =>
    intro a acc h h0 h1 h2
    refine ⟨(⟨#[109]⟩ : ByteArray) ++ acc, Ev.succ ?_⟩
    simp only [laws_markText.l0]
    exact Ev.neg (by omega) (Ev.pos (by omega) (Ev.is rfl))
  | succ n ih =>
    intro a acc h h0 h1 h2
    by_cases hz : a > 0
    · have e : wrap64 (Int.tdiv a 10) = a / 10 := by
        rw [Int.tdiv_eq_ediv_of_nonneg h0]
        exact wrap_id (by omega) (by omega)
      have hsz : ∀ b : Int, (strOfNums [b]).size = 1 := fun b => by simp [strOfNums, ByteArray.size]
      obtain ⟨s, hs⟩ := ih (a / 10) (strOfNums [(wrap64 (48 + Int.tmod a 10)) % 256] ++ acc) (by omega) (by omega) (by omega) (by rw [ByteArray.size_append, hsz]; omega)
      refine ⟨s, Ev.succ ?_⟩
      simp only [laws_markText.l0, Option.bind_some]
      refine Ev.pos hz (Ev.pos (by rw [hsz]; omega) ?_)
      rw [e]
      exact hs
    · refine ⟨(⟨#[109]⟩ : ByteArray) ++ acc, Ev.succ ?_⟩
      simp only [laws_markText.l0]
      exact Ev.neg hz (Ev.pos (by omega) (Ev.is rfl))
theorem markText_ex (a : Int) (h : a ≤ 4611686018427387904) : ∃ s, Ev (fun k => laws_markText.f k a) s := by
  unfold laws_markText.f
  by_cases hz : a ≤ 0
  · exact ⟨_, Ev.pos hz (Ev.is rfl)⟩
  · obtain ⟨s, hs⟩ := markText_any a.toNat a (⟨#[]⟩ : ByteArray) (Nat.le_refl _) (by omega) h (by simp [ByteArray.size]; omega)
    exact ⟨s, Ev.neg hz hs⟩
noncomputable def mt (a : Int) : ByteArray := if h : a ≤ 4611686018427387904 then (markText_ex a h).choose else ByteArray.empty
theorem mt_ev {a : Int} (h : a ≤ 4611686018427387904) : Ev (fun k => laws_markText.f k a) (mt a) := by
  unfold mt
  rw [dif_pos h]
  exact (markText_ex a h).choose_spec
end Go.Proofs.Ytdcfmhhfbnffgaa.X
namespace Go.Proofs.Ytdcfmhhfbnffgaa.X
open Go.RowKit Go.Proofs.YtdcfmhhfbnffgaaW.PrintWords Go.Proofs.YtdcfmhhfbnffgaaW.PrintLast Go.Proofs.YtdcfmhhfbnffgaaW.PrintMore
attribute [local go_sem] xbin_geq xbin_leq xbin_gtr max2_int min2_int max_two min_two max_three min_three max_four min_four
set_option linter.unusedVariables false
set_option linter.unusedSimpArgs false
noncomputable def mk_StringS : List ByteArray → Int → List ByteArray
  | [], _ => []
  | _ :: xs, m => mt m :: mk_StringS xs (m + 1)
theorem mark_StringS_loop (rest : List ByteArray) : ∀ (pre : List ByteArray) (m : Int), 0 ≤ m → m + 1 * (rest.length : Int) ≤ 4611686018427387904 → (pre ++ rest).length ≤ 9223372036854775807 →
    Ev (fun k => laws_markStringS.l0 k (pre ++ rest) m ((pre.length : Nat) : Int)) (m + 1 * (rest.length : Int), pre ++ mk_StringS rest m) := by
  induction rest with
  | nil =>
    intro pre m h0 h1 hl
    refine Ev.succ ?_
    simp only [laws_markStringS.l0]
    exact Ev.neg (by simp) (Ev.is (by simp [mk_StringS]))
  | cons x rest ih =>
    intro pre m h0 h1 hl
    have hlt : ((pre.length : Nat) : Int) < ((pre ++ x :: rest).length : Int) := by simp; omega
    have hwp : ∀ v : ByteArray, wrap64 (((pre.length : Nat) : Int) + 1) = (((pre ++ [v]).length : Nat) : Int) := fun v => by rw [← len_snoc]; exact wrap_at (by simp at hl; omega)
    have hset : ∀ v u : ByteArray, (pre ++ u :: rest).set ((pre.length : Nat) : Int).toNat v = pre ++ v :: rest := fun v u => by rw [Int.toNat_natCast]; exact set_mid pre u v rest
    have hrd : ∀ u : ByteArray, rdOf ByteArray.empty (pre ++ u :: rest) ((pre.length : Nat) : Int) = u := fun u => by simp [rdOf, List.getD_eq_getElem?_getD]
    simp only [List.length_cons] at h1
    have w1 : wrap64 (m + 1) = m + 1 := (wrap_id (by omega) (by omega)).trans (by omega)
    have hi := ih (pre ++ [mt m]) (m + 1) (by omega) (by omega) (by simpa using hl)
    refine Ev.succ ?_
    simp only [laws_markStringS.l0, w1]
    refine Ev.pos hlt ?_
    refine Ev.bind (mt_ev (by omega)) ?_
    refine Ev.pos (show (0 : Int) ≤ ((pre.length : Nat) : Int) by omega) ?_
    simp only [hset, hrd]
    rw [hwp (mt m)]
    have e3 : pre ++ (mt m : ByteArray) :: rest = (pre ++ [mt m]) ++ rest := by simp
    have e4 : (m + 1 + 1 * (rest.length : Int), (pre ++ [mt m]) ++ mk_StringS rest (m + 1)) = (m + 1 * (((x :: rest).length : Nat) : Int), pre ++ mk_StringS (x :: rest) m) := by
      refine Prod.ext ?_ ?_
      · simp only [List.length_cons]; omega
      · simp [mk_StringS]
    rw [← e4, e3]
    exact hi
theorem mark_StringS (l : List ByteArray) (m : Int) (h0 : 0 ≤ m) (h1 : m + 1 * (l.length : Int) ≤ 4611686018427387904) (hl : l.length ≤ 9223372036854775807) : Ev (fun k => laws_markStringS.f k l m) (m + 1 * (l.length : Int), mk_StringS l m) := by
  unfold laws_markStringS.f
  have h := mark_StringS_loop l [] m h0 h1 (by simpa using hl)
  simpa using h
end Go.Proofs.Ytdcfmhhfbnffgaa.X
namespace Go.Proofs.Ytdcfmhhfbnffgaa.X
open Go.RowKit Go.Proofs.YtdcfmhhfbnffgaaW.PrintWords Go.Proofs.YtdcfmhhfbnffgaaW.PrintLast Go.Proofs.YtdcfmhhfbnffgaaW.PrintMore
attribute [local go_sem] xbin_geq xbin_leq xbin_gtr max2_int min2_int max_two min_two max_three min_three max_four min_four
set_option linter.unusedVariables false
set_option linter.unusedSimpArgs false
noncomputable def mk_PendingS : List S43 → Int → List S43
  | [], _ => []
  | _ :: xs, m => ⟨(m), mt (m + 1)⟩ :: mk_PendingS xs (m + 2)
theorem mark_PendingS_loop (rest : List S43) : ∀ (pre : List S43) (m : Int), 0 ≤ m → m + 2 * (rest.length : Int) ≤ 4611686018427387904 → (pre ++ rest).length ≤ 9223372036854775807 →
    Ev (fun k => laws_markPendingS.l0 k (pre ++ rest) m ((pre.length : Nat) : Int)) (m + 2 * (rest.length : Int), pre ++ mk_PendingS rest m) := by
  induction rest with
  | nil =>
    intro pre m h0 h1 hl
    refine Ev.succ ?_
    simp only [laws_markPendingS.l0]
    exact Ev.neg (by simp) (Ev.is (by simp [mk_PendingS]))
  | cons x rest ih =>
    intro pre m h0 h1 hl
    have hlt : ((pre.length : Nat) : Int) < ((pre ++ x :: rest).length : Int) := by simp; omega
    have hwp : ∀ v : S43, wrap64 (((pre.length : Nat) : Int) + 1) = (((pre ++ [v]).length : Nat) : Int) := fun v => by rw [← len_snoc]; exact wrap_at (by simp at hl; omega)
    have hset : ∀ v u : S43, (pre ++ u :: rest).set ((pre.length : Nat) : Int).toNat v = pre ++ v :: rest := fun v u => by rw [Int.toNat_natCast]; exact set_mid pre u v rest
    have hrd : ∀ u : S43, rd_T43 (pre ++ u :: rest) ((pre.length : Nat) : Int) = u := fun u => by simp [rd_T43, List.getD_eq_getElem?_getD]
    simp only [List.length_cons] at h1
    have w1 : wrap64 (m + 1) = m + 1 := (wrap_id (by omega) (by omega)).trans (by omega)
    have w2 : wrap64 ((m + 1) + 1) = m + 2 := (wrap_id (by omega) (by omega)).trans (by omega)
    have hi := ih (pre ++ [⟨(m), mt (m + 1)⟩]) (m + 2) (by omega) (by omega) (by simpa using hl)
    refine Ev.succ ?_
    simp only [laws_markPendingS.l0, w1, w2]
    refine Ev.pos hlt ?_
    refine Ev.pos (show (0 : Int) ≤ ((pre.length : Nat) : Int) by omega) ?_
    refine Ev.bindk rfl ?_
    refine Ev.bind (mt_ev (by omega)) ?_
    simp only [hset, hrd]
    rw [hwp (⟨(m), mt (m + 1)⟩)]
    have e3 : pre ++ (⟨(m), mt (m + 1)⟩ : S43) :: rest = (pre ++ [⟨(m), mt (m + 1)⟩]) ++ rest := by simp
    have e4 : (m + 2 + 2 * (rest.length : Int), (pre ++ [⟨(m), mt (m + 1)⟩]) ++ mk_PendingS rest (m + 2)) = (m + 2 * (((x :: rest).length : Nat) : Int), pre ++ mk_PendingS (x :: rest) m) := by
      refine Prod.ext ?_ ?_
      · simp only [List.length_cons]; omega
      · simp [mk_PendingS]
    rw [← e4, e3]
    exact hi
theorem mark_PendingS (l : List S43) (m : Int) (h0 : 0 ≤ m) (h1 : m + 2 * (l.length : Int) ≤ 4611686018427387904) (hl : l.length ≤ 9223372036854775807) : Ev (fun k => laws_markPendingS.f k l m) (m + 2 * (l.length : Int), mk_PendingS l m) := by
  unfold laws_markPendingS.f
  have h := mark_PendingS_loop l [] m h0 h1 (by simpa using hl)
  simpa using h
end Go.Proofs.Ytdcfmhhfbnffgaa.X
namespace Go.Proofs.Ytdcfmhhfbnffgaa.X
open Go.RowKit Go.Proofs.YtdcfmhhfbnffgaaW.PrintWords Go.Proofs.YtdcfmhhfbnffgaaW.PrintLast Go.Proofs.YtdcfmhhfbnffgaaW.PrintMore
attribute [local go_sem] xbin_geq xbin_leq xbin_gtr max2_int min2_int max_two min_two max_three min_three max_four min_four
set_option linter.unusedVariables false
set_option linter.unusedSimpArgs false
noncomputable def mk_IntS : List Int → Int → List Int
  | [], _ => []
  | _ :: xs, m => (m) :: mk_IntS xs (m + 1)
theorem mark_IntS_loop (rest : List Int) : ∀ (pre : List Int) (m : Int), 0 ≤ m → m + 1 * (rest.length : Int) ≤ 4611686018427387904 → (pre ++ rest).length ≤ 9223372036854775807 →
    Ev (fun k => laws_markIntS.l0 k (pre ++ rest) m ((pre.length : Nat) : Int)) (m + 1 * (rest.length : Int), pre ++ mk_IntS rest m) := by
  induction rest with
  | nil =>
    intro pre m h0 h1 hl
    refine Ev.succ ?_
    simp only [laws_markIntS.l0]
    exact Ev.neg (by simp) (Ev.is (by simp [mk_IntS]))
  | cons x rest ih =>
    intro pre m h0 h1 hl
    have hlt : ((pre.length : Nat) : Int) < ((pre ++ x :: rest).length : Int) := by simp; omega
    have hwp : ∀ v : Int, wrap64 (((pre.length : Nat) : Int) + 1) = (((pre ++ [v]).length : Nat) : Int) := fun v => by rw [← len_snoc]; exact wrap_at (by simp at hl; omega)
    have hset : ∀ v u : Int, (pre ++ u :: rest).set ((pre.length : Nat) : Int).toNat v = pre ++ v :: rest := fun v u => by rw [Int.toNat_natCast]; exact set_mid pre u v rest
    have hrd : ∀ u : Int, rd (pre ++ u :: rest) ((pre.length : Nat) : Int) = u := fun u => by simp [rd, List.getD_eq_getElem?_getD]
    simp only [List.length_cons] at h1
    have w1 : wrap64 (m + 1) = m + 1 := (wrap_id (by omega) (by omega)).trans (by omega)
    have hi := ih (pre ++ [(m)]) (m + 1) (by omega) (by omega) (by simpa using hl)
    refine Ev.succ ?_
    simp only [laws_markIntS.l0, w1]
    refine Ev.pos hlt ?_
    refine Ev.pos (show (0 : Int) ≤ ((pre.length : Nat) : Int) by omega) ?_
    simp only [hset, hrd]
    rw [hwp ((m))]
    have e3 : pre ++ ((m) : Int) :: rest = (pre ++ [(m)]) ++ rest := by simp
    have e4 : (m + 1 + 1 * (rest.length : Int), (pre ++ [(m)]) ++ mk_IntS rest (m + 1)) = (m + 1 * (((x :: rest).length : Nat) : Int), pre ++ mk_IntS (x :: rest) m) := by
      refine Prod.ext ?_ ?_
      · simp only [List.length_cons]; omega
      · simp [mk_IntS]
    rw [← e4, e3]
    exact hi
theorem mark_IntS (l : List Int) (m : Int) (h0 : 0 ≤ m) (h1 : m + 1 * (l.length : Int) ≤ 4611686018427387904) (hl : l.length ≤ 9223372036854775807) : Ev (fun k => laws_markIntS.f k l m) (m + 1 * (l.length : Int), mk_IntS l m) := by
  unfold laws_markIntS.f
  have h := mark_IntS_loop l [] m h0 h1 (by simpa using hl)
  simpa using h
end Go.Proofs.Ytdcfmhhfbnffgaa.X
namespace Go.Proofs.Ytdcfmhhfbnffgaa.X
open Go.RowKit Go.Proofs.YtdcfmhhfbnffgaaW.PrintWords Go.Proofs.YtdcfmhhfbnffgaaW.PrintLast Go.Proofs.YtdcfmhhfbnffgaaW.PrintMore
attribute [local go_sem] xbin_geq xbin_leq xbin_gtr max2_int min2_int max_two min_two max_three min_three max_four min_four
set_option linter.unusedVariables false
set_option linter.unusedSimpArgs false
theorem held_IntS_loop (rest : List Int) : ∀ (pre : List Int) (m : Int), 0 ≤ m → m + 1 * (rest.length : Int) ≤ 4611686018427387904 → (pre ++ rest).length ≤ 9223372036854775807 →
    Ev (fun k => laws_heldIntS.l0 k (pre ++ mk_IntS rest m) m ((pre.length : Nat) : Int)) (m + 1 * (rest.length : Int)) := by
  induction rest with
  | nil =>
    intro pre m h0 h1 hl
    refine Ev.succ ?_
    simp only [laws_heldIntS.l0]
    exact Ev.neg (by simp [mk_IntS]) (Ev.is (by simp))
  | cons x rest ih =>
    intro pre m h0 h1 hl
    simp only [mk_IntS, List.length_cons] at h1 ⊢
    have hlt : ((pre.length : Nat) : Int) < ((pre ++ ((m)) :: mk_IntS rest (m + 1)).length : Int) := by simp; omega
    have hwp : wrap64 (((pre.length : Nat) : Int) + 1) = (((pre ++ [((m))]).length : Nat) : Int) := by rw [← len_snoc]; exact wrap_at (by simp at hl; omega)
    have hrd : rd (pre ++ ((m)) :: mk_IntS rest (m + 1)) ((pre.length : Nat) : Int) = ((m)) := by simp [rd, List.getD_eq_getElem?_getD]
    have w1 : wrap64 (m + 1) = m + 1 := (wrap_id (by omega) (by omega)).trans (by omega)
    have hi := ih (pre ++ [((m))]) (m + 1) (by omega) (by omega) (by simpa using hl)
    have e3 : pre ++ ((m)) :: mk_IntS rest (m + 1) = (pre ++ [((m))]) ++ mk_IntS rest (m + 1) := by simp
    rw [← e3] at hi
    refine Ev.succ ?_
    simp only [laws_heldIntS.l0, hrd, hwp, w1]
    refine Ev.pos hlt (Ev.pos (by omega) ?_)
    repeat (first | refine Ev.bind (mt_ev (by omega)) ?_ | refine Ev.pos trivial ?_ | refine Ev.pos rfl ?_ | refine Ev.neg (by simp) ?_)
    exact Ev.same hi (by omega)
theorem held_IntS (l : List Int) (m : Int) (h0 : 0 ≤ m) (h1 : m + 1 * (l.length : Int) ≤ 4611686018427387904) (hl : l.length ≤ 9223372036854775807) : Ev (fun k => laws_heldIntS.f k (mk_IntS l m) m) (m + 1 * (l.length : Int)) := by
  unfold laws_heldIntS.f
  have h := held_IntS_loop l [] m h0 h1 (by simpa using hl)
  simpa using h
end Go.Proofs.Ytdcfmhhfbnffgaa.X
namespace Go.Proofs.Ytdcfmhhfbnffgaa.X
open Go.RowKit Go.Proofs.YtdcfmhhfbnffgaaW.PrintWords Go.Proofs.YtdcfmhhfbnffgaaW.PrintLast Go.Proofs.YtdcfmhhfbnffgaaW.PrintMore
attribute [local go_sem] xbin_geq xbin_leq xbin_gtr max2_int min2_int max_two min_two max_three min_three max_four min_four
set_option linter.unusedVariables false
set_option linter.unusedSimpArgs false
def inB (x a b : Int) : Bool := decide (a ≤ x) && decide (x ≤ b)
theorem spec_in (x a b : Int) : spec_l01In.f x a b = some (inB x a b) := by
  unfold spec_l01In.f inB
  by_cases h : a ≤ x <;> simp [h]
theorem inB_is {x a b : Int} : inB x a b = true ↔ a ≤ x ∧ x ≤ b := by simp [inB]
end Go.Proofs.Ytdcfmhhfbnffgaa.X
namespace Go.Proofs.Ytdcfmhhfbnffgaa.X
open Go.RowKit Go.Proofs.YtdcfmhhfbnffgaaW.PrintWords Go.Proofs.YtdcfmhhfbnffgaaW.PrintLast Go.Proofs.YtdcfmhhfbnffgaaW.PrintMore
attribute [local go_sem] xbin_geq xbin_leq xbin_gtr max2_int min2_int max_two min_two max_three min_three max_four min_four
set_option linter.unusedVariables false
set_option linter.unusedSimpArgs false
theorem rdQ_at (l : List S43) (pre rest : List S43) (x : S43) (h : l = pre ++ x :: rest) : rd_T43 l ((pre.length : Nat) : Int) = x := by
  rw [h]; unfold rd_T43; rw [Int.toNat_natCast]; exact getD_mid pre x rest _
theorem rdS_at (l : List ByteArray) (pre rest : List ByteArray) (x : ByteArray) (h : l = pre ++ x :: rest) : rdOf ByteArray.empty l ((pre.length : Nat) : Int) = x := by
  rw [h]; unfold rdOf; rw [Int.toNat_natCast]; exact getD_mid pre x rest _
theorem spec_diskOK_cache (n : Nat) (hn : 1 ≤ n ∧ n ≤ 80) (s : List ByteArray) (a : Bool) (q : List Int) (rest : List S43) : ∀ pre : List S43, (pre ++ rest).length ≤ 500 → Ev (fun k => spec_DiskOK.l1 k (n : Int) ((pre.length : Nat) : Int) s (pre ++ rest) a q) (rest.all (pendB n)) := by
  induction rest with
  | nil =>
    intro pre hl
    refine Ev.succ ?_
    simp only [spec_DiskOK.l1]
    exact Ev.neg (by simp) (Ev.is rfl)
  | cons x r ih =>
    intro pre hl
    have hx := rdQ_at (pre ++ x :: r) pre r x rfl
    have hlt : ((pre.length : Nat) : Int) < ((pre ++ x :: r).length : Int) := by simp; omega
    have hpl : pre.length < 1000000 := by simp at hl; omega
    have e1 : pre ++ x :: r = (pre ++ [x]) ++ r := by simp
    refine Ev.succ ?_
    simp only [spec_DiskOK.l1, hx, wrap_at (n := pre.length) (by omega), wrap_id (x := (n : Int) - 1) (by omega) (by omega)]
    refine Ev.pos hlt (Ev.pos (by omega) (Ev.bindk (spec_in _ _ _) ?_))
    rw [List.all_cons]
    cases hb : inB x.f0 0 ((n : Int) - 1) with
    | false =>
      have hp : pendB n x = false := by
        unfold pendB
        rw [decide_eq_false (fun h => by have := inB_is.2 h; rw [hb] at this; cases this)]
        rfl
      exact Ev.neg (by simp) (Ev.is (by rw [hp]; rfl))
    | true =>
      have hp : pendB n x = decide (x.f1.size ≤ 420) := by
        unfold pendB
        rw [decide_eq_true (inB_is.1 hb)]
        rfl
      refine Ev.pos rfl ?_
      by_cases h4 : (x.f1.size : Int) > 420
      · exact Ev.pos h4 (Ev.is (by rw [hp, decide_eq_false (by omega)]; rfl))
      · refine Ev.neg h4 ?_
        rw [hp, decide_eq_true (by omega), Bool.true_and, len_snoc pre x]
        have := ih (pre ++ [x]) (by rw [← e1]; exact hl)
        rw [← e1] at this
        exact this
theorem spec_diskOK_sectors (n : Nat) (hn : 1 ≤ n ∧ n ≤ 80) (c : List S43) (hc : c.length ≤ 500) (a : Bool) (q : List Int) (rest : List ByteArray) : ∀ pre : List ByteArray, (pre ++ rest).length = n → Ev (fun k => spec_DiskOK.l0 k (n : Int) ((pre.length : Nat) : Int) (pre ++ rest) c a q) ((rest.all fun t => decide (t.size ≤ 420)) && c.all (pendB n)) := by
  induction rest with
  | nil =>
    intro pre hl
    refine Ev.succ ?_
    simp only [spec_DiskOK.l0]
    simp only [List.append_nil] at hl
    refine Ev.neg (by omega) ?_
    have := spec_diskOK_cache n hn (pre ++ []) a q c [] (by simpa using hc)
    simpa using this
  | cons x r ih =>
    intro pre hl
    have hx := rdS_at (pre ++ x :: r) pre r x rfl
    have hlt : ((pre.length : Nat) : Int) < ((pre ++ x :: r).length : Int) := by simp; omega
    have hpl : pre.length < 1000000 := by simp at hl; omega
    have e1 : pre ++ x :: r = (pre ++ [x]) ++ r := by simp
    refine Ev.succ ?_
    simp only [spec_DiskOK.l0, hx, wrap_at (n := pre.length) (by omega)]
    refine Ev.pos (by rw [← hl]; exact hlt) (Ev.pos (by omega) (Ev.pos hlt ?_))
    rw [List.all_cons]
    by_cases h4 : (x.size : Int) > 420
    · exact Ev.pos h4 (Ev.is (by rw [decide_eq_false (by omega)]; rfl))
    · refine Ev.neg h4 ?_
      rw [decide_eq_true (by omega), Bool.true_and, len_snoc pre x]
      have := ih (pre ++ [x]) (by rw [← e1]; exact hl)
      rw [← e1] at this
      exact this
theorem spec_diskOK (s : List ByteArray) (c : List S43) (a : Bool) (q : List Int) : Ev (fun k => spec_DiskOK.f k s c a q) (diskB s c a q) := by
  have hf : ∀ n : Int, diskB s c a q = false → Ev (fun k => spec_DiskOK.j0 k n true s c a q) (diskB s c a q) := by
    intro n h
    refine Ev.succ ?_
    simp only [spec_DiskOK.j0]
    exact Ev.pos (by trivial) (Ev.is (by rw [h]))
  unfold spec_DiskOK.f
  refine Ev.bindk (spec_in _ _ _) ?_
  cases hb : inB (s.length : Int) 1 80 with
  | false =>
    refine Ev.neg (by simp) (hf _ ?_)
    unfold diskB
    rw [decide_eq_false (fun h => by have := inB_is.2 (show (1 : Int) ≤ (s.length : Int) ∧ (s.length : Int) ≤ 80 by omega); rw [hb] at this; cases this)]
    rfl
  | true =>
    have hn := inB_is.1 hb
    have hn2 : 1 ≤ s.length ∧ s.length ≤ 80 := by omega
    refine Ev.pos rfl ?_
    by_cases h2 : (c.length : Int) > 500
    · refine Ev.pos h2 (hf _ ?_)
      unfold diskB
      rw [decide_eq_false (show ¬ c.length ≤ 500 by omega)]
      simp
    · refine Ev.neg h2 ?_
      by_cases h3 : (q.length : Int) > 500
      · refine Ev.pos h3 (hf _ ?_)
        unfold diskB
        rw [decide_eq_false (show ¬ q.length ≤ 500 by omega)]
        simp
      · refine Ev.neg h3 ?_
        have hgo : (a || decide (q.length = 0)) = true → Ev (fun k => spec_DiskOK.j0 k (s.length : Int) false s c a q) (diskB s c a q) := by
          intro h
          refine Ev.succ ?_
          simp only [spec_DiskOK.j0]
          refine Ev.neg (by simp) ?_
          have := spec_diskOK_sectors s.length hn2 c (by omega) a q s [] rfl
          refine Ev.same (by simpa using this) ?_
          unfold diskB
          rw [decide_eq_true hn2, decide_eq_true (show c.length ≤ 500 by omega), decide_eq_true (show q.length ≤ 500 by omega), h]
          simp
        cases ha : a with
        | true =>
          rw [ha] at hgo
          exact Ev.pos rfl (hgo rfl)
        | false =>
          rw [ha] at hgo
          refine Ev.neg (by simp) ?_
          by_cases h4 : (q.length : Int) > 0
          · rw [decide_eq_true h4]
            rw [ha] at hf
            refine hf _ ?_
            unfold diskB
            rw [Bool.false_or, decide_eq_false (show ¬ q.length = 0 by omega)]
            simp
          · rw [decide_eq_false h4]
            exact hgo (by rw [Bool.false_or, decide_eq_true (show q.length = 0 by omega)])
end Go.Proofs.Ytdcfmhhfbnffgaa.X
