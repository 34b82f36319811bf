import Derived.Test.YtcpcifgpcemaeaaKFnExactNodeOK0
import Derived.Test.YtcpcifgpcemaeaaKFnExactNodeOK3
import Derived.Test.YtcpcifgpcemaeaaKFnExactNodeOK4
import Derived.Test.YtcpcifgpcemaeaaKFnExactNodeOK6
import Derived.Test.YtcpcifgpcemaeaaKFnExactNodeOK7
import Derived.Test.YtcpcifgpcemaeaaKFnExactNodeOK8
import Derived.Test.YtcpcifgpcemaeaaKFnExactNodeOK13
import Derived.Test.YtcpcifgpcemaeaaKFnExactNodeOK14
import Derived.Test.YtcpcifgpcemaeaaKFnExactNodeOK17
import Derived.Lib.Bytealg
import Derived.Laws.Externs
import Derived.Laws.Strings
import Derived.Sort.Walk0
namespace Go.Proofs.Ytcpcifgpcemaeaa.X
open Go.RowKit Go.Proofs.YtcpcifgpcemaeaaW.PrintWords Go.Proofs.YtcpcifgpcemaeaaW.PrintLast Go.Proofs.YtcpcifgpcemaeaaW.PrintMore
attribute [local go_sem] xbin_geq xbin_leq xbin_gtr max2_int min2_int max_two min_two max_three min_three max_four min_four   -- for this text's walks alone
set_option linter.unusedVariables false
set_option linter.unusedSimpArgs false

theorem eq_PairS_loop (rest : List S150) : ∀ (pre : List S150), (pre ++ rest).length ≤ 9223372036854775807 → (∀ y ∈ rest, len150 y) → Ev (fun k => laws_eqPairS.l0 k (pre ++ rest) (pre ++ rest) ((pre.length : Nat) : Int)) true := by
  induction rest with
  | nil =>
    intro pre hl hs
    refine Ev.succ ?_
    simp only [laws_eqPairS.l0]
    exact Ev.neg (by simp) (Ev.is rfl)
  | cons x rest ih =>
    intro pre hl hs
    have hx : rd_T150 (pre ++ x :: rest) ((pre.length : Nat) : Int) = x := by simp [rd_T150, List.getD_eq_getElem?_getD]
    have hlt : ((pre.length : Nat) : Int) < ((pre ++ x :: rest).length : Int) := by simp; omega
    have hwp : wrap64 (((pre.length : Nat) : Int) + 1) = (((pre ++ [x]).length : Nat) : Int) := by rw [← len_snoc]; exact wrap_at (by simp at hl; omega)
    have e1 : pre ++ x :: rest = (pre ++ [x]) ++ rest := by simp
    have hi := ih (pre ++ [x]) (by rw [← e1]; exact hl) (fun y hy => hs y (List.mem_cons_of_mem _ hy))
    rw [← e1] at hi
    refine Ev.succ ?_
    simp only [laws_eqPairS.l0, hx, hwp]
    exact Ev.pos hlt (Ev.pos (by omega) (Ev.pos hlt (Ev.bind (eq_Pair x (hs x List.mem_cons_self)) (Ev.pos rfl hi))))
theorem eq_PairS (l : List S150) (h : l.length ≤ 9223372036854775807 ∧ ∀ y ∈ l, len150 y) : Ev (fun k => laws_eqPairS.f k l l) true := by
  unfold laws_eqPairS.f
  have hh := eq_PairS_loop l [] (by simpa using h.1) h.2
  exact Ev.pos rfl (by simpa using hh)

end Go.Proofs.Ytcpcifgpcemaeaa.X

namespace Go.Proofs.Ytcpcifgpcemaeaa.X
open Go.RowKit Go.Proofs.YtcpcifgpcemaeaaW.PrintWords Go.Proofs.YtcpcifgpcemaeaaW.PrintLast Go.Proofs.YtcpcifgpcemaeaaW.PrintMore
attribute [local go_sem] xbin_geq xbin_leq xbin_gtr max2_int min2_int max_two min_two max_three min_three max_four min_four   -- for this text's walks alone
set_option linter.unusedVariables false
set_option linter.unusedSimpArgs false

theorem eq_StringS_loop (rest : List ByteArray) : ∀ (pre : List ByteArray), (pre ++ rest).length ≤ 9223372036854775807 → (True) → Ev (fun k => laws_eqStringS.l0 k (pre ++ rest) (pre ++ rest) ((pre.length : Nat) : Int)) true := by
  induction rest with
  | nil =>
    intro pre hl hs
    refine Ev.succ ?_
    simp only [laws_eqStringS.l0]
    exact Ev.neg (by simp) (Ev.is rfl)
  | cons x rest ih =>
    intro pre hl hs
    have hx : rdOf ByteArray.empty (pre ++ x :: rest) ((pre.length : Nat) : Int) = x := by simp [rdOf, List.getD_eq_getElem?_getD]
    have hlt : ((pre.length : Nat) : Int) < ((pre ++ x :: rest).length : Int) := by simp; omega
    have hwp : wrap64 (((pre.length : Nat) : Int) + 1) = (((pre ++ [x]).length : Nat) : Int) := by rw [← len_snoc]; exact wrap_at (by simp at hl; omega)
    have e1 : pre ++ x :: rest = (pre ++ [x]) ++ rest := by simp
    have hi := ih (pre ++ [x]) (by rw [← e1]; exact hl) trivial
    rw [← e1] at hi
    refine Ev.succ ?_
    simp only [laws_eqStringS.l0, hx, hwp]
    exact Ev.pos hlt (Ev.pos (by omega) (Ev.pos hlt (Ev.pos (by first | trivial | rfl) hi)))
theorem eq_StringS (l : List ByteArray) (h : l.length ≤ 9223372036854775807) : Ev (fun k => laws_eqStringS.f k l l) true := by
  unfold laws_eqStringS.f
  have hh := eq_StringS_loop l [] (by simpa using h) trivial
  exact Ev.pos rfl (by simpa using hh)

end Go.Proofs.Ytcpcifgpcemaeaa.X

namespace Go.Proofs.Ytcpcifgpcemaeaa.X
open Go.RowKit Go.Proofs.YtcpcifgpcemaeaaW.PrintWords Go.Proofs.YtcpcifgpcemaeaaW.PrintLast Go.Proofs.YtcpcifgpcemaeaaW.PrintMore
attribute [local go_sem] xbin_geq xbin_leq xbin_gtr max2_int min2_int max_two min_two max_three min_three max_four min_four   -- for this text's walks alone
set_option linter.unusedVariables false
set_option linter.unusedSimpArgs false

def len72 (x : S72) : Prop := True ∧ (x.f1.length ≤ 9223372036854775807 ∧ ∀ y ∈ x.f1, len150 y) ∧ (x.f2.length ≤ 9223372036854775807) ∧ (x.f3.length ≤ 9223372036854775807)
theorem eq_Node (x : S72) (h : len72 x) : Ev (fun k => laws_eqNode.f k (x.f0) (x.f1) (x.f2) (x.f3) (x.f0) (x.f1) (x.f2) (x.f3)) true := by
  unfold laws_eqNode.f
  exact Ev.neg (by simp) (Ev.bind (eq_PairS _ h.2.1) (Ev.pos rfl (Ev.bind (eq_StringS _ h.2.2.1) (Ev.pos rfl (Ev.bind (eq_IntS _ h.2.2.2) (Ev.pos rfl (Ev.is rfl)))))))

end Go.Proofs.Ytcpcifgpcemaeaa.X

namespace Go.Proofs.Ytcpcifgpcemaeaa.X
open Go.RowKit Go.Proofs.YtcpcifgpcemaeaaW.PrintWords Go.Proofs.YtcpcifgpcemaeaaW.PrintLast Go.Proofs.YtcpcifgpcemaeaaW.PrintMore
attribute [local go_sem] xbin_geq xbin_leq xbin_gtr max2_int min2_int max_two min_two max_three min_three max_four min_four   -- for this text's walks alone
set_option linter.unusedVariables false
set_option linter.unusedSimpArgs false

/-- From i on, d of them: all. -/
def allFrom (f : Nat → Bool) : Nat → Nat → Bool
  | _, 0 => true
  | i, d + 1 => f i && allFrom f (i + 1) d
def allB (f : Nat → Bool) (n : Nat) : Bool := allFrom f 0 n
theorem allFrom_iff (f : Nat → Bool) (d : Nat) : ∀ i, allFrom f i d = true ↔ ∀ j, i ≤ j → j < i + d → f j = true := by
  induction d with
  | zero => intro i; simp only [allFrom, true_iff]; intro j h1 h2; omega
  | succ d ih =>
    intro i
    simp only [allFrom, Bool.and_eq_true, ih]
    refine ⟨fun h j h1 h2 => ?_, fun h => ⟨h i (by omega) (by omega), fun j h1 h2 => h j (by omega) (by omega)⟩⟩
    rcases Nat.lt_or_ge i j with h3 | h3
    · exact h.2 j h3 (by omega)
    · rw [show j = i by omega]; exact h.1
theorem allB_iff {f : Nat → Bool} {n : Nat} : allB f n = true ↔ ∀ j, j < n → f j = true := by
  unfold allB
  rw [allFrom_iff]
  exact ⟨fun h j hj => h j (by omega) (by omega), fun h j _ hj => h j (by omega)⟩
theorem allB_congr {f g : Nat → Bool} {n : Nat} (h : ∀ j, j < n → f j = g j) : allB f n = allB g n := by
  rw [Bool.eq_iff_iff, allB_iff, allB_iff]
  exact ⟨fun k j hj => (h j hj) ▸ k j hj, fun k j hj => (h j hj).symm ▸ k j hj⟩
/-- A loop that leaves with false where f is false, and goes on where it is true. -/
theorem Ev.allFrom {g : Nat → Int → Option Bool} (f : Nat → Bool) (fin : Bool) (n : Nat) (hend : Ev (fun k => g k (n : Int)) fin) (hstep : ∀ i : Nat, i < n → ∀ r, Ev (fun k => g k ((i + 1 : Nat) : Int)) r → Ev (fun k => g k (i : Int)) (f i && r)) (d : Nat) : ∀ i : Nat, i + d = n → Ev (fun k => g k (i : Int)) (allFrom f i d && fin) := by
  induction d with
  | zero => intro i hi; rw [show i = n by omega]; simpa [X.allFrom] using hend
  | succ d ih =>
    intro i hi
    have := hstep i (by omega) _ (ih (i + 1) (by omega))
    simpa [X.allFrom, Bool.and_assoc] using this
theorem Ev.all {g : Nat → Int → Option Bool} (f : Nat → Bool) (fin : Bool) (n : Nat) (hend : Ev (fun k => g k (n : Int)) fin) (hstep : ∀ i : Nat, i < n → ∀ r, Ev (fun k => g k ((i + 1 : Nat) : Int)) r → Ev (fun k => g k (i : Int)) (f i && r)) : Ev (fun k => g k 0) (allB f n && fin) := Ev.allFrom f fin n hend hstep n 0 (by omega)
/-- A loop over what holds from each place on. -/
theorem down {P : Nat → Prop} (n : Nat) (h0 : P n) (hs : ∀ i, i < n → P (i + 1) → P i) : P 0 := by
  have : ∀ d i, i + d = n → P i := by
    intro d
    induction d with
    | zero => intro i hi; rw [show i = n by omega]; exact h0
    | succ d ih => intro i hi; exact hs i (by omega) (ih (i + 1) (by omega))
  exact this n 0 (by omega)
theorem wrap_less {n : Nat} (h : n < 9223372036854775807) (h0 : 0 < n) : wrap64 ((n : Int) - 1) = ((n - 1 : Nat) : Int) := by unfold wrap64; omega
theorem wrap_pred {n : Nat} (h : n < 9223372036854775807) : wrap64 (((n + 1 : Nat) : Int) - 1) = ((n : Nat) : Int) := by unfold wrap64; omega
/-- A Bool that is asked. -/
theorem Ev.ask {α : Type} {b : Bool} {g f : Nat → Option α} {x y : α} (h1 : b = true → Ev g x) (h2 : b = false → Ev f y) : Ev (fun k => if b = true then g k else f k) (if b = true then x else y) := by
  cases b with
  | true => exact Ev.pos rfl (Ev.same (h1 rfl) (by simp))
  | false => exact Ev.neg (by simp) (Ev.same (h2 rfl) (by simp))
theorem Ev.dec {α : Type} {c : Prop} [Decidable c] {g f : Nat → Option α} {x y : α} (h1 : c → Ev g x) (h2 : ¬ c → Ev f y) : Ev (fun k => if c then g k else f k) (if c then x else y) := by
  by_cases h : c
  · exact Ev.pos h (Ev.same (h1 h) (by simp [h]))
  · exact Ev.neg h (Ev.same (h2 h) (by simp [h]))

end Go.Proofs.Ytcpcifgpcemaeaa.X

namespace Go.Proofs.Ytcpcifgpcemaeaa.X
open Go.RowKit Go.Proofs.YtcpcifgpcemaeaaW.PrintWords Go.Proofs.YtcpcifgpcemaeaaW.PrintLast Go.Proofs.YtcpcifgpcemaeaaW.PrintMore
attribute [local go_sem] xbin_geq xbin_leq xbin_gtr max2_int min2_int max_two min_two max_three min_three max_four min_four   -- for this text's walks alone
set_option linter.unusedVariables false
set_option linter.unusedSimpArgs false

def inB (x a b : Int) : Bool := decide (a ≤ x) && decide (x ≤ b)
theorem spec_in (x a b : Int) : spec_l01In.f x a b = some (inB x a b) := by
  unfold spec_l01In.f inB
  by_cases h : a ≤ x <;> simp [h]
theorem impl_in (x a b : Int) : impl_within.f x a b = some (inB x a b) := by
  unfold impl_within.f inB
  by_cases h : a ≤ x
  · rw [if_pos (by omega)]; simp [h]
  · rw [if_neg (by omega)]; simp [h]

end Go.Proofs.Ytcpcifgpcemaeaa.X

namespace Go.Proofs.Ytcpcifgpcemaeaa.X
open Go.RowKit Go.Proofs.YtcpcifgpcemaeaaW.PrintWords Go.Proofs.YtcpcifgpcemaeaaW.PrintLast Go.Proofs.YtcpcifgpcemaeaaW.PrintMore
attribute [local go_sem] xbin_geq xbin_leq xbin_gtr max2_int min2_int max_two min_two max_three min_three max_four min_four   -- for this text's walks alone
set_option linter.unusedVariables false
set_option linter.unusedSimpArgs false

def keyB (s : ByteArray) : Bool := decide (1 ≤ s.size) && decide (s.size ≤ 30)
theorem spec_key (s : ByteArray) : spec_l01In.f (s.size : Int) 1 30 = some (keyB s) := by
  unfold spec_l01In.f keyB
  by_cases h : 1 ≤ s.size
  · rw [if_pos (by omega), decide_eq_true h]
    have e : ((s.size : Int) ≤ 30) = (s.size ≤ 30) := propext (by omega)
    simp [e]
  · rw [if_neg (by omega), decide_eq_false h]
    rfl
theorem impl_key (s : ByteArray) : impl_keyOK.f s = some (keyB s) := by
  unfold impl_keyOK.f impl_within.f keyB
  by_cases h : 1 ≤ s.size
  · rw [if_pos (by omega), decide_eq_true h]
    have e : ((s.size : Int) ≤ 30) = (s.size ≤ 30) := propext (by omega)
    simp [e]
  · rw [if_neg (by omega), decide_eq_false h]
    rfl

end Go.Proofs.Ytcpcifgpcemaeaa.X

namespace Go.Proofs.Ytcpcifgpcemaeaa.X
open Go.RowKit Go.Proofs.YtcpcifgpcemaeaaW.PrintWords Go.Proofs.YtcpcifgpcemaeaaW.PrintLast Go.Proofs.YtcpcifgpcemaeaaW.PrintMore
attribute [local go_sem] xbin_geq xbin_leq xbin_gtr max2_int min2_int max_two min_two max_three min_three max_four min_four   -- for this text's walks alone
set_option linter.unusedVariables false
set_option linter.unusedSimpArgs false

theorem bless_trans {a b c : List UInt8} (h : Op.bytesLess a b = true) (k : Op.bytesLess b c = true) : Op.bytesLess a c = true := by
  rw [bytesLess_eq] at *
  simp only [decide_eq_true_eq] at *
  exact List.lt_trans h k
theorem bless_irrefl (a : List UInt8) : Op.bytesLess a a = false := by
  rw [bytesLess_eq]
  simp only [decide_eq_false_iff_not]
  exact List.lt_irrefl a
theorem bless_asymm {a b : List UInt8} (h : Op.bytesLess a b = true) : Op.bytesLess b a = false := by
  cases k : Op.bytesLess b a with
  | false => rfl
  | true => have := bless_trans h k; rw [bless_irrefl] at this; cases this
theorem bless_eq_of {a b : List UInt8} (h : Op.bytesLess a b = false) (k : Op.bytesLess b a = false) : a = b := by
  have := xbytes_tri a b
  rw [h, k] at this
  simpa using this

end Go.Proofs.Ytcpcifgpcemaeaa.X

namespace Go.Proofs.Ytcpcifgpcemaeaa.X
open Go.RowKit Go.Proofs.YtcpcifgpcemaeaaW.PrintWords Go.Proofs.YtcpcifgpcemaeaaW.PrintLast Go.Proofs.YtcpcifgpcemaeaaW.PrintMore
attribute [local go_sem] xbin_geq xbin_leq xbin_gtr max2_int min2_int max_two min_two max_three min_three max_four min_four   -- for this text's walks alone
set_option linter.unusedVariables false
set_option linter.unusedSimpArgs false

/-- The keys rise. -/
def Rises (l : List S150) : Prop := l.Pairwise fun a b => Op.bytesLess a.f0.toList b.f0.toList = true
instance risesDec (l : List S150) : Decidable (Rises l) := by unfold Rises; infer_instance
theorem rises_lt {l : List S150} (h : Rises l) {i j : Nat} (hj : j < l.length) (hij : i < j) : Op.bytesLess (l[i]'(by omega)).f0.toList l[j].f0.toList = true := (List.pairwise_iff_getElem.1 h) i j (by omega) hj hij
def okP (p : S150) : Bool := keyB p.f0 && decide (p.f1.size ≤ 90)
/-- Pairs that are right, and rise, behind one. -/
def chainB : Option S150 → List S150 → Bool
  | _, [] => true
  | none, p :: r => okP p && chainB (some p) r
  | some q, p :: r => okP p && (Op.bytesLess q.f0.toList p.f0.toList && chainB (some p) r)
def pairsB (l : List S150) : Bool := decide (l.length ≤ 60) && chainB none l
theorem chainB_rises (l : List S150) : ∀ q, chainB (some q) l = true → (∀ p ∈ l, okP p = true) ∧ (q :: l).Pairwise fun a b => Op.bytesLess a.f0.toList b.f0.toList = true := by
  induction l with
  | nil => intro q _; exact ⟨fun p hp => (by cases hp), List.pairwise_singleton _ _⟩
  | cons p r ih =>
    intro q h
    simp only [chainB, Bool.and_eq_true] at h
    obtain ⟨h1, h2, h3⟩ := h
    obtain ⟨i1, i2⟩ := ih p h3
    refine ⟨fun x hx => ?_, List.pairwise_cons.2 ⟨fun x hx => ?_, i2⟩⟩
    · rcases List.mem_cons.1 hx with rfl | hx
      · exact h1
      · exact i1 x hx
    · rcases List.mem_cons.1 hx with rfl | hx
      · exact h2
      · exact bless_trans h2 ((List.pairwise_cons.1 i2).1 x hx)
theorem chainB_none {l : List S150} (h : chainB none l = true) : (∀ p ∈ l, okP p = true) ∧ Rises l := by
  cases l with
  | nil => exact ⟨fun p hp => (by cases hp), List.Pairwise.nil⟩
  | cons p r =>
    simp only [chainB, Bool.and_eq_true] at h
    obtain ⟨i1, i2⟩ := chainB_rises r p h.2
    refine ⟨fun x hx => ?_, i2⟩
    rcases List.mem_cons.1 hx with rfl | hx
    · exact h.1
    · exact i1 x hx
theorem chainB_of (l : List S150) : ∀ q, (∀ p ∈ l, okP p = true) → ((q :: l).Pairwise fun a b => Op.bytesLess a.f0.toList b.f0.toList = true) → chainB (some q) l = true := by
  induction l with
  | nil => intro q _ _; rfl
  | cons p r ih =>
    intro q h1 h2
    simp only [chainB, Bool.and_eq_true]
    exact ⟨h1 p List.mem_cons_self, (List.pairwise_cons.1 h2).1 p List.mem_cons_self, ih p (fun x hx => h1 x (List.mem_cons_of_mem _ hx)) (List.pairwise_cons.1 h2).2⟩
theorem chainB_none_of {l : List S150} (h1 : ∀ p ∈ l, okP p = true) (h2 : Rises l) : chainB none l = true := by
  cases l with
  | nil => rfl
  | cons p r =>
    simp only [chainB, Bool.and_eq_true]
    exact ⟨h1 p List.mem_cons_self, chainB_of r p (fun x hx => h1 x (List.mem_cons_of_mem _ hx)) h2⟩
theorem pairsB_is {l : List S150} : pairsB l = true ↔ l.length ≤ 60 ∧ (∀ p ∈ l, okP p = true) ∧ Rises l := by
  unfold pairsB
  rw [Bool.and_eq_true, decide_eq_true_eq]
  exact ⟨fun h => ⟨h.1, chainB_none h.2⟩, fun h => ⟨h.1, chainB_none_of h.2.1 h.2.2⟩⟩
theorem rd_at (l : List S150) (pre rest : List S150) (x : S150) (h : l = pre ++ x :: rest) : rd_T150 l ((pre.length : Nat) : Int) = x := by
  subst h
  simp [rd_T150, List.getD_eq_getElem?_getD]
theorem spec_pair (p : S150) : spec_l01Pair.f p.f0 p.f1 = some (okP p) := by
  unfold spec_l01Pair.f okP
  have e : ((p.f1.size : Int) ≤ 90) = (p.f1.size ≤ 90) := propext (by omega)
  rw [spec_key, Option.bind_some]
  cases keyB p.f0 <;> simp [e]
theorem impl_pair (p : S150) : impl_pairOK.f p.f0 p.f1 = some (okP p) := by
  unfold impl_pairOK.f okP
  have e : ((p.f1.size : Int) ≤ 90) = (p.f1.size ≤ 90) := propext (by omega)
  rw [impl_key, Option.bind_some]
  cases keyB p.f0 <;> simp [e]
theorem spec_rise_more (l : List S150) (hl : l.length ≤ 60) (rest : List S150) : ∀ (pre : List S150) (q : S150), l = (pre ++ [q]) ++ rest →
    Ev (fun k => spec_PairsOK.l0 k l (((pre ++ [q]).length : Nat) : Int)) (chainB (some q) rest) := by
  induction rest with
  | nil =>
    intro pre q h
    refine Ev.succ ?_
    simp only [spec_PairsOK.l0]
    exact Ev.neg (by rw [h]; simp) (Ev.is rfl)
  | cons p r ih =>
    intro pre q h
    have hx := rd_at l (pre ++ [q]) r p h
    have hq := rd_at l pre (p :: r) q (by rw [h]; simp)
    have hlen : (pre ++ [q]).length < l.length := by rw [h]; simp
    have hw := wrap_at (n := (pre ++ [q]).length) (by omega)
    have hp : wrap64 ((((pre ++ [q]).length : Nat) : Int) - 1) = ((pre.length : Nat) : Int) := by rw [← len_snoc]; exact wrap_pred (by simp at hlen <;> omega)
    have hi := ih (pre ++ [q]) p (by rw [h]; simp)
    rw [← len_snoc] at hi
    refine Ev.succ ?_
    simp only [spec_PairsOK.l0, hx, hp, hq, hw]
    refine Ev.pos (by omega) (Ev.pos (by omega) (Ev.bindk (spec_pair p) ?_))
    cases ho : okP p with
    | false => exact Ev.neg (by simp) (Ev.is (by simp [chainB, ho]))
    | true =>
      refine Ev.pos rfl (Ev.pos (by simp <;> omega) (Ev.pos (by omega) (Ev.pos (by simp at hlen <;> omega) ?_)))
      cases hb : Op.bytesLess q.f0.toList p.f0.toList with
      | false => exact Ev.neg (by simp) (Ev.is (by simp [chainB, ho, hb]))
      | true => exact Ev.pos rfl (Ev.same hi (by simp [chainB, ho, hb]))
theorem spec_rise (l : List S150) (hl : l.length ≤ 60) : Ev (fun k => spec_PairsOK.l0 k l 0) (chainB none l) := by
  cases l with
  | nil =>
    refine Ev.succ ?_
    simp only [spec_PairsOK.l0]
    exact Ev.neg (by simp) (Ev.is rfl)
  | cons p r =>
    have hx := rd_at (p :: r) [] r p rfl
    simp only [List.length_nil, Int.natCast_zero] at hx
    have hi := spec_rise_more (p :: r) hl r [] p rfl
    refine Ev.succ ?_
    simp only [spec_PairsOK.l0, hx]
    refine Ev.pos (by simp <;> omega) (Ev.pos (by omega) (Ev.bindk (spec_pair p) ?_))
    cases ho : okP p with
    | false => exact Ev.neg (by simp) (Ev.is (by simp [chainB, ho]))
    | true => 
      have e0 : ((([] ++ [p] : List S150).length : Nat) : Int) = wrap64 (0 + 1) := by unfold wrap64; simp
      rw [e0] at hi
      exact Ev.pos rfl (Ev.neg (by omega) (Ev.same hi (by simp [chainB, ho])))
theorem spec_pairsOK (l : List S150) : Ev (fun k => spec_PairsOK.f k l) (pairsB l) := by
  unfold spec_PairsOK.f pairsB
  by_cases h1 : (l.length : Int) > 4096
  · exact Ev.pos h1 (Ev.is (by simp [show ¬ l.length ≤ 60 by omega]))
  · by_cases h2 : (l.length : Int) > 60
    · exact Ev.neg h1 (Ev.pos h2 (Ev.is (by simp [show ¬ l.length ≤ 60 by omega])))
    · exact Ev.neg h1 (Ev.neg h2 (Ev.same (spec_rise l (by omega)) (by simp [show l.length ≤ 60 by omega])))
theorem impl_rise_more (l : List S150) (hl : l.length < 9223372036854775807) (rest : List S150) : ∀ (pre : List S150) (q : S150), l = (pre ++ [q]) ++ rest →
    Ev (fun k => impl_risingPairs.l0 k l l (l.length : Int) (((pre ++ [q]).length : Nat) : Int)) (chainB (some q) rest) := by
  induction rest with
  | nil =>
    intro pre q h
    refine Ev.succ ?_
    simp only [impl_risingPairs.l0]
    exact Ev.neg (by rw [h]; simp) (Ev.is rfl)
  | cons p r ih =>
    intro pre q h
    have hx := rd_at l (pre ++ [q]) r p h
    have hq := rd_at l pre (p :: r) q (by rw [h]; simp)
    have hlen : (pre ++ [q]).length < l.length := by rw [h]; simp
    have hw := wrap_at (n := (pre ++ [q]).length) (by omega)
    have hp : wrap64 ((((pre ++ [q]).length : Nat) : Int) - 1) = ((pre.length : Nat) : Int) := by rw [← len_snoc]; exact wrap_pred (by simp at hlen <;> omega)
    have hi := ih (pre ++ [q]) p (by rw [h]; simp)
    rw [← len_snoc] at hi
    refine Ev.succ ?_
    simp only [impl_risingPairs.l0, hx, hp, hq, hw]
    refine Ev.pos (by omega) (Ev.pos (by omega) (Ev.pos (by omega) (Ev.bindk (impl_pair p) ?_)))
    cases ho : okP p with
    | false => exact Ev.neg (by simp) (Ev.is (by simp [chainB, ho]))
    | true =>
      refine Ev.pos rfl (Ev.pos (by simp <;> omega) (Ev.pos (by omega) (Ev.pos (by simp at hlen <;> omega) ?_)))
      cases hb : Op.bytesLess q.f0.toList p.f0.toList with
      | false => exact Ev.neg (by simp) (Ev.is (by simp [chainB, ho, hb]))
      | true => exact Ev.pos rfl (Ev.same hi (by simp [chainB, ho, hb]))
theorem impl_rising (l : List S150) (hl : l.length < 9223372036854775807) : Ev (fun k => impl_risingPairs.f k l) (chainB none l) := by
  unfold impl_risingPairs.f
  cases l with
  | nil =>
    refine Ev.succ ?_
    simp only [impl_risingPairs.l0]
    exact Ev.neg (by simp) (Ev.is rfl)
  | cons p r =>
    have hx := rd_at (p :: r) [] r p rfl
    simp only [List.length_nil, Int.natCast_zero] at hx
    have hi := impl_rise_more (p :: r) hl r [] p rfl
    refine Ev.succ ?_
    simp only [impl_risingPairs.l0, hx]
    refine Ev.pos (by simp <;> omega) (Ev.pos (by omega) (Ev.pos (by simp <;> omega) (Ev.bindk (impl_pair p) ?_)))
    cases ho : okP p with
    | false => exact Ev.neg (by simp) (Ev.is (by simp [chainB, ho]))
    | true => 
      have e0 : ((([] ++ [p] : List S150).length : Nat) : Int) = wrap64 (0 + 1) := by unfold wrap64; simp
      rw [e0] at hi
      exact Ev.pos rfl (Ev.neg (by omega) (Ev.same hi (by simp [chainB, ho])))


end Go.Proofs.Ytcpcifgpcemaeaa.X
