import Derived.Test.YtenfomejccfkgaaKFnExactCountRefs4
import Derived.Test.YtenfomejccfkgaaKFnExactCountRefs6
import Derived.Test.YtenfomejccfkgaaKFnExactCountRefs7
import Derived.Test.YtenfomejccfkgaaKFnExactCountRefs8
import Derived.Test.YtenfomejccfkgaaKFnExactCountRefs9
import Derived.Test.YtenfomejccfkgaaKFnExactCountRefs10
import Derived.Test.YtenfomejccfkgaaKFnExactCountRefs11
namespace Go.Proofs.Ytenfomejccfkgaa.X
open Go.RowKit Go.Proofs.YtenfomejccfkgaaW.PrintWords Go.Proofs.YtenfomejccfkgaaW.PrintLast Go.Proofs.YtenfomejccfkgaaW.PrintMore
attribute [local go_sem] qaC qaD qaE qay qaz qaO qaP qas qat qaA qaB
set_option linter.unusedVariables false
set_option linter.unusedSimpArgs false
def freeB (leaf : Bool) (ps : List S99) (ks : List ByteArray) (cs : List Int) : Bool := !leaf && (decide (ps.length = 0) && (decide (ks.length = 0) && decide (cs.length = 0)))
def kidAt (ks : List ByteArray) (cs : List Int) (i : Nat) : Bool := inB (rd cs i) 0 49 && (keyB (rdOf ByteArray.empty ks i) && (decide (i = 0) || Op.bytesLess (rdOf ByteArray.empty ks ((i - 1 : Nat) : Int)).toList (rdOf ByteArray.empty ks i).toList))
def nodeB (leaf : Bool) (ps : List S99) (ks : List ByteArray) (cs : List Int) : Bool :=
 freeB leaf ps ks cs || (if leaf = true then (inB ps.length 1 3 && (qcF ps && (decide (ks.length = 0) && decide (cs.length = 0)))) else (decide (ps.length = 0) && (inB cs.length 1 4 && (decide (ks.length = cs.length) && allB (kidAt ks cs) cs.length))))
theorem key_in (s : ByteArray) : inB (s.size : Int) 1 30 = keyB s := by
 unfold inB keyB
 rw [Bool.eq_iff_iff]
 simp only [Bool.and_eq_true, decide_eq_true_eq]
 omega
theorem qcV (n : Nat) : ((n : Int) == 0) = decide (n = 0) := by
 by_cases h : n = 0
 ·simp [h]
 ·simp [h]
theorem qfM (leaf : Bool) (ps : List S99) (ks : List ByteArray) (cs : List Int) : qbz.f leaf ps ks cs = some (freeB leaf ps ks cs) := by
 unfold qbz.f freeB
 rw [qcV]
 cases leaf with
 | true => simp
 | false =>
  by_cases h1 : ps.length = 0
  ·by_cases h2 : ks.length = 0
   ·simp [h1, h2]
   ·simp [h1, h2]
  ·simp [h1]
theorem qfN (leaf : Bool) (ps : List S99) (ks : List ByteArray) (cs : List Int) : qbs.f leaf ps ks cs = some (freeB leaf ps ks cs) := by
 unfold qbs.f freeB
 rw [qcV]
 cases leaf with
 | true => simp
 | false =>
  by_cases h1 : ps.length = 0
  ·by_cases h2 : ks.length = 0
   ·simp [h1, h2]
   ·simp [h1, h2]
  ·simp [h1]
theorem qeJ (leaf : Bool) (ps : List S99) (ks : List ByteArray) (cs : List Int) (he : ks.length = cs.length) (hl : cs.length < 9223372036854775807) : Ev (fun k => qaw.l0 k 0 leaf ps ks cs) (allB (kidAt ks cs) cs.length) := by
 refine Ev.same (Ev.all (g := fun k x => qaw.l0 k x leaf ps ks cs) (kidAt ks cs) true cs.length ?_ ?_) (by simp)
 ·refine Ev.succ ?_
  simp only [qaw.l0]
  exact Ev.neg (by omega) (Ev.is rfl)
 ·intro i hi r h
  refine Ev.succ ?_
  simp only [qaw.l0, qf9, key_in, Option.bind_some, qb5 (n := i) (by omega)]
  refine Ev.pos (by omega) (Ev.pos (by omega) ?_)
  cases h1 : inB (rd cs i) 0 49 with
  | false => exact Ev.neg (by simp) (Ev.is (by simp [kidAt, h1]))
  | true =>
   refine Ev.pos rfl (Ev.pos (by omega) ?_)
   cases h2 : keyB (rdOf ByteArray.empty ks i) with
   | false => exact Ev.neg (by simp) (Ev.is (by simp [kidAt, h2]))
   | true =>
    refine Ev.pos rfl ?_
    by_cases h0 : i = 0
    ·subst h0
     exact Ev.neg (by omega) (Ev.same h (by simp [kidAt] at *; simp [h1, h2]))
    ·simp only [qfF (n := i) (by omega) (by omega)]
     refine Ev.pos (by omega) (Ev.pos (by omega) (Ev.pos (by omega) ?_))
     cases h4 : Op.bytesLess (rdOf ByteArray.empty ks ((i - 1 : Nat) : Int)).toList (rdOf ByteArray.empty ks i).toList with
     | false => exact Ev.neg (by simp) (Ev.is (by simp [kidAt, h4, h0]))
     | true => exact Ev.pos rfl (Ev.same h (by simp [kidAt, h1, h2, h4, h0]))
theorem qeK (leaf : Bool) (ps : List S99) (ks : List ByteArray) (cs : List Int) (he : ks.length = cs.length) (hl : cs.length < 9223372036854775807) : Ev (fun k => qaH.l0 k ks (ks.length : Int) 0 leaf ps ks cs) (allB (kidAt ks cs) cs.length) := by
 refine Ev.same (Ev.all (g := fun k x => qaH.l0 k ks (ks.length : Int) x leaf ps ks cs) (kidAt ks cs) true cs.length ?_ ?_) (by simp)
 ·refine Ev.succ ?_
  simp only [qaH.l0]
  exact Ev.neg (by omega) (Ev.is rfl)
 ·intro i hi r h
  refine Ev.succ ?_
  simp only [qaH.l0, qfa, qgo, Option.bind_some, qb5 (n := i) (by omega)]
  refine Ev.pos (by omega) (Ev.pos (by omega) (Ev.pos (by omega) ?_))
  cases h1 : keyB (rdOf ByteArray.empty ks i) with
  | false => exact Ev.neg (by simp) (Ev.is (by simp [kidAt, h1]))
  | true =>
   refine Ev.pos rfl (Ev.pos (by omega) ?_)
   cases h2 : inB (rd cs i) 0 49 with
   | false => exact Ev.neg (by simp) (Ev.is (by simp [kidAt, h2]))
   | true =>
    refine Ev.pos rfl ?_
    by_cases h0 : i = 0
    ·subst h0
     exact Ev.neg (by omega) (Ev.same h (by simp [kidAt] at *; simp [h1, h2]))
    ·simp only [qfF (n := i) (by omega) (by omega)]
     refine Ev.pos (by omega) (Ev.pos (by omega) (Ev.pos (by omega) ?_))
     cases h4 : Op.bytesLess (rdOf ByteArray.empty ks ((i - 1 : Nat) : Int)).toList (rdOf ByteArray.empty ks i).toList with
     | false => exact Ev.neg (by simp) (Ev.is (by simp [kidAt, h4, h0]))
     | true => exact Ev.pos rfl (Ev.same h (by simp [kidAt, h1, h2, h4, h0]))
theorem qhh (a b : Nat) : ((a : Int) != (b : Int)) = !decide (a = b) := by
 by_cases h : a = b
 ·simp [h]
 ·rw [decide_eq_false h]
  simp
  omega
theorem qgb (leaf : Bool) (ps : List S99) (ks : List ByteArray) (cs : List Int) (hl : cs.length < 9223372036854775807) : Ev (fun k => qaw.f k leaf ps ks cs) (nodeB leaf ps ks cs) := by
 have hj : ∀ c : Bool, (c = false → ks.length = cs.length) → Ev (fun k => qaw.j0 k c leaf ps ks cs) (!c && allB (kidAt ks cs) cs.length) := by
  intro c hc
  refine Ev.succ ?_
  simp only [qaw.j0]
  cases c with
  | true => exact Ev.pos rfl (Ev.is rfl)
  | false => exact Ev.neg (by simp) (Ev.same (qeJ leaf ps ks cs (hc rfl) hl) (by simp))
 unfold qaw.f nodeB
 simp only [qfM, qf9, Option.bind_some, qcV, qhh]
 cases h0 : freeB leaf ps ks cs with
 | true => exact Ev.pos rfl (Ev.is (by simp))
 | false =>
  refine Ev.neg (by simp) ?_
  cases h1 : leaf with
  | true =>
   refine Ev.pos rfl ?_
   cases h2 : inB ps.length 1 3 with
   | false => exact Ev.neg (by simp) (Ev.is (by simp))
   | true =>
    refine Ev.pos rfl (Ev.bind (qfL ps) ?_)
    cases h3 : qcF ps with
    | false => exact Ev.neg (by simp) (Ev.is (by simp))
    | true =>
     refine Ev.pos rfl ?_
     by_cases h4 : ks.length = 0
     ·exact Ev.pos (by omega) (Ev.is (by simp [h4]))
     ·exact Ev.neg (by omega) (Ev.is (by simp [h4]))
  | false =>
   rw [h1] at hj
   refine Ev.neg (by simp) ?_
   by_cases h2 : ps.length = 0
   ·refine Ev.pos (by omega) ?_
    cases h3 : inB cs.length 1 4 with
    | false => exact Ev.neg (by simp) (Ev.same (hj true (by simp)) (by simp))
    | true => exact Ev.pos rfl (Ev.same (hj _ (by simp)) (by simp [h2]))
   ·exact Ev.neg (by omega) (Ev.same (hj true (by simp)) (by simp [h2]))
theorem qgc (leaf : Bool) (ps : List S99) (ks : List ByteArray) (cs : List Int) (hl : cs.length < 9223372036854775807) : Ev (fun k => qaH.f k leaf ps ks cs) (nodeB leaf ps ks cs) := by
 have hj : ∀ c : Bool, (c = false → ks.length = cs.length) → Ev (fun k => qaH.j0 k c leaf ps ks cs) (!c && allB (kidAt ks cs) cs.length) := by
  intro c hc
  refine Ev.succ ?_
  simp only [qaH.j0]
  cases c with
  | true => exact Ev.pos rfl (Ev.is rfl)
  | false => exact Ev.neg (by simp) (Ev.same (qeK leaf ps ks cs (hc rfl) hl) (by simp))
 unfold qaH.f nodeB
 simp only [qfN, qfa, Option.bind_some, qcV, qhh]
 cases h0 : freeB leaf ps ks cs with
 | true => exact Ev.pos rfl (Ev.is (by simp))
 | false =>
  refine Ev.neg (by simp) ?_
  cases h1 : leaf with
  | true =>
   refine Ev.pos rfl ?_
   cases h2 : inB ps.length 1 3 with
   | false => exact Ev.neg (by simp) (Ev.is (by simp))
   | true =>
    have hp : ps.length ≤ 3 := by simp only [inB, Bool.and_eq_true, decide_eq_true_eq] at h2; omega
    have e3 : qcF ps = chainB none ps := by unfold qcF; rw [decide_eq_true (by omega), Bool.true_and]
    refine Ev.pos rfl (Ev.bind (qej ps (by omega)) ?_)
    rw [e3]
    cases h3 : chainB none ps with
    | false => exact Ev.neg (by simp) (Ev.is (by simp))
    | true =>
     refine Ev.pos rfl ?_
     by_cases h4 : ks.length = 0
     ·exact Ev.pos (by omega) (Ev.is (by simp [h4]))
     ·exact Ev.neg (by omega) (Ev.is (by simp [h4]))
  | false =>
   rw [h1] at hj
   refine Ev.neg (by simp) ?_
   by_cases h2 : ps.length = 0
   ·refine Ev.neg (by omega) ?_
    cases h3 : inB cs.length 1 4 with
    | false => exact Ev.neg (by simp) (Ev.same (hj true (by simp)) (by simp))
    | true => exact Ev.pos rfl (Ev.same (hj _ (by simp)) (by simp [h2]))
   ·exact Ev.pos (by omega) (Ev.same (hj true (by simp)) (by simp [h2]))
end Go.Proofs.Ytenfomejccfkgaa.X
namespace Go.Proofs.Ytenfomejccfkgaa.X
open Go.RowKit Go.Proofs.YtenfomejccfkgaaW.PrintWords Go.Proofs.YtenfomejccfkgaaW.PrintLast Go.Proofs.YtenfomejccfkgaaW.PrintMore
attribute [local go_sem] qaC qaD qaE qay qaz qaO qaP qas qat qaA qaB
set_option linter.unusedVariables false
set_option linter.unusedSimpArgs false
def qcG (p : List S99) (i : Nat) : ByteArray := (qaF p (i : Int)).f0
def nbN (x : S56) : Bool := nodeB x.f0 x.f1 x.f2 x.f3
def fbN (x : S56) : Bool := freeB x.f0 x.f1 x.f2 x.f3
def kidsW (f : Int → List Bool → List S99 → Bool × List Bool × List S99) : List Int → List ByteArray → List Bool → List S99 → Bool × List Bool × List S99
 | k :: ks, m :: ms, s, p => if (f k s p).1 = true ∧ p.length < (f k s p).2.2.length ∧ (qcG (f k s p).2.2 p.length).toList = m.toList then kidsW f ks ms (f k s p).2.1 (f k s p).2.2 else (false, (f k s p).2)
 | _, _, s, p => (true, s, p)
theorem qdH (f : Int → List Bool → List S99 → Bool × List Bool × List S99) (k : Int) (ks : List Int) (m : ByteArray) (ms : List ByteArray) (s : List Bool) (p : List S99) : kidsW f (k :: ks) (m :: ms) s p = if (f k s p).1 = true ∧ p.length < (f k s p).2.2.length ∧ (qcG (f k s p).2.2 p.length).toList = m.toList then kidsW f ks ms (f k s p).2.1 (f k s p).2.2 else (false, (f k s p).2) := by
 rw [kidsW]
theorem qek (f : Int → List Bool → List S99 → Bool × List Bool × List S99) (ms : List ByteArray) (s : List Bool) (p : List S99) : kidsW f [] ms s p = (true, s, p) := by
 simp [kidsW]
def goodW (ns : List S56) (k : Int) (s : List Bool) : Prop := 0 ≤ k ∧ k < (ns.length : Int) ∧ rdOf false s k = false ∧ nbN (qaG ns k) = true ∧ fbN (qaG ns k) = false
instance (ns : List S56) (k : Int) (s : List Bool) : Decidable (goodW ns k s) := by unfold goodW; infer_instance
def walkW (ns : List S56) : Nat → Int → List Bool → List S99 → Bool × List Bool × List S99
 | 0, _, s, p => (false, s, p)
 | n + 1, k, s, p => if goodW ns k s then kidsW (walkW ns n) (qaG ns k).f3 (qaG ns k).f2 (s.set k.toNat true) (p ++ (qaG ns k).f1) else (false, s, p)
def qdk (ns : List S56) : Prop := ∀ x, x ∈ ns → x.f3.length ≤ 1048576
theorem qfO {ns : List S56} {k : Int} (h : qdk ns) (hk : k < (ns.length : Int)) (h0 : 0 ≤ k) : (qaG ns k).f3.length ≤ 1048576 := by
 have e : qaG ns k = ns[k.toNat]'(by omega) := by
  unfold qaG
  simp [List.getD_eq_getElem?_getD, show k.toNat < ns.length by omega]
 rw [e]
 exact h _ (List.getElem_mem _)
structure WI (N M : Nat) (s : List Bool) (p : List S99) : Prop where
 len : s.length = N
 room : p.length + 3 * s.count false ≤ M
 good : ∀ q, q ∈ p → okP q = true
theorem qel {s : List Bool} {i : Nat} (h : i < s.length) (hv : s.getD i false = false) : (s.set i true).count false + 1 = s.count false := by
 induction s generalizing i with
 | nil => simp at h
 | cons b s ih =>
  cases i with
  | zero =>
   have : b = false := by simpa using hv
   subst this
   simp
  | succ i =>
   have := ih (by simpa using h) (by simpa using hv)
   cases b with
   | true => simpa using this
   | false => simp; omega
theorem qda {x : S56} (h : nbN x = true) (hf : fbN x = false) (hl : x.f0 = false) : x.f1 = [] ∧ 1 ≤ x.f3.length ∧ x.f3.length ≤ 4 ∧ x.f2.length = x.f3.length ∧ ∀ i : Nat, i < x.f3.length → 0 ≤ rd x.f3 i ∧ rd x.f3 i ≤ 49 := by
 unfold nbN nodeB at h
 unfold fbN at hf
 rw [hf, hl] at h
 simp only [Bool.false_or, Bool.false_eq_true, if_false, Bool.and_eq_true, decide_eq_true_eq, inB] at h
 obtain ⟨h1, ⟨h2, h3⟩, h4, h5⟩ := h
 refine ⟨List.eq_nil_of_length_eq_zero h1, by omega, by omega, h4, fun i hi => ?_⟩
 have := allB_iff.1 h5 i hi
 unfold kidAt inB at this
 simp only [Bool.and_eq_true, decide_eq_true_eq] at this
 exact this.1
theorem qdw {x : S56} (h : nbN x = true) (hf : fbN x = false) (hl : x.f0 = true) : x.f3 = [] ∧ x.f2 = [] ∧ 1 ≤ x.f1.length ∧ x.f1.length ≤ 3 ∧ (∀ q, q ∈ x.f1 → okP q = true) := by
 unfold nbN nodeB at h
 unfold fbN at hf
 rw [hf, hl] at h
 simp only [Bool.false_or, if_true, Bool.and_eq_true, decide_eq_true_eq, inB] at h
 obtain ⟨⟨h1, h2⟩, h3, h4, h5⟩ := h
 exact ⟨List.eq_nil_of_length_eq_zero h5, List.eq_nil_of_length_eq_zero h4, by omega, by omega, (qfI.1 h3).2.1⟩
theorem qhi {N M : Nat} {f : Int → List Bool → List S99 → Bool × List Bool × List S99} (hf : ∀ k s p, WI N M s p → WI N M (f k s p).2.1 (f k s p).2.2 ∧ p.length ≤ (f k s p).2.2.length) : ∀ (ks : List Int) (ms : List ByteArray) (s : List Bool) (p : List S99), WI N M s p → WI N M (kidsW f ks ms s p).2.1 (kidsW f ks ms s p).2.2 ∧ p.length ≤ (kidsW f ks ms s p).2.2.length := by
 intro ks
 induction ks with
 | nil => intro ms s p h; exact ⟨h, Nat.le_refl _⟩
 | cons k ks ih =>
  intro ms s p h
  cases ms with
  | nil => exact ⟨h, Nat.le_refl _⟩
  | cons m ms =>
   obtain ⟨h1, h2⟩ := hf k s p h
   unfold kidsW
   split
   ·obtain ⟨h3, h4⟩ := ih ms _ _ h1
    exact ⟨h3, Nat.le_trans h2 h4⟩
   ·exact ⟨h1, h2⟩
theorem qem {N M : Nat} (ns : List S56) (hN : ns.length = N) : ∀ (n : Nat) (k : Int) (s : List Bool) (p : List S99), WI N M s p → WI N M (walkW ns n k s p).2.1 (walkW ns n k s p).2.2 ∧ p.length ≤ (walkW ns n k s p).2.2.length := by
 intro n
 induction n with
 | zero => intro k s p h; exact ⟨h, Nat.le_refl _⟩
 | succ n ih =>
  intro k s p h
  unfold walkW
  split
  ·rename_i hg
   obtain ⟨g0, g1, g2, g3, g4⟩ := hg
   have hc := qel (s := s) (i := k.toNat) (by rw [h.len]; omega) (by have := g2; unfold rdOf at this; exact this)
   have hr := h.room
   have hx : (qaG ns k).f1.length ≤ 3 ∧ ∀ q, q ∈ (qaG ns k).f1 → okP q = true := by
    cases hl : (qaG ns k).f0 with
    | true => obtain ⟨_, _, _, a, b⟩ := qdw g3 g4 hl; exact ⟨a, b⟩
    | false => rw [(qda g3 g4 hl).1]; exact ⟨by simp, fun q hq => by cases hq⟩
   obtain ⟨h3, h4⟩ := qhi (ih) (qaG ns k).f3 (qaG ns k).f2 (s.set k.toNat true) (p ++ (qaG ns k).f1) ⟨by rw [List.length_set]; exact h.len, by rw [List.length_append]; omega, fun q hq => (List.mem_append.1 hq).elim (h.good q) (hx.2 q)⟩
   exact ⟨h3, Nat.le_trans (by rw [List.length_append]; omega) h4⟩
  ·exact ⟨h, Nat.le_refl _⟩
theorem qgC {f : Int → List Bool → List S99 → Bool × List Bool × List S99} : ∀ (ks : List Int) (ms : List ByteArray) (s : List Bool) (p : List S99), (kidsW f ks ms s p).1 = true → p.length ≤ (kidsW f ks ms s p).2.2.length ∧ (1 ≤ ks.length → 1 ≤ ms.length → p.length < (kidsW f ks ms s p).2.2.length) := by
 intro ks
 induction ks with
 | nil => intro ms s p h; exact ⟨Nat.le_refl _, fun h => absurd h (by simp)⟩
 | cons k ks ih =>
  intro ms s p h
  cases ms with
  | nil => exact ⟨Nat.le_refl _, fun _ h => absurd h (by simp)⟩
  | cons m ms =>
   unfold kidsW at h ⊢
   split at h
   ·rename_i hg
    rw [if_pos hg]
    have := (ih ms _ _ h).1
    have := hg.2.1
    exact ⟨by omega, fun _ _ => by omega⟩
   ·cases h
theorem qeU (ns : List S56) (n : Nat) (k : Int) (s : List Bool) (p : List S99) (h : (walkW ns n k s p).1 = true) : p.length < (walkW ns n k s p).2.2.length := by
 cases n with
 | zero => cases h
 | succ n =>
  unfold walkW at h ⊢
  split at h
  ·rename_i hg
   rw [if_pos hg]
   obtain ⟨g0, g1, g2, g3, g4⟩ := hg
   have hk := qgC _ _ _ _ h
   cases hl : (qaG ns k).f0 with
   | true =>
    have := qdw g3 g4 hl
    have h1 := hk.1
    rw [List.length_append] at h1
    omega
   | false =>
    obtain ⟨a, b, c, d, _⟩ := qda g3 g4 hl
    have h1 := hk.2 b (by omega)
    rw [a, List.append_nil] at h1
    rw [a, List.append_nil]
    exact h1
  ·cases h
theorem on_ {b : Nat → Bool} {L : List (Nat × Tmp × Value)} {a a0 : Act} {i : Nat} {t : Tmp} {v : Value} (ha : a = qbq a0 b L) (k : Nat) (h : L[k]? = some (i, t, v)) (h2 : ((L.drop (k + 1)).all fun x => !(x.2.1 == t)) = true) (h3 : b i = true) (h4 : Nat.ble (t + 1) a0.tmps.size = true) : a.tmps[t]? = some v := by
 rw [ha]
 exact qfy (e := (i, t, v)) k h h2 h3 h4
end Go.Proofs.Ytenfomejccfkgaa.X
namespace Go.Proofs.Ytenfomejccfkgaa.X
open Go.RowKit Go.Proofs.YtenfomejccfkgaaW.PrintWords Go.Proofs.YtenfomejccfkgaaW.PrintLast Go.Proofs.YtenfomejccfkgaaW.PrintMore
attribute [local go_sem] qaC qaD qaE qay qaz qaO qaP qas qat qaA qaB
set_option linter.unusedVariables false
set_option linter.unusedSimpArgs false
def qcH (p : List S99) (i : Nat) : Bool := Op.bytesLess (qcG p (i - 1)).toList (qcG p i).toList
def riseB (p : List S99) : Bool := qch (qcH p) 1 (p.length - 1)
def noneW : List Bool := List.replicate 50 false
def lookW (ns : List S56) (root : Int) : Bool × List Bool × List S99 := if ns.length = 50 then (if root = -1 then (true, noneW, []) else walkW ns 21 root noneW []) else (false, noneW, [])
def walkR (ns : List S56) (root : Int) : List S99 × List Bool × Bool := ((lookW ns root).2.2, (lookW ns root).2.1, ((lookW ns root).1 && riseB (lookW ns root).2.2) && decide ((lookW ns root).2.2.length ≤ 60))
theorem qdI : WI 50 150 noneW [] := ⟨by unfold noneW; simp, by unfold noneW; rw [List.count_replicate]; simp, fun q hq => by cases hq⟩
theorem qen (ns : List S56) (root : Int) : WI 50 150 (lookW ns root).2.1 (lookW ns root).2.2 := by
 unfold lookW
 split
 ·rename_i h
  split
  ·exact qdI
  ·exact (qem ns h 21 root noneW [] qdI).1
 ·exact qdI
theorem qde {p : List S99} {i : Nat} (h : i < p.length) : qcG p i = p[i].f0 := by
 unfold qcG qaF
 rw [Int.toNat_natCast]
 simp [List.getD_eq_getElem?_getD, h]
theorem riseB_is {p : List S99} : riseB p = true ↔ Rises p := by
 unfold riseB
 rw [qeh]
 refine ⟨fun h => ?_, fun h j h1 h2 => ?_⟩
 ·have hc : ∀ m (hm : m + 1 < p.length), Op.bytesLess (p[m]'(by omega)).f0.toList p[m + 1].f0.toList = true := fun m hm => by
   have := h (m + 1) (by omega) (by omega)
   unfold qcH at this
   rw [qde (by omega), qde hm] at this
   simpa using this
  have hd : ∀ d i (hi : i + 1 + d < p.length), Op.bytesLess (p[i]'(by omega)).f0.toList p[i + 1 + d].f0.toList = true := by
   intro d
   induction d with
   | zero => intro i hi; exact hc i hi
   | succ d ih => intro i hi; exact qei (ih i (by omega)) (hc (i + 1 + d) hi)
  refine List.pairwise_iff_getElem.2 fun i j hi hj hij => ?_
  obtain ⟨d, rfl⟩ : ∃ d, j = i + 1 + d := ⟨j - (i + 1), by omega⟩
  exact hd d i hj
 ·unfold qcH
  rw [qde (by omega), qde (by omega)]
  exact rises_lt h (by omega) (by omega)
theorem qgd (ns : List S56) (root : Int) : qcF (lookW ns root).2.2 = (riseB (lookW ns root).2.2 && decide ((lookW ns root).2.2.length ≤ 60)) := by
 rw [Bool.eq_iff_iff, qfI, Bool.and_eq_true, riseB_is, decide_eq_true_eq]
 exact ⟨fun h => ⟨h.2.2, h.1⟩, fun h => ⟨h.2, (qen ns root).good, h.1⟩⟩
theorem qdf (ns : List S56) (root : Int) : (walkR ns root).2.2 = ((lookW ns root).1 && qcF (lookW ns root).2.2) := by
 unfold walkR
 simp only
 rw [qgd, Bool.and_assoc]
theorem qeo (ns : List S56) (root : Int) : (walkR ns root).2.1.length = 50 := (qen ns root).len
theorem qep {ns : List S56} {root : Int} (h : ns.length ≠ 50) : (walkR ns root).2.2 = false := by
 rw [qdf]
 unfold lookW
 rw [if_neg h]
 rfl
theorem qfP {ns : List S56} {root : Int} (h : inB root (-1) 49 = false) : (walkR ns root).2.2 = false := by
 by_cases hl : ns.length = 50
 ·rw [qdf]
  unfold lookW
  have h1 : root ≠ -1 := fun e => by subst e; exact absurd h (by decide)
  rw [if_pos hl, if_neg h1]
  have : (walkW ns 21 root noneW []).1 = false := by
   unfold walkW
   rw [if_neg (fun g => by have h1 := g.1; have h2 := g.2.1; unfold inB at h; rw [decide_eq_true (by omega), decide_eq_true (by omega)] at h; cases h)]
  rw [this]
  rfl
 ·exact qep hl
end Go.Proofs.Ytenfomejccfkgaa.X
