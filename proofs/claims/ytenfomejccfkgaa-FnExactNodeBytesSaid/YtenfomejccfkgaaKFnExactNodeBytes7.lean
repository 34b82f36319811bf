import Derived.Test.YtenfomejccfkgaaKFnExactNodeBytes3
import Derived.Test.YtenfomejccfkgaaKFnExactNodeBytes4
import Derived.Test.YtenfomejccfkgaaKFnExactNodeBytes5
import Derived.Test.YtenfomejccfkgaaKFnExactNodeBytes6
namespace Go.Proofs.Ytenfomejccfkgaa.X
open Go.RowKit Go.Proofs.YtenfomejccfkgaaW.PrintWords Go.Proofs.YtenfomejccfkgaaW.PrintLast Go.Proofs.YtenfomejccfkgaaW.PrintMore
attribute [local go_sem] qaE qaF qaG qaz qaA qaS qaT qau qav qaB qaC
set_option linter.unusedVariables false
set_option linter.unusedSimpArgs false
def Rises (l : List S99) : Prop := l.Pairwise fun a b => Op.bytesLess a.f0.toList b.f0.toList = true
instance risesDec (l : List S99) : Decidable (Rises l) := by unfold Rises; infer_instance
def okP (p : S99) : Bool := keyB p.f0 && decide (p.f1.size ≤ 90)
def chainB : Option S99 → List S99 → Bool
 | _, [] => true
 | none, p :: r => okP p && chainB (some p) r
 | some q, p :: r => okP p && (Op.bytesLess q.f0.toList p.f0.toList && chainB (some p) r)
def qds (l : List S99) : Bool := decide (l.length ≤ 60) && chainB none l
theorem qeZ (l : List S99) : ∀ q, chainB (some q) l = true → (∀ p ∈ l, okP p = true) ∧ (q :: l).Pairwise fun a b => Op.bytesLess a.f0.toList b.f0.toList = true := by
 induction l with
 | nil => intro q _; exact ⟨fun p hp => (by cases hp), List.pairwise_singleton _ _⟩
 | cons p r ih =>
  intro q h
  simp only [chainB, Bool.and_eq_true] at h
  obtain ⟨h1, h2, h3⟩ := h
  obtain ⟨i1, i2⟩ := ih p h3
  refine ⟨fun x hx => ?_, List.pairwise_cons.2 ⟨fun x hx => ?_, i2⟩⟩
  ·rcases List.mem_cons.1 hx with rfl | hx
   ·exact h1
   ·exact i1 x hx
  ·rcases List.mem_cons.1 hx with rfl | hx
   ·exact h2
   ·exact qfl h2 ((List.pairwise_cons.1 i2).1 x hx)
theorem qfm {l : List S99} (h : chainB none l = true) : (∀ p ∈ l, okP p = true) ∧ Rises l := by
 cases l with
 | nil => exact ⟨fun p hp => (by cases hp), List.Pairwise.nil⟩
 | cons p r =>
  simp only [chainB, Bool.and_eq_true] at h
  obtain ⟨i1, i2⟩ := qeZ r p h.2
  refine ⟨fun x hx => ?_, i2⟩
  rcases List.mem_cons.1 hx with rfl | hx
  ·exact h.1
  ·exact i1 x hx
theorem qgq (l : List S99) : ∀ q, (∀ p ∈ l, okP p = true) → ((q :: l).Pairwise fun a b => Op.bytesLess a.f0.toList b.f0.toList = true) → chainB (some q) l = true := by
 induction l with
 | nil => intro q _ _; rfl
 | cons p r ih =>
  intro q h1 h2
  simp only [chainB, Bool.and_eq_true]
  exact ⟨h1 p List.mem_cons_self, (List.pairwise_cons.1 h2).1 p List.mem_cons_self, ih p (fun x hx => h1 x (List.mem_cons_of_mem _ hx)) (List.pairwise_cons.1 h2).2⟩
theorem qd5 {l : List S99} (h1 : ∀ p ∈ l, okP p = true) (h2 : Rises l) : chainB none l = true := by
 cases l with
 | nil => rfl
 | cons p r =>
  simp only [chainB, Bool.and_eq_true]
  exact ⟨h1 p List.mem_cons_self, qgq r p (fun x hx => h1 x (List.mem_cons_of_mem _ hx)) h2⟩
theorem qgr {l : List S99} : qds l = true ↔ l.length ≤ 60 ∧ (∀ p ∈ l, okP p = true) ∧ Rises l := by
 unfold qds
 rw [Bool.and_eq_true, decide_eq_true_eq]
 exact ⟨fun h => ⟨h.1, qfm h.2⟩, fun h => ⟨h.1, qd5 h.2.1 h.2.2⟩⟩
theorem qfS (l : List S99) (pre rest : List S99) (x : S99) (h : l = pre ++ x :: rest) : qap l ((pre.length : Nat) : Int) = x := by
 subst h
 simp [qap, List.getD_eq_getElem?_getD]
theorem qe0 (p : S99) : qbv.f p.f0 p.f1 = some (okP p) := by
 unfold qbv.f okP
 have e : ((p.f1.size : Int) ≤ 90) = (p.f1.size ≤ 90) := propext (by omega)
 rw [spec_key, Option.bind_some]
 cases keyB p.f0 <;> simp [e]
theorem qe1 (p : S99) : qbz.f p.f0 p.f1 = some (okP p) := by
 unfold qbz.f okP
 have e : ((p.f1.size : Int) ≤ 90) = (p.f1.size ≤ 90) := propext (by omega)
 rw [qfE, Option.bind_some]
 cases keyB p.f0 <;> simp [e]
theorem qd6 (l : List S99) (hl : l.length ≤ 60) (rest : List S99) : ∀ (pre : List S99) (q : S99), l = (pre ++ [q]) ++ rest →
  Ev (fun k => qax.l0 k l (((pre ++ [q]).length : Nat) : Int)) (chainB (some q) rest) := by
 induction rest with
 | nil =>
  intro pre q h
  refine Ev.succ ?_
  simp only [qax.l0]
  exact Ev.neg (by rw [h]; simp) (Ev.is rfl)
 | cons p r ih =>
  intro pre q h
  have hx := qfS l (pre ++ [q]) r p h
  have hq := qfS l pre (p :: r) q (by rw [h]; simp)
  have hlen : (pre ++ [q]).length < l.length := by rw [h]; simp
  have hw := qbV (n := (pre ++ [q]).length) (by omega)
  have hp : wrap64 ((((pre ++ [q]).length : Nat) : Int) - 1) = ((pre.length : Nat) : Int) := by rw [← qbJ]; exact qeY (by simp at hlen <;> omega)
  have hi := ih (pre ++ [q]) p (by rw [h]; simp)
  rw [← qbJ] at hi
  refine Ev.succ ?_
  simp only [qax.l0, hx, hp, hq, hw]
  refine Ev.pos (by omega) (Ev.pos (by omega) (Ev.bindk (qe0 p) ?_))
  cases ho : okP p with
  | false => exact Ev.neg (by simp) (Ev.is (by simp [chainB, ho]))
  | true =>
   refine Ev.pos rfl (Ev.pos (by simp <;> omega) (Ev.pos (by omega) (Ev.pos (by simp at hlen <;> omega) ?_)))
   cases hb : Op.bytesLess q.f0.toList p.f0.toList with
   | false => exact Ev.neg (by simp) (Ev.is (by simp [chainB, ho, hb]))
   | true => exact Ev.pos rfl (Ev.same hi (by simp [chainB, ho, hb]))
theorem qgs (l : List S99) (hl : l.length ≤ 60) : Ev (fun k => qax.l0 k l 0) (chainB none l) := by
 cases l with
 | nil =>
  refine Ev.succ ?_
  simp only [qax.l0]
  exact Ev.neg (by simp) (Ev.is rfl)
 | cons p r =>
  have hx := qfS (p :: r) [] r p rfl
  simp only [List.length_nil, Int.natCast_zero] at hx
  have hi := qd6 (p :: r) hl r [] p rfl
  refine Ev.succ ?_
  simp only [qax.l0, hx]
  refine Ev.pos (by simp <;> omega) (Ev.pos (by omega) (Ev.bindk (qe0 p) ?_))
  cases ho : okP p with
  | false => exact Ev.neg (by simp) (Ev.is (by simp [chainB, ho]))
  | true =>
   have e0 : ((([] ++ [p] : List S99).length : Nat) : Int) = wrap64 (0 + 1) := by unfold wrap64; simp
   rw [e0] at hi
   exact Ev.pos rfl (Ev.neg (by omega) (Ev.same hi (by simp [chainB, ho])))
theorem qe2 (l : List S99) : Ev (fun k => qax.f k l) (qds l) := by
 unfold qax.f qds
 by_cases h1 : (l.length : Int) > 4096
 ·exact Ev.pos h1 (Ev.is (by simp [show ¬ l.length ≤ 60 by omega]))
 ·by_cases h2 : (l.length : Int) > 60
  ·exact Ev.neg h1 (Ev.pos h2 (Ev.is (by simp [show ¬ l.length ≤ 60 by omega])))
  ·exact Ev.neg h1 (Ev.neg h2 (Ev.same (qgs l (by omega)) (by simp [show l.length ≤ 60 by omega])))
theorem qd7 (l : List S99) (hl : l.length < 9223372036854775807) (rest : List S99) : ∀ (pre : List S99) (q : S99), l = (pre ++ [q]) ++ rest →
  Ev (fun k => qan.l0 k l l (l.length : Int) (((pre ++ [q]).length : Nat) : Int)) (chainB (some q) rest) := by
 induction rest with
 | nil =>
  intro pre q h
  refine Ev.succ ?_
  simp only [qan.l0]
  exact Ev.neg (by rw [h]; simp) (Ev.is rfl)
 | cons p r ih =>
  intro pre q h
  have hx := qfS l (pre ++ [q]) r p h
  have hq := qfS l pre (p :: r) q (by rw [h]; simp)
  have hlen : (pre ++ [q]).length < l.length := by rw [h]; simp
  have hw := qbV (n := (pre ++ [q]).length) (by omega)
  have hp : wrap64 ((((pre ++ [q]).length : Nat) : Int) - 1) = ((pre.length : Nat) : Int) := by rw [← qbJ]; exact qeY (by simp at hlen <;> omega)
  have hi := ih (pre ++ [q]) p (by rw [h]; simp)
  rw [← qbJ] at hi
  refine Ev.succ ?_
  simp only [qan.l0, hx, hp, hq, hw]
  refine Ev.pos (by omega) (Ev.pos (by omega) (Ev.pos (by omega) (Ev.bindk (qe1 p) ?_)))
  cases ho : okP p with
  | false => exact Ev.neg (by simp) (Ev.is (by simp [chainB, ho]))
  | true =>
   refine Ev.pos rfl (Ev.pos (by simp <;> omega) (Ev.pos (by omega) (Ev.pos (by simp at hlen <;> omega) ?_)))
   cases hb : Op.bytesLess q.f0.toList p.f0.toList with
   | false => exact Ev.neg (by simp) (Ev.is (by simp [chainB, ho, hb]))
   | true => exact Ev.pos rfl (Ev.same hi (by simp [chainB, ho, hb]))
theorem qfn (l : List S99) (hl : l.length < 9223372036854775807) : Ev (fun k => qan.f k l) (chainB none l) := by
 unfold qan.f
 cases l with
 | nil =>
  refine Ev.succ ?_
  simp only [qan.l0]
  exact Ev.neg (by simp) (Ev.is rfl)
 | cons p r =>
  have hx := qfS (p :: r) [] r p rfl
  simp only [List.length_nil, Int.natCast_zero] at hx
  have hi := qd7 (p :: r) hl r [] p rfl
  refine Ev.succ ?_
  simp only [qan.l0, hx]
  refine Ev.pos (by simp <;> omega) (Ev.pos (by omega) (Ev.pos (by simp <;> omega) (Ev.bindk (qe1 p) ?_)))
  cases ho : okP p with
  | false => exact Ev.neg (by simp) (Ev.is (by simp [chainB, ho]))
  | true =>
   have e0 : ((([] ++ [p] : List S99).length : Nat) : Int) = wrap64 (0 + 1) := by unfold wrap64; simp
   rw [e0] at hi
   exact Ev.pos rfl (Ev.neg (by omega) (Ev.same hi (by simp [chainB, ho])))
end Go.Proofs.Ytenfomejccfkgaa.X
namespace Go.Proofs.Ytenfomejccfkgaa.X
open Go.RowKit Go.Proofs.YtenfomejccfkgaaW.PrintWords Go.Proofs.YtenfomejccfkgaaW.PrintLast Go.Proofs.YtenfomejccfkgaaW.PrintMore
attribute [local go_sem] qaE qaF qaG qaz qaA qaS qaT qau qav qaB qaC
set_option linter.unusedVariables false
set_option linter.unusedSimpArgs false
def qbl.f (a0_0 : Bool) (l0_1 : List (S99)) (l0_2 : List ByteArray) (l0_3 : List Int) : Option (Bool) := if a0_0 = true then (some false) else (if (l0_1.length : Int) = 0 then (if (l0_2.length : Int) = 0 then (some ((l0_3.length : Int) == 0)) else (some false)) else (some false))
set_option maxHeartbeats 8000000 in
set_option maxRecDepth 100000 in
theorem qbl.calls (a0_0 : Bool) (A0_1 : Option Addr) (c0_1 : Nat) (l0_1 : List (S99)) (A0_2 : Option Addr) (c0_2 : Nat) (l0_2 : List ByteArray) (A0_3 : Option Addr) (c0_3 : Nat) (l0_3 : List Int) (r : Bool) (w : World) (hr0_1 : Kd.C k99 w A0_1 l0_1.length l0_1) (hc0_1 : l0_1.length ≤ c0_1) (hr0_2 : Kd.C Kd.string w A0_2 l0_2.length l0_2) (hc0_2 : l0_2.length ≤ c0_2) (hr0_3 : Kd.C (Kd.int .i64) w A0_3 l0_3.length l0_3) (hc0_3 : l0_3.length ≤ c0_3) (h : qbl.f a0_0 l0_1 l0_2 l0_3 = some r) :
  Calls Try.prog 78 #[.agg #[.bool a0_0, .slice A0_1 l0_1.length c0_1, .slice A0_2 l0_2.length c0_2, .slice A0_3 l0_3.length c0_3]] w fun e w' => e = .returned (.bool r) ∧ Below w.heap.size w w' := by
 have hu56 := Try.underlying56
 have HR0_1 := Aside0.mk hr0_1
 have HC0_1 := Aside0.mk hc0_1
 clear hr0_1 hc0_1
 have HR0_2 := Aside0.mk hr0_2
 have HC0_2 := Aside0.mk hc0_2
 clear hr0_2 hc0_2
 have HR0_3 := Aside0.mk hr0_3
 have HC0_3 := Aside0.mk hc0_3
 clear hr0_3 hc0_3
 have HB := Aside0.mk (Below.refl w.heap.size w)
 have H : (if a0_0 = true then (some false) else (if (l0_1.length : Int) = 0 then (if (l0_2.length : Int) = 0 then (some ((l0_3.length : Int) == 0)) else (some false)) else (some false))) = some r := h
 clear h
 by_cases c2 : a0_0 = true
 ·subst c2
  have H1 : (some false) = some r := by rw [if_pos rfl] at H; exact H
  clear H
  have H := H1
  clear H1
  obtain rfl := Option.some.inj H
  go_enter Try.func78, Try.ntmps78
  go_wp2_with (first | ((with_reducible refine qaK (N := 1) rfl ?_); (try (refine qbk (by rfl) ?_; dsimp only)); refine qaJ ?hg (N := 1) ?hd (cs := #[.bool true, .slice A0_1 l0_1.length c0_1, .slice A0_2 l0_2.length c0_2, .slice A0_3 l0_3.length c0_3]) (t := 56) ?hr ?_; (case hd => rfl); (case hg => rfl); (case hr => first | (go_simp; done) | (go_simp; rfl)); intro gb113 hg w3 hbox hb; have n0_ := Aside0.mk (qag (by repeat (first | (with_reducible first | exact HB.out | apply qac | apply qaa | apply qab) | exact HB.out)) hb); have n1_ := Aside0.mk (hbox); have n2_ := Aside0.mk ((by rw [hg]; exact (qah (by repeat (first | (with_reducible first | exact HB.out | apply qac | apply qaa | apply qab) | exact HB.out))) : w.heap.size ≤ gb113)); have n3_ := Aside0.mk ((by rw [hg]; exact (qah (by repeat (first | (with_reducible first | exact HB.out | apply qac | apply qaa | apply qab) | exact HB.out))) : w.heap.size ≤ gb113)); clear HB; have HB := n0_; have BK113 := n1_; have GW113 := n2_; have GE113 := n3_; clear n0_ n1_ n2_ n3_; clear hb hbox hg; have hcz4_0 : w3.cell? ⟨gb113, 0, none⟩ = some (.bool true) := (qae BK113.out 0).trans rfl; have hcz4_1 : w3.cell? ⟨gb113, 1, none⟩ = some (.slice A0_1 l0_1.length c0_1) := (qae BK113.out 1).trans rfl; have hcz4_2 : w3.cell? ⟨gb113, 2, none⟩ = some (.slice A0_2 l0_2.length c0_2) := (qae BK113.out 2).trans rfl; have hcz4_3 : w3.cell? ⟨gb113, 3, none⟩ = some (.slice A0_3 l0_3.length c0_3) := (qae BK113.out 3).trans rfl; have hfz4_0 := qad BK113.out 0; have hfz4_1 := qad BK113.out 1; have hfz4_2 := qad BK113.out 2; have hfz4_3 := qad BK113.out 3))
  go_ret
  exact ⟨by first | rfl | (simp [qai, qaj] <;> rfl) | (simp [*, qai, qaj] <;> rfl), by repeat (first | (with_reducible first | exact HB.out | apply qac | apply qaa | apply qab | refine qaf ?_ GE113.out) | exact HB.out)⟩
 ·replace c2 := Bool.eq_false_iff.mpr c2
  subst c2
  have H1 : (if (l0_1.length : Int) = 0 then (if (l0_2.length : Int) = 0 then (some ((l0_3.length : Int) == 0)) else (some false)) else (some false)) = some r := by rw [if_neg (show ¬ (false = true) by decide)] at H; exact H
  clear H
  have H := H1
  clear H1
  by_cases c5 : (l0_1.length : Int) = 0
  ·rw [if_pos c5] at H
   have c5b0 : ((l0_1.length : Int) == 0) = true := beq_iff_eq.mpr c5
   have c5b1 : ((l0_1.length : Int) != 0) = false := bne_eq_false_iff_eq.mpr c5
   clear c5
   by_cases c6 : (l0_2.length : Int) = 0
   ·rw [if_pos c6] at H
    have c6b0 : ((l0_2.length : Int) == 0) = true := beq_iff_eq.mpr c6
    have c6b1 : ((l0_2.length : Int) != 0) = false := bne_eq_false_iff_eq.mpr c6
    clear c6
    obtain rfl := Option.some.inj H
    go_enter Try.func78, Try.ntmps78
    go_wp2_with (first | ((with_reducible refine qaK (N := 1) rfl ?_); (try (refine qbk (by rfl) ?_; dsimp only)); refine qaJ ?hg (N := 1) ?hd (cs := #[.bool false, .slice A0_1 l0_1.length c0_1, .slice A0_2 l0_2.length c0_2, .slice A0_3 l0_3.length c0_3]) (t := 56) ?hr ?_; (case hd => rfl); (case hg => rfl); (case hr => first | (go_simp; done) | (go_simp; rfl)); intro gb113 hg w7 hbox hb; have n0_ := Aside0.mk (qag (by repeat (first | (with_reducible first | exact HB.out | apply qac | apply qaa | apply qab) | exact HB.out)) hb); have n1_ := Aside0.mk (hbox); have n2_ := Aside0.mk ((by rw [hg]; exact (qah (by repeat (first | (with_reducible first | exact HB.out | apply qac | apply qaa | apply qab) | exact HB.out))) : w.heap.size ≤ gb113)); have n3_ := Aside0.mk ((by rw [hg]; exact (qah (by repeat (first | (with_reducible first | exact HB.out | apply qac | apply qaa | apply qab) | exact HB.out))) : w.heap.size ≤ gb113)); clear HB; have HB := n0_; have BK113 := n1_; have GW113 := n2_; have GE113 := n3_; clear n0_ n1_ n2_ n3_; clear hb hbox hg; have hcz8_0 : w7.cell? ⟨gb113, 0, none⟩ = some (.bool false) := (qae BK113.out 0).trans rfl; have hcz8_1 : w7.cell? ⟨gb113, 1, none⟩ = some (.slice A0_1 l0_1.length c0_1) := (qae BK113.out 1).trans rfl; have hcz8_2 : w7.cell? ⟨gb113, 2, none⟩ = some (.slice A0_2 l0_2.length c0_2) := (qae BK113.out 2).trans rfl; have hcz8_3 : w7.cell? ⟨gb113, 3, none⟩ = some (.slice A0_3 l0_3.length c0_3) := (qae BK113.out 3).trans rfl; have hfz8_0 := qad BK113.out 0; have hfz8_1 := qad BK113.out 1; have hfz8_2 := qad BK113.out 2; have hfz8_3 := qad BK113.out 3))
    go_ret
    exact ⟨by first | rfl | (simp [qai, qaj] <;> rfl) | (simp [*, qai, qaj] <;> rfl), by repeat (first | (with_reducible first | exact HB.out | apply qac | apply qaa | apply qab | refine qaf ?_ GE113.out) | exact HB.out)⟩
   ·rw [if_neg c6] at H
    have c6b0 : ((l0_2.length : Int) == 0) = false := beq_eq_false_iff_ne.mpr c6
    have c6b1 : ((l0_2.length : Int) != 0) = true := bne_iff_ne.mpr c6
    have c6b2 : ¬ (l0_2 = []) := fun h_ => c6 (by rw [h_]; rfl)
    obtain rfl := Option.some.inj H
    go_enter Try.func78, Try.ntmps78
    go_wp2_with (first | ((with_reducible refine qaK (N := 1) rfl ?_); (try (refine qbk (by rfl) ?_; dsimp only)); refine qaJ ?hg (N := 1) ?hd (cs := #[.bool false, .slice A0_1 l0_1.length c0_1, .slice A0_2 l0_2.length c0_2, .slice A0_3 l0_3.length c0_3]) (t := 56) ?hr ?_; (case hd => rfl); (case hg => rfl); (case hr => first | (go_simp; done) | (go_simp; rfl)); intro gb113 hg w9 hbox hb; have n0_ := Aside0.mk (qag (by repeat (first | (with_reducible first | exact HB.out | apply qac | apply qaa | apply qab) | exact HB.out)) hb); have n1_ := Aside0.mk (hbox); have n2_ := Aside0.mk ((by rw [hg]; exact (qah (by repeat (first | (with_reducible first | exact HB.out | apply qac | apply qaa | apply qab) | exact HB.out))) : w.heap.size ≤ gb113)); have n3_ := Aside0.mk ((by rw [hg]; exact (qah (by repeat (first | (with_reducible first | exact HB.out | apply qac | apply qaa | apply qab) | exact HB.out))) : w.heap.size ≤ gb113)); clear HB; have HB := n0_; have BK113 := n1_; have GW113 := n2_; have GE113 := n3_; clear n0_ n1_ n2_ n3_; clear hb hbox hg; have hcz10_0 : w9.cell? ⟨gb113, 0, none⟩ = some (.bool false) := (qae BK113.out 0).trans rfl; have hcz10_1 : w9.cell? ⟨gb113, 1, none⟩ = some (.slice A0_1 l0_1.length c0_1) := (qae BK113.out 1).trans rfl; have hcz10_2 : w9.cell? ⟨gb113, 2, none⟩ = some (.slice A0_2 l0_2.length c0_2) := (qae BK113.out 2).trans rfl; have hcz10_3 : w9.cell? ⟨gb113, 3, none⟩ = some (.slice A0_3 l0_3.length c0_3) := (qae BK113.out 3).trans rfl; have hfz10_0 := qad BK113.out 0; have hfz10_1 := qad BK113.out 1; have hfz10_2 := qad BK113.out 2; have hfz10_3 := qad BK113.out 3))
    go_ret
    exact ⟨by first | rfl | (simp [qai, qaj] <;> rfl) | (simp [*, qai, qaj] <;> rfl), by repeat (first | (with_reducible first | exact HB.out | apply qac | apply qaa | apply qab | refine qaf ?_ GE113.out) | exact HB.out)⟩
  ·rw [if_neg c5] at H
   have c5b0 : ((l0_1.length : Int) == 0) = false := beq_eq_false_iff_ne.mpr c5
   have c5b1 : ((l0_1.length : Int) != 0) = true := bne_iff_ne.mpr c5
   have c5b2 : ¬ (l0_1 = []) := fun h_ => c5 (by rw [h_]; rfl)
   obtain rfl := Option.some.inj H
   go_enter Try.func78, Try.ntmps78
   go_wp2_with (first | ((with_reducible refine qaK (N := 1) rfl ?_); (try (refine qbk (by rfl) ?_; dsimp only)); refine qaJ ?hg (N := 1) ?hd (cs := #[.bool false, .slice A0_1 l0_1.length c0_1, .slice A0_2 l0_2.length c0_2, .slice A0_3 l0_3.length c0_3]) (t := 56) ?hr ?_; (case hd => rfl); (case hg => rfl); (case hr => first | (go_simp; done) | (go_simp; rfl)); intro gb113 hg w11 hbox hb; have n0_ := Aside0.mk (qag (by repeat (first | (with_reducible first | exact HB.out | apply qac | apply qaa | apply qab) | exact HB.out)) hb); have n1_ := Aside0.mk (hbox); have n2_ := Aside0.mk ((by rw [hg]; exact (qah (by repeat (first | (with_reducible first | exact HB.out | apply qac | apply qaa | apply qab) | exact HB.out))) : w.heap.size ≤ gb113)); have n3_ := Aside0.mk ((by rw [hg]; exact (qah (by repeat (first | (with_reducible first | exact HB.out | apply qac | apply qaa | apply qab) | exact HB.out))) : w.heap.size ≤ gb113)); clear HB; have HB := n0_; have BK113 := n1_; have GW113 := n2_; have GE113 := n3_; clear n0_ n1_ n2_ n3_; clear hb hbox hg; have hcz12_0 : w11.cell? ⟨gb113, 0, none⟩ = some (.bool false) := (qae BK113.out 0).trans rfl; have hcz12_1 : w11.cell? ⟨gb113, 1, none⟩ = some (.slice A0_1 l0_1.length c0_1) := (qae BK113.out 1).trans rfl; have hcz12_2 : w11.cell? ⟨gb113, 2, none⟩ = some (.slice A0_2 l0_2.length c0_2) := (qae BK113.out 2).trans rfl; have hcz12_3 : w11.cell? ⟨gb113, 3, none⟩ = some (.slice A0_3 l0_3.length c0_3) := (qae BK113.out 3).trans rfl; have hfz12_0 := qad BK113.out 0; have hfz12_1 := qad BK113.out 1; have hfz12_2 := qad BK113.out 2; have hfz12_3 := qad BK113.out 3))
   go_ret
   exact ⟨by first | rfl | (simp [qai, qaj] <;> rfl) | (simp [*, qai, qaj] <;> rfl), by repeat (first | (with_reducible first | exact HB.out | apply qac | apply qaa | apply qab | refine qaf ?_ GE113.out) | exact HB.out)⟩
end Go.Proofs.Ytenfomejccfkgaa.X
