import Derived.Test.YtenfomejccfkgaaKFnExactCountRefs4
import Derived.Lib.Bytealg
import Derived.Laws.Externs
import Derived.Laws.Strings
import Derived.Sort.Walk0
import Derived.Deep.QuietTactic
import Derived.BigQuiet
import Derived.Below
namespace Go.Proofs.Ytenfomejccfkgaa.X
open Go.RowKit Go.Proofs.YtenfomejccfkgaaW.PrintWords Go.Proofs.YtenfomejccfkgaaW.PrintLast Go.Proofs.YtenfomejccfkgaaW.PrintMore
attribute [local go_sem] qaC qaD qaE qay qaz qaO qaP qas qat qaA qaB
set_option linter.unusedVariables false
set_option linter.unusedSimpArgs false
def qch (f : Nat → Bool) : Nat → Nat → Bool
 | _, 0 => true
 | i, d + 1 => f i && qch f (i + 1) d
def allB (f : Nat → Bool) (n : Nat) : Bool := qch f 0 n
theorem qeh (f : Nat → Bool) (d : Nat) : ∀ i, qch f i d = true ↔ ∀ j, i ≤ j → j < i + d → f j = true := by
 induction d with
 | zero => intro i; simp only [qch, true_iff]; intro j h1 h2; omega
 | succ d ih =>
  intro i
  simp only [qch, Bool.and_eq_true, ih]
  refine ⟨fun h j h1 h2 => ?_, fun h => ⟨h i (by omega) (by omega), fun j h1 h2 => h j (by omega) (by omega)⟩⟩
  rcases Nat.lt_or_ge i j with h3 | h3
  ·exact h.2 j h3 (by omega)
  ·rw [show j = i by omega]; exact h.1
theorem allB_iff {f : Nat → Bool} {n : Nat} : allB f n = true ↔ ∀ j, j < n → f j = true := by
 unfold allB
 rw [qeh]
 exact ⟨fun h j hj => h j (by omega) (by omega), fun h j _ hj => h j (by omega)⟩
theorem Ev.qch {g : Nat → Int → Option Bool} (f : Nat → Bool) (fin : Bool) (n : Nat) (hend : Ev (fun k => g k (n : Int)) fin) (hstep : ∀ i : Nat, i < n → ∀ r, Ev (fun k => g k ((i + 1 : Nat) : Int)) r → Ev (fun k => g k (i : Int)) (f i && r)) (d : Nat) : ∀ i : Nat, i + d = n → Ev (fun k => g k (i : Int)) (qch f i d && fin) := by
 induction d with
 | zero => intro i hi; rw [show i = n by omega]; simpa [X.qch] using hend
 | succ d ih =>
  intro i hi
  have := hstep i (by omega) _ (ih (i + 1) (by omega))
  simpa [X.qch, Bool.and_assoc] using this
theorem Ev.all {g : Nat → Int → Option Bool} (f : Nat → Bool) (fin : Bool) (n : Nat) (hend : Ev (fun k => g k (n : Int)) fin) (hstep : ∀ i : Nat, i < n → ∀ r, Ev (fun k => g k ((i + 1 : Nat) : Int)) r → Ev (fun k => g k (i : Int)) (f i && r)) : Ev (fun k => g k 0) (allB f n && fin) := Ev.qch f fin n hend hstep n 0 (by omega)
theorem qfF {n : Nat} (h : n < 9223372036854775807) (h0 : 0 < n) : wrap64 ((n : Int) - 1) = ((n - 1 : Nat) : Int) := by unfold wrap64; omega
theorem qfG {n : Nat} (h : n < 9223372036854775807) : wrap64 (((n + 1 : Nat) : Int) - 1) = ((n : Nat) : Int) := by unfold wrap64; omega
end Go.Proofs.Ytenfomejccfkgaa.X
namespace Go.Proofs.Ytenfomejccfkgaa.X
open Go.RowKit Go.Proofs.YtenfomejccfkgaaW.PrintWords Go.Proofs.YtenfomejccfkgaaW.PrintLast Go.Proofs.YtenfomejccfkgaaW.PrintMore
attribute [local go_sem] qaC qaD qaE qay qaz qaO qaP qas qat qaA qaB
set_option linter.unusedVariables false
set_option linter.unusedSimpArgs false
def qbg.f (a0 : Int) (a1 : Int) (a2 : Int) : Option (Bool) := if a0 ≥ a1 then (some (decide (a0 ≤ a2))) else (some false)
set_option maxHeartbeats 8000000 in
set_option maxRecDepth 100000 in
theorem qbg.calls (a0 : Int) (a1 : Int) (a2 : Int) (r : Bool) (w : World) (h : qbg.f a0 a1 a2 = some r) :
  Calls Try.prog 120 #[.int .i64 a0, .int .i64 a1, .int .i64 a2] w fun e w' => e = .returned (.bool r) ∧ qbk w w' := by
 have H : (if a0 ≥ a1 then (some (decide (a0 ≤ a2))) else (some false)) = some r := h
 clear h
 by_cases c4 : a0 ≥ a1
 ·rw [if_pos c4] at H
  have c4b0 : decide (a1 ≤ a0) = true := decide_eq_true c4
  clear c4
  obtain rfl := Option.some.inj H
  go_enter Try.func120, Try.ntmps120
  go_wp2
  go_ret
  exact ⟨by first | rfl | (simp; done) | (simp [*]; done), by repeat (first | exact qbk.refl _ | apply qbk.step)⟩
 ·rw [if_neg c4] at H
  have c4b0 : decide (a1 ≤ a0) = false := decide_eq_false c4
  clear c4
  obtain rfl := Option.some.inj H
  go_enter Try.func120, Try.ntmps120
  go_wp2
  go_ret
  exact ⟨by first | rfl | (simp; done) | (simp [*]; done), by repeat (first | exact qbk.refl _ | apply qbk.step)⟩
end Go.Proofs.Ytenfomejccfkgaa.X
namespace Go.Proofs.Ytenfomejccfkgaa.X
open Go.RowKit Go.Proofs.YtenfomejccfkgaaW.PrintWords Go.Proofs.YtenfomejccfkgaaW.PrintLast Go.Proofs.YtenfomejccfkgaaW.PrintMore
attribute [local go_sem] qaC qaD qaE qay qaz qaO qaP qas qat qaA qaB
set_option linter.unusedVariables false
set_option linter.unusedSimpArgs false
def qaK.f (a0 : Int) (a1 : Int) (a2 : Int) : Option (Bool) := if a1 ≤ a0 then (some (decide (a0 ≤ a2))) else (some false)
set_option maxHeartbeats 8000000 in
set_option maxRecDepth 100000 in
theorem qaK.calls (a0 : Int) (a1 : Int) (a2 : Int) (r : Bool) (w : World) (h : qaK.f a0 a1 a2 = some r) :
  Calls Try.prog 69 #[.int .i64 a0, .int .i64 a1, .int .i64 a2] w fun e w' => e = .returned (.bool r) ∧ qbk w w' := by
 have H : (if a1 ≤ a0 then (some (decide (a0 ≤ a2))) else (some false)) = some r := h
 clear h
 by_cases c4 : a1 ≤ a0
 ·rw [if_pos c4] at H
  have c4b0 : decide (a1 ≤ a0) = true := decide_eq_true c4
  clear c4
  obtain rfl := Option.some.inj H
  go_enter Try.func69, Try.ntmps69
  go_wp2
  go_ret
  exact ⟨by first | rfl | (simp; done) | (simp [*]; done), by repeat (first | exact qbk.refl _ | apply qbk.step)⟩
 ·rw [if_neg c4] at H
  have c4b0 : decide (a1 ≤ a0) = false := decide_eq_false c4
  clear c4
  obtain rfl := Option.some.inj H
  go_enter Try.func69, Try.ntmps69
  go_wp2
  go_ret
  exact ⟨by first | rfl | (simp; done) | (simp [*]; done), by repeat (first | exact qbk.refl _ | apply qbk.step)⟩
end Go.Proofs.Ytenfomejccfkgaa.X
namespace Go.Proofs.Ytenfomejccfkgaa.X
open Go.RowKit Go.Proofs.YtenfomejccfkgaaW.PrintWords Go.Proofs.YtenfomejccfkgaaW.PrintLast Go.Proofs.YtenfomejccfkgaaW.PrintMore
attribute [local go_sem] qaC qaD qaE qay qaz qaO qaP qas qat qaA qaB
set_option linter.unusedVariables false
set_option linter.unusedSimpArgs false
def inB (x a b : Int) : Bool := decide (a ≤ x) && decide (x ≤ b)
theorem qf9 (x a b : Int) : qaK.f x a b = some (inB x a b) := by
 unfold qaK.f inB
 by_cases h : a ≤ x <;> simp [h]
theorem qfa (x a b : Int) : qbg.f x a b = some (inB x a b) := by
 unfold qbg.f inB
 by_cases h : a ≤ x
 ·rw [if_pos (by omega)]; simp [h]
 ·rw [if_neg (by omega)]; simp [h]
end Go.Proofs.Ytenfomejccfkgaa.X
namespace Go.Proofs.Ytenfomejccfkgaa.X
open Go.RowKit Go.Proofs.YtenfomejccfkgaaW.PrintWords Go.Proofs.YtenfomejccfkgaaW.PrintLast Go.Proofs.YtenfomejccfkgaaW.PrintMore
attribute [local go_sem] qaC qaD qaE qay qaz qaO qaP qas qat qaA qaB
set_option linter.unusedVariables false
set_option linter.unusedSimpArgs false
theorem qei {a b c : List UInt8} (h : Op.bytesLess a b = true) (k : Op.bytesLess b c = true) : Op.bytesLess a c = true := by
 rw [bytesLess_eq] at *
 simp only [decide_eq_true_eq] at *
 exact List.lt_trans h k
end Go.Proofs.Ytenfomejccfkgaa.X
namespace Go.Proofs.Ytenfomejccfkgaa.X
open Go.RowKit Go.Proofs.YtenfomejccfkgaaW.PrintWords Go.Proofs.YtenfomejccfkgaaW.PrintLast Go.Proofs.YtenfomejccfkgaaW.PrintMore
attribute [local go_sem] qaC qaD qaE qay qaz qaO qaP qas qat qaA qaB
set_option linter.unusedVariables false
set_option linter.unusedSimpArgs false
def qbO.f (a0 : ByteArray) : Option (Bool) := (qbg.f (a0.size : Int) 1 30).bind fun t198 => (some t198)
set_option maxHeartbeats 8000000 in
set_option maxRecDepth 100000 in
theorem qbO.calls (a0 : ByteArray) (r : Bool) (w : World) (h : qbO.f a0 = some r) :
  Calls Try.prog 71 #[.string a0] w fun e w' => e = .returned (.bool r) ∧ qbk w w' := by
 have H : ((qbg.f (a0.size : Int) 1 30).bind fun t198 => (some t198)) = some r := h
 clear h
 replace H := Option.bind_eq_some_iff.mp H
 obtain ⟨t198, A20, H⟩ := H
 replace H : (some t198) = some r := H
 have A2 := Aside0.mk A20
 clear A20
 obtain rfl := Option.some.inj H
 go_enter Try.func71, Try.ntmps71
 go_wp2_with (first | ((with_reducible refine qax (f := 120) rfl ?_); refine qbl (some 5) rfl rfl Try.func120 (by kernel_rfl) rfl #[.int .i64 (a0.size : Int), .int .i64 1, .int .i64 30] rfl (by (try simp only [List.map_toArray, List.map_cons, List.map_nil]); first | done | rfl | (simp only [List.length_drop, List.length_take]; rfl)) ?_; (with_reducible refine (qbg.calls (a0.size : Int) 1 30 t198 _ A2.out).mono ?_); rintro e w' ⟨rfl, ⟨nd, rfl⟩⟩; refine ⟨_, rfl, ?_⟩))
 go_ret
 exact ⟨by first | rfl | (simp; done) | (simp [*]; done), by repeat (first | exact qbk.refl _ | apply qbk.step)⟩
end Go.Proofs.Ytenfomejccfkgaa.X
namespace Go.Proofs.Ytenfomejccfkgaa.X
open Go.RowKit Go.Proofs.YtenfomejccfkgaaW.PrintWords Go.Proofs.YtenfomejccfkgaaW.PrintLast Go.Proofs.YtenfomejccfkgaaW.PrintMore
attribute [local go_sem] qaC qaD qaE qay qaz qaO qaP qas qat qaA qaB
set_option linter.unusedVariables false
set_option linter.unusedSimpArgs false
def keyB (s : ByteArray) : Bool := decide (1 ≤ s.size) && decide (s.size ≤ 30)
theorem spec_key (s : ByteArray) : qaK.f (s.size : Int) 1 30 = some (keyB s) := by
 unfold qaK.f keyB
 by_cases h : 1 ≤ s.size
 ·rw [if_pos (by omega), decide_eq_true h]
  have e : ((s.size : Int) ≤ 30) = (s.size ≤ 30) := propext (by omega)
  simp [e]
 ·rw [if_neg (by omega), decide_eq_false h]
  rfl
theorem qgo (s : ByteArray) : qbO.f s = some (keyB s) := by
 unfold qbO.f qbg.f keyB
 by_cases h : 1 ≤ s.size
 ·rw [if_pos (by omega), decide_eq_true h]
  have e : ((s.size : Int) ≤ 30) = (s.size ≤ 30) := propext (by omega)
  simp [e]
 ·rw [if_neg (by omega), decide_eq_false h]
  rfl
end Go.Proofs.Ytenfomejccfkgaa.X
namespace Go.Proofs.Ytenfomejccfkgaa.X
open Go.RowKit Go.Proofs.YtenfomejccfkgaaW.PrintWords Go.Proofs.YtenfomejccfkgaaW.PrintLast Go.Proofs.YtenfomejccfkgaaW.PrintMore
attribute [local go_sem] qaC qaD qaE qay qaz qaO qaP qas qat qaA qaB
set_option linter.unusedVariables false
set_option linter.unusedSimpArgs false
def qbD.f (a0_0 : ByteArray) (a0_1 : ByteArray) : Option (Bool) := (qaK.f (a0_0.size : Int) 1 30).bind fun t115 => (if t115 = true then (some (decide ((a0_1.size : Int) ≤ 90))) else (some false))
set_option maxHeartbeats 8000000 in
set_option maxRecDepth 100000 in
theorem qbD.calls (a0_0 : ByteArray) (a0_1 : ByteArray) (r : Bool) (w : World) (h : qbD.f a0_0 a0_1 = some r) :
  Calls Try.prog 162 #[.agg #[.string a0_0, .string a0_1]] w fun e w' => e = .returned (.bool r) ∧ Below w.heap.size w w' := by
 have hu99 := Try.underlying99
 have HB := Aside0.mk (Below.refl w.heap.size w)
 have H : ((qaK.f (a0_0.size : Int) 1 30).bind fun t115 => (if t115 = true then (some (decide ((a0_1.size : Int) ≤ 90))) else (some false))) = some r := h
 clear h
 replace H := Option.bind_eq_some_iff.mp H
 obtain ⟨t115, A20, H⟩ := H
 replace H : (if t115 = true then (some (decide ((a0_1.size : Int) ≤ 90))) else (some false)) = some r := H
 have A2 := Aside0.mk A20
 clear A20
 by_cases c3 : t115 = true
 ·subst c3
  have H1 : (some (decide ((a0_1.size : Int) ≤ 90))) = some r := by rw [if_pos rfl] at H; exact H
  clear H
  have H := H1
  clear H1
  obtain rfl := Option.some.inj H
  go_enter Try.func162, Try.ntmps162
  go_wp2_with (first | ((with_reducible refine qaQ (N := 1) rfl ?_); (try (refine qbo (by rfl) ?_; dsimp only)); refine qaL ?hg (N := 1) ?hd (cs := #[.string a0_0, .string a0_1]) (t := 99) ?hr ?_; (case hd => rfl); (case hg => rfl); (case hr => first | (go_simp; done) | (go_simp; rfl)); intro gb114 hg w4 hbox hb; have n0_ := Aside0.mk (qai (by repeat (first | (with_reducible first | exact HB.out | apply qab | apply qaa | apply qac) | exact HB.out)) hb); have n1_ := Aside0.mk (hbox); have n2_ := Aside0.mk ((by rw [hg]; exact (qaj (by repeat (first | (with_reducible first | exact HB.out | apply qab | apply qaa | apply qac) | exact HB.out))) : w.heap.size ≤ gb114)); have n3_ := Aside0.mk ((by rw [hg]; exact (qaj (by repeat (first | (with_reducible first | exact HB.out | apply qab | apply qaa | apply qac) | exact HB.out))) : w.heap.size ≤ gb114)); clear HB; have HB := n0_; have BK114 := n1_; have GW114 := n2_; have GE114 := n3_; clear n0_ n1_ n2_ n3_; clear hb hbox hg; have hcz5_0 : w4.cell? ⟨gb114, 0, none⟩ = some (.string a0_0) := (qae BK114.out 0).trans rfl; have hcz5_1 : w4.cell? ⟨gb114, 1, none⟩ = some (.string a0_1) := (qae BK114.out 1).trans rfl; have hfz5_0 := qad BK114.out 0; have hfz5_1 := qad BK114.out 1) | ((with_reducible refine qax (f := 69) rfl ?_); refine qbl (some 6) rfl rfl Try.func69 (by kernel_rfl) rfl #[.int .i64 (a0_0.size : Int), .int .i64 1, .int .i64 30] rfl (by (try simp only [List.map_toArray, List.map_cons, List.map_nil]); first | done | rfl | (simp only [List.length_drop, List.length_take]; rfl)) ?_; (with_reducible refine (qaK.calls (a0_0.size : Int) 1 30 true _ A2.out).mono ?_); rintro e w' ⟨rfl, ⟨nd, rfl⟩⟩; refine ⟨_, rfl, ?_⟩))
  go_ret
  exact ⟨by first | rfl | (simp [qal, qam] <;> rfl) | (simp [*, qal, qam] <;> rfl), by repeat (first | (with_reducible first | exact HB.out | apply qab | apply qaa | apply qac | refine qaf ?_ GE114.out) | exact HB.out)⟩
 ·replace c3 := Bool.eq_false_iff.mpr c3
  subst c3
  have H1 : (some false) = some r := by rw [if_neg (show ¬ (false = true) by decide)] at H; exact H
  clear H
  have H := H1
  clear H1
  obtain rfl := Option.some.inj H
  go_enter Try.func162, Try.ntmps162
  go_wp2_with (first | ((with_reducible refine qaQ (N := 1) rfl ?_); (try (refine qbo (by rfl) ?_; dsimp only)); refine qaL ?hg (N := 1) ?hd (cs := #[.string a0_0, .string a0_1]) (t := 99) ?hr ?_; (case hd => rfl); (case hg => rfl); (case hr => first | (go_simp; done) | (go_simp; rfl)); intro gb114 hg w6 hbox hb; have n0_ := Aside0.mk (qai (by repeat (first | (with_reducible first | exact HB.out | apply qab | apply qaa | apply qac) | exact HB.out)) hb); have n1_ := Aside0.mk (hbox); have n2_ := Aside0.mk ((by rw [hg]; exact (qaj (by repeat (first | (with_reducible first | exact HB.out | apply qab | apply qaa | apply qac) | exact HB.out))) : w.heap.size ≤ gb114)); have n3_ := Aside0.mk ((by rw [hg]; exact (qaj (by repeat (first | (with_reducible first | exact HB.out | apply qab | apply qaa | apply qac) | exact HB.out))) : w.heap.size ≤ gb114)); clear HB; have HB := n0_; have BK114 := n1_; have GW114 := n2_; have GE114 := n3_; clear n0_ n1_ n2_ n3_; clear hb hbox hg; have hcz7_0 : w6.cell? ⟨gb114, 0, none⟩ = some (.string a0_0) := (qae BK114.out 0).trans rfl; have hcz7_1 : w6.cell? ⟨gb114, 1, none⟩ = some (.string a0_1) := (qae BK114.out 1).trans rfl; have hfz7_0 := qad BK114.out 0; have hfz7_1 := qad BK114.out 1) | ((with_reducible refine qax (f := 69) rfl ?_); refine qbl (some 6) rfl rfl Try.func69 (by kernel_rfl) rfl #[.int .i64 (a0_0.size : Int), .int .i64 1, .int .i64 30] rfl (by (try simp only [List.map_toArray, List.map_cons, List.map_nil]); first | done | rfl | (simp only [List.length_drop, List.length_take]; rfl)) ?_; (with_reducible refine (qaK.calls (a0_0.size : Int) 1 30 false _ A2.out).mono ?_); rintro e w' ⟨rfl, ⟨nd, rfl⟩⟩; refine ⟨_, rfl, ?_⟩))
  go_ret
  exact ⟨by first | rfl | (simp [qal, qam] <;> rfl) | (simp [*, qal, qam] <;> rfl), by repeat (first | (with_reducible first | exact HB.out | apply qab | apply qaa | apply qac | refine qaf ?_ GE114.out) | exact HB.out)⟩
end Go.Proofs.Ytenfomejccfkgaa.X
namespace Go.Proofs.Ytenfomejccfkgaa.X
open Go.RowKit Go.Proofs.YtenfomejccfkgaaW.PrintWords Go.Proofs.YtenfomejccfkgaaW.PrintLast Go.Proofs.YtenfomejccfkgaaW.PrintMore
attribute [local go_sem] qaC qaD qaE qay qaz qaO qaP qas qat qaA qaB
set_option linter.unusedVariables false
set_option linter.unusedSimpArgs false
structure Later (w : World) where
 val : World
 below : Below w.heap.size w val
instance Later.here (w : World) : Inhabited (Later w) := ⟨⟨w, Below.refl _ _⟩⟩
theorem Later.cell {w : World} (p : Later w) {a : Addr} {v : Value} (h : w.cell? a = some v) : p.val.cell? a = some v := qcS p.below h
theorem qbn {P : Program} {id : Nat} {Q : Exit → Act → World → Prop} {a : Act} {w : World} {l : List Oper} (hm : P.follows .mixedOrders = true) (hB : Region.lexB .any l.toArray = true)
  (h : wpQuiet P l.toArray (fun w' => ∃ p : Later w.drew, w' = p.val) (fun a' => ∀ w', (∃ p : Later w.drew, w' = p.val) → Q .normal a' w') l a) : (Code.region id l.toArray true).wp P Q a w :=
 wp_region_quiet (C := fun w' => ∃ p : Later w.drew, w' = p.val) hm hB ⟨⟨w.drew, Below.refl _ _⟩, rfl⟩ (by simpa using h)
theorem Calls.qbK {P : Program} {f : FuncId} {args : Array Value} {w : World} {p : Later w} {v : Value}
  (h : Calls P f args p.val fun e w' => e = .returned v ∧ Below p.val.heap.size p.val w') : Calls P f args p.val fun e w'' => e = .returned v ∧ ∃ q : Later w, w'' = q.val :=
 h.mono fun _ _ ⟨he, hb⟩ => ⟨he, ⟨_, qai p.below hb⟩, rfl⟩
theorem Calls.qbh {P : Program} {f : FuncId} {args : Array Value} {w : World} {p : Later w} {v : Value}
  (h : Calls P f args p.val fun e w' => e = .returned v ∧ qbk p.val w') : Calls P f args p.val fun e w'' => e = .returned v ∧ ∃ q : Later w, w'' = q.val :=
 Calls.qbK (h.mono fun _ _ ⟨he, hb⟩ => ⟨he, hb.below⟩)
end Go.Proofs.Ytenfomejccfkgaa.X
namespace Go.Proofs.Ytenfomejccfkgaa.X
open Go.RowKit Go.Proofs.YtenfomejccfkgaaW.PrintWords Go.Proofs.YtenfomejccfkgaaW.PrintLast Go.Proofs.YtenfomejccfkgaaW.PrintMore
attribute [local go_sem] qaC qaD qaE qay qaz qaO qaP qas qat qaA qaB
set_option linter.unusedVariables false
set_option linter.unusedSimpArgs false
def qaI.l0 : Nat → List (S99) → Int → Option (Bool)
 | 0, _, _ => none
 | k + 1, x0, x3 => if x3 < (x0.length : Int) then (if 0 ≤ x3 then ((qbD.f ((qaF x0 x3).f0) ((qaF x0 x3).f1)).bind fun t117 => (if t117 = true then (if x3 > 0 then (if 0 ≤ (wrap64 (x3 - 1)) then (if (wrap64 (x3 - 1)) < (x0.length : Int) then (if ((Op.bytesLess (((qaF x0 (wrap64 (x3 - 1))).f0).toList) (((qaF x0 x3).f0).toList)) = true) then (qaI.l0 k x0 (wrap64 (x3 + 1))) else (some false)) else (none)) else (none)) else (qaI.l0 k x0 (wrap64 (x3 + 1)))) else (some false))) else (none)) else (some true)
def qaI.f (k : Nat) (l0 : List (S99)) : Option (Bool) := if (l0.length : Int) > 4096 then (some false) else (if (l0.length : Int) > 60 then (some false) else (qaI.l0 k l0 0))
theorem qaI.qbm : ∀ k, (∀ y0 y1, LeO (qaI.l0 k y0 y1) (qaI.l0 (k + 1) y0 y1))
 | 0 => fun _ _ r h => by simp [qaI.l0] at h
 | k + 1 => by
  have ih0 := qaI.qbm k
  ·intro y0 y1
   unfold qaI.l0
   repeat' first
   | (with_reducible exact ih0 _ _)
   | (with_reducible exact LeO.refl _)
   | (with_reducible exact LeO.none _)
   | (with_reducible refine LeO.ite ?_ ?_)
   | (with_reducible refine LeO.bind ?_ (fun _ => ?_))
   | exact ih0 _ _
   | exact LeO.none _
   | refine LeO.ite ?_ ?_
   | refine LeO.bind ?_ (fun _ => ?_)
theorem qaI.mono : ∀ a0 k, LeO (qaI.f k a0) (qaI.f (k + 1) a0) := by
 intro a0 k
 have ih0 := qaI.qbm k
 unfold qaI.f
 repeat' first
   | (with_reducible exact ih0 _ _)
   | (with_reducible exact LeO.refl _)
   | (with_reducible exact LeO.none _)
   | (with_reducible refine LeO.ite ?_ ?_)
   | (with_reducible refine LeO.bind ?_ (fun _ => ?_))
   | exact ih0 _ _
   | exact LeO.none _
   | refine LeO.ite ?_ ?_
   | refine LeO.bind ?_ (fun _ => ?_)
def qaI.T8 : Bool × List (List Nat × List Nat) := (true, [([], []), ([], []), ([0, 1], [0, 1]), ([2], [2]), ([3], [3]), ([4], [4]), ([5, 4], [5]), ([6], [6]), ([7, 6], [6, 7]), ([8, 6, 6], [6, 8]), ([9], [9]), ([9], [9]), ([11, 9], [9, 11]), ([10, 12, 9], [9, 10, 12]), ([13, 9], [9, 13]), ([14, 9], [9, 14]), ([9], [9]), ([9], [9]), ([16, 17, 9], [9, 16, 17]), ([18, 9], [9, 18]), ([19, 9], [9, 19]), ([15, 20, 9], [9, 15, 20]), ([9, 21, 6], [6, 9, 21]), ([6, 22], [6, 22])])
def qaI.B8 : List Nat := [0, 0, 3, 7, 15, 31, 63, 127, 255, 511, 1023, 1023, 3071, 8191, 16383, 32767, 1023, 1023, 197631, 459775, 984063, 2097151, 4194303, 8388607]
theorem qaI.tab8 : rtab .any (opsOf Try.f125 8) = qaI.T8 := by kernel_rfl
theorem qaI.bits8 : qbX qaI.T8.2 qaI.B8 = true := by kernel_rfl
set_option maxHeartbeats 8000000 in
set_option maxRecDepth 100000 in
theorem qaI.calls (k : Nat) (A0 : Option Addr) (c0 : Nat) (l0 : List (S99)) (r : Bool) (w : World) (hr0 : Kd.C k99 w A0 l0.length l0) (hc0 : l0.length ≤ c0) (h : qaI.f k l0 = some r) :
  Calls Try.prog 125 #[.slice A0 l0.length c0] w fun e w' => e = .returned (.bool r) ∧ Below w.heap.size w w' := by
 have hu99 := Try.underlying99
 have HR0 := Aside0.mk hr0
 have HC0 := Aside0.mk hc0
 clear hr0 hc0
 have HB := Aside0.mk (Below.refl w.heap.size w)
 have H : (if (l0.length : Int) > 4096 then (some false) else (if (l0.length : Int) > 60 then (some false) else (qaI.l0 k l0 0))) = some r := h
 clear h
 by_cases c2 : (l0.length : Int) > 4096
 ·rw [if_pos c2] at H
  have c2b0 : decide (4096 < (l0.length : Int)) = true := decide_eq_true c2
  have c2b1 : decide (4096 < l0.length) = true := decide_eq_true (by omega)
  clear c2
  obtain rfl := Option.some.inj H
  go_enter Try.func125, Try.ntmps125
  go_wp2
  go_ret
  exact ⟨by first | rfl | (simp [qal, qam] <;> rfl) | (simp [*, qal, qam] <;> rfl), by repeat (first | (with_reducible first | exact HB.out | apply qab | apply qaa | apply qac) | exact HB.out)⟩
 ·rw [if_neg c2] at H
  have c2b0 : decide (4096 < (l0.length : Int)) = false := decide_eq_false c2
  have c2b1 : decide (4096 < l0.length) = false := decide_eq_false (by omega)
  clear c2
  by_cases c3 : (l0.length : Int) > 60
  ·rw [if_pos c3] at H
   have c3b0 : decide (60 < (l0.length : Int)) = true := decide_eq_true c3
   have c3b1 : decide (60 < l0.length) = true := decide_eq_true (by omega)
   clear c3
   obtain rfl := Option.some.inj H
   go_enter Try.func125, Try.ntmps125
   go_wp2
   go_ret
   exact ⟨by first | rfl | (simp [qal, qam] <;> rfl) | (simp [*, qal, qam] <;> rfl), by repeat (first | (with_reducible first | exact HB.out | apply qab | apply qaa | apply qac) | exact HB.out)⟩
  ·rw [if_neg c3] at H
   have c3b0 : decide (60 < (l0.length : Int)) = false := decide_eq_false c3
   have c3b1 : decide (60 < l0.length) = false := decide_eq_false (by omega)
   clear c3
   have H' := Aside0.mk H
   clear H
   go_enter Try.func125, Try.ntmps125
   go_wp2
   go_loopg [3] k (fun kq v3 w' => ∃ (x3_1 : Int), v3 = .int .i64 x3_1 ∧ Aside0 (qaI.l0 kq l0 x3_1 = some r) ∧ Aside0 (kq ≤ k) ∧ Aside0 (Below w.heap.size w w'))
   case atStart => exact ⟨(0), (by first | rfl | (simp; done) | (simp [*]; done)), H', ⟨Nat.le_refl _⟩, ⟨by repeat (first | (with_reducible first | exact HB.out | apply qab | apply qaa | apply qac) | exact HB.out)⟩⟩
   case round =>
    clear H'
    try clear c1
    try clear c2
    try clear c2b0
    try clear c2b1
    try clear p2
    try clear c3
    try clear c3b0
    try clear c3b1
    obtain ⟨x3_1, rfl, HA, HK1, HB⟩ := hrel
    cases gk with
    | zero => exact absurd HA.out (by simp [qaI.l0])
    | succ k1 =>
     have H := HA.out
     clear HA
     simp only [qaI.l0] at H
     by_cases c4 : x3_1 < (l0.length : Int)
     ·rw [if_pos c4] at H
      have c4b0 : decide (x3_1 < (l0.length : Int)) = true := decide_eq_true c4
      clear c4
      by_cases c5 : 0 ≤ x3_1
      ·rw [if_pos c5] at H
       have c5b0 : decide (0 ≤ x3_1) = true := decide_eq_true c5
       clear c5
       replace H := Option.bind_eq_some_iff.mp H
       obtain ⟨t117, A60, H⟩ := H
       replace H : (if t117 = true then (if x3_1 > 0 then (if 0 ≤ (wrap64 (x3_1 - 1)) then (if (wrap64 (x3_1 - 1)) < (l0.length : Int) then (if ((Op.bytesLess (((qaF l0 (wrap64 (x3_1 - 1))).f0).toList) (((qaF l0 x3_1).f0).toList)) = true) then (qaI.l0 k1 l0 (wrap64 (x3_1 + 1))) else (some false)) else (none)) else (none)) else (qaI.l0 k1 l0 (wrap64 (x3_1 + 1)))) else (some false)) = some r := H
       have A6 := Aside0.mk A60
       clear A60
       by_cases c7 : t117 = true
       ·subst c7
        have H1 : (if x3_1 > 0 then (if 0 ≤ (wrap64 (x3_1 - 1)) then (if (wrap64 (x3_1 - 1)) < (l0.length : Int) then (if ((Op.bytesLess (((qaF l0 (wrap64 (x3_1 - 1))).f0).toList) (((qaF l0 x3_1).f0).toList)) = true) then (qaI.l0 k1 l0 (wrap64 (x3_1 + 1))) else (some false)) else (none)) else (none)) else (qaI.l0 k1 l0 (wrap64 (x3_1 + 1)))) = some r := by rw [if_pos rfl] at H; exact H
        clear H
        have H := H1
        clear H1
        by_cases c8 : x3_1 > 0
        ·rw [if_pos c8] at H
         have c8b0 : decide (0 < x3_1) = true := decide_eq_true c8
         clear c8
         obtain ⟨ji9, hji9⟩ : ∃ j_ : Int, (wrap64 (x3_1 - 1)) = j_ := ⟨_, rfl⟩
         replace H : (if 0 ≤ (ji9) then (if (ji9) < (l0.length : Int) then (if ((Op.bytesLess (((qaF l0 (ji9)).f0).toList) (((qaF l0 x3_1).f0).toList)) = true) then (qaI.l0 k1 l0 (wrap64 (x3_1 + 1))) else (some false)) else (none)) else (none)) = some r := by first | (rw [hji9] at H; exact H) | (simp only [hji9] at H ⊢; exact H)
         (try rw [hji9] at A6)
         have hji9w : (IntKind.i64.wrap (x3_1 - 1)) = ji9 := (qaS _).trans hji9
         by_cases c10 : 0 ≤ (ji9)
         ·rw [if_pos c10] at H
          have c10b0 : decide (0 ≤ (ji9)) = true := decide_eq_true c10
          clear c10
          by_cases c11 : (ji9) < (l0.length : Int)
          ·rw [if_pos c11] at H
           have c11b0 : decide ((ji9) < (l0.length : Int)) = true := decide_eq_true c11
           clear c11
           by_cases c12 : ((Op.bytesLess (((qaF l0 (ji9)).f0).toList) (((qaF l0 x3_1).f0).toList)) = true)
           ·rw [if_pos c12] at H
            have c12b0 : (Op.bytesLess (((qaF l0 (ji9)).f0).toList) (((qaF l0 x3_1).f0).toList)) = true := c12
            clear c12
            have H' := Aside0.mk H
            clear H
            try go_wp2
            have n0_ := Aside0.mk (qac HB.out)
            clear HB
            have HB := n0_
            clear n0_
            have p116 : 0 ≤ (x3_1 : Int) := of_decide_eq_true (by first | (with_reducible assumption) | assumption)
            have q116 : x3_1 < (l0.length : Int) := of_decide_eq_true (by first | (with_reducible assumption) | assumption)
            obtain ⟨ad116, e116, hx116_0, hx116_1⟩ := qcs HR0.out x3_1 p116 q116
            have hw116_1 := hx116_1
            have hw116_0 := hx116_0
            cases e116
            replace hx116_0 := (HB.out.cell (World.block_lt_of_cell? w _ hx116_0)).trans hx116_0
            replace hx116_1 := (HB.out.cell (World.block_lt_of_cell? w _ hx116_1)).trans hx116_1
            replace p116 := eq_true p116
            replace q116 := eq_true q116
            have p118 : 0 ≤ ((ji9) : Int) := of_decide_eq_true (by first | (with_reducible assumption) | assumption)
            have q118 : (ji9) < (l0.length : Int) := of_decide_eq_true (by first | (with_reducible assumption) | assumption)
            obtain ⟨ad118, e118, hx118_0, hx118_1⟩ := qcs HR0.out (ji9) p118 q118
            have hw118_1 := hx118_1
            have hw118_0 := hx118_0
            obtain rfl : ad116 = ad118 := (by injection e118)
            replace hx118_0 := (HB.out.cell (World.block_lt_of_cell? w _ hx118_0)).trans hx118_0
            replace hx118_1 := (HB.out.cell (World.block_lt_of_cell? w _ hx118_1)).trans hx118_1
            replace p118 := eq_true p118
            replace q118 := eq_true q118
            have p119 : 0 ≤ (x3_1 : Int) := of_decide_eq_true (by first | (with_reducible assumption) | assumption)
            have q119 : x3_1 < (l0.length : Int) := of_decide_eq_true (by first | (with_reducible assumption) | assumption)
            obtain ⟨ad119, e119, hx119_0, hx119_1⟩ := qcs HR0.out x3_1 p119 q119
            have hw119_1 := hx119_1
            have hw119_0 := hx119_0
            obtain rfl : ad116 = ad119 := (by injection e119)
            replace hx119_0 := (HB.out.cell (World.block_lt_of_cell? w _ hx119_0)).trans hx119_0
            replace hx119_1 := (HB.out.cell (World.block_lt_of_cell? w _ hx119_1)).trans hx119_1
            replace p119 := eq_true p119
            replace q119 := eq_true q119
            refine qbn (by kernel_rfl) (by kernel_rfl) ?_
            have hL0_ := Aside0.mk (show wr.drew.cell? (ad116.add ((x3_1).toNat * 2)) = some (.string ((qaF l0 x3_1).f0)) from ((HB.out.cell (World.block_lt_of_cell? w _ hw116_0)).trans hw116_0))
            have hL1_ := Aside0.mk (show wr.drew.cell? ⟨(ad116.add ((x3_1).toNat * 2)).block, (ad116.add ((x3_1).toNat * 2)).off + 1, none⟩ = some (.string ((qaF l0 x3_1).f1)) from ((HB.out.cell (World.block_lt_of_cell? w _ hw116_1)).trans hw116_1))
            have hL2_ := Aside0.mk (show wr.drew.cell? (ad116.add (((ji9)).toNat * 2)) = some (.string ((qaF l0 (ji9)).f0)) from ((HB.out.cell (World.block_lt_of_cell? w _ hw118_0)).trans hw118_0))
            have hL3_ := Aside0.mk (show wr.drew.cell? ⟨(ad116.add (((ji9)).toNat * 2)).block, (ad116.add (((ji9)).toNat * 2)).off + 1, none⟩ = some (.string ((qaF l0 (ji9)).f1)) from ((HB.out.cell (World.block_lt_of_cell? w _ hw118_1)).trans hw118_1))
            have hL4_ := Aside0.mk (show wr.drew.cell? (ad116.add ((x3_1).toNat * 2)) = some (.string ((qaF l0 x3_1).f0)) from ((HB.out.cell (World.block_lt_of_cell? w _ hw119_0)).trans hw119_0))
            have hL5_ := Aside0.mk (show wr.drew.cell? ⟨(ad116.add ((x3_1).toNat * 2)).block, (ad116.add ((x3_1).toNat * 2)).off + 1, none⟩ = some (.string ((qaF l0 x3_1).f1)) from ((HB.out.cell (World.block_lt_of_cell? w _ hw119_1)).trans hw119_1))
            generalize wr.drew = w13 at HB hx116_0 hx116_1 hx118_0 hx118_1 hx119_0 hx119_1 hL0_ hL1_ hL2_ hL3_ hL4_ hL5_ ⊢
            clear hx116_0 hx116_1 hx118_0 hx118_1 hx119_0 hx119_1
            have hL0 := fun (p_ : Later w13) => Later.cell p_ hL0_.out
            have hL1 := fun (p_ : Later w13) => Later.cell p_ hL1_.out
            have hL2 := fun (p_ : Later w13) => Later.cell p_ hL2_.out
            have hL3 := fun (p_ : Later w13) => Later.cell p_ hL3_.out
            have hL4 := fun (p_ : Later w13) => Later.cell p_ hL4_.out
            have hL5 := fun (p_ : Later w13) => Later.cell p_ hL5_.out
            clear hL0_ hL1_ hL2_ hL3_ hL4_ hL5_
            repeat (first | go_big_quiet_step ((first | (go_at_call 162; exact Calls.qbK (qbD.calls ((qaF l0 x3_1).f0) ((qaF l0 x3_1).f1) true _ A6.out)))) | quiet_step ((first | (go_at_call 162; exact Calls.qbK (qbD.calls ((qaF l0 x3_1).f0) ((qaF l0 x3_1).f1) true _ A6.out)))))
            refine wpQuiet_nil ?_
            rintro w14 ⟨⟨wq_, hbL⟩, hq_⟩
            have hq2_ : w14 = wq_ := hq_
            clear hq_
            subst hq2_
            clear hL0 hL1 hL2 hL3 hL4 hL5
            have nHB_ := Aside0.mk (qai HB.out hbL)
            clear HB
            have HB := nHB_
            clear nHB_
            clear hbL
            try go_wp2
            go_roundg k1
            case measure => have := HK1.out; omega
            case rel => exact ⟨(wrap64 (x3_1 + 1)), (by first | rfl | (simp; done) | (simp [*]; done)), H', ⟨by have := HK1.out; omega⟩, ⟨by repeat (first | (with_reducible first | exact HB.out | apply qab | apply qaa | apply qac) | exact HB.out)⟩⟩
           ·rw [if_neg c12] at H
            have c12b0 : (Op.bytesLess (((qaF l0 (ji9)).f0).toList) (((qaF l0 x3_1).f0).toList)) = false := by simpa using c12
            clear c12
            obtain rfl := Option.some.inj H
            try go_wp2
            have n0_ := Aside0.mk (qac HB.out)
            clear HB
            have HB := n0_
            clear n0_
            have p116 : 0 ≤ (x3_1 : Int) := of_decide_eq_true (by first | (with_reducible assumption) | assumption)
            have q116 : x3_1 < (l0.length : Int) := of_decide_eq_true (by first | (with_reducible assumption) | assumption)
            obtain ⟨ad116, e116, hx116_0, hx116_1⟩ := qcs HR0.out x3_1 p116 q116
            have hw116_1 := hx116_1
            have hw116_0 := hx116_0
            cases e116
            replace hx116_0 := (HB.out.cell (World.block_lt_of_cell? w _ hx116_0)).trans hx116_0
            replace hx116_1 := (HB.out.cell (World.block_lt_of_cell? w _ hx116_1)).trans hx116_1
            replace p116 := eq_true p116
            replace q116 := eq_true q116
            have p118 : 0 ≤ ((ji9) : Int) := of_decide_eq_true (by first | (with_reducible assumption) | assumption)
            have q118 : (ji9) < (l0.length : Int) := of_decide_eq_true (by first | (with_reducible assumption) | assumption)
            obtain ⟨ad118, e118, hx118_0, hx118_1⟩ := qcs HR0.out (ji9) p118 q118
            have hw118_1 := hx118_1
            have hw118_0 := hx118_0
            obtain rfl : ad116 = ad118 := (by injection e118)
            replace hx118_0 := (HB.out.cell (World.block_lt_of_cell? w _ hx118_0)).trans hx118_0
            replace hx118_1 := (HB.out.cell (World.block_lt_of_cell? w _ hx118_1)).trans hx118_1
            replace p118 := eq_true p118
            replace q118 := eq_true q118
            have p119 : 0 ≤ (x3_1 : Int) := of_decide_eq_true (by first | (with_reducible assumption) | assumption)
            have q119 : x3_1 < (l0.length : Int) := of_decide_eq_true (by first | (with_reducible assumption) | assumption)
            obtain ⟨ad119, e119, hx119_0, hx119_1⟩ := qcs HR0.out x3_1 p119 q119
            have hw119_1 := hx119_1
            have hw119_0 := hx119_0
            obtain rfl : ad116 = ad119 := (by injection e119)
            replace hx119_0 := (HB.out.cell (World.block_lt_of_cell? w _ hx119_0)).trans hx119_0
            replace hx119_1 := (HB.out.cell (World.block_lt_of_cell? w _ hx119_1)).trans hx119_1
            replace p119 := eq_true p119
            replace q119 := eq_true q119
            refine qbn (by kernel_rfl) (by kernel_rfl) ?_
            have hL0_ := Aside0.mk (show wr.drew.cell? (ad116.add ((x3_1).toNat * 2)) = some (.string ((qaF l0 x3_1).f0)) from ((HB.out.cell (World.block_lt_of_cell? w _ hw116_0)).trans hw116_0))
            have hL1_ := Aside0.mk (show wr.drew.cell? ⟨(ad116.add ((x3_1).toNat * 2)).block, (ad116.add ((x3_1).toNat * 2)).off + 1, none⟩ = some (.string ((qaF l0 x3_1).f1)) from ((HB.out.cell (World.block_lt_of_cell? w _ hw116_1)).trans hw116_1))
            have hL2_ := Aside0.mk (show wr.drew.cell? (ad116.add (((ji9)).toNat * 2)) = some (.string ((qaF l0 (ji9)).f0)) from ((HB.out.cell (World.block_lt_of_cell? w _ hw118_0)).trans hw118_0))
            have hL3_ := Aside0.mk (show wr.drew.cell? ⟨(ad116.add (((ji9)).toNat * 2)).block, (ad116.add (((ji9)).toNat * 2)).off + 1, none⟩ = some (.string ((qaF l0 (ji9)).f1)) from ((HB.out.cell (World.block_lt_of_cell? w _ hw118_1)).trans hw118_1))
            have hL4_ := Aside0.mk (show wr.drew.cell? (ad116.add ((x3_1).toNat * 2)) = some (.string ((qaF l0 x3_1).f0)) from ((HB.out.cell (World.block_lt_of_cell? w _ hw119_0)).trans hw119_0))
            have hL5_ := Aside0.mk (show wr.drew.cell? ⟨(ad116.add ((x3_1).toNat * 2)).block, (ad116.add ((x3_1).toNat * 2)).off + 1, none⟩ = some (.string ((qaF l0 x3_1).f1)) from ((HB.out.cell (World.block_lt_of_cell? w _ hw119_1)).trans hw119_1))
            generalize wr.drew = w15 at HB hx116_0 hx116_1 hx118_0 hx118_1 hx119_0 hx119_1 hL0_ hL1_ hL2_ hL3_ hL4_ hL5_ ⊢
            clear hx116_0 hx116_1 hx118_0 hx118_1 hx119_0 hx119_1
            have hL0 := fun (p_ : Later w15) => Later.cell p_ hL0_.out
            have hL1 := fun (p_ : Later w15) => Later.cell p_ hL1_.out
            have hL2 := fun (p_ : Later w15) => Later.cell p_ hL2_.out
            have hL3 := fun (p_ : Later w15) => Later.cell p_ hL3_.out
            have hL4 := fun (p_ : Later w15) => Later.cell p_ hL4_.out
            have hL5 := fun (p_ : Later w15) => Later.cell p_ hL5_.out
            clear hL0_ hL1_ hL2_ hL3_ hL4_ hL5_
            repeat (first | go_big_quiet_step ((first | (go_at_call 162; exact Calls.qbK (qbD.calls ((qaF l0 x3_1).f0) ((qaF l0 x3_1).f1) true _ A6.out)))) | quiet_step ((first | (go_at_call 162; exact Calls.qbK (qbD.calls ((qaF l0 x3_1).f0) ((qaF l0 x3_1).f1) true _ A6.out)))))
            refine wpQuiet_nil ?_
            rintro w16 ⟨⟨wq_, hbL⟩, hq_⟩
            have hq2_ : w16 = wq_ := hq_
            clear hq_
            subst hq2_
            clear hL0 hL1 hL2 hL3 hL4 hL5
            have nHB_ := Aside0.mk (qai HB.out hbL)
            clear HB
            have HB := nHB_
            clear nHB_
            clear hbL
            try go_wp2
            go_ret
            exact ⟨by first | rfl | (simp [qal, qam] <;> rfl) | (simp only [← hji9]; first | rfl | (simp [qal, qam] <;> rfl)) | (simp [*, qal, qam] <;> rfl), by repeat (first | (with_reducible first | exact HB.out | apply qab | apply qaa | apply qac) | exact HB.out)⟩
          ·rw [if_neg c11] at H
           exact absurd H (by simp)
         ·rw [if_neg c10] at H
          exact absurd H (by simp)
        ·rw [if_neg c8] at H
         have c8b0 : decide (0 < x3_1) = false := decide_eq_false c8
         clear c8
         have H' := Aside0.mk H
         clear H
         try go_wp2
         have n0_ := Aside0.mk (qac HB.out)
         clear HB
         have HB := n0_
         clear n0_
         have p116 : 0 ≤ (x3_1 : Int) := of_decide_eq_true (by first | (with_reducible assumption) | assumption)
         have q116 : x3_1 < (l0.length : Int) := of_decide_eq_true (by first | (with_reducible assumption) | assumption)
         obtain ⟨ad116, e116, hx116_0, hx116_1⟩ := qcs HR0.out x3_1 p116 q116
         have hw116_1 := hx116_1
         have hw116_0 := hx116_0
         cases e116
         replace hx116_0 := (HB.out.cell (World.block_lt_of_cell? w _ hx116_0)).trans hx116_0
         replace hx116_1 := (HB.out.cell (World.block_lt_of_cell? w _ hx116_1)).trans hx116_1
         replace p116 := eq_true p116
         replace q116 := eq_true q116
         refine qbn (by kernel_rfl) (by kernel_rfl) ?_
         have hL0_ := Aside0.mk (show wr.drew.cell? (ad116.add ((x3_1).toNat * 2)) = some (.string ((qaF l0 x3_1).f0)) from ((HB.out.cell (World.block_lt_of_cell? w _ hw116_0)).trans hw116_0))
         have hL1_ := Aside0.mk (show wr.drew.cell? ⟨(ad116.add ((x3_1).toNat * 2)).block, (ad116.add ((x3_1).toNat * 2)).off + 1, none⟩ = some (.string ((qaF l0 x3_1).f1)) from ((HB.out.cell (World.block_lt_of_cell? w _ hw116_1)).trans hw116_1))
         generalize wr.drew = w17 at HB hx116_0 hx116_1 hL0_ hL1_ ⊢
         clear hx116_0 hx116_1
         have hL0 := fun (p_ : Later w17) => Later.cell p_ hL0_.out
         have hL1 := fun (p_ : Later w17) => Later.cell p_ hL1_.out
         clear hL0_ hL1_
         repeat (first | go_big_quiet_step ((first | (go_at_call 162; exact Calls.qbK (qbD.calls ((qaF l0 x3_1).f0) ((qaF l0 x3_1).f1) true _ A6.out)))) | quiet_step ((first | (go_at_call 162; exact Calls.qbK (qbD.calls ((qaF l0 x3_1).f0) ((qaF l0 x3_1).f1) true _ A6.out)))))
         refine wpQuiet_nil ?_
         rintro w18 ⟨⟨wq_, hbL⟩, hq_⟩
         have hq2_ : w18 = wq_ := hq_
         clear hq_
         subst hq2_
         clear hL0 hL1
         have nHB_ := Aside0.mk (qai HB.out hbL)
         clear HB
         have HB := nHB_
         clear nHB_
         clear hbL
         try go_wp2
         go_roundg k1
         case measure => have := HK1.out; omega
         case rel => exact ⟨(wrap64 (x3_1 + 1)), (by first | rfl | (simp; done) | (simp [*]; done)), H', ⟨by have := HK1.out; omega⟩, ⟨by repeat (first | (with_reducible first | exact HB.out | apply qab | apply qaa | apply qac) | exact HB.out)⟩⟩
       ·replace c7 := Bool.eq_false_iff.mpr c7
        subst c7
        have H1 : (some false) = some r := by rw [if_neg (show ¬ (false = true) by decide)] at H; exact H
        clear H
        have H := H1
        clear H1
        obtain rfl := Option.some.inj H
        try go_wp2
        have n0_ := Aside0.mk (qac HB.out)
        clear HB
        have HB := n0_
        clear n0_
        have p116 : 0 ≤ (x3_1 : Int) := of_decide_eq_true (by first | (with_reducible assumption) | assumption)
        have q116 : x3_1 < (l0.length : Int) := of_decide_eq_true (by first | (with_reducible assumption) | assumption)
        obtain ⟨ad116, e116, hx116_0, hx116_1⟩ := qcs HR0.out x3_1 p116 q116
        have hw116_1 := hx116_1
        have hw116_0 := hx116_0
        cases e116
        replace hx116_0 := (HB.out.cell (World.block_lt_of_cell? w _ hx116_0)).trans hx116_0
        replace hx116_1 := (HB.out.cell (World.block_lt_of_cell? w _ hx116_1)).trans hx116_1
        replace p116 := eq_true p116
        replace q116 := eq_true q116
        refine qbn (by kernel_rfl) (by kernel_rfl) ?_
        have hL0_ := Aside0.mk (show wr.drew.cell? (ad116.add ((x3_1).toNat * 2)) = some (.string ((qaF l0 x3_1).f0)) from ((HB.out.cell (World.block_lt_of_cell? w _ hw116_0)).trans hw116_0))
        have hL1_ := Aside0.mk (show wr.drew.cell? ⟨(ad116.add ((x3_1).toNat * 2)).block, (ad116.add ((x3_1).toNat * 2)).off + 1, none⟩ = some (.string ((qaF l0 x3_1).f1)) from ((HB.out.cell (World.block_lt_of_cell? w _ hw116_1)).trans hw116_1))
        generalize wr.drew = w19 at HB hx116_0 hx116_1 hL0_ hL1_ ⊢
        clear hx116_0 hx116_1
        have hL0 := fun (p_ : Later w19) => Later.cell p_ hL0_.out
        have hL1 := fun (p_ : Later w19) => Later.cell p_ hL1_.out
        clear hL0_ hL1_
        repeat (first | go_big_quiet_step ((first | (go_at_call 162; exact Calls.qbK (qbD.calls ((qaF l0 x3_1).f0) ((qaF l0 x3_1).f1) false _ A6.out)))) | quiet_step ((first | (go_at_call 162; exact Calls.qbK (qbD.calls ((qaF l0 x3_1).f0) ((qaF l0 x3_1).f1) false _ A6.out)))))
        refine wpQuiet_nil ?_
        rintro w20 ⟨⟨wq_, hbL⟩, hq_⟩
        have hq2_ : w20 = wq_ := hq_
        clear hq_
        subst hq2_
        clear hL0 hL1
        have nHB_ := Aside0.mk (qai HB.out hbL)
        clear HB
        have HB := nHB_
        clear nHB_
        clear hbL
        try go_wp2
        go_ret
        exact ⟨by first | rfl | (simp [qal, qam] <;> rfl) | (simp [*, qal, qam] <;> rfl), by repeat (first | (with_reducible first | exact HB.out | apply qab | apply qaa | apply qac) | exact HB.out)⟩
      ·rw [if_neg c5] at H
       exact absurd H (by simp)
     ·rw [if_neg c4] at H
      have c4b0 : decide (x3_1 < (l0.length : Int)) = false := decide_eq_false c4
      clear c4
      obtain rfl := Option.some.inj H
      go_wp2
      go_ret
      exact ⟨by first | rfl | (simp [qal, qam] <;> rfl) | (simp [*, qal, qam] <;> rfl), by repeat (first | (with_reducible first | exact HB.out | apply qab | apply qaa | apply qac) | exact HB.out)⟩
end Go.Proofs.Ytenfomejccfkgaa.X
namespace Go.Proofs.Ytenfomejccfkgaa.X
open Go.RowKit Go.Proofs.YtenfomejccfkgaaW.PrintWords Go.Proofs.YtenfomejccfkgaaW.PrintLast Go.Proofs.YtenfomejccfkgaaW.PrintMore
attribute [local go_sem] qaC qaD qaE qay qaz qaO qaP qas qat qaA qaB
set_option linter.unusedVariables false
set_option linter.unusedSimpArgs false
def qbI.f (a0_0 : ByteArray) (a0_1 : ByteArray) : Option (Bool) := (qbO.f a0_0).bind fun t201 => (if t201 = true then (some (decide ((a0_1.size : Int) ≤ 90))) else (some false))
set_option maxHeartbeats 8000000 in
set_option maxRecDepth 100000 in
theorem qbI.calls (a0_0 : ByteArray) (a0_1 : ByteArray) (r : Bool) (w : World) (h : qbI.f a0_0 a0_1 = some r) :
  Calls Try.prog 164 #[.agg #[.string a0_0, .string a0_1]] w fun e w' => e = .returned (.bool r) ∧ Below w.heap.size w w' := by
 have hu99 := Try.underlying99
 have HB := Aside0.mk (Below.refl w.heap.size w)
 have H : ((qbO.f a0_0).bind fun t201 => (if t201 = true then (some (decide ((a0_1.size : Int) ≤ 90))) else (some false))) = some r := h
 clear h
 replace H := Option.bind_eq_some_iff.mp H
 obtain ⟨t201, A20, H⟩ := H
 replace H : (if t201 = true then (some (decide ((a0_1.size : Int) ≤ 90))) else (some false)) = some r := H
 have A2 := Aside0.mk A20
 clear A20
 by_cases c3 : t201 = true
 ·subst c3
  have H1 : (some (decide ((a0_1.size : Int) ≤ 90))) = some r := by rw [if_pos rfl] at H; exact H
  clear H
  have H := H1
  clear H1
  obtain rfl := Option.some.inj H
  go_enter Try.func164, Try.ntmps164
  go_wp2_with (first | ((with_reducible refine qaQ (N := 1) rfl ?_); (try (refine qbo (by rfl) ?_; dsimp only)); refine qaL ?hg (N := 1) ?hd (cs := #[.string a0_0, .string a0_1]) (t := 99) ?hr ?_; (case hd => rfl); (case hg => rfl); (case hr => first | (go_simp; done) | (go_simp; rfl)); intro gb200 hg w4 hbox hb; have n0_ := Aside0.mk (qai (by repeat (first | (with_reducible first | exact HB.out | apply qab | apply qaa | apply qac) | exact HB.out)) hb); have n1_ := Aside0.mk (hbox); have n2_ := Aside0.mk ((by rw [hg]; exact (qaj (by repeat (first | (with_reducible first | exact HB.out | apply qab | apply qaa | apply qac) | exact HB.out))) : w.heap.size ≤ gb200)); have n3_ := Aside0.mk ((by rw [hg]; exact (qaj (by repeat (first | (with_reducible first | exact HB.out | apply qab | apply qaa | apply qac) | exact HB.out))) : w.heap.size ≤ gb200)); clear HB; have HB := n0_; have BK200 := n1_; have GW200 := n2_; have GE200 := n3_; clear n0_ n1_ n2_ n3_; clear hb hbox hg; have hcz5_0 : w4.cell? ⟨gb200, 0, none⟩ = some (.string a0_0) := (qae BK200.out 0).trans rfl; have hcz5_1 : w4.cell? ⟨gb200, 1, none⟩ = some (.string a0_1) := (qae BK200.out 1).trans rfl; have hfz5_0 := qad BK200.out 0; have hfz5_1 := qad BK200.out 1) | ((with_reducible refine qax (f := 71) rfl ?_); refine qbl (some 5) rfl rfl Try.func71 (by kernel_rfl) rfl #[.string a0_0] rfl (by (try simp only [List.map_toArray, List.map_cons, List.map_nil]); first | done | rfl | (simp only [List.length_drop, List.length_take]; rfl)) ?_; (with_reducible refine (qbO.calls a0_0 true _ A2.out).mono ?_); rintro e w' ⟨rfl, ⟨nd, rfl⟩⟩; refine ⟨_, rfl, ?_⟩))
  go_ret
  exact ⟨by first | rfl | (simp [qal, qam] <;> rfl) | (simp [*, qal, qam] <;> rfl), by repeat (first | (with_reducible first | exact HB.out | apply qab | apply qaa | apply qac | refine qaf ?_ GE200.out) | exact HB.out)⟩
 ·replace c3 := Bool.eq_false_iff.mpr c3
  subst c3
  have H1 : (some false) = some r := by rw [if_neg (show ¬ (false = true) by decide)] at H; exact H
  clear H
  have H := H1
  clear H1
  obtain rfl := Option.some.inj H
  go_enter Try.func164, Try.ntmps164
  go_wp2_with (first | ((with_reducible refine qaQ (N := 1) rfl ?_); (try (refine qbo (by rfl) ?_; dsimp only)); refine qaL ?hg (N := 1) ?hd (cs := #[.string a0_0, .string a0_1]) (t := 99) ?hr ?_; (case hd => rfl); (case hg => rfl); (case hr => first | (go_simp; done) | (go_simp; rfl)); intro gb200 hg w6 hbox hb; have n0_ := Aside0.mk (qai (by repeat (first | (with_reducible first | exact HB.out | apply qab | apply qaa | apply qac) | exact HB.out)) hb); have n1_ := Aside0.mk (hbox); have n2_ := Aside0.mk ((by rw [hg]; exact (qaj (by repeat (first | (with_reducible first | exact HB.out | apply qab | apply qaa | apply qac) | exact HB.out))) : w.heap.size ≤ gb200)); have n3_ := Aside0.mk ((by rw [hg]; exact (qaj (by repeat (first | (with_reducible first | exact HB.out | apply qab | apply qaa | apply qac) | exact HB.out))) : w.heap.size ≤ gb200)); clear HB; have HB := n0_; have BK200 := n1_; have GW200 := n2_; have GE200 := n3_; clear n0_ n1_ n2_ n3_; clear hb hbox hg; have hcz7_0 : w6.cell? ⟨gb200, 0, none⟩ = some (.string a0_0) := (qae BK200.out 0).trans rfl; have hcz7_1 : w6.cell? ⟨gb200, 1, none⟩ = some (.string a0_1) := (qae BK200.out 1).trans rfl; have hfz7_0 := qad BK200.out 0; have hfz7_1 := qad BK200.out 1) | ((with_reducible refine qax (f := 71) rfl ?_); refine qbl (some 5) rfl rfl Try.func71 (by kernel_rfl) rfl #[.string a0_0] rfl (by (try simp only [List.map_toArray, List.map_cons, List.map_nil]); first | done | rfl | (simp only [List.length_drop, List.length_take]; rfl)) ?_; (with_reducible refine (qbO.calls a0_0 false _ A2.out).mono ?_); rintro e w' ⟨rfl, ⟨nd, rfl⟩⟩; refine ⟨_, rfl, ?_⟩))
  go_ret
  exact ⟨by first | rfl | (simp [qal, qam] <;> rfl) | (simp [*, qal, qam] <;> rfl), by repeat (first | (with_reducible first | exact HB.out | apply qab | apply qaa | apply qac | refine qaf ?_ GE200.out) | exact HB.out)⟩
end Go.Proofs.Ytenfomejccfkgaa.X
