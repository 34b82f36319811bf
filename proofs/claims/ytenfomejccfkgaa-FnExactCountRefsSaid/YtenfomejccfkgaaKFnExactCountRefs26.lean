import Derived.Test.YtenfomejccfkgaaKFnExactCountRefs4
import Derived.Test.YtenfomejccfkgaaKFnExactCountRefs12
import Derived.Test.YtenfomejccfkgaaKFnExactCountRefs15
import Derived.Test.YtenfomejccfkgaaKFnExactCountRefs23
import Derived.Test.YtenfomejccfkgaaKFnExactCountRefs24
import Derived.Test.YtenfomejccfkgaaKFnExactCountRefs25
import Derived.LoopTactic
import Derived.WalkSpells
import Derived.Outline
namespace Go.Proofs.Ytenfomejccfkgaa.X
open Go.RowKit Go.Proofs.YtenfomejccfkgaaW.PrintWords Go.Proofs.YtenfomejccfkgaaW.PrintLast Go.Proofs.YtenfomejccfkgaaW.PrintMore
attribute [local go_sem] qaC qaD qaE qay qaz qaO qaP qas qat qaA qaB
set_option linter.unusedVariables false
set_option linter.unusedSimpArgs false
def qcK {α : Type} (p : α → Bool) (l : List α) : Int := if l.any p then (l.findIdx p : Int) else -1
theorem qfX {α : Type} {p : α → Bool} {l : List α} {k : Nat} (hk : k < l.length) (hn : ∀ j (hj : j < l.length), j < k → p l[j] = false) (h : p l[k] = true) : qcK p l = k := by
 have hi : l.findIdx p = k := (List.findIdx_eq hk).2 ⟨h, fun j hj => by simpa using hn j (by omega) hj⟩
 have ha : l.any p = true := List.any_eq_true.2 ⟨l[k], List.getElem_mem hk, h⟩
 unfold qcK
 rw [if_pos ha, hi]
theorem qfY {α : Type} {p : α → Bool} {l : List α} (hn : ∀ j (hj : j < l.length), p l[j] = false) : qcK p l = -1 := by
 unfold qcK
 rw [if_neg]
 intro h
 obtain ⟨x, hx, hp⟩ := List.any_eq_true.1 h
 obtain ⟨j, hj, rfl⟩ := List.getElem_of_mem hx
 rw [hn j hj] at hp
 cases hp
end Go.Proofs.Ytenfomejccfkgaa.X
namespace Go.Proofs.Ytenfomejccfkgaa.X
open Go.RowKit Go.Proofs.YtenfomejccfkgaaW.PrintWords Go.Proofs.YtenfomejccfkgaaW.PrintLast Go.Proofs.YtenfomejccfkgaaW.PrintMore
attribute [local go_sem] qaC qaD qaE qay qaz qaO qaP qas qat qaA qaB
set_option linter.unusedVariables false
set_option linter.unusedSimpArgs false
set_option maxHeartbeats 1000000 in
set_option maxRecDepth 100000 in
theorem qfi (p : Int → Bool) (g : Nat) (lb : Array Value) (eg : ∀ args w, (callFunc g args).run Try.prog w = .ok (.enter g args) w) (A0 : Option Addr) (c0 : Nat) (l0 : List Int) (w : World) (hr0 : Kd.C (Kd.int .i64) w A0 l0.length l0)
  (hp : ∀ (x : Int) (W : World), x ∈ l0 → Below w.heap.size w W → Calls Try.prog g (#[.int .i64 x] ++ lb) W fun e W' => e = .returned (.bool (p x)) ∧ Below W.heap.size W W') :
  Calls Try.prog 169 #[.slice A0 l0.length c0, .func (.func g) #[] lb] w fun e w' => e = .returned (.int .i64 (qcK p l0)) ∧ Below w.heap.size w w' := by
 have hm : l0.length ≤ 9223372036854775807 := hr0.2.1
 have HR0 := Aside0.mk hr0
 have HP := Aside0.mk hp
 clear hr0 hp
 go_enter Try.func169, Try.ntmps169
 go_wp2_with fail
 go_loopw [8] (fun v8 wr => ∃ k : Nat, k ≤ l0.length ∧ v8 = .int .i64 k ∧ Aside0 (∀ j (hj : j < l0.length), j < k → p l0[j] = false) ∧ Aside0 (Below w.heap.size w wr)) (fun v8 _ => l0.length - (intOf v8).toNat)
 case atStart => exact ⟨0, Nat.zero_le _, rfl, ⟨fun j hj h => absurd h (by omega)⟩, ⟨Below.refl _ _⟩⟩
 case round =>
  obtain ⟨k, hk, rfl, HN, HB⟩ := hrel
  by_cases hlt : k < l0.length
  ·have p1 : 0 ≤ (k : Int) := by omega
   have q1 : (k : Int) < (l0.length : Int) := by omega
   obtain ⟨ad1, e1, hx0⟩ := Kd.qbS HR0.out (k : Int) p1 q1
   have hx : rd l0 (k : Int) = l0[k] := by unfold rd; rw [Int.toNat_natCast]; simp [List.getD_eq_getElem?_getD, hlt]
   rw [hx] at hx0
   cases e1
   replace hx0 := (HB.out.cell (World.block_lt_of_cell? w _ hx0)).trans hx0
   rw [Int.toNat_natCast] at hx0
   clear hx
   have hb := fun W hW => HP.out l0[k] W (List.getElem_mem hlt) hW
   have HB2 := Aside0.mk hb
   clear hb
   cases hpk : p l0[k] with
   | true =>
    have HK := Aside0.mk hpk
    clear hpk
    go_wp2_with fail
    refine (HB2.out _ HB.out).mono ?_
    rintro e w1 ⟨rfl, hb1⟩
    rw [HK.out]
    go_wp2_with fail
    go_ret
    exact ⟨by rw [qfX hlt HN.out HK.out]; rfl, qai HB.out hb1⟩
   | false =>
    have HK := Aside0.mk hpk
    clear hpk
    go_wp2_with fail
    refine (HB2.out _ HB.out).mono ?_
    rintro e w1 ⟨rfl, hb1⟩
    rw [HK.out]
    go_wp2_with fail
    go_roundw
    case rel => exact ⟨k + 1, by omega, by go_num, ⟨fun j hj h => by
     by_cases e : j = k
     ·subst e; exact HK.out
     ·exact HN.out j hj (by omega)⟩, ⟨qai HB.out hb1⟩⟩
    case measure => simp [intOf]; omega
  ·go_wp2_with fail
   go_ret
   exact ⟨by rw [qfY fun j hj => HN.out j hj (by omega)]; rfl, HB.out⟩
end Go.Proofs.Ytenfomejccfkgaa.X
namespace Go.Proofs.Ytenfomejccfkgaa.X
open Go.RowKit Go.Proofs.YtenfomejccfkgaaW.PrintWords Go.Proofs.YtenfomejccfkgaaW.PrintLast Go.Proofs.YtenfomejccfkgaaW.PrintMore
attribute [local go_sem] qaC qaD qaE qay qaz qaO qaP qas qat qaA qaB
set_option linter.unusedVariables false
set_option linter.unusedSimpArgs false
set_option maxRecDepth 100000 in
theorem qdT (p : Int → Bool) (g : Nat) (lb : Array Value) (eg : ∀ args w, (callFunc g args).run Try.prog w = .ok (.enter g args) w) (A0 : Option Addr) (c0 : Nat) (l0 : List Int) (w : World) (hr0 : Kd.C (Kd.int .i64) w A0 l0.length l0)
  (hp : ∀ (x : Int) (W : World), x ∈ l0 → Below w.heap.size w W → Calls Try.prog g (#[.int .i64 x] ++ lb) W fun e W' => e = .returned (.bool (p x)) ∧ Below W.heap.size W W') :
  Calls Try.prog 132 #[.slice A0 l0.length c0, .func (.func g) #[] lb] w fun e w' => e = .returned (.bool (l0.any p)) ∧ Below w.heap.size w w' := by
 have HC := Aside0.mk (qfi p g lb eg A0 c0 l0 w hr0 hp)
 clear hr0 hp
 cases ha : l0.any p with
 | true =>
  have h1 : 0 ≤ qcK p l0 := by unfold qcK; rw [if_pos ha]; omega
  have h2 : decide (0 ≤ qcK p l0) = true := decide_eq_true h1
  clear ha h1
  generalize qcK p l0 = r at HC h2
  go_enter Try.func132, Try.ntmps132
  go_wp2_with fail
  refine HC.out.mono ?_
  rintro e w1 ⟨rfl, hb1⟩
  go_wp2_with fail
  go_ret
  exact ⟨by first | rfl | simp [h2], hb1⟩
 | false =>
  have h1 : qcK p l0 = -1 := by unfold qcK; rw [if_neg (by rw [ha]; decide)]
  rw [h1] at HC
  clear ha h1
  go_enter Try.func132, Try.ntmps132
  go_wp2_with fail
  refine HC.out.mono ?_
  rintro e w1 ⟨rfl, hb1⟩
  go_wp2_with fail
  go_ret
  exact ⟨rfl, hb1⟩
end Go.Proofs.Ytenfomejccfkgaa.X
namespace Go.Proofs.Ytenfomejccfkgaa.X
open Go.RowKit Go.Proofs.YtenfomejccfkgaaW.PrintWords Go.Proofs.YtenfomejccfkgaaW.PrintLast Go.Proofs.YtenfomejccfkgaaW.PrintMore
attribute [local go_sem] qaC qaD qaE qay qaz qaO qaP qas qat qaA qaB
set_option linter.unusedVariables false
set_option linter.unusedSimpArgs false
theorem qht {α : Type} {l : List α} {f g : α → Bool} (h : ∀ x, x ∈ l → f x = g x) : l.any f = l.any g := by
 induction l with
 | nil => rfl
 | cons a l ih => simp only [List.any_cons]; rw [h a List.mem_cons_self, ih fun x hx => h x (List.mem_cons_of_mem _ hx)]
theorem Ev.list {α β : Type} {l : List α} {g : Nat → α → Option β} {v : α → β} (h : ∀ x, x ∈ l → Ev (fun k => g k x) (v x)) : ∃ K, ∀ k, K ≤ k → ∀ x, x ∈ l → g k x = some (v x) := by
 induction l with
 | nil => exact ⟨0, fun k _ x hx => (by cases hx)⟩
 | cons a l ih =>
  obtain ⟨K1, h1⟩ := ih fun x hx => h x (List.mem_cons_of_mem _ hx)
  obtain ⟨K2, h2⟩ := h a List.mem_cons_self
  refine ⟨K1 + K2, fun k hk x hx => ?_⟩
  rcases List.mem_cons.1 hx with rfl | hx
  ·exact h2 k (by omega)
  ·exact h1 k (by omega) x hx
theorem Ev.any {α : Type} {l : List α} {g : Nat → α → Option Bool} {v : α → Bool} (h : ∀ x, x ∈ l → Ev (fun k => g k x) (v x)) : Ev (fun k => if (l.all fun x => (g k x).isSome) = true then some (l.any fun x => (g k x).getD false) else none) (l.any v) := by
 obtain ⟨K, hK⟩ := Ev.list h
 refine ⟨K, fun k hk => ?_⟩
 show (if (l.all fun x => (g k x).isSome) = true then some (l.any fun x => (g k x).getD false) else none) = some (l.any v)
 rw [if_pos (List.all_eq_true.2 fun x hx => by rw [hK k hk x hx]; rfl)]
 exact congrArg some (qht fun x hx => by rw [hK k hk x hx]; rfl)
theorem qgg {P : Program} {f : FuncId} {fn : Func} {c : Code} (hf : P.funcs[f]? = some fn) (hname : (fn.name == "runtime.NumGoroutine") = false) (hb : fn.body = some c) (args : Array Value) (w : World) : (callFunc f args).run P w = .ok (.enter f args) w := by
 have h1 : fn.name ≠ "runtime.NumGoroutine" := by simpa using hname
 simp [callFunc, hf, h1, hb, mark]
end Go.Proofs.Ytenfomejccfkgaa.X
namespace Go.Proofs.Ytenfomejccfkgaa.X
open Go.RowKit Go.Proofs.YtenfomejccfkgaaW.PrintWords Go.Proofs.YtenfomejccfkgaaW.PrintLast Go.Proofs.YtenfomejccfkgaaW.PrintMore
attribute [local go_sem] qaC qaD qaE qay qaz qaO qaP qas qat qaA qaB
set_option linter.unusedVariables false
set_option linter.unusedSimpArgs false
set_option maxRecDepth 100000 in
theorem qeu (ns : List S56) (A : Option Addr) (c : Nat) (gb : Nat) (root : Int) (w : World) (hb : w.heap[gb]? = some (.cells #[.slice A ns.length c] 29 (0, 0))) (hr : Kd.C k56 w A ns.length ns) (hc : ns.length ≤ c) (hs : qcq ns = true) :
  Calls Try.prog 133 #[.int .i64 root, .pointer (some ⟨gb, 0, none⟩)] w fun e w' => e = .returned (.bool (!(walkR ns root).2.2)) ∧ Below w.heap.size w w' := by
 have hu := Try.underlying29
 have HR := Aside0.mk hr
 have HO := Aside0.mk (show qcJ.f ns root = some (walkR ns root).2.2 from if_pos hs)
 have b0 := qae hb 0
 simp only [List.getElem?_toArray, List.getElem?_cons_zero] at b0
 clear hr hb hs
 generalize (walkR ns root).2.2 = ok at HO ⊢
 go_enter Try.func133, Try.ntmps133
 go_wp2_with fail
 refine (qcJ.calls A c ns root ok _ (by first | exact HR.out | exact Kd.qa2 HR.out) hc HO.out).mono ?_
 rintro e w' ⟨rfl, hb⟩
 go_wp2_with fail
 go_ret
 exact ⟨rfl, by first | exact hb | exact qai (qbr (Below.refl _ w)) hb⟩
def qb3.f (l0_0 : List S56) (l1 : List Int) : Option Bool := if qcq l0_0 = true then some (!(l1.any fun r => !(walkR l0_0 r).2.2)) else none
set_option maxRecDepth 100000 in
theorem qb3.calls (A0_0 : Option Addr) (c0_0 : Nat) (l0_0 : List S56) (A1 : Option Addr) (c1 : Nat) (l1 : List Int) (r : Bool) (w : World) (hr0_0 : Kd.C k56 w A0_0 l0_0.length l0_0) (hc0_0 : l0_0.length ≤ c0_0) (hr1 : Kd.C (Kd.int .i64) w A1 l1.length l1) (hc1 : l1.length ≤ c1) (h : qb3.f l0_0 l1 = some r) :
  Calls Try.prog 89 #[.agg #[.slice A0_0 l0_0.length c0_0], .slice A1 l1.length c1] w fun e w' => e = .returned (.bool r) ∧ Below w.heap.size w w' := by
 unfold qb3.f at h
 by_cases hb : qcq l0_0 = true
 ·rw [if_pos hb] at h
  have hh := Option.some.inj h
  have hu := Try.underlying29
  have HB0 := Aside0.mk (qab (Below.refl w.heap.size w) (.cells #[.slice A0_0 l0_0.length c0_0] 29 (0, 0)))
  have HK0 := Aside0.mk (qcn w (.cells #[.slice A0_0 l0_0.length c0_0] 29 (0, 0)))
  have HC := Aside0.mk (qdT (fun r => !(walkR l0_0 r).2.2) 133 #[.pointer (some ⟨w.heap.size, 0, none⟩)] (qgg Try.func133 (by kernel_rfl) rfl) A1 c1 l1 (w.alloc (.cells #[.slice A0_0 l0_0.length c0_0] 29 (0, 0))) (Kd.qav hr1 HB0.out) fun x W hx hW => qeu l0_0 A0_0 c0_0 w.heap.size x W (qar HK0.out hW) (Kd.qav hr0_0 (qai HB0.out hW)) hc0_0 hb)
  clear hr0_0 hr1 h hb
  generalize (l1.any fun r => !(walkR l0_0 r).2.2) = q at HC hh
  subst hh
  go_enter Try.func89, Try.ntmps89
  go_wp2_with fail
  refine HC.out.mono ?_
  rintro e w1 ⟨rfl, hb1⟩
  have HB1 := Aside0.mk (qai HB0.out hb1)
  clear hb1
  go_wp2_with fail
  go_ret
  exact ⟨rfl, HB1.out⟩
 ·rw [if_neg hb] at h
  cases h
end Go.Proofs.Ytenfomejccfkgaa.X
namespace Go.Proofs.Ytenfomejccfkgaa.X
open Go.RowKit Go.Proofs.YtenfomejccfkgaaW.PrintWords Go.Proofs.YtenfomejccfkgaaW.PrintLast Go.Proofs.YtenfomejccfkgaaW.PrintMore
attribute [local go_sem] qaC qaD qaE qay qaz qaO qaP qas qat qaA qaB
set_option linter.unusedVariables false
set_option linter.unusedSimpArgs false
def qbE.f (k : Nat) (l0_0 : List (S56)) (l1 : List Int) : Option (List Int × Int) := if (l1.length : Int) > 4096 then (some ((([] : List Int)), 2)) else (if (l1.length : Int) > 20 then (some ((([] : List Int)), 6)) else ((qaq.f k l0_0 l1).bind fun bt474 => (if bt474.2 = true then ((qau.f k l0_0 l1 bt474.1).bind fun t478 => (some (t478, 0))) else (some ((([] : List Int)), 1)))))
theorem qbE.mono : ∀ a0 a1 k, LeO (qbE.f k a0 a1) (qbE.f (k + 1) a0 a1) := by
 intro a0 a1 k
 unfold qbE.f
 repeat' first
   | (with_reducible exact qaq.mono _ _ _)
   | (with_reducible exact qau.mono _ _ _ _)
   | (with_reducible exact LeO.refl _)
   | (with_reducible exact LeO.none _)
   | (with_reducible refine LeO.ite ?_ ?_)
   | (with_reducible refine LeO.bind ?_ (fun _ => ?_))
   | exact qaq.mono _ _ _
   | exact qau.mono _ _ _ _
   | exact LeO.none _
   | refine LeO.ite ?_ ?_
   | refine LeO.bind ?_ (fun _ => ?_)
set_option maxHeartbeats 8000000 in
set_option maxRecDepth 100000 in
theorem qbE.calls (k : Nat) (A0_0 : Option Addr) (c0_0 : Nat) (l0_0 : List (S56)) (A1 : Option Addr) (c1 : Nat) (l1 : List Int) (r1 : List Int) (r2 : Int) (w : World) (hr0_0 : Kd.C k56 w A0_0 l0_0.length l0_0) (hc0_0 : l0_0.length ≤ c0_0) (hr1 : Kd.C (Kd.int .i64) w A1 l1.length l1) (hc1 : l1.length ≤ c1) (h : qbE.f k l0_0 l1 = some (r1, r2)) :
  Calls Try.prog 40 #[.agg #[.slice A0_0 l0_0.length c0_0], .slice A1 l1.length c1] w fun e w' => ∃ v0_ : Value, e = .returned (.tuple #[v0_, .int .i64 r2]) ∧ Kd.R (Kd.int .i64) 3 w' w.heap.size (fun _ => True) v0_ r1 ∧ Below w.heap.size w w' := by
 have hu29 := Try.underlying29
 have HR0_0 := Aside0.mk hr0_0
 have HC0_0 := Aside0.mk hc0_0
 clear hr0_0 hc0_0
 have HR1 := Aside0.mk hr1
 have HC1 := Aside0.mk hc1
 clear hr1 hc1
 have HB := Aside0.mk (Below.refl w.heap.size w)
 have H : (if (l1.length : Int) > 4096 then (some ((([] : List Int)), 2)) else (if (l1.length : Int) > 20 then (some ((([] : List Int)), 6)) else ((qaq.f k l0_0 l1).bind fun bt474 => (if bt474.2 = true then ((qau.f k l0_0 l1 bt474.1).bind fun t478 => (some (t478, 0))) else (some ((([] : List Int)), 1)))))) = some (r1, r2) := h
 clear h
 by_cases c3 : (l1.length : Int) > 4096
 ·rw [if_pos c3] at H
  have c3b0 : decide (4096 < (l1.length : Int)) = true := decide_eq_true c3
  have c3b1 : decide (4096 < l1.length) = true := decide_eq_true (by omega)
  clear c3
  obtain ⟨y468, hy468⟩ : ∃ y_ : List Int, y_ = (([] : List Int)) := ⟨_, rfl⟩
  replace H : (some (y468, 2)) = some (r1, r2) := by first | (rw [hy468]; with_reducible exact H) | (have H2_ := (Option.bind_some _ _).symm.trans H; rw [hy468]; with_reducible exact H2_) | (have H2_ := (Option.bind_some _ _).symm.trans H; with_reducible exact H2_) | with_reducible exact H | (rw [hy468]; exact H) | exact H
  have Ny468 := Aside0.mk hy468
  clear hy468
  simp only [Option.some.injEq, Prod.mk.injEq] at H
  obtain ⟨rfl, rfl⟩ := H
  go_enter Try.func40, Try.ntmps40
  go_wp2_with (first | ((with_reducible refine qaQ (N := 2) rfl ?_); refine qaL ?hg (N := 2) ?hd (cs := #[.slice A0_0 l0_0.length c0_0]) (t := 29) ?hr ?_; (case hd => rfl); (case hg => rfl); (case hr => first | (go_simp; done) | (go_simp; rfl)); intro gb467 hg w4 hbox hb; have n0_ := Aside0.mk (qai (by repeat (first | (with_reducible first | exact HB.out | apply qab | apply qaa | apply qac) | exact HB.out)) hb); have n1_ := Aside0.mk (hbox); have n2_ := Aside0.mk ((by rw [hg]; exact (qaj (by repeat (first | (with_reducible first | exact HB.out | apply qab | apply qaa | apply qac) | exact HB.out))) : w.heap.size ≤ gb467)); have n3_ := Aside0.mk ((by rw [hg]; exact (qaj (by repeat (first | (with_reducible first | exact HB.out | apply qab | apply qaa | apply qac) | exact HB.out))) : w.heap.size ≤ gb467)); clear HB; have HB := n0_; have BK467 := n1_; have GW467 := n2_; have GE467 := n3_; clear n0_ n1_ n2_ n3_; clear hb hbox hg) | ((with_reducible refine qaQ (N := 11) rfl ?_); refine Kd.qgV (Kd.int .i64) _ 3 ?hg (N := 11) ?hd (xs := ([] : List Int)) (inner := []) (ok := fun _ => True) (okp := fun _ => True) ?hr ?hp (fun _ hk => hk) trivial (Below.refl _ _) (Nat.le_refl _) (by simp) ?_; (case hd => rfl); (case hg => rfl); (case hr => first | (go_simp; done) | (go_simp; rfl)); (case hp => exact (Reps.none _ _)); intro v469 w5 ho6 hb hg_ hnew_; clear hg_ hnew_; (first | rw [← Ny468.out] at ho6 | (simp only [Int.reduceToNat] at ho6; rw [← Ny468.out] at ho6)); have n0_ := Aside0.mk (Kd.qby ho6 (qaj (by repeat (first | (with_reducible first | exact HB.out | apply qab | apply qaa | apply qac | refine qaf ?_ GE467.out) | exact HB.out)))); have n1_ := Aside0.mk (qar (g := gb467) (o := .cells #[.slice A0_0 l0_0.length c0_0] 29 (0, 0)) (by (with_reducible repeat (first | refine qan ?_ _ | refine qao ?_ | refine qak ?_ _)); exact BK467.out) hb); have n2_ := Aside0.mk (qai (by repeat (first | (with_reducible first | exact HB.out | apply qab | apply qaa | apply qac | refine qaf ?_ GE467.out) | exact HB.out)) hb); clear BK467; clear HB; have HO470 := n0_; have BK467 := n1_; have HB := n2_; clear n0_ n1_ n2_; clear hb ho6))
  go_ret2
  exact ⟨_, by first | rfl | (simp [qal, qam] <;> rfl) | (simp [*, qal, qam] <;> rfl), by (with_reducible repeat (first | apply Kd.qa3 | apply Kd.qa8 | apply Kd.qbi)); exact HO470.out, by repeat (first | (with_reducible first | exact HB.out | apply qab | apply qaa | apply qac | refine qaf ?_ GE467.out) | exact HB.out)⟩
 ·rw [if_neg c3] at H
  have c3b0 : decide (4096 < (l1.length : Int)) = false := decide_eq_false c3
  have c3b1 : decide (4096 < l1.length) = false := decide_eq_false (by omega)
  clear c3
  by_cases c7 : (l1.length : Int) > 20
  ·rw [if_pos c7] at H
   have c7b0 : decide (20 < (l1.length : Int)) = true := decide_eq_true c7
   have c7b1 : decide (20 < l1.length) = true := decide_eq_true (by omega)
   clear c7
   obtain ⟨y471, hy471⟩ : ∃ y_ : List Int, y_ = (([] : List Int)) := ⟨_, rfl⟩
   replace H : (some (y471, 6)) = some (r1, r2) := by first | (rw [hy471]; with_reducible exact H) | (have H2_ := (Option.bind_some _ _).symm.trans H; rw [hy471]; with_reducible exact H2_) | (have H2_ := (Option.bind_some _ _).symm.trans H; with_reducible exact H2_) | with_reducible exact H | (rw [hy471]; exact H) | exact H
   have Ny471 := Aside0.mk hy471
   clear hy471
   simp only [Option.some.injEq, Prod.mk.injEq] at H
   obtain ⟨rfl, rfl⟩ := H
   go_enter Try.func40, Try.ntmps40
   go_wp2_with (first | ((with_reducible refine qaQ (N := 2) rfl ?_); refine qaL ?hg (N := 2) ?hd (cs := #[.slice A0_0 l0_0.length c0_0]) (t := 29) ?hr ?_; (case hd => rfl); (case hg => rfl); (case hr => first | (go_simp; done) | (go_simp; rfl)); intro gb467 hg w8 hbox hb; have n0_ := Aside0.mk (qai (by repeat (first | (with_reducible first | exact HB.out | apply qab | apply qaa | apply qac) | exact HB.out)) hb); have n1_ := Aside0.mk (hbox); have n2_ := Aside0.mk ((by rw [hg]; exact (qaj (by repeat (first | (with_reducible first | exact HB.out | apply qab | apply qaa | apply qac) | exact HB.out))) : w.heap.size ≤ gb467)); have n3_ := Aside0.mk ((by rw [hg]; exact (qaj (by repeat (first | (with_reducible first | exact HB.out | apply qab | apply qaa | apply qac) | exact HB.out))) : w.heap.size ≤ gb467)); clear HB; have HB := n0_; have BK467 := n1_; have GW467 := n2_; have GE467 := n3_; clear n0_ n1_ n2_ n3_; clear hb hbox hg) | ((with_reducible refine qaQ (N := 15) rfl ?_); refine Kd.qgV (Kd.int .i64) _ 3 ?hg (N := 15) ?hd (xs := ([] : List Int)) (inner := []) (ok := fun _ => True) (okp := fun _ => True) ?hr ?hp (fun _ hk => hk) trivial (Below.refl _ _) (Nat.le_refl _) (by simp) ?_; (case hd => rfl); (case hg => rfl); (case hr => first | (go_simp; done) | (go_simp; rfl)); (case hp => exact (Reps.none _ _)); intro v472 w9 ho10 hb hg_ hnew_; clear hg_ hnew_; (first | rw [← Ny471.out] at ho10 | (simp only [Int.reduceToNat] at ho10; rw [← Ny471.out] at ho10)); have n0_ := Aside0.mk (Kd.qby ho10 (qaj (by repeat (first | (with_reducible first | exact HB.out | apply qab | apply qaa | apply qac | refine qaf ?_ GE467.out) | exact HB.out)))); have n1_ := Aside0.mk (qar (g := gb467) (o := .cells #[.slice A0_0 l0_0.length c0_0] 29 (0, 0)) (by (with_reducible repeat (first | refine qan ?_ _ | refine qao ?_ | refine qak ?_ _)); exact BK467.out) hb); have n2_ := Aside0.mk (qai (by repeat (first | (with_reducible first | exact HB.out | apply qab | apply qaa | apply qac | refine qaf ?_ GE467.out) | exact HB.out)) hb); clear BK467; clear HB; have HO473 := n0_; have BK467 := n1_; have HB := n2_; clear n0_ n1_ n2_; clear hb ho10))
   go_ret2
   exact ⟨_, by first | rfl | (simp [qal, qam] <;> rfl) | (simp [*, qal, qam] <;> rfl), by (with_reducible repeat (first | apply Kd.qa3 | apply Kd.qa8 | apply Kd.qbi)); exact HO473.out, by repeat (first | (with_reducible first | exact HB.out | apply qab | apply qaa | apply qac | refine qaf ?_ GE467.out) | exact HB.out)⟩
  ·rw [if_neg c7] at H
   have c7b0 : decide (20 < (l1.length : Int)) = false := decide_eq_false c7
   have c7b1 : decide (20 < l1.length) = false := decide_eq_false (by omega)
   clear c7
   replace H := Option.bind_eq_some_iff.mp H
   obtain ⟨⟨t474, t477⟩, A110, H⟩ := H
   replace H : (if t477 = true then ((qau.f k l0_0 l1 t474).bind fun t478 => (some (t478, 0))) else (some ((([] : List Int)), 1))) = some (r1, r2) := H
   have A11 := Aside0.mk A110
   clear A110
   by_cases c12 : t477 = true
   ·subst c12
    have H1 : ((qau.f k l0_0 l1 t474).bind fun t478 => (some (t478, 0))) = some (r1, r2) := by rw [if_pos rfl] at H; exact H
    clear H
    have H := H1
    clear H1
    replace H := Option.bind_eq_some_iff.mp H
    obtain ⟨t478, A130, H⟩ := H
    replace H : (some (t478, 0)) = some (r1, r2) := H
    have A13 := Aside0.mk A130
    clear A130
    simp only [Option.some.injEq, Prod.mk.injEq] at H
    obtain ⟨rfl, rfl⟩ := H
    go_enter Try.func40, Try.ntmps40
    go_wp2_with (first | ((with_reducible refine qaQ (N := 2) rfl ?_); refine qaL ?hg (N := 2) ?hd (cs := #[.slice A0_0 l0_0.length c0_0]) (t := 29) ?hr ?_; (case hd => rfl); (case hg => rfl); (case hr => first | (go_simp; done) | (go_simp; rfl)); intro gb467 hg w14 hbox hb; have n0_ := Aside0.mk (qai (by repeat (first | (with_reducible first | exact HB.out | apply qab | apply qaa | apply qac) | exact HB.out)) hb); have n1_ := Aside0.mk (hbox); have n2_ := Aside0.mk ((by rw [hg]; exact (qaj (by repeat (first | (with_reducible first | exact HB.out | apply qab | apply qaa | apply qac) | exact HB.out))) : w.heap.size ≤ gb467)); have n3_ := Aside0.mk ((by rw [hg]; exact (qaj (by repeat (first | (with_reducible first | exact HB.out | apply qab | apply qaa | apply qac) | exact HB.out))) : w.heap.size ≤ gb467)); clear HB; have HB := n0_; have BK467 := n1_; have GW467 := n2_; have GE467 := n3_; clear n0_ n1_ n2_ n3_; clear hb hbox hg; have hcz15_0 : w14.cell? ⟨gb467, 0, none⟩ = some (.slice A0_0 l0_0.length c0_0) := (qae BK467.out 0).trans rfl; have hfz15_0 := qad BK467.out 0) | ((with_reducible refine qax (f := 87) rfl ?_); refine qbl (some 19) rfl rfl Try.func87 (by kernel_rfl) rfl #[.agg #[.slice A0_0 l0_0.length c0_0], .slice A1 l1.length c1] rfl (by (try simp only [List.map_toArray, List.map_cons, List.map_nil]); first | done | rfl | (simp only [List.length_drop, List.length_take]; rfl)) ?_; (with_reducible refine (qaq.calls k _ _ l0_0 _ _ l1 t474 true _ ?side1 ?side2 ?side3 ?side4 A11.out).mono ?_); (case side1 => repeat (first | exact (Kd.qav HR0_0.out HB.out) | (with_reducible refine Kd.qaM ?_ _) | (with_reducible refine Kd.qaN ?_ _) | (with_reducible refine Kd.qa2 ?_))); (case side2 => exact HC0_0.out); (case side3 => repeat (first | exact (Kd.qav HR1.out HB.out) | (with_reducible refine Kd.qaM ?_ _) | (with_reducible refine Kd.qaN ?_ _) | (with_reducible refine Kd.qa2 ?_))); (case side4 => exact HC1.out); rintro e w16 ⟨v475, rfl, ho0, hb⟩; refine ⟨_, rfl, ?_⟩; have n0_ := Aside0.mk (Kd.qby ho0 (qaj (by repeat (first | (with_reducible first | exact HB.out | apply qab | apply qaa | apply qac | refine qaf ?_ GE467.out) | exact HB.out)))); have n1_ := Aside0.mk (qar (g := gb467) (o := .cells #[.slice A0_0 l0_0.length c0_0] 29 (0, 0)) (by (with_reducible repeat (first | refine qan ?_ _ | refine qao ?_ | refine qak ?_ _)); exact BK467.out) hb); have n2_ := Aside0.mk (qai (by repeat (first | (with_reducible first | exact HB.out | apply qab | apply qaa | apply qac | refine qaf ?_ GE467.out) | exact HB.out)) hb); clear BK467; clear HB; have HO476 := n0_; have BK467 := n1_; have HB := n2_; clear n0_ n1_ n2_; (try clear hb); (try clear hb2); (try clear hk); (try clear hi); (try clear ho0); have hcz17_0 : w16.cell? ⟨gb467, 0, none⟩ = some (.slice A0_0 l0_0.length c0_0) := (qae BK467.out 0).trans rfl; have hfz17_0 := qad BK467.out 0; obtain ⟨Ao18, co18, eo18⟩ := Kd.qbW HO476.out; subst eo18) | ((with_reducible refine qax (f := 88) rfl ?_); refine qbl (some 28) rfl rfl Try.func88 (by kernel_rfl) rfl #[.agg #[.slice A0_0 l0_0.length c0_0], .slice A1 l1.length c1, .slice Ao18 t474.length co18] rfl (by (try simp only [List.map_toArray, List.map_cons, List.map_nil]); first | done | rfl | (simp only [List.length_drop, List.length_take]; rfl)) ?_; (with_reducible refine (qau.calls k _ _ l0_0 _ _ l1 _ _ t474 t478 _ ?side1 ?side2 ?side3 ?side4 ?side5 ?side6 A13.out).mono ?_); (case side1 => repeat (first | exact (Kd.qav HR0_0.out HB.out) | (with_reducible refine Kd.qaM ?_ _) | (with_reducible refine Kd.qaN ?_ _) | (with_reducible refine Kd.qa2 ?_))); (case side2 => exact HC0_0.out); (case side3 => repeat (first | exact (Kd.qav HR1.out HB.out) | (with_reducible refine Kd.qaM ?_ _) | (with_reducible refine Kd.qaN ?_ _) | (with_reducible refine Kd.qa2 ?_))); (case side4 => exact HC1.out); (case side5 => repeat (first | exact (Kd.qbe HO476.out).2.2 | (with_reducible refine Kd.qaM ?_ _) | (with_reducible refine Kd.qaN ?_ _) | (with_reducible refine Kd.qa2 ?_))); (case side6 => exact (Kd.qbe HO476.out).2.1); rintro e w19 ⟨v479, rfl, ho0, hb⟩; refine ⟨_, rfl, ?_⟩; have n0_ := Aside0.mk (Kd.qbj (by (with_reducible repeat (first | apply Kd.qa3 | apply Kd.qa8 | apply Kd.qbi)); exact HO476.out) hb); have n1_ := Aside0.mk (Kd.qby ho0 (qaj (by repeat (first | (with_reducible first | exact HB.out | apply qab | apply qaa | apply qac | refine qaf ?_ GE467.out) | exact HB.out)))); have n2_ := Aside0.mk (qar (g := gb467) (o := .cells #[.slice A0_0 l0_0.length c0_0] 29 (0, 0)) (by (with_reducible repeat (first | refine qan ?_ _ | refine qao ?_ | refine qak ?_ _)); exact BK467.out) hb); have n3_ := Aside0.mk (qai (by repeat (first | (with_reducible first | exact HB.out | apply qab | apply qaa | apply qac | refine qaf ?_ GE467.out) | exact HB.out)) hb); clear HO476; clear BK467; clear HB; have HO476 := n0_; have HO480 := n1_; have BK467 := n2_; have HB := n3_; clear n0_ n1_ n2_ n3_; (try clear hb); (try clear hb2); (try clear hk); (try clear hi); (try clear ho0)))
    go_ret2
    exact ⟨_, by first | rfl | (simp [qal, qam] <;> rfl) | (simp [*, qal, qam] <;> rfl), by (with_reducible repeat (first | apply Kd.qa3 | apply Kd.qa8 | apply Kd.qbi)); exact HO480.out, by repeat (first | (with_reducible first | exact HB.out | apply qab | apply qaa | apply qac | refine qaf ?_ GE467.out) | exact HB.out)⟩
   ·replace c12 := Bool.eq_false_iff.mpr c12
    subst c12
    have H1 : (some ((([] : List Int)), 1)) = some (r1, r2) := by rw [if_neg (show ¬ (false = true) by decide)] at H; exact H
    clear H
    have H := H1
    clear H1
    obtain ⟨y481, hy481⟩ : ∃ y_ : List Int, y_ = (([] : List Int)) := ⟨_, rfl⟩
    replace H : (some (y481, 1)) = some (r1, r2) := by first | (rw [hy481]; with_reducible exact H) | (have H2_ := (Option.bind_some _ _).symm.trans H; rw [hy481]; with_reducible exact H2_) | (have H2_ := (Option.bind_some _ _).symm.trans H; with_reducible exact H2_) | with_reducible exact H | (rw [hy481]; exact H) | exact H
    have Ny481 := Aside0.mk hy481
    clear hy481
    simp only [Option.some.injEq, Prod.mk.injEq] at H
    obtain ⟨rfl, rfl⟩ := H
    go_enter Try.func40, Try.ntmps40
    go_wp2_with (first | ((with_reducible refine qaQ (N := 2) rfl ?_); refine qaL ?hg (N := 2) ?hd (cs := #[.slice A0_0 l0_0.length c0_0]) (t := 29) ?hr ?_; (case hd => rfl); (case hg => rfl); (case hr => first | (go_simp; done) | (go_simp; rfl)); intro gb467 hg w20 hbox hb; have n0_ := Aside0.mk (qai (by repeat (first | (with_reducible first | exact HB.out | apply qab | apply qaa | apply qac) | exact HB.out)) hb); have n1_ := Aside0.mk (hbox); have n2_ := Aside0.mk ((by rw [hg]; exact (qaj (by repeat (first | (with_reducible first | exact HB.out | apply qab | apply qaa | apply qac) | exact HB.out))) : w.heap.size ≤ gb467)); have n3_ := Aside0.mk ((by rw [hg]; exact (qaj (by repeat (first | (with_reducible first | exact HB.out | apply qab | apply qaa | apply qac) | exact HB.out))) : w.heap.size ≤ gb467)); clear HB; have HB := n0_; have BK467 := n1_; have GW467 := n2_; have GE467 := n3_; clear n0_ n1_ n2_ n3_; clear hb hbox hg; have hcz21_0 : w20.cell? ⟨gb467, 0, none⟩ = some (.slice A0_0 l0_0.length c0_0) := (qae BK467.out 0).trans rfl; have hfz21_0 := qad BK467.out 0) | ((with_reducible refine qax (f := 87) rfl ?_); refine qbl (some 19) rfl rfl Try.func87 (by kernel_rfl) rfl #[.agg #[.slice A0_0 l0_0.length c0_0], .slice A1 l1.length c1] rfl (by (try simp only [List.map_toArray, List.map_cons, List.map_nil]); first | done | rfl | (simp only [List.length_drop, List.length_take]; rfl)) ?_; (with_reducible refine (qaq.calls k _ _ l0_0 _ _ l1 t474 false _ ?side1 ?side2 ?side3 ?side4 A11.out).mono ?_); (case side1 => repeat (first | exact (Kd.qav HR0_0.out HB.out) | (with_reducible refine Kd.qaM ?_ _) | (with_reducible refine Kd.qaN ?_ _) | (with_reducible refine Kd.qa2 ?_))); (case side2 => exact HC0_0.out); (case side3 => repeat (first | exact (Kd.qav HR1.out HB.out) | (with_reducible refine Kd.qaM ?_ _) | (with_reducible refine Kd.qaN ?_ _) | (with_reducible refine Kd.qa2 ?_))); (case side4 => exact HC1.out); rintro e w22 ⟨v475, rfl, ho0, hb⟩; refine ⟨_, rfl, ?_⟩; have n0_ := Aside0.mk (Kd.qby ho0 (qaj (by repeat (first | (with_reducible first | exact HB.out | apply qab | apply qaa | apply qac | refine qaf ?_ GE467.out) | exact HB.out)))); have n1_ := Aside0.mk (qar (g := gb467) (o := .cells #[.slice A0_0 l0_0.length c0_0] 29 (0, 0)) (by (with_reducible repeat (first | refine qan ?_ _ | refine qao ?_ | refine qak ?_ _)); exact BK467.out) hb); have n2_ := Aside0.mk (qai (by repeat (first | (with_reducible first | exact HB.out | apply qab | apply qaa | apply qac | refine qaf ?_ GE467.out) | exact HB.out)) hb); clear BK467; clear HB; have HO476 := n0_; have BK467 := n1_; have HB := n2_; clear n0_ n1_ n2_; (try clear hb); (try clear hb2); (try clear hk); (try clear hi); (try clear ho0)) | ((with_reducible refine qaQ (N := 24) rfl ?_); refine Kd.qgV (Kd.int .i64) _ 3 ?hg (N := 24) ?hd (xs := ([] : List Int)) (inner := []) (ok := fun _ => True) (okp := fun _ => True) ?hr ?hp (fun _ hk => hk) trivial (Below.refl _ _) (Nat.le_refl _) (by simp) ?_; (case hd => rfl); (case hg => rfl); (case hr => first | (go_simp; done) | (go_simp; rfl)); (case hp => exact (Reps.none _ _)); intro v482 w23 ho24 hb hg_ hnew_; clear hg_ hnew_; (first | rw [← Ny481.out] at ho24 | (simp only [Int.reduceToNat] at ho24; rw [← Ny481.out] at ho24)); have n0_ := Aside0.mk (Kd.qbj (by (with_reducible repeat (first | apply Kd.qa3 | apply Kd.qa8 | apply Kd.qbi)); exact HO476.out) hb); have n1_ := Aside0.mk (Kd.qby ho24 (qaj (by repeat (first | (with_reducible first | exact HB.out | apply qab | apply qaa | apply qac | refine qaf ?_ GE467.out) | exact HB.out)))); have n2_ := Aside0.mk (qar (g := gb467) (o := .cells #[.slice A0_0 l0_0.length c0_0] 29 (0, 0)) (by (with_reducible repeat (first | refine qan ?_ _ | refine qao ?_ | refine qak ?_ _)); exact BK467.out) hb); have n3_ := Aside0.mk (qai (by repeat (first | (with_reducible first | exact HB.out | apply qab | apply qaa | apply qac | refine qaf ?_ GE467.out) | exact HB.out)) hb); clear HO476; clear BK467; clear HB; have HO476 := n0_; have HO483 := n1_; have BK467 := n2_; have HB := n3_; clear n0_ n1_ n2_ n3_; clear hb ho24))
    go_ret2
    exact ⟨_, by first | rfl | (simp [qal, qam] <;> rfl) | (simp [*, qal, qam] <;> rfl), by (with_reducible repeat (first | apply Kd.qa3 | apply Kd.qa8 | apply Kd.qbi)); exact HO483.out, by repeat (first | (with_reducible first | exact HB.out | apply qab | apply qaa | apply qac | refine qaf ?_ GE467.out) | exact HB.out)⟩
end Go.Proofs.Ytenfomejccfkgaa.X
