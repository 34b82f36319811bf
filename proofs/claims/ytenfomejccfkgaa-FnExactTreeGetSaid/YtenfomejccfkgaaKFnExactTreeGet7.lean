import Derived.Test.YtenfomejccfkgaaKFnExactTreeGet4
import Derived.Test.YtenfomejccfkgaaKFnExactTreeGet6
import Derived.Deep.QuietTactic
import Derived.BigQuiet
import Derived.Below
namespace Go.Proofs.Ytenfomejccfkgaa.X
open Go.RowKit Go.Proofs.YtenfomejccfkgaaW.PrintWords Go.Proofs.YtenfomejccfkgaaW.PrintLast Go.Proofs.YtenfomejccfkgaaW.PrintMore
attribute [local go_sem] qaN qaO qaP qaJ qaK qaZ qa0 qaE qaF qaL qaM
set_option linter.unusedVariables false
set_option linter.unusedSimpArgs false
def qbd.f (k : Nat) (l0_0 : List (S50)) : Option ((List (S56))) := (qa3.f k l0_0).bind fun t195 => (some t195)
theorem qbd.mono : ∀ a0 k, LeO (qbd.f k a0) (qbd.f (k + 1) a0) := by
 intro a0 k
 unfold qbd.f
 repeat' first
   | (with_reducible exact qa3.mono _ _)
   | (with_reducible exact LeO.refl _)
   | (with_reducible exact LeO.none _)
   | (with_reducible refine LeO.ite ?_ ?_)
   | (with_reducible refine LeO.bind ?_ (fun _ => ?_))
   | exact qa3.mono _ _
   | exact LeO.none _
   | refine LeO.ite ?_ ?_
   | refine LeO.bind ?_ (fun _ => ?_)
set_option maxHeartbeats 8000000 in
set_option maxRecDepth 100000 in
theorem qbd.calls (k : Nat) (A0_0 : Option Addr) (c0_0 : Nat) (l0_0 : List (S50)) (r : List (S56)) (w : World) (hr0_0 : Kd.C k50 w A0_0 l0_0.length l0_0) (hc0_0 : l0_0.length ≤ c0_0) (h : qbd.f k l0_0 = some r) :
  Calls Try.prog 15 #[.agg #[.slice A0_0 l0_0.length c0_0]] w fun e w' => ∃ v0_ : Value, e = .returned (.agg #[v0_]) ∧ Kd.S k56 56 w' w.heap.size (fun _ => True) v0_ r ∧ Below w.heap.size w w' := by
 have hu24 := Try.underlying24
 have hu29 := Try.underlying29
 have HR0_0 := Aside0.mk hr0_0
 have HC0_0 := Aside0.mk hc0_0
 clear hr0_0 hc0_0
 have HB := Aside0.mk (Below.refl w.heap.size w)
 have H : ((qa3.f k l0_0).bind fun t195 => (some t195)) = some r := h
 clear h
 replace H := Option.bind_eq_some_iff.mp H
 obtain ⟨t195, A20, H⟩ := H
 replace H : (some t195) = some r := H
 have A2 := Aside0.mk A20
 clear A20
 obtain rfl := Option.some.inj H
 go_enter Try.func15, Try.ntmps15
 go_wp2_with (first | ((with_reducible refine qaQ (N := 1) rfl ?_); refine qaI ?hg (N := 1) ?hd (cs := #[.slice A0_0 l0_0.length c0_0]) (t := 24) ?hr ?_; (case hd => rfl); (case hg => rfl); (case hr => first | (go_simp; done) | (go_simp; rfl)); intro gb192 hg w3 hbox hb; have n0_ := Aside0.mk (qaj (by repeat (first | (with_reducible first | exact HB.out | apply qab | apply qaa | apply qac) | exact HB.out)) hb); have n1_ := Aside0.mk (hbox); have n2_ := Aside0.mk ((by rw [hg]; exact (qak (by repeat (first | (with_reducible first | exact HB.out | apply qab | apply qaa | apply qac) | exact HB.out))) : w.heap.size ≤ gb192)); have n3_ := Aside0.mk ((by rw [hg]; exact (qak (by repeat (first | (with_reducible first | exact HB.out | apply qab | apply qaa | apply qac) | exact HB.out))) : w.heap.size ≤ gb192)); clear HB; have HB := n0_; have BK192 := n1_; have GW192 := n2_; have GE192 := n3_; clear n0_ n1_ n2_ n3_; clear hb hbox hg) | ((with_reducible refine qaQ (N := 2) rfl ?_); refine qaI ?hg (N := 2) ?hd (cs := #[.slice none 0 0]) (t := 29) ?hr ?_; (case hd => rfl); (case hg => rfl); (case hr => first | (go_simp; done) | (go_simp; rfl)); intro gb193 hg w4 hbox hb; have n0_ := Aside0.mk (qaw (g := gb192) (o := .cells #[.slice A0_0 l0_0.length c0_0] 24 (0, 0)) (by (with_reducible repeat (first | refine qao ?_ _ | refine qap ?_ | refine qan ?_ _)); exact BK192.out) hb); have n1_ := Aside0.mk (qaj (by repeat (first | (with_reducible first | exact HB.out | apply qab | apply qaa | apply qac | refine qai ?_ GE192.out) | exact HB.out)) hb); have n2_ := Aside0.mk (hbox); have n3_ := Aside0.mk ((by rw [hg]; exact (qak (by repeat (first | (with_reducible first | exact HB.out | apply qab | apply qaa | apply qac | refine qai ?_ GE192.out) | exact HB.out))) : w.heap.size ≤ gb193)); have n4_ := Aside0.mk ((by rw [hg]; exact (qak (by repeat (first | (with_reducible first | exact HB.out | apply qab | apply qaa | apply qac | refine qai ?_ GE192.out) | exact HB.out))) : w.heap.size ≤ gb193)); have n5_ := Aside0.mk ((by rw [hg]; exact Nat.ne_of_lt (qbm (g := gb192) (o := .cells #[.slice A0_0 l0_0.length c0_0] 24 (0, 0)) (by (with_reducible repeat (first | refine qao ?_ _ | refine qap ?_ | refine qan ?_ _)); exact BK192.out)) : gb192 ≠ gb193)); have n6_ := Aside0.mk ((by rw [hg]; exact Nat.ne_of_gt (qbm (g := gb192) (o := .cells #[.slice A0_0 l0_0.length c0_0] 24 (0, 0)) (by (with_reducible repeat (first | refine qao ?_ _ | refine qap ?_ | refine qan ?_ _)); exact BK192.out)) : gb193 ≠ gb192)); clear BK192; clear HB; have BK192 := n0_; have HB := n1_; have BK193 := n2_; have GW193 := n3_; have GE193 := n4_; have NB192_193 := n5_; have NB193_192 := n6_; clear n0_ n1_ n2_ n3_ n4_ n5_ n6_; clear hb hbox hg) | ((with_reducible refine qaQ (N := 3) rfl ?_); refine qaI ?hg (N := 3) ?hd (cs := #[.slice none 0 0]) (t := 29) ?hr ?_; (case hd => rfl); (case hg => rfl); (case hr => first | (go_simp; done) | (go_simp; rfl)); intro gb194 hg w5 hbox hb; have n0_ := Aside0.mk (qaw (g := gb192) (o := .cells #[.slice A0_0 l0_0.length c0_0] 24 (0, 0)) (by (with_reducible repeat (first | refine qao ?_ _ | refine qap ?_ | refine qan ?_ _)); exact BK192.out) hb); have n1_ := Aside0.mk (qaw (g := gb193) (o := .cells #[.slice none 0 0] 29 (0, 0)) (by (with_reducible repeat (first | refine qao ?_ _ | refine qap ?_ | refine qan ?_ _)); exact BK193.out) hb); have n2_ := Aside0.mk (qaj (by repeat (first | (with_reducible first | exact HB.out | apply qab | apply qaa | apply qac | refine qai ?_ GE192.out | refine qai ?_ GE193.out) | exact HB.out)) hb); have n3_ := Aside0.mk (hbox); have n4_ := Aside0.mk ((by rw [hg]; exact (qak (by repeat (first | (with_reducible first | exact HB.out | apply qab | apply qaa | apply qac | refine qai ?_ GE192.out | refine qai ?_ GE193.out) | exact HB.out))) : w.heap.size ≤ gb194)); have n5_ := Aside0.mk ((by rw [hg]; exact (qak (by repeat (first | (with_reducible first | exact HB.out | apply qab | apply qaa | apply qac | refine qai ?_ GE192.out | refine qai ?_ GE193.out) | exact HB.out))) : w.heap.size ≤ gb194)); have n6_ := Aside0.mk ((by rw [hg]; exact Nat.ne_of_lt (qbm (g := gb192) (o := .cells #[.slice A0_0 l0_0.length c0_0] 24 (0, 0)) (by (with_reducible repeat (first | refine qao ?_ _ | refine qap ?_ | refine qan ?_ _)); exact BK192.out)) : gb192 ≠ gb194)); have n7_ := Aside0.mk ((by rw [hg]; exact Nat.ne_of_gt (qbm (g := gb192) (o := .cells #[.slice A0_0 l0_0.length c0_0] 24 (0, 0)) (by (with_reducible repeat (first | refine qao ?_ _ | refine qap ?_ | refine qan ?_ _)); exact BK192.out)) : gb194 ≠ gb192)); have n8_ := Aside0.mk ((by rw [hg]; exact Nat.ne_of_lt (qbm (g := gb193) (o := .cells #[.slice none 0 0] 29 (0, 0)) (by (with_reducible repeat (first | refine qao ?_ _ | refine qap ?_ | refine qan ?_ _)); exact BK193.out)) : gb193 ≠ gb194)); have n9_ := Aside0.mk ((by rw [hg]; exact Nat.ne_of_gt (qbm (g := gb193) (o := .cells #[.slice none 0 0] 29 (0, 0)) (by (with_reducible repeat (first | refine qao ?_ _ | refine qap ?_ | refine qan ?_ _)); exact BK193.out)) : gb194 ≠ gb193)); clear BK192; clear BK193; clear HB; have BK192 := n0_; have BK193 := n1_; have HB := n2_; have BK194 := n3_; have GW194 := n4_; have GE194 := n5_; have NB192_194 := n6_; have NB194_192 := n7_; have NB193_194 := n8_; have NB194_193 := n9_; clear n0_ n1_ n2_ n3_ n4_ n5_ n6_ n7_ n8_ n9_; clear hb hbox hg; have hnb6 := NB192_193.out; have hnc6 := NB193_192.out; have hnb7 := NB192_194.out; have hnc7 := NB194_192.out; have hcz8_0 : w5.cell? ⟨gb192, 0, none⟩ = some (.slice A0_0 l0_0.length c0_0) := (qah BK192.out 0).trans rfl; have hfz8_0 := qad BK192.out 0) | ((with_reducible refine qas (f := 62) rfl ?_); refine qa5 (some 6) rfl rfl Try.func62 (by kernel_rfl) rfl #[.slice A0_0 l0_0.length c0_0] rfl (by (try simp only [List.map_toArray, List.map_cons, List.map_nil]); first | done | rfl | (simp only [List.length_drop, List.length_take]; rfl)) ?_; (with_reducible refine (qa3.calls k _ _ l0_0 t195 _ ?side1 ?side2 A2.out).mono ?_); (case side1 => repeat (first | exact (Kd.qaz HR0_0.out HB.out) | (with_reducible refine Kd.qaB ?_ _) | (with_reducible refine Kd.qaC ?_ _) | (with_reducible refine Kd.qaT ?_))); (case side2 => exact HC0_0.out); rintro e w9 ⟨v196, rfl, ho0, hb⟩; refine ⟨_, rfl, ?_⟩; have n0_ := Aside0.mk (Kd.qdi ho0 (qak (by repeat (first | (with_reducible first | exact HB.out | apply qab | apply qaa | apply qac | refine qai ?_ GE192.out | refine qai ?_ GE193.out | refine qai ?_ GE194.out) | exact HB.out)))); have n1_ := Aside0.mk (qaw (g := gb192) (o := .cells #[.slice A0_0 l0_0.length c0_0] 24 (0, 0)) (by (with_reducible repeat (first | refine qao ?_ _ | refine qap ?_ | refine qan ?_ _)); exact BK192.out) hb); have n2_ := Aside0.mk (qaw (g := gb193) (o := .cells #[.slice none 0 0] 29 (0, 0)) (by (with_reducible repeat (first | refine qao ?_ _ | refine qap ?_ | refine qan ?_ _)); exact BK193.out) hb); have n3_ := Aside0.mk (qaw (g := gb194) (o := .cells #[.slice none 0 0] 29 (0, 0)) (by (with_reducible repeat (first | refine qao ?_ _ | refine qap ?_ | refine qan ?_ _)); exact BK194.out) hb); have n4_ := Aside0.mk (qaj (by repeat (first | (with_reducible first | exact HB.out | apply qab | apply qaa | apply qac | refine qai ?_ GE192.out | refine qai ?_ GE193.out | refine qai ?_ GE194.out) | exact HB.out)) hb); clear BK192; clear BK193; clear BK194; clear HB; have HO197 := n0_; have BK192 := n1_; have BK193 := n2_; have BK194 := n3_; have HB := n4_; clear n0_ n1_ n2_ n3_ n4_; (try clear hb); (try clear hb2); (try clear hk); (try clear hi); (try clear ho0); obtain ⟨Ao10, co10, eo10⟩ := Kd.qdF HO197.out; subst eo10; have hnb11 := NB194_193.out; have hnc11 := NB193_194.out; have hcz12_0 : w9.cell? ⟨gb194, 0, none⟩ = some (.slice none 0 0) := (qah BK194.out 0).trans rfl; have hfz12_0 := qad BK194.out 0; have hcz13_0 : w9.cell? ⟨gb193, 0, none⟩ = some (.slice none 0 0) := (qah BK193.out 0).trans rfl; have hfz13_0 := qad BK193.out 0))
 refine bodyPost_ret (results_cell_row rfl _ _ gb193 29 #[.slice Ao10 t195.length co10] (0, 0) _ rfl (by (with_reducible repeat (first | refine qao ?_ _ | refine qap ?_ | refine qan ?_ _)); refine qbU (cs := #[.slice none 0 0]) ?_ 0 _ rfl; (with_reducible repeat (first | refine qao ?_ _ | refine qap ?_ | refine qan ?_ _)); refine qb0 ?_ NB193_194.out _; (with_reducible repeat (first | refine qao ?_ _ | refine qap ?_ | refine qan ?_ _)); exact BK193.out) Try.underlying29 rfl (by kernel_rfl)) rfl ?_
 exact ⟨_, by first | rfl | (simp [qal, qam] <;> rfl) | (simp [*, qal, qam] <;> rfl), by (with_reducible repeat (first | apply Kd.qbK | apply Kd.qbL | apply Kd.qbT)); exact Kd.qcO (Kd.qfV (p := ⟨gb193, 0, none⟩) (Kd.qfV (p := ⟨gb194, 0, none⟩) (Kd.qdE (Kd.qdE HO197.out BK194.out (by decide)) BK193.out (by decide)) (fun _ hk => hk.1.2) (.slice Ao10 t195.length co10)) (fun _ hk => hk.2) (.slice Ao10 t195.length co10)) (fun _ hk => trivial), by repeat (first | (with_reducible first | exact HB.out | apply qab | apply qaa | apply qac | refine qai ?_ GE192.out | refine qai ?_ GE193.out | refine qai ?_ GE194.out) | exact HB.out)⟩
end Go.Proofs.Ytenfomejccfkgaa.X
namespace Go.Proofs.Ytenfomejccfkgaa.X
open Go.RowKit Go.Proofs.YtenfomejccfkgaaW.PrintWords Go.Proofs.YtenfomejccfkgaaW.PrintLast Go.Proofs.YtenfomejccfkgaaW.PrintMore
attribute [local go_sem] qaN qaO qaP qaJ qaK qaZ qa0 qaE qaF qaL qaM
set_option linter.unusedVariables false
set_option linter.unusedSimpArgs false
structure Later (w : World) where
 val : World
 below : Below w.heap.size w val
instance Later.here (w : World) : Inhabited (Later w) := ⟨⟨w, Below.refl _ _⟩⟩
theorem Later.cell {w : World} (p : Later w) {a : Addr} {v : Value} (h : w.cell? a = some v) : p.val.cell? a = some v := qcq p.below h
theorem qbf {P : Program} {id : Nat} {Q : Exit → Act → World → Prop} {a : Act} {w : World} {l : List Oper} (hm : P.follows .mixedOrders = true) (hB : Region.lexB .any l.toArray = true)
  (h : wpQuiet P l.toArray (fun w' => ∃ p : Later w.drew, w' = p.val) (fun a' => ∀ w', (∃ p : Later w.drew, w' = p.val) → Q .normal a' w') l a) : (Code.region id l.toArray true).wp P Q a w :=
 wp_region_quiet (C := fun w' => ∃ p : Later w.drew, w' = p.val) hm hB ⟨⟨w.drew, Below.refl _ _⟩, rfl⟩ (by simpa using h)
theorem Calls.qbH {P : Program} {f : FuncId} {args : Array Value} {w : World} {p : Later w} {v : Value}
  (h : Calls P f args p.val fun e w' => e = .returned v ∧ Below p.val.heap.size p.val w') : Calls P f args p.val fun e w'' => e = .returned v ∧ ∃ q : Later w, w'' = q.val :=
 h.mono fun _ _ ⟨he, hb⟩ => ⟨he, ⟨_, qaj p.below hb⟩, rfl⟩
theorem Calls.qa8 {P : Program} {f : FuncId} {args : Array Value} {w : World} {p : Later w} {v : Value}
  (h : Calls P f args p.val fun e w' => e = .returned v ∧ qbb p.val w') : Calls P f args p.val fun e w'' => e = .returned v ∧ ∃ q : Later w, w'' = q.val :=
 Calls.qbH (h.mono fun _ _ ⟨he, hb⟩ => ⟨he, hb.below⟩)
end Go.Proofs.Ytenfomejccfkgaa.X
namespace Go.Proofs.Ytenfomejccfkgaa.X
open Go.RowKit Go.Proofs.YtenfomejccfkgaaW.PrintWords Go.Proofs.YtenfomejccfkgaaW.PrintLast Go.Proofs.YtenfomejccfkgaaW.PrintMore
attribute [local go_sem] qaN qaO qaP qaJ qaK qaZ qa0 qaE qaF qaL qaM
set_option linter.unusedVariables false
set_option linter.unusedSimpArgs false
def qbV.f (a0_0 : ByteArray) (a0_1 : ByteArray) (a1_0 : ByteArray) (a1_1 : ByteArray) : Option (Bool) := if a0_0.toList = a1_0.toList then (if a0_1.toList = a1_1.toList then (some true) else (some false)) else (some false)
set_option maxHeartbeats 8000000 in
set_option maxRecDepth 100000 in
theorem qbV.calls (a0_0 : ByteArray) (a0_1 : ByteArray) (a1_0 : ByteArray) (a1_1 : ByteArray) (r : Bool) (w : World) (h : qbV.f a0_0 a0_1 a1_0 a1_1 = some r) :
  Calls Try.prog 66 #[.agg #[.string a0_0, .string a0_1], .agg #[.string a1_0, .string a1_1]] w fun e w' => e = .returned (.bool r) ∧ Below w.heap.size w w' := by
 have hu99 := Try.underlying99
 have HB := Aside0.mk (Below.refl w.heap.size w)
 have H : (if a0_0.toList = a1_0.toList then (if a0_1.toList = a1_1.toList then (some true) else (some false)) else (some false)) = some r := h
 clear h
 by_cases c3 : a0_0.toList = a1_0.toList
 ·rw [if_pos c3] at H
  have c3b0 : (a0_0.toList == a1_0.toList) = true := beq_iff_eq.mpr c3
  have c3b1 : (a0_0.toList != a1_0.toList) = false := bne_eq_false_iff_eq.mpr c3
  clear c3
  by_cases c4 : a0_1.toList = a1_1.toList
  ·rw [if_pos c4] at H
   have c4b0 : (a0_1.toList == a1_1.toList) = true := beq_iff_eq.mpr c4
   have c4b1 : (a0_1.toList != a1_1.toList) = false := bne_eq_false_iff_eq.mpr c4
   clear c4
   obtain rfl := Option.some.inj H
   go_enter Try.func66, Try.ntmps66
   go_wp2_with (first | ((with_reducible refine qaQ (N := 2) rfl ?_); refine qaI ?hg (N := 2) ?hd (cs := #[.string a0_0, .string a0_1]) (t := 99) ?hr ?_; (case hd => rfl); (case hg => rfl); (case hr => first | (go_simp; done) | (go_simp; rfl)); intro gb220 hg w5 hbox hb; have n0_ := Aside0.mk (qaj (by repeat (first | (with_reducible first | exact HB.out | apply qab | apply qaa | apply qac) | exact HB.out)) hb); have n1_ := Aside0.mk (hbox); have n2_ := Aside0.mk ((by rw [hg]; exact (qak (by repeat (first | (with_reducible first | exact HB.out | apply qab | apply qaa | apply qac) | exact HB.out))) : w.heap.size ≤ gb220)); have n3_ := Aside0.mk ((by rw [hg]; exact (qak (by repeat (first | (with_reducible first | exact HB.out | apply qab | apply qaa | apply qac) | exact HB.out))) : w.heap.size ≤ gb220)); clear HB; have HB := n0_; have BK220 := n1_; have GW220 := n2_; have GE220 := n3_; clear n0_ n1_ n2_ n3_; clear hb hbox hg) | ((with_reducible refine qaQ (N := 3) rfl ?_); refine qaI ?hg (N := 3) ?hd (cs := #[.string a1_0, .string a1_1]) (t := 99) ?hr ?_; (case hd => rfl); (case hg => rfl); (case hr => first | (go_simp; done) | (go_simp; rfl)); intro gb221 hg w6 hbox hb; have n0_ := Aside0.mk (qaw (g := gb220) (o := .cells #[.string a0_0, .string a0_1] 99 (0, 0)) (by (with_reducible repeat (first | refine qao ?_ _ | refine qap ?_ | refine qan ?_ _)); exact BK220.out) hb); have n1_ := Aside0.mk (qaj (by repeat (first | (with_reducible first | exact HB.out | apply qab | apply qaa | apply qac | refine qai ?_ GE220.out) | exact HB.out)) hb); have n2_ := Aside0.mk (hbox); have n3_ := Aside0.mk ((by rw [hg]; exact (qak (by repeat (first | (with_reducible first | exact HB.out | apply qab | apply qaa | apply qac | refine qai ?_ GE220.out) | exact HB.out))) : w.heap.size ≤ gb221)); have n4_ := Aside0.mk ((by rw [hg]; exact (qak (by repeat (first | (with_reducible first | exact HB.out | apply qab | apply qaa | apply qac | refine qai ?_ GE220.out) | exact HB.out))) : w.heap.size ≤ gb221)); have n5_ := Aside0.mk ((by rw [hg]; exact Nat.ne_of_lt (qbm (g := gb220) (o := .cells #[.string a0_0, .string a0_1] 99 (0, 0)) (by (with_reducible repeat (first | refine qao ?_ _ | refine qap ?_ | refine qan ?_ _)); exact BK220.out)) : gb220 ≠ gb221)); have n6_ := Aside0.mk ((by rw [hg]; exact Nat.ne_of_gt (qbm (g := gb220) (o := .cells #[.string a0_0, .string a0_1] 99 (0, 0)) (by (with_reducible repeat (first | refine qao ?_ _ | refine qap ?_ | refine qan ?_ _)); exact BK220.out)) : gb221 ≠ gb220)); clear BK220; clear HB; have BK220 := n0_; have HB := n1_; have BK221 := n2_; have GW221 := n3_; have GE221 := n4_; have NB220_221 := n5_; have NB221_220 := n6_; clear n0_ n1_ n2_ n3_ n4_ n5_ n6_; clear hb hbox hg; have hnb7 := NB220_221.out; have hnc7 := NB221_220.out; have hcz8_0 : w6.cell? ⟨gb220, 0, none⟩ = some (.string a0_0) := (qah BK220.out 0).trans rfl; have hcz8_1 : w6.cell? ⟨gb220, 1, none⟩ = some (.string a0_1) := (qah BK220.out 1).trans rfl; have hfz8_0 := qad BK220.out 0; have hfz8_1 := qad BK220.out 1; have hcz9_0 : w6.cell? ⟨gb221, 0, none⟩ = some (.string a1_0) := (qah BK221.out 0).trans rfl; have hcz9_1 : w6.cell? ⟨gb221, 1, none⟩ = some (.string a1_1) := (qah BK221.out 1).trans rfl; have hfz9_0 := qad BK221.out 0; have hfz9_1 := qad BK221.out 1))
   go_ret
   exact ⟨by first | rfl | (simp [qal, qam] <;> rfl) | (simp [*, qal, qam] <;> rfl), by repeat (first | (with_reducible first | exact HB.out | apply qab | apply qaa | apply qac | refine qai ?_ GE220.out | refine qai ?_ GE221.out) | exact HB.out)⟩
  ·rw [if_neg c4] at H
   have c4b0 : (a0_1.toList == a1_1.toList) = false := beq_eq_false_iff_ne.mpr c4
   have c4b1 : (a0_1.toList != a1_1.toList) = true := bne_iff_ne.mpr c4
   obtain rfl := Option.some.inj H
   go_enter Try.func66, Try.ntmps66
   go_wp2_with (first | ((with_reducible refine qaQ (N := 2) rfl ?_); refine qaI ?hg (N := 2) ?hd (cs := #[.string a0_0, .string a0_1]) (t := 99) ?hr ?_; (case hd => rfl); (case hg => rfl); (case hr => first | (go_simp; done) | (go_simp; rfl)); intro gb220 hg w10 hbox hb; have n0_ := Aside0.mk (qaj (by repeat (first | (with_reducible first | exact HB.out | apply qab | apply qaa | apply qac) | exact HB.out)) hb); have n1_ := Aside0.mk (hbox); have n2_ := Aside0.mk ((by rw [hg]; exact (qak (by repeat (first | (with_reducible first | exact HB.out | apply qab | apply qaa | apply qac) | exact HB.out))) : w.heap.size ≤ gb220)); have n3_ := Aside0.mk ((by rw [hg]; exact (qak (by repeat (first | (with_reducible first | exact HB.out | apply qab | apply qaa | apply qac) | exact HB.out))) : w.heap.size ≤ gb220)); clear HB; have HB := n0_; have BK220 := n1_; have GW220 := n2_; have GE220 := n3_; clear n0_ n1_ n2_ n3_; clear hb hbox hg) | ((with_reducible refine qaQ (N := 3) rfl ?_); refine qaI ?hg (N := 3) ?hd (cs := #[.string a1_0, .string a1_1]) (t := 99) ?hr ?_; (case hd => rfl); (case hg => rfl); (case hr => first | (go_simp; done) | (go_simp; rfl)); intro gb221 hg w11 hbox hb; have n0_ := Aside0.mk (qaw (g := gb220) (o := .cells #[.string a0_0, .string a0_1] 99 (0, 0)) (by (with_reducible repeat (first | refine qao ?_ _ | refine qap ?_ | refine qan ?_ _)); exact BK220.out) hb); have n1_ := Aside0.mk (qaj (by repeat (first | (with_reducible first | exact HB.out | apply qab | apply qaa | apply qac | refine qai ?_ GE220.out) | exact HB.out)) hb); have n2_ := Aside0.mk (hbox); have n3_ := Aside0.mk ((by rw [hg]; exact (qak (by repeat (first | (with_reducible first | exact HB.out | apply qab | apply qaa | apply qac | refine qai ?_ GE220.out) | exact HB.out))) : w.heap.size ≤ gb221)); have n4_ := Aside0.mk ((by rw [hg]; exact (qak (by repeat (first | (with_reducible first | exact HB.out | apply qab | apply qaa | apply qac | refine qai ?_ GE220.out) | exact HB.out))) : w.heap.size ≤ gb221)); have n5_ := Aside0.mk ((by rw [hg]; exact Nat.ne_of_lt (qbm (g := gb220) (o := .cells #[.string a0_0, .string a0_1] 99 (0, 0)) (by (with_reducible repeat (first | refine qao ?_ _ | refine qap ?_ | refine qan ?_ _)); exact BK220.out)) : gb220 ≠ gb221)); have n6_ := Aside0.mk ((by rw [hg]; exact Nat.ne_of_gt (qbm (g := gb220) (o := .cells #[.string a0_0, .string a0_1] 99 (0, 0)) (by (with_reducible repeat (first | refine qao ?_ _ | refine qap ?_ | refine qan ?_ _)); exact BK220.out)) : gb221 ≠ gb220)); clear BK220; clear HB; have BK220 := n0_; have HB := n1_; have BK221 := n2_; have GW221 := n3_; have GE221 := n4_; have NB220_221 := n5_; have NB221_220 := n6_; clear n0_ n1_ n2_ n3_ n4_ n5_ n6_; clear hb hbox hg; have hnb12 := NB220_221.out; have hnc12 := NB221_220.out; have hcz13_0 : w11.cell? ⟨gb220, 0, none⟩ = some (.string a0_0) := (qah BK220.out 0).trans rfl; have hcz13_1 : w11.cell? ⟨gb220, 1, none⟩ = some (.string a0_1) := (qah BK220.out 1).trans rfl; have hfz13_0 := qad BK220.out 0; have hfz13_1 := qad BK220.out 1; have hcz14_0 : w11.cell? ⟨gb221, 0, none⟩ = some (.string a1_0) := (qah BK221.out 0).trans rfl; have hcz14_1 : w11.cell? ⟨gb221, 1, none⟩ = some (.string a1_1) := (qah BK221.out 1).trans rfl; have hfz14_0 := qad BK221.out 0; have hfz14_1 := qad BK221.out 1))
   go_ret
   exact ⟨by first | rfl | (simp [qal, qam] <;> rfl) | (simp [*, qal, qam] <;> rfl), by repeat (first | (with_reducible first | exact HB.out | apply qab | apply qaa | apply qac | refine qai ?_ GE220.out | refine qai ?_ GE221.out) | exact HB.out)⟩
 ·rw [if_neg c3] at H
  have c3b0 : (a0_0.toList == a1_0.toList) = false := beq_eq_false_iff_ne.mpr c3
  have c3b1 : (a0_0.toList != a1_0.toList) = true := bne_iff_ne.mpr c3
  obtain rfl := Option.some.inj H
  go_enter Try.func66, Try.ntmps66
  go_wp2_with (first | ((with_reducible refine qaQ (N := 2) rfl ?_); refine qaI ?hg (N := 2) ?hd (cs := #[.string a0_0, .string a0_1]) (t := 99) ?hr ?_; (case hd => rfl); (case hg => rfl); (case hr => first | (go_simp; done) | (go_simp; rfl)); intro gb220 hg w15 hbox hb; have n0_ := Aside0.mk (qaj (by repeat (first | (with_reducible first | exact HB.out | apply qab | apply qaa | apply qac) | exact HB.out)) hb); have n1_ := Aside0.mk (hbox); have n2_ := Aside0.mk ((by rw [hg]; exact (qak (by repeat (first | (with_reducible first | exact HB.out | apply qab | apply qaa | apply qac) | exact HB.out))) : w.heap.size ≤ gb220)); have n3_ := Aside0.mk ((by rw [hg]; exact (qak (by repeat (first | (with_reducible first | exact HB.out | apply qab | apply qaa | apply qac) | exact HB.out))) : w.heap.size ≤ gb220)); clear HB; have HB := n0_; have BK220 := n1_; have GW220 := n2_; have GE220 := n3_; clear n0_ n1_ n2_ n3_; clear hb hbox hg) | ((with_reducible refine qaQ (N := 3) rfl ?_); refine qaI ?hg (N := 3) ?hd (cs := #[.string a1_0, .string a1_1]) (t := 99) ?hr ?_; (case hd => rfl); (case hg => rfl); (case hr => first | (go_simp; done) | (go_simp; rfl)); intro gb221 hg w16 hbox hb; have n0_ := Aside0.mk (qaw (g := gb220) (o := .cells #[.string a0_0, .string a0_1] 99 (0, 0)) (by (with_reducible repeat (first | refine qao ?_ _ | refine qap ?_ | refine qan ?_ _)); exact BK220.out) hb); have n1_ := Aside0.mk (qaj (by repeat (first | (with_reducible first | exact HB.out | apply qab | apply qaa | apply qac | refine qai ?_ GE220.out) | exact HB.out)) hb); have n2_ := Aside0.mk (hbox); have n3_ := Aside0.mk ((by rw [hg]; exact (qak (by repeat (first | (with_reducible first | exact HB.out | apply qab | apply qaa | apply qac | refine qai ?_ GE220.out) | exact HB.out))) : w.heap.size ≤ gb221)); have n4_ := Aside0.mk ((by rw [hg]; exact (qak (by repeat (first | (with_reducible first | exact HB.out | apply qab | apply qaa | apply qac | refine qai ?_ GE220.out) | exact HB.out))) : w.heap.size ≤ gb221)); have n5_ := Aside0.mk ((by rw [hg]; exact Nat.ne_of_lt (qbm (g := gb220) (o := .cells #[.string a0_0, .string a0_1] 99 (0, 0)) (by (with_reducible repeat (first | refine qao ?_ _ | refine qap ?_ | refine qan ?_ _)); exact BK220.out)) : gb220 ≠ gb221)); have n6_ := Aside0.mk ((by rw [hg]; exact Nat.ne_of_gt (qbm (g := gb220) (o := .cells #[.string a0_0, .string a0_1] 99 (0, 0)) (by (with_reducible repeat (first | refine qao ?_ _ | refine qap ?_ | refine qan ?_ _)); exact BK220.out)) : gb221 ≠ gb220)); clear BK220; clear HB; have BK220 := n0_; have HB := n1_; have BK221 := n2_; have GW221 := n3_; have GE221 := n4_; have NB220_221 := n5_; have NB221_220 := n6_; clear n0_ n1_ n2_ n3_ n4_ n5_ n6_; clear hb hbox hg; have hnb17 := NB220_221.out; have hnc17 := NB221_220.out; have hcz18_0 : w16.cell? ⟨gb220, 0, none⟩ = some (.string a0_0) := (qah BK220.out 0).trans rfl; have hcz18_1 : w16.cell? ⟨gb220, 1, none⟩ = some (.string a0_1) := (qah BK220.out 1).trans rfl; have hfz18_0 := qad BK220.out 0; have hfz18_1 := qad BK220.out 1; have hcz19_0 : w16.cell? ⟨gb221, 0, none⟩ = some (.string a1_0) := (qah BK221.out 0).trans rfl; have hcz19_1 : w16.cell? ⟨gb221, 1, none⟩ = some (.string a1_1) := (qah BK221.out 1).trans rfl; have hfz19_0 := qad BK221.out 0; have hfz19_1 := qad BK221.out 1))
  go_ret
  exact ⟨by first | rfl | (simp [qal, qam] <;> rfl) | (simp [*, qal, qam] <;> rfl), by repeat (first | (with_reducible first | exact HB.out | apply qab | apply qaa | apply qac | refine qai ?_ GE220.out | refine qai ?_ GE221.out) | exact HB.out)⟩
end Go.Proofs.Ytenfomejccfkgaa.X
namespace Go.Proofs.Ytenfomejccfkgaa.X
open Go.RowKit Go.Proofs.YtenfomejccfkgaaW.PrintWords Go.Proofs.YtenfomejccfkgaaW.PrintLast Go.Proofs.YtenfomejccfkgaaW.PrintMore
attribute [local go_sem] qaN qaO qaP qaJ qaK qaZ qa0 qaE qaF qaL qaM
set_option linter.unusedVariables false
set_option linter.unusedSimpArgs false
def qaV.l0 : Nat → List (S99) → List (S99) → Int → Option (Bool)
 | 0, _, _, _ => none
 | k + 1, x0, x1, x5 => if x5 < (x0.length : Int) then (if 0 ≤ x5 then (if x5 < (x1.length : Int) then ((qbV.f ((qay x0 x5).f0) ((qay x0 x5).f1) ((qay x1 x5).f0) ((qay x1 x5).f1)).bind fun t224 => (if t224 = true then (qaV.l0 k x0 x1 (wrap64 (x5 + 1))) else (some false))) else (none)) else (none)) else (some true)
def qaV.f (k : Nat) (l0 : List (S99)) (l1 : List (S99)) : Option (Bool) := if (l0.length : Int) = (l1.length : Int) then (qaV.l0 k l0 l1 0) else (some false)
theorem qaV.qbo : ∀ k, (∀ y0 y1 y2, LeO (qaV.l0 k y0 y1 y2) (qaV.l0 (k + 1) y0 y1 y2))
 | 0 => fun _ _ _ r h => by simp [qaV.l0] at h
 | k + 1 => by
  have ih0 := qaV.qbo k
  ·intro y0 y1 y2
   unfold qaV.l0
   repeat' first
   | (with_reducible exact ih0 _ _ _)
   | (with_reducible exact LeO.refl _)
   | (with_reducible exact LeO.none _)
   | (with_reducible refine LeO.ite ?_ ?_)
   | (with_reducible refine LeO.bind ?_ (fun _ => ?_))
   | exact ih0 _ _ _
   | exact LeO.none _
   | refine LeO.ite ?_ ?_
   | refine LeO.bind ?_ (fun _ => ?_)
theorem qaV.mono : ∀ a0 a1 k, LeO (qaV.f k a0 a1) (qaV.f (k + 1) a0 a1) := by
 intro a0 a1 k
 have ih0 := qaV.qbo k
 unfold qaV.f
 repeat' first
   | (with_reducible exact ih0 _ _ _)
   | (with_reducible exact LeO.refl _)
   | (with_reducible exact LeO.none _)
   | (with_reducible refine LeO.ite ?_ ?_)
   | (with_reducible refine LeO.bind ?_ (fun _ => ?_))
   | exact ih0 _ _ _
   | exact LeO.none _
   | refine LeO.ite ?_ ?_
   | refine LeO.bind ?_ (fun _ => ?_)
def qaV.T6 : Bool × List (List Nat × List Nat) := (true, [([], []), ([], []), ([0, 1], [0, 1]), ([2], [2]), ([], []), ([], []), ([4, 5], [4, 5]), ([6], [6]), ([3, 7], [3, 7]), ([8], [8])])
def qaV.B6 : List Nat := [0, 0, 3, 7, 0, 0, 48, 112, 255, 511]
theorem qaV.tab6 : rtab .any (opsOf Try.f20 6) = qaV.T6 := by kernel_rfl
theorem qaV.bits6 : qbO qaV.T6.2 qaV.B6 = true := by kernel_rfl
set_option maxHeartbeats 8000000 in
set_option maxRecDepth 100000 in
theorem qaV.calls (k : Nat) (A0 : Option Addr) (c0 : Nat) (l0 : List (S99)) (A1 : Option Addr) (c1 : Nat) (l1 : List (S99)) (r : Bool) (w : World) (hr0 : Kd.C k99 w A0 l0.length l0) (hc0 : l0.length ≤ c0) (hr1 : Kd.C k99 w A1 l1.length l1) (hc1 : l1.length ≤ c1) (h : qaV.f k l0 l1 = some r) :
  Calls Try.prog 20 #[.slice A0 l0.length c0, .slice A1 l1.length c1] w fun e w' => e = .returned (.bool r) ∧ Below w.heap.size w w' := by
 have hu99 := Try.underlying99
 have HR0 := Aside0.mk hr0
 have HC0 := Aside0.mk hc0
 clear hr0 hc0
 have HR1 := Aside0.mk hr1
 have HC1 := Aside0.mk hc1
 clear hr1 hc1
 have HB := Aside0.mk (Below.refl w.heap.size w)
 have H : (if (l0.length : Int) = (l1.length : Int) then (qaV.l0 k l0 l1 0) else (some false)) = some r := h
 clear h
 by_cases c3 : (l0.length : Int) = (l1.length : Int)
 ·rw [if_pos c3] at H
  have c3b0 : ((l0.length : Int) == (l1.length : Int)) = true := beq_iff_eq.mpr c3
  have c3b1 : ((l0.length : Int) != (l1.length : Int)) = false := bne_eq_false_iff_eq.mpr c3
  have c3b2 : (l0.length == l1.length) = true := by first | simpa using c3 | (simp at c3 ⊢; omega)
  clear c3
  have H' := Aside0.mk H
  clear H
  go_enter Try.func20, Try.ntmps20
  go_wp2
  go_loopg [5] k (fun kq v5 w' => ∃ (x5_1 : Int), v5 = .int .i64 x5_1 ∧ Aside0 (qaV.l0 kq l0 l1 x5_1 = some r) ∧ Aside0 (kq ≤ k) ∧ Aside0 (Below w.heap.size w w'))
  case atStart => exact ⟨(0), (by first | rfl | (simp; done) | (simp [*]; done)), H', ⟨Nat.le_refl _⟩, ⟨by repeat (first | (with_reducible first | exact HB.out | apply qab | apply qaa | apply qac) | exact HB.out)⟩⟩
  case round =>
   clear H'
   try clear c1
   try clear c2
   try clear p2
   try clear c3
   try clear c3b0
   try clear c3b1
   try clear c3b2
   obtain ⟨x5_1, rfl, HA, HK1, HB⟩ := hrel
   cases gk with
   | zero => exact absurd HA.out (by simp [qaV.l0])
   | succ k1 =>
    have H := HA.out
    clear HA
    simp only [qaV.l0] at H
    by_cases c4 : x5_1 < (l0.length : Int)
    ·rw [if_pos c4] at H
     have c4b0 : decide (x5_1 < (l0.length : Int)) = true := decide_eq_true c4
     clear c4
     by_cases c5 : 0 ≤ x5_1
     ·rw [if_pos c5] at H
      have c5b0 : decide (0 ≤ x5_1) = true := decide_eq_true c5
      clear c5
      by_cases c6 : x5_1 < (l1.length : Int)
      ·rw [if_pos c6] at H
       have c6b0 : decide (x5_1 < (l1.length : Int)) = true := decide_eq_true c6
       clear c6
       replace H := Option.bind_eq_some_iff.mp H
       obtain ⟨t224, A70, H⟩ := H
       replace H : (if t224 = true then (qaV.l0 k1 l0 l1 (wrap64 (x5_1 + 1))) else (some false)) = some r := H
       have A7 := Aside0.mk A70
       clear A70
       by_cases c8 : t224 = true
       ·subst c8
        have H1 : (qaV.l0 k1 l0 l1 (wrap64 (x5_1 + 1))) = some r := by rw [if_pos rfl] at H; exact H
        clear H
        have H := H1
        clear H1
        have H' := Aside0.mk H
        clear H
        try go_wp2
        have n0_ := Aside0.mk (qac HB.out)
        clear HB
        have HB := n0_
        clear n0_
        have p222 : 0 ≤ (x5_1 : Int) := of_decide_eq_true (by first | (with_reducible assumption) | assumption)
        have q222 : x5_1 < (l0.length : Int) := of_decide_eq_true (by first | (with_reducible assumption) | assumption)
        obtain ⟨ad222, e222, hx222_0, hx222_1⟩ := qbS HR0.out x5_1 p222 q222
        have hw222_1 := hx222_1
        have hw222_0 := hx222_0
        cases e222
        replace hx222_0 := (HB.out.cell (World.block_lt_of_cell? w _ hx222_0)).trans hx222_0
        replace hx222_1 := (HB.out.cell (World.block_lt_of_cell? w _ hx222_1)).trans hx222_1
        replace p222 := eq_true p222
        replace q222 := eq_true q222
        have p223 : 0 ≤ (x5_1 : Int) := of_decide_eq_true (by first | (with_reducible assumption) | assumption)
        have q223 : x5_1 < (l1.length : Int) := of_decide_eq_true (by first | (with_reducible assumption) | assumption)
        obtain ⟨ad223, e223, hx223_0, hx223_1⟩ := qbS HR1.out x5_1 p223 q223
        have hw223_1 := hx223_1
        have hw223_0 := hx223_0
        cases e223
        replace hx223_0 := (HB.out.cell (World.block_lt_of_cell? w _ hx223_0)).trans hx223_0
        replace hx223_1 := (HB.out.cell (World.block_lt_of_cell? w _ hx223_1)).trans hx223_1
        replace p223 := eq_true p223
        replace q223 := eq_true q223
        refine qbf (by kernel_rfl) (by kernel_rfl) ?_
        have hL0_ := Aside0.mk (show wr.drew.cell? (ad222.add ((x5_1).toNat * 2)) = some (.string ((qay l0 x5_1).f0)) from ((HB.out.cell (World.block_lt_of_cell? w _ hw222_0)).trans hw222_0))
        have hL1_ := Aside0.mk (show wr.drew.cell? ⟨(ad222.add ((x5_1).toNat * 2)).block, (ad222.add ((x5_1).toNat * 2)).off + 1, none⟩ = some (.string ((qay l0 x5_1).f1)) from ((HB.out.cell (World.block_lt_of_cell? w _ hw222_1)).trans hw222_1))
        have hL2_ := Aside0.mk (show wr.drew.cell? (ad223.add ((x5_1).toNat * 2)) = some (.string ((qay l1 x5_1).f0)) from ((HB.out.cell (World.block_lt_of_cell? w _ hw223_0)).trans hw223_0))
        have hL3_ := Aside0.mk (show wr.drew.cell? ⟨(ad223.add ((x5_1).toNat * 2)).block, (ad223.add ((x5_1).toNat * 2)).off + 1, none⟩ = some (.string ((qay l1 x5_1).f1)) from ((HB.out.cell (World.block_lt_of_cell? w _ hw223_1)).trans hw223_1))
        generalize wr.drew = w9 at HB hx222_0 hx222_1 hx223_0 hx223_1 hL0_ hL1_ hL2_ hL3_ ⊢
        clear hx222_0 hx222_1 hx223_0 hx223_1
        have hL0 := fun (p_ : Later w9) => Later.cell p_ hL0_.out
        have hL1 := fun (p_ : Later w9) => Later.cell p_ hL1_.out
        have hL2 := fun (p_ : Later w9) => Later.cell p_ hL2_.out
        have hL3 := fun (p_ : Later w9) => Later.cell p_ hL3_.out
        clear hL0_ hL1_ hL2_ hL3_
        repeat (first | go_big_quiet_step ((first | (go_at_call 66; exact Calls.qbH (qbV.calls ((qay l0 x5_1).f0) ((qay l0 x5_1).f1) ((qay l1 x5_1).f0) ((qay l1 x5_1).f1) true _ A7.out)))) | quiet_step ((first | (go_at_call 66; exact Calls.qbH (qbV.calls ((qay l0 x5_1).f0) ((qay l0 x5_1).f1) ((qay l1 x5_1).f0) ((qay l1 x5_1).f1) true _ A7.out)))))
        refine wpQuiet_nil ?_
        rintro w10 ⟨⟨wq_, hbL⟩, hq_⟩
        have hq2_ : w10 = wq_ := hq_
        clear hq_
        subst hq2_
        clear hL0 hL1 hL2 hL3
        have nHB_ := Aside0.mk (qaj HB.out hbL)
        clear HB
        have HB := nHB_
        clear nHB_
        clear hbL
        try go_wp2
        go_roundg k1
        case measure => have := HK1.out; omega
        case rel => exact ⟨(wrap64 (x5_1 + 1)), (by first | rfl | (simp; done) | (simp [*]; done)), H', ⟨by have := HK1.out; omega⟩, ⟨by repeat (first | (with_reducible first | exact HB.out | apply qab | apply qaa | apply qac) | exact HB.out)⟩⟩
       ·replace c8 := Bool.eq_false_iff.mpr c8
        subst c8
        have H1 : (some false) = some r := by rw [if_neg (show ¬ (false = true) by decide)] at H; exact H
        clear H
        have H := H1
        clear H1
        obtain rfl := Option.some.inj H
        try go_wp2
        have n0_ := Aside0.mk (qac HB.out)
        clear HB
        have HB := n0_
        clear n0_
        have p222 : 0 ≤ (x5_1 : Int) := of_decide_eq_true (by first | (with_reducible assumption) | assumption)
        have q222 : x5_1 < (l0.length : Int) := of_decide_eq_true (by first | (with_reducible assumption) | assumption)
        obtain ⟨ad222, e222, hx222_0, hx222_1⟩ := qbS HR0.out x5_1 p222 q222
        have hw222_1 := hx222_1
        have hw222_0 := hx222_0
        cases e222
        replace hx222_0 := (HB.out.cell (World.block_lt_of_cell? w _ hx222_0)).trans hx222_0
        replace hx222_1 := (HB.out.cell (World.block_lt_of_cell? w _ hx222_1)).trans hx222_1
        replace p222 := eq_true p222
        replace q222 := eq_true q222
        have p223 : 0 ≤ (x5_1 : Int) := of_decide_eq_true (by first | (with_reducible assumption) | assumption)
        have q223 : x5_1 < (l1.length : Int) := of_decide_eq_true (by first | (with_reducible assumption) | assumption)
        obtain ⟨ad223, e223, hx223_0, hx223_1⟩ := qbS HR1.out x5_1 p223 q223
        have hw223_1 := hx223_1
        have hw223_0 := hx223_0
        cases e223
        replace hx223_0 := (HB.out.cell (World.block_lt_of_cell? w _ hx223_0)).trans hx223_0
        replace hx223_1 := (HB.out.cell (World.block_lt_of_cell? w _ hx223_1)).trans hx223_1
        replace p223 := eq_true p223
        replace q223 := eq_true q223
        refine qbf (by kernel_rfl) (by kernel_rfl) ?_
        have hL0_ := Aside0.mk (show wr.drew.cell? (ad222.add ((x5_1).toNat * 2)) = some (.string ((qay l0 x5_1).f0)) from ((HB.out.cell (World.block_lt_of_cell? w _ hw222_0)).trans hw222_0))
        have hL1_ := Aside0.mk (show wr.drew.cell? ⟨(ad222.add ((x5_1).toNat * 2)).block, (ad222.add ((x5_1).toNat * 2)).off + 1, none⟩ = some (.string ((qay l0 x5_1).f1)) from ((HB.out.cell (World.block_lt_of_cell? w _ hw222_1)).trans hw222_1))
        have hL2_ := Aside0.mk (show wr.drew.cell? (ad223.add ((x5_1).toNat * 2)) = some (.string ((qay l1 x5_1).f0)) from ((HB.out.cell (World.block_lt_of_cell? w _ hw223_0)).trans hw223_0))
        have hL3_ := Aside0.mk (show wr.drew.cell? ⟨(ad223.add ((x5_1).toNat * 2)).block, (ad223.add ((x5_1).toNat * 2)).off + 1, none⟩ = some (.string ((qay l1 x5_1).f1)) from ((HB.out.cell (World.block_lt_of_cell? w _ hw223_1)).trans hw223_1))
        generalize wr.drew = w11 at HB hx222_0 hx222_1 hx223_0 hx223_1 hL0_ hL1_ hL2_ hL3_ ⊢
        clear hx222_0 hx222_1 hx223_0 hx223_1
        have hL0 := fun (p_ : Later w11) => Later.cell p_ hL0_.out
        have hL1 := fun (p_ : Later w11) => Later.cell p_ hL1_.out
        have hL2 := fun (p_ : Later w11) => Later.cell p_ hL2_.out
        have hL3 := fun (p_ : Later w11) => Later.cell p_ hL3_.out
        clear hL0_ hL1_ hL2_ hL3_
        repeat (first | go_big_quiet_step ((first | (go_at_call 66; exact Calls.qbH (qbV.calls ((qay l0 x5_1).f0) ((qay l0 x5_1).f1) ((qay l1 x5_1).f0) ((qay l1 x5_1).f1) false _ A7.out)))) | quiet_step ((first | (go_at_call 66; exact Calls.qbH (qbV.calls ((qay l0 x5_1).f0) ((qay l0 x5_1).f1) ((qay l1 x5_1).f0) ((qay l1 x5_1).f1) false _ A7.out)))))
        refine wpQuiet_nil ?_
        rintro w12 ⟨⟨wq_, hbL⟩, hq_⟩
        have hq2_ : w12 = wq_ := hq_
        clear hq_
        subst hq2_
        clear hL0 hL1 hL2 hL3
        have nHB_ := Aside0.mk (qaj HB.out hbL)
        clear HB
        have HB := nHB_
        clear nHB_
        clear hbL
        try go_wp2
        go_ret
        exact ⟨by first | rfl | (simp [qal, qam] <;> rfl) | (simp [*, qal, qam] <;> rfl), by repeat (first | (with_reducible first | exact HB.out | apply qab | apply qaa | apply qac) | exact HB.out)⟩
      ·rw [if_neg c6] at H
       exact absurd H (by simp)
     ·rw [if_neg c5] at H
      exact absurd H (by simp)
    ·rw [if_neg c4] at H
     have c4b0 : decide (x5_1 < (l0.length : Int)) = false := decide_eq_false c4
     clear c4
     obtain rfl := Option.some.inj H
     go_wp2
     go_ret
     exact ⟨by first | rfl | (simp [qal, qam] <;> rfl) | (simp [*, qal, qam] <;> rfl), by repeat (first | (with_reducible first | exact HB.out | apply qab | apply qaa | apply qac) | exact HB.out)⟩
 ·rw [if_neg c3] at H
  have c3b0 : ((l0.length : Int) == (l1.length : Int)) = false := beq_eq_false_iff_ne.mpr c3
  have c3b1 : ((l0.length : Int) != (l1.length : Int)) = true := bne_iff_ne.mpr c3
  have c3b2 : (l0.length == l1.length) = false := by first | simpa using c3 | (simp at c3 ⊢; omega)
  obtain rfl := Option.some.inj H
  go_enter Try.func20, Try.ntmps20
  go_wp2
  go_ret
  exact ⟨by first | rfl | (simp [qal, qam] <;> rfl) | (simp [*, qal, qam] <;> rfl), by repeat (first | (with_reducible first | exact HB.out | apply qab | apply qaa | apply qac) | exact HB.out)⟩
end Go.Proofs.Ytenfomejccfkgaa.X
