import Derived.Test.YtenfomejccfkgaaKFnExactNodeBytes3
import Derived.Test.YtenfomejccfkgaaKFnExactNodeBytes11
import Derived.LoopTactic
import Derived.BigQuiet
namespace Go.Proofs.Ytenfomejccfkgaa.X
open Go.RowKit Go.Proofs.YtenfomejccfkgaaW.PrintWords Go.Proofs.YtenfomejccfkgaaW.PrintLast Go.Proofs.YtenfomejccfkgaaW.PrintMore
attribute [local go_sem] qaE qaF qaG qaz qaA qaS qaT qau qav qaB qaC
set_option linter.unusedVariables false
set_option linter.unusedSimpArgs false
set_option maxRecDepth 100000
def qbr (i : Nat) : Array Value := ((List.range 16).map fun j => Value.int .i64 (if j < i then ((step4 j : Nat) : Int) else 0)).toArray
def itN : Nat → Nat → Nat
 | 0, x => x
 | k + 1, x => stepN (itN k x)
theorem itN_lt (k x : Nat) (h : x < 4294967296) : itN k x < 4294967296 := by
 induction k with
 | zero => exact h
 | succ k ih => exact qcX ih
theorem qcF (a b : Nat) (ha : a < 9223372036854775808) (hb : b < 9223372036854775808) : bits .xor .i64 (a : Int) (b : Int) = ((a ^^^ b : Nat) : Int) := by
 have h := Nat.xor_lt_two_pow (n := 63) ha hb
 show IntKind.i64.wrap ((BitVec.ofInt 64 (a : Int) ^^^ BitVec.ofInt 64 (b : Int)).toNat : Nat) = _
 rw [BitVec.toNat_xor, ofInt_u64 a (by omega), ofInt_u64 b (by omega), IntKind.wrap_i64]
 omega
theorem qdO (a b : Nat) (ha : a < 9223372036854775808) (hb : b < 9223372036854775808) : bits .and .i64 (a : Int) (b : Int) = ((a &&& b : Nat) : Int) := by
 have h := Nat.and_lt_two_pow a (n := 63) hb
 show IntKind.i64.wrap ((BitVec.ofInt 64 (a : Int) &&& BitVec.ofInt 64 (b : Int)).toNat : Nat) = _
 rw [BitVec.toNat_and, ofInt_u64 a (by omega), ofInt_u64 b (by omega), IntKind.wrap_i64]
 omega
theorem qfs (n : Nat) (h : n < 4294967296) : bits .xor .i64 ((n : Int) / 2) (wrap64 (bits .and .i64 (n : Int) 1 * 3988292384)) = ((stepN n : Nat) : Int) := by
 have e1 : bits .and .i64 (n : Int) 1 = ((n % 2 : Nat) : Int) := by
  have := qdO n 1 (by omega) (by decide)
  rw [Nat.and_one_is_mod] at this
  exact this
 rw [e1]
 have e2 : wrap64 (((n % 2 : Nat) : Int) * 3988292384) = ((3988292384 * (n % 2) : Nat) : Int) := by
  have h1 : n % 2 ≤ 1 := by omega
  rw [qbw (by omega) (by omega)]
  omega
 have e3 : (n : Int) / 2 = ((n / 2 : Nat) : Int) := by omega
 rw [e2, e3, qcF _ _ (by omega) (by rcases Nat.mod_two_eq_zero_or_one n with hx | hx <;> rw [hx] <;> decide)]
 rfl
theorem qcN (i : Nat) (h : i < 16) (j : Nat) : (qbr j)[i]? = some (.int .i64 (if i < j then ((step4 i : Nat) : Int) else 0)) := by
 unfold qbr
 simp [h]
theorem qc9 (j : Nat) : (qbr j).size = 16 := by unfold qbr; simp
theorem qfU (i : Nat) (h : i < 16) : (qbr i).setIfInBounds i (.int .i64 ((step4 i : Nat) : Int)) = qbr (i + 1) := by
 refine Array.ext_getElem? fun k => ?_
 rw [Array.getElem?_setIfInBounds, qc9]
 by_cases hk : k < 16
 ·rw [qcN k hk, qcN k hk]
  by_cases e : i = k
  ·subst e; simp [h]
  ·rw [if_neg e]
   by_cases h2 : k < i
   ·simp [h2, show k < i + 1 by omega]
   ·simp [h2, show ¬ k < i + 1 by omega]
 ·rw [if_neg (by omega)]
  rw [Array.getElem?_eq_none (by rw [qc9]; omega), Array.getElem?_eq_none (by rw [qc9]; omega)]
theorem blk_old2 (w : World) (o : Obj) (i : Nat) (h : i < w.heap.size) : (w.alloc o).heap[i]? = w.heap[i]? := by
 show (w.heap.push o)[i]? = _
 rw [Array.getElem?_push, if_neg (by omega)]
theorem qfV (w : World) (A B : Obj) : ((w.alloc A).alloc B).heap[w.heap.size]? = some A ∧ ((w.alloc A).alloc B).heap[w.heap.size + 1]? = some B ∧ Below w.heap.size w ((w.alloc A).alloc B) := by
 have hs : (w.alloc A).heap.size = w.heap.size + 1 := (by show (w.heap.push A).size = _; rw [Array.size_push])
 refine ⟨?_, ?_, ?_⟩
 ·exact (blk_old2 (w.alloc A) B w.heap.size (by omega)).trans (qcz w A)
 ·rw [← hs]; exact qcz (w.alloc A) B
 ·exact ((Below.refl _ w).alloc (Nat.le_refl _) _).alloc (by omega) _
def set16 (w : World) (g : Nat) (y0 y1 y2 y3 y4 y5 y6 y7 y8 y9 y10 y11 y12 y13 y14 y15 : Int) : World := ((((((((((((((((w.setCell ⟨g, 0, none⟩ (.int .i64 y0)).setCell ⟨g, 1, none⟩ (.int .i64 y1)).setCell ⟨g, 2, none⟩ (.int .i64 y2)).setCell ⟨g, 3, none⟩ (.int .i64 y3)).setCell ⟨g, 4, none⟩ (.int .i64 y4)).setCell ⟨g, 5, none⟩ (.int .i64 y5)).setCell ⟨g, 6, none⟩ (.int .i64 y6)).setCell ⟨g, 7, none⟩ (.int .i64 y7)).setCell ⟨g, 8, none⟩ (.int .i64 y8)).setCell ⟨g, 9, none⟩ (.int .i64 y9)).setCell ⟨g, 10, none⟩ (.int .i64 y10)).setCell ⟨g, 11, none⟩ (.int .i64 y11)).setCell ⟨g, 12, none⟩ (.int .i64 y12)).setCell ⟨g, 13, none⟩ (.int .i64 y13)).setCell ⟨g, 14, none⟩ (.int .i64 y14)).setCell ⟨g, 15, none⟩ (.int .i64 y15))
theorem qgB {w : World} {g : Nat} {t : TypeId} (h : w.heap[g]? = some (.cells (qbr 0) t (0, 0))) (y0 y1 y2 y3 y4 y5 y6 y7 y8 y9 y10 y11 y12 y13 y14 y15 : Int) : (set16 w g y0 y1 y2 y3 y4 y5 y6 y7 y8 y9 y10 y11 y12 y13 y14 y15).heap[g]? = some (.cells #[.int .i64 y0, .int .i64 y1, .int .i64 y2, .int .i64 y3, .int .i64 y4, .int .i64 y5, .int .i64 y6, .int .i64 y7, .int .i64 y8, .int .i64 y9, .int .i64 y10, .int .i64 y11, .int .i64 y12, .int .i64 y13, .int .i64 y14, .int .i64 y15] t (0, 0)) := by
 have h : w.heap[g]? = some (.cells #[.int .i64 0, .int .i64 0, .int .i64 0, .int .i64 0, .int .i64 0, .int .i64 0, .int .i64 0, .int .i64 0, .int .i64 0, .int .i64 0, .int .i64 0, .int .i64 0, .int .i64 0, .int .i64 0, .int .i64 0, .int .i64 0] t (0, 0)) := h
 exact (qbq (cs' := #[.int .i64 y0, .int .i64 y1, .int .i64 y2, .int .i64 y3, .int .i64 y4, .int .i64 y5, .int .i64 y6, .int .i64 y7, .int .i64 y8, .int .i64 y9, .int .i64 y10, .int .i64 y11, .int .i64 y12, .int .i64 y13, .int .i64 y14, .int .i64 y15]) (qbq (cs' := #[.int .i64 y0, .int .i64 y1, .int .i64 y2, .int .i64 y3, .int .i64 y4, .int .i64 y5, .int .i64 y6, .int .i64 y7, .int .i64 y8, .int .i64 y9, .int .i64 y10, .int .i64 y11, .int .i64 y12, .int .i64 y13, .int .i64 y14, .int .i64 0]) (qbq (cs' := #[.int .i64 y0, .int .i64 y1, .int .i64 y2, .int .i64 y3, .int .i64 y4, .int .i64 y5, .int .i64 y6, .int .i64 y7, .int .i64 y8, .int .i64 y9, .int .i64 y10, .int .i64 y11, .int .i64 y12, .int .i64 y13, .int .i64 0, .int .i64 0]) (qbq (cs' := #[.int .i64 y0, .int .i64 y1, .int .i64 y2, .int .i64 y3, .int .i64 y4, .int .i64 y5, .int .i64 y6, .int .i64 y7, .int .i64 y8, .int .i64 y9, .int .i64 y10, .int .i64 y11, .int .i64 y12, .int .i64 0, .int .i64 0, .int .i64 0]) (qbq (cs' := #[.int .i64 y0, .int .i64 y1, .int .i64 y2, .int .i64 y3, .int .i64 y4, .int .i64 y5, .int .i64 y6, .int .i64 y7, .int .i64 y8, .int .i64 y9, .int .i64 y10, .int .i64 y11, .int .i64 0, .int .i64 0, .int .i64 0, .int .i64 0]) (qbq (cs' := #[.int .i64 y0, .int .i64 y1, .int .i64 y2, .int .i64 y3, .int .i64 y4, .int .i64 y5, .int .i64 y6, .int .i64 y7, .int .i64 y8, .int .i64 y9, .int .i64 y10, .int .i64 0, .int .i64 0, .int .i64 0, .int .i64 0, .int .i64 0]) (qbq (cs' := #[.int .i64 y0, .int .i64 y1, .int .i64 y2, .int .i64 y3, .int .i64 y4, .int .i64 y5, .int .i64 y6, .int .i64 y7, .int .i64 y8, .int .i64 y9, .int .i64 0, .int .i64 0, .int .i64 0, .int .i64 0, .int .i64 0, .int .i64 0]) (qbq (cs' := #[.int .i64 y0, .int .i64 y1, .int .i64 y2, .int .i64 y3, .int .i64 y4, .int .i64 y5, .int .i64 y6, .int .i64 y7, .int .i64 y8, .int .i64 0, .int .i64 0, .int .i64 0, .int .i64 0, .int .i64 0, .int .i64 0, .int .i64 0]) (qbq (cs' := #[.int .i64 y0, .int .i64 y1, .int .i64 y2, .int .i64 y3, .int .i64 y4, .int .i64 y5, .int .i64 y6, .int .i64 y7, .int .i64 0, .int .i64 0, .int .i64 0, .int .i64 0, .int .i64 0, .int .i64 0, .int .i64 0, .int .i64 0]) (qbq (cs' := #[.int .i64 y0, .int .i64 y1, .int .i64 y2, .int .i64 y3, .int .i64 y4, .int .i64 y5, .int .i64 y6, .int .i64 0, .int .i64 0, .int .i64 0, .int .i64 0, .int .i64 0, .int .i64 0, .int .i64 0, .int .i64 0, .int .i64 0]) (qbq (cs' := #[.int .i64 y0, .int .i64 y1, .int .i64 y2, .int .i64 y3, .int .i64 y4, .int .i64 y5, .int .i64 0, .int .i64 0, .int .i64 0, .int .i64 0, .int .i64 0, .int .i64 0, .int .i64 0, .int .i64 0, .int .i64 0, .int .i64 0]) (qbq (cs' := #[.int .i64 y0, .int .i64 y1, .int .i64 y2, .int .i64 y3, .int .i64 y4, .int .i64 0, .int .i64 0, .int .i64 0, .int .i64 0, .int .i64 0, .int .i64 0, .int .i64 0, .int .i64 0, .int .i64 0, .int .i64 0, .int .i64 0]) (qbq (cs' := #[.int .i64 y0, .int .i64 y1, .int .i64 y2, .int .i64 y3, .int .i64 0, .int .i64 0, .int .i64 0, .int .i64 0, .int .i64 0, .int .i64 0, .int .i64 0, .int .i64 0, .int .i64 0, .int .i64 0, .int .i64 0, .int .i64 0]) (qbq (cs' := #[.int .i64 y0, .int .i64 y1, .int .i64 y2, .int .i64 0, .int .i64 0, .int .i64 0, .int .i64 0, .int .i64 0, .int .i64 0, .int .i64 0, .int .i64 0, .int .i64 0, .int .i64 0, .int .i64 0, .int .i64 0, .int .i64 0]) (qbq (cs' := #[.int .i64 y0, .int .i64 y1, .int .i64 0, .int .i64 0, .int .i64 0, .int .i64 0, .int .i64 0, .int .i64 0, .int .i64 0, .int .i64 0, .int .i64 0, .int .i64 0, .int .i64 0, .int .i64 0, .int .i64 0, .int .i64 0]) (qbq (cs' := #[.int .i64 y0, .int .i64 0, .int .i64 0, .int .i64 0, .int .i64 0, .int .i64 0, .int .i64 0, .int .i64 0, .int .i64 0, .int .i64 0, .int .i64 0, .int .i64 0, .int .i64 0, .int .i64 0, .int .i64 0, .int .i64 0]) h 0 _ rfl) 1 _ rfl) 2 _ rfl) 3 _ rfl) 4 _ rfl) 5 _ rfl) 6 _ rfl) 7 _ rfl) 8 _ rfl) 9 _ rfl) 10 _ rfl) 11 _ rfl) 12 _ rfl) 13 _ rfl) 14 _ rfl) 15 _ rfl)
theorem qft {w a : World} {g B : Nat} (h : Below B a w) (hg : B ≤ g) (y0 y1 y2 y3 y4 y5 y6 y7 y8 y9 y10 y11 y12 y13 y14 y15 : Int) : Below B a (set16 w g y0 y1 y2 y3 y4 y5 y6 y7 y8 y9 y10 y11 y12 y13 y14 y15) := ((((((((((((((((h.setCell (p := ⟨g, 0, none⟩) hg _).setCell (p := ⟨g, 1, none⟩) hg _).setCell (p := ⟨g, 2, none⟩) hg _).setCell (p := ⟨g, 3, none⟩) hg _).setCell (p := ⟨g, 4, none⟩) hg _).setCell (p := ⟨g, 5, none⟩) hg _).setCell (p := ⟨g, 6, none⟩) hg _).setCell (p := ⟨g, 7, none⟩) hg _).setCell (p := ⟨g, 8, none⟩) hg _).setCell (p := ⟨g, 9, none⟩) hg _).setCell (p := ⟨g, 10, none⟩) hg _).setCell (p := ⟨g, 11, none⟩) hg _).setCell (p := ⟨g, 12, none⟩) hg _).setCell (p := ⟨g, 13, none⟩) hg _).setCell (p := ⟨g, 14, none⟩) hg _).setCell (p := ⟨g, 15, none⟩) hg _)
def tabZ (j : Nat) : Int := ((step4 j : Nat) : Int)
set_option maxHeartbeats 2000000 in
theorem qea (w : World) : Calls Try.prog 186 #[] w fun e w' => e = .returned (.agg (qbr 16)) ∧ Below w.heap.size w w' := by
 go_enter Try.func186, Try.ntmps186
 go_wp2_with fail
 go_loopw [2] (fun v2 wr => ∃ i : Nat, i ≤ 16 ∧ v2 = .int .i64 i ∧ Aside0 (wr.heap[w.heap.size]? = some (.cells (qbr 0) 221 (0, 0))) ∧ Aside0 (wr.heap[w.heap.size + 1]? = some (.cells (qbr i) 221 (0, 0))) ∧ Aside0 (Below w.heap.size w wr)) (fun v2 _ => 16 - (intOf v2).toNat)
 case atStart =>
  have h := qfV w (.cells (qbr 0) 221 (0, 0)) (.cells (qbr 0) 221 (0, 0))
  exact ⟨0, by omega, rfl, ⟨h.1⟩, ⟨h.2.1⟩, ⟨h.2.2⟩⟩
 case round =>
  obtain ⟨i, hi, rfl, HR, HT, HB⟩ := hrel
  by_cases hlt : i < 16
  ·have c0 : decide ((i : Int) < 16) = true := decide_eq_true (by omega)
   go_wp2_with fail
   go_loopw [3, 4] (fun v3 v4 w2 => ∃ k : Nat, k ≤ 4 ∧ v3 = .int .i64 ((itN k i : Nat) : Int) ∧ v4 = .int .i64 k ∧ w2 = wr) (fun v3 v4 _ => 4 - (intOf v4).toNat)
   case atStart => exact ⟨0, by omega, rfl, rfl, rfl⟩
   case round =>
    obtain ⟨k, hk, rfl, rfl, rfl⟩ := hrel
    have hx := itN_lt k i (by omega)
    by_cases hk2 : k < 4
    ·have c1 : decide ((k : Int) < 4) = true := decide_eq_true (by omega)
     generalize hX : itN k i = x at *
     go_wp2_with fail
     refine ⟨⟨k + 1, by omega, ?_, ?_, trivial⟩, ?_⟩
     ·rw [qfs x hx, ← hX]; rfl
     ·rfl
     ·simp [intOf]; omega
    ·have e : k = 4 := by omega
     subst e
     have hs : itN 4 i = step4 i := rfl
     rw [hs] at *
     have hcell : wr.cell? ⟨w.heap.size + 1, i, none⟩ = some (.int .i64 0) := (qae HT.out i).trans (by rw [qcN i hlt]; simp)
     have hfz := qad HT.out i
     have p1 : (0 ≤ (i : Int)) = True := eq_true (by omega)
     have p2 : ((i : Int) < 16) = True := eq_true (by omega)
     generalize hX : step4 i = x at *
     go_wp2_with fail
     exact ⟨⟨i + 1, by omega, rfl, ⟨qch HR.out (by show w.heap.size ≠ w.heap.size + 1; omega) _⟩, ⟨qbq HT.out i _ (by rw [← hX]; exact qfU i hlt)⟩, ⟨HB.out.setCell (p := ⟨w.heap.size + 1, i, none⟩) (by show w.heap.size ≤ w.heap.size + 1; omega) _⟩⟩, by simp [intOf]; omega⟩
  ·have e : i = 16 := by omega
   subst e
   have hc0 := (qae HT.out 0).trans (show (qbr 16)[0]? = some (.int .i64 (tabZ 0)) from rfl)
   have hc1 := (qae HT.out 1).trans (show (qbr 16)[1]? = some (.int .i64 (tabZ 1)) from rfl)
   have hc2 := (qae HT.out 2).trans (show (qbr 16)[2]? = some (.int .i64 (tabZ 2)) from rfl)
   have hc3 := (qae HT.out 3).trans (show (qbr 16)[3]? = some (.int .i64 (tabZ 3)) from rfl)
   have hc4 := (qae HT.out 4).trans (show (qbr 16)[4]? = some (.int .i64 (tabZ 4)) from rfl)
   have hc5 := (qae HT.out 5).trans (show (qbr 16)[5]? = some (.int .i64 (tabZ 5)) from rfl)
   have hc6 := (qae HT.out 6).trans (show (qbr 16)[6]? = some (.int .i64 (tabZ 6)) from rfl)
   have hc7 := (qae HT.out 7).trans (show (qbr 16)[7]? = some (.int .i64 (tabZ 7)) from rfl)
   have hc8 := (qae HT.out 8).trans (show (qbr 16)[8]? = some (.int .i64 (tabZ 8)) from rfl)
   have hc9 := (qae HT.out 9).trans (show (qbr 16)[9]? = some (.int .i64 (tabZ 9)) from rfl)
   have hc10 := (qae HT.out 10).trans (show (qbr 16)[10]? = some (.int .i64 (tabZ 10)) from rfl)
   have hc11 := (qae HT.out 11).trans (show (qbr 16)[11]? = some (.int .i64 (tabZ 11)) from rfl)
   have hc12 := (qae HT.out 12).trans (show (qbr 16)[12]? = some (.int .i64 (tabZ 12)) from rfl)
   have hc13 := (qae HT.out 13).trans (show (qbr 16)[13]? = some (.int .i64 (tabZ 13)) from rfl)
   have hc14 := (qae HT.out 14).trans (show (qbr 16)[14]? = some (.int .i64 (tabZ 14)) from rfl)
   have hc15 := (qae HT.out 15).trans (show (qbr 16)[15]? = some (.int .i64 (tabZ 15)) from rfl)
   have hf0 := qad HR.out 0
   have hf1 := qad HR.out 1
   have hf2 := qad HR.out 2
   have hf3 := qad HR.out 3
   have hf4 := qad HR.out 4
   have hf5 := qad HR.out 5
   have hf6 := qad HR.out 6
   have hf7 := qad HR.out 7
   have hf8 := qad HR.out 8
   have hf9 := qad HR.out 9
   have hf10 := qad HR.out 10
   have hf11 := qad HR.out 11
   have hf12 := qad HR.out 12
   have hf13 := qad HR.out 13
   have hf14 := qad HR.out 14
   have hf15 := qad HR.out 15
   have hd0 := (qae HR.out 0).trans (show (qbr 0)[0]? = some (.int .i64 0) from rfl)
   have hd1 := (qae HR.out 1).trans (show (qbr 0)[1]? = some (.int .i64 0) from rfl)
   have hd2 := (qae HR.out 2).trans (show (qbr 0)[2]? = some (.int .i64 0) from rfl)
   have hd3 := (qae HR.out 3).trans (show (qbr 0)[3]? = some (.int .i64 0) from rfl)
   have hd4 := (qae HR.out 4).trans (show (qbr 0)[4]? = some (.int .i64 0) from rfl)
   have hd5 := (qae HR.out 5).trans (show (qbr 0)[5]? = some (.int .i64 0) from rfl)
   have hd6 := (qae HR.out 6).trans (show (qbr 0)[6]? = some (.int .i64 0) from rfl)
   have hd7 := (qae HR.out 7).trans (show (qbr 0)[7]? = some (.int .i64 0) from rfl)
   have hd8 := (qae HR.out 8).trans (show (qbr 0)[8]? = some (.int .i64 0) from rfl)
   have hd9 := (qae HR.out 9).trans (show (qbr 0)[9]? = some (.int .i64 0) from rfl)
   have hd10 := (qae HR.out 10).trans (show (qbr 0)[10]? = some (.int .i64 0) from rfl)
   have hd11 := (qae HR.out 11).trans (show (qbr 0)[11]? = some (.int .i64 0) from rfl)
   have hd12 := (qae HR.out 12).trans (show (qbr 0)[12]? = some (.int .i64 0) from rfl)
   have hd13 := (qae HR.out 13).trans (show (qbr 0)[13]? = some (.int .i64 0) from rfl)
   have hd14 := (qae HR.out 14).trans (show (qbr 0)[14]? = some (.int .i64 0) from rfl)
   have hd15 := (qae HR.out 15).trans (show (qbr 0)[15]? = some (.int .i64 0) from rfl)
   have hy : qbr 16 = #[.int .i64 (tabZ 0), .int .i64 (tabZ 1), .int .i64 (tabZ 2), .int .i64 (tabZ 3), .int .i64 (tabZ 4), .int .i64 (tabZ 5), .int .i64 (tabZ 6), .int .i64 (tabZ 7), .int .i64 (tabZ 8), .int .i64 (tabZ 9), .int .i64 (tabZ 10), .int .i64 (tabZ 11), .int .i64 (tabZ 12), .int .i64 (tabZ 13), .int .i64 (tabZ 14), .int .i64 (tabZ 15)] := rfl
   generalize tabZ 0 = y0 at *
   generalize tabZ 1 = y1 at *
   generalize tabZ 2 = y2 at *
   generalize tabZ 3 = y3 at *
   generalize tabZ 4 = y4 at *
   generalize tabZ 5 = y5 at *
   generalize tabZ 6 = y6 at *
   generalize tabZ 7 = y7 at *
   generalize tabZ 8 = y8 at *
   generalize tabZ 9 = y9 at *
   generalize tabZ 10 = y10 at *
   generalize tabZ 11 = y11 at *
   generalize tabZ 12 = y12 at *
   generalize tabZ 13 = y13 at *
   generalize tabZ 14 = y14 at *
   generalize tabZ 15 = y15 at *
   have HY := Aside0.mk hy
   clear hy
   go_wp2_with fail
   change bodyPost _ _ _ _ _ (set16 wr w.heap.size y0 y1 y2 y3 y4 y5 y6 y7 y8 y9 y10 y11 y12 y13 y14 y15)
   have BF := Aside0.mk (qgB HR.out y0 y1 y2 y3 y4 y5 y6 y7 y8 y9 y10 y11 y12 y13 y14 y15)
   have HB2 := Aside0.mk (qft HB.out (Nat.le_refl _) y0 y1 y2 y3 y4 y5 y6 y7 y8 y9 y10 y11 y12 y13 y14 y15)
   generalize set16 wr w.heap.size y0 y1 y2 y3 y4 y5 y6 y7 y8 y9 y10 y11 y12 y13 y14 y15 = W at BF HB2 ⊢
   refine bodyPost_ret (results_cell_row rfl _ _ w.heap.size 221 #[.int .i64 y0, .int .i64 y1, .int .i64 y2, .int .i64 y3, .int .i64 y4, .int .i64 y5, .int .i64 y6, .int .i64 y7, .int .i64 y8, .int .i64 y9, .int .i64 y10, .int .i64 y11, .int .i64 y12, .int .i64 y13, .int .i64 y14, .int .i64 y15] (0, 0) _ rfl BF.out Try.underlying221 rfl (by kernel_rfl)) rfl ?_
   exact ⟨by rw [HY.out], HB2.out⟩
end Go.Proofs.Ytenfomejccfkgaa.X
namespace Go.Proofs.Ytenfomejccfkgaa.X
open Go.RowKit Go.Proofs.YtenfomejccfkgaaW.PrintWords Go.Proofs.YtenfomejccfkgaaW.PrintLast Go.Proofs.YtenfomejccfkgaaW.PrintMore
attribute [local go_sem] qaE qaF qaG qaz qaA qaS qaT qau qav qaB qaC
set_option linter.unusedVariables false
set_option linter.unusedSimpArgs false
set_option maxRecDepth 100000
theorem qgC (l : List Int) (k : Nat) (h : k < l.length) (r : Nat) : crcF r (l.take (k + 1)) = step8 (crcF r (l.take k) ^^^ (rd l (k : Int)).toNat) := by
 have e : rd l (k : Int) = l[k] := by unfold rd; rw [Int.toNat_natCast]; simp [List.getD_eq_getElem?_getD, h]
 rw [List.take_succ_eq_append_getElem h, qfq, e]
 rfl
theorem nib_lt {x c : Nat} (h : x < 4294967296) : nib x c < 4294967296 := by
 unfold nib
 exact Nat.xor_lt_two_pow (n := 32) (by omega) (qdu (by omega))
theorem qfH (x c : Nat) (h : x < 4294967296) (hc : c < 256) : bits .and .i64 (bits .xor .i64 (x : Int) (c : Int)) 15 = (((x ^^^ c) % 16 : Nat) : Int) := by
 have hx : x ^^^ c < 4294967296 := Nat.xor_lt_two_pow (n := 32) h (by omega)
 rw [qcF _ _ (by omega) (by omega)]
 have := qdO (x ^^^ c) 15 (by omega) (by decide)
 rw [show (15 : Nat) = 2 ^ 4 - 1 from rfl, Nat.and_two_pow_sub_one_eq_mod] at this
 exact this
theorem qfI (x c : Nat) (h : x < 4294967296) : bits .xor .i64 ((x : Int) / 16) (tabZ ((x ^^^ c) % 16)) = ((nib x c : Nat) : Int) := by
 have e : (x : Int) / 16 = ((x / 16 : Nat) : Int) := by omega
 have h4 : step4 ((x ^^^ c) % 16) < 4294967296 := qdu (by omega)
 unfold tabZ
 rw [e, qcF _ _ (by omega) (by omega)]
 rfl
def qbX.f (l0 : List Int) : Option Int := if (∀ c, c ∈ l0 → 0 ≤ c ∧ c < 256) then some (qcn l0) else none
set_option maxHeartbeats 2000000 in
theorem qbX.calls (A0 : Option Addr) (c0 : Nat) (l0 : List Int) (r : Int) (w : World) (hr0 : Kd.C (Kd.int .u8) w A0 l0.length l0) (hc0 : l0.length ≤ c0) (h : qbX.f l0 = some r) :
  Calls Try.prog 163 #[.slice A0 l0.length c0] w fun e w' => e = .returned (.int .i64 r) ∧ Below w.heap.size w w' := by
 unfold qbX.f at h
 by_cases hb : ∀ c, c ∈ l0 → 0 ≤ c ∧ c < 256
 ·rw [if_pos hb] at h
  obtain rfl := Option.some.inj h
  clear h
  have hm : l0.length ≤ 9223372036854775807 := hr0.2.1
  have HR := Aside0.mk hr0
  have HY := Aside0.mk hb
  clear hr0 hb
  have hy : qbr 16 = #[.int .i64 (tabZ 0), .int .i64 (tabZ 1), .int .i64 (tabZ 2), .int .i64 (tabZ 3), .int .i64 (tabZ 4), .int .i64 (tabZ 5), .int .i64 (tabZ 6), .int .i64 (tabZ 7), .int .i64 (tabZ 8), .int .i64 (tabZ 9), .int .i64 (tabZ 10), .int .i64 (tabZ 11), .int .i64 (tabZ 12), .int .i64 (tabZ 13), .int .i64 (tabZ 14), .int .i64 (tabZ 15)] := rfl
  generalize tabZ 0 = y0 at *
  generalize tabZ 1 = y1 at *
  generalize tabZ 2 = y2 at *
  generalize tabZ 3 = y3 at *
  generalize tabZ 4 = y4 at *
  generalize tabZ 5 = y5 at *
  generalize tabZ 6 = y6 at *
  generalize tabZ 7 = y7 at *
  generalize tabZ 8 = y8 at *
  generalize tabZ 9 = y9 at *
  generalize tabZ 10 = y10 at *
  generalize tabZ 11 = y11 at *
  generalize tabZ 12 = y12 at *
  generalize tabZ 13 = y13 at *
  generalize tabZ 14 = y14 at *
  generalize tabZ 15 = y15 at *
  have HT := Aside0.mk hy
  clear hy
  go_enter Try.func163, Try.ntmps163
  go_wp2_with fail
  refine (qea w).mono ?_
  rintro e w1 ⟨rfl, hb1⟩
  rw [HT.out]
  go_wp2_with fail
  have HG := Aside0.mk (show (w1.alloc (.cells #[.int .i64 y0, .int .i64 y1, .int .i64 y2, .int .i64 y3, .int .i64 y4, .int .i64 y5, .int .i64 y6, .int .i64 y7, .int .i64 y8, .int .i64 y9, .int .i64 y10, .int .i64 y11, .int .i64 y12, .int .i64 y13, .int .i64 y14, .int .i64 y15] 221 (0, 0))).heap[w1.heap.size]? = some (.cells (qbr 16) 221 (0, 0)) from by rw [HT.out]; exact qcz _ _)
  have HB := Aside0.mk (show Below w.heap.size w (w1.alloc (.cells #[.int .i64 y0, .int .i64 y1, .int .i64 y2, .int .i64 y3, .int .i64 y4, .int .i64 y5, .int .i64 y6, .int .i64 y7, .int .i64 y8, .int .i64 y9, .int .i64 y10, .int .i64 y11, .int .i64 y12, .int .i64 y13, .int .i64 y14, .int .i64 y15] 221 (0, 0))) from hb1.alloc (qah hb1) _)
  generalize w1.alloc (.cells #[.int .i64 y0, .int .i64 y1, .int .i64 y2, .int .i64 y3, .int .i64 y4, .int .i64 y5, .int .i64 y6, .int .i64 y7, .int .i64 y8, .int .i64 y9, .int .i64 y10, .int .i64 y11, .int .i64 y12, .int .i64 y13, .int .i64 y14, .int .i64 y15] 221 (0, 0)) = w2 at HG HB ⊢
  generalize w1.heap.size = g at HG ⊢
  clear hb1
  go_loopw [4, 5] (fun v4 v5 wr => ∃ k : Nat, k ≤ l0.length ∧ v4 = .int .i64 ((crcF 4294967295 (l0.take k) : Nat) : Int) ∧ v5 = .int .i64 k ∧ wr = w2) (fun v4 v5 _ => l0.length - (intOf v5).toNat)
  case atStart => exact ⟨0, Nat.zero_le _, rfl, rfl, rfl⟩
  case round =>
   obtain ⟨k, hk, rfl, rfl, rfl⟩ := hrel
   have hxl : crcF 4294967295 (l0.take k) < 4294967296 := qgx _ _ (by decide) fun c hc => HY.out c (List.mem_of_mem_take hc)
   by_cases hlt : k < l0.length
   ·have c1 : decide ((k : Int) < (l0.length : Int)) = true := decide_eq_true (by omega)
    have p1 : 0 ≤ (k : Int) := by omega
    have q1 : (k : Int) < (l0.length : Int) := by omega
    obtain ⟨ad, e, hx⟩ := Kd.qb1 HR.out (k : Int) p1 q1
    cases e
    have hmem : rd l0 (k : Int) ∈ l0 := by
     have e : rd l0 (k : Int) = l0[k] := by unfold rd; rw [Int.toNat_natCast]; simp [List.getD_eq_getElem?_getD, hlt]
     rw [e]; exact List.getElem_mem hlt
    have hbyte := HY.out _ hmem
    have hstep := qgC l0 k hlt 4294967295
    obtain ⟨c, hc⟩ : ∃ c : Nat, rd l0 (k : Int) = (c : Int) := ⟨(rd l0 (k : Int)).toNat, by omega⟩
    rw [hc] at hx hbyte hstep
    rw [Int.toNat_natCast] at hx hstep
    have hc2 : c < 256 := by omega
    rw [qgw _ _ hc2] at hstep
    replace hx := (HB.out.cell (World.block_lt_of_cell? w _ hx)).trans hx
    have HS := Aside0.mk hstep
    clear hstep hbyte hmem
    generalize crcF 4294967295 (l0.take k) = x at hxl HS ⊢
    replace p1 := eq_true p1
    replace q1 := eq_true q1
    have hn1 : nib x c < 4294967296 := nib_lt hxl
    have hn2 : nib (nib x c) (c / 16) < 4294967296 := nib_lt hn1
    have e1 := qfH x c hxl (by omega)
    have e2 := qfI x c hxl
    have ed : (c : Int) / 16 = ((c / 16 : Nat) : Int) := by omega
    have e3 := qfH (nib x c) (c / 16) hn1 (by omega)
    have e4 := qfI (nib x c) (c / 16) hn1
    have y16 : (x ^^^ c) % 16 < 16 := Nat.mod_lt _ (by decide)
    have z16 : (nib x c ^^^ (c / 16)) % 16 < 16 := Nat.mod_lt _ (by decide)
    have hcy : wr.cell? ⟨g, (x ^^^ c) % 16, none⟩ = some (.int .i64 (tabZ ((x ^^^ c) % 16))) := (qae HG.out _).trans (by rw [qcN _ y16, if_pos y16]; rfl)
    have hcz : wr.cell? ⟨g, (nib x c ^^^ (c / 16)) % 16, none⟩ = some (.int .i64 (tabZ ((nib x c ^^^ (c / 16)) % 16))) := (qae HG.out _).trans (by rw [qcN _ z16, if_pos z16]; rfl)
    generalize nib (nib x c) (c / 16) = n2 at *
    generalize nib x c = n1 at *
    generalize c / 16 = d at *
    generalize (x ^^^ c) % 16 = y at *
    generalize (n1 ^^^ d) % 16 = z at *
    generalize tabZ y = ty at *
    generalize tabZ z = tz at *
    have r1 : (0 ≤ (y : Int)) = True := eq_true (by omega)
    have r2 : ((y : Int) < 16) = True := eq_true (by omega)
    have r3 : (0 ≤ (z : Int)) = True := eq_true (by omega)
    have r4 : ((z : Int) < 16) = True := eq_true (by omega)
    go_wp2_with fail
    exact ⟨⟨k + 1, by omega, by rw [HS.out], rfl, trivial⟩, by simp [intOf]; omega⟩
   ·have e : k = l0.length := by omega
    have c1 : decide ((k : Int) < (l0.length : Int)) = false := decide_eq_false (by omega)
    have e9 : crcF 4294967295 (l0.take k) = crcF 4294967295 l0 := by rw [e, List.take_length]
    rw [e9] at hxl ⊢
    have e1 : bits .xor .i64 ((crcF 4294967295 l0 : Nat) : Int) 4294967295 = qcn l0 := by
     have := qcF (crcF 4294967295 l0) 4294967295 (by omega) (by decide)
     rw [Nat.xor_comm] at this
     exact this
    generalize hS : qcn l0 = s at e1
    generalize crcF 4294967295 l0 = x at e1 ⊢
    go_wp2_with fail
    go_ret
    exact ⟨by rw [hS]; rfl, HB.out⟩
 ·rw [if_neg hb] at h
  cases h
end Go.Proofs.Ytenfomejccfkgaa.X
namespace Go.Proofs.Ytenfomejccfkgaa.X
open Go.RowKit Go.Proofs.YtenfomejccfkgaaW.PrintWords Go.Proofs.YtenfomejccfkgaaW.PrintLast Go.Proofs.YtenfomejccfkgaaW.PrintMore
attribute [local go_sem] qaE qaF qaG qaz qaA qaS qaT qau qav qaB qaC
set_option linter.unusedVariables false
set_option linter.unusedSimpArgs false
def qay.l0 : Nat → Int → List Int → Int → Option (List Int)
 | 0, _, _, _ => none
 | k + 1, x0, x5, x6 => if x6 ≥ 0 then (if 0 ≤ (IntKind.u64.wrap (wrap64 (8 * x6))) then (if x5.length < 140737488355328 then (qay.l0 k x0 (x5 ++ [(shr .i64 x0 (IntKind.u64.wrap (wrap64 (8 * x6)))) % 256]) (wrap64 (x6 - 1))) else (none)) else (none)) else (some x5)
def qay.f (k : Nat) (a0 : Int) (a1 : Int) : Option (List Int) := qay.l0 k a0 (([] : List Int)) (wrap64 (a1 - 1))
theorem qay.qbf : ∀ k, (∀ y0 y1 y2, LeO (qay.l0 k y0 y1 y2) (qay.l0 (k + 1) y0 y1 y2))
 | 0 => fun _ _ _ r h => by simp [qay.l0] at h
 | k + 1 => by
  have ih0 := qay.qbf k
  ·intro y0 y1 y2
   unfold qay.l0
   repeat' first
   | (with_reducible exact ih0 _ _ _)
   | (with_reducible exact LeO.refl _)
   | (with_reducible exact LeO.none _)
   | (with_reducible refine LeO.ite ?_ ?_)
   | (with_reducible refine LeO.bind ?_ (fun _ => ?_))
   | exact ih0 _ _ _
   | exact LeO.none _
   | refine LeO.ite ?_ ?_
   | refine LeO.bind ?_ (fun _ => ?_)
theorem qay.mono : ∀ a0 a1 k, LeO (qay.f k a0 a1) (qay.f (k + 1) a0 a1) := by
 intro a0 a1 k
 have ih0 := qay.qbf k
 unfold qay.f
 repeat' first
   | (with_reducible exact ih0 _ _ _)
   | (with_reducible exact LeO.refl _)
   | (with_reducible exact LeO.none _)
   | (with_reducible refine LeO.ite ?_ ?_)
   | (with_reducible refine LeO.bind ?_ (fun _ => ?_))
   | exact ih0 _ _ _
   | exact LeO.none _
   | refine LeO.ite ?_ ?_
   | refine LeO.bind ?_ (fun _ => ?_)
set_option maxHeartbeats 8000000 in
set_option maxRecDepth 100000 in
theorem qay.calls (k : Nat) (a0 : Int) (a1 : Int) (r : List Int) (w : World) (h : qay.f k a0 a1 = some r) :
  Calls Try.prog 156 #[.int .i64 a0, .int .i64 a1] w fun e w' => ∃ v0_ : Value, e = .returned (v0_) ∧ Kd.R (Kd.int .u8) 5 w' w.heap.size (fun _ => True) v0_ r ∧ Below w.heap.size w w' := by
 have HB := Aside0.mk (Below.refl w.heap.size w)
 have H : (qay.l0 k a0 (([] : List Int)) (wrap64 (a1 - 1))) = some r := h
 clear h
 obtain ⟨y366, hy366⟩ : ∃ y_ : List Int, y_ = (([] : List Int)) := ⟨_, rfl⟩
 replace H : (qay.l0 k a0 y366 (wrap64 (a1 - 1))) = some r := by first | (rw [hy366]; with_reducible exact H) | (have H2_ := (Option.bind_some _ _).symm.trans H; rw [hy366]; with_reducible exact H2_) | (have H2_ := (Option.bind_some _ _).symm.trans H; with_reducible exact H2_) | with_reducible exact H | (rw [hy366]; exact H) | exact H
 have Ny366 := Aside0.mk hy366
 clear hy366
 have H' := Aside0.mk H
 clear H
 go_enter Try.func156, Try.ntmps156
 go_wp2_with (first | ((with_reducible refine qaK (N := 7) rfl ?_); refine Kd.qd1 (Kd.int .u8) _ 5 ?hg (N := 7) ?hd (xs := ([] : List Int)) (inner := []) (ok := fun _ => True) (okp := fun _ => True) ?hr ?hp (fun _ hk => hk) trivial (Below.refl _ _) (Nat.le_refl _) (by simp) ?_; (case hd => rfl); (case hg => rfl); (case hr => first | (go_simp; done) | (go_simp; rfl)); (case hp => exact (Reps.none _ _)); intro v367 w3 ho4 hb hg_ hnew_; clear hg_ hnew_; (first | rw [← Ny366.out] at ho4 | (simp only [Int.reduceToNat] at ho4; rw [← Ny366.out] at ho4)); have n0_ := Aside0.mk (Kd.qbt ho4 (qah (by repeat (first | (with_reducible first | exact HB.out | apply qac | apply qaa | apply qab) | exact HB.out)))); have n1_ := Aside0.mk (qag (by repeat (first | (with_reducible first | exact HB.out | apply qac | apply qaa | apply qab) | exact HB.out)) hb); clear HB; have HO368 := n0_; have HB := n1_; clear n0_ n1_; clear hb ho4))
 go_loopg [5, 6] k (fun kq v5 v6 w' => ∃ (x5_1 : List Int) (x6_1 : Int), v6 = .int .i64 x6_1 ∧ Aside0 (qay.l0 kq a0 x5_1 x6_1 = some r) ∧ Aside0 (kq ≤ k) ∧ Aside0 (Kd.R (Kd.int .u8) 5 w' w.heap.size (fun _ => True) v5 x5_1) ∧ Aside0 (Below w.heap.size w w'))
 case atStart => exact ⟨(y366), (wrap64 (a1 - 1)), (by first | rfl | (simp; done) | (simp [*]; done)), H', ⟨Nat.le_refl _⟩, ⟨by (with_reducible repeat (first | apply Kd.qaY | apply Kd.qa1 | apply Kd.qa9)); exact HO368.out⟩, ⟨by repeat (first | (with_reducible first | exact HB.out | apply qac | apply qaa | apply qab) | exact HB.out)⟩⟩
 case round =>
  clear H'
  try clear c1
  try clear p2
  obtain ⟨x5_1, x6_1, rfl, HA, HK1, HO_5, HB⟩ := hrel
  cases gk with
  | zero => exact absurd HA.out (by simp [qay.l0])
  | succ k1 =>
   have H := HA.out
   clear HA
   simp only [qay.l0] at H
   by_cases c5 : x6_1 ≥ 0
   ·rw [if_pos c5] at H
    have c5b0 : decide (0 ≤ x6_1) = true := decide_eq_true c5
    clear c5
    obtain ⟨ji6, hji6⟩ : ∃ j_ : Int, (IntKind.u64.wrap (wrap64 (8 * x6_1))) = j_ := ⟨_, rfl⟩
    replace H : (if 0 ≤ (ji6) then (if x5_1.length < 140737488355328 then (qay.l0 k1 a0 (x5_1 ++ [(shr .i64 a0 (ji6)) % 256]) (wrap64 (x6_1 - 1))) else (none)) else (none)) = some r := by first | (rw [hji6] at H; exact H) | (simp only [hji6] at H ⊢; exact H)
    by_cases c7 : 0 ≤ (ji6)
    ·rw [if_pos c7] at H
     have c7b0 := eq_true c7
     have c7b1 : decide (0 ≤ (ji6)) = true := decide_eq_true c7
     clear c7
     obtain ⟨ji8, hji8⟩ : ∃ j_ : Int, (shr .i64 a0 (ji6)) = j_ := ⟨_, rfl⟩
     replace H : (if x5_1.length < 140737488355328 then (qay.l0 k1 a0 (x5_1 ++ [(ji8) % 256]) (wrap64 (x6_1 - 1))) else (none)) = some r := by first | (rw [hji8] at H; exact H) | (simp only [hji8] at H ⊢; exact H)
     have hji8_ : (a0 / 2 ^ min (ji6).toNat 64) = ji8 := hji8
     have hji8z : (ji6) ≤ 64 → (a0 / 2 ^ (ji6).toNat) = ji8 := qgi hji8
     by_cases c9 : x5_1.length < 140737488355328
     ·rw [if_pos c9] at H
      have LMc9 := Aside0.mk c9
      clear c9
      obtain ⟨y369, hy369⟩ : ∃ y_ : List Int, y_ = (x5_1 ++ [(ji8) % 256]) := ⟨_, rfl⟩
      replace H : (qay.l0 k1 a0 y369 (wrap64 (x6_1 - 1))) = some r := by first | (rw [hy369]; with_reducible exact H) | (have H2_ := (Option.bind_some _ _).symm.trans H; rw [hy369]; with_reducible exact H2_) | (have H2_ := (Option.bind_some _ _).symm.trans H; with_reducible exact H2_) | with_reducible exact H | (rw [hy369]; exact H) | exact H
      have Ny369 := Aside0.mk hy369
      clear hy369
      have H' := Aside0.mk H
      clear H
      go_wp2_with (first | ((with_reducible refine qcL (b := .append) (xs := #[.tmp 14, .tmp 21]) rfl ?_); at_builtin; refine Kd.R_append (Kd.int .u8) (w0 := w) w.heap.size rfl (.tmp 14) (.tmp 21) 52 5 (.int .u8 0) 1 rfl Try.underlying52 info5 rfl (by decide) (by omega) u5 x5_1 ((ji8) % 256) [.int .u8 ((ji8) % 256)] (fun _ => True) (fun _ => False) rfl rfl ?aP (fun _ hk => hk.elim) ?aF ?aO ?aB ?aS ?aL ?_; (case aP => exact rfl); (case aB => exact (by repeat (first | (with_reducible first | exact HB.out | apply qac | apply qaa | apply qab) | exact HB.out))); (case aF => exact (fun _ _ => trivial)); (case aO => exact (by (with_reducible repeat (first | apply Kd.qaY | apply Kd.qa1 | apply Kd.qa9)); exact HO_5.out)); (case aS => exact (qah (by repeat (first | (with_reducible first | exact HB.out | apply qac | apply qaa | apply qab) | exact HB.out)))); (case aL => have := LMc9.out; omega); intro v370 w10 ho hb hg hat; rw [← Ny369.out] at ho; have n0_ := Aside0.mk (hb); have n1_ := Aside0.mk (ho); clear HB; clear HO_5; have HB := n0_; have HO371 := n1_; clear n0_ n1_; clear ho hb hg hat))
      go_roundg k1
      case measure => have := HK1.out; omega
      case rel => exact ⟨(y369), (wrap64 (x6_1 - 1)), (by first | rfl | (simp; done) | (simp [*]; done)), H', ⟨by have := HK1.out; omega⟩, ⟨by (with_reducible repeat (first | apply Kd.qaY | apply Kd.qa1 | apply Kd.qa9)); exact HO371.out⟩, ⟨by repeat (first | (with_reducible first | exact HB.out | apply qac | apply qaa | apply qab) | exact HB.out)⟩⟩
     ·rw [if_neg c9] at H
      exact absurd H (by simp)
    ·rw [if_neg c7] at H
     exact absurd H (by simp)
   ·rw [if_neg c5] at H
    have c5b0 : decide (0 ≤ x6_1) = false := decide_eq_false c5
    clear c5
    obtain rfl := Option.some.inj H
    go_wp2
    go_ret
    exact ⟨_, by first | rfl | (simp [qai, qaj] <;> rfl) | (simp [*, qai, qaj] <;> rfl), by (with_reducible repeat (first | apply Kd.qaY | apply Kd.qa1 | apply Kd.qa9)); exact HO_5.out, by repeat (first | (with_reducible first | exact HB.out | apply qac | apply qaa | apply qab) | exact HB.out)⟩
end Go.Proofs.Ytenfomejccfkgaa.X
