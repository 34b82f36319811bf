import Derived.Test.YtgcncphdjabjjaaKFnExactBackupBytes4
import Derived.Test.YtgcncphdjabjjaaKFnExactBackupBytes5
import Derived.LoopTactic
import Derived.BigQuiet
import Derived.Shelf.Strings.Builder1
import Derived.Lib.UnsafeStr
namespace Go.Proofs.Ytgcncphdjabjjaa.X
open Go.RowKit Go.Proofs.YtgcncphdjabjjaaW.PrintWords Go.Proofs.YtgcncphdjabjjaaW.PrintLast Go.Proofs.YtgcncphdjabjjaaW.PrintMore
attribute [local go_sem] xbin_geq xbin_leq xbin_gtr max2_int min2_int max_two min_two max_three min_three max_four min_four
set_option linter.unusedVariables false
set_option linter.unusedSimpArgs false
set_option maxRecDepth 100000
def tabRow (i : Nat) : Array Value := ((List.range 16).map fun j => Value.int .i64 (if j < i then ((step4 j : Nat) : Int) else 0)).toArray
def itN : Nat → Nat → Nat
  | 0, x => x
  | k + 1, x => stepN (itN k x)
theorem itN_lt (k x : Nat) (h : x < 4294967296) : itN k x < 4294967296 := by
  induction k with
  | zero => exact h
  | succ k ih => exact stepN_lt ih
theorem i64_xor_nat (a b : Nat) (ha : a < 9223372036854775808) (hb : b < 9223372036854775808) : bits .xor .i64 (a : Int) (b : Int) = ((a ^^^ b : Nat) : Int) := by
  have h := Nat.xor_lt_two_pow (n := 63) ha hb
  show IntKind.i64.wrap ((BitVec.ofInt 64 (a : Int) ^^^ BitVec.ofInt 64 (b : Int)).toNat : Nat) = _
  rw [BitVec.toNat_xor, ofInt_u64 a (by omega), ofInt_u64 b (by omega), IntKind.wrap_i64]
  omega
theorem i64_and_nat (a b : Nat) (ha : a < 9223372036854775808) (hb : b < 9223372036854775808) : bits .and .i64 (a : Int) (b : Int) = ((a &&& b : Nat) : Int) := by
  have h := Nat.and_lt_two_pow a (n := 63) hb
  show IntKind.i64.wrap ((BitVec.ofInt 64 (a : Int) &&& BitVec.ofInt 64 (b : Int)).toNat : Nat) = _
  rw [BitVec.toNat_and, ofInt_u64 a (by omega), ofInt_u64 b (by omega), IntKind.wrap_i64]
  omega
theorem bits_step64 (n : Nat) (h : n < 4294967296) : bits .xor .i64 ((n : Int) / 2) (wrap64 (bits .and .i64 (n : Int) 1 * 3988292384)) = ((stepN n : Nat) : Int) := by
  have e1 : bits .and .i64 (n : Int) 1 = ((n % 2 : Nat) : Int) := by
    have := i64_and_nat n 1 (by omega) (by decide)
    rw [Nat.and_one_is_mod] at this
    exact this
  rw [e1]
  have e2 : wrap64 (((n % 2 : Nat) : Int) * 3988292384) = ((3988292384 * (n % 2) : Nat) : Int) := by
    have h1 : n % 2 ≤ 1 := by omega
    rw [wrap_id (by omega) (by omega)]
    omega
  have e3 : (n : Int) / 2 = ((n / 2 : Nat) : Int) := by omega
  rw [e2, e3, i64_xor_nat _ _ (by omega) (by rcases Nat.mod_two_eq_zero_or_one n with hx | hx <;> rw [hx] <;> decide)]
  rfl
theorem tabRow_at (i : Nat) (h : i < 16) (j : Nat) : (tabRow j)[i]? = some (.int .i64 (if i < j then ((step4 i : Nat) : Int) else 0)) := by
  unfold tabRow
  simp [h]
theorem tabRow_size (j : Nat) : (tabRow j).size = 16 := by unfold tabRow; simp
theorem tabRow_set (i : Nat) (h : i < 16) : (tabRow i).setIfInBounds i (.int .i64 ((step4 i : Nat) : Int)) = tabRow (i + 1) := by
  refine Array.ext_getElem? fun k => ?_
  rw [Array.getElem?_setIfInBounds, tabRow_size]
  by_cases hk : k < 16
  · rw [tabRow_at k hk, tabRow_at k hk]
    by_cases e : i = k
    · subst e; simp [h]
    · rw [if_neg e]
      by_cases h2 : k < i
      · simp [h2, show k < i + 1 by omega]
      · simp [h2, show ¬ k < i + 1 by omega]
  · rw [if_neg (by omega)]
    rw [Array.getElem?_eq_none (by rw [tabRow_size]; omega), Array.getElem?_eq_none (by rw [tabRow_size]; omega)]
theorem blk_old2 (w : World) (o : Obj) (i : Nat) (h : i < w.heap.size) : (w.alloc o).heap[i]? = w.heap[i]? := by
  show (w.heap.push o)[i]? = _
  rw [Array.getElem?_push, if_neg (by omega)]
theorem two_allocs (w : World) (A B : Obj) : ((w.alloc A).alloc B).heap[w.heap.size]? = some A ∧ ((w.alloc A).alloc B).heap[w.heap.size + 1]? = some B ∧ Below w.heap.size w ((w.alloc A).alloc B) := by
  have hs : (w.alloc A).heap.size = w.heap.size + 1 := (by show (w.heap.push A).size = _; rw [Array.size_push])
  refine ⟨?_, ?_, ?_⟩
  · exact (blk_old2 (w.alloc A) B w.heap.size (by omega)).trans (blk_new w A)
  · rw [← hs]; exact blk_new (w.alloc A) B
  · exact ((Below.refl _ w).alloc (Nat.le_refl _) _).alloc (by omega) _
def set16 (w : World) (g : Nat) (y0 y1 y2 y3 y4 y5 y6 y7 y8 y9 y10 y11 y12 y13 y14 y15 : Int) : World := ((((((((((((((((w.setCell ⟨g, 0, none⟩ (.int .i64 y0)).setCell ⟨g, 1, none⟩ (.int .i64 y1)).setCell ⟨g, 2, none⟩ (.int .i64 y2)).setCell ⟨g, 3, none⟩ (.int .i64 y3)).setCell ⟨g, 4, none⟩ (.int .i64 y4)).setCell ⟨g, 5, none⟩ (.int .i64 y5)).setCell ⟨g, 6, none⟩ (.int .i64 y6)).setCell ⟨g, 7, none⟩ (.int .i64 y7)).setCell ⟨g, 8, none⟩ (.int .i64 y8)).setCell ⟨g, 9, none⟩ (.int .i64 y9)).setCell ⟨g, 10, none⟩ (.int .i64 y10)).setCell ⟨g, 11, none⟩ (.int .i64 y11)).setCell ⟨g, 12, none⟩ (.int .i64 y12)).setCell ⟨g, 13, none⟩ (.int .i64 y13)).setCell ⟨g, 14, none⟩ (.int .i64 y14)).setCell ⟨g, 15, none⟩ (.int .i64 y15))
theorem set16_blk {w : World} {g : Nat} {t : TypeId} (h : w.heap[g]? = some (.cells (tabRow 0) t (0, 0))) (y0 y1 y2 y3 y4 y5 y6 y7 y8 y9 y10 y11 y12 y13 y14 y15 : Int) : (set16 w g y0 y1 y2 y3 y4 y5 y6 y7 y8 y9 y10 y11 y12 y13 y14 y15).heap[g]? = some (.cells #[.int .i64 y0, .int .i64 y1, .int .i64 y2, .int .i64 y3, .int .i64 y4, .int .i64 y5, .int .i64 y6, .int .i64 y7, .int .i64 y8, .int .i64 y9, .int .i64 y10, .int .i64 y11, .int .i64 y12, .int .i64 y13, .int .i64 y14, .int .i64 y15] t (0, 0)) := by
  have h : w.heap[g]? = some (.cells #[.int .i64 0, .int .i64 0, .int .i64 0, .int .i64 0, .int .i64 0, .int .i64 0, .int .i64 0, .int .i64 0, .int .i64 0, .int .i64 0, .int .i64 0, .int .i64 0, .int .i64 0, .int .i64 0, .int .i64 0, .int .i64 0] t (0, 0)) := h
  exact (blk_put (cs' := #[.int .i64 y0, .int .i64 y1, .int .i64 y2, .int .i64 y3, .int .i64 y4, .int .i64 y5, .int .i64 y6, .int .i64 y7, .int .i64 y8, .int .i64 y9, .int .i64 y10, .int .i64 y11, .int .i64 y12, .int .i64 y13, .int .i64 y14, .int .i64 y15]) (blk_put (cs' := #[.int .i64 y0, .int .i64 y1, .int .i64 y2, .int .i64 y3, .int .i64 y4, .int .i64 y5, .int .i64 y6, .int .i64 y7, .int .i64 y8, .int .i64 y9, .int .i64 y10, .int .i64 y11, .int .i64 y12, .int .i64 y13, .int .i64 y14, .int .i64 0]) (blk_put (cs' := #[.int .i64 y0, .int .i64 y1, .int .i64 y2, .int .i64 y3, .int .i64 y4, .int .i64 y5, .int .i64 y6, .int .i64 y7, .int .i64 y8, .int .i64 y9, .int .i64 y10, .int .i64 y11, .int .i64 y12, .int .i64 y13, .int .i64 0, .int .i64 0]) (blk_put (cs' := #[.int .i64 y0, .int .i64 y1, .int .i64 y2, .int .i64 y3, .int .i64 y4, .int .i64 y5, .int .i64 y6, .int .i64 y7, .int .i64 y8, .int .i64 y9, .int .i64 y10, .int .i64 y11, .int .i64 y12, .int .i64 0, .int .i64 0, .int .i64 0]) (blk_put (cs' := #[.int .i64 y0, .int .i64 y1, .int .i64 y2, .int .i64 y3, .int .i64 y4, .int .i64 y5, .int .i64 y6, .int .i64 y7, .int .i64 y8, .int .i64 y9, .int .i64 y10, .int .i64 y11, .int .i64 0, .int .i64 0, .int .i64 0, .int .i64 0]) (blk_put (cs' := #[.int .i64 y0, .int .i64 y1, .int .i64 y2, .int .i64 y3, .int .i64 y4, .int .i64 y5, .int .i64 y6, .int .i64 y7, .int .i64 y8, .int .i64 y9, .int .i64 y10, .int .i64 0, .int .i64 0, .int .i64 0, .int .i64 0, .int .i64 0]) (blk_put (cs' := #[.int .i64 y0, .int .i64 y1, .int .i64 y2, .int .i64 y3, .int .i64 y4, .int .i64 y5, .int .i64 y6, .int .i64 y7, .int .i64 y8, .int .i64 y9, .int .i64 0, .int .i64 0, .int .i64 0, .int .i64 0, .int .i64 0, .int .i64 0]) (blk_put (cs' := #[.int .i64 y0, .int .i64 y1, .int .i64 y2, .int .i64 y3, .int .i64 y4, .int .i64 y5, .int .i64 y6, .int .i64 y7, .int .i64 y8, .int .i64 0, .int .i64 0, .int .i64 0, .int .i64 0, .int .i64 0, .int .i64 0, .int .i64 0]) (blk_put (cs' := #[.int .i64 y0, .int .i64 y1, .int .i64 y2, .int .i64 y3, .int .i64 y4, .int .i64 y5, .int .i64 y6, .int .i64 y7, .int .i64 0, .int .i64 0, .int .i64 0, .int .i64 0, .int .i64 0, .int .i64 0, .int .i64 0, .int .i64 0]) (blk_put (cs' := #[.int .i64 y0, .int .i64 y1, .int .i64 y2, .int .i64 y3, .int .i64 y4, .int .i64 y5, .int .i64 y6, .int .i64 0, .int .i64 0, .int .i64 0, .int .i64 0, .int .i64 0, .int .i64 0, .int .i64 0, .int .i64 0, .int .i64 0]) (blk_put (cs' := #[.int .i64 y0, .int .i64 y1, .int .i64 y2, .int .i64 y3, .int .i64 y4, .int .i64 y5, .int .i64 0, .int .i64 0, .int .i64 0, .int .i64 0, .int .i64 0, .int .i64 0, .int .i64 0, .int .i64 0, .int .i64 0, .int .i64 0]) (blk_put (cs' := #[.int .i64 y0, .int .i64 y1, .int .i64 y2, .int .i64 y3, .int .i64 y4, .int .i64 0, .int .i64 0, .int .i64 0, .int .i64 0, .int .i64 0, .int .i64 0, .int .i64 0, .int .i64 0, .int .i64 0, .int .i64 0, .int .i64 0]) (blk_put (cs' := #[.int .i64 y0, .int .i64 y1, .int .i64 y2, .int .i64 y3, .int .i64 0, .int .i64 0, .int .i64 0, .int .i64 0, .int .i64 0, .int .i64 0, .int .i64 0, .int .i64 0, .int .i64 0, .int .i64 0, .int .i64 0, .int .i64 0]) (blk_put (cs' := #[.int .i64 y0, .int .i64 y1, .int .i64 y2, .int .i64 0, .int .i64 0, .int .i64 0, .int .i64 0, .int .i64 0, .int .i64 0, .int .i64 0, .int .i64 0, .int .i64 0, .int .i64 0, .int .i64 0, .int .i64 0, .int .i64 0]) (blk_put (cs' := #[.int .i64 y0, .int .i64 y1, .int .i64 0, .int .i64 0, .int .i64 0, .int .i64 0, .int .i64 0, .int .i64 0, .int .i64 0, .int .i64 0, .int .i64 0, .int .i64 0, .int .i64 0, .int .i64 0, .int .i64 0, .int .i64 0]) (blk_put (cs' := #[.int .i64 y0, .int .i64 0, .int .i64 0, .int .i64 0, .int .i64 0, .int .i64 0, .int .i64 0, .int .i64 0, .int .i64 0, .int .i64 0, .int .i64 0, .int .i64 0, .int .i64 0, .int .i64 0, .int .i64 0, .int .i64 0]) h 0 _ rfl) 1 _ rfl) 2 _ rfl) 3 _ rfl) 4 _ rfl) 5 _ rfl) 6 _ rfl) 7 _ rfl) 8 _ rfl) 9 _ rfl) 10 _ rfl) 11 _ rfl) 12 _ rfl) 13 _ rfl) 14 _ rfl) 15 _ rfl)
theorem set16_below {w a : World} {g B : Nat} (h : Below B a w) (hg : B ≤ g) (y0 y1 y2 y3 y4 y5 y6 y7 y8 y9 y10 y11 y12 y13 y14 y15 : Int) : Below B a (set16 w g y0 y1 y2 y3 y4 y5 y6 y7 y8 y9 y10 y11 y12 y13 y14 y15) := ((((((((((((((((h.setCell (p := ⟨g, 0, none⟩) hg _).setCell (p := ⟨g, 1, none⟩) hg _).setCell (p := ⟨g, 2, none⟩) hg _).setCell (p := ⟨g, 3, none⟩) hg _).setCell (p := ⟨g, 4, none⟩) hg _).setCell (p := ⟨g, 5, none⟩) hg _).setCell (p := ⟨g, 6, none⟩) hg _).setCell (p := ⟨g, 7, none⟩) hg _).setCell (p := ⟨g, 8, none⟩) hg _).setCell (p := ⟨g, 9, none⟩) hg _).setCell (p := ⟨g, 10, none⟩) hg _).setCell (p := ⟨g, 11, none⟩) hg _).setCell (p := ⟨g, 12, none⟩) hg _).setCell (p := ⟨g, 13, none⟩) hg _).setCell (p := ⟨g, 14, none⟩) hg _).setCell (p := ⟨g, 15, none⟩) hg _)
def tabZ (j : Nat) : Int := ((step4 j : Nat) : Int)
set_option maxHeartbeats 2000000 in
theorem l01Table_calls (w : World) : Calls Try.prog 103 #[] w fun e w' => e = .returned (.agg (tabRow 16)) ∧ Below w.heap.size w w' := by
  go_enter Try.func103, Try.ntmps103
  go_wp2_with fail
  go_loopw [2] (fun v2 wr => ∃ i : Nat, i ≤ 16 ∧ v2 = .int .i64 i ∧ Aside0 (wr.heap[w.heap.size]? = some (.cells (tabRow 0) 122 (0, 0))) ∧ Aside0 (wr.heap[w.heap.size + 1]? = some (.cells (tabRow i) 122 (0, 0))) ∧ Aside0 (Below w.heap.size w wr)) (fun v2 _ => 16 - (intOf v2).toNat)
  case atStart =>
    have h := two_allocs w (.cells (tabRow 0) 122 (0, 0)) (.cells (tabRow 0) 122 (0, 0))
    exact ⟨0, by omega, rfl, ⟨h.1⟩, ⟨h.2.1⟩, ⟨h.2.2⟩⟩
  case round =>
    obtain ⟨i, hi, rfl, HR, HT, HB⟩ := hrel
    by_cases hlt : i < 16
    · have c0 : decide ((i : Int) < 16) = true := decide_eq_true (by omega)
      go_wp2_with fail
      go_loopw [3, 4] (fun v3 v4 w2 => ∃ k : Nat, k ≤ 4 ∧ v3 = .int .i64 ((itN k i : Nat) : Int) ∧ v4 = .int .i64 k ∧ w2 = wr) (fun v3 v4 _ => 4 - (intOf v4).toNat)
      case atStart => exact ⟨0, by omega, rfl, rfl, rfl⟩
      case round =>
        obtain ⟨k, hk, rfl, rfl, rfl⟩ := hrel
        have hx := itN_lt k i (by omega)
        by_cases hk2 : k < 4
        · have c1 : decide ((k : Int) < 4) = true := decide_eq_true (by omega)
          generalize hX : itN k i = x at *
          go_wp2_with fail
          refine ⟨⟨k + 1, by omega, ?_, ?_, trivial⟩, ?_⟩
          · rw [bits_step64 x hx, ← hX]; rfl
          · rfl
          · simp [intOf]; omega
        · have e : k = 4 := by omega
          subst e
          have hs : itN 4 i = step4 i := rfl
          rw [hs] at *
          have hcell : wr.cell? ⟨w.heap.size + 1, i, none⟩ = some (.int .i64 0) := (blk_cell HT.out i).trans (by rw [tabRow_at i hlt]; simp)
          have hfz := blk_frozen HT.out i
          have p1 : (0 ≤ (i : Int)) = True := eq_true (by omega)
          have p2 : ((i : Int) < 16) = True := eq_true (by omega)
          generalize hX : step4 i = x at *
          go_wp2_with fail
          exact ⟨⟨i + 1, by omega, rfl, ⟨blk_far HR.out (by show w.heap.size ≠ w.heap.size + 1; omega) _⟩, ⟨blk_put HT.out i _ (by rw [← hX]; exact tabRow_set i hlt)⟩, ⟨HB.out.setCell (p := ⟨w.heap.size + 1, i, none⟩) (by show w.heap.size ≤ w.heap.size + 1; omega) _⟩⟩, by simp [intOf]; omega⟩
    · have e : i = 16 := by omega
      subst e
      have hc0 := (blk_cell HT.out 0).trans (show (tabRow 16)[0]? = some (.int .i64 (tabZ 0)) from rfl)
      have hc1 := (blk_cell HT.out 1).trans (show (tabRow 16)[1]? = some (.int .i64 (tabZ 1)) from rfl)
      have hc2 := (blk_cell HT.out 2).trans (show (tabRow 16)[2]? = some (.int .i64 (tabZ 2)) from rfl)
      have hc3 := (blk_cell HT.out 3).trans (show (tabRow 16)[3]? = some (.int .i64 (tabZ 3)) from rfl)
      have hc4 := (blk_cell HT.out 4).trans (show (tabRow 16)[4]? = some (.int .i64 (tabZ 4)) from rfl)
      have hc5 := (blk_cell HT.out 5).trans (show (tabRow 16)[5]? = some (.int .i64 (tabZ 5)) from rfl)
      have hc6 := (blk_cell HT.out 6).trans (show (tabRow 16)[6]? = some (.int .i64 (tabZ 6)) from rfl)
      have hc7 := (blk_cell HT.out 7).trans (show (tabRow 16)[7]? = some (.int .i64 (tabZ 7)) from rfl)
      have hc8 := (blk_cell HT.out 8).trans (show (tabRow 16)[8]? = some (.int .i64 (tabZ 8)) from rfl)
      have hc9 := (blk_cell HT.out 9).trans (show (tabRow 16)[9]? = some (.int .i64 (tabZ 9)) from rfl)
      have hc10 := (blk_cell HT.out 10).trans (show (tabRow 16)[10]? = some (.int .i64 (tabZ 10)) from rfl)
      have hc11 := (blk_cell HT.out 11).trans (show (tabRow 16)[11]? = some (.int .i64 (tabZ 11)) from rfl)
      have hc12 := (blk_cell HT.out 12).trans (show (tabRow 16)[12]? = some (.int .i64 (tabZ 12)) from rfl)
      have hc13 := (blk_cell HT.out 13).trans (show (tabRow 16)[13]? = some (.int .i64 (tabZ 13)) from rfl)
      have hc14 := (blk_cell HT.out 14).trans (show (tabRow 16)[14]? = some (.int .i64 (tabZ 14)) from rfl)
      have hc15 := (blk_cell HT.out 15).trans (show (tabRow 16)[15]? = some (.int .i64 (tabZ 15)) from rfl)
      have hf0 := blk_frozen HR.out 0
      have hf1 := blk_frozen HR.out 1
      have hf2 := blk_frozen HR.out 2
      have hf3 := blk_frozen HR.out 3
      have hf4 := blk_frozen HR.out 4
      have hf5 := blk_frozen HR.out 5
      have hf6 := blk_frozen HR.out 6
      have hf7 := blk_frozen HR.out 7
      have hf8 := blk_frozen HR.out 8
      have hf9 := blk_frozen HR.out 9
      have hf10 := blk_frozen HR.out 10
      have hf11 := blk_frozen HR.out 11
      have hf12 := blk_frozen HR.out 12
      have hf13 := blk_frozen HR.out 13
      have hf14 := blk_frozen HR.out 14
      have hf15 := blk_frozen HR.out 15
      have hd0 := (blk_cell HR.out 0).trans (show (tabRow 0)[0]? = some (.int .i64 0) from rfl)
      have hd1 := (blk_cell HR.out 1).trans (show (tabRow 0)[1]? = some (.int .i64 0) from rfl)
      have hd2 := (blk_cell HR.out 2).trans (show (tabRow 0)[2]? = some (.int .i64 0) from rfl)
      have hd3 := (blk_cell HR.out 3).trans (show (tabRow 0)[3]? = some (.int .i64 0) from rfl)
      have hd4 := (blk_cell HR.out 4).trans (show (tabRow 0)[4]? = some (.int .i64 0) from rfl)
      have hd5 := (blk_cell HR.out 5).trans (show (tabRow 0)[5]? = some (.int .i64 0) from rfl)
      have hd6 := (blk_cell HR.out 6).trans (show (tabRow 0)[6]? = some (.int .i64 0) from rfl)
      have hd7 := (blk_cell HR.out 7).trans (show (tabRow 0)[7]? = some (.int .i64 0) from rfl)
      have hd8 := (blk_cell HR.out 8).trans (show (tabRow 0)[8]? = some (.int .i64 0) from rfl)
      have hd9 := (blk_cell HR.out 9).trans (show (tabRow 0)[9]? = some (.int .i64 0) from rfl)
      have hd10 := (blk_cell HR.out 10).trans (show (tabRow 0)[10]? = some (.int .i64 0) from rfl)
      have hd11 := (blk_cell HR.out 11).trans (show (tabRow 0)[11]? = some (.int .i64 0) from rfl)
      have hd12 := (blk_cell HR.out 12).trans (show (tabRow 0)[12]? = some (.int .i64 0) from rfl)
      have hd13 := (blk_cell HR.out 13).trans (show (tabRow 0)[13]? = some (.int .i64 0) from rfl)
      have hd14 := (blk_cell HR.out 14).trans (show (tabRow 0)[14]? = some (.int .i64 0) from rfl)
      have hd15 := (blk_cell HR.out 15).trans (show (tabRow 0)[15]? = some (.int .i64 0) from rfl)
      have hy : tabRow 16 = #[.int .i64 (tabZ 0), .int .i64 (tabZ 1), .int .i64 (tabZ 2), .int .i64 (tabZ 3), .int .i64 (tabZ 4), .int .i64 (tabZ 5), .int .i64 (tabZ 6), .int .i64 (tabZ 7), .int .i64 (tabZ 8), .int .i64 (tabZ 9), .int .i64 (tabZ 10), .int .i64 (tabZ 11), .int .i64 (tabZ 12), .int .i64 (tabZ 13), .int .i64 (tabZ 14), .int .i64 (tabZ 15)] := rfl
      generalize tabZ 0 = y0 at *
      generalize tabZ 1 = y1 at *
      generalize tabZ 2 = y2 at *
      generalize tabZ 3 = y3 at *
      generalize tabZ 4 = y4 at *
      generalize tabZ 5 = y5 at *
      generalize tabZ 6 = y6 at *
      generalize tabZ 7 = y7 at *
      generalize tabZ 8 = y8 at *
      generalize tabZ 9 = y9 at *
      generalize tabZ 10 = y10 at *
      generalize tabZ 11 = y11 at *
      generalize tabZ 12 = y12 at *
      generalize tabZ 13 = y13 at *
      generalize tabZ 14 = y14 at *
      generalize tabZ 15 = y15 at *
      have HY := Aside0.mk hy
      clear hy
      go_wp2_with fail
      change bodyPost _ _ _ _ _ (set16 wr w.heap.size y0 y1 y2 y3 y4 y5 y6 y7 y8 y9 y10 y11 y12 y13 y14 y15)
      have BF := Aside0.mk (set16_blk HR.out y0 y1 y2 y3 y4 y5 y6 y7 y8 y9 y10 y11 y12 y13 y14 y15)
      have HB2 := Aside0.mk (set16_below HB.out (Nat.le_refl _) y0 y1 y2 y3 y4 y5 y6 y7 y8 y9 y10 y11 y12 y13 y14 y15)
      generalize set16 wr w.heap.size y0 y1 y2 y3 y4 y5 y6 y7 y8 y9 y10 y11 y12 y13 y14 y15 = W at BF HB2 ⊢
      refine bodyPost_ret (results_cell_row rfl _ _ w.heap.size 122 #[.int .i64 y0, .int .i64 y1, .int .i64 y2, .int .i64 y3, .int .i64 y4, .int .i64 y5, .int .i64 y6, .int .i64 y7, .int .i64 y8, .int .i64 y9, .int .i64 y10, .int .i64 y11, .int .i64 y12, .int .i64 y13, .int .i64 y14, .int .i64 y15] (0, 0) _ rfl BF.out Try.underlying122 rfl (by kernel_rfl)) rfl ?_
      exact ⟨by rw [HY.out], HB2.out⟩
end Go.Proofs.Ytgcncphdjabjjaa.X
namespace Go.Proofs.Ytgcncphdjabjjaa.X
open Go.RowKit Go.Proofs.YtgcncphdjabjjaaW.PrintWords Go.Proofs.YtgcncphdjabjjaaW.PrintLast Go.Proofs.YtgcncphdjabjjaaW.PrintMore
attribute [local go_sem] xbin_geq xbin_leq xbin_gtr max2_int min2_int max_two min_two max_three min_three max_four min_four
set_option linter.unusedVariables false
set_option linter.unusedSimpArgs false
def pairsFrom (a : ByteArray) (l : List S76) : ByteArray := l.foldl (fun a p => a ++ fieldsT [p.f0, p.f1]) a
theorem pairsFrom_snoc (a : ByteArray) (l : List S76) (p : S76) : pairsFrom a (l ++ [p]) = pairsFrom a l ++ fieldsT [p.f0, p.f1] := by
  unfold pairsFrom
  rw [List.foldl_append]
  rfl
def PairsFit (l : List S76) : Prop := l.length ≤ 1000 ∧ ∀ p, p ∈ l → p.f0.size ≤ 1000 ∧ p.f1.size ≤ 1000
instance (l : List S76) : Decidable (PairsFit l) := by unfold PairsFit; infer_instance
theorem fieldsT_two (a b : ByteArray) (ha : a.size ≤ 1000) (hb : b.size ≤ 1000) : (fieldsT [a, b]).size ≤ 2005 := by
  show (fieldsFrom (strOfNums [2]) [a, b]).size ≤ 2005
  simp only [fieldsFrom, List.foldl_cons, List.foldl_nil, ByteArray.size_append, numT_size]
  have : (strOfNums [2]).size = 1 := rfl
  omega
theorem pairsFrom_size (l : List S76) : ∀ a : ByteArray, (∀ p, p ∈ l → p.f0.size ≤ 1000 ∧ p.f1.size ≤ 1000) → (pairsFrom a l).size ≤ a.size + 2005 * l.length := by
  induction l with
  | nil => intro a _; exact Nat.le_add_right _ _
  | cons p l ih =>
    intro a h
    have h1 := h p List.mem_cons_self
    have h2 := ih (a ++ fieldsT [p.f0, p.f1]) fun x hx => h x (List.mem_cons_of_mem _ hx)
    have h3 := fieldsT_two p.f0 p.f1 h1.1 h1.2
    rw [ByteArray.size_append] at h2
    simp only [List.length_cons]
    show (pairsFrom (a ++ fieldsT [p.f0, p.f1]) l).size ≤ _
    omega
def impl_pairsSum.f (l0 : List S76) : Option Int := if PairsFit l0 then some (sumOf32 (bytesOf (pairsFrom ByteArray.empty l0))) else none
set_option maxRecDepth 100000 in
set_option maxHeartbeats 4000000 in
theorem impl_pairsSum.calls (A0 : Option Addr) (c0 : Nat) (l0 : List S76) (r : Int) (w : World) (hr0 : Kd.C k76 w A0 l0.length l0) (hc0 : l0.length ≤ c0) (h : impl_pairsSum.f l0 = some r) :
    Calls Try.prog 54 #[.slice A0 l0.length c0] w fun e w' => e = .returned (.int .i64 r) ∧ Below w.heap.size w w' := by
  unfold impl_pairsSum.f at h
  by_cases hs : PairsFit l0
  · rw [if_pos hs] at h
    obtain rfl := Option.some.inj h
    obtain ⟨hs1, hs2⟩ := hs
    have hu := Try.underlying76
    have HS := Aside0.mk hs2
    have HR := Aside0.mk hr0
    clear hr0 h hs2
    go_enter Try.func54, Try.ntmps54
    go_wp2_with fail
    have HB1 := Aside0.mk (Lib.fresh_isBuilder 102 5 w)
    have HB := Aside0.mk (show Below w.heap.size w (w.alloc (.cells #[.pointer none, .slice none 0 0] 102 (0, 0))) from (Below.refl _ w).alloc (Nat.le_refl _) _)
    go_loopw [9] (fun v9 wr => ∃ k : Nat, k ≤ l0.length ∧ v9 = .int .i64 k ∧ Aside0 (Lib.IsBuilder 102 5 w.heap.size w.heap.size (Lib.byteCells (pairsFrom ByteArray.empty (l0.take k)).data.toList) wr) ∧ Aside0 (Below w.heap.size w wr)) (fun v9 _ => l0.length - (intOf v9).toNat)
    case atStart => exact ⟨0, Nat.zero_le _, rfl, ⟨by rw [List.take_zero]; exact HB1.out⟩, HB⟩
    case round =>
      clear HB HB1
      obtain ⟨k, hk, rfl, HI, HB⟩ := hrel
      have hfs := pairsFrom_size (l0.take k) ByteArray.empty fun t ht => HS.out t (List.mem_of_mem_take ht)
      rw [List.length_take] at hfs
      have ha1 : ByteArray.empty.size = 0 := rfl
      rw [ha1] at hfs
      by_cases hlt : k < l0.length
      · have c1 : decide ((k : Int) < (l0.length : Int)) = true := decide_eq_true (by omega)
        have p1 : 0 ≤ (k : Int) := by omega
        have q1 : (k : Int) < (l0.length : Int) := by omega
        obtain ⟨ad, e, hx0, hx1⟩ := at_T76 HR.out (k : Int) p1 q1
        cases e
        have et : rd_T76 l0 (k : Int) = l0[k] := by unfold rd_T76; rw [Int.toNat_natCast]; simp [List.getD_eq_getElem?_getD, hlt]
        rw [et, Int.toNat_natCast] at hx0 hx1
        have htk : l0.take (k + 1) = l0.take k ++ [l0[k]] := List.take_succ_eq_append_getElem hlt
        have hts := HS.out l0[k] (List.getElem_mem hlt)
        replace hx0 := (HB.out.cell (World.block_lt_of_cell? w _ hx0)).trans hx0
        replace hx1 := (HB.out.cell (World.block_lt_of_cell? w _ hx1)).trans hx1
        clear et
        generalize l0[k] = t at hx0 hx1 htk hts
        replace p1 := eq_true p1
        replace q1 := eq_true q1
        have HTK := Aside0.mk htk
        clear htk
        go_wp2_with fail
        obtain ⟨_, h2, hb0⟩ := two_allocs wr (.cells #[.string t.f0, .string t.f1] 76) (.cells #[.string t.f0, .string t.f1] 9)
        have hC : Kd.C Kd.string ((wr.alloc (.cells #[.string t.f0, .string t.f1] 76)).alloc (.cells #[.string t.f0, .string t.f1] 9)) (some ⟨wr.heap.size + 1, 0, none⟩) [t.f0, t.f1].length [t.f0, t.f1] := Kd.C_of_reads (d := ByteArray.empty) ⟨rfl, by show 2 ≤ _; omega, fun _ => ⟨_, rfl, fun j hj => by
          rw [add_plain, blk_cell h2 j]
          match j, hj with
          | 0, _ => rfl
          | 1, _ => rfl
          | j + 2, hj => exact absurd hj (by show ¬ j + 2 < 2; omega)⟩⟩
        have hf2 : impl_fields.f [t.f0, t.f1] = some (fieldsT [t.f0, t.f1]) := by
          unfold impl_fields.f
          rw [if_pos ⟨by show 2 ≤ _; omega, fun x hx => by
            rcases List.mem_cons.1 hx with rfl | hx
            · omega
            · rcases List.mem_cons.1 hx with rfl | hx
              · omega
              · cases hx⟩]
        refine (impl_fields.calls _ 2 [t.f0, t.f1] _ _ hC (Nat.le_refl _) hf2).mono ?_
        rintro e w2 ⟨rfl, hb2⟩
        have hbw : Below wr.heap.size wr w2 := below_step hb0 hb2
        have hsz2 := fieldsT_two t.f0 t.f1 hts.1 hts.2
        have HBW := Aside0.mk hbw
        clear h2 hb0 hC hf2 hb2 hbw
        generalize hN : fieldsT [t.f0, t.f1] = nb at *
        have HN := Aside0.mk hN
        clear hN
        go_wp2_with fail
        refine (bld_WriteString w.heap.size w.heap.size _ nb _ (isBuilder_below HI.out HBW.out) (by
          rw [Lib.byteCells_length, Array.length_toList]
          have : (pairsFrom ByteArray.empty (l0.take k)).data.size = (pairsFrom ByteArray.empty (l0.take k)).size := rfl
          omega) (by have := HB.out.size; have := HBW.out.size; omega)).mono ?_
        rintro e w3 ⟨rfl, hB3, hb3⟩
        have HB3 := Aside0.mk (below_step HB.out HBW.out)
        go_wp2_with fail
        refine ⟨⟨k + 1, by omega, rfl, ⟨?_⟩, ⟨HB3.out.trans hb3⟩⟩, by simp [intOf]; omega⟩
        rw [HTK.out, pairsFrom_snoc, HN.out]
        have e : Lib.byteCells (pairsFrom ByteArray.empty (l0.take k) ++ nb).data.toList = Lib.byteCells (pairsFrom ByteArray.empty (l0.take k)).data.toList ++ Lib.strCells nb := by
          rw [Lib.strCells_eq, ← Lib.byteCells_append, ByteArray.data_append, Array.toList_append]
        rw [e]
        exact .inr hB3
      · have e : k = l0.length := by omega
        have c1 : decide ((k : Int) < (l0.length : Int)) = false := decide_eq_false (by omega)
        have e9 : l0.take k = l0 := by rw [e, List.take_length]
        rw [e9] at HI hfs
        go_wp2_with fail
        refine (bld_String w.heap.size w.heap.size _ _ HI.out HB.out.size).mono ?_
        rintro e w2 ⟨rfl, hb2⟩
        go_wp2_with fail
        refine (impl_sumOf.calls _ _ _ (show impl_sumOf.f _ = some (sumOf32 (bytesOf (pairsFrom ByteArray.empty l0))) from ?_)).mono ?_
        · unfold impl_sumOf.f
          rw [if_pos (by show (pairsFrom ByteArray.empty l0).size ≤ _; omega)]
        rintro e w3 ⟨rfl, hb3⟩
        go_wp2_with fail
        go_ret
        exact ⟨rfl, below_step (HB.out.trans hb2) hb3⟩
  · rw [if_neg hs] at h
    cases h
end Go.Proofs.Ytgcncphdjabjjaa.X
namespace Go.Proofs.Ytgcncphdjabjjaa.X
open Go.RowKit Go.Proofs.YtgcncphdjabjjaaW.PrintWords Go.Proofs.YtgcncphdjabjjaaW.PrintLast Go.Proofs.YtgcncphdjabjjaaW.PrintMore
attribute [local go_sem] xbin_geq xbin_leq xbin_gtr max2_int min2_int max_two min_two max_three min_three max_four min_four
set_option linter.unusedVariables false
set_option linter.unusedSimpArgs false
def spec_l01Number.l0 : Nat → Int → List Int → Int → Option (List Int)
 | 0, _, _, _ => none
 | k + 1, x0, x5, x6 => if x6 ≥ 0 then (if 0 ≤ (IntKind.u64.wrap (wrap64 (8 * x6))) then (if x5.length < 140737488355328 then (spec_l01Number.l0 k x0 (x5 ++ [(shr .i64 x0 (IntKind.u64.wrap (wrap64 (8 * x6)))) % 256]) (wrap64 (x6 - 1))) else (none)) else (none)) else (some x5)
def spec_l01Number.f (k : Nat) (a0 : Int) (a1 : Int) : Option (List Int) := spec_l01Number.l0 k a0 (([] : List Int)) (wrap64 (a1 - 1))
theorem spec_l01Number.mono_l : ∀ k, (∀ y0 y1 y2, LeO (spec_l01Number.l0 k y0 y1 y2) (spec_l01Number.l0 (k + 1) y0 y1 y2))
 | 0 => fun _ _ _ r h => by simp [spec_l01Number.l0] at h
 | k + 1 => by
  have ih0 := spec_l01Number.mono_l k
  ·intro y0 y1 y2
   unfold spec_l01Number.l0
   repeat' first
   | (with_reducible exact ih0 _ _ _)
   | (with_reducible exact LeO.refl _)
   | (with_reducible exact LeO.none _)
   | (with_reducible refine LeO.ite ?_ ?_)
   | (with_reducible refine LeO.bind ?_ (fun _ => ?_))
   | exact ih0 _ _ _
   | exact LeO.none _
   | refine LeO.ite ?_ ?_
   | refine LeO.bind ?_ (fun _ => ?_)
theorem spec_l01Number.mono : ∀ a0 a1 k, LeO (spec_l01Number.f k a0 a1) (spec_l01Number.f (k + 1) a0 a1) := by
 intro a0 a1 k
 have ih0 := spec_l01Number.mono_l k
 unfold spec_l01Number.f
 repeat' first
   | (with_reducible exact ih0 _ _ _)
   | (with_reducible exact LeO.refl _)
   | (with_reducible exact LeO.none _)
   | (with_reducible refine LeO.ite ?_ ?_)
   | (with_reducible refine LeO.bind ?_ (fun _ => ?_))
   | exact ih0 _ _ _
   | exact LeO.none _
   | refine LeO.ite ?_ ?_
   | refine LeO.bind ?_ (fun _ => ?_)
set_option maxHeartbeats 8000000 in
set_option maxRecDepth 100000 in
theorem spec_l01Number.calls (k : Nat) (a0 : Int) (a1 : Int) (r : List Int) (w : World) (h : spec_l01Number.f k a0 a1 = some r) :
  Calls Try.prog 97 #[.int .i64 a0, .int .i64 a1] w fun e w' => ∃ v0_ : Value, e = .returned (v0_) ∧ Kd.R (Kd.int .u8) 5 w' w.heap.size (fun _ => True) v0_ r ∧ Below w.heap.size w w' := by
 have HB := Aside0.mk (Below.refl w.heap.size w)
 have H : (spec_l01Number.l0 k a0 (([] : List Int)) (wrap64 (a1 - 1))) = some r := h
 clear h
 obtain ⟨y110, hy110⟩ : ∃ y_ : List Int, y_ = (([] : List Int)) := ⟨_, rfl⟩
 replace H : (spec_l01Number.l0 k a0 y110 (wrap64 (a1 - 1))) = some r := by first | (rw [hy110]; with_reducible exact H) | (have H2_ := (Option.bind_some _ _).symm.trans H; rw [hy110]; with_reducible exact H2_) | (have H2_ := (Option.bind_some _ _).symm.trans H; with_reducible exact H2_) | with_reducible exact H | (rw [hy110]; exact H) | exact H
 have Ny110 := Aside0.mk hy110
 clear hy110
 have H' := Aside0.mk H
 clear H
 go_enter Try.func97, Try.ntmps97
 go_wp2_with (first | ((with_reducible refine gate_dst (N := 7) rfl ?_); refine Kd.R_lit (Kd.int .u8) _ 5 ?hg (N := 7) ?hd (xs := ([] : List Int)) (inner := []) (ok := fun _ => True) (okp := fun _ => True) ?hr ?hp (fun _ hk => hk) trivial (Below.refl _ _) (Nat.le_refl _) (by simp) ?_; (case hd => rfl); (case hg => rfl); (case hr => first | (go_simp; done) | (go_simp; rfl)); (case hp => exact (Reps.none _ _)); intro v111 w3 ho4 hb hg_ hnew_; clear hg_ hnew_; (first | rw [← Ny110.out] at ho4 | (simp only [Int.reduceToNat] at ho4; rw [← Ny110.out] at ho4)); have n0_ := Aside0.mk (Kd.R_lower ho4 (below_size (by repeat (first | (with_reducible first | exact HB.out | apply below_alloc | apply pw_below_drewN | apply below_drew1) | exact HB.out)))); have n1_ := Aside0.mk (below_step (by repeat (first | (with_reducible first | exact HB.out | apply below_alloc | apply pw_below_drewN | apply below_drew1) | exact HB.out)) hb); clear HB; have HO112 := n0_; have HB := n1_; clear n0_ n1_; clear hb ho4))
 go_loopg [5, 6] k (fun kq v5 v6 w' => ∃ (x5_1 : List Int) (x6_1 : Int), v6 = .int .i64 x6_1 ∧ Aside0 (spec_l01Number.l0 kq a0 x5_1 x6_1 = some r) ∧ Aside0 (kq ≤ k) ∧ Aside0 (Kd.R (Kd.int .u8) 5 w' w.heap.size (fun _ => True) v5 x5_1) ∧ Aside0 (Below w.heap.size w w'))
 case atStart => exact ⟨(y110), (wrap64 (a1 - 1)), (by first | rfl | (simp; done) | (simp [*]; done)), H', ⟨Nat.le_refl _⟩, ⟨by (with_reducible repeat (first | apply Kd.R_alloc | apply Kd.R_drewN | apply Kd.R_drew)); exact HO112.out⟩, ⟨by repeat (first | (with_reducible first | exact HB.out | apply below_alloc | apply pw_below_drewN | apply below_drew1) | exact HB.out)⟩⟩
 case round =>
  clear H'
  try clear p2
  obtain ⟨x5_1, x6_1, rfl, HA, HK1, HO_5, HB⟩ := hrel
  cases gk with
  | zero => exact absurd HA.out (by simp [spec_l01Number.l0])
  | succ k1 =>
   have H := HA.out
   clear HA
   simp only [spec_l01Number.l0] at H
   by_cases c5 : x6_1 ≥ 0
   ·rw [if_pos c5] at H
    have c5b0 : decide (0 ≤ x6_1) = true := decide_eq_true c5
    clear c5
    obtain ⟨ji6, hji6⟩ : ∃ j_ : Int, (IntKind.u64.wrap (wrap64 (8 * x6_1))) = j_ := ⟨_, rfl⟩
    replace H : (if 0 ≤ (ji6) then (if x5_1.length < 140737488355328 then (spec_l01Number.l0 k1 a0 (x5_1 ++ [(shr .i64 a0 (ji6)) % 256]) (wrap64 (x6_1 - 1))) else (none)) else (none)) = some r := by first | (rw [hji6] at H; exact H) | (simp only [hji6] at H ⊢; exact H)
    by_cases c7 : 0 ≤ (ji6)
    ·rw [if_pos c7] at H
     have c7b0 := eq_true c7
     have c7b1 : decide (0 ≤ (ji6)) = true := decide_eq_true c7
     clear c7
     obtain ⟨ji8, hji8⟩ : ∃ j_ : Int, (shr .i64 a0 (ji6)) = j_ := ⟨_, rfl⟩
     replace H : (if x5_1.length < 140737488355328 then (spec_l01Number.l0 k1 a0 (x5_1 ++ [(ji8) % 256]) (wrap64 (x6_1 - 1))) else (none)) = some r := by first | (rw [hji8] at H; exact H) | (simp only [hji8] at H ⊢; exact H)
     have hji8_ : (a0 / 2 ^ min (ji6).toNat 64) = ji8 := hji8
     have hji8z : (ji6) ≤ 64 → (a0 / 2 ^ (ji6).toNat) = ji8 := shr_small hji8
     by_cases c9 : x5_1.length < 140737488355328
     ·rw [if_pos c9] at H
      have LMc9 := Aside0.mk c9
      clear c9
      obtain ⟨y113, hy113⟩ : ∃ y_ : List Int, y_ = (x5_1 ++ [(ji8) % 256]) := ⟨_, rfl⟩
      replace H : (spec_l01Number.l0 k1 a0 y113 (wrap64 (x6_1 - 1))) = some r := by first | (rw [hy113]; with_reducible exact H) | (have H2_ := (Option.bind_some _ _).symm.trans H; rw [hy113]; with_reducible exact H2_) | (have H2_ := (Option.bind_some _ _).symm.trans H; with_reducible exact H2_) | with_reducible exact H | (rw [hy113]; exact H) | exact H
      have Ny113 := Aside0.mk hy113
      clear hy113
      have H' := Aside0.mk H
      clear H
      go_wp2_with (first | ((with_reducible refine gate_builtin (b := .append) (xs := #[.tmp 14, .tmp 21]) rfl ?_); at_builtin; refine Kd.R_append (Kd.int .u8) (w0 := w) w.heap.size rfl (.tmp 14) (.tmp 21) 52 5 (.int .u8 0) 1 rfl Try.underlying52 info5 rfl (by decide) (by omega) u5 x5_1 ((ji8) % 256) [.int .u8 ((ji8) % 256)] (fun _ => True) (fun _ => False) rfl rfl ?aP (fun _ hk => hk.elim) ?aF ?aO ?aB ?aS ?aL ?_; (case aP => exact rfl); (case aB => exact (by repeat (first | (with_reducible first | exact HB.out | apply below_alloc | apply pw_below_drewN | apply below_drew1) | exact HB.out))); (case aF => exact (fun _ _ => trivial)); (case aO => exact (by (with_reducible repeat (first | apply Kd.R_alloc | apply Kd.R_drewN | apply Kd.R_drew)); exact HO_5.out)); (case aS => exact (below_size (by repeat (first | (with_reducible first | exact HB.out | apply below_alloc | apply pw_below_drewN | apply below_drew1) | exact HB.out)))); (case aL => have := LMc9.out; omega); intro v114 w10 ho hb hg hat; rw [← Ny113.out] at ho; have n0_ := Aside0.mk (hb); have n1_ := Aside0.mk (ho); clear HB; clear HO_5; have HB := n0_; have HO115 := n1_; clear n0_ n1_; clear ho hb hg hat))
      go_roundg k1
      case measure => have := HK1.out; omega
      case rel => exact ⟨(y113), (wrap64 (x6_1 - 1)), (by first | rfl | (simp; done) | (simp [*]; done)), H', ⟨by have := HK1.out; omega⟩, ⟨by (with_reducible repeat (first | apply Kd.R_alloc | apply Kd.R_drewN | apply Kd.R_drew)); exact HO115.out⟩, ⟨by repeat (first | (with_reducible first | exact HB.out | apply below_alloc | apply pw_below_drewN | apply below_drew1) | exact HB.out)⟩⟩
     ·rw [if_neg c9] at H
      exact absurd H (by simp)
    ·rw [if_neg c7] at H
     exact absurd H (by simp)
   ·rw [if_neg c5] at H
    have c5b0 : decide (0 ≤ x6_1) = false := decide_eq_false c5
    clear c5
    obtain rfl := Option.some.inj H
    go_wp2
    go_ret
    exact ⟨_, by first | rfl | (simp [errW_none, errW_some] <;> rfl) | (simp [*, errW_none, errW_some] <;> rfl), by (with_reducible repeat (first | apply Kd.R_alloc | apply Kd.R_drewN | apply Kd.R_drew)); exact HO_5.out, by repeat (first | (with_reducible first | exact HB.out | apply below_alloc | apply pw_below_drewN | apply below_drew1) | exact HB.out)⟩
end Go.Proofs.Ytgcncphdjabjjaa.X
