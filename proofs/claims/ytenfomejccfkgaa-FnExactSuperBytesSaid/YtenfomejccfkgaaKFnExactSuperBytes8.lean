import Derived.Test.YtenfomejccfkgaaKFnExactSuperBytes4
import Derived.Test.YtenfomejccfkgaaKFnExactSuperBytes7
import Derived.LoopTactic
import Derived.BigQuiet
import Derived.Lib.ConvBytes
namespace Go.Proofs.Ytenfomejccfkgaa.X
open Go.RowKit Go.Proofs.YtenfomejccfkgaaW.PrintWords Go.Proofs.YtenfomejccfkgaaW.PrintLast Go.Proofs.YtenfomejccfkgaaW.PrintMore
attribute [local go_sem] xbin_geq xbin_leq xbin_gtr max2_int min2_int max_two min_two max_three min_three max_four min_four
set_option linter.unusedVariables false
set_option linter.unusedSimpArgs false
set_option maxRecDepth 100000
def tabRow (i : Nat) : Array Value := ((List.range 16).map fun j => Value.int .i64 (if j < i then ((step4 j : Nat) : Int) else 0)).toArray
def itN : Nat → Nat → Nat
  | 0, x => x
  | k + 1, x => stepN (itN k x)
theorem itN_lt (k x : Nat) (h : x < 4294967296) : itN k x < 4294967296 := by
  induction k with
  | zero => exact h
  | succ k ih => exact stepN_lt ih
theorem i64_xor_nat (a b : Nat) (ha : a < 9223372036854775808) (hb : b < 9223372036854775808) : bits .xor .i64 (a : Int) (b : Int) = ((a ^^^ b : Nat) : Int) := by
  have h := Nat.xor_lt_two_pow (n := 63) ha hb
  show IntKind.i64.wrap ((BitVec.ofInt 64 (a : Int) ^^^ BitVec.ofInt 64 (b : Int)).toNat : Nat) = _
  rw [BitVec.toNat_xor, ofInt_u64 a (by omega), ofInt_u64 b (by omega), IntKind.wrap_i64]
  omega
theorem i64_and_nat (a b : Nat) (ha : a < 9223372036854775808) (hb : b < 9223372036854775808) : bits .and .i64 (a : Int) (b : Int) = ((a &&& b : Nat) : Int) := by
  have h := Nat.and_lt_two_pow a (n := 63) hb
  show IntKind.i64.wrap ((BitVec.ofInt 64 (a : Int) &&& BitVec.ofInt 64 (b : Int)).toNat : Nat) = _
  rw [BitVec.toNat_and, ofInt_u64 a (by omega), ofInt_u64 b (by omega), IntKind.wrap_i64]
  omega
theorem bits_step64 (n : Nat) (h : n < 4294967296) : bits .xor .i64 ((n : Int) / 2) (wrap64 (bits .and .i64 (n : Int) 1 * 3988292384)) = ((stepN n : Nat) : Int) := by
  have e1 : bits .and .i64 (n : Int) 1 = ((n % 2 : Nat) : Int) := by
    have := i64_and_nat n 1 (by omega) (by decide)
    rw [Nat.and_one_is_mod] at this
    exact this
  rw [e1]
  have e2 : wrap64 (((n % 2 : Nat) : Int) * 3988292384) = ((3988292384 * (n % 2) : Nat) : Int) := by
    have h1 : n % 2 ≤ 1 := by omega
    rw [wrap_id (by omega) (by omega)]
    omega
  have e3 : (n : Int) / 2 = ((n / 2 : Nat) : Int) := by omega
  rw [e2, e3, i64_xor_nat _ _ (by omega) (by rcases Nat.mod_two_eq_zero_or_one n with hx | hx <;> rw [hx] <;> decide)]
  rfl
theorem tabRow_at (i : Nat) (h : i < 16) (j : Nat) : (tabRow j)[i]? = some (.int .i64 (if i < j then ((step4 i : Nat) : Int) else 0)) := by
  unfold tabRow
  simp [h]
theorem tabRow_size (j : Nat) : (tabRow j).size = 16 := by unfold tabRow; simp
theorem tabRow_set (i : Nat) (h : i < 16) : (tabRow i).setIfInBounds i (.int .i64 ((step4 i : Nat) : Int)) = tabRow (i + 1) := by
  refine Array.ext_getElem? fun k => ?_
  rw [Array.getElem?_setIfInBounds, tabRow_size]
  by_cases hk : k < 16
  · rw [tabRow_at k hk, tabRow_at k hk]
    by_cases e : i = k
    · subst e; simp [h]
    · rw [if_neg e]
      by_cases h2 : k < i
      · simp [h2, show k < i + 1 by omega]
      · simp [h2, show ¬ k < i + 1 by omega]
  · rw [if_neg (by omega)]
    rw [Array.getElem?_eq_none (by rw [tabRow_size]; omega), Array.getElem?_eq_none (by rw [tabRow_size]; omega)]
theorem blk_old2 (w : World) (o : Obj) (i : Nat) (h : i < w.heap.size) : (w.alloc o).heap[i]? = w.heap[i]? := by
  show (w.heap.push o)[i]? = _
  rw [Array.getElem?_push, if_neg (by omega)]
theorem two_allocs (w : World) (A B : Obj) : ((w.alloc A).alloc B).heap[w.heap.size]? = some A ∧ ((w.alloc A).alloc B).heap[w.heap.size + 1]? = some B ∧ Below w.heap.size w ((w.alloc A).alloc B) := by
  have hs : (w.alloc A).heap.size = w.heap.size + 1 := (by show (w.heap.push A).size = _; rw [Array.size_push])
  refine ⟨?_, ?_, ?_⟩
  · exact (blk_old2 (w.alloc A) B w.heap.size (by omega)).trans (blk_new w A)
  · rw [← hs]; exact blk_new (w.alloc A) B
  · exact ((Below.refl _ w).alloc (Nat.le_refl _) _).alloc (by omega) _
def set16 (w : World) (g : Nat) (y0 y1 y2 y3 y4 y5 y6 y7 y8 y9 y10 y11 y12 y13 y14 y15 : Int) : World := ((((((((((((((((w.setCell ⟨g, 0, none⟩ (.int .i64 y0)).setCell ⟨g, 1, none⟩ (.int .i64 y1)).setCell ⟨g, 2, none⟩ (.int .i64 y2)).setCell ⟨g, 3, none⟩ (.int .i64 y3)).setCell ⟨g, 4, none⟩ (.int .i64 y4)).setCell ⟨g, 5, none⟩ (.int .i64 y5)).setCell ⟨g, 6, none⟩ (.int .i64 y6)).setCell ⟨g, 7, none⟩ (.int .i64 y7)).setCell ⟨g, 8, none⟩ (.int .i64 y8)).setCell ⟨g, 9, none⟩ (.int .i64 y9)).setCell ⟨g, 10, none⟩ (.int .i64 y10)).setCell ⟨g, 11, none⟩ (.int .i64 y11)).setCell ⟨g, 12, none⟩ (.int .i64 y12)).setCell ⟨g, 13, none⟩ (.int .i64 y13)).setCell ⟨g, 14, none⟩ (.int .i64 y14)).setCell ⟨g, 15, none⟩ (.int .i64 y15))
theorem set16_blk {w : World} {g : Nat} {t : TypeId} (h : w.heap[g]? = some (.cells (tabRow 0) t (0, 0))) (y0 y1 y2 y3 y4 y5 y6 y7 y8 y9 y10 y11 y12 y13 y14 y15 : Int) : (set16 w g y0 y1 y2 y3 y4 y5 y6 y7 y8 y9 y10 y11 y12 y13 y14 y15).heap[g]? = some (.cells #[.int .i64 y0, .int .i64 y1, .int .i64 y2, .int .i64 y3, .int .i64 y4, .int .i64 y5, .int .i64 y6, .int .i64 y7, .int .i64 y8, .int .i64 y9, .int .i64 y10, .int .i64 y11, .int .i64 y12, .int .i64 y13, .int .i64 y14, .int .i64 y15] t (0, 0)) := by
  have h : w.heap[g]? = some (.cells #[.int .i64 0, .int .i64 0, .int .i64 0, .int .i64 0, .int .i64 0, .int .i64 0, .int .i64 0, .int .i64 0, .int .i64 0, .int .i64 0, .int .i64 0, .int .i64 0, .int .i64 0, .int .i64 0, .int .i64 0, .int .i64 0] t (0, 0)) := h
  exact (blk_put (cs' := #[.int .i64 y0, .int .i64 y1, .int .i64 y2, .int .i64 y3, .int .i64 y4, .int .i64 y5, .int .i64 y6, .int .i64 y7, .int .i64 y8, .int .i64 y9, .int .i64 y10, .int .i64 y11, .int .i64 y12, .int .i64 y13, .int .i64 y14, .int .i64 y15]) (blk_put (cs' := #[.int .i64 y0, .int .i64 y1, .int .i64 y2, .int .i64 y3, .int .i64 y4, .int .i64 y5, .int .i64 y6, .int .i64 y7, .int .i64 y8, .int .i64 y9, .int .i64 y10, .int .i64 y11, .int .i64 y12, .int .i64 y13, .int .i64 y14, .int .i64 0]) (blk_put (cs' := #[.int .i64 y0, .int .i64 y1, .int .i64 y2, .int .i64 y3, .int .i64 y4, .int .i64 y5, .int .i64 y6, .int .i64 y7, .int .i64 y8, .int .i64 y9, .int .i64 y10, .int .i64 y11, .int .i64 y12, .int .i64 y13, .int .i64 0, .int .i64 0]) (blk_put (cs' := #[.int .i64 y0, .int .i64 y1, .int .i64 y2, .int .i64 y3, .int .i64 y4, .int .i64 y5, .int .i64 y6, .int .i64 y7, .int .i64 y8, .int .i64 y9, .int .i64 y10, .int .i64 y11, .int .i64 y12, .int .i64 0, .int .i64 0, .int .i64 0]) (blk_put (cs' := #[.int .i64 y0, .int .i64 y1, .int .i64 y2, .int .i64 y3, .int .i64 y4, .int .i64 y5, .int .i64 y6, .int .i64 y7, .int .i64 y8, .int .i64 y9, .int .i64 y10, .int .i64 y11, .int .i64 0, .int .i64 0, .int .i64 0, .int .i64 0]) (blk_put (cs' := #[.int .i64 y0, .int .i64 y1, .int .i64 y2, .int .i64 y3, .int .i64 y4, .int .i64 y5, .int .i64 y6, .int .i64 y7, .int .i64 y8, .int .i64 y9, .int .i64 y10, .int .i64 0, .int .i64 0, .int .i64 0, .int .i64 0, .int .i64 0]) (blk_put (cs' := #[.int .i64 y0, .int .i64 y1, .int .i64 y2, .int .i64 y3, .int .i64 y4, .int .i64 y5, .int .i64 y6, .int .i64 y7, .int .i64 y8, .int .i64 y9, .int .i64 0, .int .i64 0, .int .i64 0, .int .i64 0, .int .i64 0, .int .i64 0]) (blk_put (cs' := #[.int .i64 y0, .int .i64 y1, .int .i64 y2, .int .i64 y3, .int .i64 y4, .int .i64 y5, .int .i64 y6, .int .i64 y7, .int .i64 y8, .int .i64 0, .int .i64 0, .int .i64 0, .int .i64 0, .int .i64 0, .int .i64 0, .int .i64 0]) (blk_put (cs' := #[.int .i64 y0, .int .i64 y1, .int .i64 y2, .int .i64 y3, .int .i64 y4, .int .i64 y5, .int .i64 y6, .int .i64 y7, .int .i64 0, .int .i64 0, .int .i64 0, .int .i64 0, .int .i64 0, .int .i64 0, .int .i64 0, .int .i64 0]) (blk_put (cs' := #[.int .i64 y0, .int .i64 y1, .int .i64 y2, .int .i64 y3, .int .i64 y4, .int .i64 y5, .int .i64 y6, .int .i64 0, .int .i64 0, .int .i64 0, .int .i64 0, .int .i64 0, .int .i64 0, .int .i64 0, .int .i64 0, .int .i64 0]) (blk_put (cs' := #[.int .i64 y0, .int .i64 y1, .int .i64 y2, .int .i64 y3, .int .i64 y4, .int .i64 y5, .int .i64 0, .int .i64 0, .int .i64 0, .int .i64 0, .int .i64 0, .int .i64 0, .int .i64 0, .int .i64 0, .int .i64 0, .int .i64 0]) (blk_put (cs' := #[.int .i64 y0, .int .i64 y1, .int .i64 y2, .int .i64 y3, .int .i64 y4, .int .i64 0, .int .i64 0, .int .i64 0, .int .i64 0, .int .i64 0, .int .i64 0, .int .i64 0, .int .i64 0, .int .i64 0, .int .i64 0, .int .i64 0]) (blk_put (cs' := #[.int .i64 y0, .int .i64 y1, .int .i64 y2, .int .i64 y3, .int .i64 0, .int .i64 0, .int .i64 0, .int .i64 0, .int .i64 0, .int .i64 0, .int .i64 0, .int .i64 0, .int .i64 0, .int .i64 0, .int .i64 0, .int .i64 0]) (blk_put (cs' := #[.int .i64 y0, .int .i64 y1, .int .i64 y2, .int .i64 0, .int .i64 0, .int .i64 0, .int .i64 0, .int .i64 0, .int .i64 0, .int .i64 0, .int .i64 0, .int .i64 0, .int .i64 0, .int .i64 0, .int .i64 0, .int .i64 0]) (blk_put (cs' := #[.int .i64 y0, .int .i64 y1, .int .i64 0, .int .i64 0, .int .i64 0, .int .i64 0, .int .i64 0, .int .i64 0, .int .i64 0, .int .i64 0, .int .i64 0, .int .i64 0, .int .i64 0, .int .i64 0, .int .i64 0, .int .i64 0]) (blk_put (cs' := #[.int .i64 y0, .int .i64 0, .int .i64 0, .int .i64 0, .int .i64 0, .int .i64 0, .int .i64 0, .int .i64 0, .int .i64 0, .int .i64 0, .int .i64 0, .int .i64 0, .int .i64 0, .int .i64 0, .int .i64 0, .int .i64 0]) h 0 _ rfl) 1 _ rfl) 2 _ rfl) 3 _ rfl) 4 _ rfl) 5 _ rfl) 6 _ rfl) 7 _ rfl) 8 _ rfl) 9 _ rfl) 10 _ rfl) 11 _ rfl) 12 _ rfl) 13 _ rfl) 14 _ rfl) 15 _ rfl)
theorem set16_below {w a : World} {g B : Nat} (h : Below B a w) (hg : B ≤ g) (y0 y1 y2 y3 y4 y5 y6 y7 y8 y9 y10 y11 y12 y13 y14 y15 : Int) : Below B a (set16 w g y0 y1 y2 y3 y4 y5 y6 y7 y8 y9 y10 y11 y12 y13 y14 y15) := ((((((((((((((((h.setCell (p := ⟨g, 0, none⟩) hg _).setCell (p := ⟨g, 1, none⟩) hg _).setCell (p := ⟨g, 2, none⟩) hg _).setCell (p := ⟨g, 3, none⟩) hg _).setCell (p := ⟨g, 4, none⟩) hg _).setCell (p := ⟨g, 5, none⟩) hg _).setCell (p := ⟨g, 6, none⟩) hg _).setCell (p := ⟨g, 7, none⟩) hg _).setCell (p := ⟨g, 8, none⟩) hg _).setCell (p := ⟨g, 9, none⟩) hg _).setCell (p := ⟨g, 10, none⟩) hg _).setCell (p := ⟨g, 11, none⟩) hg _).setCell (p := ⟨g, 12, none⟩) hg _).setCell (p := ⟨g, 13, none⟩) hg _).setCell (p := ⟨g, 14, none⟩) hg _).setCell (p := ⟨g, 15, none⟩) hg _)
def tabZ (j : Nat) : Int := ((step4 j : Nat) : Int)
set_option maxHeartbeats 2000000 in
theorem l01Table_calls (w : World) : Calls Try.prog 186 #[] w fun e w' => e = .returned (.agg (tabRow 16)) ∧ Below w.heap.size w w' := by
  go_enter Try.func186, Try.ntmps186
  go_wp2_with fail
  go_loopw [2] (fun v2 wr => ∃ i : Nat, i ≤ 16 ∧ v2 = .int .i64 i ∧ Aside0 (wr.heap[w.heap.size]? = some (.cells (tabRow 0) 221 (0, 0))) ∧ Aside0 (wr.heap[w.heap.size + 1]? = some (.cells (tabRow i) 221 (0, 0))) ∧ Aside0 (Below w.heap.size w wr)) (fun v2 _ => 16 - (intOf v2).toNat)
  case atStart =>
    have h := two_allocs w (.cells (tabRow 0) 221 (0, 0)) (.cells (tabRow 0) 221 (0, 0))
    exact ⟨0, by omega, rfl, ⟨h.1⟩, ⟨h.2.1⟩, ⟨h.2.2⟩⟩
  case round =>
    obtain ⟨i, hi, rfl, HR, HT, HB⟩ := hrel
    by_cases hlt : i < 16
    · have c0 : decide ((i : Int) < 16) = true := decide_eq_true (by omega)
      go_wp2_with fail
      go_loopw [3, 4] (fun v3 v4 w2 => ∃ k : Nat, k ≤ 4 ∧ v3 = .int .i64 ((itN k i : Nat) : Int) ∧ v4 = .int .i64 k ∧ w2 = wr) (fun v3 v4 _ => 4 - (intOf v4).toNat)
      case atStart => exact ⟨0, by omega, rfl, rfl, rfl⟩
      case round =>
        obtain ⟨k, hk, rfl, rfl, rfl⟩ := hrel
        have hx := itN_lt k i (by omega)
        by_cases hk2 : k < 4
        · have c1 : decide ((k : Int) < 4) = true := decide_eq_true (by omega)
          generalize hX : itN k i = x at *
          go_wp2_with fail
          refine ⟨⟨k + 1, by omega, ?_, ?_, trivial⟩, ?_⟩
          · rw [bits_step64 x hx, ← hX]; rfl
          · rfl
          · simp [intOf]; omega
        · have e : k = 4 := by omega
          subst e
          have hs : itN 4 i = step4 i := rfl
          rw [hs] at *
          have hcell : wr.cell? ⟨w.heap.size + 1, i, none⟩ = some (.int .i64 0) := (blk_cell HT.out i).trans (by rw [tabRow_at i hlt]; simp)
          have hfz := blk_frozen HT.out i
          have p1 : (0 ≤ (i : Int)) = True := eq_true (by omega)
          have p2 : ((i : Int) < 16) = True := eq_true (by omega)
          generalize hX : step4 i = x at *
          go_wp2_with fail
          exact ⟨⟨i + 1, by omega, rfl, ⟨blk_far HR.out (by show w.heap.size ≠ w.heap.size + 1; omega) _⟩, ⟨blk_put HT.out i _ (by rw [← hX]; exact tabRow_set i hlt)⟩, ⟨HB.out.setCell (p := ⟨w.heap.size + 1, i, none⟩) (by show w.heap.size ≤ w.heap.size + 1; omega) _⟩⟩, by simp [intOf]; omega⟩
    · have e : i = 16 := by omega
      subst e
      have hc0 := (blk_cell HT.out 0).trans (show (tabRow 16)[0]? = some (.int .i64 (tabZ 0)) from rfl)
      have hc1 := (blk_cell HT.out 1).trans (show (tabRow 16)[1]? = some (.int .i64 (tabZ 1)) from rfl)
      have hc2 := (blk_cell HT.out 2).trans (show (tabRow 16)[2]? = some (.int .i64 (tabZ 2)) from rfl)
      have hc3 := (blk_cell HT.out 3).trans (show (tabRow 16)[3]? = some (.int .i64 (tabZ 3)) from rfl)
      have hc4 := (blk_cell HT.out 4).trans (show (tabRow 16)[4]? = some (.int .i64 (tabZ 4)) from rfl)
      have hc5 := (blk_cell HT.out 5).trans (show (tabRow 16)[5]? = some (.int .i64 (tabZ 5)) from rfl)
      have hc6 := (blk_cell HT.out 6).trans (show (tabRow 16)[6]? = some (.int .i64 (tabZ 6)) from rfl)
      have hc7 := (blk_cell HT.out 7).trans (show (tabRow 16)[7]? = some (.int .i64 (tabZ 7)) from rfl)
      have hc8 := (blk_cell HT.out 8).trans (show (tabRow 16)[8]? = some (.int .i64 (tabZ 8)) from rfl)
      have hc9 := (blk_cell HT.out 9).trans (show (tabRow 16)[9]? = some (.int .i64 (tabZ 9)) from rfl)
      have hc10 := (blk_cell HT.out 10).trans (show (tabRow 16)[10]? = some (.int .i64 (tabZ 10)) from rfl)
      have hc11 := (blk_cell HT.out 11).trans (show (tabRow 16)[11]? = some (.int .i64 (tabZ 11)) from rfl)
      have hc12 := (blk_cell HT.out 12).trans (show (tabRow 16)[12]? = some (.int .i64 (tabZ 12)) from rfl)
      have hc13 := (blk_cell HT.out 13).trans (show (tabRow 16)[13]? = some (.int .i64 (tabZ 13)) from rfl)
      have hc14 := (blk_cell HT.out 14).trans (show (tabRow 16)[14]? = some (.int .i64 (tabZ 14)) from rfl)
      have hc15 := (blk_cell HT.out 15).trans (show (tabRow 16)[15]? = some (.int .i64 (tabZ 15)) from rfl)
      have hf0 := blk_frozen HR.out 0
      have hf1 := blk_frozen HR.out 1
      have hf2 := blk_frozen HR.out 2
      have hf3 := blk_frozen HR.out 3
      have hf4 := blk_frozen HR.out 4
      have hf5 := blk_frozen HR.out 5
      have hf6 := blk_frozen HR.out 6
      have hf7 := blk_frozen HR.out 7
      have hf8 := blk_frozen HR.out 8
      have hf9 := blk_frozen HR.out 9
      have hf10 := blk_frozen HR.out 10
      have hf11 := blk_frozen HR.out 11
      have hf12 := blk_frozen HR.out 12
      have hf13 := blk_frozen HR.out 13
      have hf14 := blk_frozen HR.out 14
      have hf15 := blk_frozen HR.out 15
      have hd0 := (blk_cell HR.out 0).trans (show (tabRow 0)[0]? = some (.int .i64 0) from rfl)
      have hd1 := (blk_cell HR.out 1).trans (show (tabRow 0)[1]? = some (.int .i64 0) from rfl)
      have hd2 := (blk_cell HR.out 2).trans (show (tabRow 0)[2]? = some (.int .i64 0) from rfl)
      have hd3 := (blk_cell HR.out 3).trans (show (tabRow 0)[3]? = some (.int .i64 0) from rfl)
      have hd4 := (blk_cell HR.out 4).trans (show (tabRow 0)[4]? = some (.int .i64 0) from rfl)
      have hd5 := (blk_cell HR.out 5).trans (show (tabRow 0)[5]? = some (.int .i64 0) from rfl)
      have hd6 := (blk_cell HR.out 6).trans (show (tabRow 0)[6]? = some (.int .i64 0) from rfl)
      have hd7 := (blk_cell HR.out 7).trans (show (tabRow 0)[7]? = some (.int .i64 0) from rfl)
      have hd8 := (blk_cell HR.out 8).trans (show (tabRow 0)[8]? = some (.int .i64 0) from rfl)
      have hd9 := (blk_cell HR.out 9).trans (show (tabRow 0)[9]? = some (.int .i64 0) from rfl)
      have hd10 := (blk_cell HR.out 10).trans (show (tabRow 0)[10]? = some (.int .i64 0) from rfl)
      have hd11 := (blk_cell HR.out 11).trans (show (tabRow 0)[11]? = some (.int .i64 0) from rfl)
      have hd12 := (blk_cell HR.out 12).trans (show (tabRow 0)[12]? = some (.int .i64 0) from rfl)
      have hd13 := (blk_cell HR.out 13).trans (show (tabRow 0)[13]? = some (.int .i64 0) from rfl)
      have hd14 := (blk_cell HR.out 14).trans (show (tabRow 0)[14]? = some (.int .i64 0) from rfl)
      have hd15 := (blk_cell HR.out 15).trans (show (tabRow 0)[15]? = some (.int .i64 0) from rfl)
      have hy : tabRow 16 = #[.int .i64 (tabZ 0), .int .i64 (tabZ 1), .int .i64 (tabZ 2), .int .i64 (tabZ 3), .int .i64 (tabZ 4), .int .i64 (tabZ 5), .int .i64 (tabZ 6), .int .i64 (tabZ 7), .int .i64 (tabZ 8), .int .i64 (tabZ 9), .int .i64 (tabZ 10), .int .i64 (tabZ 11), .int .i64 (tabZ 12), .int .i64 (tabZ 13), .int .i64 (tabZ 14), .int .i64 (tabZ 15)] := rfl
      generalize tabZ 0 = y0 at *
      generalize tabZ 1 = y1 at *
      generalize tabZ 2 = y2 at *
      generalize tabZ 3 = y3 at *
      generalize tabZ 4 = y4 at *
      generalize tabZ 5 = y5 at *
      generalize tabZ 6 = y6 at *
      generalize tabZ 7 = y7 at *
      generalize tabZ 8 = y8 at *
      generalize tabZ 9 = y9 at *
      generalize tabZ 10 = y10 at *
      generalize tabZ 11 = y11 at *
      generalize tabZ 12 = y12 at *
      generalize tabZ 13 = y13 at *
      generalize tabZ 14 = y14 at *
      generalize tabZ 15 = y15 at *
      have HY := Aside0.mk hy
      clear hy
      go_wp2_with fail
      change bodyPost _ _ _ _ _ (set16 wr w.heap.size y0 y1 y2 y3 y4 y5 y6 y7 y8 y9 y10 y11 y12 y13 y14 y15)
      have BF := Aside0.mk (set16_blk HR.out y0 y1 y2 y3 y4 y5 y6 y7 y8 y9 y10 y11 y12 y13 y14 y15)
      have HB2 := Aside0.mk (set16_below HB.out (Nat.le_refl _) y0 y1 y2 y3 y4 y5 y6 y7 y8 y9 y10 y11 y12 y13 y14 y15)
      generalize set16 wr w.heap.size y0 y1 y2 y3 y4 y5 y6 y7 y8 y9 y10 y11 y12 y13 y14 y15 = W at BF HB2 ⊢
      refine bodyPost_ret (results_cell_row rfl _ _ w.heap.size 221 #[.int .i64 y0, .int .i64 y1, .int .i64 y2, .int .i64 y3, .int .i64 y4, .int .i64 y5, .int .i64 y6, .int .i64 y7, .int .i64 y8, .int .i64 y9, .int .i64 y10, .int .i64 y11, .int .i64 y12, .int .i64 y13, .int .i64 y14, .int .i64 y15] (0, 0) _ rfl BF.out Try.underlying221 rfl (by kernel_rfl)) rfl ?_
      exact ⟨by rw [HY.out], HB2.out⟩
end Go.Proofs.Ytenfomejccfkgaa.X
namespace Go.Proofs.Ytenfomejccfkgaa.X
open Go.RowKit Go.Proofs.YtenfomejccfkgaaW.PrintWords Go.Proofs.YtenfomejccfkgaaW.PrintLast Go.Proofs.YtenfomejccfkgaaW.PrintMore
attribute [local go_sem] xbin_geq xbin_leq xbin_gtr max2_int min2_int max_two min_two max_three min_three max_four min_four
set_option linter.unusedVariables false
set_option linter.unusedSimpArgs false
set_option maxRecDepth 100000
theorem crcF_take (l : List Int) (k : Nat) (h : k < l.length) (r : Nat) : crcF r (l.take (k + 1)) = step8 (crcF r (l.take k) ^^^ (rd l (k : Int)).toNat) := by
  have e : rd l (k : Int) = l[k] := by unfold rd; rw [Int.toNat_natCast]; simp [List.getD_eq_getElem?_getD, h]
  rw [List.take_succ_eq_append_getElem h, crcF_append, e]
  rfl
theorem nib_lt {x c : Nat} (h : x < 4294967296) : nib x c < 4294967296 := by
  unfold nib
  exact Nat.xor_lt_two_pow (n := 32) (by omega) (step4_lt (by omega))
theorem idx_bits (x c : Nat) (h : x < 4294967296) (hc : c < 256) : bits .and .i64 (bits .xor .i64 (x : Int) (c : Int)) 15 = (((x ^^^ c) % 16 : Nat) : Int) := by
  have hx : x ^^^ c < 4294967296 := Nat.xor_lt_two_pow (n := 32) h (by omega)
  rw [i64_xor_nat _ _ (by omega) (by omega)]
  have := i64_and_nat (x ^^^ c) 15 (by omega) (by decide)
  rw [show (15 : Nat) = 2 ^ 4 - 1 from rfl, Nat.and_two_pow_sub_one_eq_mod] at this
  exact this
theorem nib_bits (x c : Nat) (h : x < 4294967296) : bits .xor .i64 ((x : Int) / 16) (tabZ ((x ^^^ c) % 16)) = ((nib x c : Nat) : Int) := by
  have e : (x : Int) / 16 = ((x / 16 : Nat) : Int) := by omega
  have h4 : step4 ((x ^^^ c) % 16) < 4294967296 := step4_lt (by omega)
  unfold tabZ
  rw [e, i64_xor_nat _ _ (by omega) (by omega)]
  rfl
def spec_l01Check.f (l0 : List Int) : Option Int := if (∀ c, c ∈ l0 → 0 ≤ c ∧ c < 256) then some (sumOf32 l0) else none
set_option maxHeartbeats 2000000 in
theorem spec_l01Check.calls (A0 : Option Addr) (c0 : Nat) (l0 : List Int) (r : Int) (w : World) (hr0 : Kd.C (Kd.int .u8) w A0 l0.length l0) (hc0 : l0.length ≤ c0) (h : spec_l01Check.f l0 = some r) :
    Calls Try.prog 163 #[.slice A0 l0.length c0] w fun e w' => e = .returned (.int .i64 r) ∧ Below w.heap.size w w' := by
  unfold spec_l01Check.f at h
  by_cases hb : ∀ c, c ∈ l0 → 0 ≤ c ∧ c < 256
  · rw [if_pos hb] at h
    obtain rfl := Option.some.inj h
    clear h
    have hm : l0.length ≤ 9223372036854775807 := hr0.2.1
    have HR := Aside0.mk hr0
    have HY := Aside0.mk hb
    clear hr0 hb
    have hy : tabRow 16 = #[.int .i64 (tabZ 0), .int .i64 (tabZ 1), .int .i64 (tabZ 2), .int .i64 (tabZ 3), .int .i64 (tabZ 4), .int .i64 (tabZ 5), .int .i64 (tabZ 6), .int .i64 (tabZ 7), .int .i64 (tabZ 8), .int .i64 (tabZ 9), .int .i64 (tabZ 10), .int .i64 (tabZ 11), .int .i64 (tabZ 12), .int .i64 (tabZ 13), .int .i64 (tabZ 14), .int .i64 (tabZ 15)] := rfl
    generalize tabZ 0 = y0 at *
    generalize tabZ 1 = y1 at *
    generalize tabZ 2 = y2 at *
    generalize tabZ 3 = y3 at *
    generalize tabZ 4 = y4 at *
    generalize tabZ 5 = y5 at *
    generalize tabZ 6 = y6 at *
    generalize tabZ 7 = y7 at *
    generalize tabZ 8 = y8 at *
    generalize tabZ 9 = y9 at *
    generalize tabZ 10 = y10 at *
    generalize tabZ 11 = y11 at *
    generalize tabZ 12 = y12 at *
    generalize tabZ 13 = y13 at *
    generalize tabZ 14 = y14 at *
    generalize tabZ 15 = y15 at *
    have HT := Aside0.mk hy
    clear hy
    go_enter Try.func163, Try.ntmps163
    go_wp2_with fail
    refine (l01Table_calls w).mono ?_
    rintro e w1 ⟨rfl, hb1⟩
    rw [HT.out]
    go_wp2_with fail
    have HG := Aside0.mk (show (w1.alloc (.cells #[.int .i64 y0, .int .i64 y1, .int .i64 y2, .int .i64 y3, .int .i64 y4, .int .i64 y5, .int .i64 y6, .int .i64 y7, .int .i64 y8, .int .i64 y9, .int .i64 y10, .int .i64 y11, .int .i64 y12, .int .i64 y13, .int .i64 y14, .int .i64 y15] 221 (0, 0))).heap[w1.heap.size]? = some (.cells (tabRow 16) 221 (0, 0)) from by rw [HT.out]; exact blk_new _ _)
    have HB := Aside0.mk (show Below w.heap.size w (w1.alloc (.cells #[.int .i64 y0, .int .i64 y1, .int .i64 y2, .int .i64 y3, .int .i64 y4, .int .i64 y5, .int .i64 y6, .int .i64 y7, .int .i64 y8, .int .i64 y9, .int .i64 y10, .int .i64 y11, .int .i64 y12, .int .i64 y13, .int .i64 y14, .int .i64 y15] 221 (0, 0))) from hb1.alloc (below_size hb1) _)
    generalize w1.alloc (.cells #[.int .i64 y0, .int .i64 y1, .int .i64 y2, .int .i64 y3, .int .i64 y4, .int .i64 y5, .int .i64 y6, .int .i64 y7, .int .i64 y8, .int .i64 y9, .int .i64 y10, .int .i64 y11, .int .i64 y12, .int .i64 y13, .int .i64 y14, .int .i64 y15] 221 (0, 0)) = w2 at HG HB ⊢
    generalize w1.heap.size = g at HG ⊢
    clear hb1
    go_loopw [4, 5] (fun v4 v5 wr => ∃ k : Nat, k ≤ l0.length ∧ v4 = .int .i64 ((crcF 4294967295 (l0.take k) : Nat) : Int) ∧ v5 = .int .i64 k ∧ wr = w2) (fun v4 v5 _ => l0.length - (intOf v5).toNat)
    case atStart => exact ⟨0, Nat.zero_le _, rfl, rfl, rfl⟩
    case round =>
      obtain ⟨k, hk, rfl, rfl, rfl⟩ := hrel
      have hxl : crcF 4294967295 (l0.take k) < 4294967296 := crcF_lt _ _ (by decide) fun c hc => HY.out c (List.mem_of_mem_take hc)
      by_cases hlt : k < l0.length
      · have c1 : decide ((k : Int) < (l0.length : Int)) = true := decide_eq_true (by omega)
        have p1 : 0 ≤ (k : Int) := by omega
        have q1 : (k : Int) < (l0.length : Int) := by omega
        obtain ⟨ad, e, hx⟩ := Kd.at_int HR.out (k : Int) p1 q1
        cases e
        have hmem : rd l0 (k : Int) ∈ l0 := by
          have e : rd l0 (k : Int) = l0[k] := by unfold rd; rw [Int.toNat_natCast]; simp [List.getD_eq_getElem?_getD, hlt]
          rw [e]; exact List.getElem_mem hlt
        have hbyte := HY.out _ hmem
        have hstep := crcF_take l0 k hlt 4294967295
        obtain ⟨c, hc⟩ : ∃ c : Nat, rd l0 (k : Int) = (c : Int) := ⟨(rd l0 (k : Int)).toNat, by omega⟩
        rw [hc] at hx hbyte hstep
        rw [Int.toNat_natCast] at hx hstep
        have hc2 : c < 256 := by omega
        rw [step8_nib _ _ hc2] at hstep
        replace hx := (HB.out.cell (World.block_lt_of_cell? w _ hx)).trans hx
        have HS := Aside0.mk hstep
        clear hstep hbyte hmem
        generalize crcF 4294967295 (l0.take k) = x at hxl HS ⊢
        replace p1 := eq_true p1
        replace q1 := eq_true q1
        have hn1 : nib x c < 4294967296 := nib_lt hxl
        have hn2 : nib (nib x c) (c / 16) < 4294967296 := nib_lt hn1
        have e1 := idx_bits x c hxl (by omega)
        have e2 := nib_bits x c hxl
        have ed : (c : Int) / 16 = ((c / 16 : Nat) : Int) := by omega
        have e3 := idx_bits (nib x c) (c / 16) hn1 (by omega)
        have e4 := nib_bits (nib x c) (c / 16) hn1
        have y16 : (x ^^^ c) % 16 < 16 := Nat.mod_lt _ (by decide)
        have z16 : (nib x c ^^^ (c / 16)) % 16 < 16 := Nat.mod_lt _ (by decide)
        have hcy : wr.cell? ⟨g, (x ^^^ c) % 16, none⟩ = some (.int .i64 (tabZ ((x ^^^ c) % 16))) := (blk_cell HG.out _).trans (by rw [tabRow_at _ y16, if_pos y16]; rfl)
        have hcz : wr.cell? ⟨g, (nib x c ^^^ (c / 16)) % 16, none⟩ = some (.int .i64 (tabZ ((nib x c ^^^ (c / 16)) % 16))) := (blk_cell HG.out _).trans (by rw [tabRow_at _ z16, if_pos z16]; rfl)
        generalize nib (nib x c) (c / 16) = n2 at *
        generalize nib x c = n1 at *
        generalize c / 16 = d at *
        generalize (x ^^^ c) % 16 = y at *
        generalize (n1 ^^^ d) % 16 = z at *
        generalize tabZ y = ty at *
        generalize tabZ z = tz at *
        have r1 : (0 ≤ (y : Int)) = True := eq_true (by omega)
        have r2 : ((y : Int) < 16) = True := eq_true (by omega)
        have r3 : (0 ≤ (z : Int)) = True := eq_true (by omega)
        have r4 : ((z : Int) < 16) = True := eq_true (by omega)
        go_wp2_with fail
        exact ⟨⟨k + 1, by omega, by rw [HS.out], rfl, trivial⟩, by simp [intOf]; omega⟩
      · have e : k = l0.length := by omega
        have c1 : decide ((k : Int) < (l0.length : Int)) = false := decide_eq_false (by omega)
        have e9 : crcF 4294967295 (l0.take k) = crcF 4294967295 l0 := by rw [e, List.take_length]
        rw [e9] at hxl ⊢
        have e1 : bits .xor .i64 ((crcF 4294967295 l0 : Nat) : Int) 4294967295 = sumOf32 l0 := by
          have := i64_xor_nat (crcF 4294967295 l0) 4294967295 (by omega) (by decide)
          rw [Nat.xor_comm] at this
          exact this
        generalize hS : sumOf32 l0 = s at e1
        generalize crcF 4294967295 l0 = x at e1 ⊢
        go_wp2_with fail
        go_ret
        exact ⟨by rw [hS]; rfl, HB.out⟩
  · rw [if_neg hb] at h
    cases h
end Go.Proofs.Ytenfomejccfkgaa.X
namespace Go.Proofs.Ytenfomejccfkgaa.X
open Go.RowKit Go.Proofs.YtenfomejccfkgaaW.PrintWords Go.Proofs.YtenfomejccfkgaaW.PrintLast Go.Proofs.YtenfomejccfkgaaW.PrintMore
attribute [local go_sem] xbin_geq xbin_leq xbin_gtr max2_int min2_int max_two min_two max_three min_three max_four min_four
set_option linter.unusedVariables false
set_option linter.unusedSimpArgs false
theorem bytesOf_byte (s : ByteArray) : ∀ c, c ∈ bytesOf s → isByte c := by
  intro c hc
  unfold bytesOf at hc
  obtain ⟨b, _, rfl⟩ := List.mem_map.1 hc
  have := b.toNat_lt
  exact ⟨by omega, by omega⟩
def impl_sumOf.f (a0 : ByteArray) : Option Int := if a0.size ≤ 1000000000 then some (sumOf32 (bytesOf a0)) else none
set_option maxRecDepth 100000 in
set_option maxHeartbeats 2000000 in
theorem impl_sumOf.calls (a0 : ByteArray) (r : Int) (w : World) (h : impl_sumOf.f a0 = some r) :
    Calls Try.prog 165 #[.string a0] w fun e w' => e = .returned (.int .i64 r) ∧ Below w.heap.size w w' := by
  unfold impl_sumOf.f at h
  by_cases hs : a0.size ≤ 1000000000
  · rw [if_pos hs] at h
    obtain rfl := Option.some.inj h
    clear h
    obtain ⟨K, hK⟩ := impl_crc_is (bytesOf a0) (by rw [bytesOf_length]; omega) (bytesOf_byte a0)
    have hK2 := Aside0.mk (hK K (Nat.le_refl _))
    clear hK
    have kb := fun W => print_bytes (P := Try.prog) 9 52 5 Try.underlying9 Try.underlying52 Try.underlying5 a0 W
    go_enter Try.func165, Try.ntmps165
    go_wp2_with fail
    have hc : Kd.C (Kd.int .u8) (Lib.bytesWorld w 5 a0) (some ⟨w.heap.size, 0, none⟩) (bytesOf a0).length (bytesOf a0) := by
      rw [bytesOf_length]
      exact Kd.C_of_reads (bytes_reads w 5 a0 (by omega))
    have hl : (bytesOf a0).length ≤ grownCap w a0.size 0 5 := by rw [bytesOf_length]; exact grownCap_ge _ _ _ _
    have hq := impl_crc.calls K _ _ _ _ _ hc hl hK2.out
    rw [bytesOf_length] at hq
    refine hq.mono ?_
    rintro e w1 ⟨rfl, hd⟩
    go_wp2_with fail
    go_ret
    exact ⟨rfl, (bytes_below (Below.refl _ w) (Nat.le_refl _) _ a0).trans (by have := hd.below; exact this.mono (by rw [Lib.bytesWorld_size]; omega))⟩
  · rw [if_neg hs] at h
    cases h
end Go.Proofs.Ytenfomejccfkgaa.X
