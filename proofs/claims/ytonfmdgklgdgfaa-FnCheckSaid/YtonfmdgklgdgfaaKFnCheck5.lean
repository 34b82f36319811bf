import Derived.Test.YtonfmdgklgdgfaaKFnCheck4
import Derived.Laws.BitsAllLaws
import Derived.Laws.BitsLemmas
import Derived.LoopTactic
import Derived.BigQuiet
namespace Go.Proofs.Ytonfmdgklgdgfaa.X
open Go.RowKit Go.Proofs.YtonfmdgklgdgfaaW.PrintWords Go.Proofs.YtonfmdgklgdgfaaW.PrintLast Go.Proofs.YtonfmdgklgdgfaaW.PrintMore
attribute [local go_sem] xbin_geq xbin_leq xbin_gtr max2_int min2_int max_two min_two max_three min_three max_four min_four
set_option linter.unusedVariables false
set_option linter.unusedSimpArgs false
def stepN (x : Nat) : Nat := (x / 2) ^^^ (3988292384 * (x % 2))
def step4 (x : Nat) : Nat := stepN (stepN (stepN (stepN x)))
def step8 (x : Nat) : Nat := step4 (step4 x)
def nib (r x : Nat) : Nat := (r / 16) ^^^ step4 ((r ^^^ x) % 16)
def crcF (r : Nat) : List Int → Nat
  | [] => r
  | c :: l => crcF (step8 (r ^^^ c.toNat)) l
theorem stepN_xor (x y : Nat) : stepN (x ^^^ y) = stepN x ^^^ stepN y := by
  unfold stepN
  have e : (x ^^^ y) % 2 = (x % 2) ^^^ (y % 2) := Nat.xor_mod_two_pow (n := 1)
  rw [Nat.xor_div_two, e]
  rcases Nat.mod_two_eq_zero_or_one x with hx | hx <;> rcases Nat.mod_two_eq_zero_or_one y with hy | hy <;> rw [hx, hy]
  · simp
  · simp [Nat.xor_assoc]
  · simp only [Nat.mul_one, Nat.mul_zero, Nat.xor_zero]
    rw [Nat.xor_assoc, Nat.xor_assoc, Nat.xor_comm (y / 2)]
  · simp only [Nat.mul_one, Nat.mul_zero, Nat.xor_zero, Nat.xor_self]
    rw [Nat.xor_assoc, Nat.xor_comm 3988292384, Nat.xor_assoc, Nat.xor_self, Nat.xor_zero]
theorem step4_xor (x y : Nat) : step4 (x ^^^ y) = step4 x ^^^ step4 y := by
  unfold step4
  simp only [stepN_xor]
theorem stepN_even (y : Nat) : stepN (2 * y) = y := by
  unfold stepN
  rw [show 2 * y / 2 = y by omega, show 2 * y % 2 = 0 by omega]
  simp
theorem step4_high (q : Nat) : step4 (16 * q) = q := by
  unfold step4
  rw [show 16 * q = 2 * (2 * (2 * (2 * q))) by omega, stepN_even, stepN_even, stepN_even, stepN_even]
theorem split16 (r : Nat) : r = (16 * (r / 16)) ^^^ (r % 16) := by
  have hs : r % 16 < 2 ^ 4 := by omega
  have e : r = 2 ^ 4 * (r / 16) + r % 16 := by omega
  have e2 : 16 * (r / 16) = 2 ^ 4 * (r / 16) := by omega
  rw [e2]
  refine Nat.eq_of_testBit_eq fun j => ?_
  rw [Nat.testBit_xor, Nat.testBit_two_pow_mul]
  conv => lhs; rw [e, Nat.testBit_two_pow_mul_add _ hs]
  by_cases hj : j < 4
  · simp [hj, show ¬ 4 ≤ j by omega]
  · have hz : (r % 16).testBit j = false := Nat.testBit_lt_two_pow (Nat.lt_of_lt_of_le hs (Nat.pow_le_pow_right (by omega) (by omega)))
    rw [hz]
    simp [hj, show 4 ≤ j by omega]
theorem step4_is (r : Nat) : step4 r = (r / 16) ^^^ step4 (r % 16) := by
  conv => lhs; rw [split16 r]
  rw [step4_xor, step4_high]
theorem xor_div16 (a b : Nat) : (a ^^^ b) / 16 = a / 16 ^^^ b / 16 := Nat.xor_div_two_pow (n := 4)
theorem step8_nib (r c : Nat) (hc : c < 256) : step8 (r ^^^ c) = nib (nib r c) (c / 16) := by
  have h1 : step4 (r ^^^ c) = nib r c ^^^ c / 16 := by
    rw [step4_is, xor_div16]
    unfold nib
    rw [Nat.xor_assoc, Nat.xor_assoc, Nat.xor_comm (c / 16)]
  unfold step8
  rw [h1, step4_is, xor_div16, show c / 16 / 16 = 0 by omega, Nat.xor_zero]
  rfl
theorem stepN_lt {x : Nat} (h : x < 4294967296) : stepN x < 4294967296 := by
  unfold stepN
  refine Nat.xor_lt_two_pow (n := 32) (by omega) ?_
  rcases Nat.mod_two_eq_zero_or_one x with hx | hx <;> rw [hx] <;> decide
theorem step4_lt {x : Nat} (h : x < 4294967296) : step4 x < 4294967296 := stepN_lt (stepN_lt (stepN_lt (stepN_lt h)))
theorem step8_lt {x : Nat} (h : x < 4294967296) : step8 x < 4294967296 := step4_lt (step4_lt h)
theorem stepN_zero {z : Nat} (h : z < 4294967296) (e : stepN z = 0) : z = 0 := by
  unfold stepN at e
  have e2 : z / 2 = 3988292384 * (z % 2) := by
    have := congrArg (· ^^^ (3988292384 * (z % 2))) e
    simpa [Nat.xor_assoc, Nat.xor_self] using this
  rcases Nat.mod_two_eq_zero_or_one z with hx | hx <;> rw [hx] at e2 <;> omega
theorem stepN_inj {x y : Nat} (hx : x < 4294967296) (hy : y < 4294967296) (e : stepN x = stepN y) : x = y := by
  have h1 : stepN (x ^^^ y) = 0 := by rw [stepN_xor, e, Nat.xor_self]
  have h2 := stepN_zero (Nat.xor_lt_two_pow (n := 32) hx hy) h1
  have h3 := congrArg (· ^^^ y) h2
  simpa [Nat.xor_assoc, Nat.xor_self] using h3
theorem step8_inj {x y : Nat} (hx : x < 4294967296) (hy : y < 4294967296) (e : step8 x = step8 y) : x = y := by
  unfold step8 step4 at e
  have b := fun {z : Nat} (h : z < 4294967296) => stepN_lt h
  exact stepN_inj hx hy (stepN_inj (b hx) (b hy) (stepN_inj (b (b hx)) (b (b hy)) (stepN_inj (b (b (b hx))) (b (b (b hy))) (stepN_inj (b (b (b (b hx)))) (b (b (b (b hy)))) (stepN_inj (b (b (b (b (b hx))))) (b (b (b (b (b hy))))) (stepN_inj (b (b (b (b (b (b hx)))))) (b (b (b (b (b (b hy)))))) (stepN_inj (b (b (b (b (b (b (b hx))))))) (b (b (b (b (b (b (b hy))))))) e)))))))
def isByte (c : Int) : Prop := 0 ≤ c ∧ c < 256
theorem xor_byte_lt {r : Nat} (h : r < 4294967296) {c : Int} (hc : isByte c) : r ^^^ c.toNat < 4294967296 := Nat.xor_lt_two_pow (n := 32) h (by have := hc.1; have := hc.2; omega)
theorem crcF_lt (l : List Int) : ∀ r, r < 4294967296 → (∀ c, c ∈ l → isByte c) → crcF r l < 4294967296 := by
  induction l with
  | nil => intro r h _; exact h
  | cons c l ih => intro r h hl; exact ih _ (step8_lt (xor_byte_lt h (hl c List.mem_cons_self))) fun x hx => hl x (List.mem_cons_of_mem _ hx)
theorem crcF_inj (l : List Int) : ∀ r s, r < 4294967296 → s < 4294967296 → (∀ c, c ∈ l → isByte c) → crcF r l = crcF s l → r = s := by
  induction l with
  | nil => intro r s _ _ _ e; exact e
  | cons c l ih =>
    intro r s hr hs hl e
    have hc := hl c List.mem_cons_self
    have h1 := ih _ _ (step8_lt (xor_byte_lt hr hc)) (step8_lt (xor_byte_lt hs hc)) (fun x hx => hl x (List.mem_cons_of_mem _ hx)) e
    have h2 := step8_inj (xor_byte_lt hr hc) (xor_byte_lt hs hc) h1
    have h3 := congrArg (· ^^^ c.toNat) h2
    simpa [Nat.xor_assoc, Nat.xor_self] using h3
theorem crcF_append (l m : List Int) : ∀ r, crcF r (l ++ m) = crcF (crcF r l) m := by
  induction l with
  | nil => intro r; rfl
  | cons c l ih => intro r; exact ih _
theorem crcF_differs (pre rest : List Int) (c d : Int) (r : Nat) (hr : r < 4294967296) (hp : ∀ x, x ∈ pre → isByte x) (hq : ∀ x, x ∈ rest → isByte x) (hc : isByte c) (hd : isByte d) (hne : c ≠ d) : crcF r (pre ++ c :: rest) ≠ crcF r (pre ++ d :: rest) := by
  intro e
  rw [crcF_append, crcF_append] at e
  have hr2 := crcF_lt pre r hr hp
  have h1 := crcF_inj rest _ _ (step8_lt (xor_byte_lt hr2 hc)) (step8_lt (xor_byte_lt hr2 hd)) hq e
  have h2 := step8_inj (xor_byte_lt hr2 hc) (xor_byte_lt hr2 hd) h1
  have h3 := congrArg (crcF r pre ^^^ ·) h2
  simp only [← Nat.xor_assoc, Nat.xor_self, Nat.zero_xor] at h3
  have := hc.1
  have := hd.1
  omega
def sumOf32 (l : List Int) : Int := ((4294967295 ^^^ crcF 4294967295 l : Nat) : Int)
theorem bits_step (n : Nat) (h : n < 4294967296) : Go.bits .xor .u32 ((n : Int) / 2) ((3988292384 * (Go.bits .and .u32 (n : Int) 1)) % 4294967296) = ((stepN n : Nat) : Int) := by
  have e1 : Go.bits .and .u32 (n : Int) 1 = ((n % 2 : Nat) : Int) := by
    have := u32_and_nat n 1 h (by decide)
    rw [Nat.and_one_is_mod] at this
    exact this
  rw [e1]
  have e2 : (3988292384 * ((n % 2 : Nat) : Int)) % 4294967296 = ((3988292384 * (n % 2) : Nat) : Int) := by
    rcases Nat.mod_two_eq_zero_or_one n with hx | hx <;> rw [hx] <;> decide
  have e3 : (n : Int) / 2 = ((n / 2 : Nat) : Int) := by omega
  rw [e2, e3, u32_xor_nat _ _ (by omega) (by rcases Nat.mod_two_eq_zero_or_one n with hx | hx <;> rw [hx] <;> decide)]
  rfl
def stepTimes : Nat → Nat → Nat
  | 0, x => x
  | d + 1, x => stepTimes d (stepN x)
theorem crc_inner (l : List Int) (n : Int) (i : Int) (d : Nat) : ∀ (x : Nat) (j : Nat) (R : Int), j + d = 8 → x < 4294967296 → Ev (fun k => impl_crc.l0 k ((stepTimes d x : Nat) : Int) l n (wrap64 (i + 1))) R → Ev (fun k => impl_crc.l1 k (x : Int) l n i (j : Int)) R := by
  induction d with
  | zero =>
    intro x j R hj _ h
    refine Ev.succ ?_
    simp only [impl_crc.l1]
    exact Ev.neg (by omega) h
  | succ d ih =>
    intro x j R hj hx h
    refine Ev.succ ?_
    simp only [impl_crc.l1, bits_step x hx, wrap_at (n := j) (by omega)]
    exact Ev.pos (by omega) (ih _ (j + 1) R (by omega) (stepN_lt hx) h)
theorem crc_outer (l : List Int) (hl : l.length < 9223372036854775807) (rest : List Int) : ∀ (pre : List Int) (r : Nat), l = pre ++ rest → r < 4294967296 → (∀ c, c ∈ rest → isByte c) →
    Ev (fun k => impl_crc.l0 k (r : Int) l (l.length : Int) ((pre.length : Nat) : Int)) ((4294967295 ^^^ crcF r rest : Nat) : Int) := by
  induction rest with
  | nil =>
    intro pre r h hr _
    refine Ev.succ ?_
    simp only [impl_crc.l0]
    have hx : 4294967295 ^^^ r < 4294967296 := Nat.xor_lt_two_pow (n := 32) (by decide) hr
    have e1 : Go.bits .xor .u32 IntKind.u32.max (r : Int) = ((4294967295 ^^^ r : Nat) : Int) := u32_xor_nat 4294967295 r (by decide) hr
    exact Ev.neg (by rw [h]; simp) (Ev.is (by rw [e1, wrap_id (by omega) (by omega)]; rfl))
  | cons c m ih =>
    intro pre r h hr hb
    have hc := hb c List.mem_cons_self
    have hlen : pre.length < l.length := by rw [h]; simp
    have hx : rd l ((pre.length : Nat) : Int) = c := by rw [h]; simp [rd, List.getD_eq_getElem?_getD]
    have hi := ih (pre ++ [c]) (step8 (r ^^^ c.toNat)) (by rw [h]; simp) (step8_lt (xor_byte_lt hr hc)) fun x hx => hb x (List.mem_cons_of_mem _ hx)
    rw [← len_snoc] at hi
    have e1 : Go.bits .xor .u32 (r : Int) (c % 4294967296) = ((r ^^^ c.toNat : Nat) : Int) := by
      have h1 := hc.1
      have h2 := hc.2
      have e : c % 4294967296 = ((c.toNat : Nat) : Int) := by omega
      rw [e, u32_xor_nat _ _ hr (by omega)]
    refine Ev.succ ?_
    simp only [impl_crc.l0, hx, e1]
    refine Ev.pos (by omega) (Ev.pos (by omega) (Ev.pos (by omega) ?_))
    refine crc_inner l _ _ 8 _ 0 _ rfl (xor_byte_lt hr hc) ?_
    rw [wrap_at (n := pre.length) (by omega)]
    exact hi
theorem impl_crc_is (l : List Int) (hl : l.length < 9223372036854775807) (hb : ∀ c, c ∈ l → isByte c) : Ev (fun k => impl_crc.f k l) (sumOf32 l) := by
  unfold impl_crc.f
  exact crc_outer l hl l [] 4294967295 rfl (by decide) hb
end Go.Proofs.Ytonfmdgklgdgfaa.X
namespace Go.Proofs.Ytonfmdgklgdgfaa.X
open Go.RowKit Go.Proofs.YtonfmdgklgdgfaaW.PrintWords Go.Proofs.YtonfmdgklgdgfaaW.PrintLast Go.Proofs.YtonfmdgklgdgfaaW.PrintMore
attribute [local go_sem] xbin_geq xbin_leq xbin_gtr max2_int min2_int max_two min_two max_three min_three max_four min_four
set_option linter.unusedVariables false
set_option linter.unusedSimpArgs false
set_option maxRecDepth 100000
def tabRow (i : Nat) : Array Value := ((List.range 16).map fun j => Value.int .i64 (if j < i then ((step4 j : Nat) : Int) else 0)).toArray
def itN : Nat → Nat → Nat
  | 0, x => x
  | k + 1, x => stepN (itN k x)
theorem itN_lt (k x : Nat) (h : x < 4294967296) : itN k x < 4294967296 := by
  induction k with
  | zero => exact h
  | succ k ih => exact stepN_lt ih
theorem i64_xor_nat (a b : Nat) (ha : a < 9223372036854775808) (hb : b < 9223372036854775808) : bits .xor .i64 (a : Int) (b : Int) = ((a ^^^ b : Nat) : Int) := by
  have h := Nat.xor_lt_two_pow (n := 63) ha hb
  show IntKind.i64.wrap ((BitVec.ofInt 64 (a : Int) ^^^ BitVec.ofInt 64 (b : Int)).toNat : Nat) = _
  rw [BitVec.toNat_xor, ofInt_u64 a (by omega), ofInt_u64 b (by omega), IntKind.wrap_i64]
  omega
theorem i64_and_nat (a b : Nat) (ha : a < 9223372036854775808) (hb : b < 9223372036854775808) : bits .and .i64 (a : Int) (b : Int) = ((a &&& b : Nat) : Int) := by
  have h := Nat.and_lt_two_pow a (n := 63) hb
  show IntKind.i64.wrap ((BitVec.ofInt 64 (a : Int) &&& BitVec.ofInt 64 (b : Int)).toNat : Nat) = _
  rw [BitVec.toNat_and, ofInt_u64 a (by omega), ofInt_u64 b (by omega), IntKind.wrap_i64]
  omega
theorem bits_step64 (n : Nat) (h : n < 4294967296) : bits .xor .i64 ((n : Int) / 2) (wrap64 (bits .and .i64 (n : Int) 1 * 3988292384)) = ((stepN n : Nat) : Int) := by
  have e1 : bits .and .i64 (n : Int) 1 = ((n % 2 : Nat) : Int) := by
    have := i64_and_nat n 1 (by omega) (by decide)
    rw [Nat.and_one_is_mod] at this
    exact this
  rw [e1]
  have e2 : wrap64 (((n % 2 : Nat) : Int) * 3988292384) = ((3988292384 * (n % 2) : Nat) : Int) := by
    have h1 : n % 2 ≤ 1 := by omega
    rw [wrap_id (by omega) (by omega)]
    omega
  have e3 : (n : Int) / 2 = ((n / 2 : Nat) : Int) := by omega
  rw [e2, e3, i64_xor_nat _ _ (by omega) (by rcases Nat.mod_two_eq_zero_or_one n with hx | hx <;> rw [hx] <;> decide)]
  rfl
theorem tabRow_at (i : Nat) (h : i < 16) (j : Nat) : (tabRow j)[i]? = some (.int .i64 (if i < j then ((step4 i : Nat) : Int) else 0)) := by
  unfold tabRow
  simp [h]
theorem tabRow_size (j : Nat) : (tabRow j).size = 16 := by unfold tabRow; simp
theorem tabRow_set (i : Nat) (h : i < 16) : (tabRow i).setIfInBounds i (.int .i64 ((step4 i : Nat) : Int)) = tabRow (i + 1) := by
  refine Array.ext_getElem? fun k => ?_
  rw [Array.getElem?_setIfInBounds, tabRow_size]
  by_cases hk : k < 16
  · rw [tabRow_at k hk, tabRow_at k hk]
    by_cases e : i = k
    · subst e; simp [h]
    · rw [if_neg e]
      by_cases h2 : k < i
      · simp [h2, show k < i + 1 by omega]
      · simp [h2, show ¬ k < i + 1 by omega]
  · rw [if_neg (by omega)]
    rw [Array.getElem?_eq_none (by rw [tabRow_size]; omega), Array.getElem?_eq_none (by rw [tabRow_size]; omega)]
theorem blk_old2 (w : World) (o : Obj) (i : Nat) (h : i < w.heap.size) : (w.alloc o).heap[i]? = w.heap[i]? := by
  show (w.heap.push o)[i]? = _
  rw [Array.getElem?_push, if_neg (by omega)]
theorem two_allocs (w : World) (A B : Obj) : ((w.alloc A).alloc B).heap[w.heap.size]? = some A ∧ ((w.alloc A).alloc B).heap[w.heap.size + 1]? = some B ∧ Below w.heap.size w ((w.alloc A).alloc B) := by
  have hs : (w.alloc A).heap.size = w.heap.size + 1 := (by show (w.heap.push A).size = _; rw [Array.size_push])
  refine ⟨?_, ?_, ?_⟩
  · exact (blk_old2 (w.alloc A) B w.heap.size (by omega)).trans (blk_new w A)
  · rw [← hs]; exact blk_new (w.alloc A) B
  · exact ((Below.refl _ w).alloc (Nat.le_refl _) _).alloc (by omega) _
def set16 (w : World) (g : Nat) (y0 y1 y2 y3 y4 y5 y6 y7 y8 y9 y10 y11 y12 y13 y14 y15 : Int) : World := ((((((((((((((((w.setCell ⟨g, 0, none⟩ (.int .i64 y0)).setCell ⟨g, 1, none⟩ (.int .i64 y1)).setCell ⟨g, 2, none⟩ (.int .i64 y2)).setCell ⟨g, 3, none⟩ (.int .i64 y3)).setCell ⟨g, 4, none⟩ (.int .i64 y4)).setCell ⟨g, 5, none⟩ (.int .i64 y5)).setCell ⟨g, 6, none⟩ (.int .i64 y6)).setCell ⟨g, 7, none⟩ (.int .i64 y7)).setCell ⟨g, 8, none⟩ (.int .i64 y8)).setCell ⟨g, 9, none⟩ (.int .i64 y9)).setCell ⟨g, 10, none⟩ (.int .i64 y10)).setCell ⟨g, 11, none⟩ (.int .i64 y11)).setCell ⟨g, 12, none⟩ (.int .i64 y12)).setCell ⟨g, 13, none⟩ (.int .i64 y13)).setCell ⟨g, 14, none⟩ (.int .i64 y14)).setCell ⟨g, 15, none⟩ (.int .i64 y15))
theorem set16_blk {w : World} {g : Nat} {t : TypeId} (h : w.heap[g]? = some (.cells (tabRow 0) t (0, 0))) (y0 y1 y2 y3 y4 y5 y6 y7 y8 y9 y10 y11 y12 y13 y14 y15 : Int) : (set16 w g y0 y1 y2 y3 y4 y5 y6 y7 y8 y9 y10 y11 y12 y13 y14 y15).heap[g]? = some (.cells #[.int .i64 y0, .int .i64 y1, .int .i64 y2, .int .i64 y3, .int .i64 y4, .int .i64 y5, .int .i64 y6, .int .i64 y7, .int .i64 y8, .int .i64 y9, .int .i64 y10, .int .i64 y11, .int .i64 y12, .int .i64 y13, .int .i64 y14, .int .i64 y15] t (0, 0)) := by
  have h : w.heap[g]? = some (.cells #[.int .i64 0, .int .i64 0, .int .i64 0, .int .i64 0, .int .i64 0, .int .i64 0, .int .i64 0, .int .i64 0, .int .i64 0, .int .i64 0, .int .i64 0, .int .i64 0, .int .i64 0, .int .i64 0, .int .i64 0, .int .i64 0] t (0, 0)) := h
  exact (blk_put (cs' := #[.int .i64 y0, .int .i64 y1, .int .i64 y2, .int .i64 y3, .int .i64 y4, .int .i64 y5, .int .i64 y6, .int .i64 y7, .int .i64 y8, .int .i64 y9, .int .i64 y10, .int .i64 y11, .int .i64 y12, .int .i64 y13, .int .i64 y14, .int .i64 y15]) (blk_put (cs' := #[.int .i64 y0, .int .i64 y1, .int .i64 y2, .int .i64 y3, .int .i64 y4, .int .i64 y5, .int .i64 y6, .int .i64 y7, .int .i64 y8, .int .i64 y9, .int .i64 y10, .int .i64 y11, .int .i64 y12, .int .i64 y13, .int .i64 y14, .int .i64 0]) (blk_put (cs' := #[.int .i64 y0, .int .i64 y1, .int .i64 y2, .int .i64 y3, .int .i64 y4, .int .i64 y5, .int .i64 y6, .int .i64 y7, .int .i64 y8, .int .i64 y9, .int .i64 y10, .int .i64 y11, .int .i64 y12, .int .i64 y13, .int .i64 0, .int .i64 0]) (blk_put (cs' := #[.int .i64 y0, .int .i64 y1, .int .i64 y2, .int .i64 y3, .int .i64 y4, .int .i64 y5, .int .i64 y6, .int .i64 y7, .int .i64 y8, .int .i64 y9, .int .i64 y10, .int .i64 y11, .int .i64 y12, .int .i64 0, .int .i64 0, .int .i64 0]) (blk_put (cs' := #[.int .i64 y0, .int .i64 y1, .int .i64 y2, .int .i64 y3, .int .i64 y4, .int .i64 y5, .int .i64 y6, .int .i64 y7, .int .i64 y8, .int .i64 y9, .int .i64 y10, .int .i64 y11, .int .i64 0, .int .i64 0, .int .i64 0, .int .i64 0]) (blk_put (cs' := #[.int .i64 y0, .int .i64 y1, .int .i64 y2, .int .i64 y3, .int .i64 y4, .int .i64 y5, .int .i64 y6, .int .i64 y7, .int .i64 y8, .int .i64 y9, .int .i64 y10, .int .i64 0, .int .i64 0, .int .i64 0, .int .i64 0, .int .i64 0]) (blk_put (cs' := #[.int .i64 y0, .int .i64 y1, .int .i64 y2, .int .i64 y3, .int .i64 y4, .int .i64 y5, .int .i64 y6, .int .i64 y7, .int .i64 y8, .int .i64 y9, .int .i64 0, .int .i64 0, .int .i64 0, .int .i64 0, .int .i64 0, .int .i64 0]) (blk_put (cs' := #[.int .i64 y0, .int .i64 y1, .int .i64 y2, .int .i64 y3, .int .i64 y4, .int .i64 y5, .int .i64 y6, .int .i64 y7, .int .i64 y8, .int .i64 0, .int .i64 0, .int .i64 0, .int .i64 0, .int .i64 0, .int .i64 0, .int .i64 0]) (blk_put (cs' := #[.int .i64 y0, .int .i64 y1, .int .i64 y2, .int .i64 y3, .int .i64 y4, .int .i64 y5, .int .i64 y6, .int .i64 y7, .int .i64 0, .int .i64 0, .int .i64 0, .int .i64 0, .int .i64 0, .int .i64 0, .int .i64 0, .int .i64 0]) (blk_put (cs' := #[.int .i64 y0, .int .i64 y1, .int .i64 y2, .int .i64 y3, .int .i64 y4, .int .i64 y5, .int .i64 y6, .int .i64 0, .int .i64 0, .int .i64 0, .int .i64 0, .int .i64 0, .int .i64 0, .int .i64 0, .int .i64 0, .int .i64 0]) (blk_put (cs' := #[.int .i64 y0, .int .i64 y1, .int .i64 y2, .int .i64 y3, .int .i64 y4, .int .i64 y5, .int .i64 0, .int .i64 0, .int .i64 0, .int .i64 0, .int .i64 0, .int .i64 0, .int .i64 0, .int .i64 0, .int .i64 0, .int .i64 0]) (blk_put (cs' := #[.int .i64 y0, .int .i64 y1, .int .i64 y2, .int .i64 y3, .int .i64 y4, .int .i64 0, .int .i64 0, .int .i64 0, .int .i64 0, .int .i64 0, .int .i64 0, .int .i64 0, .int .i64 0, .int .i64 0, .int .i64 0, .int .i64 0]) (blk_put (cs' := #[.int .i64 y0, .int .i64 y1, .int .i64 y2, .int .i64 y3, .int .i64 0, .int .i64 0, .int .i64 0, .int .i64 0, .int .i64 0, .int .i64 0, .int .i64 0, .int .i64 0, .int .i64 0, .int .i64 0, .int .i64 0, .int .i64 0]) (blk_put (cs' := #[.int .i64 y0, .int .i64 y1, .int .i64 y2, .int .i64 0, .int .i64 0, .int .i64 0, .int .i64 0, .int .i64 0, .int .i64 0, .int .i64 0, .int .i64 0, .int .i64 0, .int .i64 0, .int .i64 0, .int .i64 0, .int .i64 0]) (blk_put (cs' := #[.int .i64 y0, .int .i64 y1, .int .i64 0, .int .i64 0, .int .i64 0, .int .i64 0, .int .i64 0, .int .i64 0, .int .i64 0, .int .i64 0, .int .i64 0, .int .i64 0, .int .i64 0, .int .i64 0, .int .i64 0, .int .i64 0]) (blk_put (cs' := #[.int .i64 y0, .int .i64 0, .int .i64 0, .int .i64 0, .int .i64 0, .int .i64 0, .int .i64 0, .int .i64 0, .int .i64 0, .int .i64 0, .int .i64 0, .int .i64 0, .int .i64 0, .int .i64 0, .int .i64 0, .int .i64 0]) h 0 _ rfl) 1 _ rfl) 2 _ rfl) 3 _ rfl) 4 _ rfl) 5 _ rfl) 6 _ rfl) 7 _ rfl) 8 _ rfl) 9 _ rfl) 10 _ rfl) 11 _ rfl) 12 _ rfl) 13 _ rfl) 14 _ rfl) 15 _ rfl)
theorem set16_below {w a : World} {g B : Nat} (h : Below B a w) (hg : B ≤ g) (y0 y1 y2 y3 y4 y5 y6 y7 y8 y9 y10 y11 y12 y13 y14 y15 : Int) : Below B a (set16 w g y0 y1 y2 y3 y4 y5 y6 y7 y8 y9 y10 y11 y12 y13 y14 y15) := ((((((((((((((((h.setCell (p := ⟨g, 0, none⟩) hg _).setCell (p := ⟨g, 1, none⟩) hg _).setCell (p := ⟨g, 2, none⟩) hg _).setCell (p := ⟨g, 3, none⟩) hg _).setCell (p := ⟨g, 4, none⟩) hg _).setCell (p := ⟨g, 5, none⟩) hg _).setCell (p := ⟨g, 6, none⟩) hg _).setCell (p := ⟨g, 7, none⟩) hg _).setCell (p := ⟨g, 8, none⟩) hg _).setCell (p := ⟨g, 9, none⟩) hg _).setCell (p := ⟨g, 10, none⟩) hg _).setCell (p := ⟨g, 11, none⟩) hg _).setCell (p := ⟨g, 12, none⟩) hg _).setCell (p := ⟨g, 13, none⟩) hg _).setCell (p := ⟨g, 14, none⟩) hg _).setCell (p := ⟨g, 15, none⟩) hg _)
def tabZ (j : Nat) : Int := ((step4 j : Nat) : Int)
set_option maxHeartbeats 2000000 in
theorem l01Table_calls (w : World) : Calls Try.prog 82 #[] w fun e w' => e = .returned (.agg (tabRow 16)) ∧ Below w.heap.size w w' := by
  go_enter Try.func82, Try.ntmps82
  go_wp2_with fail
  go_loopw [2] (fun v2 wr => ∃ i : Nat, i ≤ 16 ∧ v2 = .int .i64 i ∧ Aside0 (wr.heap[w.heap.size]? = some (.cells (tabRow 0) 82 (0, 0))) ∧ Aside0 (wr.heap[w.heap.size + 1]? = some (.cells (tabRow i) 82 (0, 0))) ∧ Aside0 (Below w.heap.size w wr)) (fun v2 _ => 16 - (intOf v2).toNat)
  case atStart =>
    have h := two_allocs w (.cells (tabRow 0) 82 (0, 0)) (.cells (tabRow 0) 82 (0, 0))
    exact ⟨0, by omega, rfl, ⟨h.1⟩, ⟨h.2.1⟩, ⟨h.2.2⟩⟩
  case round =>
    obtain ⟨i, hi, rfl, HR, HT, HB⟩ := hrel
    by_cases hlt : i < 16
    · have c0 : decide ((i : Int) < 16) = true := decide_eq_true (by omega)
      go_wp2_with fail
      go_loopw [3, 4] (fun v3 v4 w2 => ∃ k : Nat, k ≤ 4 ∧ v3 = .int .i64 ((itN k i : Nat) : Int) ∧ v4 = .int .i64 k ∧ w2 = wr) (fun v3 v4 _ => 4 - (intOf v4).toNat)
      case atStart => exact ⟨0, by omega, rfl, rfl, rfl⟩
      case round =>
        obtain ⟨k, hk, rfl, rfl, rfl⟩ := hrel
        have hx := itN_lt k i (by omega)
        by_cases hk2 : k < 4
        · have c1 : decide ((k : Int) < 4) = true := decide_eq_true (by omega)
          generalize hX : itN k i = x at *
          go_wp2_with fail
          refine ⟨⟨k + 1, by omega, ?_, ?_, trivial⟩, ?_⟩
          · rw [bits_step64 x hx, ← hX]; rfl
          · rfl
          · simp [intOf]; omega
        · have e : k = 4 := by omega
          subst e
          have hs : itN 4 i = step4 i := rfl
          rw [hs] at *
          have hcell : wr.cell? ⟨w.heap.size + 1, i, none⟩ = some (.int .i64 0) := (blk_cell HT.out i).trans (by rw [tabRow_at i hlt]; simp)
          have hfz := blk_frozen HT.out i
          have p1 : (0 ≤ (i : Int)) = True := eq_true (by omega)
          have p2 : ((i : Int) < 16) = True := eq_true (by omega)
          generalize hX : step4 i = x at *
          go_wp2_with fail
          exact ⟨⟨i + 1, by omega, rfl, ⟨blk_far HR.out (by show w.heap.size ≠ w.heap.size + 1; omega) _⟩, ⟨blk_put HT.out i _ (by rw [← hX]; exact tabRow_set i hlt)⟩, ⟨HB.out.setCell (p := ⟨w.heap.size + 1, i, none⟩) (by show w.heap.size ≤ w.heap.size + 1; omega) _⟩⟩, by simp [intOf]; omega⟩
    · have e : i = 16 := by omega
      subst e
      have hc0 := (blk_cell HT.out 0).trans (show (tabRow 16)[0]? = some (.int .i64 (tabZ 0)) from rfl)
      have hc1 := (blk_cell HT.out 1).trans (show (tabRow 16)[1]? = some (.int .i64 (tabZ 1)) from rfl)
      have hc2 := (blk_cell HT.out 2).trans (show (tabRow 16)[2]? = some (.int .i64 (tabZ 2)) from rfl)
      have hc3 := (blk_cell HT.out 3).trans (show (tabRow 16)[3]? = some (.int .i64 (tabZ 3)) from rfl)
      have hc4 := (blk_cell HT.out 4).trans (show (tabRow 16)[4]? = some (.int .i64 (tabZ 4)) from rfl)
      have hc5 := (blk_cell HT.out 5).trans (show (tabRow 16)[5]? = some (.int .i64 (tabZ 5)) from rfl)
      have hc6 := (blk_cell HT.out 6).trans (show (tabRow 16)[6]? = some (.int .i64 (tabZ 6)) from rfl)
      have hc7 := (blk_cell HT.out 7).trans (show (tabRow 16)[7]? = some (.int .i64 (tabZ 7)) from rfl)
      have hc8 := (blk_cell HT.out 8).trans (show (tabRow 16)[8]? = some (.int .i64 (tabZ 8)) from rfl)
      have hc9 := (blk_cell HT.out 9).trans (show (tabRow 16)[9]? = some (.int .i64 (tabZ 9)) from rfl)
      have hc10 := (blk_cell HT.out 10).trans (show (tabRow 16)[10]? = some (.int .i64 (tabZ 10)) from rfl)
      have hc11 := (blk_cell HT.out 11).trans (show (tabRow 16)[11]? = some (.int .i64 (tabZ 11)) from rfl)
      have hc12 := (blk_cell HT.out 12).trans (show (tabRow 16)[12]? = some (.int .i64 (tabZ 12)) from rfl)
      have hc13 := (blk_cell HT.out 13).trans (show (tabRow 16)[13]? = some (.int .i64 (tabZ 13)) from rfl)
      have hc14 := (blk_cell HT.out 14).trans (show (tabRow 16)[14]? = some (.int .i64 (tabZ 14)) from rfl)
      have hc15 := (blk_cell HT.out 15).trans (show (tabRow 16)[15]? = some (.int .i64 (tabZ 15)) from rfl)
      have hf0 := blk_frozen HR.out 0
      have hf1 := blk_frozen HR.out 1
      have hf2 := blk_frozen HR.out 2
      have hf3 := blk_frozen HR.out 3
      have hf4 := blk_frozen HR.out 4
      have hf5 := blk_frozen HR.out 5
      have hf6 := blk_frozen HR.out 6
      have hf7 := blk_frozen HR.out 7
      have hf8 := blk_frozen HR.out 8
      have hf9 := blk_frozen HR.out 9
      have hf10 := blk_frozen HR.out 10
      have hf11 := blk_frozen HR.out 11
      have hf12 := blk_frozen HR.out 12
      have hf13 := blk_frozen HR.out 13
      have hf14 := blk_frozen HR.out 14
      have hf15 := blk_frozen HR.out 15
      have hd0 := (blk_cell HR.out 0).trans (show (tabRow 0)[0]? = some (.int .i64 0) from rfl)
      have hd1 := (blk_cell HR.out 1).trans (show (tabRow 0)[1]? = some (.int .i64 0) from rfl)
      have hd2 := (blk_cell HR.out 2).trans (show (tabRow 0)[2]? = some (.int .i64 0) from rfl)
      have hd3 := (blk_cell HR.out 3).trans (show (tabRow 0)[3]? = some (.int .i64 0) from rfl)
      have hd4 := (blk_cell HR.out 4).trans (show (tabRow 0)[4]? = some (.int .i64 0) from rfl)
      have hd5 := (blk_cell HR.out 5).trans (show (tabRow 0)[5]? = some (.int .i64 0) from rfl)
      have hd6 := (blk_cell HR.out 6).trans (show (tabRow 0)[6]? = some (.int .i64 0) from rfl)
      have hd7 := (blk_cell HR.out 7).trans (show (tabRow 0)[7]? = some (.int .i64 0) from rfl)
      have hd8 := (blk_cell HR.out 8).trans (show (tabRow 0)[8]? = some (.int .i64 0) from rfl)
      have hd9 := (blk_cell HR.out 9).trans (show (tabRow 0)[9]? = some (.int .i64 0) from rfl)
      have hd10 := (blk_cell HR.out 10).trans (show (tabRow 0)[10]? = some (.int .i64 0) from rfl)
      have hd11 := (blk_cell HR.out 11).trans (show (tabRow 0)[11]? = some (.int .i64 0) from rfl)
      have hd12 := (blk_cell HR.out 12).trans (show (tabRow 0)[12]? = some (.int .i64 0) from rfl)
      have hd13 := (blk_cell HR.out 13).trans (show (tabRow 0)[13]? = some (.int .i64 0) from rfl)
      have hd14 := (blk_cell HR.out 14).trans (show (tabRow 0)[14]? = some (.int .i64 0) from rfl)
      have hd15 := (blk_cell HR.out 15).trans (show (tabRow 0)[15]? = some (.int .i64 0) from rfl)
      have hy : tabRow 16 = #[.int .i64 (tabZ 0), .int .i64 (tabZ 1), .int .i64 (tabZ 2), .int .i64 (tabZ 3), .int .i64 (tabZ 4), .int .i64 (tabZ 5), .int .i64 (tabZ 6), .int .i64 (tabZ 7), .int .i64 (tabZ 8), .int .i64 (tabZ 9), .int .i64 (tabZ 10), .int .i64 (tabZ 11), .int .i64 (tabZ 12), .int .i64 (tabZ 13), .int .i64 (tabZ 14), .int .i64 (tabZ 15)] := rfl
      generalize tabZ 0 = y0 at *
      generalize tabZ 1 = y1 at *
      generalize tabZ 2 = y2 at *
      generalize tabZ 3 = y3 at *
      generalize tabZ 4 = y4 at *
      generalize tabZ 5 = y5 at *
      generalize tabZ 6 = y6 at *
      generalize tabZ 7 = y7 at *
      generalize tabZ 8 = y8 at *
      generalize tabZ 9 = y9 at *
      generalize tabZ 10 = y10 at *
      generalize tabZ 11 = y11 at *
      generalize tabZ 12 = y12 at *
      generalize tabZ 13 = y13 at *
      generalize tabZ 14 = y14 at *
      generalize tabZ 15 = y15 at *
      have HY := Aside0.mk hy
      clear hy
      go_wp2_with fail
      change bodyPost _ _ _ _ _ (set16 wr w.heap.size y0 y1 y2 y3 y4 y5 y6 y7 y8 y9 y10 y11 y12 y13 y14 y15)
      have BF := Aside0.mk (set16_blk HR.out y0 y1 y2 y3 y4 y5 y6 y7 y8 y9 y10 y11 y12 y13 y14 y15)
      have HB2 := Aside0.mk (set16_below HB.out (Nat.le_refl _) y0 y1 y2 y3 y4 y5 y6 y7 y8 y9 y10 y11 y12 y13 y14 y15)
      generalize set16 wr w.heap.size y0 y1 y2 y3 y4 y5 y6 y7 y8 y9 y10 y11 y12 y13 y14 y15 = W at BF HB2 ⊢
      refine bodyPost_ret (results_cell_row rfl _ _ w.heap.size 82 #[.int .i64 y0, .int .i64 y1, .int .i64 y2, .int .i64 y3, .int .i64 y4, .int .i64 y5, .int .i64 y6, .int .i64 y7, .int .i64 y8, .int .i64 y9, .int .i64 y10, .int .i64 y11, .int .i64 y12, .int .i64 y13, .int .i64 y14, .int .i64 y15] (0, 0) _ rfl BF.out Try.underlying82 rfl (by kernel_rfl)) rfl ?_
      exact ⟨by rw [HY.out], HB2.out⟩
end Go.Proofs.Ytonfmdgklgdgfaa.X
