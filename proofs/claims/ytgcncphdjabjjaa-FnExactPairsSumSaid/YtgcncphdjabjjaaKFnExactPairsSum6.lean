import Derived.Test.YtgcncphdjabjjaaKFnExactPairsSum4
import Derived.Test.YtgcncphdjabjjaaKFnExactPairsSum5
import Derived.Laws.BitsAllLaws
import Derived.Laws.BitsLemmas
import Derived.Shelf.Strings.Builder1
namespace Go.Proofs.Ytgcncphdjabjjaa.X
open Go.RowKit Go.Proofs.YtgcncphdjabjjaaW.PrintWords Go.Proofs.YtgcncphdjabjjaaW.PrintLast Go.Proofs.YtgcncphdjabjjaaW.PrintMore
attribute [local go_sem] xbin_geq xbin_leq xbin_gtr max2_int min2_int max_two min_two max_three min_three max_four min_four
set_option linter.unusedVariables false
set_option linter.unusedSimpArgs false
def stepN (x : Nat) : Nat := (x / 2) ^^^ (3988292384 * (x % 2))
def step4 (x : Nat) : Nat := stepN (stepN (stepN (stepN x)))
def step8 (x : Nat) : Nat := step4 (step4 x)
def nib (r x : Nat) : Nat := (r / 16) ^^^ step4 ((r ^^^ x) % 16)
def crcF (r : Nat) : List Int → Nat
  | [] => r
  | c :: l => crcF (step8 (r ^^^ c.toNat)) l
theorem stepN_xor (x y : Nat) : stepN (x ^^^ y) = stepN x ^^^ stepN y := by
  unfold stepN
  have e : (x ^^^ y) % 2 = (x % 2) ^^^ (y % 2) := Nat.xor_mod_two_pow (n := 1)
  rw [Nat.xor_div_two, e]
  rcases Nat.mod_two_eq_zero_or_one x with hx | hx <;> rcases Nat.mod_two_eq_zero_or_one y with hy | hy <;> rw [hx, hy]
  · simp
  · simp [Nat.xor_assoc]
  · simp only [Nat.mul_one, Nat.mul_zero, Nat.xor_zero]
    rw [Nat.xor_assoc, Nat.xor_assoc, Nat.xor_comm (y / 2)]
  · simp only [Nat.mul_one, Nat.mul_zero, Nat.xor_zero, Nat.xor_self]
    rw [Nat.xor_assoc, Nat.xor_comm 3988292384, Nat.xor_assoc, Nat.xor_self, Nat.xor_zero]
theorem step4_xor (x y : Nat) : step4 (x ^^^ y) = step4 x ^^^ step4 y := by
  unfold step4
  simp only [stepN_xor]
theorem stepN_even (y : Nat) : stepN (2 * y) = y := by
  unfold stepN
  rw [show 2 * y / 2 = y by omega, show 2 * y % 2 = 0 by omega]
  simp
theorem step4_high (q : Nat) : step4 (16 * q) = q := by
  unfold step4
  rw [show 16 * q = 2 * (2 * (2 * (2 * q))) by omega, stepN_even, stepN_even, stepN_even, stepN_even]
theorem split16 (r : Nat) : r = (16 * (r / 16)) ^^^ (r % 16) := by
  have hs : r % 16 < 2 ^ 4 := by omega
  have e : r = 2 ^ 4 * (r / 16) + r % 16 := by omega
  have e2 : 16 * (r / 16) = 2 ^ 4 * (r / 16) := by omega
  rw [e2]
  refine Nat.eq_of_testBit_eq fun j => ?_
  rw [Nat.testBit_xor, Nat.testBit_two_pow_mul]
  conv => lhs; rw [e, Nat.testBit_two_pow_mul_add _ hs]
  by_cases hj : j < 4
  · simp [hj, show ¬ 4 ≤ j by omega]
  · have hz : (r % 16).testBit j = false := Nat.testBit_lt_two_pow (Nat.lt_of_lt_of_le hs (Nat.pow_le_pow_right (by omega) (by omega)))
    rw [hz]
    simp [hj, show 4 ≤ j by omega]
theorem step4_is (r : Nat) : step4 r = (r / 16) ^^^ step4 (r % 16) := by
  conv => lhs; rw [split16 r]
  rw [step4_xor, step4_high]
theorem xor_div16 (a b : Nat) : (a ^^^ b) / 16 = a / 16 ^^^ b / 16 := Nat.xor_div_two_pow (n := 4)
theorem step8_nib (r c : Nat) (hc : c < 256) : step8 (r ^^^ c) = nib (nib r c) (c / 16) := by
  have h1 : step4 (r ^^^ c) = nib r c ^^^ c / 16 := by
    rw [step4_is, xor_div16]
    unfold nib
    rw [Nat.xor_assoc, Nat.xor_assoc, Nat.xor_comm (c / 16)]
  unfold step8
  rw [h1, step4_is, xor_div16, show c / 16 / 16 = 0 by omega, Nat.xor_zero]
  rfl
theorem stepN_lt {x : Nat} (h : x < 4294967296) : stepN x < 4294967296 := by
  unfold stepN
  refine Nat.xor_lt_two_pow (n := 32) (by omega) ?_
  rcases Nat.mod_two_eq_zero_or_one x with hx | hx <;> rw [hx] <;> decide
theorem step4_lt {x : Nat} (h : x < 4294967296) : step4 x < 4294967296 := stepN_lt (stepN_lt (stepN_lt (stepN_lt h)))
theorem step8_lt {x : Nat} (h : x < 4294967296) : step8 x < 4294967296 := step4_lt (step4_lt h)
def isByte (c : Int) : Prop := 0 ≤ c ∧ c < 256
theorem xor_byte_lt {r : Nat} (h : r < 4294967296) {c : Int} (hc : isByte c) : r ^^^ c.toNat < 4294967296 := Nat.xor_lt_two_pow (n := 32) h (by have := hc.1; have := hc.2; omega)
theorem crcF_lt (l : List Int) : ∀ r, r < 4294967296 → (∀ c, c ∈ l → isByte c) → crcF r l < 4294967296 := by
  induction l with
  | nil => intro r h _; exact h
  | cons c l ih => intro r h hl; exact ih _ (step8_lt (xor_byte_lt h (hl c List.mem_cons_self))) fun x hx => hl x (List.mem_cons_of_mem _ hx)
theorem crcF_append (l m : List Int) : ∀ r, crcF r (l ++ m) = crcF (crcF r l) m := by
  induction l with
  | nil => intro r; rfl
  | cons c l ih => intro r; exact ih _
def sumOf32 (l : List Int) : Int := ((4294967295 ^^^ crcF 4294967295 l : Nat) : Int)
theorem bits_step (n : Nat) (h : n < 4294967296) : Go.bits .xor .u32 ((n : Int) / 2) ((3988292384 * (Go.bits .and .u32 (n : Int) 1)) % 4294967296) = ((stepN n : Nat) : Int) := by
  have e1 : Go.bits .and .u32 (n : Int) 1 = ((n % 2 : Nat) : Int) := by
    have := u32_and_nat n 1 h (by decide)
    rw [Nat.and_one_is_mod] at this
    exact this
  rw [e1]
  have e2 : (3988292384 * ((n % 2 : Nat) : Int)) % 4294967296 = ((3988292384 * (n % 2) : Nat) : Int) := by
    rcases Nat.mod_two_eq_zero_or_one n with hx | hx <;> rw [hx] <;> decide
  have e3 : (n : Int) / 2 = ((n / 2 : Nat) : Int) := by omega
  rw [e2, e3, u32_xor_nat _ _ (by omega) (by rcases Nat.mod_two_eq_zero_or_one n with hx | hx <;> rw [hx] <;> decide)]
  rfl
def stepTimes : Nat → Nat → Nat
  | 0, x => x
  | d + 1, x => stepTimes d (stepN x)
theorem crc_inner (l : List Int) (n : Int) (i : Int) (d : Nat) : ∀ (x : Nat) (j : Nat) (R : Int), j + d = 8 → x < 4294967296 → Ev (fun k => impl_crc.l0 k ((stepTimes d x : Nat) : Int) l n (wrap64 (i + 1))) R → Ev (fun k => impl_crc.l1 k (x : Int) l n i (j : Int)) R := by
  induction d with
  | zero =>
    intro x j R hj _ h
    refine Ev.succ ?_
    simp only [impl_crc.l1]
    exact Ev.neg (by omega) h
  | succ d ih =>
    intro x j R hj hx h
    refine Ev.succ ?_
    simp only [impl_crc.l1, bits_step x hx, wrap_at (n := j) (by omega)]
    exact Ev.pos (by omega) (ih _ (j + 1) R (by omega) (stepN_lt hx) h)
theorem crc_outer (l : List Int) (hl : l.length < 9223372036854775807) (rest : List Int) : ∀ (pre : List Int) (r : Nat), l = pre ++ rest → r < 4294967296 → (∀ c, c ∈ rest → isByte c) →
    Ev (fun k => impl_crc.l0 k (r : Int) l (l.length : Int) ((pre.length : Nat) : Int)) ((4294967295 ^^^ crcF r rest : Nat) : Int) := by
  induction rest with
  | nil =>
    intro pre r h hr _
    refine Ev.succ ?_
    simp only [impl_crc.l0]
    have hx : 4294967295 ^^^ r < 4294967296 := Nat.xor_lt_two_pow (n := 32) (by decide) hr
    have e1 : Go.bits .xor .u32 IntKind.u32.max (r : Int) = ((4294967295 ^^^ r : Nat) : Int) := u32_xor_nat 4294967295 r (by decide) hr
    exact Ev.neg (by rw [h]; simp) (Ev.is (by rw [e1, wrap_id (by omega) (by omega)]; rfl))
  | cons c m ih =>
    intro pre r h hr hb
    have hc := hb c List.mem_cons_self
    have hlen : pre.length < l.length := by rw [h]; simp
    have hx : rd l ((pre.length : Nat) : Int) = c := by rw [h]; simp [rd, List.getD_eq_getElem?_getD]
    have hi := ih (pre ++ [c]) (step8 (r ^^^ c.toNat)) (by rw [h]; simp) (step8_lt (xor_byte_lt hr hc)) fun x hx => hb x (List.mem_cons_of_mem _ hx)
    rw [← len_snoc] at hi
    have e1 : Go.bits .xor .u32 (r : Int) (c % 4294967296) = ((r ^^^ c.toNat : Nat) : Int) := by
      have h1 := hc.1
      have h2 := hc.2
      have e : c % 4294967296 = ((c.toNat : Nat) : Int) := by omega
      rw [e, u32_xor_nat _ _ hr (by omega)]
    refine Ev.succ ?_
    simp only [impl_crc.l0, hx, e1]
    refine Ev.pos (by omega) (Ev.pos (by omega) (Ev.pos (by omega) ?_))
    refine crc_inner l _ _ 8 _ 0 _ rfl (xor_byte_lt hr hc) ?_
    rw [wrap_at (n := pre.length) (by omega)]
    exact hi
theorem impl_crc_is (l : List Int) (hl : l.length < 9223372036854775807) (hb : ∀ c, c ∈ l → isByte c) : Ev (fun k => impl_crc.f k l) (sumOf32 l) := by
  unfold impl_crc.f
  exact crc_outer l hl l [] 4294967295 rfl (by decide) hb
end Go.Proofs.Ytgcncphdjabjjaa.X
namespace Go.Proofs.Ytgcncphdjabjjaa.X
open Go.RowKit Go.Proofs.YtgcncphdjabjjaaW.PrintWords Go.Proofs.YtgcncphdjabjjaaW.PrintLast Go.Proofs.YtgcncphdjabjjaaW.PrintMore
attribute [local go_sem] xbin_geq xbin_leq xbin_gtr max2_int min2_int max_two min_two max_three min_three max_four min_four
set_option linter.unusedVariables false
set_option linter.unusedSimpArgs false
open Go.Shelf
def Trybld_ren : Go.Shelf.Ren := ⟨fun | 166 => 83 | 167 => 106 | 240 => 105 | 276 => 118 | 169 => 86 | n => n, fun | 0 => 0 | 3 => 3 | 4 => 4 | 5 => 5 | 9 => 9 | 20 => 20 | 37 => 52 | 70 => 100 | 72 => 102 | 75 => 104 | 164 => 135 | 127 => 126 | 80 => 92 | n => n, fun n => n⟩
theorem Trybld167 : Go.Proofs.Lays.n167 Try.prog Trybld_ren := {
  mixed := by kernel_rfl
  f167 := Try.func106.trans (congrArg some (by kernel_rfl))
  f240 := Try.func105.trans (congrArg some (by kernel_rfl))
  f276 := Try.func118.trans (congrArg some (by kernel_rfl))
  t0 := Try.underlying0
  a0 := Try.isAgg0
  z0 := Try.sizeOf0
  v0 := Try.zeroValue0
  t4 := Try.underlying4
  a4 := Try.isAgg4
  z4 := Try.sizeOf4
  v4 := Try.zeroValue4
  t5 := Try.underlying5
  a5 := Try.isAgg5
  z5 := Try.sizeOf5
  v5 := Try.zeroValue5
  t9 := Try.underlying9
  a9 := Try.isAgg9
  z9 := Try.sizeOf9
  v9 := Try.zeroValue9
  t20 := Try.underlying20
  a20 := Try.isAgg20
  z20 := Try.sizeOf20
  v20 := Try.zeroValue20
  t37 := Try.underlying52
  a37 := Try.isAgg52
  z37 := Try.sizeOf52
  v37 := Try.zeroValue52
  t70 := Try.underlying100
  a70 := Try.isAgg100
  z70 := Try.sizeOf100
  v70 := Try.zeroValue100
  t72 := Try.underlying102
  a72 := Try.isAgg102
  z72 := Try.sizeOf102
  v72 := Try.zeroValue102
  t75 := Try.underlying104
  a75 := Try.isAgg104
  z75 := Try.sizeOf104
  v75 := Try.zeroValue104
  t164 := Try.underlying135
  a164 := Try.isAgg135
  z164 := Try.sizeOf135
  v164 := Try.zeroValue135 }
theorem Trybld169 : Go.Proofs.Lays.n169 Try.prog Trybld_ren := {
  mixed := by kernel_rfl
  f169 := Try.func86.trans (congrArg some (by kernel_rfl))
  t0 := Try.underlying0
  a0 := Try.isAgg0
  z0 := Try.sizeOf0
  v0 := Try.zeroValue0
  t3 := Try.underlying3
  a3 := Try.isAgg3
  z3 := Try.sizeOf3
  v3 := Try.zeroValue3
  t9 := Try.underlying9
  a9 := Try.isAgg9
  z9 := Try.sizeOf9
  v9 := Try.zeroValue9
  t37 := Try.underlying52
  a37 := Try.isAgg52
  z37 := Try.sizeOf52
  v37 := Try.zeroValue52
  t70 := Try.underlying100
  a70 := Try.isAgg100
  z70 := Try.sizeOf100
  v70 := Try.zeroValue100
  t72 := Try.underlying102
  a72 := Try.isAgg102
  z72 := Try.sizeOf102
  v72 := Try.zeroValue102
  t127 := Try.underlying126
  a127 := Try.isAgg126
  z127 := Try.sizeOf126
  v127 := Try.zeroValue126 }
theorem Trybld166 : Go.Proofs.Lays.n166 Try.prog Trybld_ren := {
  mixed := by kernel_rfl
  f166 := Try.func83.trans (congrArg some (by kernel_rfl))
  f240 := Try.func105.trans (congrArg some (by kernel_rfl))
  f276 := Try.func118.trans (congrArg some (by kernel_rfl))
  t0 := Try.underlying0
  a0 := Try.isAgg0
  z0 := Try.sizeOf0
  v0 := Try.zeroValue0
  t3 := Try.underlying3
  a3 := Try.isAgg3
  z3 := Try.sizeOf3
  v3 := Try.zeroValue3
  t4 := Try.underlying4
  a4 := Try.isAgg4
  z4 := Try.sizeOf4
  v4 := Try.zeroValue4
  t9 := Try.underlying9
  a9 := Try.isAgg9
  z9 := Try.sizeOf9
  v9 := Try.zeroValue9
  t20 := Try.underlying20
  a20 := Try.isAgg20
  z20 := Try.sizeOf20
  v20 := Try.zeroValue20
  t37 := Try.underlying52
  a37 := Try.isAgg52
  z37 := Try.sizeOf52
  v37 := Try.zeroValue52
  t70 := Try.underlying100
  a70 := Try.isAgg100
  z70 := Try.sizeOf100
  v70 := Try.zeroValue100
  t72 := Try.underlying102
  a72 := Try.isAgg102
  z72 := Try.sizeOf102
  v72 := Try.zeroValue102
  t75 := Try.underlying104
  a75 := Try.isAgg104
  z75 := Try.sizeOf104
  v75 := Try.zeroValue104
  t164 := Try.underlying135
  a164 := Try.isAgg135
  z164 := Try.sizeOf135
  v164 := Try.zeroValue135 }
theorem TrybldX : Builder.Extra Try.prog Trybld_ren := {
  sizeBuilder := by kernel_rfl
  liesBuilder := by kernel_rfl
  t5 := Try.underlying5
  a5 := Try.isAgg5
  z5 := Try.sizeOf5
  v5 := Try.zeroValue5
  infoByte := by kernel_rfl
  cellsByte := by kernel_rfl
  sizeByte := by kernel_rfl
  neB5 := by decide }
end Go.Proofs.Ytgcncphdjabjjaa.X
namespace Go.Proofs.Ytgcncphdjabjjaa.X
open Go.RowKit Go.Proofs.YtgcncphdjabjjaaW.PrintWords Go.Proofs.YtgcncphdjabjjaaW.PrintLast Go.Proofs.YtgcncphdjabjjaaW.PrintMore
attribute [local go_sem] xbin_geq xbin_leq xbin_gtr max2_int min2_int max_two min_two max_three min_three max_four min_four
set_option linter.unusedVariables false
set_option linter.unusedSimpArgs false
def impl_inBytes.l0 : Nat → Int → List Int → Int → Option (ByteArray)
 | 0, _, _, _ => none
 | k + 1, x0, x5, x6 => if x6 ≥ 0 then (if 0 ≤ x6 then (if x6 < (x5.length : Int) then (impl_inBytes.l0 k (x0 / 256) (x5.set (x6 : Int).toNat ((x0) % 256)) (wrap64 (x6 - 1))) else (none)) else (none)) else (some (strOfNums x5))
def impl_inBytes.f (k : Nat) (a0 : Int) (a1 : Int) : Option (ByteArray) := if 0 ≤ a1 then (if (a1 : Int).toNat ≤ 281474976710656 then (impl_inBytes.l0 k a0 (List.replicate (a1 : Int).toNat 0) (wrap64 (a1 - 1))) else (none)) else (none)
theorem impl_inBytes.mono_l : ∀ k, (∀ y0 y1 y2, LeO (impl_inBytes.l0 k y0 y1 y2) (impl_inBytes.l0 (k + 1) y0 y1 y2))
 | 0 => fun _ _ _ r h => by simp [impl_inBytes.l0] at h
 | k + 1 => by
  have ih0 := impl_inBytes.mono_l k
  ·intro y0 y1 y2
   unfold impl_inBytes.l0
   repeat' first
   | (with_reducible exact ih0 _ _ _)
   | (with_reducible exact LeO.refl _)
   | (with_reducible exact LeO.none _)
   | (with_reducible refine LeO.ite ?_ ?_)
   | (with_reducible refine LeO.bind ?_ (fun _ => ?_))
   | exact ih0 _ _ _
   | exact LeO.none _
   | refine LeO.ite ?_ ?_
   | refine LeO.bind ?_ (fun _ => ?_)
theorem impl_inBytes.mono : ∀ a0 a1 k, LeO (impl_inBytes.f k a0 a1) (impl_inBytes.f (k + 1) a0 a1) := by
 intro a0 a1 k
 have ih0 := impl_inBytes.mono_l k
 unfold impl_inBytes.f
 repeat' first
   | (with_reducible exact ih0 _ _ _)
   | (with_reducible exact LeO.refl _)
   | (with_reducible exact LeO.none _)
   | (with_reducible refine LeO.ite ?_ ?_)
   | (with_reducible refine LeO.bind ?_ (fun _ => ?_))
   | exact ih0 _ _ _
   | exact LeO.none _
   | refine LeO.ite ?_ ?_
   | refine LeO.bind ?_ (fun _ => ?_)
set_option maxHeartbeats 8000000 in
set_option maxRecDepth 100000 in
theorem impl_inBytes.calls (k : Nat) (a0 : Int) (a1 : Int) (r : ByteArray) (w : World) (h : impl_inBytes.f k a0 a1 = some r) :
  Calls Try.prog 99 #[.int .i64 a0, .int .i64 a1] w fun e w' => e = .returned (.string r) ∧ Below w.heap.size w w' := by
 have HB := Aside0.mk (Below.refl w.heap.size w)
 have H : (if 0 ≤ a1 then (if (a1 : Int).toNat ≤ 281474976710656 then (impl_inBytes.l0 k a0 (List.replicate (a1 : Int).toNat 0) (wrap64 (a1 - 1))) else (none)) else (none)) = some r := h
 clear h
 by_cases c3 : 0 ≤ a1
 ·rw [if_pos c3] at H
  have c3b0 := eq_true c3
  have c3b1 : decide (0 ≤ a1) = true := decide_eq_true c3
  clear c3
  by_cases c4 : (a1 : Int).toNat ≤ 281474976710656
  ·rw [if_pos c4] at H
   have c4b0 := eq_true c4
   have c4b1 : decide ((a1 : Int).toNat ≤ 281474976710656) = true := decide_eq_true c4
   clear c4
   obtain ⟨y151, hy151⟩ : ∃ y_ : List Int, y_ = (List.replicate (a1 : Int).toNat 0) := ⟨_, rfl⟩
   replace H : (impl_inBytes.l0 k a0 y151 (wrap64 (a1 - 1))) = some r := by first | (rw [hy151]; with_reducible exact H) | (have H2_ := (Option.bind_some _ _).symm.trans H; rw [hy151]; with_reducible exact H2_) | (have H2_ := (Option.bind_some _ _).symm.trans H; with_reducible exact H2_) | with_reducible exact H | (rw [hy151]; exact H) | exact H
   have Ny151 := Aside0.mk hy151
   clear hy151
   have H' := Aside0.mk H
   clear H
   go_enter Try.func99, Try.ntmps99
   go_wp2_with (first | ((with_reducible refine gate_dst (N := 8) rfl ?_); refine Kd.R_make (Kd.int .u8) _ 5 rfl (N := 8) rfl 52 _ _ rfl a1 rfl rfl Try.underlying52 (.int .u8 0) 1 info5 rfl (by decide) (by omega) 0 (ok := fun _ => True) (okp := fun _ => True) rfl (fun _ hk => hk) trivial (of_decide_eq_true (by first | (with_reducible assumption) | assumption)) (Nat.le_trans (Nat.mul_le_mul_right _ (of_decide_eq_true (by first | (with_reducible assumption) | assumption) : a1.toNat ≤ 281474976710656)) (by omega)) (Below.refl _ _) (Nat.le_refl _) ?_; intro v152 w5 ho6 hb hg_ hnew_; clear hg_ hnew_; (first | rw [← Ny151.out] at ho6 | (simp only [Int.reduceToNat] at ho6; rw [← Ny151.out] at ho6)); have n0_ := Aside0.mk (Kd.R_lower ho6 (below_size (by repeat (first | (with_reducible first | exact HB.out | apply below_alloc | apply pw_below_drewN | apply below_drew1) | exact HB.out)))); have n1_ := Aside0.mk (below_step (by repeat (first | (with_reducible first | exact HB.out | apply below_alloc | apply pw_below_drewN | apply below_drew1) | exact HB.out)) hb); clear HB; have HO153 := n0_; have HB := n1_; clear n0_ n1_; clear hb ho6))
   go_loopg [0, 6] k (fun kq v0 v6 w' => ∃ (x0_1 : Int) (x5_1 : List Int) (x6_1 : Int), v0 = .int .i64 x0_1 ∧ v6 = .int .i64 x6_1 ∧ Aside0 (impl_inBytes.l0 kq x0_1 x5_1 x6_1 = some r) ∧ Aside0 (kq ≤ k) ∧ Aside0 (Kd.R (Kd.int .u8) 5 w' w.heap.size (fun _ => True) v152 x5_1) ∧ Aside0 (Below w.heap.size w w'))
   case atStart => exact ⟨(a0), (y151), (wrap64 (a1 - 1)), (by first | rfl | (simp; done) | (simp [*]; done)), (by first | rfl | (simp; done) | (simp [*]; done)), H', ⟨Nat.le_refl _⟩, ⟨by (with_reducible repeat (first | apply Kd.R_alloc | apply Kd.R_drewN | apply Kd.R_drew)); exact HO153.out⟩, ⟨by repeat (first | (with_reducible first | exact HB.out | apply below_alloc | apply pw_below_drewN | apply below_drew1) | exact HB.out)⟩⟩
   case round =>
    clear H'
    try clear p2
    try clear c3
    try clear c3b0
    try clear c3b1
    try clear c4
    try clear c4b0
    try clear c4b1
    try clear p6
    obtain ⟨x0_1, x5_1, x6_1, rfl, rfl, HA, HK1, HO_5, HB⟩ := hrel
    cases gk with
    | zero => exact absurd HA.out (by simp [impl_inBytes.l0])
    | succ k1 =>
     have H := HA.out
     clear HA
     simp only [impl_inBytes.l0] at H
     by_cases c7 : x6_1 ≥ 0
     ·rw [if_pos c7] at H
      have c7b0 : decide (0 ≤ x6_1) = true := decide_eq_true c7
      clear c7
      by_cases c8 : 0 ≤ x6_1
      ·rw [if_pos c8] at H
       have c8b0 : decide (0 ≤ x6_1) = true := decide_eq_true c8
       clear c8
       by_cases c9 : x6_1 < (x5_1.length : Int)
       ·rw [if_pos c9] at H
        have c9b0 : decide (x6_1 < (x5_1.length : Int)) = true := decide_eq_true c9
        clear c9
        obtain ⟨y154, hy154⟩ : ∃ y_ : List Int, y_ = (x5_1.set (x6_1 : Int).toNat ((x0_1) % 256)) := ⟨_, rfl⟩
        replace H : (impl_inBytes.l0 k1 (x0_1 / 256) y154 (wrap64 (x6_1 - 1))) = some r := by first | (rw [hy154]; with_reducible exact H) | (have H2_ := (Option.bind_some _ _).symm.trans H; rw [hy154]; with_reducible exact H2_) | (have H2_ := (Option.bind_some _ _).symm.trans H; with_reducible exact H2_) | with_reducible exact H | (rw [hy154]; exact H) | exact H
        have Ny154 := Aside0.mk hy154
        clear hy154
        have H' := Aside0.mk H
        clear H
        have p10 : 0 ≤ (x6_1 : Int) := of_decide_eq_true (by first | (with_reducible assumption) | assumption)
        have q10 : (x6_1 : Int) < ((x5_1.length : Int) : Int) := of_decide_eq_true (by first | (with_reducible assumption) | assumption)
        obtain ⟨go10, co10, eo10, gb10, gl10, cl10, HG10⟩ := Kd.R_form HO_5.out (by omega)
        (first | cases eo10 | (injection eo10 with ea_ en_ ec_; (first | subst ea_ | (injection ea_ with ea_; subst ea_)); subst ec_; clear en_))
        have GB10 := Aside0.mk gb10
        have GG10 := Aside0.mk HG10
        clear gb10 gl10 HG10
        obtain ⟨hx10_0, hf10_0⟩ := Kd.R_celln 0 HO_5.out (x6_1 : Int) p10 q10
        replace p10 := eq_true p10
        replace q10 := eq_true q10
        have HP11 := Kd.R_putg HO_5.out (x6_1 : Int) ((x0_1) % 256)
        go_wp2_with (first | ((with_reducible refine gate_store (t := 5) (p := 19) rfl ?_); refine store_event (t := 5) (p := 19) (v := ?vo_w12) (w1 := (wr.setCell ⟨go10, (x6_1 : Int).toNat, none⟩ (.int .u8 ((x0_1) % 256)))) ?hg ?ho ?hn ?hr ?_; (case ho => rfl); (case hg => rfl); (case hn => rfl); (case hr => first | (go_simp; done) | (go_simp; rfl)); intro w12 hw; have hg : wr.grownBy w12 (some go10) := (by rw [hw]; exact HP11.2); have hp_ : Kd.R (Kd.int .u8) 5 w12 w.heap.size (fun _ => True) (.slice (some ⟨go10, 0, none⟩) x5_1.length co10) y154 := (by rw [hw, Ny154.out]; exact HP11.1); clear HP11; have n0_ := Aside0.mk (hp_); have n1_ := Aside0.mk ((by rw [hw]; exact below_set (HB.out) GB10.out : Below w.heap.size w w12)); clear HO_5; clear HB; have HO_5 := n0_; have HB := n1_; clear n0_ n1_; clear hg hw hp_))
        go_roundg k1
        case measure => have := HK1.out; omega
        case rel => exact ⟨(x0_1 / 256), (y154), (wrap64 (x6_1 - 1)), (by first | rfl | (simp; done) | (simp [*]; done)), (by first | rfl | (simp; done) | (simp [*]; done)), H', ⟨by have := HK1.out; omega⟩, ⟨by (with_reducible repeat (first | apply Kd.R_alloc | apply Kd.R_drewN | apply Kd.R_drew)); exact HO_5.out⟩, ⟨by repeat (first | (with_reducible first | exact HB.out | apply below_alloc | apply pw_below_drewN | apply below_drew1) | exact HB.out)⟩⟩
       ·rw [if_neg c9] at H
        exact absurd H (by simp)
      ·rw [if_neg c8] at H
       exact absurd H (by simp)
     ·rw [if_neg c7] at H
      have c7b0 : decide (0 ≤ x6_1) = false := decide_eq_false c7
      clear c7
      obtain rfl := Option.some.inj H
      have hcv13 := own_string (P := Try.prog) Try.underlying52 Try.underlying5 Try.underlying9 (Kd.own_of_R HO_5.out)
      go_wp2
      go_ret
      exact ⟨by first | rfl | (simp [errW_none, errW_some] <;> rfl) | (simp [*, errW_none, errW_some] <;> rfl), by repeat (first | (with_reducible first | exact HB.out | apply below_alloc | apply pw_below_drewN | apply below_drew1) | exact HB.out)⟩
  ·rw [if_neg c4] at H
   exact absurd H (by simp)
 ·rw [if_neg c3] at H
  exact absurd H (by simp)
end Go.Proofs.Ytgcncphdjabjjaa.X
