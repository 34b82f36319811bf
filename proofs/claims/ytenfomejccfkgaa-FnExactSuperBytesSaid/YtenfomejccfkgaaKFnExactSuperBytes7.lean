import Derived.Test.YtenfomejccfkgaaKFnExactSuperBytes4
import Derived.Test.YtenfomejccfkgaaKFnExactSuperBytes5
import Derived.Test.YtenfomejccfkgaaKFnExactSuperBytes6
import Derived.LoopTactic
import Derived.BigQuiet
import Derived.Deep.RegionHeld3
import Derived.Laws.BitsAllLaws
import Derived.Laws.BitsLemmas
namespace Go.Proofs.Ytenfomejccfkgaa.X
open Go.RowKit Go.Proofs.YtenfomejccfkgaaW.PrintWords Go.Proofs.YtenfomejccfkgaaW.PrintLast Go.Proofs.YtenfomejccfkgaaW.PrintMore
attribute [local go_sem] xbin_geq xbin_leq xbin_gtr max2_int min2_int max_two min_two max_three min_three max_four min_four
set_option linter.unusedVariables false
set_option linter.unusedSimpArgs false
set_option maxRecDepth 100000
theorem byte_shr8 (n : Int) (h0 : 0 ≤ n) (h1 : n ≤ 1000000) : (shr .i64 n (IntKind.u64.wrap (wrap64 (8 * 1)))) % 256 = n / 256 % 256 ∧ (shr .i64 n (IntKind.u64.wrap (wrap64 (8 * 0)))) % 256 = n % 256 := by
  have e1 : IntKind.u64.wrap (wrap64 (8 * 1)) = 8 := by decide +kernel
  have e2 : IntKind.u64.wrap (wrap64 (8 * 0)) = 0 := by decide +kernel
  rw [e1, e2]
  exact ⟨rfl, congrArg (· % 256) (Int.ediv_one n)⟩
theorem numT_bytes (n : Int) : bytesOf (numT n) = [n / 256 % 256, n % 256] := by
  unfold numT strOfNums bytesOf
  simp
  omega
theorem l01Number_two (n : Int) (h0 : 0 ≤ n) (h1 : n ≤ 1000000) : Ev (fun k => spec_l01Number.f k n 2) (bytesOf (numT n)) := by
  unfold spec_l01Number.f
  obtain ⟨e1, e2⟩ := byte_shr8 n h0 h1
  rw [wrap_id (x := 2 - 1) (by omega) (by omega)]
  refine Ev.succ ?_
  simp only [spec_l01Number.l0]
  refine Ev.pos (by omega) (Ev.pos (by decide +kernel) (Ev.pos (by simp) ?_))
  rw [wrap_id (x := 2 - 1 - 1) (by omega) (by omega)]
  refine Ev.succ ?_
  simp only [spec_l01Number.l0]
  refine Ev.pos (by omega) (Ev.pos (by decide +kernel) (Ev.pos (by simp) ?_))
  rw [wrap_id (x := 2 - 1 - 1 - 1) (by omega) (by omega)]
  refine Ev.succ ?_
  simp only [spec_l01Number.l0]
  refine Ev.neg (by omega) (Ev.is ?_)
  rw [numT_bytes, show (2 - 1 : Int) = 1 from rfl, show (1 - 1 : Int) = 0 from rfl, e1, e2]
  rfl
section
variable {P : Program} {ops : Array Oper} {o : Oper} {a : Act} {Q : Exit → Act → World → Prop} {Kc : Act → World → Prop}
theorem R_append_str_step {w0 W : World} (base : Nat) (hw : Region.wanted o (yielded ops a.tmps) = true) (s x : Operand) (t u e : TypeId)
    (ho : o.op = .call { callee := .builtin .append, args := #[s, x], argTypes := #[t, u] })
    (ht : P.underlying t = some (.slice e)) (hu : P.underlying u = some .string) (hinfo : (P.info? e).map (fun i => (i.zero, i.size, i.bytes)) = some (some (.int .u8 0), 1, 1))
    (v : Value) (xs : List Int) (y : ByteArray) (hs : a.eval s = v) (hx : a.eval x = .string y)
    (HO : (Kd.int .u8).R e W base (fun _ => True) v xs) (HB : Below base w0 W) (hbase : base ≤ W.heap.size) (hl : xs.length + y.size ≤ 140737488355328)
    (h : ∀ v1 w1, (Kd.int .u8).R e w1 base (fun _ => True) v1 (xs ++ bytesOf y) → Below base w0 w1 → W.grownBy w1 v.ownBlock → Kc (a.put o.dst v1) w1) :
    if Region.wanted o (yielded ops a.tmps) = true then Oper.wp P o a W Kc Q else Kc (a.put o.dst undef) W := by
  obtain ⟨i0, hi, hzz⟩ := Option.map_eq_some_iff.1 hinfo
  simp only [Prod.mk.injEq] at hzz
  obtain ⟨hz0, hz1, hz2⟩ := hzz
  have HO2 := Kd.own_of_R HO
  obtain ⟨v1, w1, hr, hown, hg, _⟩ := Lib.run_append_own_string (P := P) W base t u o.type e i0 ht hu hi hz0 hz1 hz2 v xs.length _ HO2 y (by simp only [maxLen]; omega) hl hbase
  have hl2 : (xs ++ bytesOf y).length = xs.length + y.size := by rw [List.length_append, bytesOf_length]
  have hc : encs (Value.int .u8) (xs ++ bytesOf y) = encs (Value.int .u8) xs ++ Lib.strCells y := by
    rw [encs_append]
    congr 1
    simp [encs, bytesOf, Lib.strCells]
  have hR : (Kd.int .u8).R e w1 base (fun _ => True) v1 (xs ++ bytesOf y) := Kd.R_of_own (by rw [hl2, hc]; exact hown) (fun _ _ => trivial)
  have hK := h v1 w1 hR (HB.grown hg hbase (own_base HO2)) hg
  rw [if_pos hw]
  unfold Oper.wp
  simp [execOp, ho, resolve, invoke, builtin, hs, hx, hr, Result.andThen]
  exact hK
end
theorem bytesOf_append (a b : ByteArray) : bytesOf (a ++ b) = bytesOf a ++ bytesOf b := by
  unfold bytesOf
  rw [ByteArray.data_append, Array.toList_append, List.map_append]
def spec_l01Fields.f (l0 : List ByteArray) : Option (List Int) := if l0.length ≤ 1000000 ∧ (∀ t, t ∈ l0 → t.size ≤ 1000000) then some (bytesOf (fieldsT l0)) else none
set_option maxHeartbeats 4000000 in
theorem spec_l01Fields.calls (A0 : Option Addr) (c0 : Nat) (l0 : List ByteArray) (r : List Int) (w : World) (hr0 : Kd.C Kd.string w A0 l0.length l0) (hc0 : l0.length ≤ c0) (h : spec_l01Fields.f l0 = some r) :
    Calls Try.prog 127 #[.slice A0 l0.length c0] w fun e w' => ∃ v0_ : Value, e = .returned (v0_) ∧ Kd.R (Kd.int .u8) 5 w' w.heap.size (fun _ => True) v0_ r ∧ Below w.heap.size w w' := by
  unfold spec_l01Fields.f at h
  by_cases hs : l0.length ≤ 1000000 ∧ (∀ t, t ∈ l0 → t.size ≤ 1000000)
  · rw [if_pos hs] at h
    obtain rfl := Option.some.inj h
    obtain ⟨hs1, hs2⟩ := hs
    have HS := Aside0.mk hs2
    have HR := Aside0.mk hr0
    have HB0 := Aside0.mk (Below.refl w.heap.size w)
    clear hr0 h hs2
    have hb0 : (l0.length : Int) % 256 = (l0.length : Int) % 256 := rfl
    go_enter Try.func127, Try.ntmps127
    go_wp2_with fail
    have hl0 : Kd.R (Kd.int .u8) 5 (w.alloc (.cells #[.int .u8 ((l0.length : Int) % 256)] 5 (0, 0))) w.heap.size (fun _ => True) (.slice (some ⟨w.heap.size, 0, none⟩) 1 1) (bytesOf (fieldsFrom (strOfNums [(l0.length : Int) % 256]) (l0.take 0))) := by
      have e : bytesOf (fieldsFrom (strOfNums [(l0.length : Int) % 256]) (l0.take 0)) = [(l0.length : Int) % 256] := by
        rw [List.take_zero]
        show bytesOf (strOfNums [(l0.length : Int) % 256]) = _
        simp [bytesOf, strOfNums]
        omega
      rw [e]
      exact Kd.R_of_own (own_lit w w.heap.size 5 .u8 [(l0.length : Int) % 256] (Nat.le_refl _) (by simp)) (fun _ _ => trivial)
    have HL0 := Aside0.mk hl0
    clear hl0
    go_loopw [3, 4] (fun v3 v4 wr => ∃ k : Nat, k ≤ l0.length ∧ v4 = .int .i64 k ∧ Aside0 (Kd.R (Kd.int .u8) 5 wr w.heap.size (fun _ => True) v3 (bytesOf (fieldsFrom (strOfNums [(l0.length : Int) % 256]) (l0.take k)))) ∧ Aside0 (Below w.heap.size w wr)) (fun v3 v4 _ => l0.length - (intOf v4).toNat)
    case atStart => exact ⟨0, Nat.zero_le _, rfl, HL0, ⟨(Below.refl _ w).alloc (Nat.le_refl _) _⟩⟩
    case round =>
      clear HB0 HL0
      obtain ⟨k, hk, rfl, HI, HB⟩ := hrel
      have hfs := fieldsFrom_size (l0.take k) (strOfNums [(l0.length : Int) % 256]) fun t ht => HS.out t (List.mem_of_mem_take ht)
      rw [List.length_take] at hfs
      have ha1 : (strOfNums [(l0.length : Int) % 256]).size = 1 := rfl
      rw [ha1] at hfs
      by_cases hlt : k < l0.length
      · have c1 : decide ((k : Int) < (l0.length : Int)) = true := decide_eq_true (by omega)
        have p1 : 0 ≤ (k : Int) := by omega
        have q1 : (k : Int) < (l0.length : Int) := by omega
        obtain ⟨ad, e, hx⟩ := Kd.at_string HR.out (k : Int) p1 q1
        cases e
        have et : rdOf ByteArray.empty l0 (k : Int) = l0[k] := by unfold rdOf; rw [Int.toNat_natCast]; simp [List.getD_eq_getElem?_getD, hlt]
        rw [et, Int.toNat_natCast] at hx
        have htk : l0.take (k + 1) = l0.take k ++ [l0[k]] := List.take_succ_eq_append_getElem hlt
        have hts := HS.out l0[k] (List.getElem_mem hlt)
        clear et
        generalize l0[k] = t at hx htk hts
        obtain ⟨K, hK⟩ := l01Number_two (t.size : Int) (by omega) (by omega)
        have hK2 := Aside0.mk (hK K (Nat.le_refl _))
        clear hK
        have HX := Aside0.mk hx
        replace hx := pw_cell_below HB.out hx
        have HTK := Aside0.mk htk
        have HFS := Aside0.mk hfs
        clear htk hfs
        replace p1 := eq_true p1
        replace q1 := eq_true q1
        go_wp2_with fail
        go_region_held3 (fun w' => w'.cell? (ad.add k) = some (.string t)) (assumption)
          (first
            | (go_at_call 156; refine (spec_l01Number.calls K _ _ _ _ hK2.out).mono ?_; rintro e w2 ⟨v21, rfl, ho2, hb2⟩; have HB2 := (show Aside0 (Below w.heap.size w w2) from by first | exact Aside0.mk (below_step HB.out hb2) | exact Aside0.mk (below_step (below_drew HB.out) hb2)); have HI2 := (by first | exact Aside0.mk (Kd.R_below HI.out hb2) | exact Aside0.mk (Kd.R_below (Kd.R_drew HI.out) hb2)); obtain ⟨A21, c21, rfl, hle21, hC21⟩ := Kd.R_reads ho2; have HC21 := Aside0.mk hC21; have hx2 : w2.cell? (ad.add k) = some (.string t) := pw_cell_below HB2.out HX.out; clear hb2 ho2 hC21; dsimp only)
            | (refine Kd.R_append_rows_step (Kd.int .u8) (w0 := w) w.heap.size (by rfl) (.tmp 15) (.tmp 21) 52 5 (.int .u8 0) 1 (by rfl) Try.underlying52 info5 rfl (by decide) (by decide) _ _ _ _ _ _ (fun _ => True) (fun _ => False) (by rfl) (by rfl) HI2.out HC21.out (fun _ _ h => h) (fun _ h => h.elim) (fun _ _ => trivial) HB2.out HB2.out.size (by have := HFS.out; rw [bytesOf_length, bytesOf_length, numT_size]; omega) ?_; intro v22 w3 ho3 hb3 hg3 hat3; have HB3 := Aside0.mk hb3; have HI3 := Aside0.mk ho3; have hx3 : w3.cell? (ad.add k) = some (.string t) := pw_cell_below HB3.out HX.out; clear hb3 ho3 hg3 hat3)
            | (refine R_append_str_step (w0 := w) w.heap.size (by rfl) (.tmp 22) (.tmp 26) 52 9 5 (by rfl) Try.underlying52 Try.underlying9 info5 _ _ t (by rfl) (by rfl) HI3.out HB3.out HB3.out.size (by have := HFS.out; rw [List.length_append, bytesOf_length, bytesOf_length, numT_size]; omega) ?_; intro v27 w4 ho4 hb4 hg4; have HB4 := Aside0.mk hb4; have HI4 := Aside0.mk ho4; have hx4 : w4.cell? (ad.add k) = some (.string t) := pw_cell_below HB4.out HX.out; clear hb4 ho4 hg4)
            | fail)
        go_wp2_with fail
        refine ⟨⟨k + 1, by omega, rfl, ⟨?_⟩, ⟨HB4.out⟩⟩, by simp [intOf]; omega⟩
        have e : bytesOf (fieldsFrom (strOfNums [(l0.length : Int) % 256]) (l0.take (k + 1))) = bytesOf (fieldsFrom (strOfNums [(l0.length : Int) % 256]) (l0.take k)) ++ bytesOf (numT (t.size : Int)) ++ bytesOf t := by
          rw [HTK.out, fieldsFrom_snoc, bytesOf_append, bytesOf_append, List.append_assoc]
        rw [e]
        exact HI4.out
      · have e : k = l0.length := by omega
        have c1 : decide ((k : Int) < (l0.length : Int)) = false := decide_eq_false (by omega)
        have e9 : l0.take k = l0 := by rw [e, List.take_length]
        rw [e9] at HI
        go_wp2_with fail
        go_ret
        exact ⟨_, rfl, HI.out, HB.out⟩
  · rw [if_neg hs] at h
    cases h
end Go.Proofs.Ytenfomejccfkgaa.X
namespace Go.Proofs.Ytenfomejccfkgaa.X
open Go.RowKit Go.Proofs.YtenfomejccfkgaaW.PrintWords Go.Proofs.YtenfomejccfkgaaW.PrintLast Go.Proofs.YtenfomejccfkgaaW.PrintMore
attribute [local go_sem] xbin_geq xbin_leq xbin_gtr max2_int min2_int max_two min_two max_three min_three max_four min_four
set_option linter.unusedVariables false
set_option linter.unusedSimpArgs false
def numO (n : Int) : ByteArray := strOfNums [n % 256]
def numF (n : Int) : ByteArray := strOfNums [n / 256 / 256 / 256 % 256, n / 256 / 256 % 256, n / 256 % 256, n % 256]
theorem numO_size (n : Int) : (numO n).size = 1 := rfl
theorem numF_size (n : Int) : (numF n).size = 4 := rfl
theorem numO_bytes (n : Int) : bytesOf (numO n) = [n % 256] := by
  unfold numO strOfNums bytesOf
  simp
  omega
theorem numF_bytes (n : Int) : bytesOf (numF n) = [n / 256 / 256 / 256 % 256, n / 256 / 256 % 256, n / 256 % 256, n % 256] := by
  unfold numF strOfNums bytesOf
  simp
  omega
theorem inBytes_one (n : Int) : Ev (fun k => impl_inBytes.f k n 1) (numO n) := by
  unfold impl_inBytes.f
  refine Ev.pos (by omega) (Ev.pos (by omega) ?_)
  rw [show (1 : Int).toNat = 1 from rfl, show List.replicate 1 (0 : Int) = [0] from rfl, wrap_id (x := 1 - 1) (by omega) (by omega)]
  refine Ev.succ ?_
  simp only [impl_inBytes.l0]
  refine Ev.pos (by omega) (Ev.pos (by omega) (Ev.pos (by simp) ?_))
  rw [wrap_id (x := 1 - 1 - 1) (by omega) (by omega)]
  refine Ev.succ ?_
  simp only [impl_inBytes.l0]
  exact Ev.neg (by omega) (Ev.is rfl)
theorem inBytes_four (n : Int) : Ev (fun k => impl_inBytes.f k n 4) (numF n) := by
  unfold impl_inBytes.f
  refine Ev.pos (by omega) (Ev.pos (by omega) ?_)
  rw [show (4 : Int).toNat = 4 from rfl, show List.replicate 4 (0 : Int) = [0, 0, 0, 0] from rfl, wrap_id (x := 4 - 1) (by omega) (by omega)]
  refine Ev.succ ?_
  simp only [impl_inBytes.l0]
  refine Ev.pos (by omega) (Ev.pos (by omega) (Ev.pos (by simp) ?_))
  rw [wrap_id (x := 4 - 1 - 1) (by omega) (by omega)]
  refine Ev.succ ?_
  simp only [impl_inBytes.l0]
  refine Ev.pos (by omega) (Ev.pos (by omega) (Ev.pos (by simp) ?_))
  rw [wrap_id (x := 4 - 1 - 1 - 1) (by omega) (by omega)]
  refine Ev.succ ?_
  simp only [impl_inBytes.l0]
  refine Ev.pos (by omega) (Ev.pos (by omega) (Ev.pos (by simp) ?_))
  rw [wrap_id (x := 4 - 1 - 1 - 1 - 1) (by omega) (by omega)]
  refine Ev.succ ?_
  simp only [impl_inBytes.l0]
  refine Ev.pos (by omega) (Ev.pos (by omega) (Ev.pos (by simp) ?_))
  rw [wrap_id (x := 4 - 1 - 1 - 1 - 1 - 1) (by omega) (by omega)]
  refine Ev.succ ?_
  simp only [impl_inBytes.l0]
  exact Ev.neg (by omega) (Ev.is rfl)
theorem byte_shr32 (n : Int) (h0 : 0 ≤ n) (h1 : n < 4294967296) : (shr .i64 n (IntKind.u64.wrap (wrap64 (8 * 3)))) % 256 = n / 256 / 256 / 256 % 256 ∧ (shr .i64 n (IntKind.u64.wrap (wrap64 (8 * 2)))) % 256 = n / 256 / 256 % 256 ∧ (shr .i64 n (IntKind.u64.wrap (wrap64 (8 * 1)))) % 256 = n / 256 % 256 ∧ (shr .i64 n (IntKind.u64.wrap (wrap64 (8 * 0)))) % 256 = n % 256 := by
  have a3 : IntKind.u64.wrap (wrap64 (8 * 3)) = 24 := by decide +kernel
  have a2 : IntKind.u64.wrap (wrap64 (8 * 2)) = 16 := by decide +kernel
  have a1 : IntKind.u64.wrap (wrap64 (8 * 1)) = 8 := by decide +kernel
  have a0 : IntKind.u64.wrap (wrap64 (8 * 0)) = 0 := by decide +kernel
  rw [a3, a2, a1, a0]
  have b3 : shr .i64 n 24 = n / 16777216 := rfl
  have b2 : shr .i64 n 16 = n / 65536 := rfl
  have b1 : shr .i64 n 8 = n / 256 := rfl
  have b0 : shr .i64 n 0 = n / 1 := rfl
  rw [b3, b2, b1, b0]
  omega
theorem l01Number_four (n : Int) (h0 : 0 ≤ n) (h1 : n < 4294967296) : Ev (fun k => spec_l01Number.f k n 4) (bytesOf (numF n)) := by
  unfold spec_l01Number.f
  obtain ⟨e3, e2, e1, e0⟩ := byte_shr32 n h0 h1
  rw [wrap_id (x := 4 - 1) (by omega) (by omega), show (4 - 1 : Int) = 3 from rfl]
  refine Ev.succ ?_
  simp only [spec_l01Number.l0]
  refine Ev.pos (by omega) (Ev.pos (by decide +kernel) (Ev.pos (by simp) ?_))
  rw [wrap_id (x := 3 - 1) (by omega) (by omega), show (3 - 1 : Int) = 2 from rfl]
  refine Ev.succ ?_
  simp only [spec_l01Number.l0]
  refine Ev.pos (by omega) (Ev.pos (by decide +kernel) (Ev.pos (by simp) ?_))
  rw [wrap_id (x := 2 - 1) (by omega) (by omega), show (2 - 1 : Int) = 1 from rfl]
  refine Ev.succ ?_
  simp only [spec_l01Number.l0]
  refine Ev.pos (by omega) (Ev.pos (by decide +kernel) (Ev.pos (by simp) ?_))
  rw [wrap_id (x := 1 - 1) (by omega) (by omega), show (1 - 1 : Int) = 0 from rfl]
  refine Ev.succ ?_
  simp only [spec_l01Number.l0]
  refine Ev.pos (by omega) (Ev.pos (by decide +kernel) (Ev.pos (by simp) ?_))
  rw [wrap_id (x := 0 - 1) (by omega) (by omega)]
  refine Ev.succ ?_
  simp only [spec_l01Number.l0]
  refine Ev.neg (by omega) (Ev.is ?_)
  rw [numF_bytes, e3, e2, e1, e0]
  rfl
end Go.Proofs.Ytenfomejccfkgaa.X
namespace Go.Proofs.Ytenfomejccfkgaa.X
open Go.RowKit Go.Proofs.YtenfomejccfkgaaW.PrintWords Go.Proofs.YtenfomejccfkgaaW.PrintLast Go.Proofs.YtenfomejccfkgaaW.PrintMore
attribute [local go_sem] xbin_geq xbin_leq xbin_gtr max2_int min2_int max_two min_two max_three min_three max_four min_four
set_option linter.unusedVariables false
set_option linter.unusedSimpArgs false
mutual
def impl_crc.l0 : Nat → Int → List Int → Int → Int → Option (Int)
 | 0, _, _, _, _ => none
 | k + 1, x3, x6, x7, x8 => if x8 < x7 then (if 0 ≤ x8 then (if x8 < (x6.length : Int) then (impl_crc.l1 k (Go.bits .xor .u32 x3 ((rd x6 x8) % 4294967296)) x6 x7 x8 0) else (none)) else (none)) else (some (wrap64 (Go.bits .xor .u32 IntKind.u32.max x3)))
def impl_crc.l1 : Nat → Int → List Int → Int → Int → Int → Option (Int)
 | 0, _, _, _, _, _ => none
 | k + 1, x3, x6, x7, x8, x16 => if x16 < 8 then (impl_crc.l1 k (Go.bits .xor .u32 (x3 / 2) ((3988292384 * (Go.bits .and .u32 x3 1)) % 4294967296)) x6 x7 x8 (wrap64 (x16 + 1))) else (impl_crc.l0 k x3 x6 x7 (wrap64 (x8 + 1)))
end
def impl_crc.f (k : Nat) (l0 : List Int) : Option (Int) := impl_crc.l0 k 4294967295 l0 (l0.length : Int) 0
theorem impl_crc.mono_l : ∀ k, (∀ y0 y1 y2 y3, LeO (impl_crc.l0 k y0 y1 y2 y3) (impl_crc.l0 (k + 1) y0 y1 y2 y3)) ∧ (∀ y0 y1 y2 y3 y4, LeO (impl_crc.l1 k y0 y1 y2 y3 y4) (impl_crc.l1 (k + 1) y0 y1 y2 y3 y4))
 | 0 => ⟨fun _ _ _ _ r h => by simp [impl_crc.l0] at h, fun _ _ _ _ _ r h => by simp [impl_crc.l1] at h⟩
 | k + 1 => by
  obtain ⟨ih0, ih1⟩ := impl_crc.mono_l k
  refine ⟨?_, ?_⟩
  ·intro y0 y1 y2 y3
   unfold impl_crc.l0
   repeat' first
   | (with_reducible exact ih0 _ _ _ _)
   | (with_reducible exact ih1 _ _ _ _ _)
   | (with_reducible exact LeO.refl _)
   | (with_reducible exact LeO.none _)
   | (with_reducible refine LeO.ite ?_ ?_)
   | (with_reducible refine LeO.bind ?_ (fun _ => ?_))
   | exact ih0 _ _ _ _
   | exact ih1 _ _ _ _ _
   | exact LeO.none _
   | refine LeO.ite ?_ ?_
   | refine LeO.bind ?_ (fun _ => ?_)
  ·intro y0 y1 y2 y3 y4
   unfold impl_crc.l1
   repeat' first
   | (with_reducible exact ih0 _ _ _ _)
   | (with_reducible exact ih1 _ _ _ _ _)
   | (with_reducible exact LeO.refl _)
   | (with_reducible exact LeO.none _)
   | (with_reducible refine LeO.ite ?_ ?_)
   | (with_reducible refine LeO.bind ?_ (fun _ => ?_))
   | exact ih0 _ _ _ _
   | exact ih1 _ _ _ _ _
   | exact LeO.none _
   | refine LeO.ite ?_ ?_
   | refine LeO.bind ?_ (fun _ => ?_)
theorem impl_crc.mono : ∀ a0 k, LeO (impl_crc.f k a0) (impl_crc.f (k + 1) a0) := by
 intro a0 k
 obtain ⟨ih0, ih1⟩ := impl_crc.mono_l k
 unfold impl_crc.f
 repeat' first
   | (with_reducible exact ih0 _ _ _ _)
   | (with_reducible exact ih1 _ _ _ _ _)
   | (with_reducible exact LeO.refl _)
   | (with_reducible exact LeO.none _)
   | (with_reducible refine LeO.ite ?_ ?_)
   | (with_reducible refine LeO.bind ?_ (fun _ => ?_))
   | exact ih0 _ _ _ _
   | exact ih1 _ _ _ _ _
   | exact LeO.none _
   | refine LeO.ite ?_ ?_
   | refine LeO.bind ?_ (fun _ => ?_)
set_option maxHeartbeats 8000000 in
set_option maxRecDepth 100000 in
theorem impl_crc.calls (k : Nat) (A0 : Option Addr) (c0 : Nat) (l0 : List Int) (r : Int) (w : World) (hr0 : Kd.C (Kd.int .u8) w A0 l0.length l0) (hc0 : l0.length ≤ c0) (h : impl_crc.f k l0 = some r) :
  Calls Try.prog 187 #[.slice A0 l0.length c0] w fun e w' => e = .returned (.int .i64 r) ∧ Drawn0 w w' := by
 have HR0 := Aside0.mk hr0
 have HC0 := Aside0.mk hc0
 clear hr0 hc0
 have H : (impl_crc.l0 k 4294967295 l0 (l0.length : Int) 0) = some r := h
 clear h
 have H' := Aside0.mk H
 clear H
 go_enter Try.func187, Try.ntmps187
 go_wp2
 go_loopg [3, 8] k (fun kq v3 v8 w' => ∃ (x3_1 : Int) (x8_1 : Int), v3 = .int .u32 x3_1 ∧ v8 = .int .i64 x8_1 ∧ Aside0 (impl_crc.l0 kq x3_1 l0 (l0.length : Int) x8_1 = some r) ∧ Aside0 (kq ≤ k) ∧ Drawn0 w w')
 case atStart => exact ⟨(4294967295), (0), (by first | rfl | (simp; done) | (simp [*]; done)), (by first | rfl | (simp; done) | (simp [*]; done)), H', ⟨Nat.le_refl _⟩, by repeat (first | exact Drawn0.refl _ | apply Drawn0.step)⟩
 case round =>
  clear H'
  try clear c1
  obtain ⟨x3_1, x8_1, rfl, rfl, HA, HK1, ⟨m1, rfl⟩⟩ := hrel
  cases gk with
  | zero => exact absurd HA.out (by simp [impl_crc.l0])
  | succ k1 =>
   have H := HA.out
   clear HA
   simp only [impl_crc.l0] at H
   by_cases c2 : x8_1 < (l0.length : Int)
   ·rw [if_pos c2] at H
    have c2b0 : decide (x8_1 < (l0.length : Int)) = true := decide_eq_true c2
    clear c2
    by_cases c3 : 0 ≤ x8_1
    ·rw [if_pos c3] at H
     have c3b0 : decide (0 ≤ x8_1) = true := decide_eq_true c3
     clear c3
     by_cases c4 : x8_1 < (l0.length : Int)
     ·rw [if_pos c4] at H
      have c4b0 : decide (x8_1 < (l0.length : Int)) = true := decide_eq_true c4
      clear c4
      have H' := Aside0.mk H
      clear H
      have p338 : 0 ≤ (x8_1 : Int) := of_decide_eq_true (by first | (with_reducible assumption) | assumption)
      have q338 : x8_1 < (l0.length : Int) := of_decide_eq_true (by first | (with_reducible assumption) | assumption)
      obtain ⟨ad338, e338, hx338_0⟩ := Kd.at_int HR0.out x8_1 p338 q338
      cases e338
      replace p338 := eq_true p338
      replace q338 := eq_true q338
      go_wp2
      go_loopg [3, 16] k1 (fun kq v3 v16 w' => ∃ (x3_2 : Int) (x16_2 : Int), v3 = .int .u32 x3_2 ∧ v16 = .int .i64 x16_2 ∧ Aside0 (impl_crc.l1 kq x3_2 l0 (l0.length : Int) x8_1 x16_2 = some r) ∧ Aside0 (kq ≤ k1) ∧ Drawn0 w w')
      case atStart => exact ⟨(Go.bits .xor .u32 x3_1 ((rd l0 x8_1) % 4294967296)), (0), (by first | rfl | (simp; done) | (simp [*]; done)), (by first | rfl | (simp; done) | (simp [*]; done)), H', ⟨Nat.le_refl _⟩, by repeat (first | exact Drawn0.refl _ | apply Drawn0.step)⟩
      case round =>
       clear H'
       try clear c1
       try clear c2
       try clear c2b0
       try clear p2
       try clear c3
       try clear c3b0
       try clear p3
       try clear q3
       try clear hx3
       try clear c4
       try clear c4b0
       try clear hx338_0
       try clear p338
       try clear q338
       obtain ⟨x3_2, x16_2, rfl, rfl, HA, HK2, ⟨m2, rfl⟩⟩ := hrel
       cases gk with
       | zero => exact absurd HA.out (by simp [impl_crc.l1])
       | succ k2 =>
        have H := HA.out
        clear HA
        simp only [impl_crc.l1] at H
        by_cases c5 : x16_2 < 8
        ·rw [if_pos c5] at H
         have c5b0 : decide (x16_2 < 8) = true := decide_eq_true c5
         clear c5
         have H' := Aside0.mk H
         clear H
         go_wp2
         go_roundg k2
         case measure => have := HK1.out; have := HK2.out; omega
         case rel => exact ⟨(Go.bits .xor .u32 (x3_2 / 2) ((3988292384 * (Go.bits .and .u32 x3_2 1)) % 4294967296)), (wrap64 (x16_2 + 1)), (by first | rfl | (simp; done) | (simp [*]; done)), (by first | rfl | (simp; done) | (simp [*]; done)), H', ⟨by have := HK1.out; have := HK2.out; omega⟩, by repeat (first | exact Drawn0.refl _ | apply Drawn0.step)⟩
        ·rw [if_neg c5] at H
         have c5b0 : decide (x16_2 < 8) = false := decide_eq_false c5
         clear c5
         have H' := Aside0.mk H
         clear H
         go_wp2
         go_roundg k2
         case measure => have := HK1.out; have := HK2.out; omega
         case rel => exact ⟨(x3_2), (wrap64 (x8_1 + 1)), (by first | rfl | (simp; done) | (simp [*]; done)), (by first | rfl | (simp; done) | (simp [*]; done)), H', ⟨by have := HK1.out; have := HK2.out; omega⟩, by repeat (first | exact Drawn0.refl _ | apply Drawn0.step)⟩
     ·rw [if_neg c4] at H
      exact absurd H (by simp)
    ·rw [if_neg c3] at H
     exact absurd H (by simp)
   ·rw [if_neg c2] at H
    have c2b0 : decide (x8_1 < (l0.length : Int)) = false := decide_eq_false c2
    clear c2
    obtain rfl := Option.some.inj H
    go_wp2
    go_ret
    exact ⟨by first | rfl | (simp; done) | (simp [*]; done), by repeat (first | exact Drawn0.refl _ | apply Drawn0.step)⟩
end Go.Proofs.Ytenfomejccfkgaa.X
namespace Go.Proofs.Ytenfomejccfkgaa.X
open Go.RowKit Go.Proofs.YtenfomejccfkgaaW.PrintWords Go.Proofs.YtenfomejccfkgaaW.PrintLast Go.Proofs.YtenfomejccfkgaaW.PrintMore
attribute [local go_sem] xbin_geq xbin_leq xbin_gtr max2_int min2_int max_two min_two max_three min_three max_four min_four
set_option linter.unusedVariables false
set_option linter.unusedSimpArgs false
def stepN (x : Nat) : Nat := (x / 2) ^^^ (3988292384 * (x % 2))
def step4 (x : Nat) : Nat := stepN (stepN (stepN (stepN x)))
def step8 (x : Nat) : Nat := step4 (step4 x)
def nib (r x : Nat) : Nat := (r / 16) ^^^ step4 ((r ^^^ x) % 16)
def crcF (r : Nat) : List Int → Nat
  | [] => r
  | c :: l => crcF (step8 (r ^^^ c.toNat)) l
theorem stepN_xor (x y : Nat) : stepN (x ^^^ y) = stepN x ^^^ stepN y := by
  unfold stepN
  have e : (x ^^^ y) % 2 = (x % 2) ^^^ (y % 2) := Nat.xor_mod_two_pow (n := 1)
  rw [Nat.xor_div_two, e]
  rcases Nat.mod_two_eq_zero_or_one x with hx | hx <;> rcases Nat.mod_two_eq_zero_or_one y with hy | hy <;> rw [hx, hy]
  · simp
  · simp [Nat.xor_assoc]
  · simp only [Nat.mul_one, Nat.mul_zero, Nat.xor_zero]
    rw [Nat.xor_assoc, Nat.xor_assoc, Nat.xor_comm (y / 2)]
  · simp only [Nat.mul_one, Nat.mul_zero, Nat.xor_zero, Nat.xor_self]
    rw [Nat.xor_assoc, Nat.xor_comm 3988292384, Nat.xor_assoc, Nat.xor_self, Nat.xor_zero]
theorem step4_xor (x y : Nat) : step4 (x ^^^ y) = step4 x ^^^ step4 y := by
  unfold step4
  simp only [stepN_xor]
theorem stepN_even (y : Nat) : stepN (2 * y) = y := by
  unfold stepN
  rw [show 2 * y / 2 = y by omega, show 2 * y % 2 = 0 by omega]
  simp
theorem step4_high (q : Nat) : step4 (16 * q) = q := by
  unfold step4
  rw [show 16 * q = 2 * (2 * (2 * (2 * q))) by omega, stepN_even, stepN_even, stepN_even, stepN_even]
theorem split16 (r : Nat) : r = (16 * (r / 16)) ^^^ (r % 16) := by
  have hs : r % 16 < 2 ^ 4 := by omega
  have e : r = 2 ^ 4 * (r / 16) + r % 16 := by omega
  have e2 : 16 * (r / 16) = 2 ^ 4 * (r / 16) := by omega
  rw [e2]
  refine Nat.eq_of_testBit_eq fun j => ?_
  rw [Nat.testBit_xor, Nat.testBit_two_pow_mul]
  conv => lhs; rw [e, Nat.testBit_two_pow_mul_add _ hs]
  by_cases hj : j < 4
  · simp [hj, show ¬ 4 ≤ j by omega]
  · have hz : (r % 16).testBit j = false := Nat.testBit_lt_two_pow (Nat.lt_of_lt_of_le hs (Nat.pow_le_pow_right (by omega) (by omega)))
    rw [hz]
    simp [hj, show 4 ≤ j by omega]
theorem step4_is (r : Nat) : step4 r = (r / 16) ^^^ step4 (r % 16) := by
  conv => lhs; rw [split16 r]
  rw [step4_xor, step4_high]
theorem xor_div16 (a b : Nat) : (a ^^^ b) / 16 = a / 16 ^^^ b / 16 := Nat.xor_div_two_pow (n := 4)
theorem step8_nib (r c : Nat) (hc : c < 256) : step8 (r ^^^ c) = nib (nib r c) (c / 16) := by
  have h1 : step4 (r ^^^ c) = nib r c ^^^ c / 16 := by
    rw [step4_is, xor_div16]
    unfold nib
    rw [Nat.xor_assoc, Nat.xor_assoc, Nat.xor_comm (c / 16)]
  unfold step8
  rw [h1, step4_is, xor_div16, show c / 16 / 16 = 0 by omega, Nat.xor_zero]
  rfl
theorem stepN_lt {x : Nat} (h : x < 4294967296) : stepN x < 4294967296 := by
  unfold stepN
  refine Nat.xor_lt_two_pow (n := 32) (by omega) ?_
  rcases Nat.mod_two_eq_zero_or_one x with hx | hx <;> rw [hx] <;> decide
theorem step4_lt {x : Nat} (h : x < 4294967296) : step4 x < 4294967296 := stepN_lt (stepN_lt (stepN_lt (stepN_lt h)))
theorem step8_lt {x : Nat} (h : x < 4294967296) : step8 x < 4294967296 := step4_lt (step4_lt h)
def isByte (c : Int) : Prop := 0 ≤ c ∧ c < 256
theorem xor_byte_lt {r : Nat} (h : r < 4294967296) {c : Int} (hc : isByte c) : r ^^^ c.toNat < 4294967296 := Nat.xor_lt_two_pow (n := 32) h (by have := hc.1; have := hc.2; omega)
theorem crcF_lt (l : List Int) : ∀ r, r < 4294967296 → (∀ c, c ∈ l → isByte c) → crcF r l < 4294967296 := by
  induction l with
  | nil => intro r h _; exact h
  | cons c l ih => intro r h hl; exact ih _ (step8_lt (xor_byte_lt h (hl c List.mem_cons_self))) fun x hx => hl x (List.mem_cons_of_mem _ hx)
theorem crcF_append (l m : List Int) : ∀ r, crcF r (l ++ m) = crcF (crcF r l) m := by
  induction l with
  | nil => intro r; rfl
  | cons c l ih => intro r; exact ih _
def sumOf32 (l : List Int) : Int := ((4294967295 ^^^ crcF 4294967295 l : Nat) : Int)
theorem bits_step (n : Nat) (h : n < 4294967296) : Go.bits .xor .u32 ((n : Int) / 2) ((3988292384 * (Go.bits .and .u32 (n : Int) 1)) % 4294967296) = ((stepN n : Nat) : Int) := by
  have e1 : Go.bits .and .u32 (n : Int) 1 = ((n % 2 : Nat) : Int) := by
    have := u32_and_nat n 1 h (by decide)
    rw [Nat.and_one_is_mod] at this
    exact this
  rw [e1]
  have e2 : (3988292384 * ((n % 2 : Nat) : Int)) % 4294967296 = ((3988292384 * (n % 2) : Nat) : Int) := by
    rcases Nat.mod_two_eq_zero_or_one n with hx | hx <;> rw [hx] <;> decide
  have e3 : (n : Int) / 2 = ((n / 2 : Nat) : Int) := by omega
  rw [e2, e3, u32_xor_nat _ _ (by omega) (by rcases Nat.mod_two_eq_zero_or_one n with hx | hx <;> rw [hx] <;> decide)]
  rfl
def stepTimes : Nat → Nat → Nat
  | 0, x => x
  | d + 1, x => stepTimes d (stepN x)
theorem crc_inner (l : List Int) (n : Int) (i : Int) (d : Nat) : ∀ (x : Nat) (j : Nat) (R : Int), j + d = 8 → x < 4294967296 → Ev (fun k => impl_crc.l0 k ((stepTimes d x : Nat) : Int) l n (wrap64 (i + 1))) R → Ev (fun k => impl_crc.l1 k (x : Int) l n i (j : Int)) R := by
  induction d with
  | zero =>
    intro x j R hj _ h
    refine Ev.succ ?_
    simp only [impl_crc.l1]
    exact Ev.neg (by omega) h
  | succ d ih =>
    intro x j R hj hx h
    refine Ev.succ ?_
    simp only [impl_crc.l1, bits_step x hx, wrap_at (n := j) (by omega)]
    exact Ev.pos (by omega) (ih _ (j + 1) R (by omega) (stepN_lt hx) h)
theorem crc_outer (l : List Int) (hl : l.length < 9223372036854775807) (rest : List Int) : ∀ (pre : List Int) (r : Nat), l = pre ++ rest → r < 4294967296 → (∀ c, c ∈ rest → isByte c) →
    Ev (fun k => impl_crc.l0 k (r : Int) l (l.length : Int) ((pre.length : Nat) : Int)) ((4294967295 ^^^ crcF r rest : Nat) : Int) := by
  induction rest with
  | nil =>
    intro pre r h hr _
    refine Ev.succ ?_
    simp only [impl_crc.l0]
    have hx : 4294967295 ^^^ r < 4294967296 := Nat.xor_lt_two_pow (n := 32) (by decide) hr
    have e1 : Go.bits .xor .u32 IntKind.u32.max (r : Int) = ((4294967295 ^^^ r : Nat) : Int) := u32_xor_nat 4294967295 r (by decide) hr
    exact Ev.neg (by rw [h]; simp) (Ev.is (by rw [e1, wrap_id (by omega) (by omega)]; rfl))
  | cons c m ih =>
    intro pre r h hr hb
    have hc := hb c List.mem_cons_self
    have hlen : pre.length < l.length := by rw [h]; simp
    have hx : rd l ((pre.length : Nat) : Int) = c := by rw [h]; simp [rd, List.getD_eq_getElem?_getD]
    have hi := ih (pre ++ [c]) (step8 (r ^^^ c.toNat)) (by rw [h]; simp) (step8_lt (xor_byte_lt hr hc)) fun x hx => hb x (List.mem_cons_of_mem _ hx)
    rw [← len_snoc] at hi
    have e1 : Go.bits .xor .u32 (r : Int) (c % 4294967296) = ((r ^^^ c.toNat : Nat) : Int) := by
      have h1 := hc.1
      have h2 := hc.2
      have e : c % 4294967296 = ((c.toNat : Nat) : Int) := by omega
      rw [e, u32_xor_nat _ _ hr (by omega)]
    refine Ev.succ ?_
    simp only [impl_crc.l0, hx, e1]
    refine Ev.pos (by omega) (Ev.pos (by omega) (Ev.pos (by omega) ?_))
    refine crc_inner l _ _ 8 _ 0 _ rfl (xor_byte_lt hr hc) ?_
    rw [wrap_at (n := pre.length) (by omega)]
    exact hi
theorem impl_crc_is (l : List Int) (hl : l.length < 9223372036854775807) (hb : ∀ c, c ∈ l → isByte c) : Ev (fun k => impl_crc.f k l) (sumOf32 l) := by
  unfold impl_crc.f
  exact crc_outer l hl l [] 4294967295 rfl (by decide) hb
end Go.Proofs.Ytenfomejccfkgaa.X
