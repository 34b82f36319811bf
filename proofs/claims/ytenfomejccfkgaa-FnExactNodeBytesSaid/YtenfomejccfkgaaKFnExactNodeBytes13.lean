import Derived.Test.YtenfomejccfkgaaKFnExactNodeBytes3
import Derived.Test.YtenfomejccfkgaaKFnExactNodeBytes4
import Derived.Test.YtenfomejccfkgaaKFnExactNodeBytes7
import Derived.Test.YtenfomejccfkgaaKFnExactNodeBytes11
import Derived.Test.YtenfomejccfkgaaKFnExactNodeBytes12
import Derived.LoopTactic
import Derived.BigQuiet
import Derived.Deep.RegionHeld3
import Derived.Lib.ConvBytes
namespace Go.Proofs.Ytenfomejccfkgaa.X
open Go.RowKit Go.Proofs.YtenfomejccfkgaaW.PrintWords Go.Proofs.YtenfomejccfkgaaW.PrintLast Go.Proofs.YtenfomejccfkgaaW.PrintMore
attribute [local go_sem] qaE qaF qaG qaz qaA qaS qaT qau qav qaB qaC
set_option linter.unusedVariables false
set_option linter.unusedSimpArgs false
set_option maxRecDepth 100000
theorem qgD (n : Int) (h0 : 0 ≤ n) (h1 : n ≤ 1000000) : (shr .i64 n (IntKind.u64.wrap (wrap64 (8 * 1)))) % 256 = n / 256 % 256 ∧ (shr .i64 n (IntKind.u64.wrap (wrap64 (8 * 0)))) % 256 = n % 256 := by
 have e1 : IntKind.u64.wrap (wrap64 (8 * 1)) = 8 := by decide +kernel
 have e2 : IntKind.u64.wrap (wrap64 (8 * 0)) = 0 := by decide +kernel
 rw [e1, e2]
 exact ⟨rfl, congrArg (· % 256) (Int.ediv_one n)⟩
theorem qfW (n : Int) : bytesOf (numT n) = [n / 256 % 256, n % 256] := by
 unfold numT strOfNums bytesOf
 simp
 omega
theorem qeC (n : Int) (h0 : 0 ≤ n) (h1 : n ≤ 1000000) : Ev (fun k => qay.f k n 2) (bytesOf (numT n)) := by
 unfold qay.f
 obtain ⟨e1, e2⟩ := qgD n h0 h1
 rw [qbw (x := 2 - 1) (by omega) (by omega)]
 refine Ev.succ ?_
 simp only [qay.l0]
 refine Ev.pos (by omega) (Ev.pos (by decide +kernel) (Ev.pos (by simp) ?_))
 rw [qbw (x := 2 - 1 - 1) (by omega) (by omega)]
 refine Ev.succ ?_
 simp only [qay.l0]
 refine Ev.pos (by omega) (Ev.pos (by decide +kernel) (Ev.pos (by simp) ?_))
 rw [qbw (x := 2 - 1 - 1 - 1) (by omega) (by omega)]
 refine Ev.succ ?_
 simp only [qay.l0]
 refine Ev.neg (by omega) (Ev.is ?_)
 rw [qfW, show (2 - 1 : Int) = 1 from rfl, show (1 - 1 : Int) = 0 from rfl, e1, e2]
 rfl
section
variable {P : Program} {ops : Array Oper} {o : Oper} {a : Act} {Q : Exit → Act → World → Prop} {Kc : Act → World → Prop}
theorem qdk {w0 W : World} (base : Nat) (hw : Region.wanted o (yielded ops a.tmps) = true) (s x : Operand) (t u e : TypeId)
  (ho : o.op = .call { callee := .builtin .append, args := #[s, x], argTypes := #[t, u] })
  (ht : P.underlying t = some (.slice e)) (hu : P.underlying u = some .string) (hinfo : (P.info? e).map (fun i => (i.zero, i.size, i.bytes)) = some (some (.int .u8 0), 1, 1))
  (v : Value) (xs : List Int) (y : ByteArray) (hs : a.eval s = v) (hx : a.eval x = .string y)
  (HO : (Kd.int .u8).R e W base (fun _ => True) v xs) (HB : Below base w0 W) (hbase : base ≤ W.heap.size) (hl : xs.length + y.size ≤ 140737488355328)
  (h : ∀ v1 w1, (Kd.int .u8).R e w1 base (fun _ => True) v1 (xs ++ bytesOf y) → Below base w0 w1 → W.grownBy w1 v.ownBlock → Kc (a.put o.dst v1) w1) :
  if Region.wanted o (yielded ops a.tmps) = true then Oper.wp P o a W Kc Q else Kc (a.put o.dst undef) W := by
 obtain ⟨i0, hi, hzz⟩ := Option.map_eq_some_iff.1 hinfo
 simp only [Prod.mk.injEq] at hzz
 obtain ⟨hz0, hz1, hz2⟩ := hzz
 have HO2 := Kd.qcA HO
 obtain ⟨v1, w1, hr, hown, hg, _⟩ := Lib.run_append_own_string (P := P) W base t u o.type e i0 ht hu hi hz0 hz1 hz2 v xs.length _ HO2 y (by simp only [maxLen]; omega) hl hbase
 have hl2 : (xs ++ bytesOf y).length = xs.length + y.size := by rw [List.length_append, bytesOf_length]
 have hc : encs (Value.int .u8) (xs ++ bytesOf y) = encs (Value.int .u8) xs ++ Lib.strCells y := by
  rw [qfd]
  congr 1
  simp [encs, bytesOf, Lib.strCells]
 have hR : (Kd.int .u8).R e w1 base (fun _ => True) v1 (xs ++ bytesOf y) := Kd.qet (by rw [hl2, hc]; exact hown) (fun _ _ => trivial)
 have hK := h v1 w1 hR (HB.grown hg hbase (qcx HO2)) hg
 rw [if_pos hw]
 unfold Oper.wp
 simp [execOp, ho, resolve, invoke, builtin, hs, hx, hr, Result.andThen]
 exact hK
end
theorem qcf (a b : ByteArray) : bytesOf (a ++ b) = bytesOf a ++ bytesOf b := by
 unfold bytesOf
 rw [ByteArray.data_append, Array.toList_append, List.map_append]
def qbZ.f (l0 : List ByteArray) : Option (List Int) := if l0.length ≤ 1000000 ∧ (∀ t, t ∈ l0 → t.size ≤ 1000000) then some (bytesOf (qcl l0)) else none
set_option maxHeartbeats 4000000 in
theorem qbZ.calls (A0 : Option Addr) (c0 : Nat) (l0 : List ByteArray) (r : List Int) (w : World) (hr0 : Kd.C Kd.string w A0 l0.length l0) (hc0 : l0.length ≤ c0) (h : qbZ.f l0 = some r) :
  Calls Try.prog 127 #[.slice A0 l0.length c0] w fun e w' => ∃ v0_ : Value, e = .returned (v0_) ∧ Kd.R (Kd.int .u8) 5 w' w.heap.size (fun _ => True) v0_ r ∧ Below w.heap.size w w' := by
 unfold qbZ.f at h
 by_cases hs : l0.length ≤ 1000000 ∧ (∀ t, t ∈ l0 → t.size ≤ 1000000)
 ·rw [if_pos hs] at h
  obtain rfl := Option.some.inj h
  obtain ⟨hs1, hs2⟩ := hs
  have HS := Aside0.mk hs2
  have HR := Aside0.mk hr0
  have HB0 := Aside0.mk (Below.refl w.heap.size w)
  clear hr0 h hs2
  have hb0 : (l0.length : Int) % 256 = (l0.length : Int) % 256 := rfl
  go_enter Try.func127, Try.ntmps127
  go_wp2_with fail
  have hl0 : Kd.R (Kd.int .u8) 5 (w.alloc (.cells #[.int .u8 ((l0.length : Int) % 256)] 5 (0, 0))) w.heap.size (fun _ => True) (.slice (some ⟨w.heap.size, 0, none⟩) 1 1) (bytesOf (qbu (strOfNums [(l0.length : Int) % 256]) (l0.take 0))) := by
   have e : bytesOf (qbu (strOfNums [(l0.length : Int) % 256]) (l0.take 0)) = [(l0.length : Int) % 256] := by
    rw [List.take_zero]
    show bytesOf (strOfNums [(l0.length : Int) % 256]) = _
    simp [bytesOf, strOfNums]
    omega
   rw [e]
   exact Kd.qet (own_lit w w.heap.size 5 .u8 [(l0.length : Int) % 256] (Nat.le_refl _) (by simp)) (fun _ _ => trivial)
  have HL0 := Aside0.mk hl0
  clear hl0
  go_loopw [3, 4] (fun v3 v4 wr => ∃ k : Nat, k ≤ l0.length ∧ v4 = .int .i64 k ∧ Aside0 (Kd.R (Kd.int .u8) 5 wr w.heap.size (fun _ => True) v3 (bytesOf (qbu (strOfNums [(l0.length : Int) % 256]) (l0.take k)))) ∧ Aside0 (Below w.heap.size w wr)) (fun v3 v4 _ => l0.length - (intOf v4).toNat)
  case atStart => exact ⟨0, Nat.zero_le _, rfl, HL0, ⟨(Below.refl _ w).alloc (Nat.le_refl _) _⟩⟩
  case round =>
   clear HB0 HL0
   obtain ⟨k, hk, rfl, HI, HB⟩ := hrel
   have hfs := qcm (l0.take k) (strOfNums [(l0.length : Int) % 256]) fun t ht => HS.out t (List.mem_of_mem_take ht)
   rw [List.length_take] at hfs
   have ha1 : (strOfNums [(l0.length : Int) % 256]).size = 1 := rfl
   rw [ha1] at hfs
   by_cases hlt : k < l0.length
   ·have c1 : decide ((k : Int) < (l0.length : Int)) = true := decide_eq_true (by omega)
    have p1 : 0 ≤ (k : Int) := by omega
    have q1 : (k : Int) < (l0.length : Int) := by omega
    obtain ⟨ad, e, hx⟩ := Kd.qbn HR.out (k : Int) p1 q1
    cases e
    have et : rdOf ByteArray.empty l0 (k : Int) = l0[k] := by unfold rdOf; rw [Int.toNat_natCast]; simp [List.getD_eq_getElem?_getD, hlt]
    rw [et, Int.toNat_natCast] at hx
    have htk : l0.take (k + 1) = l0.take k ++ [l0[k]] := List.take_succ_eq_append_getElem hlt
    have hts := HS.out l0[k] (List.getElem_mem hlt)
    clear et
    generalize l0[k] = t at hx htk hts
    obtain ⟨K, hK⟩ := qeC (t.size : Int) (by omega) (by omega)
    have hK2 := Aside0.mk (hK K (Nat.le_refl _))
    clear hK
    have HX := Aside0.mk hx
    replace hx := qbL HB.out hx
    have HTK := Aside0.mk htk
    have HFS := Aside0.mk hfs
    clear htk hfs
    replace p1 := eq_true p1
    replace q1 := eq_true q1
    go_wp2_with fail
    go_region_held3 (fun w' => w'.cell? (ad.add k) = some (.string t)) (assumption)
     (first
      | (go_at_call 156; refine (qay.calls K _ _ _ _ hK2.out).mono ?_; rintro e w2 ⟨v21, rfl, ho2, hb2⟩; have HB2 := (show Aside0 (Below w.heap.size w w2) from by first | exact Aside0.mk (qag HB.out hb2) | exact Aside0.mk (qag (qcc HB.out) hb2)); have HI2 := (by first | exact Aside0.mk (Kd.qbe HI.out hb2) | exact Aside0.mk (Kd.qbe (Kd.qa9 HI.out) hb2)); obtain ⟨A21, c21, rfl, hle21, hC21⟩ := Kd.qbM ho2; have HC21 := Aside0.mk hC21; have hx2 : w2.cell? (ad.add k) = some (.string t) := qbL HB2.out HX.out; clear hb2 ho2 hC21; dsimp only)
      | (refine Kd.qcb (Kd.int .u8) (w0 := w) w.heap.size (by rfl) (.tmp 15) (.tmp 21) 52 5 (.int .u8 0) 1 (by rfl) Try.underlying52 info5 rfl (by decide) (by decide) _ _ _ _ _ _ (fun _ => True) (fun _ => False) (by rfl) (by rfl) HI2.out HC21.out (fun _ _ h => h) (fun _ h => h.elim) (fun _ _ => trivial) HB2.out HB2.out.size (by have := HFS.out; rw [bytesOf_length, bytesOf_length, qdf]; omega) ?_; intro v22 w3 ho3 hb3 hg3 hat3; have HB3 := Aside0.mk hb3; have HI3 := Aside0.mk ho3; have hx3 : w3.cell? (ad.add k) = some (.string t) := qbL HB3.out HX.out; clear hb3 ho3 hg3 hat3)
      | (refine qdk (w0 := w) w.heap.size (by rfl) (.tmp 22) (.tmp 26) 52 9 5 (by rfl) Try.underlying52 Try.underlying9 info5 _ _ t (by rfl) (by rfl) HI3.out HB3.out HB3.out.size (by have := HFS.out; rw [List.length_append, bytesOf_length, bytesOf_length, qdf]; omega) ?_; intro v27 w4 ho4 hb4 hg4; have HB4 := Aside0.mk hb4; have HI4 := Aside0.mk ho4; have hx4 : w4.cell? (ad.add k) = some (.string t) := qbL HB4.out HX.out; clear hb4 ho4 hg4)
      | fail)
    go_wp2_with fail
    refine ⟨⟨k + 1, by omega, rfl, ⟨?_⟩, ⟨HB4.out⟩⟩, by simp [intOf]; omega⟩
    have e : bytesOf (qbu (strOfNums [(l0.length : Int) % 256]) (l0.take (k + 1))) = bytesOf (qbu (strOfNums [(l0.length : Int) % 256]) (l0.take k)) ++ bytesOf (numT (t.size : Int)) ++ bytesOf t := by
     rw [HTK.out, qcM, qcf, qcf, List.append_assoc]
    rw [e]
    exact HI4.out
   ·have e : k = l0.length := by omega
    have c1 : decide ((k : Int) < (l0.length : Int)) = false := decide_eq_false (by omega)
    have e9 : l0.take k = l0 := by rw [e, List.take_length]
    rw [e9] at HI
    go_wp2_with fail
    go_ret
    exact ⟨_, rfl, HI.out, HB.out⟩
 ·rw [if_neg hs] at h
  cases h
end Go.Proofs.Ytenfomejccfkgaa.X
namespace Go.Proofs.Ytenfomejccfkgaa.X
open Go.RowKit Go.Proofs.YtenfomejccfkgaaW.PrintWords Go.Proofs.YtenfomejccfkgaaW.PrintLast Go.Proofs.YtenfomejccfkgaaW.PrintMore
attribute [local go_sem] qaE qaF qaG qaz qaA qaS qaT qau qav qaB qaC
set_option linter.unusedVariables false
set_option linter.unusedSimpArgs false
def numF (n : Int) : ByteArray := strOfNums [n / 256 / 256 / 256 % 256, n / 256 / 256 % 256, n / 256 % 256, n % 256]
theorem qdP (n : Int) : (numF n).size = 4 := rfl
theorem qfX (n : Int) : bytesOf (numF n) = [n / 256 / 256 / 256 % 256, n / 256 / 256 % 256, n / 256 % 256, n % 256] := by
 unfold numF strOfNums bytesOf
 simp
 omega
theorem qe7 (n : Int) : Ev (fun k => qaO.f k n 4) (numF n) := by
 unfold qaO.f
 refine Ev.pos (by omega) (Ev.pos (by omega) ?_)
 rw [show (4 : Int).toNat = 4 from rfl, show List.replicate 4 (0 : Int) = [0, 0, 0, 0] from rfl, qbw (x := 4 - 1) (by omega) (by omega)]
 refine Ev.succ ?_
 simp only [qaO.l0]
 refine Ev.pos (by omega) (Ev.pos (by omega) (Ev.pos (by simp) ?_))
 rw [qbw (x := 4 - 1 - 1) (by omega) (by omega)]
 refine Ev.succ ?_
 simp only [qaO.l0]
 refine Ev.pos (by omega) (Ev.pos (by omega) (Ev.pos (by simp) ?_))
 rw [qbw (x := 4 - 1 - 1 - 1) (by omega) (by omega)]
 refine Ev.succ ?_
 simp only [qaO.l0]
 refine Ev.pos (by omega) (Ev.pos (by omega) (Ev.pos (by simp) ?_))
 rw [qbw (x := 4 - 1 - 1 - 1 - 1) (by omega) (by omega)]
 refine Ev.succ ?_
 simp only [qaO.l0]
 refine Ev.pos (by omega) (Ev.pos (by omega) (Ev.pos (by simp) ?_))
 rw [qbw (x := 4 - 1 - 1 - 1 - 1 - 1) (by omega) (by omega)]
 refine Ev.succ ?_
 simp only [qaO.l0]
 exact Ev.neg (by omega) (Ev.is rfl)
theorem qfY (n : Int) (h0 : 0 ≤ n) (h1 : n < 4294967296) : (shr .i64 n (IntKind.u64.wrap (wrap64 (8 * 3)))) % 256 = n / 256 / 256 / 256 % 256 ∧ (shr .i64 n (IntKind.u64.wrap (wrap64 (8 * 2)))) % 256 = n / 256 / 256 % 256 ∧ (shr .i64 n (IntKind.u64.wrap (wrap64 (8 * 1)))) % 256 = n / 256 % 256 ∧ (shr .i64 n (IntKind.u64.wrap (wrap64 (8 * 0)))) % 256 = n % 256 := by
 have a3 : IntKind.u64.wrap (wrap64 (8 * 3)) = 24 := by decide +kernel
 have a2 : IntKind.u64.wrap (wrap64 (8 * 2)) = 16 := by decide +kernel
 have a1 : IntKind.u64.wrap (wrap64 (8 * 1)) = 8 := by decide +kernel
 have a0 : IntKind.u64.wrap (wrap64 (8 * 0)) = 0 := by decide +kernel
 rw [a3, a2, a1, a0]
 have b3 : shr .i64 n 24 = n / 16777216 := rfl
 have b2 : shr .i64 n 16 = n / 65536 := rfl
 have b1 : shr .i64 n 8 = n / 256 := rfl
 have b0 : shr .i64 n 0 = n / 1 := rfl
 rw [b3, b2, b1, b0]
 omega
theorem qeb (n : Int) (h0 : 0 ≤ n) (h1 : n < 4294967296) : Ev (fun k => qay.f k n 4) (bytesOf (numF n)) := by
 unfold qay.f
 obtain ⟨e3, e2, e1, e0⟩ := qfY n h0 h1
 rw [qbw (x := 4 - 1) (by omega) (by omega), show (4 - 1 : Int) = 3 from rfl]
 refine Ev.succ ?_
 simp only [qay.l0]
 refine Ev.pos (by omega) (Ev.pos (by decide +kernel) (Ev.pos (by simp) ?_))
 rw [qbw (x := 3 - 1) (by omega) (by omega), show (3 - 1 : Int) = 2 from rfl]
 refine Ev.succ ?_
 simp only [qay.l0]
 refine Ev.pos (by omega) (Ev.pos (by decide +kernel) (Ev.pos (by simp) ?_))
 rw [qbw (x := 2 - 1) (by omega) (by omega), show (2 - 1 : Int) = 1 from rfl]
 refine Ev.succ ?_
 simp only [qay.l0]
 refine Ev.pos (by omega) (Ev.pos (by decide +kernel) (Ev.pos (by simp) ?_))
 rw [qbw (x := 1 - 1) (by omega) (by omega), show (1 - 1 : Int) = 0 from rfl]
 refine Ev.succ ?_
 simp only [qay.l0]
 refine Ev.pos (by omega) (Ev.pos (by decide +kernel) (Ev.pos (by simp) ?_))
 rw [qbw (x := 0 - 1) (by omega) (by omega)]
 refine Ev.succ ?_
 simp only [qay.l0]
 refine Ev.neg (by omega) (Ev.is ?_)
 rw [qfX, e3, e2, e1, e0]
 rfl
end Go.Proofs.Ytenfomejccfkgaa.X
namespace Go.Proofs.Ytenfomejccfkgaa.X
open Go.RowKit Go.Proofs.YtenfomejccfkgaaW.PrintWords Go.Proofs.YtenfomejccfkgaaW.PrintLast Go.Proofs.YtenfomejccfkgaaW.PrintMore
attribute [local go_sem] qaE qaF qaG qaz qaA qaS qaT qau qav qaB qaC
set_option linter.unusedVariables false
set_option linter.unusedSimpArgs false
theorem qcO (s : ByteArray) : ∀ c, c ∈ bytesOf s → isByte c := by
 intro c hc
 unfold bytesOf at hc
 obtain ⟨b, _, rfl⟩ := List.mem_map.1 hc
 have := b.toNat_lt
 exact ⟨by omega, by omega⟩
def qce.f (a0 : ByteArray) : Option Int := if a0.size ≤ 1000000000 then some (qcn (bytesOf a0)) else none
set_option maxRecDepth 100000 in
set_option maxHeartbeats 2000000 in
theorem qce.calls (a0 : ByteArray) (r : Int) (w : World) (h : qce.f a0 = some r) :
  Calls Try.prog 165 #[.string a0] w fun e w' => e = .returned (.int .i64 r) ∧ Below w.heap.size w w' := by
 unfold qce.f at h
 by_cases hs : a0.size ≤ 1000000000
 ·rw [if_pos hs] at h
  obtain rfl := Option.some.inj h
  clear h
  obtain ⟨K, hK⟩ := qfr (bytesOf a0) (by rw [bytesOf_length]; omega) (qcO a0)
  have hK2 := Aside0.mk (hK K (Nat.le_refl _))
  clear hK
  have kb := fun W => qdv (P := Try.prog) 9 52 5 Try.underlying9 Try.underlying52 Try.underlying5 a0 W
  go_enter Try.func165, Try.ntmps165
  go_wp2_with fail
  have hc : Kd.C (Kd.int .u8) (Lib.bytesWorld w 5 a0) (some ⟨w.heap.size, 0, none⟩) (bytesOf a0).length (bytesOf a0) := by
   rw [bytesOf_length]
   exact Kd.qei (qfc w 5 a0 (by omega))
  have hl : (bytesOf a0).length ≤ grownCap w a0.size 0 5 := by rw [bytesOf_length]; exact grownCap_ge _ _ _ _
  have hq := qbg.calls K _ _ _ _ _ hc hl hK2.out
  rw [bytesOf_length] at hq
  refine hq.mono ?_
  rintro e w1 ⟨rfl, hd⟩
  go_wp2_with fail
  go_ret
  exact ⟨rfl, (qdw (Below.refl _ w) (Nat.le_refl _) _ a0).trans (by have := hd.below; exact this.mono (by rw [Lib.bytesWorld_size]; omega))⟩
 ·rw [if_neg hs] at h
  cases h
end Go.Proofs.Ytenfomejccfkgaa.X
namespace Go.Proofs.Ytenfomejccfkgaa.X
open Go.RowKit Go.Proofs.YtenfomejccfkgaaW.PrintWords Go.Proofs.YtenfomejccfkgaaW.PrintLast Go.Proofs.YtenfomejccfkgaaW.PrintMore
attribute [local go_sem] qaE qaF qaG qaz qaA qaS qaT qau qav qaB qaC
set_option linter.unusedVariables false
set_option linter.unusedSimpArgs false
def qbC.f (k : Nat) (l0 : List Int) : Option (List Int) := (qbX.f l0).bind fun t372 => ((qay.f k t372 4).bind fun t373 => (if l0.length + t373.length < 140737488355328 then (some (l0 ++ t373)) else (none)))
theorem qbC.mono : ∀ a0 k, LeO (qbC.f k a0) (qbC.f (k + 1) a0) := by
 intro a0 k
 unfold qbC.f
 repeat' first
   | (with_reducible exact qay.mono _ _ _)
   | (with_reducible exact LeO.refl _)
   | (with_reducible exact LeO.none _)
   | (with_reducible refine LeO.ite ?_ ?_)
   | (with_reducible refine LeO.bind ?_ (fun _ => ?_))
   | exact qay.mono _ _ _
   | exact LeO.none _
   | refine LeO.ite ?_ ?_
   | refine LeO.bind ?_ (fun _ => ?_)
set_option maxHeartbeats 8000000 in
set_option maxRecDepth 100000 in
theorem qbC.calls (k : Nat) (P0_ : Nat → Prop) (u9000_ : Value) (l0 : List Int) (r : List Int) (w0 w : World) (hB : Below w0.heap.size w0 w) (ho0 : Kd.R (Kd.int .u8) 5 w w0.heap.size P0_ u9000_ l0) (h : qbC.f k l0 = some r) :
  Calls Try.prog 126 #[u9000_] w fun e w' => ∃ v0_ : Value, e = .returned (v0_) ∧ Kd.R (Kd.int .u8) 5 w' w0.heap.size (fun k_ => (P0_ k_ ∨ w.heap.size ≤ k_)) v0_ r ∧ Below w0.heap.size w0 w' ∧ Kept w w' (fun k_ => P0_ k_) := by
 have HO0 := Aside0.mk (show Kd.R (Kd.int .u8) 5 w w0.heap.size (fun k_ => (P0_ k_ ∨ w.heap.size ≤ k_)) u9000_ l0 from Kd.qbp ho0 (fun k_ hk => (.inl hk)))
 have HK := Aside0.mk (Kept.refl w (fun k_ => P0_ k_))
 have HW0 := Aside0.mk hB.size
 have HB := Aside0.mk hB
 clear hB
 have H : ((qbX.f l0).bind fun t372 => ((qay.f k t372 4).bind fun t373 => (if l0.length + t373.length < 140737488355328 then (some (l0 ++ t373)) else (none)))) = some r := h
 clear h
 replace H := Option.bind_eq_some_iff.mp H
 obtain ⟨t372, A20, H⟩ := H
 replace H : ((qay.f k t372 4).bind fun t373 => (if l0.length + t373.length < 140737488355328 then (some (l0 ++ t373)) else (none))) = some r := H
 have A2 := Aside0.mk A20
 clear A20
 replace H := Option.bind_eq_some_iff.mp H
 obtain ⟨t373, A30, H⟩ := H
 replace H : (if l0.length + t373.length < 140737488355328 then (some (l0 ++ t373)) else (none)) = some r := H
 have A3 := Aside0.mk A30
 clear A30
 by_cases c4 : l0.length + t373.length < 140737488355328
 ·rw [if_pos c4] at H
  have LMc4 := Aside0.mk c4
  clear c4
  obtain ⟨y376, hy376⟩ : ∃ y_ : List Int, y_ = (l0 ++ t373) := ⟨_, rfl⟩
  replace H : (some y376) = some r := by first | (rw [hy376]; with_reducible exact H) | (have H2_ := (Option.bind_some _ _).symm.trans H; rw [hy376]; with_reducible exact H2_) | (have H2_ := (Option.bind_some _ _).symm.trans H; with_reducible exact H2_) | with_reducible exact H | (rw [hy376]; exact H) | exact H
  have Ny376 := Aside0.mk hy376
  clear hy376
  obtain rfl := Option.some.inj H
  obtain ⟨Ao5, co5, eo5⟩ := Kd.qbT HO0.out
  subst eo5
  go_enter Try.func126, Try.ntmps126
  go_wp2_with (first | ((with_reducible refine qaq (f := 163) rfl ?_); refine qbd (some 5) rfl rfl Try.func163 (by kernel_rfl) rfl #[.slice Ao5 l0.length co5] rfl (by (try simp only [List.map_toArray, List.map_cons, List.map_nil]); first | done | rfl | (simp only [List.length_drop, List.length_take]; rfl)) ?_; (with_reducible refine (qbX.calls _ _ l0 t372 _ ?side1 ?side2 A2.out).mono ?_); (case side1 => repeat (first | exact (Kd.qa3 HO0.out).2.2 | (with_reducible refine Kd.qaQ ?_ _) | (with_reducible refine Kd.qaR ?_ _) | (with_reducible refine Kd.qa6 ?_))); (case side2 => exact (Kd.qa3 HO0.out).2.1); rintro e w6 ⟨rfl, hb⟩; refine ⟨_, rfl, ?_⟩; have n0_ := Aside0.mk (Kd.qbe (by (with_reducible repeat (first | apply Kd.qaY | apply Kd.qa1 | apply Kd.qa9)); exact HO0.out) hb); have n1_ := Aside0.mk (Kept.below (S := (fun k_ => P0_ k_)) (by repeat (first | (with_reducible first | exact HK.out | apply Kept.alloc | apply Kept.drewN | apply Kept.drew) | exact HK.out)) hb); have n2_ := Aside0.mk (qag (by repeat (first | (with_reducible first | exact HB.out | apply qac | apply qaa | apply qab) | exact HB.out)) hb); clear HO0; clear HK; clear HB; have HO0 := n0_; have HK := n1_; have HB := n2_; clear n0_ n1_ n2_; (try clear hb); (try clear hb2); (try clear hk); (try clear hi)) | ((with_reducible refine qaq (f := 156) rfl ?_); refine qbd (some 6) rfl rfl Try.func156 (by kernel_rfl) rfl #[.int .i64 t372, .int .i64 4] rfl (by (try simp only [List.map_toArray, List.map_cons, List.map_nil]); first | done | rfl | (simp only [List.length_drop, List.length_take]; rfl)) ?_; (with_reducible refine (qay.calls k t372 4 t373 _ A3.out).mono ?_); rintro e w7 ⟨v374, rfl, ho0, hb⟩; refine ⟨_, rfl, ?_⟩; have n0_ := Aside0.mk (Kd.qfx (by (with_reducible repeat (first | apply Kd.qaY | apply Kd.qa1 | apply Kd.qa9)); exact HO0.out) (Kd.R_base ho0) hb); have n1_ := Aside0.mk (Kd.qbt (Kd.R_new' (Kd.R_newM (M := fun k_ => (P0_ k_ ∨ w.heap.size ≤ k_)) ho0 (by first | exact HK.out.1 | exact (show Kept w _ (fun k_ => P0_ k_) from by repeat (first | (with_reducible first | exact HK.out | apply Kept.alloc | apply Kept.drewN | apply Kept.drew) | exact HK.out)).1) (fun k_ h_ => .inr h_)) (Kd.R_lt (by (with_reducible repeat (first | apply Kd.qaY | apply Kd.qa1 | apply Kd.qa9)); exact HO0.out))) (qah (by repeat (first | (with_reducible first | exact HB.out | apply qac | apply qaa | apply qab) | exact HB.out)))); have n2_ := Aside0.mk (Kept.below (S := (fun k_ => P0_ k_)) (by repeat (first | (with_reducible first | exact HK.out | apply Kept.alloc | apply Kept.drewN | apply Kept.drew) | exact HK.out)) hb); have n3_ := Aside0.mk (qag (by repeat (first | (with_reducible first | exact HB.out | apply qac | apply qaa | apply qab) | exact HB.out)) hb); clear HO0; clear HK; clear HB; have HO0 := n0_; have HO375 := n1_; have HK := n2_; have HB := n3_; clear n0_ n1_ n2_ n3_; (try clear hb); (try clear hb2); (try clear hk); (try clear hi); (try clear ho0); obtain ⟨Ao9, co9, eo9⟩ := Kd.qbT HO375.out; subst eo9) | ((with_reducible refine qcL (b := .append) (xs := #[.tmp 3, .tmp 6]) rfl ?_); at_builtin; refine Kd.qcB (Kd.int .u8) (w0 := w0) w0.heap.size rfl (.tmp 3) (.tmp 6) 52 5 (.int .u8 0) 1 rfl Try.underlying52 info5 rfl (by decide) (by omega) (.slice Ao5 l0.length co5) l0 t373 _ _ _ (fun k_ => (P0_ k_ ∨ w.heap.size ≤ k_) ∧ some k_ ≠ (.slice Ao9 t373.length co9 : Value).ownBlock) (fun _ => False) rfl rfl ?aO ?aR (fun _ _ h => h) (fun _ h => h.elim) ?aF ?aB ?aS ?aL ?_; (case aR => repeat (first | exact (Kd.qa3 HO375.out).2.2 | (with_reducible refine Kd.qaQ ?_ _) | (with_reducible refine Kd.qaR ?_ _) | (with_reducible refine Kd.qa6 ?_))); (case aB => exact (by repeat (first | (with_reducible first | exact HB.out | apply qac | apply qaa | apply qab) | exact HB.out))); (case aF => exact (fun k_ hk => ⟨(.inr (Nat.le_trans (by first | exact HK.out.1 | exact (show Kept w _ (fun k_ => P0_ k_) from by repeat (first | (with_reducible first | exact HK.out | apply Kept.alloc | apply Kept.drewN | apply Kept.drew) | exact HK.out)).1) hk)), Kd.fresh' (Kd.R_lt (by (with_reducible repeat (first | apply Kd.qaY | apply Kd.qa1 | apply Kd.qa9)); exact HO375.out)) k_ hk⟩)); (case aO => exact (by (with_reducible repeat (first | apply Kd.qaY | apply Kd.qa1 | apply Kd.qa9)); exact HO0.out)); (case aS => exact (qah (by repeat (first | (with_reducible first | exact HB.out | apply qac | apply qaa | apply qab) | exact HB.out)))); (case aL => have := LMc4.out; omega); intro v377 w8 ho hb hg hat; rw [← Ny376.out] at ho; have n0_ := Aside0.mk (Kd.qga (ok := (fun k_ => (P0_ k_ ∨ w.heap.size ≤ k_))) (by (with_reducible repeat (first | apply Kd.qaY | apply Kd.qa1 | apply Kd.qa9)); exact Kd.qbp HO375.out (fun _ hk => ⟨hk.1.1, hk.2⟩)) hg hat); have n1_ := Aside0.mk (hb); have n2_ := Aside0.mk (Kept.qcy (S := (fun k_ => P0_ k_)) hg (by repeat (first | (with_reducible first | exact HK.out | apply Kept.alloc | apply Kept.drewN | apply Kept.drew) | exact HK.out)) (fun k_ e_ => (HO0.out.1 k_ e_).1)); have n3_ := Aside0.mk (ho); clear HO375; clear HB; clear HK; clear HO0; have HO375 := n0_; have HB := n1_; have HK := n2_; have HO378 := n3_; clear n0_ n1_ n2_ n3_; clear ho hb hg hat))
  go_ret
  exact ⟨_, by first | rfl | (simp [qai, qaj] <;> rfl) | (simp [*, qai, qaj] <;> rfl), by (with_reducible repeat (first | apply Kd.qaY | apply Kd.qa1 | apply Kd.qa9)); exact Kd.qbp HO378.out (fun _ hk => hk.1), by repeat (first | (with_reducible first | exact HB.out | apply qac | apply qaa | apply qab) | exact HB.out), by repeat (first | (with_reducible first | exact HK.out | apply Kept.alloc | apply Kept.drewN | apply Kept.drew) | exact HK.out)⟩
 ·rw [if_neg c4] at H
  exact absurd H (by simp)
end Go.Proofs.Ytenfomejccfkgaa.X
namespace Go.Proofs.Ytenfomejccfkgaa.X
open Go.RowKit Go.Proofs.YtenfomejccfkgaaW.PrintWords Go.Proofs.YtenfomejccfkgaaW.PrintLast Go.Proofs.YtenfomejccfkgaaW.PrintMore
attribute [local go_sem] qaE qaF qaG qaz qaA qaS qaT qau qav qaB qaC
set_option linter.unusedVariables false
set_option linter.unusedSimpArgs false
def qbj.f (k : Nat) (a0 : ByteArray) : Option (ByteArray) := (qce.f a0).bind fun t396 => ((qaO.f k t396 4).bind fun t397 => (if a0.size + t397.size ≤ 9223372036854775807 then (some (a0 ++ t397)) else (none)))
theorem qbj.mono : ∀ a0 k, LeO (qbj.f k a0) (qbj.f (k + 1) a0) := by
 intro a0 k
 unfold qbj.f
 repeat' first
   | (with_reducible exact qaO.mono _ _ _)
   | (with_reducible exact LeO.refl _)
   | (with_reducible exact LeO.none _)
   | (with_reducible refine LeO.ite ?_ ?_)
   | (with_reducible refine LeO.bind ?_ (fun _ => ?_))
   | exact qaO.mono _ _ _
   | exact LeO.none _
   | refine LeO.ite ?_ ?_
   | refine LeO.bind ?_ (fun _ => ?_)
set_option maxHeartbeats 8000000 in
set_option maxRecDepth 100000 in
theorem qbj.calls (k : Nat) (a0 : ByteArray) (r : ByteArray) (w : World) (h : qbj.f k a0 = some r) :
  Calls Try.prog 130 #[.string a0] w fun e w' => e = .returned (.string r) ∧ Below w.heap.size w w' := by
 have HB := Aside0.mk (Below.refl w.heap.size w)
 have H : ((qce.f a0).bind fun t396 => ((qaO.f k t396 4).bind fun t397 => (if a0.size + t397.size ≤ 9223372036854775807 then (some (a0 ++ t397)) else (none)))) = some r := h
 clear h
 replace H := Option.bind_eq_some_iff.mp H
 obtain ⟨t396, A20, H⟩ := H
 replace H : ((qaO.f k t396 4).bind fun t397 => (if a0.size + t397.size ≤ 9223372036854775807 then (some (a0 ++ t397)) else (none))) = some r := H
 have A2 := Aside0.mk A20
 clear A20
 replace H := Option.bind_eq_some_iff.mp H
 obtain ⟨t397, A30, H⟩ := H
 replace H : (if a0.size + t397.size ≤ 9223372036854775807 then (some (a0 ++ t397)) else (none)) = some r := H
 have A3 := Aside0.mk A30
 clear A30
 by_cases c4 : a0.size + t397.size ≤ 9223372036854775807
 ·rw [if_pos c4] at H
  have c4b0 := eq_true c4
  have c4b1 : decide (a0.size + t397.size ≤ 9223372036854775807) = true := decide_eq_true c4
  try have c4b2 : (9223372036854775807 < a0.size + t397.size) = False := eq_false (Nat.not_lt.2 c4)
  obtain rfl := Option.some.inj H
  go_enter Try.func130, Try.ntmps130
  go_wp2_with (first | ((with_reducible refine qaq (f := 165) rfl ?_); refine qbd (some 5) rfl rfl Try.func165 (by kernel_rfl) rfl #[.string a0] rfl (by (try simp only [List.map_toArray, List.map_cons, List.map_nil]); first | done | rfl | (simp only [List.length_drop, List.length_take]; rfl)) ?_; (with_reducible refine (qce.calls a0 t396 _ A2.out).mono ?_); rintro e w5 ⟨rfl, hb⟩; refine ⟨_, rfl, ?_⟩; have n0_ := Aside0.mk (qag (by repeat (first | (with_reducible first | exact HB.out | apply qac | apply qaa | apply qab) | exact HB.out)) hb); clear HB; have HB := n0_; clear n0_; (try clear hb); (try clear hb2); (try clear hk); (try clear hi)) | ((with_reducible refine qaq (f := 160) rfl ?_); refine qbd (some 6) rfl rfl Try.func160 (by kernel_rfl) rfl #[.int .i64 t396, .int .i64 4] rfl (by (try simp only [List.map_toArray, List.map_cons, List.map_nil]); first | done | rfl | (simp only [List.length_drop, List.length_take]; rfl)) ?_; (with_reducible refine (qaO.calls k t396 4 t397 _ A3.out).mono ?_); rintro e w6 ⟨rfl, hb⟩; refine ⟨_, rfl, ?_⟩; have n0_ := Aside0.mk (qag (by repeat (first | (with_reducible first | exact HB.out | apply qac | apply qaa | apply qab) | exact HB.out)) hb); clear HB; have HB := n0_; clear n0_; (try clear hb); (try clear hb2); (try clear hk); (try clear hi)))
  go_ret
  exact ⟨by first | rfl | (simp [qai, qaj] <;> rfl) | (simp [*, qai, qaj] <;> rfl), by repeat (first | (with_reducible first | exact HB.out | apply qac | apply qaa | apply qab) | exact HB.out)⟩
 ·rw [if_neg c4] at H
  exact absurd H (by simp)
end Go.Proofs.Ytenfomejccfkgaa.X
namespace Go.Proofs.Ytenfomejccfkgaa.X
open Go.RowKit Go.Proofs.YtenfomejccfkgaaW.PrintWords Go.Proofs.YtenfomejccfkgaaW.PrintLast Go.Proofs.YtenfomejccfkgaaW.PrintMore
attribute [local go_sem] qaE qaF qaG qaz qaA qaS qaT qau qav qaB qaC
set_option linter.unusedVariables false
set_option linter.unusedSimpArgs false
def sealT (t : ByteArray) : ByteArray := t ++ numF (qcn (bytesOf t))
theorem qgE (l : List Int) (h : ∀ c, c ∈ l → isByte c) : 0 ≤ qcn l ∧ qcn l < 4294967296 := by
 unfold qcn
 have h := qgx l 4294967295 (by omega) h
 have := Nat.xor_lt_two_pow (n := 32) (show 4294967295 < 2 ^ 32 by omega) h
 omega
theorem qeo (t : ByteArray) : (sealT t).size = t.size + 4 := by
 unfold sealT
 rw [ByteArray.size_append, qdP]
theorem qgF (t : ByteArray) (h : t.size ≤ 1000000000) : Ev (fun k => qbj.f k t) (sealT t) := by
 unfold qbj.f
 refine Ev.bindk (a := qcn (bytesOf t)) ?_ (Ev.bind (qe7 _) (Ev.pos (by rw [qdP]; omega) (Ev.is rfl)))
 unfold qce.f
 rw [if_pos h]
theorem qgG (t : ByteArray) (h : t.size ≤ 1000000000) : Ev (fun k => qbC.f k (bytesOf t)) (bytesOf (sealT t)) := by
 unfold qbC.f
 have hr := qgE (bytesOf t) (qcO t)
 refine Ev.bindk (a := qcn (bytesOf t)) ?_ (Ev.bind (qeb _ hr.1 hr.2) (Ev.pos (by rw [bytesOf_length, bytesOf_length, qdP]; omega) (Ev.is (by unfold sealT; rw [qcf]))))
 unfold qbX.f
 rw [if_pos (show ∀ c, c ∈ bytesOf t → 0 ≤ c ∧ c < 256 from qcO t)]
end Go.Proofs.Ytenfomejccfkgaa.X
namespace Go.Proofs.Ytenfomejccfkgaa.X
open Go.RowKit Go.Proofs.YtenfomejccfkgaaW.PrintWords Go.Proofs.YtenfomejccfkgaaW.PrintLast Go.Proofs.YtenfomejccfkgaaW.PrintMore
attribute [local go_sem] qaE qaF qaG qaz qaA qaS qaT qau qav qaB qaC
set_option linter.unusedVariables false
set_option linter.unusedSimpArgs false
def qco (ps : List S99) (i : Nat) : List ByteArray := (ps.take i).flatMap fun p => [p.f0, p.f1]
def kidTo (ks : List Int) (ms : List ByteArray) (i : Nat) : List ByteArray := (List.range i).map fun (j : Nat) => strOfNums [rd ks (j : Int) % 256] ++ rdOf ByteArray.empty ms (j : Int)
def leadL (leaf : Bool) (ps : List S99) : List ByteArray := if leaf = true then qco ps ps.length else []
def nodeL (leaf : Bool) (ps : List S99) (ms : List ByteArray) (ks : List Int) : List ByteArray := leadL leaf ps ++ kidTo ks ms ks.length
def markN (leaf : Bool) : Int := if leaf = true then 108 else 105
def markT (leaf : Bool) : ByteArray := strOfNums [markN leaf]
def nodeT (leaf : Bool) (ps : List S99) (ms : List ByteArray) (ks : List Int) : ByteArray := sealT (markT leaf ++ qcl (nodeL leaf ps ms ks))
theorem qdQ (ps : List S99) (i : Nat) (h : i < ps.length) : qco ps (i + 1) = qco ps i ++ [ps[i].f0, ps[i].f1] := by
 unfold qco
 rw [← List.take_append_getElem h, List.flatMap_append]
 simp
theorem qep (ks : List Int) (ms : List ByteArray) (i : Nat) : kidTo ks ms (i + 1) = kidTo ks ms i ++ [strOfNums [rd ks (i : Int) % 256] ++ rdOf ByteArray.empty ms (i : Int)] := by
 unfold kidTo
 rw [List.range_succ, List.map_append]
 rfl
structure NodeFit (leaf : Bool) (ps : List S99) (ms : List ByteArray) (ks : List Int) : Prop where
 pl : ps.length ≤ 3
 kl : ks.length ≤ 4
 ml : ms.length = ks.length
 ok : leaf = true → ∀ p, p ∈ ps → okP p = true
 lk : leaf = true → ks = []
 me : ∀ i : Nat, i < ks.length → (rdOf ByteArray.empty ms (i : Int)).size ≤ 30
theorem qeD {leaf : Bool} {ps : List S99} {ms : List ByteArray} {ks : List Int} (h : nodeB leaf ps ms ks = true) (hf : freeB leaf ps ms ks = false) : NodeFit leaf ps ms ks := by
 unfold nodeB at h
 rw [hf, Bool.false_or] at h
 cases leaf with
 | true =>
  simp only [if_true, Bool.and_eq_true, decide_eq_true_eq, inB] at h
  obtain ⟨⟨h1, h2⟩, h3, h4, h5⟩ := h
  exact ⟨by omega, by omega, by omega, fun _ => (qgr.1 h3).2.1, fun _ => List.eq_nil_of_length_eq_zero h5, fun i hi => by omega⟩
 | false =>
  simp only [Bool.false_eq_true, if_false, Bool.and_eq_true, decide_eq_true_eq, inB] at h
  obtain ⟨h1, ⟨h2, h3⟩, h4, h5⟩ := h
  refine ⟨by omega, by omega, h4, (fun h => by cases h), (fun h => by cases h), fun i hi => ?_⟩
  have := allB_iff.1 h5 i hi
  unfold kidAt keyB at this
  simp only [Bool.and_eq_true, decide_eq_true_eq] at this
  exact this.2.1.2
theorem qdl {ps : List S99} (hp : ps.length ≤ 3) (hk : ∀ p, p ∈ ps → okP p = true) (i : Nat) : (qco ps i).length ≤ 6 ∧ ∀ t, t ∈ qco ps i → t.size ≤ 1000 := by
 have hl : ∀ l : List S99, (l.flatMap fun p => [p.f0, p.f1]).length = 2 * l.length := by
  intro l
  induction l with
  | nil => rfl
  | cons p l ih => rw [List.flatMap_cons, List.length_append, ih]; simp; omega
 refine ⟨by unfold qco; rw [hl, List.length_take]; omega, fun t ht => ?_⟩
 unfold qco at ht
 obtain ⟨p, hp1, hp2⟩ := List.mem_flatMap.1 ht
 have h := hk p (List.mem_of_mem_take hp1)
 unfold okP keyB at h
 simp only [Bool.and_eq_true, decide_eq_true_eq] at h
 rcases List.mem_cons.1 hp2 with rfl | hp2
 ·omega
 ·rcases List.mem_cons.1 hp2 with rfl | hp2
  ·omega
  ·cases hp2
theorem qdR {ks : List Int} {ms : List ByteArray} (hm : ∀ i : Nat, i < ks.length → (rdOf ByteArray.empty ms (i : Int)).size ≤ 30) (n : Nat) (hn : n ≤ ks.length) (hk : ks.length ≤ 4) : (kidTo ks ms n).length ≤ 4 ∧ ∀ t, t ∈ kidTo ks ms n → t.size ≤ 1000 := by
 refine ⟨by unfold kidTo; simp; omega, fun t ht => ?_⟩
 unfold kidTo at ht
 obtain ⟨i, hi, rfl⟩ := List.mem_map.1 ht
 have h := hm i (by have := List.mem_range.1 hi; omega)
 rw [ByteArray.size_append, show (strOfNums [rd ks (i : Int) % 256]).size = 1 from rfl]
 omega
theorem qfJ {leaf : Bool} {ps : List S99} {ms : List ByteArray} {ks : List Int} (h : NodeFit leaf ps ms ks) : (leadL leaf ps).length ≤ 6 ∧ ∀ t, t ∈ leadL leaf ps → t.size ≤ 1000 := by
 unfold leadL
 cases leaf with
 | true => exact qdl h.pl (h.ok rfl) _
 | false => exact ⟨by simp, fun t ht => by cases ht⟩
theorem qdS {leaf : Bool} {ps : List S99} {ms : List ByteArray} {ks : List Int} (h : NodeFit leaf ps ms ks) : (nodeL leaf ps ms ks).length ≤ 10 ∧ ∀ t, t ∈ nodeL leaf ps ms ks → t.size ≤ 1000 := by
 have h1 := qfJ h
 have h2 := qdR h.me ks.length (Nat.le_refl _) h.kl
 unfold nodeL
 exact ⟨by rw [List.length_append]; omega, fun t ht => (List.mem_append.1 ht).elim (h1.2 t) (h2.2 t)⟩
theorem qcj {leaf : Bool} {ps : List S99} {ms : List ByteArray} {ks : List Int} (h : NodeFit leaf ps ms ks) : (qcl (nodeL leaf ps ms ks)).size ≤ 100000000 := by
 have h1 := qdS h
 have hs := qcm (nodeL leaf ps ms ks) (strOfNums [((nodeL leaf ps ms ks).length : Int) % 256]) (fun t ht => by have := h1.2 t ht; omega)
 have e : (strOfNums [((nodeL leaf ps ms ks).length : Int) % 256]).size = 1 := rfl
 rw [e] at hs
 show (qbu _ _).size ≤ _
 have := h1.1
 omega
end Go.Proofs.Ytenfomejccfkgaa.X
namespace Go.Proofs.Ytenfomejccfkgaa.X
open Go.RowKit Go.Proofs.YtenfomejccfkgaaW.PrintWords Go.Proofs.YtenfomejccfkgaaW.PrintLast Go.Proofs.YtenfomejccfkgaaW.PrintMore
attribute [local go_sem] qaE qaF qaG qaz qaA qaS qaT qau qav qaB qaC
set_option linter.unusedVariables false
set_option linter.unusedSimpArgs false
def nbN (x : S56) : Bool := nodeB x.f0 x.f1 x.f2 x.f3
def fbN (x : S56) : Bool := freeB x.f0 x.f1 x.f2 x.f3
def goodW (ns : List S56) (k : Int) (s : List Bool) : Prop := 0 ≤ k ∧ k < (ns.length : Int) ∧ rdOf false s k = false ∧ nbN (rd_T56 ns k) = true ∧ fbN (rd_T56 ns k) = false
instance (ns : List S56) (k : Int) (s : List Bool) : Decidable (goodW ns k s) := by unfold goodW; infer_instance
structure WI (N M : Nat) (s : List Bool) (p : List S99) : Prop where
 len : s.length = N
 room : p.length + 3 * s.count false ≤ M
 good : ∀ q, q ∈ p → okP q = true
theorem on_ {b : Nat → Bool} {L : List (Nat × Tmp × Value)} {a a0 : Act} {i : Nat} {t : Tmp} {v : Value} (ha : a = qbR a0 b L) (k : Nat) (h : L[k]? = some (i, t, v)) (h2 : ((L.drop (k + 1)).all fun x => !(x.2.1 == t)) = true) (h3 : b i = true) (h4 : Nat.ble (t + 1) a0.tmps.size = true) : a.tmps[t]? = some v := by
 rw [ha]
 exact qeU (e := (i, t, v)) k h h2 h3 h4
end Go.Proofs.Ytenfomejccfkgaa.X
