import Derived.Test.YtlkdcicpaneakaaKFnExactReplayAll2
import Derived.Test.YtlkdcicpaneakaaKFnExactReplayAll3
import Derived.LoopTactic
import Derived.BigQuiet
import Derived.Deep.RegionHeld3
namespace Go.Proofs.Ytlkdcicpaneakaa.X
open Go.RowKit Go.Proofs.YtlkdcicpaneakaaW.PrintWords Go.Proofs.YtlkdcicpaneakaaW.PrintLast Go.Proofs.YtlkdcicpaneakaaW.PrintMore
attribute [local go_sem] qaA qaB qaC qaw qax qaH qaI qap qaq qay qaz
set_option linter.unusedVariables false
set_option linter.unusedSimpArgs false
set_option maxRecDepth 100000
theorem qiJ (n : Int) (h0 : 0 ≤ n) (h1 : n ≤ 1000000) : (shr .i64 n (IntKind.u64.wrap (wrap64 (8 * 1)))) % 256 = n / 256 % 256 ∧ (shr .i64 n (IntKind.u64.wrap (wrap64 (8 * 0)))) % 256 = n % 256 := by
 have e1 : IntKind.u64.wrap (wrap64 (8 * 1)) = 8 := by decide +kernel
 have e2 : IntKind.u64.wrap (wrap64 (8 * 0)) = 0 := by decide +kernel
 rw [e1, e2]
 exact ⟨rfl, congrArg (· % 256) (Int.ediv_one n)⟩
theorem qhJ (n : Int) : bytesOf (numT n) = [n / 256 % 256, n % 256] := by
 unfold numT strOfNums bytesOf
 simp
 omega
theorem qf4 (n : Int) (h0 : 0 ≤ n) (h1 : n ≤ 1000000) : Ev (fun k => qaG.f k n 2) (bytesOf (numT n)) := by
 unfold qaG.f
 obtain ⟨e1, e2⟩ := qiJ n h0 h1
 rw [qby (x := 2 - 1) (by omega) (by omega)]
 refine Ev.succ ?_
 simp only [qaG.l0]
 refine Ev.pos (by omega) (Ev.pos (by decide +kernel) (Ev.pos (by simp) ?_))
 rw [qby (x := 2 - 1 - 1) (by omega) (by omega)]
 refine Ev.succ ?_
 simp only [qaG.l0]
 refine Ev.pos (by omega) (Ev.pos (by decide +kernel) (Ev.pos (by simp) ?_))
 rw [qby (x := 2 - 1 - 1 - 1) (by omega) (by omega)]
 refine Ev.succ ?_
 simp only [qaG.l0]
 refine Ev.neg (by omega) (Ev.is ?_)
 rw [qhJ, show (2 - 1 : Int) = 1 from rfl, show (1 - 1 : Int) = 0 from rfl, e1, e2]
 rfl
section
variable {P : Program} {ops : Array Oper} {o : Oper} {a : Act} {Q : Exit → Act → World → Prop} {Kc : Act → World → Prop}
theorem qeC {w0 W : World} (base : Nat) (hw : Region.wanted o (yielded ops a.tmps) = true) (s x : Operand) (t u e : TypeId)
  (ho : o.op = .call { callee := .builtin .append, args := #[s, x], argTypes := #[t, u] })
  (ht : P.underlying t = some (.slice e)) (hu : P.underlying u = some .string) (hinfo : (P.info? e).map (fun i => (i.zero, i.size, i.bytes)) = some (some (.int .u8 0), 1, 1))
  (v : Value) (xs : List Int) (y : ByteArray) (hs : a.eval s = v) (hx : a.eval x = .string y)
  (HO : (Kd.int .u8).R e W base (fun _ => True) v xs) (HB : Below base w0 W) (hbase : base ≤ W.heap.size) (hl : xs.length + y.size ≤ 140737488355328)
  (h : ∀ v1 w1, (Kd.int .u8).R e w1 base (fun _ => True) v1 (xs ++ bytesOf y) → Below base w0 w1 → W.grownBy w1 v.ownBlock → Kc (a.put o.dst v1) w1) :
  if Region.wanted o (yielded ops a.tmps) = true then Oper.wp P o a W Kc Q else Kc (a.put o.dst undef) W := by
 obtain ⟨i0, hi, hzz⟩ := Option.map_eq_some_iff.1 hinfo
 simp only [Prod.mk.injEq] at hzz
 obtain ⟨hz0, hz1, hz2⟩ := hzz
 have HO2 := Kd.qel HO
 obtain ⟨v1, w1, hr, hown, hg, _⟩ := Lib.run_append_own_string (P := P) W base t u o.type e i0 ht hu hi hz0 hz1 hz2 v xs.length _ HO2 y (by simp only [maxLen]; omega) hl hbase
 have hl2 : (xs ++ bytesOf y).length = xs.length + y.size := by rw [List.length_append, bytesOf_length]
 have hc : encs (Value.int .u8) (xs ++ bytesOf y) = encs (Value.int .u8) xs ++ Lib.strCells y := by
  rw [qgO]
  congr 1
  simp [encs, bytesOf, Lib.strCells]
 have hR : (Kd.int .u8).R e w1 base (fun _ => True) v1 (xs ++ bytesOf y) := Kd.qfS (by rw [hl2, hc]; exact hown) (fun _ _ => trivial)
 have hK := h v1 w1 hR (HB.grown hg hbase (qd0 HO2)) hg
 rw [if_pos hw]
 unfold Oper.wp
 simp [execOp, ho, resolve, invoke, builtin, hs, hx, hr, Result.andThen]
 exact hK
end
theorem qbG (a b : ByteArray) : bytesOf (a ++ b) = bytesOf a ++ bytesOf b := by
 unfold bytesOf
 rw [ByteArray.data_append, Array.toList_append, List.map_append]
def qbd.f (l0 : List ByteArray) : Option (List Int) := if l0.length ≤ 1000000 ∧ (∀ t, t ∈ l0 → t.size ≤ 1000000) then some (bytesOf (qbV l0)) else none
set_option maxHeartbeats 4000000 in
theorem qbd.calls (A0 : Option Addr) (c0 : Nat) (l0 : List ByteArray) (r : List Int) (w : World) (hr0 : Kd.C Kd.string w A0 l0.length l0) (hc0 : l0.length ≤ c0) (h : qbd.f l0 = some r) :
  Calls Try.prog 32 #[.slice A0 l0.length c0] w fun e w' => ∃ v0_ : Value, e = .returned (v0_) ∧ Kd.R (Kd.int .u8) 5 w' w.heap.size (fun _ => True) v0_ r ∧ Below w.heap.size w w' := by
 unfold qbd.f at h
 by_cases hs : l0.length ≤ 1000000 ∧ (∀ t, t ∈ l0 → t.size ≤ 1000000)
 ·rw [if_pos hs] at h
  obtain rfl := Option.some.inj h
  obtain ⟨hs1, hs2⟩ := hs
  have HS := Aside0.mk hs2
  have HR := Aside0.mk hr0
  have HB0 := Aside0.mk (Below.refl w.heap.size w)
  clear hr0 h hs2
  have hb0 : (l0.length : Int) % 256 = (l0.length : Int) % 256 := rfl
  go_enter Try.func32, Try.ntmps32
  go_wp2_with fail
  have hl0 : Kd.R (Kd.int .u8) 5 (w.alloc (.cells #[.int .u8 ((l0.length : Int) % 256)] 5 (0, 0))) w.heap.size (fun _ => True) (.slice (some ⟨w.heap.size, 0, none⟩) 1 1) (bytesOf (qbB (strOfNums [(l0.length : Int) % 256]) (l0.take 0))) := by
   have e : bytesOf (qbB (strOfNums [(l0.length : Int) % 256]) (l0.take 0)) = [(l0.length : Int) % 256] := by
    rw [List.take_zero]
    show bytesOf (strOfNums [(l0.length : Int) % 256]) = _
    simp [bytesOf, strOfNums]
    omega
   rw [e]
   exact Kd.qfS (own_lit w w.heap.size 5 .u8 [(l0.length : Int) % 256] (Nat.le_refl _) (by simp)) (fun _ _ => trivial)
  have HL0 := Aside0.mk hl0
  clear hl0
  go_loopw [3, 4] (fun v3 v4 wr => ∃ k : Nat, k ≤ l0.length ∧ v4 = .int .i64 k ∧ Aside0 (Kd.R (Kd.int .u8) 5 wr w.heap.size (fun _ => True) v3 (bytesOf (qbB (strOfNums [(l0.length : Int) % 256]) (l0.take k)))) ∧ Aside0 (Below w.heap.size w wr)) (fun v3 v4 _ => l0.length - (intOf v4).toNat)
  case atStart => exact ⟨0, Nat.zero_le _, rfl, HL0, ⟨(Below.refl _ w).alloc (Nat.le_refl _) _⟩⟩
  case round =>
   clear HB0 HL0
   obtain ⟨k, hk, rfl, HI, HB⟩ := hrel
   have hfs := qdR (l0.take k) (strOfNums [(l0.length : Int) % 256]) fun t ht => HS.out t (List.mem_of_mem_take ht)
   rw [List.length_take] at hfs
   have ha1 : (strOfNums [(l0.length : Int) % 256]).size = 1 := rfl
   rw [ha1] at hfs
   by_cases hlt : k < l0.length
   ·have c1 : decide ((k : Int) < (l0.length : Int)) = true := decide_eq_true (by omega)
    have p1 : 0 ≤ (k : Int) := by omega
    have q1 : (k : Int) < (l0.length : Int) := by omega
    obtain ⟨ad, e, hx⟩ := Kd.qgi HR.out (k : Int) p1 q1
    cases e
    have et : rdOf ByteArray.empty l0 (k : Int) = l0[k] := by unfold rdOf; rw [Int.toNat_natCast]; simp [List.getD_eq_getElem?_getD, hlt]
    rw [et, Int.toNat_natCast] at hx
    have htk : l0.take (k + 1) = l0.take k ++ [l0[k]] := List.take_succ_eq_append_getElem hlt
    have hts := HS.out l0[k] (List.getElem_mem hlt)
    clear et
    generalize l0[k] = t at hx htk hts
    obtain ⟨K, hK⟩ := qf4 (t.size : Int) (by omega) (by omega)
    have hK2 := Aside0.mk (hK K (Nat.le_refl _))
    clear hK
    have HX := Aside0.mk hx
    replace hx := qcb HB.out hx
    have HTK := Aside0.mk htk
    have HFS := Aside0.mk hfs
    clear htk hfs
    replace p1 := eq_true p1
    replace q1 := eq_true q1
    go_wp2_with fail
    go_region_held3 (fun w' => w'.cell? (ad.add k) = some (.string t)) (assumption)
     (first
      | (go_at_call 31; refine (qaG.calls K _ _ _ _ hK2.out).mono ?_; rintro e w2 ⟨v21, rfl, ho2, hb2⟩; have HB2 := (show Aside0 (Below w.heap.size w w2) from by first | exact Aside0.mk (qag HB.out hb2) | exact Aside0.mk (qag (qcf HB.out) hb2)); have HI2 := (by first | exact Aside0.mk (Kd.qaX HI.out hb2) | exact Aside0.mk (Kd.qaX (Kd.qaD HI.out) hb2)); obtain ⟨A21, c21, rfl, hle21, hC21⟩ := Kd.qdx ho2; have HC21 := Aside0.mk hC21; have hx2 : w2.cell? (ad.add k) = some (.string t) := qcb HB2.out HX.out; clear hb2 ho2 hC21; dsimp only)
      | (refine Kd.qcB (Kd.int .u8) (w0 := w) w.heap.size (by rfl) (.tmp 15) (.tmp 21) 59 5 (.int .u8 0) 1 (by rfl) Try.underlying59 info5 rfl (by decide) (by decide) _ _ _ _ _ _ (fun _ => True) (fun _ => False) (by rfl) (by rfl) HI2.out HC21.out (fun _ _ h => h) (fun _ h => h.elim) (fun _ _ => trivial) HB2.out HB2.out.size (by have := HFS.out; rw [bytesOf_length, bytesOf_length, qdA]; omega) ?_; intro v22 w3 ho3 hb3 hg3 hat3; have HB3 := Aside0.mk hb3; have HI3 := Aside0.mk ho3; have hx3 : w3.cell? (ad.add k) = some (.string t) := qcb HB3.out HX.out; clear hb3 ho3 hg3 hat3)
      | (refine qeC (w0 := w) w.heap.size (by rfl) (.tmp 22) (.tmp 26) 59 9 5 (by rfl) Try.underlying59 Try.underlying9 info5 _ _ t (by rfl) (by rfl) HI3.out HB3.out HB3.out.size (by have := HFS.out; rw [List.length_append, bytesOf_length, bytesOf_length, qdA]; omega) ?_; intro v27 w4 ho4 hb4 hg4; have HB4 := Aside0.mk hb4; have HI4 := Aside0.mk ho4; have hx4 : w4.cell? (ad.add k) = some (.string t) := qcb HB4.out HX.out; clear hb4 ho4 hg4)
      | fail)
    go_wp2_with fail
    refine ⟨⟨k + 1, by omega, rfl, ⟨?_⟩, ⟨HB4.out⟩⟩, by simp [intOf]; omega⟩
    have e : bytesOf (qbB (strOfNums [(l0.length : Int) % 256]) (l0.take (k + 1))) = bytesOf (qbB (strOfNums [(l0.length : Int) % 256]) (l0.take k)) ++ bytesOf (numT (t.size : Int)) ++ bytesOf t := by
     rw [HTK.out, qdQ, qbG, qbG, List.append_assoc]
    rw [e]
    exact HI4.out
   ·have e : k = l0.length := by omega
    have c1 : decide ((k : Int) < (l0.length : Int)) = false := decide_eq_false (by omega)
    have e9 : l0.take k = l0 := by rw [e, List.take_length]
    rw [e9] at HI
    go_wp2_with fail
    go_ret
    exact ⟨_, rfl, HI.out, HB.out⟩
 ·rw [if_neg hs] at h
  cases h
end Go.Proofs.Ytlkdcicpaneakaa.X
namespace Go.Proofs.Ytlkdcicpaneakaa.X
open Go.RowKit Go.Proofs.YtlkdcicpaneakaaW.PrintWords Go.Proofs.YtlkdcicpaneakaaW.PrintLast Go.Proofs.YtlkdcicpaneakaaW.PrintMore
attribute [local go_sem] qaA qaB qaC qaw qax qaH qaI qap qaq qay qaz
set_option linter.unusedVariables false
set_option linter.unusedSimpArgs false
def qb0.f (a0 : Bool) : Option (Int) := if a0 = true then (some 1) else (some 0)
set_option maxHeartbeats 8000000 in
set_option maxRecDepth 100000 in
theorem qb0.calls (a0 : Bool) (r : Int) (w : World) (h : qb0.f a0 = some r) :
  Calls Try.prog 49 #[.bool a0] w fun e w' => e = .returned (.int .i64 r) ∧ qaF w w' := by
 have H : (if a0 = true then (some 1) else (some 0)) = some r := h
 clear h
 by_cases c2 : a0 = true
 ·subst c2
  have H1 : (some 1) = some r := by rw [if_pos rfl] at H; exact H
  clear H
  have H := H1
  clear H1
  obtain rfl := Option.some.inj H
  go_enter Try.func49, Try.ntmps49
  go_wp2
  go_ret
  exact ⟨by first | rfl | (simp; done) | (simp [*]; done), by repeat (first | exact qaF.refl _ | apply qaF.step)⟩
 ·replace c2 := Bool.eq_false_iff.mpr c2
  subst c2
  have H1 : (some 0) = some r := by rw [if_neg (show ¬ (false = true) by decide)] at H; exact H
  clear H
  have H := H1
  clear H1
  obtain rfl := Option.some.inj H
  go_enter Try.func49, Try.ntmps49
  go_wp2
  go_ret
  exact ⟨by first | rfl | (simp; done) | (simp [*]; done), by repeat (first | exact qaF.refl _ | apply qaF.step)⟩
def qbF.f (a0_0 : ByteArray) (a0_1 : ByteArray) (a0_2 : ByteArray) (a0_3 : Bool) (a0_4 : Bool) : Option (List Int) := (qb0.f a0_3).bind fun t213 => ((qb0.f a0_4).bind fun t214 => ((some (([(wrap64 (t213 + (wrap64 (2 * t214)))) % 256] : List Int) : List Int)).bind fun y215 => ((qbd.f (([a0_0, a0_1, a0_2] : List ByteArray))).bind fun t221 => (if y215.length + t221.length < 140737488355328 then (some (y215 ++ t221)) else (none)))))
def qbF.T1 : Bool × List (List Nat × List Nat) := (true, [([], []), ([0], [0]), ([1], [1]), ([], []), ([3], [3]), ([4, 2], [4]), ([5], [5]), ([2, 6], [2, 6]), ([7], [7]), ([8], [8]), ([], []), ([10], [10]), ([], []), ([12], [12]), ([], []), ([14], [14]), ([11, 13, 15], [11, 13, 15]), ([16, 5], [16]), ([9, 17, 17], [9, 17]), ([18, 18, 0, 1, 2, 3, 4, 5, 6, 7, 8, 9, 10, 11, 12, 13, 14, 15, 16, 17, 18], [18])])
def qbF.B1 : List Nat := [0, 1, 3, 0, 8, 31, 63, 127, 255, 511, 0, 1024, 0, 4096, 0, 16384, 64512, 130111, 262143, 524287]
theorem qbF.tab1 : rtab .any (opsOf Try.f33 1) = qbF.T1 := by kernel_rfl
theorem qbF.bits1 : qcs qbF.T1.2 qbF.B1 = true := by kernel_rfl
set_option maxHeartbeats 8000000 in
set_option maxRecDepth 100000 in
theorem qbF.calls (a0_0 : ByteArray) (a0_1 : ByteArray) (a0_2 : ByteArray) (a0_3 : Bool) (a0_4 : Bool) (r : List Int) (w : World) (h : qbF.f a0_0 a0_1 a0_2 a0_3 a0_4 = some r) :
  Calls Try.prog 33 #[.agg #[.string a0_0, .string a0_1, .string a0_2, .bool a0_3, .bool a0_4]] w fun e w' => ∃ v0_ : Value, e = .returned (v0_) ∧ Kd.R (Kd.int .u8) 5 w' w.heap.size (fun _ => True) v0_ r ∧ Below w.heap.size w w' := by
 have hu56 := Try.underlying56
 have HB := Aside0.mk (Below.refl w.heap.size w)
 have H : ((qb0.f a0_3).bind fun t213 => ((qb0.f a0_4).bind fun t214 => ((some (([(wrap64 (t213 + (wrap64 (2 * t214)))) % 256] : List Int) : List Int)).bind fun y215 => ((qbd.f (([a0_0, a0_1, a0_2] : List ByteArray))).bind fun t221 => (if y215.length + t221.length < 140737488355328 then (some (y215 ++ t221)) else (none)))))) = some r := h
 clear h
 replace H := Option.bind_eq_some_iff.mp H
 obtain ⟨t213, A20, H⟩ := H
 try dsimp only at H
 have A2 := Aside0.mk A20
 clear A20
 replace H := Option.bind_eq_some_iff.mp H
 obtain ⟨t214, A30, H⟩ := H
 try dsimp only at H
 have A3 := Aside0.mk A30
 clear A30
 obtain ⟨y215, hy215⟩ : ∃ y_ : List Int, y_ = (([(wrap64 (t213 + (wrap64 (2 * t214)))) % 256] : List Int)) := ⟨_, rfl⟩
 replace H : ((qbd.f (([a0_0, a0_1, a0_2] : List ByteArray))).bind fun t221 => (if y215.length + t221.length < 140737488355328 then (some (y215 ++ t221)) else (none))) = some r := by first | (rw [hy215]; with_reducible exact H) | (have H2_ := (Option.bind_some _ _).symm.trans H; rw [hy215]; with_reducible exact H2_) | (have H2_ := (Option.bind_some _ _).symm.trans H; with_reducible exact H2_) | with_reducible exact H | (rw [hy215]; exact H) | exact H
 have Ny215 := Aside0.mk hy215
 clear hy215
 obtain ⟨y218, hy218⟩ : ∃ y_ : List ByteArray, y_ = (([a0_0, a0_1, a0_2] : List ByteArray)) := ⟨_, rfl⟩
 replace H : ((qbd.f y218).bind fun t221 => (if y215.length + t221.length < 140737488355328 then (some (y215 ++ t221)) else (none))) = some r := by first | (rw [hy218]; with_reducible exact H) | (have H2_ := (Option.bind_some _ _).symm.trans H; rw [hy218]; with_reducible exact H2_) | (have H2_ := (Option.bind_some _ _).symm.trans H; with_reducible exact H2_) | with_reducible exact H | (rw [hy218]; exact H) | exact H
 have Ny218 := Aside0.mk hy218
 clear hy218
 replace H := Option.bind_eq_some_iff.mp H
 obtain ⟨t221, A40, H⟩ := H
 try dsimp only at H
 have A4 := Aside0.mk A40
 clear A40
 by_cases c5 : y215.length + t221.length < 140737488355328
 ·rw [if_pos c5] at H
  have LMc5 := Aside0.mk c5
  clear c5
  obtain ⟨y224, hy224⟩ : ∃ y_ : List Int, y_ = (y215 ++ t221) := ⟨_, rfl⟩
  replace H : (some y224) = some r := by first | (rw [hy224]; with_reducible exact H) | (have H2_ := (Option.bind_some _ _).symm.trans H; rw [hy224]; with_reducible exact H2_) | (have H2_ := (Option.bind_some _ _).symm.trans H; with_reducible exact H2_) | with_reducible exact H | (rw [hy224]; exact H) | exact H
  have Ny224 := Aside0.mk hy224
  clear hy224
  obtain rfl := Option.some.inj H
  go_enter Try.func33, Try.ntmps33
  try go_wp2_with (first | ((with_reducible refine qaM (N := 1) rfl ?_); refine qaN ?hg (N := 1) ?hd (cs := #[.string a0_0, .string a0_1, .string a0_2, .bool a0_3, .bool a0_4]) (t := 56) ?hr ?_; (case hd => rfl); (case hg => rfl); (case hr => first | (go_simp; done) | (go_simp; rfl)); intro gb212 hg w6 hbox hb; have n0_ := Aside0.mk (qag (by repeat (first | (with_reducible first | exact HB.out | apply qac | apply qaa | apply qab) | exact HB.out)) hb); have n1_ := Aside0.mk (hbox); have n2_ := Aside0.mk ((by rw [hg]; exact (qak (by repeat (first | (with_reducible first | exact HB.out | apply qac | apply qaa | apply qab) | exact HB.out))) : w.heap.size ≤ gb212)); have n3_ := Aside0.mk ((by rw [hg]; exact (qak (by repeat (first | (with_reducible first | exact HB.out | apply qac | apply qaa | apply qab) | exact HB.out))) : w.heap.size ≤ gb212)); clear HB; have HB := n0_; have BK212 := n1_; have GW212 := n2_; have GE212 := n3_; clear n0_ n1_ n2_ n3_; clear hb hbox hg))
  have n0_ := Aside0.mk (qal BK212.out)
  have n1_ := Aside0.mk (qab HB.out)
  clear BK212 HB
  have BK212 := n0_
  have HB := n1_
  clear n0_ n1_
  refine qen (n := 20) (S := fun w' => w'.cell? ⟨gb212, 0, none⟩ = some (.string a0_0) ∧ w'.cell? ⟨gb212, 1, none⟩ = some (.string a0_1) ∧ w'.cell? ⟨gb212, 2, none⟩ = some (.string a0_2) ∧ w'.cell? ⟨gb212, 3, none⟩ = some (.bool a0_3) ∧ w'.cell? ⟨gb212, 4, none⟩ = some (.bool a0_4)) (ds := []) #[false, false, false, false, false, false, false, false, false, false, false, false, false, false, false, false, false, false, false, false] (by kernel_rfl) rfl rfl ⟨(qad BK212.out 0).trans rfl, (qad BK212.out 1).trans rfl, (qad BK212.out 2).trans rfl, (qad BK212.out 3).trans rfl, (qad BK212.out 4).trans rfl⟩ (fun hHeld => ?_); refine qcV qbF.tab1 qbF.bits1 (fun HT_ HW_ => ?_)
  generalize w6.drew = w7 at BK212 HB hHeld ⊢
  refine qb1 (i := 0) (N := some 3) (v := ?_) (a' := ?_) #[true, false, false, false, false, false, false, false, false, false, false, false, false, false, false, false, false, false, false, false] rfl rfl (qbu HT_.out (by kernel_rfl)) (fun _ _ _ h => h) (Or.inl ⟨by rfl, ?_⟩) ?_ ?_
  rotate_left
  ·intro w'
   go_simp
   with_reducible rfl
  rotate_left
  ·simp only [Act.put, List.setIfInBounds_toArray, List.set_cons_zero, List.set_cons_succ, qbe, qbo]
   rfl
  refine qb1 (i := 3) (N := some 6) (v := ?_) (a' := ?_) #[true, false, false, true, false, false, false, false, false, false, false, false, false, false, false, false, false, false, false, false] rfl rfl (qbu HT_.out (by kernel_rfl)) (fun _ _ _ h => h) (Or.inl ⟨by rfl, ?_⟩) ?_ ?_
  rotate_left
  ·intro w'
   go_simp
   with_reducible rfl
  rotate_left
  ·simp only [Act.put, List.setIfInBounds_toArray, List.set_cons_zero, List.set_cons_succ, qbe, qbo]
   rfl
  refine qb1 (i := 10) (N := some 13) (v := ?_) (a' := ?_) #[true, false, false, true, false, false, false, false, false, false, true, false, false, false, false, false, false, false, false, false] rfl rfl (qbu HT_.out (by kernel_rfl)) (fun _ _ _ h => h) (Or.inl ⟨by rfl, ?_⟩) ?_ ?_
  rotate_left
  ·intro w'
   go_simp
   with_reducible rfl
  rotate_left
  ·simp only [Act.put, List.setIfInBounds_toArray, List.set_cons_zero, List.set_cons_succ, qbe, qbo]
   rfl
  refine qb1 (i := 12) (N := some 15) (v := ?_) (a' := ?_) #[true, false, false, true, false, false, false, false, false, false, true, false, true, false, false, false, false, false, false, false] rfl rfl (qbu HT_.out (by kernel_rfl)) (fun _ _ _ h => h) (Or.inl ⟨by rfl, ?_⟩) ?_ ?_
  rotate_left
  ·intro w'
   go_simp
   with_reducible rfl
  rotate_left
  ·simp only [Act.put, List.setIfInBounds_toArray, List.set_cons_zero, List.set_cons_succ, qbe, qbo]
   rfl
  refine qb1 (i := 14) (N := some 17) (v := ?_) (a' := ?_) #[true, false, false, true, false, false, false, false, false, false, true, false, true, false, true, false, false, false, false, false] rfl rfl (qbu HT_.out (by kernel_rfl)) (fun _ _ _ h => h) (Or.inl ⟨by rfl, ?_⟩) ?_ ?_
  rotate_left
  ·intro w'
   go_simp
   with_reducible rfl
  rotate_left
  ·simp only [Act.put, List.setIfInBounds_toArray, List.set_cons_zero, List.set_cons_succ, qbe, qbo]
   rfl
  refine qdK (i := 1) (N := some 4) (v := ?_) (a' := ?_) #[true, true, false, true, false, false, false, false, false, false, true, false, true, false, true, false, false, false, false, false] rfl rfl (qco HT_.out HW_.out (by kernel_rfl)) (fun _ _ _ h => h) (Or.inl ⟨by rfl, ?_⟩) hHeld ?_ ?_
  rotate_left
  ·rintro w' ⟨s0, s1, s2, s3, s4⟩
   go_simp
   with_reducible rfl
  rotate_left
  ·simp only [Act.put, List.setIfInBounds_toArray, List.set_cons_zero, List.set_cons_succ, qbe, qbo]
   rfl
  refine qdK (i := 4) (N := some 7) (v := ?_) (a' := ?_) #[true, true, false, true, true, false, false, false, false, false, true, false, true, false, true, false, false, false, false, false] rfl rfl (qco HT_.out HW_.out (by kernel_rfl)) (fun _ _ _ h => h) (Or.inl ⟨by rfl, ?_⟩) hHeld ?_ ?_
  rotate_left
  ·rintro w' ⟨s0, s1, s2, s3, s4⟩
   go_simp
   with_reducible rfl
  rotate_left
  ·simp only [Act.put, List.setIfInBounds_toArray, List.set_cons_zero, List.set_cons_succ, qbe, qbo]
   rfl
  refine qdK (i := 11) (N := some 14) (v := ?_) (a' := ?_) #[true, true, false, true, true, false, false, false, false, false, true, true, true, false, true, false, false, false, false, false] rfl rfl (qco HT_.out HW_.out (by kernel_rfl)) (fun _ _ _ h => h) (Or.inl ⟨by rfl, ?_⟩) hHeld ?_ ?_
  rotate_left
  ·rintro w' ⟨s0, s1, s2, s3, s4⟩
   go_simp
   with_reducible rfl
  rotate_left
  ·simp only [Act.put, List.setIfInBounds_toArray, List.set_cons_zero, List.set_cons_succ, qbe, qbo]
   rfl
  refine qdK (i := 13) (N := some 16) (v := ?_) (a' := ?_) #[true, true, false, true, true, false, false, false, false, false, true, true, true, true, true, false, false, false, false, false] rfl rfl (qco HT_.out HW_.out (by kernel_rfl)) (fun _ _ _ h => h) (Or.inl ⟨by rfl, ?_⟩) hHeld ?_ ?_
  rotate_left
  ·rintro w' ⟨s0, s1, s2, s3, s4⟩
   go_simp
   with_reducible rfl
  rotate_left
  ·simp only [Act.put, List.setIfInBounds_toArray, List.set_cons_zero, List.set_cons_succ, qbe, qbo]
   rfl
  refine qdK (i := 15) (N := some 18) (v := ?_) (a' := ?_) #[true, true, false, true, true, false, false, false, false, false, true, true, true, true, true, true, false, false, false, false] rfl rfl (qco HT_.out HW_.out (by kernel_rfl)) (fun _ _ _ h => h) (Or.inl ⟨by rfl, ?_⟩) hHeld ?_ ?_
  rotate_left
  ·rintro w' ⟨s0, s1, s2, s3, s4⟩
   go_simp
   with_reducible rfl
  rotate_left
  ·simp only [Act.put, List.setIfInBounds_toArray, List.set_cons_zero, List.set_cons_succ, qbe, qbo]
   rfl
  refine qfB (σ := Value × Value × Value) 2 #[true, true, true, true, true, true, true, true, true, true, true, true, true, true, true, true, true, true, false, false] (fun s_ => [(5, .int .i64 t213), (8, .int .i64 t214), (12, s_.1), (19, s_.2.1), (20, s_.2.2), (9, .int .i64 (wrap64 (2 * t214))), (10, .int .i64 (wrap64 (t213 + (wrap64 (2 * t214))))), (11, .int .u8 ((wrap64 (t213 + (wrap64 (2 * t214)))) % 256))]) (fun s_ w' => (w'.cell? ⟨gb212, 0, none⟩ = some (.string a0_0) ∧ w'.cell? ⟨gb212, 1, none⟩ = some (.string a0_1) ∧ w'.cell? ⟨gb212, 2, none⟩ = some (.string a0_2) ∧ w'.cell? ⟨gb212, 3, none⟩ = some (.bool a0_3) ∧ w'.cell? ⟨gb212, 4, none⟩ = some (.bool a0_4)) ∧ (Kd.R (Kd.int .u8) 5 w' w.heap.size (fun k_ => some k_ ≠ (s_.2.2 : Value).ownBlock) s_.1 y215) ∧ (Kd.R Kd.string 9 w' w.heap.size (fun _ => True) s_.2.1 y218) ∧ (Kd.R (Kd.int .u8) 5 w' w.heap.size (fun k_ => some k_ ≠ (s_.1 : Value).ownBlock) s_.2.2 t221) ∧ (w'.heap[gb212]? = some (.cells #[.string a0_0, .string a0_1, .string a0_2, .bool a0_3, .bool a0_4] 56 (0, 0))) ∧ (Below w.heap.size w w')) ?_ ?_
  rotate_left
  ·intro hJ2_5_9_16_17
   refine qfB (σ := Value × Value) 3 #[true, true, true, true, true, true, true, true, true, true, true, true, true, true, true, true, true, false, false, false] (fun s_ => [(5, .int .i64 t213), (8, .int .i64 t214), (12, s_.1), (19, s_.2), (9, .int .i64 (wrap64 (2 * t214))), (10, .int .i64 (wrap64 (t213 + (wrap64 (2 * t214))))), (11, .int .u8 ((wrap64 (t213 + (wrap64 (2 * t214)))) % 256))]) (fun s_ w' => (w'.cell? ⟨gb212, 0, none⟩ = some (.string a0_0) ∧ w'.cell? ⟨gb212, 1, none⟩ = some (.string a0_1) ∧ w'.cell? ⟨gb212, 2, none⟩ = some (.string a0_2) ∧ w'.cell? ⟨gb212, 3, none⟩ = some (.bool a0_3) ∧ w'.cell? ⟨gb212, 4, none⟩ = some (.bool a0_4)) ∧ (Kd.R (Kd.int .u8) 5 w' w.heap.size (fun _ => True) s_.1 y215) ∧ (Kd.R Kd.string 9 w' w.heap.size (fun _ => True) s_.2 y218) ∧ (w'.heap[gb212]? = some (.cells #[.string a0_0, .string a0_1, .string a0_2, .bool a0_3, .bool a0_4] 56 (0, 0))) ∧ (Below w.heap.size w w')) ?_ ?_
   rotate_left
   ·intro hJ2_5_9_16
    refine qfB (σ := Value × Value) 3 #[true, true, true, true, true, true, true, true, true, false, true, true, true, true, true, true, true, true, false, false] (fun s_ => [(5, .int .i64 t213), (8, .int .i64 t214), (19, s_.1), (20, s_.2), (9, .int .i64 (wrap64 (2 * t214))), (10, .int .i64 (wrap64 (t213 + (wrap64 (2 * t214))))), (11, .int .u8 ((wrap64 (t213 + (wrap64 (2 * t214)))) % 256))]) (fun s_ w' => (w'.cell? ⟨gb212, 0, none⟩ = some (.string a0_0) ∧ w'.cell? ⟨gb212, 1, none⟩ = some (.string a0_1) ∧ w'.cell? ⟨gb212, 2, none⟩ = some (.string a0_2) ∧ w'.cell? ⟨gb212, 3, none⟩ = some (.bool a0_3) ∧ w'.cell? ⟨gb212, 4, none⟩ = some (.bool a0_4)) ∧ (Kd.R Kd.string 9 w' w.heap.size (fun _ => True) s_.1 y218) ∧ (Kd.R (Kd.int .u8) 5 w' w.heap.size (fun _ => True) s_.2 t221) ∧ (w'.heap[gb212]? = some (.cells #[.string a0_0, .string a0_1, .string a0_2, .bool a0_3, .bool a0_4] 56 (0, 0))) ∧ (Below w.heap.size w w')) ?_ ?_
    rotate_left
    ·intro hJ2_5_16_17
     refine qfB (σ := Value) 4 #[true, true, true, true, true, true, true, true, true, true, true, true, true, true, true, true, false, false, false, false] (fun s_ => [(5, .int .i64 t213), (8, .int .i64 t214), (12, s_), (9, .int .i64 (wrap64 (2 * t214))), (10, .int .i64 (wrap64 (t213 + (wrap64 (2 * t214))))), (11, .int .u8 ((wrap64 (t213 + (wrap64 (2 * t214)))) % 256))]) (fun s_ w' => (w'.cell? ⟨gb212, 0, none⟩ = some (.string a0_0) ∧ w'.cell? ⟨gb212, 1, none⟩ = some (.string a0_1) ∧ w'.cell? ⟨gb212, 2, none⟩ = some (.string a0_2) ∧ w'.cell? ⟨gb212, 3, none⟩ = some (.bool a0_3) ∧ w'.cell? ⟨gb212, 4, none⟩ = some (.bool a0_4)) ∧ (Kd.R (Kd.int .u8) 5 w' w.heap.size (fun _ => True) s_ y215) ∧ (w'.heap[gb212]? = some (.cells #[.string a0_0, .string a0_1, .string a0_2, .bool a0_3, .bool a0_4] 56 (0, 0))) ∧ (Below w.heap.size w w')) ?_ ?_
     rotate_left
     ·intro hJ2_5_9
      refine qfB (σ := Value) 4 #[true, true, true, true, true, true, true, true, true, false, true, true, true, true, true, true, true, false, false, false] (fun s_ => [(5, .int .i64 t213), (8, .int .i64 t214), (19, s_), (9, .int .i64 (wrap64 (2 * t214))), (10, .int .i64 (wrap64 (t213 + (wrap64 (2 * t214))))), (11, .int .u8 ((wrap64 (t213 + (wrap64 (2 * t214)))) % 256))]) (fun s_ w' => (w'.cell? ⟨gb212, 0, none⟩ = some (.string a0_0) ∧ w'.cell? ⟨gb212, 1, none⟩ = some (.string a0_1) ∧ w'.cell? ⟨gb212, 2, none⟩ = some (.string a0_2) ∧ w'.cell? ⟨gb212, 3, none⟩ = some (.bool a0_3) ∧ w'.cell? ⟨gb212, 4, none⟩ = some (.bool a0_4)) ∧ (Kd.R Kd.string 9 w' w.heap.size (fun _ => True) s_ y218) ∧ (w'.heap[gb212]? = some (.cells #[.string a0_0, .string a0_1, .string a0_2, .bool a0_3, .bool a0_4] 56 (0, 0))) ∧ (Below w.heap.size w w')) ?_ ?_
      rotate_left
      ·intro hJ2_5_16
       refine qfB (σ := Unit) 5 #[true, true, true, true, true, true, true, true, true, false, true, true, true, true, true, true, false, false, false, false] (fun s_ => [(5, .int .i64 t213), (8, .int .i64 t214), (9, .int .i64 (wrap64 (2 * t214))), (10, .int .i64 (wrap64 (t213 + (wrap64 (2 * t214))))), (11, .int .u8 ((wrap64 (t213 + (wrap64 (2 * t214)))) % 256))]) (fun s_ w' => (w'.cell? ⟨gb212, 0, none⟩ = some (.string a0_0) ∧ w'.cell? ⟨gb212, 1, none⟩ = some (.string a0_1) ∧ w'.cell? ⟨gb212, 2, none⟩ = some (.string a0_2) ∧ w'.cell? ⟨gb212, 3, none⟩ = some (.bool a0_3) ∧ w'.cell? ⟨gb212, 4, none⟩ = some (.bool a0_4)) ∧ (w'.heap[gb212]? = some (.cells #[.string a0_0, .string a0_1, .string a0_2, .bool a0_3, .bool a0_4] 56 (0, 0))) ∧ (Below w.heap.size w w')) ?_ ?_
       rotate_left
       ·intro hJ2_5
        refine qfB (σ := Value) 8 #[true, true, true, true, true, false, false, false, false, false, true, true, true, true, true, true, true, false, false, false] (fun s_ => [(5, .int .i64 t213), (19, s_)]) (fun s_ w' => (w'.cell? ⟨gb212, 0, none⟩ = some (.string a0_0) ∧ w'.cell? ⟨gb212, 1, none⟩ = some (.string a0_1) ∧ w'.cell? ⟨gb212, 2, none⟩ = some (.string a0_2) ∧ w'.cell? ⟨gb212, 3, none⟩ = some (.bool a0_3) ∧ w'.cell? ⟨gb212, 4, none⟩ = some (.bool a0_4)) ∧ (Kd.R Kd.string 9 w' w.heap.size (fun _ => True) s_ y218) ∧ (w'.heap[gb212]? = some (.cells #[.string a0_0, .string a0_1, .string a0_2, .bool a0_3, .bool a0_4] 56 (0, 0))) ∧ (Below w.heap.size w w')) ?_ ?_
        rotate_left
        ·intro hJ2_16
         refine qfB (σ := Unit) 9 #[true, true, true, true, true, false, false, false, false, false, true, true, true, true, true, true, false, false, false, false] (fun s_ => [(5, .int .i64 t213)]) (fun s_ w' => (w'.cell? ⟨gb212, 0, none⟩ = some (.string a0_0) ∧ w'.cell? ⟨gb212, 1, none⟩ = some (.string a0_1) ∧ w'.cell? ⟨gb212, 2, none⟩ = some (.string a0_2) ∧ w'.cell? ⟨gb212, 3, none⟩ = some (.bool a0_3) ∧ w'.cell? ⟨gb212, 4, none⟩ = some (.bool a0_4)) ∧ (w'.heap[gb212]? = some (.cells #[.string a0_0, .string a0_1, .string a0_2, .bool a0_3, .bool a0_4] 56 (0, 0))) ∧ (Below w.heap.size w w')) ?_ ?_
         rotate_left
         ·intro hJ2
          refine qfB (σ := Value) 9 #[true, true, false, true, true, false, false, false, false, false, true, true, true, true, true, true, true, false, false, false] (fun s_ => [(19, s_)]) (fun s_ w' => (w'.cell? ⟨gb212, 0, none⟩ = some (.string a0_0) ∧ w'.cell? ⟨gb212, 1, none⟩ = some (.string a0_1) ∧ w'.cell? ⟨gb212, 2, none⟩ = some (.string a0_2) ∧ w'.cell? ⟨gb212, 3, none⟩ = some (.bool a0_3) ∧ w'.cell? ⟨gb212, 4, none⟩ = some (.bool a0_4)) ∧ (Kd.R Kd.string 9 w' w.heap.size (fun _ => True) s_ y218) ∧ (w'.heap[gb212]? = some (.cells #[.string a0_0, .string a0_1, .string a0_2, .bool a0_3, .bool a0_4] 56 (0, 0))) ∧ (Below w.heap.size w w')) ?_ ?_
          rotate_left
          ·intro hJ16
           refine two_ (i := 2) (j := 16) (Ni := some 5) (Nj := some 19) #[true, true, true, true, true, false, false, false, false, false, true, true, true, true, true, true, false, false, false, false] #[true, true, false, true, true, false, false, false, false, false, true, true, true, true, true, true, true, false, false, false] rfl rfl rfl rfl (qgo HT_.out (by kernel_rfl)) (by decide) (by decide) (fun K hK => ?_) (fun K hK => ?_)
           ·skip
            refine qdg Try.func49 (by kernel_rfl) rfl #[.bool a0_3] (by rfl) rfl rfl (by (try simp only [List.map_toArray, List.map_cons, List.map_nil]); first | done | rfl | (simp only [List.length_drop, List.length_take]; rfl)) ?_
            with_reducible refine (qb0.calls a0_3 t213 _ A2.out).mono ?_
            rintro e w' ⟨rfl, ⟨nd, rfl⟩⟩
            refine ⟨_, rfl, ?_⟩
            refine hK.out _ _ ⟨(qad BK212.out 0).trans rfl, (qad BK212.out 1).trans rfl, (qad BK212.out 2).trans rfl, (qad BK212.out 3).trans rfl, (qad BK212.out 4).trans rfl⟩ (fun hHeld => ?_)
            clear hK K
            refine qb5 (a' := ?_) ?_ ?_
            rotate_left
            ·show Act.put _ (some 5) _ = _
             simp only [Act.put, List.setIfInBounds_toArray, List.set_cons_zero, List.set_cons_succ, qbe, qbo]
             rfl
            exact qb5 (by first | (simp only [qbS, Act.put, List.setIfInBounds_toArray, List.set_cons_zero, List.set_cons_succ]; done) | (simp only [qbS, Act.put, List.setIfInBounds_toArray, List.set_cons_zero, List.set_cons_succ]; rfl)) (hJ2 () _ ⟨hHeld, (by (with_reducible repeat (first | refine qaj ?_ _ | refine qal ?_ | refine qai ?_ _)); exact BK212.out), (by repeat (first | (with_reducible first | exact HB.out | apply qac | apply qaa | apply qab | refine qah ?_ GE212.out) | exact HB.out))⟩)
           ·skip
            refine Kd.qci Kd.string _ 9 ?hg (N := 19) ?hd (xs := ([a0_0, a0_1, a0_2] : List ByteArray)) (inner := [.string a0_0, .string a0_1, .string a0_2]) (ok := fun _ => True) (okp := fun _ => True) ?hr ?hp (fun _ hk => hk) trivial (Below.refl _ _) (Nat.le_refl _) (by simp) ?_; (case hd => rfl); (case hg => rfl); (case hr => first | (go_simp; done) | (go_simp; rfl)); (case hp => exact (Reps.one (show Kd.M Kd.string _ _ _ a0_0 [.string a0_0] from rfl) (Reps.one (show Kd.M Kd.string _ _ _ a0_1 [.string a0_1] from rfl) (Reps.one (show Kd.M Kd.string _ _ _ a0_2 [.string a0_2] from rfl) (Reps.none _ _)))))
            intro v219 w8 ho9 hb hg_ hnew_
            clear hg_ hnew_
            (first | rw [← Ny218.out] at ho9 | (simp only [Int.reduceToNat] at ho9; rw [← Ny218.out] at ho9))
            have n0_ := Aside0.mk (Kd.qbh ho9 (qak (by repeat (first | (with_reducible first | exact HB.out | apply qac | apply qaa | apply qab | refine qah ?_ GE212.out) | exact HB.out))))
            have n1_ := Aside0.mk (qao (g := gb212) (o := .cells #[.string a0_0, .string a0_1, .string a0_2, .bool a0_3, .bool a0_4] 56 (0, 0)) (by (with_reducible repeat (first | refine qaj ?_ _ | refine qal ?_ | refine qai ?_ _)); exact BK212.out) hb)
            have n2_ := Aside0.mk (qag (by repeat (first | (with_reducible first | exact HB.out | apply qac | apply qaa | apply qab | refine qah ?_ GE212.out) | exact HB.out)) hb)
            clear BK212 HB
            have HO220 := n0_
            have BK212 := n1_
            have HB := n2_
            clear n0_ n1_ n2_ hb ho9
            refine hK.out _ _ ⟨(qad BK212.out 0).trans rfl, (qad BK212.out 1).trans rfl, (qad BK212.out 2).trans rfl, (qad BK212.out 3).trans rfl, (qad BK212.out 4).trans rfl⟩ (fun hHeld => ?_)
            clear hK K
            refine qb5 (a' := ?_) ?_ ?_
            rotate_left
            ·show Act.put _ (some 19) _ = _
             simp only [Act.put, List.setIfInBounds_toArray, List.set_cons_zero, List.set_cons_succ, qbe, qbo]
             rfl
            exact qb5 (by first | (simp only [qbS, Act.put, List.setIfInBounds_toArray, List.set_cons_zero, List.set_cons_succ]; done) | (simp only [qbS, Act.put, List.setIfInBounds_toArray, List.set_cons_zero, List.set_cons_succ]; rfl)) (hJ16 (v219) _ ⟨hHeld, (by (with_reducible repeat (first | apply Kd.qar | apply Kd.qas | apply Kd.qaD)); exact HO220.out), (by (with_reducible repeat (first | refine qaj ?_ _ | refine qal ?_ | refine qai ?_ _)); exact BK212.out), (by repeat (first | (with_reducible first | exact HB.out | apply qac | apply qaa | apply qab | refine qah ?_ GE212.out) | exact HB.out))⟩)
          ·skip
           rintro v219 w10 ⟨hS_, h0_, h1_, h2_⟩
           have n0_ : Aside0 (Kd.R Kd.string 9 w10 w.heap.size (fun _ => True) v219 y218) := ⟨h0_⟩
           have n1_ : Aside0 (w10.heap[gb212]? = some (.cells #[.string a0_0, .string a0_1, .string a0_2, .bool a0_3, .bool a0_4] 56 (0, 0))) := ⟨h1_⟩
           have n2_ : Aside0 (Below w.heap.size w w10) := ⟨h2_⟩
           clear BK212 HB h0_ h1_ h2_
           have HO220 := n0_
           have BK212 := n1_
           have HB := n2_
           clear n0_ n1_ n2_
           have hHeld : w10.cell? ⟨gb212, 0, none⟩ = some (.string a0_0) ∧ w10.cell? ⟨gb212, 1, none⟩ = some (.string a0_1) ∧ w10.cell? ⟨gb212, 2, none⟩ = some (.string a0_2) ∧ w10.cell? ⟨gb212, 3, none⟩ = some (.bool a0_3) ∧ w10.cell? ⟨gb212, 4, none⟩ = some (.bool a0_4) := hS_
           refine qb5 (a' := ?_) ?_ ?_
           rotate_left
           ·simp only [qbS, Act.put, List.setIfInBounds_toArray, List.set_cons_zero, List.set_cons_succ]
            rfl
           refine one_ (i := 2) (N := some 5) #[true, true, true, true, true, false, false, false, false, false, true, true, true, true, true, true, true, false, false, false] rfl rfl (qdc HT_.out (by kernel_rfl)) (by decide) (fun K hK => ?_)
           refine qdg Try.func49 (by kernel_rfl) rfl #[.bool a0_3] (by rfl) rfl rfl (by (try simp only [List.map_toArray, List.map_cons, List.map_nil]); first | done | rfl | (simp only [List.length_drop, List.length_take]; rfl)) ?_
           with_reducible refine (qb0.calls a0_3 t213 _ A2.out).mono ?_
           rintro e w' ⟨rfl, ⟨nd, rfl⟩⟩
           refine ⟨_, rfl, ?_⟩
           refine hK.out _ _ ⟨(qad BK212.out 0).trans rfl, (qad BK212.out 1).trans rfl, (qad BK212.out 2).trans rfl, (qad BK212.out 3).trans rfl, (qad BK212.out 4).trans rfl⟩ (fun hHeld => ?_)
           clear hK K
           refine qb5 (a' := ?_) ?_ ?_
           rotate_left
           ·show Act.put _ (some 5) _ = _
            simp only [Act.put, List.setIfInBounds_toArray, List.set_cons_zero, List.set_cons_succ, qbe, qbo]
            rfl
           exact qb5 (by first | (simp only [qbS, Act.put, List.setIfInBounds_toArray, List.set_cons_zero, List.set_cons_succ]; done) | (simp only [qbS, Act.put, List.setIfInBounds_toArray, List.set_cons_zero, List.set_cons_succ]; rfl)) (hJ2_16 (v219) _ ⟨hHeld, (by (with_reducible repeat (first | apply Kd.qar | apply Kd.qas | apply Kd.qaD)); exact HO220.out), (by (with_reducible repeat (first | refine qaj ?_ _ | refine qal ?_ | refine qai ?_ _)); exact BK212.out), (by repeat (first | (with_reducible first | exact HB.out | apply qac | apply qaa | apply qab | refine qah ?_ GE212.out) | exact HB.out))⟩)
         ·skip
          rintro _ w8 ⟨hS_, h0_, h1_⟩
          have n0_ : Aside0 (w8.heap[gb212]? = some (.cells #[.string a0_0, .string a0_1, .string a0_2, .bool a0_3, .bool a0_4] 56 (0, 0))) := ⟨h0_⟩
          have n1_ : Aside0 (Below w.heap.size w w8) := ⟨h1_⟩
          clear BK212 HB h0_ h1_
          have BK212 := n0_
          have HB := n1_
          clear n0_ n1_
          have hHeld : w8.cell? ⟨gb212, 0, none⟩ = some (.string a0_0) ∧ w8.cell? ⟨gb212, 1, none⟩ = some (.string a0_1) ∧ w8.cell? ⟨gb212, 2, none⟩ = some (.string a0_2) ∧ w8.cell? ⟨gb212, 3, none⟩ = some (.bool a0_3) ∧ w8.cell? ⟨gb212, 4, none⟩ = some (.bool a0_4) := hS_
          refine qb5 (a' := ?_) ?_ ?_
          rotate_left
          ·simp only [qbS, Act.put, List.setIfInBounds_toArray, List.set_cons_zero, List.set_cons_succ]
           rfl
          refine two_ (i := 5) (j := 16) (Ni := some 8) (Nj := some 19) #[true, true, true, true, true, true, false, false, false, false, true, true, true, true, true, true, false, false, false, false] #[true, true, true, true, true, false, false, false, false, false, true, true, true, true, true, true, true, false, false, false] rfl rfl rfl rfl (qgo HT_.out (by kernel_rfl)) (by decide) (by decide) (fun K hK => ?_) (fun K hK => ?_)
          ·skip
           refine qdg Try.func49 (by kernel_rfl) rfl #[.bool a0_4] (by rfl) rfl rfl (by (try simp only [List.map_toArray, List.map_cons, List.map_nil]); first | done | rfl | (simp only [List.length_drop, List.length_take]; rfl)) ?_
           with_reducible refine (qb0.calls a0_4 t214 _ A3.out).mono ?_
           rintro e w' ⟨rfl, ⟨nd, rfl⟩⟩
           refine ⟨_, rfl, ?_⟩
           refine hK.out _ _ ⟨(qad BK212.out 0).trans rfl, (qad BK212.out 1).trans rfl, (qad BK212.out 2).trans rfl, (qad BK212.out 3).trans rfl, (qad BK212.out 4).trans rfl⟩ (fun hHeld => ?_)
           clear hK K
           refine qb5 (a' := ?_) ?_ ?_
           rotate_left
           ·show Act.put _ (some 8) _ = _
            simp only [Act.put, List.setIfInBounds_toArray, List.set_cons_zero, List.set_cons_succ, qbe, qbo]
            rfl
           refine qb1 (i := 6) (N := some 9) (v := ?_) (a' := ?_) #[true, true, true, true, true, true, true, false, false, false, true, true, true, true, true, true, false, false, false, false] rfl rfl (qbu HT_.out (by kernel_rfl)) (fun _ _ _ h => h) (Or.inl ⟨by rfl, ?_⟩) ?_ ?_
           rotate_left
           ·intro w'
            go_simp
            with_reducible rfl
           rotate_left
           ·simp only [Act.put, List.setIfInBounds_toArray, List.set_cons_zero, List.set_cons_succ, qbe, qbo]
            rfl
           refine qb1 (i := 7) (N := some 10) (v := ?_) (a' := ?_) #[true, true, true, true, true, true, true, true, false, false, true, true, true, true, true, true, false, false, false, false] rfl rfl (qbu HT_.out (by kernel_rfl)) (fun _ _ _ h => h) (Or.inl ⟨by rfl, ?_⟩) ?_ ?_
           rotate_left
           ·intro w'
            go_simp
            with_reducible rfl
           rotate_left
           ·simp only [Act.put, List.setIfInBounds_toArray, List.set_cons_zero, List.set_cons_succ, qbe, qbo]
            rfl
           refine qb1 (i := 8) (N := some 11) (v := ?_) (a' := ?_) #[true, true, true, true, true, true, true, true, true, false, true, true, true, true, true, true, false, false, false, false] rfl rfl (qbu HT_.out (by kernel_rfl)) (fun _ _ _ h => h) (Or.inl ⟨by rfl, ?_⟩) ?_ ?_
           rotate_left
           ·intro w'
            go_simp
            with_reducible rfl
           rotate_left
           ·simp only [Act.put, List.setIfInBounds_toArray, List.set_cons_zero, List.set_cons_succ, qbe, qbo]
            rfl
           exact qb5 (by first | (simp only [qbS, Act.put, List.setIfInBounds_toArray, List.set_cons_zero, List.set_cons_succ]; done) | (simp only [qbS, Act.put, List.setIfInBounds_toArray, List.set_cons_zero, List.set_cons_succ]; rfl)) (hJ2_5 () _ ⟨hHeld, (by (with_reducible repeat (first | refine qaj ?_ _ | refine qal ?_ | refine qai ?_ _)); exact BK212.out), (by repeat (first | (with_reducible first | exact HB.out | apply qac | apply qaa | apply qab | refine qah ?_ GE212.out) | exact HB.out))⟩)
          ·skip
           refine Kd.qci Kd.string _ 9 ?hg (N := 19) ?hd (xs := ([a0_0, a0_1, a0_2] : List ByteArray)) (inner := [.string a0_0, .string a0_1, .string a0_2]) (ok := fun _ => True) (okp := fun _ => True) ?hr ?hp (fun _ hk => hk) trivial (Below.refl _ _) (Nat.le_refl _) (by simp) ?_; (case hd => rfl); (case hg => rfl); (case hr => first | (go_simp; done) | (go_simp; rfl)); (case hp => exact (Reps.one (show Kd.M Kd.string _ _ _ a0_0 [.string a0_0] from rfl) (Reps.one (show Kd.M Kd.string _ _ _ a0_1 [.string a0_1] from rfl) (Reps.one (show Kd.M Kd.string _ _ _ a0_2 [.string a0_2] from rfl) (Reps.none _ _)))))
           intro v219 w9 ho10 hb hg_ hnew_
           clear hg_ hnew_
           (first | rw [← Ny218.out] at ho10 | (simp only [Int.reduceToNat] at ho10; rw [← Ny218.out] at ho10))
           have n0_ := Aside0.mk (Kd.qbh ho10 (qak (by repeat (first | (with_reducible first | exact HB.out | apply qac | apply qaa | apply qab | refine qah ?_ GE212.out) | exact HB.out))))
           have n1_ := Aside0.mk (qao (g := gb212) (o := .cells #[.string a0_0, .string a0_1, .string a0_2, .bool a0_3, .bool a0_4] 56 (0, 0)) (by (with_reducible repeat (first | refine qaj ?_ _ | refine qal ?_ | refine qai ?_ _)); exact BK212.out) hb)
           have n2_ := Aside0.mk (qag (by repeat (first | (with_reducible first | exact HB.out | apply qac | apply qaa | apply qab | refine qah ?_ GE212.out) | exact HB.out)) hb)
           clear BK212 HB
           have HO220 := n0_
           have BK212 := n1_
           have HB := n2_
           clear n0_ n1_ n2_ hb ho10
           refine hK.out _ _ ⟨(qad BK212.out 0).trans rfl, (qad BK212.out 1).trans rfl, (qad BK212.out 2).trans rfl, (qad BK212.out 3).trans rfl, (qad BK212.out 4).trans rfl⟩ (fun hHeld => ?_)
           clear hK K
           refine qb5 (a' := ?_) ?_ ?_
           rotate_left
           ·show Act.put _ (some 19) _ = _
            simp only [Act.put, List.setIfInBounds_toArray, List.set_cons_zero, List.set_cons_succ, qbe, qbo]
            rfl
           exact qb5 (by first | (simp only [qbS, Act.put, List.setIfInBounds_toArray, List.set_cons_zero, List.set_cons_succ]; done) | (simp only [qbS, Act.put, List.setIfInBounds_toArray, List.set_cons_zero, List.set_cons_succ]; rfl)) (hJ2_16 (v219) _ ⟨hHeld, (by (with_reducible repeat (first | apply Kd.qar | apply Kd.qas | apply Kd.qaD)); exact HO220.out), (by (with_reducible repeat (first | refine qaj ?_ _ | refine qal ?_ | refine qai ?_ _)); exact BK212.out), (by repeat (first | (with_reducible first | exact HB.out | apply qac | apply qaa | apply qab | refine qah ?_ GE212.out) | exact HB.out))⟩)
        ·skip
         rintro v219 w10 ⟨hS_, h0_, h1_, h2_⟩
         have n0_ : Aside0 (Kd.R Kd.string 9 w10 w.heap.size (fun _ => True) v219 y218) := ⟨h0_⟩
         have n1_ : Aside0 (w10.heap[gb212]? = some (.cells #[.string a0_0, .string a0_1, .string a0_2, .bool a0_3, .bool a0_4] 56 (0, 0))) := ⟨h1_⟩
         have n2_ : Aside0 (Below w.heap.size w w10) := ⟨h2_⟩
         clear BK212 HB h0_ h1_ h2_
         have HO220 := n0_
         have BK212 := n1_
         have HB := n2_
         clear n0_ n1_ n2_
         have hHeld : w10.cell? ⟨gb212, 0, none⟩ = some (.string a0_0) ∧ w10.cell? ⟨gb212, 1, none⟩ = some (.string a0_1) ∧ w10.cell? ⟨gb212, 2, none⟩ = some (.string a0_2) ∧ w10.cell? ⟨gb212, 3, none⟩ = some (.bool a0_3) ∧ w10.cell? ⟨gb212, 4, none⟩ = some (.bool a0_4) := hS_
         refine qb5 (a' := ?_) ?_ ?_
         rotate_left
         ·simp only [qbS, Act.put, List.setIfInBounds_toArray, List.set_cons_zero, List.set_cons_succ]
          rfl
         refine one_ (i := 5) (N := some 8) #[true, true, true, true, true, true, false, false, false, false, true, true, true, true, true, true, true, false, false, false] rfl rfl (qdc HT_.out (by kernel_rfl)) (by decide) (fun K hK => ?_)
         refine qdg Try.func49 (by kernel_rfl) rfl #[.bool a0_4] (by rfl) rfl rfl (by (try simp only [List.map_toArray, List.map_cons, List.map_nil]); first | done | rfl | (simp only [List.length_drop, List.length_take]; rfl)) ?_
         with_reducible refine (qb0.calls a0_4 t214 _ A3.out).mono ?_
         rintro e w' ⟨rfl, ⟨nd, rfl⟩⟩
         refine ⟨_, rfl, ?_⟩
         refine hK.out _ _ ⟨(qad BK212.out 0).trans rfl, (qad BK212.out 1).trans rfl, (qad BK212.out 2).trans rfl, (qad BK212.out 3).trans rfl, (qad BK212.out 4).trans rfl⟩ (fun hHeld => ?_)
         clear hK K
         refine qb5 (a' := ?_) ?_ ?_
         rotate_left
         ·show Act.put _ (some 8) _ = _
          simp only [Act.put, List.setIfInBounds_toArray, List.set_cons_zero, List.set_cons_succ, qbe, qbo]
          rfl
         refine qb1 (i := 6) (N := some 9) (v := ?_) (a' := ?_) #[true, true, true, true, true, true, true, false, false, false, true, true, true, true, true, true, true, false, false, false] rfl rfl (qbu HT_.out (by kernel_rfl)) (fun _ _ _ h => h) (Or.inl ⟨by rfl, ?_⟩) ?_ ?_
         rotate_left
         ·intro w'
          go_simp
          with_reducible rfl
         rotate_left
         ·simp only [Act.put, List.setIfInBounds_toArray, List.set_cons_zero, List.set_cons_succ, qbe, qbo]
          rfl
         refine qb1 (i := 7) (N := some 10) (v := ?_) (a' := ?_) #[true, true, true, true, true, true, true, true, false, false, true, true, true, true, true, true, true, false, false, false] rfl rfl (qbu HT_.out (by kernel_rfl)) (fun _ _ _ h => h) (Or.inl ⟨by rfl, ?_⟩) ?_ ?_
         rotate_left
         ·intro w'
          go_simp
          with_reducible rfl
         rotate_left
         ·simp only [Act.put, List.setIfInBounds_toArray, List.set_cons_zero, List.set_cons_succ, qbe, qbo]
          rfl
         refine qb1 (i := 8) (N := some 11) (v := ?_) (a' := ?_) #[true, true, true, true, true, true, true, true, true, false, true, true, true, true, true, true, true, false, false, false] rfl rfl (qbu HT_.out (by kernel_rfl)) (fun _ _ _ h => h) (Or.inl ⟨by rfl, ?_⟩) ?_ ?_
         rotate_left
         ·intro w'
          go_simp
          with_reducible rfl
         rotate_left
         ·simp only [Act.put, List.setIfInBounds_toArray, List.set_cons_zero, List.set_cons_succ, qbe, qbo]
          rfl
         exact qb5 (by first | (simp only [qbS, Act.put, List.setIfInBounds_toArray, List.set_cons_zero, List.set_cons_succ]; done) | (simp only [qbS, Act.put, List.setIfInBounds_toArray, List.set_cons_zero, List.set_cons_succ]; rfl)) (hJ2_5_16 (v219) _ ⟨hHeld, (by (with_reducible repeat (first | apply Kd.qar | apply Kd.qas | apply Kd.qaD)); exact HO220.out), (by (with_reducible repeat (first | refine qaj ?_ _ | refine qal ?_ | refine qai ?_ _)); exact BK212.out), (by repeat (first | (with_reducible first | exact HB.out | apply qac | apply qaa | apply qab | refine qah ?_ GE212.out) | exact HB.out))⟩)
       ·skip
        rintro _ w8 ⟨hS_, h0_, h1_⟩
        have n0_ : Aside0 (w8.heap[gb212]? = some (.cells #[.string a0_0, .string a0_1, .string a0_2, .bool a0_3, .bool a0_4] 56 (0, 0))) := ⟨h0_⟩
        have n1_ : Aside0 (Below w.heap.size w w8) := ⟨h1_⟩
        clear BK212 HB h0_ h1_
        have BK212 := n0_
        have HB := n1_
        clear n0_ n1_
        have hHeld : w8.cell? ⟨gb212, 0, none⟩ = some (.string a0_0) ∧ w8.cell? ⟨gb212, 1, none⟩ = some (.string a0_1) ∧ w8.cell? ⟨gb212, 2, none⟩ = some (.string a0_2) ∧ w8.cell? ⟨gb212, 3, none⟩ = some (.bool a0_3) ∧ w8.cell? ⟨gb212, 4, none⟩ = some (.bool a0_4) := hS_
        refine qb5 (a' := ?_) ?_ ?_
        rotate_left
        ·simp only [qbS, Act.put, List.setIfInBounds_toArray, List.set_cons_zero, List.set_cons_succ]
         rfl
        refine two_ (i := 9) (j := 16) (Ni := some 12) (Nj := some 19) #[true, true, true, true, true, true, true, true, true, true, true, true, true, true, true, true, false, false, false, false] #[true, true, true, true, true, true, true, true, true, false, true, true, true, true, true, true, true, false, false, false] rfl rfl rfl rfl (qgo HT_.out (by kernel_rfl)) (by decide) (by decide) (fun K hK => ?_) (fun K hK => ?_)
        ·skip
         refine Kd.qci (Kd.int .u8) _ 5 ?hg (N := 12) ?hd (xs := ([(wrap64 (t213 + (wrap64 (2 * t214)))) % 256] : List Int)) (inner := [.int .u8 ((wrap64 (t213 + (wrap64 (2 * t214)))) % 256)]) (ok := fun _ => True) (okp := fun _ => True) ?hr ?hp (fun _ hk => hk) trivial (Below.refl _ _) (Nat.le_refl _) (by simp) ?_; (case hd => rfl); (case hg => rfl); (case hr => first | (go_simp; done) | (go_simp; rfl)); (case hp => exact (Reps.one (show Kd.M (Kd.int .u8) _ _ _ ((wrap64 (t213 + (wrap64 (2 * t214)))) % 256) [.int .u8 ((wrap64 (t213 + (wrap64 (2 * t214)))) % 256)] from rfl) (Reps.none _ _)))
         intro v216 w9 ho10 hb hg_ hnew_
         clear hg_ hnew_
         (first | rw [← Ny215.out] at ho10 | (simp only [Int.reduceToNat] at ho10; rw [← Ny215.out] at ho10))
         have n0_ := Aside0.mk (Kd.qbh ho10 (qak (by repeat (first | (with_reducible first | exact HB.out | apply qac | apply qaa | apply qab | refine qah ?_ GE212.out) | exact HB.out))))
         have n1_ := Aside0.mk (qao (g := gb212) (o := .cells #[.string a0_0, .string a0_1, .string a0_2, .bool a0_3, .bool a0_4] 56 (0, 0)) (by (with_reducible repeat (first | refine qaj ?_ _ | refine qal ?_ | refine qai ?_ _)); exact BK212.out) hb)
         have n2_ := Aside0.mk (qag (by repeat (first | (with_reducible first | exact HB.out | apply qac | apply qaa | apply qab | refine qah ?_ GE212.out) | exact HB.out)) hb)
         clear BK212 HB
         have HO217 := n0_
         have BK212 := n1_
         have HB := n2_
         clear n0_ n1_ n2_ hb ho10
         refine hK.out _ _ ⟨(qad BK212.out 0).trans rfl, (qad BK212.out 1).trans rfl, (qad BK212.out 2).trans rfl, (qad BK212.out 3).trans rfl, (qad BK212.out 4).trans rfl⟩ (fun hHeld => ?_)
         clear hK K
         refine qb5 (a' := ?_) ?_ ?_
         rotate_left
         ·show Act.put _ (some 12) _ = _
          simp only [Act.put, List.setIfInBounds_toArray, List.set_cons_zero, List.set_cons_succ, qbe, qbo]
          rfl
         exact qb5 (by first | (simp only [qbS, Act.put, List.setIfInBounds_toArray, List.set_cons_zero, List.set_cons_succ]; done) | (simp only [qbS, Act.put, List.setIfInBounds_toArray, List.set_cons_zero, List.set_cons_succ]; rfl)) (hJ2_5_9 (v216) _ ⟨hHeld, (by (with_reducible repeat (first | apply Kd.qar | apply Kd.qas | apply Kd.qaD)); exact HO217.out), (by (with_reducible repeat (first | refine qaj ?_ _ | refine qal ?_ | refine qai ?_ _)); exact BK212.out), (by repeat (first | (with_reducible first | exact HB.out | apply qac | apply qaa | apply qab | refine qah ?_ GE212.out) | exact HB.out))⟩)
        ·skip
         refine Kd.qci Kd.string _ 9 ?hg (N := 19) ?hd (xs := ([a0_0, a0_1, a0_2] : List ByteArray)) (inner := [.string a0_0, .string a0_1, .string a0_2]) (ok := fun _ => True) (okp := fun _ => True) ?hr ?hp (fun _ hk => hk) trivial (Below.refl _ _) (Nat.le_refl _) (by simp) ?_; (case hd => rfl); (case hg => rfl); (case hr => first | (go_simp; done) | (go_simp; rfl)); (case hp => exact (Reps.one (show Kd.M Kd.string _ _ _ a0_0 [.string a0_0] from rfl) (Reps.one (show Kd.M Kd.string _ _ _ a0_1 [.string a0_1] from rfl) (Reps.one (show Kd.M Kd.string _ _ _ a0_2 [.string a0_2] from rfl) (Reps.none _ _)))))
         intro v219 w9 ho10 hb hg_ hnew_
         clear hg_ hnew_
         (first | rw [← Ny218.out] at ho10 | (simp only [Int.reduceToNat] at ho10; rw [← Ny218.out] at ho10))
         have n0_ := Aside0.mk (Kd.qbh ho10 (qak (by repeat (first | (with_reducible first | exact HB.out | apply qac | apply qaa | apply qab | refine qah ?_ GE212.out) | exact HB.out))))
         have n1_ := Aside0.mk (qao (g := gb212) (o := .cells #[.string a0_0, .string a0_1, .string a0_2, .bool a0_3, .bool a0_4] 56 (0, 0)) (by (with_reducible repeat (first | refine qaj ?_ _ | refine qal ?_ | refine qai ?_ _)); exact BK212.out) hb)
         have n2_ := Aside0.mk (qag (by repeat (first | (with_reducible first | exact HB.out | apply qac | apply qaa | apply qab | refine qah ?_ GE212.out) | exact HB.out)) hb)
         clear BK212 HB
         have HO220 := n0_
         have BK212 := n1_
         have HB := n2_
         clear n0_ n1_ n2_ hb ho10
         refine hK.out _ _ ⟨(qad BK212.out 0).trans rfl, (qad BK212.out 1).trans rfl, (qad BK212.out 2).trans rfl, (qad BK212.out 3).trans rfl, (qad BK212.out 4).trans rfl⟩ (fun hHeld => ?_)
         clear hK K
         refine qb5 (a' := ?_) ?_ ?_
         rotate_left
         ·show Act.put _ (some 19) _ = _
          simp only [Act.put, List.setIfInBounds_toArray, List.set_cons_zero, List.set_cons_succ, qbe, qbo]
          rfl
         exact qb5 (by first | (simp only [qbS, Act.put, List.setIfInBounds_toArray, List.set_cons_zero, List.set_cons_succ]; done) | (simp only [qbS, Act.put, List.setIfInBounds_toArray, List.set_cons_zero, List.set_cons_succ]; rfl)) (hJ2_5_16 (v219) _ ⟨hHeld, (by (with_reducible repeat (first | apply Kd.qar | apply Kd.qas | apply Kd.qaD)); exact HO220.out), (by (with_reducible repeat (first | refine qaj ?_ _ | refine qal ?_ | refine qai ?_ _)); exact BK212.out), (by repeat (first | (with_reducible first | exact HB.out | apply qac | apply qaa | apply qab | refine qah ?_ GE212.out) | exact HB.out))⟩)
      ·skip
       rintro v219 w10 ⟨hS_, h0_, h1_, h2_⟩
       have n0_ : Aside0 (Kd.R Kd.string 9 w10 w.heap.size (fun _ => True) v219 y218) := ⟨h0_⟩
       have n1_ : Aside0 (w10.heap[gb212]? = some (.cells #[.string a0_0, .string a0_1, .string a0_2, .bool a0_3, .bool a0_4] 56 (0, 0))) := ⟨h1_⟩
       have n2_ : Aside0 (Below w.heap.size w w10) := ⟨h2_⟩
       clear BK212 HB h0_ h1_ h2_
       have HO220 := n0_
       have BK212 := n1_
       have HB := n2_
       clear n0_ n1_ n2_
       have hHeld : w10.cell? ⟨gb212, 0, none⟩ = some (.string a0_0) ∧ w10.cell? ⟨gb212, 1, none⟩ = some (.string a0_1) ∧ w10.cell? ⟨gb212, 2, none⟩ = some (.string a0_2) ∧ w10.cell? ⟨gb212, 3, none⟩ = some (.bool a0_3) ∧ w10.cell? ⟨gb212, 4, none⟩ = some (.bool a0_4) := hS_
       refine qb5 (a' := ?_) ?_ ?_
       rotate_left
       ·simp only [qbS, Act.put, List.setIfInBounds_toArray, List.set_cons_zero, List.set_cons_succ]
        rfl
       refine two_ (i := 9) (j := 17) (Ni := some 12) (Nj := some 20) #[true, true, true, true, true, true, true, true, true, true, true, true, true, true, true, true, true, false, false, false] #[true, true, true, true, true, true, true, true, true, false, true, true, true, true, true, true, true, true, false, false] rfl rfl rfl rfl (qgo HT_.out (by kernel_rfl)) (by decide) (by decide) (fun K hK => ?_) (fun K hK => ?_)
       ·skip
        refine Kd.qci (Kd.int .u8) _ 5 ?hg (N := 12) ?hd (xs := ([(wrap64 (t213 + (wrap64 (2 * t214)))) % 256] : List Int)) (inner := [.int .u8 ((wrap64 (t213 + (wrap64 (2 * t214)))) % 256)]) (ok := fun _ => True) (okp := fun _ => True) ?hr ?hp (fun _ hk => hk) trivial (Below.refl _ _) (Nat.le_refl _) (by simp) ?_; (case hd => rfl); (case hg => rfl); (case hr => first | (go_simp; done) | (go_simp; rfl)); (case hp => exact (Reps.one (show Kd.M (Kd.int .u8) _ _ _ ((wrap64 (t213 + (wrap64 (2 * t214)))) % 256) [.int .u8 ((wrap64 (t213 + (wrap64 (2 * t214)))) % 256)] from rfl) (Reps.none _ _)))
        intro v216 w11 ho12 hb hg_ hnew_
        clear hg_ hnew_
        (first | rw [← Ny215.out] at ho12 | (simp only [Int.reduceToNat] at ho12; rw [← Ny215.out] at ho12))
        have n0_ := Aside0.mk (Kd.qaX (by (with_reducible repeat (first | apply Kd.qar | apply Kd.qas | apply Kd.qaD)); exact HO220.out) hb)
        have n1_ := Aside0.mk (Kd.qbh ho12 (qak (by repeat (first | (with_reducible first | exact HB.out | apply qac | apply qaa | apply qab | refine qah ?_ GE212.out) | exact HB.out))))
        have n2_ := Aside0.mk (qao (g := gb212) (o := .cells #[.string a0_0, .string a0_1, .string a0_2, .bool a0_3, .bool a0_4] 56 (0, 0)) (by (with_reducible repeat (first | refine qaj ?_ _ | refine qal ?_ | refine qai ?_ _)); exact BK212.out) hb)
        have n3_ := Aside0.mk (qag (by repeat (first | (with_reducible first | exact HB.out | apply qac | apply qaa | apply qab | refine qah ?_ GE212.out) | exact HB.out)) hb)
        clear HO220 BK212 HB
        have HO220 := n0_
        have HO217 := n1_
        have BK212 := n2_
        have HB := n3_
        clear n0_ n1_ n2_ n3_ hb ho12
        refine hK.out _ _ ⟨(qad BK212.out 0).trans rfl, (qad BK212.out 1).trans rfl, (qad BK212.out 2).trans rfl, (qad BK212.out 3).trans rfl, (qad BK212.out 4).trans rfl⟩ (fun hHeld => ?_)
        clear hK K
        refine qb5 (a' := ?_) ?_ ?_
        rotate_left
        ·show Act.put _ (some 12) _ = _
         simp only [Act.put, List.setIfInBounds_toArray, List.set_cons_zero, List.set_cons_succ, qbe, qbo]
         rfl
        exact qb5 (by first | (simp only [qbS, Act.put, List.setIfInBounds_toArray, List.set_cons_zero, List.set_cons_succ]; done) | (simp only [qbS, Act.put, List.setIfInBounds_toArray, List.set_cons_zero, List.set_cons_succ]; rfl)) (hJ2_5_9_16 (v216, v219) _ ⟨hHeld, (by (with_reducible repeat (first | apply Kd.qar | apply Kd.qas | apply Kd.qaD)); exact HO217.out), (by (with_reducible repeat (first | apply Kd.qar | apply Kd.qas | apply Kd.qaD)); exact HO220.out), (by (with_reducible repeat (first | refine qaj ?_ _ | refine qal ?_ | refine qai ?_ _)); exact BK212.out), (by repeat (first | (with_reducible first | exact HB.out | apply qac | apply qaa | apply qab | refine qah ?_ GE212.out) | exact HB.out))⟩)
       ·skip
        obtain ⟨Ao11, co11, eo_m⟩ := Kd.qbN HO220.out
        subst eo_m
        refine qdg Try.func32 (by kernel_rfl) rfl #[.slice Ao11 y218.length co11] (by rfl) rfl rfl (by (try simp only [List.map_toArray, List.map_cons, List.map_nil]); first | done | rfl | (simp only [List.length_drop, List.length_take]; rfl)) ?_
        with_reducible refine (qbd.calls _ _ y218 t221 _ ?side1 ?side2 A4.out).mono ?_
        (case side1 => repeat (first | exact (Kd.qaO HO220.out).2.2 | (with_reducible refine Kd.qa9 ?_ _) | (with_reducible refine Kd.qba ?_ _) | (with_reducible refine Kd.qbl ?_)))
        (case side2 => exact (Kd.qaO HO220.out).2.1)
        rintro e w12 ⟨v222, rfl, ho0, hb⟩
        refine ⟨_, rfl, ?_⟩
        have n0_ := Aside0.mk (Kd.qaX (by (with_reducible repeat (first | apply Kd.qar | apply Kd.qas | apply Kd.qaD)); exact HO220.out) hb)
        have n1_ := Aside0.mk (Kd.qbh ho0 (qak (by repeat (first | (with_reducible first | exact HB.out | apply qac | apply qaa | apply qab | refine qah ?_ GE212.out) | exact HB.out))))
        have n2_ := Aside0.mk (qao (g := gb212) (o := .cells #[.string a0_0, .string a0_1, .string a0_2, .bool a0_3, .bool a0_4] 56 (0, 0)) (by (with_reducible repeat (first | refine qaj ?_ _ | refine qal ?_ | refine qai ?_ _)); exact BK212.out) hb)
        have n3_ := Aside0.mk (qag (by repeat (first | (with_reducible first | exact HB.out | apply qac | apply qaa | apply qab | refine qah ?_ GE212.out) | exact HB.out)) hb)
        clear HO220 BK212 HB
        have HO220 := n0_
        have HO223 := n1_
        have BK212 := n2_
        have HB := n3_
        clear n0_ n1_ n2_ n3_
        (try clear hb)
        (try clear hb2)
        (try clear hk)
        (try clear hi)
        (try clear ho0)
        refine hK.out _ _ ⟨(qad BK212.out 0).trans rfl, (qad BK212.out 1).trans rfl, (qad BK212.out 2).trans rfl, (qad BK212.out 3).trans rfl, (qad BK212.out 4).trans rfl⟩ (fun hHeld => ?_)
        clear hK K
        refine qb5 (a' := ?_) ?_ ?_
        rotate_left
        ·show Act.put _ (some 20) _ = _
         simp only [Act.put, List.setIfInBounds_toArray, List.set_cons_zero, List.set_cons_succ, qbe, qbo]
         rfl
        exact qb5 (by first | (simp only [qbS, Act.put, List.setIfInBounds_toArray, List.set_cons_zero, List.set_cons_succ]; done) | (simp only [qbS, Act.put, List.setIfInBounds_toArray, List.set_cons_zero, List.set_cons_succ]; rfl)) (hJ2_5_16_17 (.slice Ao11 y218.length co11, v222) _ ⟨hHeld, (by (with_reducible repeat (first | apply Kd.qar | apply Kd.qas | apply Kd.qaD)); exact HO220.out), (by (with_reducible repeat (first | apply Kd.qar | apply Kd.qas | apply Kd.qaD)); exact HO223.out), (by (with_reducible repeat (first | refine qaj ?_ _ | refine qal ?_ | refine qai ?_ _)); exact BK212.out), (by repeat (first | (with_reducible first | exact HB.out | apply qac | apply qaa | apply qab | refine qah ?_ GE212.out) | exact HB.out))⟩)
     ·skip
      rintro v216 w10 ⟨hS_, h0_, h1_, h2_⟩
      have n0_ : Aside0 (Kd.R (Kd.int .u8) 5 w10 w.heap.size (fun _ => True) v216 y215) := ⟨h0_⟩
      have n1_ : Aside0 (w10.heap[gb212]? = some (.cells #[.string a0_0, .string a0_1, .string a0_2, .bool a0_3, .bool a0_4] 56 (0, 0))) := ⟨h1_⟩
      have n2_ : Aside0 (Below w.heap.size w w10) := ⟨h2_⟩
      clear BK212 HB h0_ h1_ h2_
      have HO217 := n0_
      have BK212 := n1_
      have HB := n2_
      clear n0_ n1_ n2_
      have hHeld : w10.cell? ⟨gb212, 0, none⟩ = some (.string a0_0) ∧ w10.cell? ⟨gb212, 1, none⟩ = some (.string a0_1) ∧ w10.cell? ⟨gb212, 2, none⟩ = some (.string a0_2) ∧ w10.cell? ⟨gb212, 3, none⟩ = some (.bool a0_3) ∧ w10.cell? ⟨gb212, 4, none⟩ = some (.bool a0_4) := hS_
      refine qb5 (a' := ?_) ?_ ?_
      rotate_left
      ·simp only [qbS, Act.put, List.setIfInBounds_toArray, List.set_cons_zero, List.set_cons_succ]
       rfl
      refine one_ (i := 16) (N := some 19) #[true, true, true, true, true, true, true, true, true, true, true, true, true, true, true, true, true, false, false, false] rfl rfl (qdc HT_.out (by kernel_rfl)) (by decide) (fun K hK => ?_)
      refine Kd.qci Kd.string _ 9 ?hg (N := 19) ?hd (xs := ([a0_0, a0_1, a0_2] : List ByteArray)) (inner := [.string a0_0, .string a0_1, .string a0_2]) (ok := fun _ => True) (okp := fun _ => True) ?hr ?hp (fun _ hk => hk) trivial (Below.refl _ _) (Nat.le_refl _) (by simp) ?_; (case hd => rfl); (case hg => rfl); (case hr => first | (go_simp; done) | (go_simp; rfl)); (case hp => exact (Reps.one (show Kd.M Kd.string _ _ _ a0_0 [.string a0_0] from rfl) (Reps.one (show Kd.M Kd.string _ _ _ a0_1 [.string a0_1] from rfl) (Reps.one (show Kd.M Kd.string _ _ _ a0_2 [.string a0_2] from rfl) (Reps.none _ _)))))
      intro v219 w11 ho12 hb hg_ hnew_
      clear hg_ hnew_
      (first | rw [← Ny218.out] at ho12 | (simp only [Int.reduceToNat] at ho12; rw [← Ny218.out] at ho12))
      have n0_ := Aside0.mk (Kd.qaX (by (with_reducible repeat (first | apply Kd.qar | apply Kd.qas | apply Kd.qaD)); exact HO217.out) hb)
      have n1_ := Aside0.mk (Kd.qbh ho12 (qak (by repeat (first | (with_reducible first | exact HB.out | apply qac | apply qaa | apply qab | refine qah ?_ GE212.out) | exact HB.out))))
      have n2_ := Aside0.mk (qao (g := gb212) (o := .cells #[.string a0_0, .string a0_1, .string a0_2, .bool a0_3, .bool a0_4] 56 (0, 0)) (by (with_reducible repeat (first | refine qaj ?_ _ | refine qal ?_ | refine qai ?_ _)); exact BK212.out) hb)
      have n3_ := Aside0.mk (qag (by repeat (first | (with_reducible first | exact HB.out | apply qac | apply qaa | apply qab | refine qah ?_ GE212.out) | exact HB.out)) hb)
      clear HO217 BK212 HB
      have HO217 := n0_
      have HO220 := n1_
      have BK212 := n2_
      have HB := n3_
      clear n0_ n1_ n2_ n3_ hb ho12
      refine hK.out _ _ ⟨(qad BK212.out 0).trans rfl, (qad BK212.out 1).trans rfl, (qad BK212.out 2).trans rfl, (qad BK212.out 3).trans rfl, (qad BK212.out 4).trans rfl⟩ (fun hHeld => ?_)
      clear hK K
      refine qb5 (a' := ?_) ?_ ?_
      rotate_left
      ·show Act.put _ (some 19) _ = _
       simp only [Act.put, List.setIfInBounds_toArray, List.set_cons_zero, List.set_cons_succ, qbe, qbo]
       rfl
      exact qb5 (by first | (simp only [qbS, Act.put, List.setIfInBounds_toArray, List.set_cons_zero, List.set_cons_succ]; done) | (simp only [qbS, Act.put, List.setIfInBounds_toArray, List.set_cons_zero, List.set_cons_succ]; rfl)) (hJ2_5_9_16 (v216, v219) _ ⟨hHeld, (by (with_reducible repeat (first | apply Kd.qar | apply Kd.qas | apply Kd.qaD)); exact HO217.out), (by (with_reducible repeat (first | apply Kd.qar | apply Kd.qas | apply Kd.qaD)); exact HO220.out), (by (with_reducible repeat (first | refine qaj ?_ _ | refine qal ?_ | refine qai ?_ _)); exact BK212.out), (by repeat (first | (with_reducible first | exact HB.out | apply qac | apply qaa | apply qab | refine qah ?_ GE212.out) | exact HB.out))⟩)
    ·skip
     rintro ⟨v219, v222⟩ w12 ⟨hS_, h0_, h1_, h2_, h3_⟩
     have n0_ : Aside0 (Kd.R Kd.string 9 w12 w.heap.size (fun _ => True) v219 y218) := ⟨h0_⟩
     have n1_ : Aside0 (Kd.R (Kd.int .u8) 5 w12 w.heap.size (fun _ => True) v222 t221) := ⟨h1_⟩
     have n2_ : Aside0 (w12.heap[gb212]? = some (.cells #[.string a0_0, .string a0_1, .string a0_2, .bool a0_3, .bool a0_4] 56 (0, 0))) := ⟨h2_⟩
     have n3_ : Aside0 (Below w.heap.size w w12) := ⟨h3_⟩
     clear BK212 HB h0_ h1_ h2_ h3_
     have HO220 := n0_
     have HO223 := n1_
     have BK212 := n2_
     have HB := n3_
     clear n0_ n1_ n2_ n3_
     have hHeld : w12.cell? ⟨gb212, 0, none⟩ = some (.string a0_0) ∧ w12.cell? ⟨gb212, 1, none⟩ = some (.string a0_1) ∧ w12.cell? ⟨gb212, 2, none⟩ = some (.string a0_2) ∧ w12.cell? ⟨gb212, 3, none⟩ = some (.bool a0_3) ∧ w12.cell? ⟨gb212, 4, none⟩ = some (.bool a0_4) := hS_
     refine qb5 (a' := ?_) ?_ ?_
     rotate_left
     ·simp only [qbS, Act.put, List.setIfInBounds_toArray, List.set_cons_zero, List.set_cons_succ]
      rfl
     refine one_ (i := 9) (N := some 12) #[true, true, true, true, true, true, true, true, true, true, true, true, true, true, true, true, true, true, false, false] rfl rfl (qdc HT_.out (by kernel_rfl)) (by decide) (fun K hK => ?_)
     refine Kd.qci (Kd.int .u8) _ 5 ?hg (N := 12) ?hd (xs := ([(wrap64 (t213 + (wrap64 (2 * t214)))) % 256] : List Int)) (inner := [.int .u8 ((wrap64 (t213 + (wrap64 (2 * t214)))) % 256)]) (ok := fun _ => True) (okp := fun _ => True) ?hr ?hp (fun _ hk => hk) trivial (Below.refl _ _) (Nat.le_refl _) (by simp) ?_; (case hd => rfl); (case hg => rfl); (case hr => first | (go_simp; done) | (go_simp; rfl)); (case hp => exact (Reps.one (show Kd.M (Kd.int .u8) _ _ _ ((wrap64 (t213 + (wrap64 (2 * t214)))) % 256) [.int .u8 ((wrap64 (t213 + (wrap64 (2 * t214)))) % 256)] from rfl) (Reps.none _ _)))
     intro v216 w13 ho14 hb hg_ hnew_
     clear hg_ hnew_
     (first | rw [← Ny215.out] at ho14 | (simp only [Int.reduceToNat] at ho14; rw [← Ny215.out] at ho14))
     have n0_ := Aside0.mk (Kd.qaX (by (with_reducible repeat (first | apply Kd.qar | apply Kd.qas | apply Kd.qaD)); exact HO220.out) hb)
     have n1_ := Aside0.mk (Kd.qch (by (with_reducible repeat (first | apply Kd.qar | apply Kd.qas | apply Kd.qaD)); exact HO223.out) (Kd.qcT ho14) hb)
     have n2_ := Aside0.mk (Kd.qbh (Kd.qdb ho14 (Kd.R_lt (by (with_reducible repeat (first | apply Kd.qar | apply Kd.qas | apply Kd.qaD)); exact HO223.out))) (qak (by repeat (first | (with_reducible first | exact HB.out | apply qac | apply qaa | apply qab | refine qah ?_ GE212.out) | exact HB.out))))
     have n3_ := Aside0.mk (qao (g := gb212) (o := .cells #[.string a0_0, .string a0_1, .string a0_2, .bool a0_3, .bool a0_4] 56 (0, 0)) (by (with_reducible repeat (first | refine qaj ?_ _ | refine qal ?_ | refine qai ?_ _)); exact BK212.out) hb)
     have n4_ := Aside0.mk (qag (by repeat (first | (with_reducible first | exact HB.out | apply qac | apply qaa | apply qab | refine qah ?_ GE212.out) | exact HB.out)) hb)
     clear HO220 HO223 BK212 HB
     have HO220 := n0_
     have HO223 := n1_
     have HO217 := n2_
     have BK212 := n3_
     have HB := n4_
     clear n0_ n1_ n2_ n3_ n4_ hb ho14
     refine hK.out _ _ ⟨(qad BK212.out 0).trans rfl, (qad BK212.out 1).trans rfl, (qad BK212.out 2).trans rfl, (qad BK212.out 3).trans rfl, (qad BK212.out 4).trans rfl⟩ (fun hHeld => ?_)
     clear hK K
     refine qb5 (a' := ?_) ?_ ?_
     rotate_left
     ·show Act.put _ (some 12) _ = _
      simp only [Act.put, List.setIfInBounds_toArray, List.set_cons_zero, List.set_cons_succ, qbe, qbo]
      rfl
     exact qb5 (by first | (simp only [qbS, Act.put, List.setIfInBounds_toArray, List.set_cons_zero, List.set_cons_succ]; done) | (simp only [qbS, Act.put, List.setIfInBounds_toArray, List.set_cons_zero, List.set_cons_succ]; rfl)) (hJ2_5_9_16_17 (v216, v219, v222) _ ⟨hHeld, (by (with_reducible repeat (first | apply Kd.qar | apply Kd.qas | apply Kd.qaD)); exact Kd.qbr HO217.out (fun _ hk => hk.2)), (by (with_reducible repeat (first | apply Kd.qar | apply Kd.qas | apply Kd.qaD)); exact HO220.out), (by (with_reducible repeat (first | apply Kd.qar | apply Kd.qas | apply Kd.qaD)); exact Kd.qbr HO223.out (fun _ hk => hk.2)), (by (with_reducible repeat (first | refine qaj ?_ _ | refine qal ?_ | refine qai ?_ _)); exact BK212.out), (by repeat (first | (with_reducible first | exact HB.out | apply qac | apply qaa | apply qab | refine qah ?_ GE212.out) | exact HB.out))⟩)
   ·skip
    rintro ⟨v216, v219⟩ w12 ⟨hS_, h0_, h1_, h2_, h3_⟩
    have n0_ : Aside0 (Kd.R (Kd.int .u8) 5 w12 w.heap.size (fun _ => True) v216 y215) := ⟨h0_⟩
    have n1_ : Aside0 (Kd.R Kd.string 9 w12 w.heap.size (fun _ => True) v219 y218) := ⟨h1_⟩
    have n2_ : Aside0 (w12.heap[gb212]? = some (.cells #[.string a0_0, .string a0_1, .string a0_2, .bool a0_3, .bool a0_4] 56 (0, 0))) := ⟨h2_⟩
    have n3_ : Aside0 (Below w.heap.size w w12) := ⟨h3_⟩
    clear BK212 HB h0_ h1_ h2_ h3_
    have HO217 := n0_
    have HO220 := n1_
    have BK212 := n2_
    have HB := n3_
    clear n0_ n1_ n2_ n3_
    have hHeld : w12.cell? ⟨gb212, 0, none⟩ = some (.string a0_0) ∧ w12.cell? ⟨gb212, 1, none⟩ = some (.string a0_1) ∧ w12.cell? ⟨gb212, 2, none⟩ = some (.string a0_2) ∧ w12.cell? ⟨gb212, 3, none⟩ = some (.bool a0_3) ∧ w12.cell? ⟨gb212, 4, none⟩ = some (.bool a0_4) := hS_
    obtain ⟨Ao13, co13, eo13⟩ := Kd.qbN HO220.out
    (first | subst eo13 | (injection eo13 with f1_ f2_ f3_; have f4_ := f1_.symm; have f5_ := f3_.symm; clear f1_ f2_ f3_; subst f4_; subst f5_))
    refine qb5 (a' := ?_) ?_ ?_
    rotate_left
    ·simp only [qbS, Act.put, List.setIfInBounds_toArray, List.set_cons_zero, List.set_cons_succ]
     rfl
    refine one_ (i := 17) (N := some 20) #[true, true, true, true, true, true, true, true, true, true, true, true, true, true, true, true, true, true, false, false] rfl rfl (qdc HT_.out (by kernel_rfl)) (by decide) (fun K hK => ?_)
    refine qdg Try.func32 (by kernel_rfl) rfl #[.slice Ao13 y218.length co13] (by rfl) rfl rfl (by (try simp only [List.map_toArray, List.map_cons, List.map_nil]); first | done | rfl | (simp only [List.length_drop, List.length_take]; rfl)) ?_
    with_reducible refine (qbd.calls _ _ y218 t221 _ ?side1 ?side2 A4.out).mono ?_
    (case side1 => repeat (first | exact (Kd.qaO HO220.out).2.2 | (with_reducible refine Kd.qa9 ?_ _) | (with_reducible refine Kd.qba ?_ _) | (with_reducible refine Kd.qbl ?_)))
    (case side2 => exact (Kd.qaO HO220.out).2.1)
    rintro e w14 ⟨v222, rfl, ho0, hb⟩
    refine ⟨_, rfl, ?_⟩
    have n0_ := Aside0.mk (Kd.qch (by (with_reducible repeat (first | apply Kd.qar | apply Kd.qas | apply Kd.qaD)); exact HO217.out) (Kd.qcT ho0) hb)
    have n1_ := Aside0.mk (Kd.qaX (by (with_reducible repeat (first | apply Kd.qar | apply Kd.qas | apply Kd.qaD)); exact HO220.out) hb)
    have n2_ := Aside0.mk (Kd.qbh (Kd.qdb ho0 (Kd.R_lt (by (with_reducible repeat (first | apply Kd.qar | apply Kd.qas | apply Kd.qaD)); exact HO217.out))) (qak (by repeat (first | (with_reducible first | exact HB.out | apply qac | apply qaa | apply qab | refine qah ?_ GE212.out) | exact HB.out))))
    have n3_ := Aside0.mk (qao (g := gb212) (o := .cells #[.string a0_0, .string a0_1, .string a0_2, .bool a0_3, .bool a0_4] 56 (0, 0)) (by (with_reducible repeat (first | refine qaj ?_ _ | refine qal ?_ | refine qai ?_ _)); exact BK212.out) hb)
    have n4_ := Aside0.mk (qag (by repeat (first | (with_reducible first | exact HB.out | apply qac | apply qaa | apply qab | refine qah ?_ GE212.out) | exact HB.out)) hb)
    clear HO217 HO220 BK212 HB
    have HO217 := n0_
    have HO220 := n1_
    have HO223 := n2_
    have BK212 := n3_
    have HB := n4_
    clear n0_ n1_ n2_ n3_ n4_
    (try clear hb)
    (try clear hb2)
    (try clear hk)
    (try clear hi)
    (try clear ho0)
    refine hK.out _ _ ⟨(qad BK212.out 0).trans rfl, (qad BK212.out 1).trans rfl, (qad BK212.out 2).trans rfl, (qad BK212.out 3).trans rfl, (qad BK212.out 4).trans rfl⟩ (fun hHeld => ?_)
    clear hK K
    refine qb5 (a' := ?_) ?_ ?_
    rotate_left
    ·show Act.put _ (some 20) _ = _
     simp only [Act.put, List.setIfInBounds_toArray, List.set_cons_zero, List.set_cons_succ, qbe, qbo]
     rfl
    exact qb5 (by first | (simp only [qbS, Act.put, List.setIfInBounds_toArray, List.set_cons_zero, List.set_cons_succ]; done) | (simp only [qbS, Act.put, List.setIfInBounds_toArray, List.set_cons_zero, List.set_cons_succ]; rfl)) (hJ2_5_9_16_17 (v216, .slice Ao13 y218.length co13, v222) _ ⟨hHeld, (by (with_reducible repeat (first | apply Kd.qar | apply Kd.qas | apply Kd.qaD)); exact Kd.qbr HO217.out (fun _ hk => hk.2)), (by (with_reducible repeat (first | apply Kd.qar | apply Kd.qas | apply Kd.qaD)); exact HO220.out), (by (with_reducible repeat (first | apply Kd.qar | apply Kd.qas | apply Kd.qaD)); exact Kd.qbr HO223.out (fun _ hk => hk.2)), (by (with_reducible repeat (first | refine qaj ?_ _ | refine qal ?_ | refine qai ?_ _)); exact BK212.out), (by repeat (first | (with_reducible first | exact HB.out | apply qac | apply qaa | apply qab | refine qah ?_ GE212.out) | exact HB.out))⟩)
  rintro ⟨v216, v219, v222⟩ w14 ⟨hS_, h0_, h1_, h2_, h3_, h4_⟩
  have n0_ : Aside0 (Kd.R (Kd.int .u8) 5 w14 w.heap.size (fun k_ => some k_ ≠ (v222 : Value).ownBlock) v216 y215) := ⟨h0_⟩
  have n1_ : Aside0 (Kd.R Kd.string 9 w14 w.heap.size (fun _ => True) v219 y218) := ⟨h1_⟩
  have n2_ : Aside0 (Kd.R (Kd.int .u8) 5 w14 w.heap.size (fun k_ => some k_ ≠ (v216 : Value).ownBlock) v222 t221) := ⟨h2_⟩
  have n3_ : Aside0 (w14.heap[gb212]? = some (.cells #[.string a0_0, .string a0_1, .string a0_2, .bool a0_3, .bool a0_4] 56 (0, 0))) := ⟨h3_⟩
  have n4_ : Aside0 (Below w.heap.size w w14) := ⟨h4_⟩
  clear BK212 HB h0_ h1_ h2_ h3_ h4_
  have HO217 := n0_
  have HO220 := n1_
  have HO223 := n2_
  have BK212 := n3_
  have HB := n4_
  clear n0_ n1_ n2_ n3_ n4_
  have hHeld : w14.cell? ⟨gb212, 0, none⟩ = some (.string a0_0) ∧ w14.cell? ⟨gb212, 1, none⟩ = some (.string a0_1) ∧ w14.cell? ⟨gb212, 2, none⟩ = some (.string a0_2) ∧ w14.cell? ⟨gb212, 3, none⟩ = some (.bool a0_3) ∧ w14.cell? ⟨gb212, 4, none⟩ = some (.bool a0_4) := hS_
  obtain ⟨Ao16, co16, eo16⟩ := Kd.qbN HO223.out
  (first | subst eo16 | (injection eo16 with f1_ f2_ f3_; have f4_ := f1_.symm; have f5_ := f3_.symm; clear f1_ f2_ f3_; subst f4_; subst f5_))
  refine qb5 (a' := ?_) ?_ ?_
  rotate_left
  ·simp only [qbS, Act.put, List.setIfInBounds_toArray, List.set_cons_zero, List.set_cons_succ]
   rfl
  refine one_ (i := 18) (N := some 21) #[true, true, true, true, true, true, true, true, true, true, true, true, true, true, true, true, true, true, true, false] rfl rfl (qdc HT_.out (by kernel_rfl)) (by decide) (fun K hK => ?_)
  refine Kd.qcB (Kd.int .u8) (w0 := w) w.heap.size (by rfl) (.tmp 12) (.tmp 20) 59 5 (.int .u8 0) 1 rfl Try.underlying59 info5 rfl (by decide) (by omega) v216 y215 t221 _ _ _ (fun k_ => some k_ ≠ (.slice Ao16 t221.length co16 : Value).ownBlock) (fun _ => False) rfl rfl ?aO ?aR (fun _ _ h => h) (fun _ h => h.elim) ?aF ?aB ?aS ?aL ?_
  (case aR => repeat (first | exact (Kd.qaO HO223.out).2.2 | (with_reducible refine Kd.qa9 ?_ _) | (with_reducible refine Kd.qba ?_ _) | (with_reducible refine Kd.qbl ?_)))
  (case aB => exact (by repeat (first | (with_reducible first | exact HB.out | apply qac | apply qaa | apply qab | refine qah ?_ GE212.out) | exact HB.out)))
  (case aF => exact (fun k_ hk => Kd.fresh' (Kd.R_lt (by (with_reducible repeat (first | apply Kd.qar | apply Kd.qas | apply Kd.qaD)); exact HO223.out)) k_ hk))
  (case aO => exact (by (with_reducible repeat (first | apply Kd.qar | apply Kd.qas | apply Kd.qaD)); exact HO217.out))
  (case aS => exact (qak (by repeat (first | (with_reducible first | exact HB.out | apply qac | apply qaa | apply qab | refine qah ?_ GE212.out) | exact HB.out))))
  (case aL => have := LMc5.out; omega)
  intro v225 w15 ho hb hg hat
  rw [← Ny224.out] at ho
  have n0_ := Aside0.mk (qdj (g := gb212) (o := .cells #[.string a0_0, .string a0_1, .string a0_2, .bool a0_3, .bool a0_4] 56 (0, 0)) (by (with_reducible repeat (first | refine qaj ?_ _ | refine qal ?_ | refine qai ?_ _)); exact BK212.out) hg (Kd.R_ne HO217.out BK212.out (by decide)))
  have n1_ := Aside0.mk (Kd.qgR (by (with_reducible repeat (first | apply Kd.qar | apply Kd.qas | apply Kd.qaD)); exact HO220.out) (Kd.qfT (by (with_reducible repeat (first | apply Kd.qar | apply Kd.qas | apply Kd.qaD)); exact HO217.out)) (by decide) hg)
  have n2_ := Aside0.mk (Kd.qeU (ok := (fun _ => True)) (by (with_reducible repeat (first | apply Kd.qar | apply Kd.qas | apply Kd.qaD)); exact Kd.qbr HO223.out (fun _ hk => ⟨trivial, hk⟩)) hg hat)
  have n3_ := Aside0.mk (hb)
  have n4_ := Aside0.mk (ho)
  clear BK212 HO220 HO223 HB HO217
  have BK212 := n0_
  have HO220 := n1_
  have HO223 := n2_
  have HB := n3_
  have HO226 := n4_
  clear n0_ n1_ n2_ n3_ n4_ ho hb hg hat
  refine hK.out _ _ ⟨(qad BK212.out 0).trans rfl, (qad BK212.out 1).trans rfl, (qad BK212.out 2).trans rfl, (qad BK212.out 3).trans rfl, (qad BK212.out 4).trans rfl⟩ (fun hHeld => ?_)
  clear hK K
  refine qb5 (a' := ?_) ?_ ?_
  rotate_left
  ·show Act.put _ (some 21) _ = _
   simp only [Act.put, List.setIfInBounds_toArray, List.set_cons_zero, List.set_cons_succ, qbe, qbo]
   rfl
  refine qb1 (i := 19) (N := some 2) (v := ?_) (a' := ?_) #[true, true, true, true, true, true, true, true, true, true, true, true, true, true, true, true, true, true, true, true] rfl rfl (qbu HT_.out (by kernel_rfl)) (fun _ _ _ h => h) (Or.inl ⟨by rfl, ?_⟩) ?_ ?_
  rotate_left
  ·intro w'
   go_simp
   with_reducible rfl
  rotate_left
  ·simp only [Act.put, List.setIfInBounds_toArray, List.set_cons_zero, List.set_cons_succ, qbe, qbo]
   rfl
  refine qgS (qeb HT_.out (by kernel_rfl)) ?_
  try go_wp2
  go_ret
  exact ⟨_, by first | rfl | (simp [qam, qan] <;> rfl) | (simp [*, qam, qan] <;> rfl), by (with_reducible repeat (first | apply Kd.qar | apply Kd.qas | apply Kd.qaD)); exact Kd.qbr HO226.out (fun _ hk => trivial), by repeat (first | (with_reducible first | exact HB.out | apply qac | apply qaa | apply qab | refine qah ?_ GE212.out) | exact HB.out)⟩
 ·rw [if_neg c5] at H
  exact absurd H (by simp)
end Go.Proofs.Ytlkdcicpaneakaa.X
