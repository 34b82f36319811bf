import Derived.Test.YtgcncphdjabjjaaKFnExactReplay3
import Derived.Shelf.Strings.Builder1
import Derived.LoopTactic
import Derived.BigQuiet
import Derived.Lib.UnsafeStr
import Derived.Lib.ConvBytes
import Derived.Lib.Bytealg
import Derived.Laws.Externs
import Derived.Laws.Strings
import Derived.Sort.Walk0
namespace Go.Proofs.Ytgcncphdjabjjaa.X
open Go.RowKit Go.Proofs.YtgcncphdjabjjaaW.PrintWords Go.Proofs.YtgcncphdjabjjaaW.PrintLast Go.Proofs.YtgcncphdjabjjaaW.PrintMore
attribute [local go_sem] qaC qaD qaE qay qaz qaN qaO qat qau qaA qaB
set_option linter.unusedVariables false
set_option linter.unusedSimpArgs false
set_option maxRecDepth 100000
def numT (n : Int) : ByteArray := strOfNums [n / 256 % 256, n % 256]
theorem qdx (n : Int) : (numT n).size = 2 := rfl
theorem qg2 (n : Int) : Ev (fun k => qbc.f k n 2) (numT n) := by
 unfold qbc.f
 refine Ev.pos (by omega) (Ev.pos (by omega) ?_)
 rw [show (2 : Int).toNat = 2 from rfl, show List.replicate 2 (0 : Int) = [0, 0] from rfl, qbR (x := 2 - 1) (by omega) (by omega)]
 refine Ev.succ ?_
 simp only [qbc.l0]
 refine Ev.pos (by omega) (Ev.pos (by omega) (Ev.pos (by simp) ?_))
 rw [qbR (x := 2 - 1 - 1) (by omega) (by omega)]
 refine Ev.succ ?_
 simp only [qbc.l0]
 refine Ev.pos (by omega) (Ev.pos (by omega) (Ev.pos (by simp) ?_))
 rw [qbR (x := 2 - 1 - 1 - 1) (by omega) (by omega)]
 refine Ev.succ ?_
 simp only [qbc.l0]
 exact Ev.neg (by omega) (Ev.is rfl)
def qbG (a : ByteArray) (l : List ByteArray) : ByteArray := l.foldl (fun a t => a ++ (numT (t.size : Int) ++ t)) a
def qda (l : List ByteArray) : ByteArray := qbG (strOfNums [(l.length : Int) % 256]) l
def qcO.f (l0 : List ByteArray) : Option ByteArray := if l0.length ≤ 1000000 ∧ (∀ t, t ∈ l0 → t.size ≤ 1000000) then some (qda l0) else none
theorem qff (B b : Nat) (bs : List Value) (c : Int) (w : World) (h : Lib.IsBuilder 102 5 B b bs w) (hlen : bs.length + 1 ≤ 140737488355328) (hBw : B ≤ w.heap.size) :
  Calls Try.prog 106 #[.pointer (some ⟨b, 0, none⟩), .int .u8 c] w fun e w' => e = .returned .nilIface ∧ (Lib.BuilderAt 102 5 B b (.pointer (some ⟨b, 0, none⟩)) (bs ++ [.int .u8 c]) w' ∧ Below B w w') := Any.Builder_WriteByte qhH qgn B b bs c w h hlen hBw
theorem qdy (B b : Nat) (bs : List Value) (s : ByteArray) (w : World) (h : Lib.IsBuilder 102 5 B b bs w) (hlen : bs.length + s.size ≤ 140737488355328) (hBw : B ≤ w.heap.size) :
  Calls Try.prog 83 #[.pointer (some ⟨b, 0, none⟩), .string s] w fun e w' => e = .returned (.tuple #[.int .i64 s.size, .nilIface]) ∧ (Lib.BuilderAt 102 5 B b (.pointer (some ⟨b, 0, none⟩)) (bs ++ Lib.strCells s) w' ∧ Below B w w') := Any.Builder_WriteString qhJ qgn B b bs s w h hlen hBw
theorem qe3 (B b : Nat) (l : List UInt8) (w : World) (h : Lib.IsBuilder 102 5 B b (Lib.byteCells l) w) (hBw : B ≤ w.heap.size) :
  Calls Try.prog 86 #[.pointer (some ⟨b, 0, none⟩)] w fun e w' => e = .returned (.string ⟨l.toArray⟩) ∧ Below B w w' := Any.Builder_String_any qhI qgn B b l w h hBw
theorem qdz {T e : TypeId} {B b : Nat} {bs : List Value} {w w' : World} (h : Lib.IsBuilder T e B b bs w) (hb : Below w.heap.size w w') : Lib.IsBuilder T e B b bs w' := by
 have own : ∀ v, w.ownsRow B e 1 v bs.length bs → w'.ownsRow B e 1 v bs.length bs := by
  rintro v ⟨h1, h2⟩
  refine ⟨h1, ?_⟩
  rcases h2 with hn | ⟨g, cap, cur, rfl, hB, hg, rest⟩
  ·exact .inl hn
  ·exact .inr ⟨g, cap, cur, rfl, hB, qao hg hb, rest⟩
 rcases h with ⟨hB, v, hk, ho, hn⟩ | ⟨hB, v, hk, ho, hn⟩
 ·exact .inl ⟨hB, v, qao hk hb, own v ho, hn⟩
 ·exact .inr ⟨hB, v, qao hk hb, own v ho, hn⟩
theorem qdA (a : ByteArray) (l : List ByteArray) (t : ByteArray) : qbG a (l ++ [t]) = qbG a l ++ (numT (t.size : Int) ++ t) := by
 unfold qbG
 rw [List.foldl_append]
 rfl
theorem qdB (l : List ByteArray) : ∀ a : ByteArray, (∀ t, t ∈ l → t.size ≤ 1000000) → (qbG a l).size ≤ a.size + 1000002 * l.length := by
 induction l with
 | nil => intro a _; exact Nat.le_add_right _ _
 | cons t l ih =>
  intro a h
  have h1 := h t List.mem_cons_self
  have h2 := ih (a ++ (numT (t.size : Int) ++ t)) fun x hx => h x (List.mem_cons_of_mem _ hx)
  have h3 : (a ++ (numT (t.size : Int) ++ t)).size = a.size + (2 + t.size) := by rw [ByteArray.size_append, ByteArray.size_append, qdx]
  rw [h3] at h2
  simp only [List.length_cons]
  show (qbG (a ++ (numT (t.size : Int) ++ t)) l).size ≤ _
  omega
set_option maxHeartbeats 2000000 in
theorem qcO.calls (A0 : Option Addr) (c0 : Nat) (l0 : List ByteArray) (r : ByteArray) (w : World) (hr0 : Kd.C Kd.string w A0 l0.length l0) (hc0 : l0.length ≤ c0) (h : qcO.f l0 = some r) :
  Calls Try.prog 84 #[.slice A0 l0.length c0] w fun e w' => e = .returned (.string r) ∧ Below w.heap.size w w' := by
 unfold qcO.f at h
 by_cases hs : l0.length ≤ 1000000 ∧ (∀ t, t ∈ l0 → t.size ≤ 1000000)
 ·rw [if_pos hs] at h
  obtain rfl := Option.some.inj h
  obtain ⟨hs1, hs2⟩ := hs
  have HS := Aside0.mk hs2
  have HR := Aside0.mk hr0
  clear hr0 h hs2
  have ea : strOfNums [(l0.length : Int) % 256] = strOfNums [(l0.length : Int) % 256] := rfl
  go_enter Try.func84, Try.ntmps84
  go_wp2_with fail
  have hsz : (w.alloc (.cells #[.pointer none, .slice none 0 0] 102 (0, 0))).heap.size = w.heap.size + 1 := by
   show (w.heap.push _).size = _
   rw [Array.size_push]
  refine (qff w.heap.size w.heap.size [] ((l0.length : Int) % 256) _ (Lib.fresh_isBuilder 102 5 w) (by simp) (by omega)).mono ?_
  rintro e w1 ⟨rfl, hB1, hb1⟩
  have HB1 := Aside0.mk (show Lib.IsBuilder 102 5 w.heap.size w.heap.size (Lib.byteCells (strOfNums [(l0.length : Int) % 256]).data.toList) w1 from by
   have e : Lib.byteCells (strOfNums [(l0.length : Int) % 256]).data.toList = [] ++ [Value.int .u8 ((l0.length : Int) % 256)] := by
    simp [Lib.byteCells, strOfNums]
    omega
   rw [e]; exact .inr hB1)
  have HB := Aside0.mk (show Below w.heap.size w w1 from ((Below.refl _ w).alloc (Nat.le_refl _) _).trans hb1)
  clear hB1 hb1 hsz
  go_wp2_with fail
  go_loopw [13] (fun v13 wr => ∃ k : Nat, k ≤ l0.length ∧ v13 = .int .i64 k ∧ Aside0 (Lib.IsBuilder 102 5 w.heap.size w.heap.size (Lib.byteCells (qbG (strOfNums [(l0.length : Int) % 256]) (l0.take k)).data.toList) wr) ∧ Aside0 (Below w.heap.size w wr)) (fun v13 _ => l0.length - (intOf v13).toNat)
  case atStart => exact ⟨0, Nat.zero_le _, rfl, ⟨by rw [List.take_zero]; exact HB1.out⟩, HB⟩
  case round =>
   clear HB HB1
   obtain ⟨k, hk, rfl, HI, HB⟩ := hrel
   have hfs := qdB (l0.take k) (strOfNums [(l0.length : Int) % 256]) fun t ht => HS.out t (List.mem_of_mem_take ht)
   rw [List.length_take] at hfs
   have ha1 : (strOfNums [(l0.length : Int) % 256]).size = 1 := rfl
   rw [ha1] at hfs
   by_cases hlt : k < l0.length
   ·have c1 : decide ((k : Int) < (l0.length : Int)) = true := decide_eq_true (by omega)
    have p1 : 0 ≤ (k : Int) := by omega
    have q1 : (k : Int) < (l0.length : Int) := by omega
    obtain ⟨ad, e, hx⟩ := Kd.qfH HR.out (k : Int) p1 q1
    cases e
    have et : rdOf ByteArray.empty l0 (k : Int) = l0[k] := by unfold rdOf; rw [Int.toNat_natCast]; simp [List.getD_eq_getElem?_getD, hlt]
    rw [et, Int.toNat_natCast] at hx
    have htk : l0.take (k + 1) = l0.take k ++ [l0[k]] := List.take_succ_eq_append_getElem hlt
    have hts := HS.out l0[k] (List.getElem_mem hlt)
    replace hx := (HB.out.cell (World.block_lt_of_cell? w _ hx)).trans hx
    clear et
    generalize l0[k] = t at hx htk hts
    obtain ⟨K, hK⟩ := qg2 (t.size : Int)
    have hK2 := Aside0.mk (hK K (Nat.le_refl _))
    clear hK
    replace p1 := eq_true p1
    replace q1 := eq_true q1
    go_wp2_with fail
    refine (qbc.calls K _ _ _ _ hK2.out).mono ?_
    rintro e w2 ⟨rfl, hb2⟩
    have hns := qdx (t.size : Int)
    have hov : (9223372036854775807 < (numT (t.size : Int)).size + t.size) = False := eq_false (by omega)
    generalize hN : numT (t.size : Int) = nb at *
    go_wp2_with fail
    refine (qdy w.heap.size w.heap.size _ (nb ++ t) _ (qdz HI.out hb2) (by
     rw [Lib.byteCells_length, ByteArray.size_append, Array.length_toList]
     have : (qbG (strOfNums [(l0.length : Int) % 256]) (l0.take k)).data.size = (qbG (strOfNums [(l0.length : Int) % 256]) (l0.take k)).size := rfl
     omega) (by have := HB.out.size; have := hb2.size; omega)).mono ?_
    rintro e w3 ⟨rfl, hB3, hb3⟩
    have HB3 := Aside0.mk (qag HB.out hb2)
    have HN := Aside0.mk hN
    have HTK := Aside0.mk htk
    clear hN htk hov hns hfs
    go_wp2_with fail
    refine ⟨⟨k + 1, by omega, rfl, ⟨?_⟩, ⟨HB3.out.trans hb3⟩⟩, by simp [intOf]; omega⟩
    rw [HTK.out, qdA, HN.out]
    have e : Lib.byteCells (qbG (strOfNums [(l0.length : Int) % 256]) (l0.take k) ++ (nb ++ t)).data.toList = Lib.byteCells (qbG (strOfNums [(l0.length : Int) % 256]) (l0.take k)).data.toList ++ Lib.strCells (nb ++ t) := by
     rw [Lib.strCells_eq, ← Lib.byteCells_append, ByteArray.data_append, Array.toList_append]
    rw [e]
    exact .inr hB3
   ·have e : k = l0.length := by omega
    have c1 : decide ((k : Int) < (l0.length : Int)) = false := decide_eq_false (by omega)
    have e9 : l0.take k = l0 := by rw [e, List.take_length]
    rw [e9] at HI
    go_wp2_with fail
    refine (qe3 w.heap.size w.heap.size _ _ HI.out HB.out.size).mono ?_
    rintro e w2 ⟨rfl, hb2⟩
    go_wp2_with fail
    go_ret
    exact ⟨by first | rfl | simp [qda], HB.out.trans hb2⟩
 ·rw [if_neg hs] at h
  cases h
end Go.Proofs.Ytgcncphdjabjjaa.X
namespace Go.Proofs.Ytgcncphdjabjjaa.X
open Go.RowKit Go.Proofs.YtgcncphdjabjjaaW.PrintWords Go.Proofs.YtgcncphdjabjjaaW.PrintLast Go.Proofs.YtgcncphdjabjjaaW.PrintMore
attribute [local go_sem] qaC qaD qaE qay qaz qaN qaO qat qau qaA qaB
set_option linter.unusedVariables false
set_option linter.unusedSimpArgs false
theorem qeb (s : ByteArray) : ∀ c, c ∈ bytesOf s → isByte c := by
 intro c hc
 unfold bytesOf at hc
 obtain ⟨b, _, rfl⟩ := List.mem_map.1 hc
 have := b.toNat_lt
 exact ⟨by omega, by omega⟩
def qcZ.f (a0 : ByteArray) : Option Int := if a0.size ≤ 1000000000 then some (qdw (bytesOf a0)) else none
set_option maxRecDepth 100000 in
set_option maxHeartbeats 2000000 in
theorem qcZ.calls (a0 : ByteArray) (r : Int) (w : World) (h : qcZ.f a0 = some r) :
  Calls Try.prog 85 #[.string a0] w fun e w' => e = .returned (.int .i64 r) ∧ Below w.heap.size w w' := by
 unfold qcZ.f at h
 by_cases hs : a0.size ≤ 1000000000
 ·rw [if_pos hs] at h
  obtain rfl := Option.some.inj h
  clear h
  obtain ⟨K, hK⟩ := qgm (bytesOf a0) (by rw [bytesOf_length]; omega) (qeb a0)
  have hK2 := Aside0.mk (hK K (Nat.le_refl _))
  clear hK
  have kb := fun W => qf9 (P := Try.prog) 9 52 5 Try.underlying9 Try.underlying52 Try.underlying5 a0 W
  go_enter Try.func85, Try.ntmps85
  go_wp2_with fail
  have hc : Kd.C (Kd.int .u8) (Lib.bytesWorld w 5 a0) (some ⟨w.heap.size, 0, none⟩) (bytesOf a0).length (bytesOf a0) := by
   rw [bytesOf_length]
   exact Kd.qeY (qga w 5 a0 (by omega))
  have hl : (bytesOf a0).length ≤ grownCap w a0.size 0 5 := by rw [bytesOf_length]; exact grownCap_ge _ _ _ _
  have hq := qbo.calls K _ _ _ _ _ hc hl hK2.out
  rw [bytesOf_length] at hq
  refine hq.mono ?_
  rintro e w1 ⟨rfl, hd⟩
  go_wp2_with fail
  go_ret
  exact ⟨rfl, (qgb (Below.refl _ w) (Nat.le_refl _) _ a0).trans (by have := hd.below; exact this.mono (by rw [Lib.bytesWorld_size]; omega))⟩
 ·rw [if_neg hs] at h
  cases h
end Go.Proofs.Ytgcncphdjabjjaa.X
namespace Go.Proofs.Ytgcncphdjabjjaa.X
open Go.RowKit Go.Proofs.YtgcncphdjabjjaaW.PrintWords Go.Proofs.YtgcncphdjabjjaaW.PrintLast Go.Proofs.YtgcncphdjabjjaaW.PrintMore
attribute [local go_sem] qaC qaD qaE qay qaz qaN qaO qat qau qaA qaB
set_option linter.unusedVariables false
set_option linter.unusedSimpArgs false
set_option maxRecDepth 100000
def qbC (i : Nat) : Array Value := ((List.range 16).map fun j => Value.int .i64 (if j < i then ((step4 j : Nat) : Int) else 0)).toArray
def itN : Nat → Nat → Nat
 | 0, x => x
 | k + 1, x => stepN (itN k x)
theorem itN_lt (k x : Nat) (h : x < 4294967296) : itN k x < 4294967296 := by
 induction k with
 | zero => exact h
 | succ k ih => exact qdH ih
theorem qdr (a b : Nat) (ha : a < 9223372036854775808) (hb : b < 9223372036854775808) : bits .xor .i64 (a : Int) (b : Int) = ((a ^^^ b : Nat) : Int) := by
 have h := Nat.xor_lt_two_pow (n := 63) ha hb
 show IntKind.i64.wrap ((BitVec.ofInt 64 (a : Int) ^^^ BitVec.ofInt 64 (b : Int)).toNat : Nat) = _
 rw [BitVec.toNat_xor, ofInt_u64 a (by omega), ofInt_u64 b (by omega), IntKind.wrap_i64]
 omega
theorem qez (a b : Nat) (ha : a < 9223372036854775808) (hb : b < 9223372036854775808) : bits .and .i64 (a : Int) (b : Int) = ((a &&& b : Nat) : Int) := by
 have h := Nat.and_lt_two_pow a (n := 63) hb
 show IntKind.i64.wrap ((BitVec.ofInt 64 (a : Int) &&& BitVec.ofInt 64 (b : Int)).toNat : Nat) = _
 rw [BitVec.toNat_and, ofInt_u64 a (by omega), ofInt_u64 b (by omega), IntKind.wrap_i64]
 omega
theorem qgo (n : Nat) (h : n < 4294967296) : bits .xor .i64 ((n : Int) / 2) (wrap64 (bits .and .i64 (n : Int) 1 * 3988292384)) = ((stepN n : Nat) : Int) := by
 have e1 : bits .and .i64 (n : Int) 1 = ((n % 2 : Nat) : Int) := by
  have := qez n 1 (by omega) (by decide)
  rw [Nat.and_one_is_mod] at this
  exact this
 rw [e1]
 have e2 : wrap64 (((n % 2 : Nat) : Int) * 3988292384) = ((3988292384 * (n % 2) : Nat) : Int) := by
  have h1 : n % 2 ≤ 1 := by omega
  rw [qbR (by omega) (by omega)]
  omega
 have e3 : (n : Int) / 2 = ((n / 2 : Nat) : Int) := by omega
 rw [e2, e3, qdr _ _ (by omega) (by rcases Nat.mod_two_eq_zero_or_one n with hx | hx <;> rw [hx] <;> decide)]
 rfl
theorem qdC (i : Nat) (h : i < 16) (j : Nat) : (qbC j)[i]? = some (.int .i64 (if i < j then ((step4 i : Nat) : Int) else 0)) := by
 unfold qbC
 simp [h]
theorem qdQ (j : Nat) : (qbC j).size = 16 := by unfold qbC; simp
theorem qg3 (i : Nat) (h : i < 16) : (qbC i).setIfInBounds i (.int .i64 ((step4 i : Nat) : Int)) = qbC (i + 1) := by
 refine Array.ext_getElem? fun k => ?_
 rw [Array.getElem?_setIfInBounds, qdQ]
 by_cases hk : k < 16
 ·rw [qdC k hk, qdC k hk]
  by_cases e : i = k
  ·subst e; simp [h]
  ·rw [if_neg e]
   by_cases h2 : k < i
   ·simp [h2, show k < i + 1 by omega]
   ·simp [h2, show ¬ k < i + 1 by omega]
 ·rw [if_neg (by omega)]
  rw [Array.getElem?_eq_none (by rw [qdQ]; omega), Array.getElem?_eq_none (by rw [qdQ]; omega)]
theorem blk_old2 (w : World) (o : Obj) (i : Nat) (h : i < w.heap.size) : (w.alloc o).heap[i]? = w.heap[i]? := by
 show (w.heap.push o)[i]? = _
 rw [Array.getElem?_push, if_neg (by omega)]
theorem qe4 (w : World) (A B : Obj) : ((w.alloc A).alloc B).heap[w.heap.size]? = some A ∧ ((w.alloc A).alloc B).heap[w.heap.size + 1]? = some B ∧ Below w.heap.size w ((w.alloc A).alloc B) := by
 have hs : (w.alloc A).heap.size = w.heap.size + 1 := (by show (w.heap.push A).size = _; rw [Array.size_push])
 refine ⟨?_, ?_, ?_⟩
 ·exact (blk_old2 (w.alloc A) B w.heap.size (by omega)).trans (qc0 w A)
 ·rw [← hs]; exact qc0 (w.alloc A) B
 ·exact ((Below.refl _ w).alloc (Nat.le_refl _) _).alloc (by omega) _
def set16 (w : World) (g : Nat) (y0 y1 y2 y3 y4 y5 y6 y7 y8 y9 y10 y11 y12 y13 y14 y15 : Int) : World := ((((((((((((((((w.setCell ⟨g, 0, none⟩ (.int .i64 y0)).setCell ⟨g, 1, none⟩ (.int .i64 y1)).setCell ⟨g, 2, none⟩ (.int .i64 y2)).setCell ⟨g, 3, none⟩ (.int .i64 y3)).setCell ⟨g, 4, none⟩ (.int .i64 y4)).setCell ⟨g, 5, none⟩ (.int .i64 y5)).setCell ⟨g, 6, none⟩ (.int .i64 y6)).setCell ⟨g, 7, none⟩ (.int .i64 y7)).setCell ⟨g, 8, none⟩ (.int .i64 y8)).setCell ⟨g, 9, none⟩ (.int .i64 y9)).setCell ⟨g, 10, none⟩ (.int .i64 y10)).setCell ⟨g, 11, none⟩ (.int .i64 y11)).setCell ⟨g, 12, none⟩ (.int .i64 y12)).setCell ⟨g, 13, none⟩ (.int .i64 y13)).setCell ⟨g, 14, none⟩ (.int .i64 y14)).setCell ⟨g, 15, none⟩ (.int .i64 y15))
theorem qhK {w : World} {g : Nat} {t : TypeId} (h : w.heap[g]? = some (.cells (qbC 0) t (0, 0))) (y0 y1 y2 y3 y4 y5 y6 y7 y8 y9 y10 y11 y12 y13 y14 y15 : Int) : (set16 w g y0 y1 y2 y3 y4 y5 y6 y7 y8 y9 y10 y11 y12 y13 y14 y15).heap[g]? = some (.cells #[.int .i64 y0, .int .i64 y1, .int .i64 y2, .int .i64 y3, .int .i64 y4, .int .i64 y5, .int .i64 y6, .int .i64 y7, .int .i64 y8, .int .i64 y9, .int .i64 y10, .int .i64 y11, .int .i64 y12, .int .i64 y13, .int .i64 y14, .int .i64 y15] t (0, 0)) := by
 have h : w.heap[g]? = some (.cells #[.int .i64 0, .int .i64 0, .int .i64 0, .int .i64 0, .int .i64 0, .int .i64 0, .int .i64 0, .int .i64 0, .int .i64 0, .int .i64 0, .int .i64 0, .int .i64 0, .int .i64 0, .int .i64 0, .int .i64 0, .int .i64 0] t (0, 0)) := h
 exact (qaW (cs' := #[.int .i64 y0, .int .i64 y1, .int .i64 y2, .int .i64 y3, .int .i64 y4, .int .i64 y5, .int .i64 y6, .int .i64 y7, .int .i64 y8, .int .i64 y9, .int .i64 y10, .int .i64 y11, .int .i64 y12, .int .i64 y13, .int .i64 y14, .int .i64 y15]) (qaW (cs' := #[.int .i64 y0, .int .i64 y1, .int .i64 y2, .int .i64 y3, .int .i64 y4, .int .i64 y5, .int .i64 y6, .int .i64 y7, .int .i64 y8, .int .i64 y9, .int .i64 y10, .int .i64 y11, .int .i64 y12, .int .i64 y13, .int .i64 y14, .int .i64 0]) (qaW (cs' := #[.int .i64 y0, .int .i64 y1, .int .i64 y2, .int .i64 y3, .int .i64 y4, .int .i64 y5, .int .i64 y6, .int .i64 y7, .int .i64 y8, .int .i64 y9, .int .i64 y10, .int .i64 y11, .int .i64 y12, .int .i64 y13, .int .i64 0, .int .i64 0]) (qaW (cs' := #[.int .i64 y0, .int .i64 y1, .int .i64 y2, .int .i64 y3, .int .i64 y4, .int .i64 y5, .int .i64 y6, .int .i64 y7, .int .i64 y8, .int .i64 y9, .int .i64 y10, .int .i64 y11, .int .i64 y12, .int .i64 0, .int .i64 0, .int .i64 0]) (qaW (cs' := #[.int .i64 y0, .int .i64 y1, .int .i64 y2, .int .i64 y3, .int .i64 y4, .int .i64 y5, .int .i64 y6, .int .i64 y7, .int .i64 y8, .int .i64 y9, .int .i64 y10, .int .i64 y11, .int .i64 0, .int .i64 0, .int .i64 0, .int .i64 0]) (qaW (cs' := #[.int .i64 y0, .int .i64 y1, .int .i64 y2, .int .i64 y3, .int .i64 y4, .int .i64 y5, .int .i64 y6, .int .i64 y7, .int .i64 y8, .int .i64 y9, .int .i64 y10, .int .i64 0, .int .i64 0, .int .i64 0, .int .i64 0, .int .i64 0]) (qaW (cs' := #[.int .i64 y0, .int .i64 y1, .int .i64 y2, .int .i64 y3, .int .i64 y4, .int .i64 y5, .int .i64 y6, .int .i64 y7, .int .i64 y8, .int .i64 y9, .int .i64 0, .int .i64 0, .int .i64 0, .int .i64 0, .int .i64 0, .int .i64 0]) (qaW (cs' := #[.int .i64 y0, .int .i64 y1, .int .i64 y2, .int .i64 y3, .int .i64 y4, .int .i64 y5, .int .i64 y6, .int .i64 y7, .int .i64 y8, .int .i64 0, .int .i64 0, .int .i64 0, .int .i64 0, .int .i64 0, .int .i64 0, .int .i64 0]) (qaW (cs' := #[.int .i64 y0, .int .i64 y1, .int .i64 y2, .int .i64 y3, .int .i64 y4, .int .i64 y5, .int .i64 y6, .int .i64 y7, .int .i64 0, .int .i64 0, .int .i64 0, .int .i64 0, .int .i64 0, .int .i64 0, .int .i64 0, .int .i64 0]) (qaW (cs' := #[.int .i64 y0, .int .i64 y1, .int .i64 y2, .int .i64 y3, .int .i64 y4, .int .i64 y5, .int .i64 y6, .int .i64 0, .int .i64 0, .int .i64 0, .int .i64 0, .int .i64 0, .int .i64 0, .int .i64 0, .int .i64 0, .int .i64 0]) (qaW (cs' := #[.int .i64 y0, .int .i64 y1, .int .i64 y2, .int .i64 y3, .int .i64 y4, .int .i64 y5, .int .i64 0, .int .i64 0, .int .i64 0, .int .i64 0, .int .i64 0, .int .i64 0, .int .i64 0, .int .i64 0, .int .i64 0, .int .i64 0]) (qaW (cs' := #[.int .i64 y0, .int .i64 y1, .int .i64 y2, .int .i64 y3, .int .i64 y4, .int .i64 0, .int .i64 0, .int .i64 0, .int .i64 0, .int .i64 0, .int .i64 0, .int .i64 0, .int .i64 0, .int .i64 0, .int .i64 0, .int .i64 0]) (qaW (cs' := #[.int .i64 y0, .int .i64 y1, .int .i64 y2, .int .i64 y3, .int .i64 0, .int .i64 0, .int .i64 0, .int .i64 0, .int .i64 0, .int .i64 0, .int .i64 0, .int .i64 0, .int .i64 0, .int .i64 0, .int .i64 0, .int .i64 0]) (qaW (cs' := #[.int .i64 y0, .int .i64 y1, .int .i64 y2, .int .i64 0, .int .i64 0, .int .i64 0, .int .i64 0, .int .i64 0, .int .i64 0, .int .i64 0, .int .i64 0, .int .i64 0, .int .i64 0, .int .i64 0, .int .i64 0, .int .i64 0]) (qaW (cs' := #[.int .i64 y0, .int .i64 y1, .int .i64 0, .int .i64 0, .int .i64 0, .int .i64 0, .int .i64 0, .int .i64 0, .int .i64 0, .int .i64 0, .int .i64 0, .int .i64 0, .int .i64 0, .int .i64 0, .int .i64 0, .int .i64 0]) (qaW (cs' := #[.int .i64 y0, .int .i64 0, .int .i64 0, .int .i64 0, .int .i64 0, .int .i64 0, .int .i64 0, .int .i64 0, .int .i64 0, .int .i64 0, .int .i64 0, .int .i64 0, .int .i64 0, .int .i64 0, .int .i64 0, .int .i64 0]) h 0 _ rfl) 1 _ rfl) 2 _ rfl) 3 _ rfl) 4 _ rfl) 5 _ rfl) 6 _ rfl) 7 _ rfl) 8 _ rfl) 9 _ rfl) 10 _ rfl) 11 _ rfl) 12 _ rfl) 13 _ rfl) 14 _ rfl) 15 _ rfl)
theorem qgp {w a : World} {g B : Nat} (h : Below B a w) (hg : B ≤ g) (y0 y1 y2 y3 y4 y5 y6 y7 y8 y9 y10 y11 y12 y13 y14 y15 : Int) : Below B a (set16 w g y0 y1 y2 y3 y4 y5 y6 y7 y8 y9 y10 y11 y12 y13 y14 y15) := ((((((((((((((((h.setCell (p := ⟨g, 0, none⟩) hg _).setCell (p := ⟨g, 1, none⟩) hg _).setCell (p := ⟨g, 2, none⟩) hg _).setCell (p := ⟨g, 3, none⟩) hg _).setCell (p := ⟨g, 4, none⟩) hg _).setCell (p := ⟨g, 5, none⟩) hg _).setCell (p := ⟨g, 6, none⟩) hg _).setCell (p := ⟨g, 7, none⟩) hg _).setCell (p := ⟨g, 8, none⟩) hg _).setCell (p := ⟨g, 9, none⟩) hg _).setCell (p := ⟨g, 10, none⟩) hg _).setCell (p := ⟨g, 11, none⟩) hg _).setCell (p := ⟨g, 12, none⟩) hg _).setCell (p := ⟨g, 13, none⟩) hg _).setCell (p := ⟨g, 14, none⟩) hg _).setCell (p := ⟨g, 15, none⟩) hg _)
def tabZ (j : Nat) : Int := ((step4 j : Nat) : Int)
set_option maxHeartbeats 2000000 in
theorem qeQ (w : World) : Calls Try.prog 103 #[] w fun e w' => e = .returned (.agg (qbC 16)) ∧ Below w.heap.size w w' := by
 go_enter Try.func103, Try.ntmps103
 go_wp2_with fail
 go_loopw [2] (fun v2 wr => ∃ i : Nat, i ≤ 16 ∧ v2 = .int .i64 i ∧ Aside0 (wr.heap[w.heap.size]? = some (.cells (qbC 0) 122 (0, 0))) ∧ Aside0 (wr.heap[w.heap.size + 1]? = some (.cells (qbC i) 122 (0, 0))) ∧ Aside0 (Below w.heap.size w wr)) (fun v2 _ => 16 - (intOf v2).toNat)
 case atStart =>
  have h := qe4 w (.cells (qbC 0) 122 (0, 0)) (.cells (qbC 0) 122 (0, 0))
  exact ⟨0, by omega, rfl, ⟨h.1⟩, ⟨h.2.1⟩, ⟨h.2.2⟩⟩
 case round =>
  obtain ⟨i, hi, rfl, HR, HT, HB⟩ := hrel
  by_cases hlt : i < 16
  ·have c0 : decide ((i : Int) < 16) = true := decide_eq_true (by omega)
   go_wp2_with fail
   go_loopw [3, 4] (fun v3 v4 w2 => ∃ k : Nat, k ≤ 4 ∧ v3 = .int .i64 ((itN k i : Nat) : Int) ∧ v4 = .int .i64 k ∧ w2 = wr) (fun v3 v4 _ => 4 - (intOf v4).toNat)
   case atStart => exact ⟨0, by omega, rfl, rfl, rfl⟩
   case round =>
    obtain ⟨k, hk, rfl, rfl, rfl⟩ := hrel
    have hx := itN_lt k i (by omega)
    by_cases hk2 : k < 4
    ·have c1 : decide ((k : Int) < 4) = true := decide_eq_true (by omega)
     generalize hX : itN k i = x at *
     go_wp2_with fail
     refine ⟨⟨k + 1, by omega, ?_, ?_, trivial⟩, ?_⟩
     ·rw [qgo x hx, ← hX]; rfl
     ·rfl
     ·simp [intOf]; omega
    ·have e : k = 4 := by omega
     subst e
     have hs : itN 4 i = step4 i := rfl
     rw [hs] at *
     have hcell : wr.cell? ⟨w.heap.size + 1, i, none⟩ = some (.int .i64 0) := (qad HT.out i).trans (by rw [qdC i hlt]; simp)
     have hfz := qae HT.out i
     have p1 : (0 ≤ (i : Int)) = True := eq_true (by omega)
     have p2 : ((i : Int) < 16) = True := eq_true (by omega)
     generalize hX : step4 i = x at *
     go_wp2_with fail
     exact ⟨⟨i + 1, by omega, rfl, ⟨qbB HR.out (by show w.heap.size ≠ w.heap.size + 1; omega) _⟩, ⟨qaW HT.out i _ (by rw [← hX]; exact qg3 i hlt)⟩, ⟨HB.out.setCell (p := ⟨w.heap.size + 1, i, none⟩) (by show w.heap.size ≤ w.heap.size + 1; omega) _⟩⟩, by simp [intOf]; omega⟩
  ·have e : i = 16 := by omega
   subst e
   have hc0 := (qad HT.out 0).trans (show (qbC 16)[0]? = some (.int .i64 (tabZ 0)) from rfl)
   have hc1 := (qad HT.out 1).trans (show (qbC 16)[1]? = some (.int .i64 (tabZ 1)) from rfl)
   have hc2 := (qad HT.out 2).trans (show (qbC 16)[2]? = some (.int .i64 (tabZ 2)) from rfl)
   have hc3 := (qad HT.out 3).trans (show (qbC 16)[3]? = some (.int .i64 (tabZ 3)) from rfl)
   have hc4 := (qad HT.out 4).trans (show (qbC 16)[4]? = some (.int .i64 (tabZ 4)) from rfl)
   have hc5 := (qad HT.out 5).trans (show (qbC 16)[5]? = some (.int .i64 (tabZ 5)) from rfl)
   have hc6 := (qad HT.out 6).trans (show (qbC 16)[6]? = some (.int .i64 (tabZ 6)) from rfl)
   have hc7 := (qad HT.out 7).trans (show (qbC 16)[7]? = some (.int .i64 (tabZ 7)) from rfl)
   have hc8 := (qad HT.out 8).trans (show (qbC 16)[8]? = some (.int .i64 (tabZ 8)) from rfl)
   have hc9 := (qad HT.out 9).trans (show (qbC 16)[9]? = some (.int .i64 (tabZ 9)) from rfl)
   have hc10 := (qad HT.out 10).trans (show (qbC 16)[10]? = some (.int .i64 (tabZ 10)) from rfl)
   have hc11 := (qad HT.out 11).trans (show (qbC 16)[11]? = some (.int .i64 (tabZ 11)) from rfl)
   have hc12 := (qad HT.out 12).trans (show (qbC 16)[12]? = some (.int .i64 (tabZ 12)) from rfl)
   have hc13 := (qad HT.out 13).trans (show (qbC 16)[13]? = some (.int .i64 (tabZ 13)) from rfl)
   have hc14 := (qad HT.out 14).trans (show (qbC 16)[14]? = some (.int .i64 (tabZ 14)) from rfl)
   have hc15 := (qad HT.out 15).trans (show (qbC 16)[15]? = some (.int .i64 (tabZ 15)) from rfl)
   have hf0 := qae HR.out 0
   have hf1 := qae HR.out 1
   have hf2 := qae HR.out 2
   have hf3 := qae HR.out 3
   have hf4 := qae HR.out 4
   have hf5 := qae HR.out 5
   have hf6 := qae HR.out 6
   have hf7 := qae HR.out 7
   have hf8 := qae HR.out 8
   have hf9 := qae HR.out 9
   have hf10 := qae HR.out 10
   have hf11 := qae HR.out 11
   have hf12 := qae HR.out 12
   have hf13 := qae HR.out 13
   have hf14 := qae HR.out 14
   have hf15 := qae HR.out 15
   have hd0 := (qad HR.out 0).trans (show (qbC 0)[0]? = some (.int .i64 0) from rfl)
   have hd1 := (qad HR.out 1).trans (show (qbC 0)[1]? = some (.int .i64 0) from rfl)
   have hd2 := (qad HR.out 2).trans (show (qbC 0)[2]? = some (.int .i64 0) from rfl)
   have hd3 := (qad HR.out 3).trans (show (qbC 0)[3]? = some (.int .i64 0) from rfl)
   have hd4 := (qad HR.out 4).trans (show (qbC 0)[4]? = some (.int .i64 0) from rfl)
   have hd5 := (qad HR.out 5).trans (show (qbC 0)[5]? = some (.int .i64 0) from rfl)
   have hd6 := (qad HR.out 6).trans (show (qbC 0)[6]? = some (.int .i64 0) from rfl)
   have hd7 := (qad HR.out 7).trans (show (qbC 0)[7]? = some (.int .i64 0) from rfl)
   have hd8 := (qad HR.out 8).trans (show (qbC 0)[8]? = some (.int .i64 0) from rfl)
   have hd9 := (qad HR.out 9).trans (show (qbC 0)[9]? = some (.int .i64 0) from rfl)
   have hd10 := (qad HR.out 10).trans (show (qbC 0)[10]? = some (.int .i64 0) from rfl)
   have hd11 := (qad HR.out 11).trans (show (qbC 0)[11]? = some (.int .i64 0) from rfl)
   have hd12 := (qad HR.out 12).trans (show (qbC 0)[12]? = some (.int .i64 0) from rfl)
   have hd13 := (qad HR.out 13).trans (show (qbC 0)[13]? = some (.int .i64 0) from rfl)
   have hd14 := (qad HR.out 14).trans (show (qbC 0)[14]? = some (.int .i64 0) from rfl)
   have hd15 := (qad HR.out 15).trans (show (qbC 0)[15]? = some (.int .i64 0) from rfl)
   have hy : qbC 16 = #[.int .i64 (tabZ 0), .int .i64 (tabZ 1), .int .i64 (tabZ 2), .int .i64 (tabZ 3), .int .i64 (tabZ 4), .int .i64 (tabZ 5), .int .i64 (tabZ 6), .int .i64 (tabZ 7), .int .i64 (tabZ 8), .int .i64 (tabZ 9), .int .i64 (tabZ 10), .int .i64 (tabZ 11), .int .i64 (tabZ 12), .int .i64 (tabZ 13), .int .i64 (tabZ 14), .int .i64 (tabZ 15)] := rfl
   generalize tabZ 0 = y0 at *
   generalize tabZ 1 = y1 at *
   generalize tabZ 2 = y2 at *
   generalize tabZ 3 = y3 at *
   generalize tabZ 4 = y4 at *
   generalize tabZ 5 = y5 at *
   generalize tabZ 6 = y6 at *
   generalize tabZ 7 = y7 at *
   generalize tabZ 8 = y8 at *
   generalize tabZ 9 = y9 at *
   generalize tabZ 10 = y10 at *
   generalize tabZ 11 = y11 at *
   generalize tabZ 12 = y12 at *
   generalize tabZ 13 = y13 at *
   generalize tabZ 14 = y14 at *
   generalize tabZ 15 = y15 at *
   have HY := Aside0.mk hy
   clear hy
   go_wp2_with fail
   change bodyPost _ _ _ _ _ (set16 wr w.heap.size y0 y1 y2 y3 y4 y5 y6 y7 y8 y9 y10 y11 y12 y13 y14 y15)
   have BF := Aside0.mk (qhK HR.out y0 y1 y2 y3 y4 y5 y6 y7 y8 y9 y10 y11 y12 y13 y14 y15)
   have HB2 := Aside0.mk (qgp HB.out (Nat.le_refl _) y0 y1 y2 y3 y4 y5 y6 y7 y8 y9 y10 y11 y12 y13 y14 y15)
   generalize set16 wr w.heap.size y0 y1 y2 y3 y4 y5 y6 y7 y8 y9 y10 y11 y12 y13 y14 y15 = W at BF HB2 ⊢
   refine bodyPost_ret (results_cell_row rfl _ _ w.heap.size 122 #[.int .i64 y0, .int .i64 y1, .int .i64 y2, .int .i64 y3, .int .i64 y4, .int .i64 y5, .int .i64 y6, .int .i64 y7, .int .i64 y8, .int .i64 y9, .int .i64 y10, .int .i64 y11, .int .i64 y12, .int .i64 y13, .int .i64 y14, .int .i64 y15] (0, 0) _ rfl BF.out Try.underlying122 rfl (by kernel_rfl)) rfl ?_
   exact ⟨by rw [HY.out], HB2.out⟩
end Go.Proofs.Ytgcncphdjabjjaa.X
namespace Go.Proofs.Ytgcncphdjabjjaa.X
open Go.RowKit Go.Proofs.YtgcncphdjabjjaaW.PrintWords Go.Proofs.YtgcncphdjabjjaaW.PrintLast Go.Proofs.YtgcncphdjabjjaaW.PrintMore
attribute [local go_sem] qaC qaD qaE qay qaz qaN qaO qat qau qaA qaB
set_option linter.unusedVariables false
set_option linter.unusedSimpArgs false
def qb1 (a : ByteArray) (l : List S76) : ByteArray := l.foldl (fun a p => a ++ qda [p.f0, p.f1]) a
theorem qdK (a : ByteArray) (l : List S76) (p : S76) : qb1 a (l ++ [p]) = qb1 a l ++ qda [p.f0, p.f1] := by
 unfold qb1
 rw [List.foldl_append]
 rfl
def qcY (l : List S76) : Prop := l.length ≤ 1000 ∧ ∀ p, p ∈ l → p.f0.size ≤ 1000 ∧ p.f1.size ≤ 1000
instance (l : List S76) : Decidable (qcY l) := by unfold qcY; infer_instance
theorem qdR (a b : ByteArray) (ha : a.size ≤ 1000) (hb : b.size ≤ 1000) : (qda [a, b]).size ≤ 2005 := by
 show (qbG (strOfNums [2]) [a, b]).size ≤ 2005
 simp only [qbG, List.foldl_cons, List.foldl_nil, ByteArray.size_append, qdx]
 have : (strOfNums [2]).size = 1 := rfl
 omega
theorem qdL (l : List S76) : ∀ a : ByteArray, (∀ p, p ∈ l → p.f0.size ≤ 1000 ∧ p.f1.size ≤ 1000) → (qb1 a l).size ≤ a.size + 2005 * l.length := by
 induction l with
 | nil => intro a _; exact Nat.le_add_right _ _
 | cons p l ih =>
  intro a h
  have h1 := h p List.mem_cons_self
  have h2 := ih (a ++ qda [p.f0, p.f1]) fun x hx => h x (List.mem_cons_of_mem _ hx)
  have h3 := qdR p.f0 p.f1 h1.1 h1.2
  rw [ByteArray.size_append] at h2
  simp only [List.length_cons]
  show (qb1 (a ++ qda [p.f0, p.f1]) l).size ≤ _
  omega
def qbw.f (l0 : List S76) : Option Int := if qcY l0 then some (qdw (bytesOf (qb1 ByteArray.empty l0))) else none
set_option maxRecDepth 100000 in
set_option maxHeartbeats 4000000 in
theorem qbw.calls (A0 : Option Addr) (c0 : Nat) (l0 : List S76) (r : Int) (w : World) (hr0 : Kd.C k76 w A0 l0.length l0) (hc0 : l0.length ≤ c0) (h : qbw.f l0 = some r) :
  Calls Try.prog 54 #[.slice A0 l0.length c0] w fun e w' => e = .returned (.int .i64 r) ∧ Below w.heap.size w w' := by
 unfold qbw.f at h
 by_cases hs : qcY l0
 ·rw [if_pos hs] at h
  obtain rfl := Option.some.inj h
  obtain ⟨hs1, hs2⟩ := hs
  have hu := Try.underlying76
  have HS := Aside0.mk hs2
  have HR := Aside0.mk hr0
  clear hr0 h hs2
  go_enter Try.func54, Try.ntmps54
  go_wp2_with fail
  have HB1 := Aside0.mk (Lib.fresh_isBuilder 102 5 w)
  have HB := Aside0.mk (show Below w.heap.size w (w.alloc (.cells #[.pointer none, .slice none 0 0] 102 (0, 0))) from (Below.refl _ w).alloc (Nat.le_refl _) _)
  go_loopw [9] (fun v9 wr => ∃ k : Nat, k ≤ l0.length ∧ v9 = .int .i64 k ∧ Aside0 (Lib.IsBuilder 102 5 w.heap.size w.heap.size (Lib.byteCells (qb1 ByteArray.empty (l0.take k)).data.toList) wr) ∧ Aside0 (Below w.heap.size w wr)) (fun v9 _ => l0.length - (intOf v9).toNat)
  case atStart => exact ⟨0, Nat.zero_le _, rfl, ⟨by rw [List.take_zero]; exact HB1.out⟩, HB⟩
  case round =>
   clear HB HB1
   obtain ⟨k, hk, rfl, HI, HB⟩ := hrel
   have hfs := qdL (l0.take k) ByteArray.empty fun t ht => HS.out t (List.mem_of_mem_take ht)
   rw [List.length_take] at hfs
   have ha1 : ByteArray.empty.size = 0 := rfl
   rw [ha1] at hfs
   by_cases hlt : k < l0.length
   ·have c1 : decide ((k : Int) < (l0.length : Int)) = true := decide_eq_true (by omega)
    have p1 : 0 ≤ (k : Int) := by omega
    have q1 : (k : Int) < (l0.length : Int) := by omega
    obtain ⟨ad, e, hx0, hx1⟩ := qbO HR.out (k : Int) p1 q1
    cases e
    have et : qap l0 (k : Int) = l0[k] := by unfold qap; rw [Int.toNat_natCast]; simp [List.getD_eq_getElem?_getD, hlt]
    rw [et, Int.toNat_natCast] at hx0 hx1
    have htk : l0.take (k + 1) = l0.take k ++ [l0[k]] := List.take_succ_eq_append_getElem hlt
    have hts := HS.out l0[k] (List.getElem_mem hlt)
    replace hx0 := (HB.out.cell (World.block_lt_of_cell? w _ hx0)).trans hx0
    replace hx1 := (HB.out.cell (World.block_lt_of_cell? w _ hx1)).trans hx1
    clear et
    generalize l0[k] = t at hx0 hx1 htk hts
    replace p1 := eq_true p1
    replace q1 := eq_true q1
    have HTK := Aside0.mk htk
    clear htk
    go_wp2_with fail
    obtain ⟨_, h2, hb0⟩ := qe4 wr (.cells #[.string t.f0, .string t.f1] 76) (.cells #[.string t.f0, .string t.f1] 9)
    have hC : Kd.C Kd.string ((wr.alloc (.cells #[.string t.f0, .string t.f1] 76)).alloc (.cells #[.string t.f0, .string t.f1] 9)) (some ⟨wr.heap.size + 1, 0, none⟩) [t.f0, t.f1].length [t.f0, t.f1] := Kd.qeY (d := ByteArray.empty) ⟨rfl, by show 2 ≤ _; omega, fun _ => ⟨_, rfl, fun j hj => by
     rw [add_plain, qad h2 j]
     match j, hj with
     | 0, _ => rfl
     | 1, _ => rfl
     | j + 2, hj => exact absurd hj (by show ¬ j + 2 < 2; omega)⟩⟩
    have hf2 : qcO.f [t.f0, t.f1] = some (qda [t.f0, t.f1]) := by
     unfold qcO.f
     rw [if_pos ⟨by show 2 ≤ _; omega, fun x hx => by
      rcases List.mem_cons.1 hx with rfl | hx
      ·omega
      ·rcases List.mem_cons.1 hx with rfl | hx
       ·omega
       ·cases hx⟩]
    refine (qcO.calls _ 2 [t.f0, t.f1] _ _ hC (Nat.le_refl _) hf2).mono ?_
    rintro e w2 ⟨rfl, hb2⟩
    have hbw : Below wr.heap.size wr w2 := qag hb0 hb2
    have hsz2 := qdR t.f0 t.f1 hts.1 hts.2
    have HBW := Aside0.mk hbw
    clear h2 hb0 hC hf2 hb2 hbw
    generalize hN : qda [t.f0, t.f1] = nb at *
    have HN := Aside0.mk hN
    clear hN
    go_wp2_with fail
    refine (qdy w.heap.size w.heap.size _ nb _ (qdz HI.out HBW.out) (by
     rw [Lib.byteCells_length, Array.length_toList]
     have : (qb1 ByteArray.empty (l0.take k)).data.size = (qb1 ByteArray.empty (l0.take k)).size := rfl
     omega) (by have := HB.out.size; have := HBW.out.size; omega)).mono ?_
    rintro e w3 ⟨rfl, hB3, hb3⟩
    have HB3 := Aside0.mk (qag HB.out HBW.out)
    go_wp2_with fail
    refine ⟨⟨k + 1, by omega, rfl, ⟨?_⟩, ⟨HB3.out.trans hb3⟩⟩, by simp [intOf]; omega⟩
    rw [HTK.out, qdK, HN.out]
    have e : Lib.byteCells (qb1 ByteArray.empty (l0.take k) ++ nb).data.toList = Lib.byteCells (qb1 ByteArray.empty (l0.take k)).data.toList ++ Lib.strCells nb := by
     rw [Lib.strCells_eq, ← Lib.byteCells_append, ByteArray.data_append, Array.toList_append]
    rw [e]
    exact .inr hB3
   ·have e : k = l0.length := by omega
    have c1 : decide ((k : Int) < (l0.length : Int)) = false := decide_eq_false (by omega)
    have e9 : l0.take k = l0 := by rw [e, List.take_length]
    rw [e9] at HI hfs
    go_wp2_with fail
    refine (qe3 w.heap.size w.heap.size _ _ HI.out HB.out.size).mono ?_
    rintro e w2 ⟨rfl, hb2⟩
    go_wp2_with fail
    refine (qcZ.calls _ _ _ (show qcZ.f _ = some (qdw (bytesOf (qb1 ByteArray.empty l0))) from ?_)).mono ?_
    ·unfold qcZ.f
     rw [if_pos (by show (qb1 ByteArray.empty l0).size ≤ _; omega)]
    rintro e w3 ⟨rfl, hb3⟩
    go_wp2_with fail
    go_ret
    exact ⟨rfl, qag (HB.out.trans hb2) hb3⟩
 ·rw [if_neg hs] at h
  cases h
end Go.Proofs.Ytgcncphdjabjjaa.X
namespace Go.Proofs.Ytgcncphdjabjjaa.X
open Go.RowKit Go.Proofs.YtgcncphdjabjjaaW.PrintWords Go.Proofs.YtgcncphdjabjjaaW.PrintLast Go.Proofs.YtgcncphdjabjjaaW.PrintMore
attribute [local go_sem] qaC qaD qaE qay qaz qaN qaO qat qau qaA qaB
set_option linter.unusedVariables false
set_option linter.unusedSimpArgs false
theorem qdb {a b c : List UInt8} (h : Op.bytesLess a b = true) (k : Op.bytesLess b c = true) : Op.bytesLess a c = true := by
 rw [bytesLess_eq] at *
 simp only [decide_eq_true_eq] at *
 exact List.lt_trans h k
theorem qdD (a : List UInt8) : Op.bytesLess a a = false := by
 rw [bytesLess_eq]
 simp only [decide_eq_false_iff_not]
 exact List.lt_irrefl a
theorem qgq {a b : List UInt8} (h : Op.bytesLess a b = false) (k : Op.bytesLess b a = false) : a = b := by
 have := qd7 a b
 rw [h, k] at this
 simpa using this
end Go.Proofs.Ytgcncphdjabjjaa.X
namespace Go.Proofs.Ytgcncphdjabjjaa.X
open Go.RowKit Go.Proofs.YtgcncphdjabjjaaW.PrintWords Go.Proofs.YtgcncphdjabjjaaW.PrintLast Go.Proofs.YtgcncphdjabjjaaW.PrintMore
attribute [local go_sem] qaC qaD qaE qay qaz qaN qaO qat qau qaA qaB
set_option linter.unusedVariables false
set_option linter.unusedSimpArgs false
def qdk (f : Nat → Bool) : Nat → Nat → Bool
 | _, 0 => true
 | i, d + 1 => f i && qdk f (i + 1) d
def allB (f : Nat → Bool) (n : Nat) : Bool := qdk f 0 n
theorem qgr (f : Nat → Bool) (d : Nat) : ∀ i, qdk f i d = true ↔ ∀ j, i ≤ j → j < i + d → f j = true := by
 induction d with
 | zero => intro i; simp only [qdk, true_iff]; intro j h1 h2; omega
 | succ d ih =>
  intro i
  simp only [qdk, Bool.and_eq_true, ih]
  refine ⟨fun h j h1 h2 => ?_, fun h => ⟨h i (by omega) (by omega), fun j h1 h2 => h j (by omega) (by omega)⟩⟩
  rcases Nat.lt_or_ge i j with h3 | h3
  ·exact h.2 j h3 (by omega)
  ·rw [show j = i by omega]; exact h.1
theorem qgP {f : Nat → Bool} {n : Nat} : allB f n = true ↔ ∀ j, j < n → f j = true := by
 unfold allB
 rw [qgr]
 exact ⟨fun h j hj => h j (by omega) (by omega), fun h j _ hj => h j (by omega)⟩
theorem Ev.qdk {g : Nat → Int → Option Bool} (f : Nat → Bool) (fin : Bool) (n : Nat) (hend : Ev (fun k => g k (n : Int)) fin) (hstep : ∀ i : Nat, i < n → ∀ r, Ev (fun k => g k ((i + 1 : Nat) : Int)) r → Ev (fun k => g k (i : Int)) (f i && r)) (d : Nat) : ∀ i : Nat, i + d = n → Ev (fun k => g k (i : Int)) (qdk f i d && fin) := by
 induction d with
 | zero => intro i hi; rw [show i = n by omega]; simpa [X.qdk] using hend
 | succ d ih =>
  intro i hi
  have := hstep i (by omega) _ (ih (i + 1) (by omega))
  simpa [X.qdk, Bool.and_assoc] using this
theorem Ev.all {g : Nat → Int → Option Bool} (f : Nat → Bool) (fin : Bool) (n : Nat) (hend : Ev (fun k => g k (n : Int)) fin) (hstep : ∀ i : Nat, i < n → ∀ r, Ev (fun k => g k ((i + 1 : Nat) : Int)) r → Ev (fun k => g k (i : Int)) (f i && r)) : Ev (fun k => g k 0) (allB f n && fin) := Ev.qdk f fin n hend hstep n 0 (by omega)
theorem qhL {n : Nat} (h : n < 9223372036854775807) (h0 : 0 < n) : wrap64 ((n : Int) - 1) = ((n - 1 : Nat) : Int) := by unfold wrap64; omega
theorem qfU {n : Nat} (h : n < 9223372036854775807) : wrap64 (((n + 1 : Nat) : Int) - 1) = ((n : Nat) : Int) := by unfold wrap64; omega
end Go.Proofs.Ytgcncphdjabjjaa.X
namespace Go.Proofs.Ytgcncphdjabjjaa.X
open Go.RowKit Go.Proofs.YtgcncphdjabjjaaW.PrintWords Go.Proofs.YtgcncphdjabjjaaW.PrintLast Go.Proofs.YtgcncphdjabjjaaW.PrintMore
attribute [local go_sem] qaC qaD qaE qay qaz qaN qaO qat qau qaA qaB
set_option linter.unusedVariables false
set_option linter.unusedSimpArgs false
def qba.f (a0 : Int) (a1 : Int) (a2 : Int) : Option (Bool) := if a0 ≥ a1 then (some (decide (a0 ≤ a2))) else (some false)
set_option maxHeartbeats 8000000 in
set_option maxRecDepth 100000 in
theorem qba.calls (a0 : Int) (a1 : Int) (a2 : Int) (r : Bool) (w : World) (h : qba.f a0 a1 a2 = some r) :
  Calls Try.prog 67 #[.int .i64 a0, .int .i64 a1, .int .i64 a2] w fun e w' => e = .returned (.bool r) ∧ qaL w w' := by
 have H : (if a0 ≥ a1 then (some (decide (a0 ≤ a2))) else (some false)) = some r := h
 clear h
 by_cases c4 : a0 ≥ a1
 ·rw [if_pos c4] at H
  have c4b0 : decide (a1 ≤ a0) = true := decide_eq_true c4
  clear c4
  obtain rfl := Option.some.inj H
  go_enter Try.func67, Try.ntmps67
  go_wp2
  go_ret
  exact ⟨by first | rfl | (simp; done) | (simp [*]; done), by repeat (first | exact qaL.refl _ | apply qaL.step)⟩
 ·rw [if_neg c4] at H
  have c4b0 : decide (a1 ≤ a0) = false := decide_eq_false c4
  clear c4
  obtain rfl := Option.some.inj H
  go_enter Try.func67, Try.ntmps67
  go_wp2
  go_ret
  exact ⟨by first | rfl | (simp; done) | (simp [*]; done), by repeat (first | exact qaL.refl _ | apply qaL.step)⟩
end Go.Proofs.Ytgcncphdjabjjaa.X
namespace Go.Proofs.Ytgcncphdjabjjaa.X
open Go.RowKit Go.Proofs.YtgcncphdjabjjaaW.PrintWords Go.Proofs.YtgcncphdjabjjaaW.PrintLast Go.Proofs.YtgcncphdjabjjaaW.PrintMore
attribute [local go_sem] qaC qaD qaE qay qaz qaN qaO qat qau qaA qaB
set_option linter.unusedVariables false
set_option linter.unusedSimpArgs false
def qbH.f (a0 : ByteArray) : Option (Bool) := (qba.f (a0.size : Int) 1 30).bind fun t143 => (some t143)
set_option maxHeartbeats 8000000 in
set_option maxRecDepth 100000 in
theorem qbH.calls (a0 : ByteArray) (r : Bool) (w : World) (h : qbH.f a0 = some r) :
  Calls Try.prog 96 #[.string a0] w fun e w' => e = .returned (.bool r) ∧ qaL w w' := by
 have H : ((qba.f (a0.size : Int) 1 30).bind fun t143 => (some t143)) = some r := h
 clear h
 replace H := Option.bind_eq_some_iff.mp H
 obtain ⟨t143, A20, H⟩ := H
 replace H : (some t143) = some r := H
 have A2 := Aside0.mk A20
 clear A20
 obtain rfl := Option.some.inj H
 go_enter Try.func96, Try.ntmps96
 go_wp2_with (first | ((with_reducible refine qav (f := 67) rfl ?_); refine qbd (some 5) rfl rfl Try.func67 (by kernel_rfl) rfl #[.int .i64 (a0.size : Int), .int .i64 1, .int .i64 30] rfl (by (try simp only [List.map_toArray, List.map_cons, List.map_nil]); first | done | rfl | (simp only [List.length_drop, List.length_take]; rfl)) ?_; (with_reducible refine (qba.calls (a0.size : Int) 1 30 t143 _ A2.out).mono ?_); rintro e w' ⟨rfl, ⟨nd, rfl⟩⟩; refine ⟨_, rfl, ?_⟩))
 go_ret
 exact ⟨by first | rfl | (simp; done) | (simp [*]; done), by repeat (first | exact qaL.refl _ | apply qaL.step)⟩
end Go.Proofs.Ytgcncphdjabjjaa.X
namespace Go.Proofs.Ytgcncphdjabjjaa.X
open Go.RowKit Go.Proofs.YtgcncphdjabjjaaW.PrintWords Go.Proofs.YtgcncphdjabjjaaW.PrintLast Go.Proofs.YtgcncphdjabjjaaW.PrintMore
attribute [local go_sem] qaC qaD qaE qay qaz qaN qaO qat qau qaA qaB
set_option linter.unusedVariables false
set_option linter.unusedSimpArgs false
def qa0.f (a0 : Int) (a1 : Int) (a2 : Int) : Option (Bool) := if a1 ≤ a0 then (some (decide (a0 ≤ a2))) else (some false)
set_option maxHeartbeats 8000000 in
set_option maxRecDepth 100000 in
theorem qa0.calls (a0 : Int) (a1 : Int) (a2 : Int) (r : Bool) (w : World) (h : qa0.f a0 a1 a2 = some r) :
  Calls Try.prog 65 #[.int .i64 a0, .int .i64 a1, .int .i64 a2] w fun e w' => e = .returned (.bool r) ∧ qaL w w' := by
 have H : (if a1 ≤ a0 then (some (decide (a0 ≤ a2))) else (some false)) = some r := h
 clear h
 by_cases c4 : a1 ≤ a0
 ·rw [if_pos c4] at H
  have c4b0 : decide (a1 ≤ a0) = true := decide_eq_true c4
  clear c4
  obtain rfl := Option.some.inj H
  go_enter Try.func65, Try.ntmps65
  go_wp2
  go_ret
  exact ⟨by first | rfl | (simp; done) | (simp [*]; done), by repeat (first | exact qaL.refl _ | apply qaL.step)⟩
 ·rw [if_neg c4] at H
  have c4b0 : decide (a1 ≤ a0) = false := decide_eq_false c4
  clear c4
  obtain rfl := Option.some.inj H
  go_enter Try.func65, Try.ntmps65
  go_wp2
  go_ret
  exact ⟨by first | rfl | (simp; done) | (simp [*]; done), by repeat (first | exact qaL.refl _ | apply qaL.step)⟩
end Go.Proofs.Ytgcncphdjabjjaa.X
namespace Go.Proofs.Ytgcncphdjabjjaa.X
open Go.RowKit Go.Proofs.YtgcncphdjabjjaaW.PrintWords Go.Proofs.YtgcncphdjabjjaaW.PrintLast Go.Proofs.YtgcncphdjabjjaaW.PrintMore
attribute [local go_sem] qaC qaD qaE qay qaz qaN qaO qat qau qaA qaB
set_option linter.unusedVariables false
set_option linter.unusedSimpArgs false
def keyB (s : ByteArray) : Bool := decide (1 ≤ s.size) && decide (s.size ≤ 30)
theorem qfg (s : ByteArray) : qa0.f (s.size : Int) 1 30 = some (keyB s) := by
 unfold qa0.f keyB
 by_cases h : 1 ≤ s.size
 ·rw [if_pos (by omega), decide_eq_true h]
  have e : ((s.size : Int) ≤ 30) = (s.size ≤ 30) := propext (by omega)
  simp [e]
 ·rw [if_neg (by omega), decide_eq_false h]
  rfl
theorem qgQ (s : ByteArray) : qbH.f s = some (keyB s) := by
 unfold qbH.f qba.f keyB
 by_cases h : 1 ≤ s.size
 ·rw [if_pos (by omega), decide_eq_true h]
  have e : ((s.size : Int) ≤ 30) = (s.size ≤ 30) := propext (by omega)
  simp [e]
 ·rw [if_neg (by omega), decide_eq_false h]
  rfl
end Go.Proofs.Ytgcncphdjabjjaa.X
