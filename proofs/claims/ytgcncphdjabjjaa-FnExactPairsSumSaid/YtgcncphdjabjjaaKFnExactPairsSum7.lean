import Derived.Test.YtgcncphdjabjjaaKFnExactPairsSum4
import Derived.Test.YtgcncphdjabjjaaKFnExactPairsSum5
import Derived.Test.YtgcncphdjabjjaaKFnExactPairsSum6
import Derived.Shelf.Strings.Builder1
import Derived.LoopTactic
import Derived.BigQuiet
import Derived.Lib.UnsafeStr
import Derived.Lib.ConvBytes
namespace Go.Proofs.Ytgcncphdjabjjaa.X
open Go.RowKit Go.Proofs.YtgcncphdjabjjaaW.PrintWords Go.Proofs.YtgcncphdjabjjaaW.PrintLast Go.Proofs.YtgcncphdjabjjaaW.PrintMore
attribute [local go_sem] xbin_geq xbin_leq xbin_gtr max2_int min2_int max_two min_two max_three min_three max_four min_four
set_option linter.unusedVariables false
set_option linter.unusedSimpArgs false
set_option maxRecDepth 100000
def numT (n : Int) : ByteArray := strOfNums [n / 256 % 256, n % 256]
theorem numT_size (n : Int) : (numT n).size = 2 := rfl
theorem inBytes_is (n : Int) : Ev (fun k => impl_inBytes.f k n 2) (numT n) := by
  unfold impl_inBytes.f
  refine Ev.pos (by omega) (Ev.pos (by omega) ?_)
  rw [show (2 : Int).toNat = 2 from rfl, show List.replicate 2 (0 : Int) = [0, 0] from rfl, wrap_id (x := 2 - 1) (by omega) (by omega)]
  refine Ev.succ ?_
  simp only [impl_inBytes.l0]
  refine Ev.pos (by omega) (Ev.pos (by omega) (Ev.pos (by simp) ?_))
  rw [wrap_id (x := 2 - 1 - 1) (by omega) (by omega)]
  refine Ev.succ ?_
  simp only [impl_inBytes.l0]
  refine Ev.pos (by omega) (Ev.pos (by omega) (Ev.pos (by simp) ?_))
  rw [wrap_id (x := 2 - 1 - 1 - 1) (by omega) (by omega)]
  refine Ev.succ ?_
  simp only [impl_inBytes.l0]
  exact Ev.neg (by omega) (Ev.is rfl)
def fieldsFrom (a : ByteArray) (l : List ByteArray) : ByteArray := l.foldl (fun a t => a ++ (numT (t.size : Int) ++ t)) a
def fieldsT (l : List ByteArray) : ByteArray := fieldsFrom (strOfNums [(l.length : Int) % 256]) l
def impl_fields.f (l0 : List ByteArray) : Option ByteArray := if l0.length ≤ 1000000 ∧ (∀ t, t ∈ l0 → t.size ≤ 1000000) then some (fieldsT l0) else none
theorem bld_WriteByte (B b : Nat) (bs : List Value) (c : Int) (w : World) (h : Lib.IsBuilder 102 5 B b bs w) (hlen : bs.length + 1 ≤ 140737488355328) (hBw : B ≤ w.heap.size) :
    Calls Try.prog 106 #[.pointer (some ⟨b, 0, none⟩), .int .u8 c] w fun e w' => e = .returned .nilIface ∧ (Lib.BuilderAt 102 5 B b (.pointer (some ⟨b, 0, none⟩)) (bs ++ [.int .u8 c]) w' ∧ Below B w w') := Any.Builder_WriteByte Trybld167 TrybldX B b bs c w h hlen hBw
theorem bld_WriteString (B b : Nat) (bs : List Value) (s : ByteArray) (w : World) (h : Lib.IsBuilder 102 5 B b bs w) (hlen : bs.length + s.size ≤ 140737488355328) (hBw : B ≤ w.heap.size) :
    Calls Try.prog 83 #[.pointer (some ⟨b, 0, none⟩), .string s] w fun e w' => e = .returned (.tuple #[.int .i64 s.size, .nilIface]) ∧ (Lib.BuilderAt 102 5 B b (.pointer (some ⟨b, 0, none⟩)) (bs ++ Lib.strCells s) w' ∧ Below B w w') := Any.Builder_WriteString Trybld166 TrybldX B b bs s w h hlen hBw
theorem bld_String (B b : Nat) (l : List UInt8) (w : World) (h : Lib.IsBuilder 102 5 B b (Lib.byteCells l) w) (hBw : B ≤ w.heap.size) :
    Calls Try.prog 86 #[.pointer (some ⟨b, 0, none⟩)] w fun e w' => e = .returned (.string ⟨l.toArray⟩) ∧ Below B w w' := Any.Builder_String_any Trybld169 TrybldX B b l w h hBw
theorem isBuilder_below {T e : TypeId} {B b : Nat} {bs : List Value} {w w' : World} (h : Lib.IsBuilder T e B b bs w) (hb : Below w.heap.size w w') : Lib.IsBuilder T e B b bs w' := by
  have own : ∀ v, w.ownsRow B e 1 v bs.length bs → w'.ownsRow B e 1 v bs.length bs := by
    rintro v ⟨h1, h2⟩
    refine ⟨h1, ?_⟩
    rcases h2 with hn | ⟨g, cap, cur, rfl, hB, hg, rest⟩
    · exact .inl hn
    · exact .inr ⟨g, cap, cur, rfl, hB, blk_below hg hb, rest⟩
  rcases h with ⟨hB, v, hk, ho, hn⟩ | ⟨hB, v, hk, ho, hn⟩
  · exact .inl ⟨hB, v, blk_below hk hb, own v ho, hn⟩
  · exact .inr ⟨hB, v, blk_below hk hb, own v ho, hn⟩
theorem fieldsFrom_snoc (a : ByteArray) (l : List ByteArray) (t : ByteArray) : fieldsFrom a (l ++ [t]) = fieldsFrom a l ++ (numT (t.size : Int) ++ t) := by
  unfold fieldsFrom
  rw [List.foldl_append]
  rfl
theorem fieldsFrom_size (l : List ByteArray) : ∀ a : ByteArray, (∀ t, t ∈ l → t.size ≤ 1000000) → (fieldsFrom a l).size ≤ a.size + 1000002 * l.length := by
  induction l with
  | nil => intro a _; exact Nat.le_add_right _ _
  | cons t l ih =>
    intro a h
    have h1 := h t List.mem_cons_self
    have h2 := ih (a ++ (numT (t.size : Int) ++ t)) fun x hx => h x (List.mem_cons_of_mem _ hx)
    have h3 : (a ++ (numT (t.size : Int) ++ t)).size = a.size + (2 + t.size) := by rw [ByteArray.size_append, ByteArray.size_append, numT_size]
    rw [h3] at h2
    simp only [List.length_cons]
    show (fieldsFrom (a ++ (numT (t.size : Int) ++ t)) l).size ≤ _
    omega
set_option maxHeartbeats 2000000 in
theorem impl_fields.calls (A0 : Option Addr) (c0 : Nat) (l0 : List ByteArray) (r : ByteArray) (w : World) (hr0 : Kd.C Kd.string w A0 l0.length l0) (hc0 : l0.length ≤ c0) (h : impl_fields.f l0 = some r) :
    Calls Try.prog 84 #[.slice A0 l0.length c0] w fun e w' => e = .returned (.string r) ∧ Below w.heap.size w w' := by
  unfold impl_fields.f at h
  by_cases hs : l0.length ≤ 1000000 ∧ (∀ t, t ∈ l0 → t.size ≤ 1000000)
  · rw [if_pos hs] at h
    obtain rfl := Option.some.inj h
    obtain ⟨hs1, hs2⟩ := hs
    have HS := Aside0.mk hs2
    have HR := Aside0.mk hr0
    clear hr0 h hs2
    have ea : strOfNums [(l0.length : Int) % 256] = strOfNums [(l0.length : Int) % 256] := rfl
    go_enter Try.func84, Try.ntmps84
    go_wp2_with fail
    have hsz : (w.alloc (.cells #[.pointer none, .slice none 0 0] 102 (0, 0))).heap.size = w.heap.size + 1 := by
      show (w.heap.push _).size = _
      rw [Array.size_push]
    refine (bld_WriteByte w.heap.size w.heap.size [] ((l0.length : Int) % 256) _ (Lib.fresh_isBuilder 102 5 w) (by simp) (by omega)).mono ?_
    rintro e w1 ⟨rfl, hB1, hb1⟩
    have HB1 := Aside0.mk (show Lib.IsBuilder 102 5 w.heap.size w.heap.size (Lib.byteCells (strOfNums [(l0.length : Int) % 256]).data.toList) w1 from by
      have e : Lib.byteCells (strOfNums [(l0.length : Int) % 256]).data.toList = [] ++ [Value.int .u8 ((l0.length : Int) % 256)] := by
        simp [Lib.byteCells, strOfNums]
        omega
      rw [e]; exact .inr hB1)
    have HB := Aside0.mk (show Below w.heap.size w w1 from ((Below.refl _ w).alloc (Nat.le_refl _) _).trans hb1)
    clear hB1 hb1 hsz
    go_wp2_with fail
    go_loopw [13] (fun v13 wr => ∃ k : Nat, k ≤ l0.length ∧ v13 = .int .i64 k ∧ Aside0 (Lib.IsBuilder 102 5 w.heap.size w.heap.size (Lib.byteCells (fieldsFrom (strOfNums [(l0.length : Int) % 256]) (l0.take k)).data.toList) wr) ∧ Aside0 (Below w.heap.size w wr)) (fun v13 _ => l0.length - (intOf v13).toNat)
    case atStart => exact ⟨0, Nat.zero_le _, rfl, ⟨by rw [List.take_zero]; exact HB1.out⟩, HB⟩
    case round =>
      clear HB HB1
      obtain ⟨k, hk, rfl, HI, HB⟩ := hrel
      have hfs := fieldsFrom_size (l0.take k) (strOfNums [(l0.length : Int) % 256]) fun t ht => HS.out t (List.mem_of_mem_take ht)
      rw [List.length_take] at hfs
      have ha1 : (strOfNums [(l0.length : Int) % 256]).size = 1 := rfl
      rw [ha1] at hfs
      by_cases hlt : k < l0.length
      · have c1 : decide ((k : Int) < (l0.length : Int)) = true := decide_eq_true (by omega)
        have p1 : 0 ≤ (k : Int) := by omega
        have q1 : (k : Int) < (l0.length : Int) := by omega
        obtain ⟨ad, e, hx⟩ := Kd.at_string HR.out (k : Int) p1 q1
        cases e
        have et : rdOf ByteArray.empty l0 (k : Int) = l0[k] := by unfold rdOf; rw [Int.toNat_natCast]; simp [List.getD_eq_getElem?_getD, hlt]
        rw [et, Int.toNat_natCast] at hx
        have htk : l0.take (k + 1) = l0.take k ++ [l0[k]] := List.take_succ_eq_append_getElem hlt
        have hts := HS.out l0[k] (List.getElem_mem hlt)
        replace hx := (HB.out.cell (World.block_lt_of_cell? w _ hx)).trans hx
        clear et
        generalize l0[k] = t at hx htk hts
        obtain ⟨K, hK⟩ := inBytes_is (t.size : Int)
        have hK2 := Aside0.mk (hK K (Nat.le_refl _))
        clear hK
        replace p1 := eq_true p1
        replace q1 := eq_true q1
        go_wp2_with fail
        refine (impl_inBytes.calls K _ _ _ _ hK2.out).mono ?_
        rintro e w2 ⟨rfl, hb2⟩
        have hns := numT_size (t.size : Int)
        have hov : (9223372036854775807 < (numT (t.size : Int)).size + t.size) = False := eq_false (by omega)
        generalize hN : numT (t.size : Int) = nb at *
        go_wp2_with fail
        refine (bld_WriteString w.heap.size w.heap.size _ (nb ++ t) _ (isBuilder_below HI.out hb2) (by
          rw [Lib.byteCells_length, ByteArray.size_append, Array.length_toList]
          have : (fieldsFrom (strOfNums [(l0.length : Int) % 256]) (l0.take k)).data.size = (fieldsFrom (strOfNums [(l0.length : Int) % 256]) (l0.take k)).size := rfl
          omega) (by have := HB.out.size; have := hb2.size; omega)).mono ?_
        rintro e w3 ⟨rfl, hB3, hb3⟩
        have HB3 := Aside0.mk (below_step HB.out hb2)
        have HN := Aside0.mk hN
        have HTK := Aside0.mk htk
        clear hN htk hov hns hfs
        go_wp2_with fail
        refine ⟨⟨k + 1, by omega, rfl, ⟨?_⟩, ⟨HB3.out.trans hb3⟩⟩, by simp [intOf]; omega⟩
        rw [HTK.out, fieldsFrom_snoc, HN.out]
        have e : Lib.byteCells (fieldsFrom (strOfNums [(l0.length : Int) % 256]) (l0.take k) ++ (nb ++ t)).data.toList = Lib.byteCells (fieldsFrom (strOfNums [(l0.length : Int) % 256]) (l0.take k)).data.toList ++ Lib.strCells (nb ++ t) := by
          rw [Lib.strCells_eq, ← Lib.byteCells_append, ByteArray.data_append, Array.toList_append]
        rw [e]
        exact .inr hB3
      · have e : k = l0.length := by omega
        have c1 : decide ((k : Int) < (l0.length : Int)) = false := decide_eq_false (by omega)
        have e9 : l0.take k = l0 := by rw [e, List.take_length]
        rw [e9] at HI
        go_wp2_with fail
        refine (bld_String w.heap.size w.heap.size _ _ HI.out HB.out.size).mono ?_
        rintro e w2 ⟨rfl, hb2⟩
        go_wp2_with fail
        go_ret
        exact ⟨by first | rfl | simp [fieldsT], HB.out.trans hb2⟩
  · rw [if_neg hs] at h
    cases h
end Go.Proofs.Ytgcncphdjabjjaa.X
namespace Go.Proofs.Ytgcncphdjabjjaa.X
open Go.RowKit Go.Proofs.YtgcncphdjabjjaaW.PrintWords Go.Proofs.YtgcncphdjabjjaaW.PrintLast Go.Proofs.YtgcncphdjabjjaaW.PrintMore
attribute [local go_sem] xbin_geq xbin_leq xbin_gtr max2_int min2_int max_two min_two max_three min_three max_four min_four
set_option linter.unusedVariables false
set_option linter.unusedSimpArgs false
theorem bytesOf_byte (s : ByteArray) : ∀ c, c ∈ bytesOf s → isByte c := by
  intro c hc
  unfold bytesOf at hc
  obtain ⟨b, _, rfl⟩ := List.mem_map.1 hc
  have := b.toNat_lt
  exact ⟨by omega, by omega⟩
def impl_sumOf.f (a0 : ByteArray) : Option Int := if a0.size ≤ 1000000000 then some (sumOf32 (bytesOf a0)) else none
set_option maxRecDepth 100000 in
set_option maxHeartbeats 2000000 in
theorem impl_sumOf.calls (a0 : ByteArray) (r : Int) (w : World) (h : impl_sumOf.f a0 = some r) :
    Calls Try.prog 85 #[.string a0] w fun e w' => e = .returned (.int .i64 r) ∧ Below w.heap.size w w' := by
  unfold impl_sumOf.f at h
  by_cases hs : a0.size ≤ 1000000000
  · rw [if_pos hs] at h
    obtain rfl := Option.some.inj h
    clear h
    obtain ⟨K, hK⟩ := impl_crc_is (bytesOf a0) (by rw [bytesOf_length]; omega) (bytesOf_byte a0)
    have hK2 := Aside0.mk (hK K (Nat.le_refl _))
    clear hK
    have kb := fun W => print_bytes (P := Try.prog) 9 52 5 Try.underlying9 Try.underlying52 Try.underlying5 a0 W
    go_enter Try.func85, Try.ntmps85
    go_wp2_with fail
    have hc : Kd.C (Kd.int .u8) (Lib.bytesWorld w 5 a0) (some ⟨w.heap.size, 0, none⟩) (bytesOf a0).length (bytesOf a0) := by
      rw [bytesOf_length]
      exact Kd.C_of_reads (bytes_reads w 5 a0 (by omega))
    have hl : (bytesOf a0).length ≤ grownCap w a0.size 0 5 := by rw [bytesOf_length]; exact grownCap_ge _ _ _ _
    have hq := impl_crc.calls K _ _ _ _ _ hc hl hK2.out
    rw [bytesOf_length] at hq
    refine hq.mono ?_
    rintro e w1 ⟨rfl, hd⟩
    go_wp2_with fail
    go_ret
    exact ⟨rfl, (bytes_below (Below.refl _ w) (Nat.le_refl _) _ a0).trans (by have := hd.below; exact this.mono (by rw [Lib.bytesWorld_size]; omega))⟩
  · rw [if_neg hs] at h
    cases h
end Go.Proofs.Ytgcncphdjabjjaa.X
