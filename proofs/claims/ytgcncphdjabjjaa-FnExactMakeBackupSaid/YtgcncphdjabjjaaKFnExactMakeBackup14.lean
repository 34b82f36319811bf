import Derived.Test.YtgcncphdjabjjaaKFnExactMakeBackup3
import Derived.Test.YtgcncphdjabjjaaKFnExactMakeBackup13
import Derived.Shelf.Strings.Builder1
import Derived.LoopTactic
import Derived.BigQuiet
import Derived.Lib.UnsafeStr
import Derived.Deep.RegionHeld3
namespace Go.Proofs.Ytgcncphdjabjjaa.X
open Go.RowKit Go.Proofs.YtgcncphdjabjjaaW.PrintWords Go.Proofs.YtgcncphdjabjjaaW.PrintLast Go.Proofs.YtgcncphdjabjjaaW.PrintMore
attribute [local go_sem] qaT qaU qaV qaP qaQ qa3 qa4 qaJ qaK qaR qaS
set_option linter.unusedVariables false
set_option linter.unusedSimpArgs false
def qbl.l0 : Nat → Int → List Int → Int → Option (ByteArray)
 | 0, _, _, _ => none
 | k + 1, x0, x5, x6 => if x6 ≥ 0 then (if 0 ≤ x6 then (if x6 < (x5.length : Int) then (qbl.l0 k (x0 / 256) (x5.set (x6 : Int).toNat ((x0) % 256)) (wrap64 (x6 - 1))) else (none)) else (none)) else (some (strOfNums x5))
def qbl.f (k : Nat) (a0 : Int) (a1 : Int) : Option (ByteArray) := if 0 ≤ a1 then (if (a1 : Int).toNat ≤ 281474976710656 then (qbl.l0 k a0 (List.replicate (a1 : Int).toNat 0) (wrap64 (a1 - 1))) else (none)) else (none)
theorem qbl.qbs : ∀ k, (∀ y0 y1 y2, LeO (qbl.l0 k y0 y1 y2) (qbl.l0 (k + 1) y0 y1 y2))
 | 0 => fun _ _ _ r h => by simp [qbl.l0] at h
 | k + 1 => by
  have ih0 := qbl.qbs k
  ·intro y0 y1 y2
   unfold qbl.l0
   repeat' first
   | (with_reducible exact ih0 _ _ _)
   | (with_reducible exact LeO.refl _)
   | (with_reducible exact LeO.none _)
   | (with_reducible refine LeO.ite ?_ ?_)
   | (with_reducible refine LeO.bind ?_ (fun _ => ?_))
   | exact ih0 _ _ _
   | exact LeO.none _
   | refine LeO.ite ?_ ?_
   | refine LeO.bind ?_ (fun _ => ?_)
theorem qbl.mono : ∀ a0 a1 k, LeO (qbl.f k a0 a1) (qbl.f (k + 1) a0 a1) := by
 intro a0 a1 k
 have ih0 := qbl.qbs k
 unfold qbl.f
 repeat' first
   | (with_reducible exact ih0 _ _ _)
   | (with_reducible exact LeO.refl _)
   | (with_reducible exact LeO.none _)
   | (with_reducible refine LeO.ite ?_ ?_)
   | (with_reducible refine LeO.bind ?_ (fun _ => ?_))
   | exact ih0 _ _ _
   | exact LeO.none _
   | refine LeO.ite ?_ ?_
   | refine LeO.bind ?_ (fun _ => ?_)
set_option maxHeartbeats 8000000 in
set_option maxRecDepth 100000 in
theorem qbl.calls (k : Nat) (a0 : Int) (a1 : Int) (r : ByteArray) (w : World) (h : qbl.f k a0 a1 = some r) :
  Calls Try.prog 99 #[.int .i64 a0, .int .i64 a1] w fun e w' => e = .returned (.string r) ∧ Below w.heap.size w w' := by
 have HB := Aside0.mk (Below.refl w.heap.size w)
 have H : (if 0 ≤ a1 then (if (a1 : Int).toNat ≤ 281474976710656 then (qbl.l0 k a0 (List.replicate (a1 : Int).toNat 0) (wrap64 (a1 - 1))) else (none)) else (none)) = some r := h
 clear h
 by_cases c3 : 0 ≤ a1
 ·rw [if_pos c3] at H
  have c3b0 := eq_true c3
  have c3b1 : decide (0 ≤ a1) = true := decide_eq_true c3
  clear c3
  by_cases c4 : (a1 : Int).toNat ≤ 281474976710656
  ·rw [if_pos c4] at H
   have c4b0 := eq_true c4
   have c4b1 : decide ((a1 : Int).toNat ≤ 281474976710656) = true := decide_eq_true c4
   clear c4
   obtain ⟨y151, hy151⟩ : ∃ y_ : List Int, y_ = (List.replicate (a1 : Int).toNat 0) := ⟨_, rfl⟩
   replace H : (qbl.l0 k a0 y151 (wrap64 (a1 - 1))) = some r := by first | (rw [hy151]; with_reducible exact H) | (have H2_ := (Option.bind_some _ _).symm.trans H; rw [hy151]; with_reducible exact H2_) | (have H2_ := (Option.bind_some _ _).symm.trans H; with_reducible exact H2_) | with_reducible exact H | (rw [hy151]; exact H) | exact H
   have Ny151 := Aside0.mk hy151
   clear hy151
   have H' := Aside0.mk H
   clear H
   go_enter Try.func99, Try.ntmps99
   go_wp2_with (first | ((with_reducible refine qbc (N := 8) rfl ?_); refine Kd.R_make (Kd.int .u8) _ 5 rfl (N := 8) rfl 52 _ _ rfl a1 rfl rfl Try.underlying52 (.int .u8 0) 1 info5 rfl (by decide) (by omega) 0 (ok := fun _ => True) (okp := fun _ => True) rfl (fun _ hk => hk) trivial (of_decide_eq_true (by first | (with_reducible assumption) | assumption)) (Nat.le_trans (Nat.mul_le_mul_right _ (of_decide_eq_true (by first | (with_reducible assumption) | assumption) : a1.toNat ≤ 281474976710656)) (by omega)) (Below.refl _ _) (Nat.le_refl _) ?_; intro v152 w5 ho6 hb hg_ hnew_; clear hg_ hnew_; (first | rw [← Ny151.out] at ho6 | (simp only [Int.reduceToNat] at ho6; rw [← Ny151.out] at ho6)); have n0_ := Aside0.mk (Kd.qbL ho6 (qau (by repeat (first | (with_reducible first | exact HB.out | apply qac | apply qaa | apply qab) | exact HB.out)))); have n1_ := Aside0.mk (qak (by repeat (first | (with_reducible first | exact HB.out | apply qac | apply qaa | apply qab) | exact HB.out)) hb); clear HB; have HO153 := n0_; have HB := n1_; clear n0_ n1_; clear hb ho6))
   go_loopg [0, 6] k (fun kq v0 v6 w' => ∃ (x0_1 : Int) (x5_1 : List Int) (x6_1 : Int), v0 = .int .i64 x0_1 ∧ v6 = .int .i64 x6_1 ∧ Aside0 (qbl.l0 kq x0_1 x5_1 x6_1 = some r) ∧ Aside0 (kq ≤ k) ∧ Aside0 (Kd.R (Kd.int .u8) 5 w' w.heap.size (fun _ => True) v152 x5_1) ∧ Aside0 (Below w.heap.size w w'))
   case atStart => exact ⟨(a0), (y151), (wrap64 (a1 - 1)), (by first | rfl | (simp; done) | (simp [*]; done)), (by first | rfl | (simp; done) | (simp [*]; done)), H', ⟨Nat.le_refl _⟩, ⟨by (with_reducible repeat (first | apply Kd.qar | apply Kd.qas | apply Kd.qax)); exact HO153.out⟩, ⟨by repeat (first | (with_reducible first | exact HB.out | apply qac | apply qaa | apply qab) | exact HB.out)⟩⟩
   case round =>
    clear H'
    try clear p2
    try clear c3
    try clear c3b0
    try clear c3b1
    try clear c4
    try clear c4b0
    try clear c4b1
    try clear p6
    obtain ⟨x0_1, x5_1, x6_1, rfl, rfl, HA, HK1, HO_5, HB⟩ := hrel
    cases gk with
    | zero => exact absurd HA.out (by simp [qbl.l0])
    | succ k1 =>
     have H := HA.out
     clear HA
     simp only [qbl.l0] at H
     by_cases c7 : x6_1 ≥ 0
     ·rw [if_pos c7] at H
      have c7b0 : decide (0 ≤ x6_1) = true := decide_eq_true c7
      clear c7
      by_cases c8 : 0 ≤ x6_1
      ·rw [if_pos c8] at H
       have c8b0 : decide (0 ≤ x6_1) = true := decide_eq_true c8
       clear c8
       by_cases c9 : x6_1 < (x5_1.length : Int)
       ·rw [if_pos c9] at H
        have c9b0 : decide (x6_1 < (x5_1.length : Int)) = true := decide_eq_true c9
        clear c9
        obtain ⟨y154, hy154⟩ : ∃ y_ : List Int, y_ = (x5_1.set (x6_1 : Int).toNat ((x0_1) % 256)) := ⟨_, rfl⟩
        replace H : (qbl.l0 k1 (x0_1 / 256) y154 (wrap64 (x6_1 - 1))) = some r := by first | (rw [hy154]; with_reducible exact H) | (have H2_ := (Option.bind_some _ _).symm.trans H; rw [hy154]; with_reducible exact H2_) | (have H2_ := (Option.bind_some _ _).symm.trans H; with_reducible exact H2_) | with_reducible exact H | (rw [hy154]; exact H) | exact H
        have Ny154 := Aside0.mk hy154
        clear hy154
        have H' := Aside0.mk H
        clear H
        have p10 : 0 ≤ (x6_1 : Int) := of_decide_eq_true (by first | (with_reducible assumption) | assumption)
        have q10 : (x6_1 : Int) < ((x5_1.length : Int) : Int) := of_decide_eq_true (by first | (with_reducible assumption) | assumption)
        obtain ⟨go10, co10, eo10, gb10, gl10, cl10, HG10⟩ := Kd.qeY HO_5.out (by omega)
        (first | cases eo10 | (injection eo10 with ea_ en_ ec_; (first | subst ea_ | (injection ea_ with ea_; subst ea_)); subst ec_; clear en_))
        have GB10 := Aside0.mk gb10
        have GG10 := Aside0.mk HG10
        clear gb10 gl10 HG10
        obtain ⟨hx10_0, hf10_0⟩ := Kd.R_celln 0 HO_5.out (x6_1 : Int) p10 q10
        replace p10 := eq_true p10
        replace q10 := eq_true q10
        have HP11 := Kd.R_putg HO_5.out (x6_1 : Int) ((x0_1) % 256)
        go_wp2_with (first | ((with_reducible refine qb7 (t := 5) (p := 19) rfl ?_); refine qbZ (t := 5) (p := 19) (v := ?vo_w12) (w1 := (wr.setCell ⟨go10, (x6_1 : Int).toNat, none⟩ (.int .u8 ((x0_1) % 256)))) ?hg ?ho ?hn ?hr ?_; (case ho => rfl); (case hg => rfl); (case hn => rfl); (case hr => first | (go_simp; done) | (go_simp; rfl)); intro w12 hw; have hg : wr.grownBy w12 (some go10) := (by rw [hw]; exact HP11.2); have hp_ : Kd.R (Kd.int .u8) 5 w12 w.heap.size (fun _ => True) (.slice (some ⟨go10, 0, none⟩) x5_1.length co10) y154 := (by rw [hw, Ny154.out]; exact HP11.1); clear HP11; have n0_ := Aside0.mk (hp_); have n1_ := Aside0.mk ((by rw [hw]; exact qai (HB.out) GB10.out : Below w.heap.size w w12)); clear HO_5; clear HB; have HO_5 := n0_; have HB := n1_; clear n0_ n1_; clear hg hw hp_))
        go_roundg k1
        case measure => have := HK1.out; omega
        case rel => exact ⟨(x0_1 / 256), (y154), (wrap64 (x6_1 - 1)), (by first | rfl | (simp; done) | (simp [*]; done)), (by first | rfl | (simp; done) | (simp [*]; done)), H', ⟨by have := HK1.out; omega⟩, ⟨by (with_reducible repeat (first | apply Kd.qar | apply Kd.qas | apply Kd.qax)); exact HO_5.out⟩, ⟨by repeat (first | (with_reducible first | exact HB.out | apply qac | apply qaa | apply qab) | exact HB.out)⟩⟩
       ·rw [if_neg c9] at H
        exact absurd H (by simp)
      ·rw [if_neg c8] at H
       exact absurd H (by simp)
     ·rw [if_neg c7] at H
      have c7b0 : decide (0 ≤ x6_1) = false := decide_eq_false c7
      clear c7
      obtain rfl := Option.some.inj H
      have hcv13 := qdW (P := Try.prog) Try.underlying52 Try.underlying5 Try.underlying9 (Kd.qc7 HO_5.out)
      go_wp2
      go_ret
      exact ⟨by first | rfl | (simp [qam, qan] <;> rfl) | (simp [*, qam, qan] <;> rfl), by repeat (first | (with_reducible first | exact HB.out | apply qac | apply qaa | apply qab) | exact HB.out)⟩
  ·rw [if_neg c4] at H
   exact absurd H (by simp)
 ·rw [if_neg c3] at H
  exact absurd H (by simp)
end Go.Proofs.Ytgcncphdjabjjaa.X
namespace Go.Proofs.Ytgcncphdjabjjaa.X
open Go.RowKit Go.Proofs.YtgcncphdjabjjaaW.PrintWords Go.Proofs.YtgcncphdjabjjaaW.PrintLast Go.Proofs.YtgcncphdjabjjaaW.PrintMore
attribute [local go_sem] qaT qaU qaV qaP qaQ qa3 qa4 qaJ qaK qaR qaS
set_option linter.unusedVariables false
set_option linter.unusedSimpArgs false
set_option maxRecDepth 100000
def numT (n : Int) : ByteArray := strOfNums [n / 256 % 256, n % 256]
theorem qcF (n : Int) : (numT n).size = 2 := rfl
theorem qfj (n : Int) : Ev (fun k => qbl.f k n 2) (numT n) := by
 unfold qbl.f
 refine Ev.pos (by omega) (Ev.pos (by omega) ?_)
 rw [show (2 : Int).toNat = 2 from rfl, show List.replicate 2 (0 : Int) = [0, 0] from rfl, qbT (x := 2 - 1) (by omega) (by omega)]
 refine Ev.succ ?_
 simp only [qbl.l0]
 refine Ev.pos (by omega) (Ev.pos (by omega) (Ev.pos (by simp) ?_))
 rw [qbT (x := 2 - 1 - 1) (by omega) (by omega)]
 refine Ev.succ ?_
 simp only [qbl.l0]
 refine Ev.pos (by omega) (Ev.pos (by omega) (Ev.pos (by simp) ?_))
 rw [qbT (x := 2 - 1 - 1 - 1) (by omega) (by omega)]
 refine Ev.succ ?_
 simp only [qbl.l0]
 exact Ev.neg (by omega) (Ev.is rfl)
def fieldsFrom (a : ByteArray) (l : List ByteArray) : ByteArray := l.foldl (fun a t => a ++ (numT (t.size : Int) ++ t)) a
def fieldsT (l : List ByteArray) : ByteArray := fieldsFrom (strOfNums [(l.length : Int) % 256]) l
def qcl.f (l0 : List ByteArray) : Option ByteArray := if l0.length ≤ 1000000 ∧ (∀ t, t ∈ l0 → t.size ≤ 1000000) then some (fieldsT l0) else none
theorem qef (B b : Nat) (bs : List Value) (c : Int) (w : World) (h : Lib.IsBuilder 102 5 B b bs w) (hlen : bs.length + 1 ≤ 140737488355328) (hBw : B ≤ w.heap.size) :
  Calls Try.prog 106 #[.pointer (some ⟨b, 0, none⟩), .int .u8 c] w fun e w' => e = .returned .nilIface ∧ (Lib.BuilderAt 102 5 B b (.pointer (some ⟨b, 0, none⟩)) (bs ++ [.int .u8 c]) w' ∧ Below B w w') := Any.Builder_WriteByte Trybld167 TrybldX B b bs c w h hlen hBw
theorem qcG (B b : Nat) (bs : List Value) (s : ByteArray) (w : World) (h : Lib.IsBuilder 102 5 B b bs w) (hlen : bs.length + s.size ≤ 140737488355328) (hBw : B ≤ w.heap.size) :
  Calls Try.prog 83 #[.pointer (some ⟨b, 0, none⟩), .string s] w fun e w' => e = .returned (.tuple #[.int .i64 s.size, .nilIface]) ∧ (Lib.BuilderAt 102 5 B b (.pointer (some ⟨b, 0, none⟩)) (bs ++ Lib.strCells s) w' ∧ Below B w w') := Any.Builder_WriteString Trybld166 TrybldX B b bs s w h hlen hBw
theorem qd6 (B b : Nat) (l : List UInt8) (w : World) (h : Lib.IsBuilder 102 5 B b (Lib.byteCells l) w) (hBw : B ≤ w.heap.size) :
  Calls Try.prog 86 #[.pointer (some ⟨b, 0, none⟩)] w fun e w' => e = .returned (.string ⟨l.toArray⟩) ∧ Below B w w' := Any.Builder_String_any Trybld169 TrybldX B b l w h hBw
theorem qcH {T e : TypeId} {B b : Nat} {bs : List Value} {w w' : World} (h : Lib.IsBuilder T e B b bs w) (hb : Below w.heap.size w w') : Lib.IsBuilder T e B b bs w' := by
 have own : ∀ v, w.ownsRow B e 1 v bs.length bs → w'.ownsRow B e 1 v bs.length bs := by
  rintro v ⟨h1, h2⟩
  refine ⟨h1, ?_⟩
  rcases h2 with hn | ⟨g, cap, cur, rfl, hB, hg, rest⟩
  ·exact .inl hn
  ·exact .inr ⟨g, cap, cur, rfl, hB, qaB hg hb, rest⟩
 rcases h with ⟨hB, v, hk, ho, hn⟩ | ⟨hB, v, hk, ho, hn⟩
 ·exact .inl ⟨hB, v, qaB hk hb, own v ho, hn⟩
 ·exact .inr ⟨hB, v, qaB hk hb, own v ho, hn⟩
theorem qcI (a : ByteArray) (l : List ByteArray) (t : ByteArray) : fieldsFrom a (l ++ [t]) = fieldsFrom a l ++ (numT (t.size : Int) ++ t) := by
 unfold fieldsFrom
 rw [List.foldl_append]
 rfl
theorem qcJ (l : List ByteArray) : ∀ a : ByteArray, (∀ t, t ∈ l → t.size ≤ 1000000) → (fieldsFrom a l).size ≤ a.size + 1000002 * l.length := by
 induction l with
 | nil => intro a _; exact Nat.le_add_right _ _
 | cons t l ih =>
  intro a h
  have h1 := h t List.mem_cons_self
  have h2 := ih (a ++ (numT (t.size : Int) ++ t)) fun x hx => h x (List.mem_cons_of_mem _ hx)
  have h3 : (a ++ (numT (t.size : Int) ++ t)).size = a.size + (2 + t.size) := by rw [ByteArray.size_append, ByteArray.size_append, qcF]
  rw [h3] at h2
  simp only [List.length_cons]
  show (fieldsFrom (a ++ (numT (t.size : Int) ++ t)) l).size ≤ _
  omega
set_option maxHeartbeats 2000000 in
theorem qcl.calls (A0 : Option Addr) (c0 : Nat) (l0 : List ByteArray) (r : ByteArray) (w : World) (hr0 : Kd.C Kd.string w A0 l0.length l0) (hc0 : l0.length ≤ c0) (h : qcl.f l0 = some r) :
  Calls Try.prog 84 #[.slice A0 l0.length c0] w fun e w' => e = .returned (.string r) ∧ Below w.heap.size w w' := by
 unfold qcl.f at h
 by_cases hs : l0.length ≤ 1000000 ∧ (∀ t, t ∈ l0 → t.size ≤ 1000000)
 ·rw [if_pos hs] at h
  obtain rfl := Option.some.inj h
  obtain ⟨hs1, hs2⟩ := hs
  have HS := Aside0.mk hs2
  have HR := Aside0.mk hr0
  clear hr0 h hs2
  have ea : strOfNums [(l0.length : Int) % 256] = strOfNums [(l0.length : Int) % 256] := rfl
  go_enter Try.func84, Try.ntmps84
  go_wp2_with fail
  have hsz : (w.alloc (.cells #[.pointer none, .slice none 0 0] 102 (0, 0))).heap.size = w.heap.size + 1 := by
   show (w.heap.push _).size = _
   rw [Array.size_push]
  refine (qef w.heap.size w.heap.size [] ((l0.length : Int) % 256) _ (Lib.fresh_isBuilder 102 5 w) (by simp) (by omega)).mono ?_
  rintro e w1 ⟨rfl, hB1, hb1⟩
  have HB1 := Aside0.mk (show Lib.IsBuilder 102 5 w.heap.size w.heap.size (Lib.byteCells (strOfNums [(l0.length : Int) % 256]).data.toList) w1 from by
   have e : Lib.byteCells (strOfNums [(l0.length : Int) % 256]).data.toList = [] ++ [Value.int .u8 ((l0.length : Int) % 256)] := by
    simp [Lib.byteCells, strOfNums]
    omega
   rw [e]; exact .inr hB1)
  have HB := Aside0.mk (show Below w.heap.size w w1 from ((Below.refl _ w).alloc (Nat.le_refl _) _).trans hb1)
  clear hB1 hb1 hsz
  go_wp2_with fail
  go_loopw [13] (fun v13 wr => ∃ k : Nat, k ≤ l0.length ∧ v13 = .int .i64 k ∧ Aside0 (Lib.IsBuilder 102 5 w.heap.size w.heap.size (Lib.byteCells (fieldsFrom (strOfNums [(l0.length : Int) % 256]) (l0.take k)).data.toList) wr) ∧ Aside0 (Below w.heap.size w wr)) (fun v13 _ => l0.length - (intOf v13).toNat)
  case atStart => exact ⟨0, Nat.zero_le _, rfl, ⟨by rw [List.take_zero]; exact HB1.out⟩, HB⟩
  case round =>
   clear HB HB1
   obtain ⟨k, hk, rfl, HI, HB⟩ := hrel
   have hfs := qcJ (l0.take k) (strOfNums [(l0.length : Int) % 256]) fun t ht => HS.out t (List.mem_of_mem_take ht)
   rw [List.length_take] at hfs
   have ha1 : (strOfNums [(l0.length : Int) % 256]).size = 1 := rfl
   rw [ha1] at hfs
   by_cases hlt : k < l0.length
   ·have c1 : decide ((k : Int) < (l0.length : Int)) = true := decide_eq_true (by omega)
    have p1 : 0 ≤ (k : Int) := by omega
    have q1 : (k : Int) < (l0.length : Int) := by omega
    obtain ⟨ad, e, hx⟩ := Kd.qep HR.out (k : Int) p1 q1
    cases e
    have et : rdOf ByteArray.empty l0 (k : Int) = l0[k] := by unfold rdOf; rw [Int.toNat_natCast]; simp [List.getD_eq_getElem?_getD, hlt]
    rw [et, Int.toNat_natCast] at hx
    have htk : l0.take (k + 1) = l0.take k ++ [l0[k]] := List.take_succ_eq_append_getElem hlt
    have hts := HS.out l0[k] (List.getElem_mem hlt)
    replace hx := (HB.out.cell (World.block_lt_of_cell? w _ hx)).trans hx
    clear et
    generalize l0[k] = t at hx htk hts
    obtain ⟨K, hK⟩ := qfj (t.size : Int)
    have hK2 := Aside0.mk (hK K (Nat.le_refl _))
    clear hK
    replace p1 := eq_true p1
    replace q1 := eq_true q1
    go_wp2_with fail
    refine (qbl.calls K _ _ _ _ hK2.out).mono ?_
    rintro e w2 ⟨rfl, hb2⟩
    have hns := qcF (t.size : Int)
    have hov : (9223372036854775807 < (numT (t.size : Int)).size + t.size) = False := eq_false (by omega)
    generalize hN : numT (t.size : Int) = nb at *
    go_wp2_with fail
    refine (qcG w.heap.size w.heap.size _ (nb ++ t) _ (qcH HI.out hb2) (by
     rw [Lib.byteCells_length, ByteArray.size_append, Array.length_toList]
     have : (fieldsFrom (strOfNums [(l0.length : Int) % 256]) (l0.take k)).data.size = (fieldsFrom (strOfNums [(l0.length : Int) % 256]) (l0.take k)).size := rfl
     omega) (by have := HB.out.size; have := hb2.size; omega)).mono ?_
    rintro e w3 ⟨rfl, hB3, hb3⟩
    have HB3 := Aside0.mk (qak HB.out hb2)
    have HN := Aside0.mk hN
    have HTK := Aside0.mk htk
    clear hN htk hov hns hfs
    go_wp2_with fail
    refine ⟨⟨k + 1, by omega, rfl, ⟨?_⟩, ⟨HB3.out.trans hb3⟩⟩, by simp [intOf]; omega⟩
    rw [HTK.out, qcI, HN.out]
    have e : Lib.byteCells (fieldsFrom (strOfNums [(l0.length : Int) % 256]) (l0.take k) ++ (nb ++ t)).data.toList = Lib.byteCells (fieldsFrom (strOfNums [(l0.length : Int) % 256]) (l0.take k)).data.toList ++ Lib.strCells (nb ++ t) := by
     rw [Lib.strCells_eq, ← Lib.byteCells_append, ByteArray.data_append, Array.toList_append]
    rw [e]
    exact .inr hB3
   ·have e : k = l0.length := by omega
    have c1 : decide ((k : Int) < (l0.length : Int)) = false := decide_eq_false (by omega)
    have e9 : l0.take k = l0 := by rw [e, List.take_length]
    rw [e9] at HI
    go_wp2_with fail
    refine (qd6 w.heap.size w.heap.size _ _ HI.out HB.out.size).mono ?_
    rintro e w2 ⟨rfl, hb2⟩
    go_wp2_with fail
    go_ret
    exact ⟨by first | rfl | simp [fieldsT], HB.out.trans hb2⟩
 ·rw [if_neg hs] at h
  cases h
end Go.Proofs.Ytgcncphdjabjjaa.X
namespace Go.Proofs.Ytgcncphdjabjjaa.X
open Go.RowKit Go.Proofs.YtgcncphdjabjjaaW.PrintWords Go.Proofs.YtgcncphdjabjjaaW.PrintLast Go.Proofs.YtgcncphdjabjjaaW.PrintMore
attribute [local go_sem] qaT qaU qaV qaP qaQ qa3 qa4 qaJ qaK qaR qaS
set_option linter.unusedVariables false
set_option linter.unusedSimpArgs false
def qa5.l0 : Nat → Int → List Int → Int → Option (List Int)
 | 0, _, _, _ => none
 | k + 1, x0, x5, x6 => if x6 ≥ 0 then (if 0 ≤ (IntKind.u64.wrap (wrap64 (8 * x6))) then (if x5.length < 140737488355328 then (qa5.l0 k x0 (x5 ++ [(shr .i64 x0 (IntKind.u64.wrap (wrap64 (8 * x6)))) % 256]) (wrap64 (x6 - 1))) else (none)) else (none)) else (some x5)
def qa5.f (k : Nat) (a0 : Int) (a1 : Int) : Option (List Int) := qa5.l0 k a0 (([] : List Int)) (wrap64 (a1 - 1))
theorem qa5.qbs : ∀ k, (∀ y0 y1 y2, LeO (qa5.l0 k y0 y1 y2) (qa5.l0 (k + 1) y0 y1 y2))
 | 0 => fun _ _ _ r h => by simp [qa5.l0] at h
 | k + 1 => by
  have ih0 := qa5.qbs k
  ·intro y0 y1 y2
   unfold qa5.l0
   repeat' first
   | (with_reducible exact ih0 _ _ _)
   | (with_reducible exact LeO.refl _)
   | (with_reducible exact LeO.none _)
   | (with_reducible refine LeO.ite ?_ ?_)
   | (with_reducible refine LeO.bind ?_ (fun _ => ?_))
   | exact ih0 _ _ _
   | exact LeO.none _
   | refine LeO.ite ?_ ?_
   | refine LeO.bind ?_ (fun _ => ?_)
theorem qa5.mono : ∀ a0 a1 k, LeO (qa5.f k a0 a1) (qa5.f (k + 1) a0 a1) := by
 intro a0 a1 k
 have ih0 := qa5.qbs k
 unfold qa5.f
 repeat' first
   | (with_reducible exact ih0 _ _ _)
   | (with_reducible exact LeO.refl _)
   | (with_reducible exact LeO.none _)
   | (with_reducible refine LeO.ite ?_ ?_)
   | (with_reducible refine LeO.bind ?_ (fun _ => ?_))
   | exact ih0 _ _ _
   | exact LeO.none _
   | refine LeO.ite ?_ ?_
   | refine LeO.bind ?_ (fun _ => ?_)
set_option maxHeartbeats 8000000 in
set_option maxRecDepth 100000 in
theorem qa5.calls (k : Nat) (a0 : Int) (a1 : Int) (r : List Int) (w : World) (h : qa5.f k a0 a1 = some r) :
  Calls Try.prog 97 #[.int .i64 a0, .int .i64 a1] w fun e w' => ∃ v0_ : Value, e = .returned (v0_) ∧ Kd.R (Kd.int .u8) 5 w' w.heap.size (fun _ => True) v0_ r ∧ Below w.heap.size w w' := by
 have HB := Aside0.mk (Below.refl w.heap.size w)
 have H : (qa5.l0 k a0 (([] : List Int)) (wrap64 (a1 - 1))) = some r := h
 clear h
 obtain ⟨y110, hy110⟩ : ∃ y_ : List Int, y_ = (([] : List Int)) := ⟨_, rfl⟩
 replace H : (qa5.l0 k a0 y110 (wrap64 (a1 - 1))) = some r := by first | (rw [hy110]; with_reducible exact H) | (have H2_ := (Option.bind_some _ _).symm.trans H; rw [hy110]; with_reducible exact H2_) | (have H2_ := (Option.bind_some _ _).symm.trans H; with_reducible exact H2_) | with_reducible exact H | (rw [hy110]; exact H) | exact H
 have Ny110 := Aside0.mk hy110
 clear hy110
 have H' := Aside0.mk H
 clear H
 go_enter Try.func97, Try.ntmps97
 go_wp2_with (first | ((with_reducible refine qbc (N := 7) rfl ?_); refine Kd.qfb (Kd.int .u8) _ 5 ?hg (N := 7) ?hd (xs := ([] : List Int)) (inner := []) (ok := fun _ => True) (okp := fun _ => True) ?hr ?hp (fun _ hk => hk) trivial (Below.refl _ _) (Nat.le_refl _) (by simp) ?_; (case hd => rfl); (case hg => rfl); (case hr => first | (go_simp; done) | (go_simp; rfl)); (case hp => exact (Reps.none _ _)); intro v111 w3 ho4 hb hg_ hnew_; clear hg_ hnew_; (first | rw [← Ny110.out] at ho4 | (simp only [Int.reduceToNat] at ho4; rw [← Ny110.out] at ho4)); have n0_ := Aside0.mk (Kd.qbL ho4 (qau (by repeat (first | (with_reducible first | exact HB.out | apply qac | apply qaa | apply qab) | exact HB.out)))); have n1_ := Aside0.mk (qak (by repeat (first | (with_reducible first | exact HB.out | apply qac | apply qaa | apply qab) | exact HB.out)) hb); clear HB; have HO112 := n0_; have HB := n1_; clear n0_ n1_; clear hb ho4))
 go_loopg [5, 6] k (fun kq v5 v6 w' => ∃ (x5_1 : List Int) (x6_1 : Int), v6 = .int .i64 x6_1 ∧ Aside0 (qa5.l0 kq a0 x5_1 x6_1 = some r) ∧ Aside0 (kq ≤ k) ∧ Aside0 (Kd.R (Kd.int .u8) 5 w' w.heap.size (fun _ => True) v5 x5_1) ∧ Aside0 (Below w.heap.size w w'))
 case atStart => exact ⟨(y110), (wrap64 (a1 - 1)), (by first | rfl | (simp; done) | (simp [*]; done)), H', ⟨Nat.le_refl _⟩, ⟨by (with_reducible repeat (first | apply Kd.qar | apply Kd.qas | apply Kd.qax)); exact HO112.out⟩, ⟨by repeat (first | (with_reducible first | exact HB.out | apply qac | apply qaa | apply qab) | exact HB.out)⟩⟩
 case round =>
  clear H'
  try clear p2
  obtain ⟨x5_1, x6_1, rfl, HA, HK1, HO_5, HB⟩ := hrel
  cases gk with
  | zero => exact absurd HA.out (by simp [qa5.l0])
  | succ k1 =>
   have H := HA.out
   clear HA
   simp only [qa5.l0] at H
   by_cases c5 : x6_1 ≥ 0
   ·rw [if_pos c5] at H
    have c5b0 : decide (0 ≤ x6_1) = true := decide_eq_true c5
    clear c5
    obtain ⟨ji6, hji6⟩ : ∃ j_ : Int, (IntKind.u64.wrap (wrap64 (8 * x6_1))) = j_ := ⟨_, rfl⟩
    replace H : (if 0 ≤ (ji6) then (if x5_1.length < 140737488355328 then (qa5.l0 k1 a0 (x5_1 ++ [(shr .i64 a0 (ji6)) % 256]) (wrap64 (x6_1 - 1))) else (none)) else (none)) = some r := by first | (rw [hji6] at H; exact H) | (simp only [hji6] at H ⊢; exact H)
    by_cases c7 : 0 ≤ (ji6)
    ·rw [if_pos c7] at H
     have c7b0 := eq_true c7
     have c7b1 : decide (0 ≤ (ji6)) = true := decide_eq_true c7
     clear c7
     obtain ⟨ji8, hji8⟩ : ∃ j_ : Int, (shr .i64 a0 (ji6)) = j_ := ⟨_, rfl⟩
     replace H : (if x5_1.length < 140737488355328 then (qa5.l0 k1 a0 (x5_1 ++ [(ji8) % 256]) (wrap64 (x6_1 - 1))) else (none)) = some r := by first | (rw [hji8] at H; exact H) | (simp only [hji8] at H ⊢; exact H)
     have hji8_ : (a0 / 2 ^ min (ji6).toNat 64) = ji8 := hji8
     have hji8z : (ji6) ≤ 64 → (a0 / 2 ^ (ji6).toNat) = ji8 := qfF hji8
     by_cases c9 : x5_1.length < 140737488355328
     ·rw [if_pos c9] at H
      have LMc9 := Aside0.mk c9
      clear c9
      obtain ⟨y113, hy113⟩ : ∃ y_ : List Int, y_ = (x5_1 ++ [(ji8) % 256]) := ⟨_, rfl⟩
      replace H : (qa5.l0 k1 a0 y113 (wrap64 (x6_1 - 1))) = some r := by first | (rw [hy113]; with_reducible exact H) | (have H2_ := (Option.bind_some _ _).symm.trans H; rw [hy113]; with_reducible exact H2_) | (have H2_ := (Option.bind_some _ _).symm.trans H; with_reducible exact H2_) | with_reducible exact H | (rw [hy113]; exact H) | exact H
      have Ny113 := Aside0.mk hy113
      clear hy113
      have H' := Aside0.mk H
      clear H
      go_wp2_with (first | ((with_reducible refine qev (b := .append) (xs := #[.tmp 14, .tmp 21]) rfl ?_); at_builtin; refine Kd.R_append (Kd.int .u8) (w0 := w) w.heap.size rfl (.tmp 14) (.tmp 21) 52 5 (.int .u8 0) 1 rfl Try.underlying52 info5 rfl (by decide) (by omega) u5 x5_1 ((ji8) % 256) [.int .u8 ((ji8) % 256)] (fun _ => True) (fun _ => False) rfl rfl ?aP (fun _ hk => hk.elim) ?aF ?aO ?aB ?aS ?aL ?_; (case aP => exact rfl); (case aB => exact (by repeat (first | (with_reducible first | exact HB.out | apply qac | apply qaa | apply qab) | exact HB.out))); (case aF => exact (fun _ _ => trivial)); (case aO => exact (by (with_reducible repeat (first | apply Kd.qar | apply Kd.qas | apply Kd.qax)); exact HO_5.out)); (case aS => exact (qau (by repeat (first | (with_reducible first | exact HB.out | apply qac | apply qaa | apply qab) | exact HB.out)))); (case aL => have := LMc9.out; omega); intro v114 w10 ho hb hg hat; rw [← Ny113.out] at ho; have n0_ := Aside0.mk (hb); have n1_ := Aside0.mk (ho); clear HB; clear HO_5; have HB := n0_; have HO115 := n1_; clear n0_ n1_; clear ho hb hg hat))
      go_roundg k1
      case measure => have := HK1.out; omega
      case rel => exact ⟨(y113), (wrap64 (x6_1 - 1)), (by first | rfl | (simp; done) | (simp [*]; done)), H', ⟨by have := HK1.out; omega⟩, ⟨by (with_reducible repeat (first | apply Kd.qar | apply Kd.qas | apply Kd.qax)); exact HO115.out⟩, ⟨by repeat (first | (with_reducible first | exact HB.out | apply qac | apply qaa | apply qab) | exact HB.out)⟩⟩
     ·rw [if_neg c9] at H
      exact absurd H (by simp)
    ·rw [if_neg c7] at H
     exact absurd H (by simp)
   ·rw [if_neg c5] at H
    have c5b0 : decide (0 ≤ x6_1) = false := decide_eq_false c5
    clear c5
    obtain rfl := Option.some.inj H
    go_wp2
    go_ret
    exact ⟨_, by first | rfl | (simp [qam, qan] <;> rfl) | (simp [*, qam, qan] <;> rfl), by (with_reducible repeat (first | apply Kd.qar | apply Kd.qas | apply Kd.qax)); exact HO_5.out, by repeat (first | (with_reducible first | exact HB.out | apply qac | apply qaa | apply qab) | exact HB.out)⟩
end Go.Proofs.Ytgcncphdjabjjaa.X
namespace Go.Proofs.Ytgcncphdjabjjaa.X
open Go.RowKit Go.Proofs.YtgcncphdjabjjaaW.PrintWords Go.Proofs.YtgcncphdjabjjaaW.PrintLast Go.Proofs.YtgcncphdjabjjaaW.PrintMore
attribute [local go_sem] qaT qaU qaV qaP qaQ qa3 qa4 qaJ qaK qaR qaS
set_option linter.unusedVariables false
set_option linter.unusedSimpArgs false
set_option maxRecDepth 100000
theorem qfP (n : Int) (h0 : 0 ≤ n) (h1 : n ≤ 1000000) : (shr .i64 n (IntKind.u64.wrap (wrap64 (8 * 1)))) % 256 = n / 256 % 256 ∧ (shr .i64 n (IntKind.u64.wrap (wrap64 (8 * 0)))) % 256 = n % 256 := by
 have e1 : IntKind.u64.wrap (wrap64 (8 * 1)) = 8 := by decide +kernel
 have e2 : IntKind.u64.wrap (wrap64 (8 * 0)) = 0 := by decide +kernel
 rw [e1, e2]
 exact ⟨rfl, congrArg (· % 256) (Int.ediv_one n)⟩
theorem qfk (n : Int) : bytesOf (numT n) = [n / 256 % 256, n % 256] := by
 unfold numT strOfNums bytesOf
 simp
 omega
theorem qeg (n : Int) (h0 : 0 ≤ n) (h1 : n ≤ 1000000) : Ev (fun k => qa5.f k n 2) (bytesOf (numT n)) := by
 unfold qa5.f
 obtain ⟨e1, e2⟩ := qfP n h0 h1
 rw [qbT (x := 2 - 1) (by omega) (by omega)]
 refine Ev.succ ?_
 simp only [qa5.l0]
 refine Ev.pos (by omega) (Ev.pos (by decide +kernel) (Ev.pos (by simp) ?_))
 rw [qbT (x := 2 - 1 - 1) (by omega) (by omega)]
 refine Ev.succ ?_
 simp only [qa5.l0]
 refine Ev.pos (by omega) (Ev.pos (by decide +kernel) (Ev.pos (by simp) ?_))
 rw [qbT (x := 2 - 1 - 1 - 1) (by omega) (by omega)]
 refine Ev.succ ?_
 simp only [qa5.l0]
 refine Ev.neg (by omega) (Ev.is ?_)
 rw [qfk, show (2 - 1 : Int) = 1 from rfl, show (1 - 1 : Int) = 0 from rfl, e1, e2]
 rfl
section
variable {P : Program} {ops : Array Oper} {o : Oper} {a : Act} {Q : Exit → Act → World → Prop} {Kc : Act → World → Prop}
theorem qdf {w0 W : World} (base : Nat) (hw : Region.wanted o (yielded ops a.tmps) = true) (s x : Operand) (t u e : TypeId)
  (ho : o.op = .call { callee := .builtin .append, args := #[s, x], argTypes := #[t, u] })
  (ht : P.underlying t = some (.slice e)) (hu : P.underlying u = some .string) (hinfo : (P.info? e).map (fun i => (i.zero, i.size, i.bytes)) = some (some (.int .u8 0), 1, 1))
  (v : Value) (xs : List Int) (y : ByteArray) (hs : a.eval s = v) (hx : a.eval x = .string y)
  (HO : (Kd.int .u8).R e W base (fun _ => True) v xs) (HB : Below base w0 W) (hbase : base ≤ W.heap.size) (hl : xs.length + y.size ≤ 140737488355328)
  (h : ∀ v1 w1, (Kd.int .u8).R e w1 base (fun _ => True) v1 (xs ++ bytesOf y) → Below base w0 w1 → W.grownBy w1 v.ownBlock → Kc (a.put o.dst v1) w1) :
  if Region.wanted o (yielded ops a.tmps) = true then Oper.wp P o a W Kc Q else Kc (a.put o.dst undef) W := by
 obtain ⟨i0, hi, hzz⟩ := Option.map_eq_some_iff.1 hinfo
 simp only [Prod.mk.injEq] at hzz
 obtain ⟨hz0, hz1, hz2⟩ := hzz
 have HO2 := Kd.qc7 HO
 obtain ⟨v1, w1, hr, hown, hg, _⟩ := Lib.run_append_own_string (P := P) W base t u o.type e i0 ht hu hi hz0 hz1 hz2 v xs.length _ HO2 y (by simp only [maxLen]; omega) hl hbase
 have hl2 : (xs ++ bytesOf y).length = xs.length + y.size := by rw [List.length_append, bytesOf_length]
 have hc : encs (Value.int .u8) (xs ++ bytesOf y) = encs (Value.int .u8) xs ++ Lib.strCells y := by
  rw [qeI]
  congr 1
  simp [encs, bytesOf, Lib.strCells]
 have hR : (Kd.int .u8).R e w1 base (fun _ => True) v1 (xs ++ bytesOf y) := Kd.qeb (by rw [hl2, hc]; exact hown) (fun _ _ => trivial)
 have hK := h v1 w1 hR (HB.grown hg hbase (qcL HO2)) hg
 rw [if_pos hw]
 unfold Oper.wp
 simp [execOp, ho, resolve, invoke, builtin, hs, hx, hr, Result.andThen]
 exact hK
end
theorem qcw (a b : ByteArray) : bytesOf (a ++ b) = bytesOf a ++ bytesOf b := by
 unfold bytesOf
 rw [ByteArray.data_append, Array.toList_append, List.map_append]
def qbX.f (l0 : List ByteArray) : Option (List Int) := if l0.length ≤ 1000000 ∧ (∀ t, t ∈ l0 → t.size ≤ 1000000) then some (bytesOf (fieldsT l0)) else none
set_option maxHeartbeats 4000000 in
theorem qbX.calls (A0 : Option Addr) (c0 : Nat) (l0 : List ByteArray) (r : List Int) (w : World) (hr0 : Kd.C Kd.string w A0 l0.length l0) (hc0 : l0.length ≤ c0) (h : qbX.f l0 = some r) :
  Calls Try.prog 80 #[.slice A0 l0.length c0] w fun e w' => ∃ v0_ : Value, e = .returned (v0_) ∧ Kd.R (Kd.int .u8) 5 w' w.heap.size (fun _ => True) v0_ r ∧ Below w.heap.size w w' := by
 unfold qbX.f at h
 by_cases hs : l0.length ≤ 1000000 ∧ (∀ t, t ∈ l0 → t.size ≤ 1000000)
 ·rw [if_pos hs] at h
  obtain rfl := Option.some.inj h
  obtain ⟨hs1, hs2⟩ := hs
  have HS := Aside0.mk hs2
  have HR := Aside0.mk hr0
  have HB0 := Aside0.mk (Below.refl w.heap.size w)
  clear hr0 h hs2
  have hb0 : (l0.length : Int) % 256 = (l0.length : Int) % 256 := rfl
  go_enter Try.func80, Try.ntmps80
  go_wp2_with fail
  have hl0 : Kd.R (Kd.int .u8) 5 (w.alloc (.cells #[.int .u8 ((l0.length : Int) % 256)] 5 (0, 0))) w.heap.size (fun _ => True) (.slice (some ⟨w.heap.size, 0, none⟩) 1 1) (bytesOf (fieldsFrom (strOfNums [(l0.length : Int) % 256]) (l0.take 0))) := by
   have e : bytesOf (fieldsFrom (strOfNums [(l0.length : Int) % 256]) (l0.take 0)) = [(l0.length : Int) % 256] := by
    rw [List.take_zero]
    show bytesOf (strOfNums [(l0.length : Int) % 256]) = _
    simp [bytesOf, strOfNums]
    omega
   rw [e]
   exact Kd.qeb (own_lit w w.heap.size 5 .u8 [(l0.length : Int) % 256] (Nat.le_refl _) (by simp)) (fun _ _ => trivial)
  have HL0 := Aside0.mk hl0
  clear hl0
  go_loopw [3, 4] (fun v3 v4 wr => ∃ k : Nat, k ≤ l0.length ∧ v4 = .int .i64 k ∧ Aside0 (Kd.R (Kd.int .u8) 5 wr w.heap.size (fun _ => True) v3 (bytesOf (fieldsFrom (strOfNums [(l0.length : Int) % 256]) (l0.take k)))) ∧ Aside0 (Below w.heap.size w wr)) (fun v3 v4 _ => l0.length - (intOf v4).toNat)
  case atStart => exact ⟨0, Nat.zero_le _, rfl, HL0, ⟨(Below.refl _ w).alloc (Nat.le_refl _) _⟩⟩
  case round =>
   clear HB0 HL0
   obtain ⟨k, hk, rfl, HI, HB⟩ := hrel
   have hfs := qcJ (l0.take k) (strOfNums [(l0.length : Int) % 256]) fun t ht => HS.out t (List.mem_of_mem_take ht)
   rw [List.length_take] at hfs
   have ha1 : (strOfNums [(l0.length : Int) % 256]).size = 1 := rfl
   rw [ha1] at hfs
   by_cases hlt : k < l0.length
   ·have c1 : decide ((k : Int) < (l0.length : Int)) = true := decide_eq_true (by omega)
    have p1 : 0 ≤ (k : Int) := by omega
    have q1 : (k : Int) < (l0.length : Int) := by omega
    obtain ⟨ad, e, hx⟩ := Kd.qep HR.out (k : Int) p1 q1
    cases e
    have et : rdOf ByteArray.empty l0 (k : Int) = l0[k] := by unfold rdOf; rw [Int.toNat_natCast]; simp [List.getD_eq_getElem?_getD, hlt]
    rw [et, Int.toNat_natCast] at hx
    have htk : l0.take (k + 1) = l0.take k ++ [l0[k]] := List.take_succ_eq_append_getElem hlt
    have hts := HS.out l0[k] (List.getElem_mem hlt)
    clear et
    generalize l0[k] = t at hx htk hts
    obtain ⟨K, hK⟩ := qeg (t.size : Int) (by omega) (by omega)
    have hK2 := Aside0.mk (hK K (Nat.le_refl _))
    clear hK
    have HX := Aside0.mk hx
    replace hx := qbV HB.out hx
    have HTK := Aside0.mk htk
    have HFS := Aside0.mk hfs
    clear htk hfs
    replace p1 := eq_true p1
    replace q1 := eq_true q1
    go_wp2_with fail
    go_region_held3 (fun w' => w'.cell? (ad.add k) = some (.string t)) (assumption)
     (first
      | (go_at_call 97; refine (qa5.calls K _ _ _ _ hK2.out).mono ?_; rintro e w2 ⟨v21, rfl, ho2, hb2⟩; have HB2 := (show Aside0 (Below w.heap.size w w2) from by first | exact Aside0.mk (qak HB.out hb2) | exact Aside0.mk (qak (qcK HB.out) hb2)); have HI2 := (by first | exact Aside0.mk (Kd.qaA HI.out hb2) | exact Aside0.mk (Kd.qaA (Kd.qax HI.out) hb2)); obtain ⟨A21, c21, rfl, hle21, hC21⟩ := Kd.qea ho2; have HC21 := Aside0.mk hC21; have hx2 : w2.cell? (ad.add k) = some (.string t) := qbV HB2.out HX.out; clear hb2 ho2 hC21; dsimp only)
      | (refine Kd.qcv (Kd.int .u8) (w0 := w) w.heap.size (by rfl) (.tmp 15) (.tmp 21) 52 5 (.int .u8 0) 1 (by rfl) Try.underlying52 info5 rfl (by decide) (by decide) _ _ _ _ _ _ (fun _ => True) (fun _ => False) (by rfl) (by rfl) HI2.out HC21.out (fun _ _ h => h) (fun _ h => h.elim) (fun _ _ => trivial) HB2.out HB2.out.size (by have := HFS.out; rw [bytesOf_length, bytesOf_length, qcF]; omega) ?_; intro v22 w3 ho3 hb3 hg3 hat3; have HB3 := Aside0.mk hb3; have HI3 := Aside0.mk ho3; have hx3 : w3.cell? (ad.add k) = some (.string t) := qbV HB3.out HX.out; clear hb3 ho3 hg3 hat3)
      | (refine qdf (w0 := w) w.heap.size (by rfl) (.tmp 22) (.tmp 26) 52 9 5 (by rfl) Try.underlying52 Try.underlying9 info5 _ _ t (by rfl) (by rfl) HI3.out HB3.out HB3.out.size (by have := HFS.out; rw [List.length_append, bytesOf_length, bytesOf_length, qcF]; omega) ?_; intro v27 w4 ho4 hb4 hg4; have HB4 := Aside0.mk hb4; have HI4 := Aside0.mk ho4; have hx4 : w4.cell? (ad.add k) = some (.string t) := qbV HB4.out HX.out; clear hb4 ho4 hg4)
      | fail)
    go_wp2_with fail
    refine ⟨⟨k + 1, by omega, rfl, ⟨?_⟩, ⟨HB4.out⟩⟩, by simp [intOf]; omega⟩
    have e : bytesOf (fieldsFrom (strOfNums [(l0.length : Int) % 256]) (l0.take (k + 1))) = bytesOf (fieldsFrom (strOfNums [(l0.length : Int) % 256]) (l0.take k)) ++ bytesOf (numT (t.size : Int)) ++ bytesOf t := by
     rw [HTK.out, qcI, qcw, qcw, List.append_assoc]
    rw [e]
    exact HI4.out
   ·have e : k = l0.length := by omega
    have c1 : decide ((k : Int) < (l0.length : Int)) = false := decide_eq_false (by omega)
    have e9 : l0.take k = l0 := by rw [e, List.take_length]
    rw [e9] at HI
    go_wp2_with fail
    go_ret
    exact ⟨_, rfl, HI.out, HB.out⟩
 ·rw [if_neg hs] at h
  cases h
end Go.Proofs.Ytgcncphdjabjjaa.X
