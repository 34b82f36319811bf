import Derived.Test.YtcdokcpiahbejaaGreatKFnExactTreeDrop2
import Derived.Test.YtcdokcpiahbejaaGreatProg
import Derived.Deep.Slices
import Derived.OpenShut
import Derived.ChangeArms
import Derived.DataReads
import Derived.ProofKit
import Derived.LoopTactic
import Derived.WalkSpells
import Derived.Lib.Bytealg
import Derived.Laws.Externs
import Derived.Laws.Strings
import Derived.Sort.Walk0
import Derived.Deep.RegionLaw
set_option maxRecDepth 100000
set_option maxHeartbeats 16000000
set_option linter.unusedVariables false
set_option linter.unusedSimpArgs false
namespace Go.Proofs.YtcdokcpiahbejaaGreat.X
open Go.RowKit Go.Proofs.PW Go.Proofs.PL Go.Proofs.PM
attribute [local go_sem] qaf qag qao qap qad qae qah qai
theorem qf4 (a b : List UInt8) : (Op.bytesLess a b || a == b) = !(Op.bytesLess b a) := by
 induction a generalizing b with
 | nil => cases b <;> rfl
 | cons x a ih =>
  cases b with
  | nil => rfl
  | cons y b =>
   have h := ih b
   simp only [Op.bytesLess, List.cons_beq_cons]
   by_cases h1 : x < y
   ·have h2 : ¬ y < x := by simp [UInt8.lt_iff_toNat_lt] at *; omega
    have h3 : (y == x) = false := by simp [UInt8.lt_iff_toNat_lt, ← UInt8.toNat_inj] at *; omega
    simp [h1, h2, h3]
   ·by_cases h2 : y < x
    ·have h3 : (x == y) = false := by simp [UInt8.lt_iff_toNat_lt, ← UInt8.toNat_inj] at *; omega
     simp [h1, h2, h3]
    ·have h3 : x = y := by simp [UInt8.lt_iff_toNat_lt, ← UInt8.toNat_inj] at *; omega
     subst h3
     simpa [h1] using h
theorem qaj (t : TypeId) (a b : ByteArray) : binOp .geq t (.string a) (.string b) = pure (.bool !(Op.bytesLess a.toList b.toList)) := by simp [binOp, Op.stringOp]
theorem qak (t : TypeId) (a b : ByteArray) : binOp .leq t (.string a) (.string b) = pure (.bool !(Op.bytesLess b.toList a.toList)) := by rw [← qf4]; simp [binOp, Op.stringOp]
theorem qal (t : TypeId) (a b : ByteArray) : binOp .gtr t (.string a) (.string b) = pure (.bool (Op.bytesLess b.toList a.toList)) := by rw [show Op.bytesLess b.toList a.toList = !(Op.bytesLess a.toList b.toList || a.toList == b.toList) from by rw [qf4]; simp]; simp [binOp, Op.stringOp]
def errW : Option Int → Value
 | none => .nilIface
 | some c => .iface 0 (.int .i64 c)
theorem qdc : errW none = .nilIface := rfl
theorem qdd (c : Int) : errW (some c) = .iface 0 (.int .i64 c) := rfl
theorem info3 : (Tryz.prog.info? 3).map (fun i => (i.zero, i.size, i.bytes)) = some (some (.int .i64 0), 1, 8) := by kernel_rfl
theorem info4 : (Tryz.prog.info? 4).map (fun i => (i.zero, i.size, i.bytes)) = some (some (.bool false), 1, 1) := by kernel_rfl
theorem info9 : (Tryz.prog.info? 9).map (fun i => (i.zero, i.size, i.bytes)) = some (some (.string ⟨#[]⟩), 1, 16) := by kernel_rfl
theorem qgh : (Tryz.prog.info? 61).map (fun i => (i.zero, i.size, i.bytes)) = some (some (.agg #[(.string ⟨#[]⟩), (.string ⟨#[]⟩)]), 2, 32) := by kernel_rfl
theorem qlq : (Tryz.prog.info? 80).map (fun i => (i.zero, i.size, i.bytes)) = some (some (.agg #[(.bool false), (.slice none 0 0), (.slice none 0 0), (.slice none 0 0)]), 4, 80) := by kernel_rfl
theorem qgi : (Tryz.prog.info? 91).map (fun i => (i.zero, i.size, i.bytes)) = some (some (.agg #[(.string ⟨#[]⟩), (.int .i64 0)]), 2, 24) := by kernel_rfl
structure S135 where
 f0 : ByteArray
 f1 : ByteArray
def z135 : S135 := ⟨(⟨#[]⟩ : ByteArray), (⟨#[]⟩ : ByteArray)⟩
def k135 : Kd S135 := Kd.iso (Kd.pair Kd.string Kd.string) (fun x : S135 => (x.f0, x.f1))
theorem qlr {w : World} {x : S135} {cs : List Value} (h : k135.K w x cs) : cs = [.string x.f0, .string x.f1] := by
 obtain ⟨_, _, rfl, rfl, rfl⟩ := h
 exact rfl
def qcl (xs : List S135) (i : Int) : S135 := xs.getD i.toNat z135
theorem qjL {w : World} {A : Option Addr} {n : Nat} {xs : List S135} (h : Kd.C k135 w A n xs) (i : Int) (h0 : 0 ≤ i) (h1 : i < n) : ∃ ad , A = some ad ∧ w.cell? (ad.add (i.toNat * 2)) = some (.string (qcl xs i).f0) ∧ w.cell? ⟨(ad.add (i.toNat * 2)).block, (ad.add (i.toNat * 2)).off + 1, none⟩ = some (.string (qcl xs i).f1) := by
 obtain ⟨ad, c, e, _, hK, hc0⟩ := Kd.qk0 h z135 i h0 h1
 have hc : ∀ j u, c[j]? = some u → w.cell? (ad.add (i.toNat * 2 + j)) = some u := hc0
 obtain rfl := qlr hK
 exact ⟨ad, e, hc 0 _ rfl, by rw [← qdE _ _ 1 (by omega)]; exact hc 1 _ rfl⟩
structure S70 where
 f0 : Bool
 f1 : (List S135)
 f2 : (List ByteArray)
 f3 : (List Int)
def z70 : S70 := ⟨false, ([] : List S135), ([] : List ByteArray), ([] : List Int)⟩
def k70 : Kd S70 := Kd.iso (Kd.pair Kd.bool (Kd.pair (Kd.slice 135 k135) (Kd.pair (Kd.slice 9 Kd.string) (Kd.slice 3 (Kd.int .i64))))) (fun x : S70 => (x.f0, x.f1, x.f2, x.f3))
theorem k70_open {w : World} {x : S70} {cs : List Value} (h : k70.K w x cs) : ∃ A1 c1 A2 c2 A3 c3, cs = [.bool x.f0, .slice A1 x.f1.length c1, .slice A2 x.f2.length c2, .slice A3 x.f3.length c3] ∧ x.f1.length ≤ c1 ∧ k135.C w A1 x.f1.length x.f1 ∧ x.f2.length ≤ c2 ∧ Kd.string.C w A2 x.f2.length x.f2 ∧ x.f3.length ≤ c3 ∧ (Kd.int .i64).C w A3 x.f3.length x.f3 := by
 obtain ⟨_, _, rfl, rfl, ⟨_, _, rfl, ⟨A1, c1, rfl, l1, g1⟩, ⟨_, _, rfl, ⟨A2, c2, rfl, l2, g2⟩, ⟨A3, c3, rfl, l3, g3⟩⟩⟩⟩ := h
 exact ⟨A1, c1, A2, c2, A3, c3, rfl, l1, g1, l2, g2, l3, g3⟩
def qbM (xs : List S70) (i : Int) : S70 := xs.getD i.toNat z70
theorem qls {w : World} {A : Option Addr} {n : Nat} {xs : List S70} (h : Kd.C k70 w A n xs) (i : Int) (h0 : 0 ≤ i) (h1 : i < n) : ∃ ad A1 c1 A2 c2 A3 c3, A = some ad ∧ w.cell? (ad.add (i.toNat * 4)) = some (.bool (qbM xs i).f0) ∧ w.cell? ⟨(ad.add (i.toNat * 4)).block, (ad.add (i.toNat * 4)).off + 1, none⟩ = some (.slice A1 (qbM xs i).f1.length c1) ∧ w.cell? ⟨(ad.add (i.toNat * 4)).block, (ad.add (i.toNat * 4)).off + 2, none⟩ = some (.slice A2 (qbM xs i).f2.length c2) ∧ w.cell? ⟨(ad.add (i.toNat * 4)).block, (ad.add (i.toNat * 4)).off + 3, none⟩ = some (.slice A3 (qbM xs i).f3.length c3) ∧ (qbM xs i).f1.length ≤ c1 ∧ k135.C w A1 (qbM xs i).f1.length (qbM xs i).f1 ∧ (qbM xs i).f2.length ≤ c2 ∧ Kd.string.C w A2 (qbM xs i).f2.length (qbM xs i).f2 ∧ (qbM xs i).f3.length ≤ c3 ∧ (Kd.int .i64).C w A3 (qbM xs i).f3.length (qbM xs i).f3 := by
 obtain ⟨ad, c, e, _, hK, hc0⟩ := Kd.qk0 h z70 i h0 h1
 have hc : ∀ j u, c[j]? = some u → w.cell? (ad.add (i.toNat * 4 + j)) = some u := hc0
 obtain ⟨A1, c1, A2, c2, A3, c3, rfl, l1, g1, l2, g2, l3, g3⟩ := k70_open hK
 exact ⟨ad, A1, c1, A2, c2, A3, c3, e, hc 0 _ rfl, by rw [← qdE _ _ 1 (by omega)]; exact hc 1 _ rfl, by rw [← qdE _ _ 2 (by omega)]; exact hc 2 _ rfl, by rw [← qdE _ _ 3 (by omega)]; exact hc 3 _ rfl, l1, g1, l2, g2, l3, g3⟩
structure S61 where
 f0 : ByteArray
 f1 : ByteArray
def z61 : S61 := ⟨(⟨#[]⟩ : ByteArray), (⟨#[]⟩ : ByteArray)⟩
def k61 : Kd S61 := Kd.iso (Kd.pair Kd.string Kd.string) (fun x : S61 => (x.f0, x.f1))
theorem k61_open {w : World} {x : S61} {cs : List Value} (h : k61.K w x cs) : cs = [.string x.f0, .string x.f1] := by
 obtain ⟨_, _, rfl, rfl, rfl⟩ := h
 exact rfl
theorem qes {w : World} {base : Nat} {ok : Nat → Prop} {x : S61} {cs : List Value} (h : k61.M w base ok x cs) : cs = [.string x.f0, .string x.f1] := by
 obtain ⟨_, _, rfl, rfl, rfl⟩ := h
 exact rfl
theorem qf5 (w : World) (base : Nat) (ok : Nat → Prop) (x : S61)  : k61.M w base ok x [.string x.f0, .string x.f1] := ⟨[.string x.f0], [.string x.f1], rfl, rfl, rfl⟩
def qan (xs : List S61) (i : Int) : S61 := xs.getD i.toNat z61
theorem qb1 {w : World} {A : Option Addr} {n : Nat} {xs : List S61} (h : Kd.C k61 w A n xs) (i : Int) (h0 : 0 ≤ i) (h1 : i < n) : ∃ ad , A = some ad ∧ w.cell? (ad.add (i.toNat * 2)) = some (.string (qan xs i).f0) ∧ w.cell? ⟨(ad.add (i.toNat * 2)).block, (ad.add (i.toNat * 2)).off + 1, none⟩ = some (.string (qan xs i).f1) := by
 obtain ⟨ad, c, e, _, hK, hc0⟩ := Kd.qk0 h z61 i h0 h1
 have hc : ∀ j u, c[j]? = some u → w.cell? (ad.add (i.toNat * 2 + j)) = some u := hc0
 obtain rfl := k61_open hK
 exact ⟨ad, e, hc 0 _ rfl, by rw [← qdE _ _ 1 (by omega)]; exact hc 1 _ rfl⟩
structure S80 where
 f0 : Bool
 f1 : (List S61)
 f2 : (List ByteArray)
 f3 : (List Int)
def z80 : S80 := ⟨false, ([] : List S61), ([] : List ByteArray), ([] : List Int)⟩
def k80 : Kd S80 := Kd.iso (Kd.pair Kd.bool (Kd.pair (Kd.slice 61 k61) (Kd.pair (Kd.slice 9 Kd.string) (Kd.slice 3 (Kd.int .i64))))) (fun x : S80 => (x.f0, x.f1, x.f2, x.f3))
theorem k80_open {w : World} {x : S80} {cs : List Value} (h : k80.K w x cs) : ∃ A1 c1 A2 c2 A3 c3, cs = [.bool x.f0, .slice A1 x.f1.length c1, .slice A2 x.f2.length c2, .slice A3 x.f3.length c3] ∧ x.f1.length ≤ c1 ∧ k61.C w A1 x.f1.length x.f1 ∧ x.f2.length ≤ c2 ∧ Kd.string.C w A2 x.f2.length x.f2 ∧ x.f3.length ≤ c3 ∧ (Kd.int .i64).C w A3 x.f3.length x.f3 := by
 obtain ⟨_, _, rfl, rfl, ⟨_, _, rfl, ⟨A1, c1, rfl, l1, g1⟩, ⟨_, _, rfl, ⟨A2, c2, rfl, l2, g2⟩, ⟨A3, c3, rfl, l3, g3⟩⟩⟩⟩ := h
 exact ⟨A1, c1, A2, c2, A3, c3, rfl, l1, g1, l2, g2, l3, g3⟩
theorem qeU {w : World} {base : Nat} {ok : Nat → Prop} {x : S80} {cs : List Value} (h : k80.M w base ok x cs) : ∃ v1 v2 v3, cs = [.bool x.f0, v1, v2, v3] ∧ k61.R 61 w base ok v1 x.f1 ∧ Kd.string.R 9 w base ok v2 x.f2 ∧ (Kd.int .i64).R 3 w base ok v3 x.f3 := by
 obtain ⟨_, _, rfl, rfl, ⟨_, _, rfl, ⟨v1, rfl, g1⟩, ⟨_, _, rfl, ⟨v2, rfl, g2⟩, ⟨v3, rfl, g3⟩⟩⟩⟩ := h
 exact ⟨v1, v2, v3, rfl, g1, g2, g3⟩
theorem qfs (w : World) (base : Nat) (ok : Nat → Prop) (x : S80) {v1 : Value} (g1 : k61.R 61 w base ok v1 x.f1) {v2 : Value} (g2 : Kd.string.R 9 w base ok v2 x.f2) {v3 : Value} (g3 : (Kd.int .i64).R 3 w base ok v3 x.f3) : k80.M w base ok x [.bool x.f0, v1, v2, v3] := ⟨[.bool x.f0], [v1, v2, v3], rfl, rfl, ⟨[v1], [v2, v3], rfl, ⟨v1, rfl, g1⟩, ⟨[v2], [v3], rfl, ⟨v2, rfl, g2⟩, ⟨v3, rfl, g3⟩⟩⟩⟩
def qaC (xs : List S80) (i : Int) : S80 := xs.getD i.toNat z80
theorem qdq {w : World} {A : Option Addr} {n : Nat} {xs : List S80} (h : Kd.C k80 w A n xs) (i : Int) (h0 : 0 ≤ i) (h1 : i < n) : ∃ ad A1 c1 A2 c2 A3 c3, A = some ad ∧ w.cell? (ad.add (i.toNat * 4)) = some (.bool (qaC xs i).f0) ∧ w.cell? ⟨(ad.add (i.toNat * 4)).block, (ad.add (i.toNat * 4)).off + 1, none⟩ = some (.slice A1 (qaC xs i).f1.length c1) ∧ w.cell? ⟨(ad.add (i.toNat * 4)).block, (ad.add (i.toNat * 4)).off + 2, none⟩ = some (.slice A2 (qaC xs i).f2.length c2) ∧ w.cell? ⟨(ad.add (i.toNat * 4)).block, (ad.add (i.toNat * 4)).off + 3, none⟩ = some (.slice A3 (qaC xs i).f3.length c3) ∧ (qaC xs i).f1.length ≤ c1 ∧ k61.C w A1 (qaC xs i).f1.length (qaC xs i).f1 ∧ (qaC xs i).f2.length ≤ c2 ∧ Kd.string.C w A2 (qaC xs i).f2.length (qaC xs i).f2 ∧ (qaC xs i).f3.length ≤ c3 ∧ (Kd.int .i64).C w A3 (qaC xs i).f3.length (qaC xs i).f3 := by
 obtain ⟨ad, c, e, _, hK, hc0⟩ := Kd.qk0 h z80 i h0 h1
 have hc : ∀ j u, c[j]? = some u → w.cell? (ad.add (i.toNat * 4 + j)) = some u := hc0
 obtain ⟨A1, c1, A2, c2, A3, c3, rfl, l1, g1, l2, g2, l3, g3⟩ := k80_open hK
 exact ⟨ad, A1, c1, A2, c2, A3, c3, e, hc 0 _ rfl, by rw [← qdE _ _ 1 (by omega)]; exact hc 1 _ rfl, by rw [← qdE _ _ 2 (by omega)]; exact hc 2 _ rfl, by rw [← qdE _ _ 3 (by omega)]; exact hc 3 _ rfl, l1, g1, l2, g2, l3, g3⟩
structure S29 where
 f0 : (List S80)
structure S91 where
 f0 : ByteArray
 f1 : Int
def z91 : S91 := ⟨(⟨#[]⟩ : ByteArray), (0 : Int)⟩
def k91 : Kd S91 := Kd.iso (Kd.pair Kd.string (Kd.int .i64)) (fun x : S91 => (x.f0, x.f1))
theorem k91_open {w : World} {x : S91} {cs : List Value} (h : k91.K w x cs) : cs = [.string x.f0, .int .i64 x.f1] := by
 obtain ⟨_, _, rfl, rfl, rfl⟩ := h
 exact rfl
theorem k91_mkM (w : World) (base : Nat) (ok : Nat → Prop) (x : S91)  : k91.M w base ok x [.string x.f0, .int .i64 x.f1] := ⟨[.string x.f0], [.int .i64 x.f1], rfl, rfl, rfl⟩
def qde (xs : List S91) (i : Int) : S91 := xs.getD i.toNat z91
theorem qhV {w : World} {A : Option Addr} {n : Nat} {xs : List S91} (h : Kd.C k91 w A n xs) (i : Int) (h0 : 0 ≤ i) (h1 : i < n) : ∃ ad , A = some ad ∧ w.cell? (ad.add (i.toNat * 2)) = some (.string (qde xs i).f0) ∧ w.cell? ⟨(ad.add (i.toNat * 2)).block, (ad.add (i.toNat * 2)).off + 1, none⟩ = some (.int .i64 (qde xs i).f1) := by
 obtain ⟨ad, c, e, _, hK, hc0⟩ := Kd.qk0 h z91 i h0 h1
 have hc : ∀ j u, c[j]? = some u → w.cell? (ad.add (i.toNat * 2 + j)) = some u := hc0
 obtain rfl := k91_open hK
 exact ⟨ad, e, hc 0 _ rfl, by rw [← qdE _ _ 1 (by omega)]; exact hc 1 _ rfl⟩
structure S24 where
 f0 : (List S70)
def k24 : Kd S24 := Kd.iso (Kd.slice 70 k70) (fun x : S24 => x.f0)
theorem k24_open {w : World} {x : S24} {cs : List Value} (h : k24.K w x cs) : ∃ A0 c0, cs = [.slice A0 x.f0.length c0] ∧ x.f0.length ≤ c0 ∧ k70.C w A0 x.f0.length x.f0 := by
 obtain ⟨A0, c0, rfl, l0, g0⟩ := h
 exact ⟨A0, c0, rfl, l0, g0⟩
end Go.Proofs.YtcdokcpiahbejaaGreat.X
namespace Go.Proofs.YtcdokcpiahbejaaGreat.X
open Go.RowKit Go.Proofs.PW Go.Proofs.PL Go.Proofs.PM
theorem zmove_ {B : Nat} {w w1 : World} {a : Addr} {v : Value} (hb : Aside0 (Below B w w1)) (hB : B = w.heap.size) (h : w.cell? a = some v) : w1.cell? a = some v := by subst hB; exact (hb.o.cell (World.block_lt_of_cell? w _ h)).trans h
theorem zcells4 {W : World} {g t : Nat} {x0 x1 x2 x3 : Value} (h : W.heap[g]? = some (.cells #[x0, x1, x2, x3] t (0, 0))) : W.cell? ⟨g, 0, none⟩ = some x0 ∧ W.cell? ⟨g, 1, none⟩ = some x1 ∧ W.cell? ⟨g, 2, none⟩ = some x2 ∧ W.cell? ⟨g, 3, none⟩ = some x3 ∧ W.frozen? ⟨g, 0, none⟩ = false ∧ W.frozen? ⟨g, 1, none⟩ = false ∧ W.frozen? ⟨g, 2, none⟩ = false ∧ W.frozen? ⟨g, 3, none⟩ = false := ⟨qac h 0, qac h 1, qac h 2, qac h 3, qau h 0, qau h 1, qau h 2, qau h 3⟩
theorem zft_ : ¬ (false = true) := by decide
theorem zleo_ {α : Type} {x y : Option α} (h : LeO x y := by repeat' first | (with_reducible first | apply Q9 | apply ih1 | apply ih2 | apply ih3 | apply kC | apply dT | apply iW | apply zm3_ | apply zm4_ | apply zm5_ | exact LeO.refl _ | exact LeO.none _ | refine LeO.ite ?_ ?_ | refine LeO.bind ?_ (fun _ => ?_)) | apply Q9 | apply ih1 | apply kC | apply dT | apply iW | exact LeO.none _ | refine LeO.ite ?_ ?_ | refine LeO.bind ?_ (fun _ => ?_)) : LeO x y := h
theorem zod_ {p : Prop} [Decidable p] (h : decide p = true := by first | (with_reducible assumption) | assumption) : p := of_decide_eq_true h
abbrev zArrF10 : Array Bool := #[false, false, false, false, false, false, false, false, false, false]
abbrev zArrF11 : Array Bool := #[false, false, false, false, false, false, false, false, false, false, false]
abbrev zArrT11 : Array Bool := #[true, true, true, true, true, true, true, true, true, true, true]
theorem zcm_ {b : Nat} {w w' : World} {a : Addr} {v : Value} (H : Below b w w') (h : w.cell? a = some v) (hb : b = w.heap.size := by rfl) : w'.cell? a = some v := by subst hb; exact (H.cell (World.block_lt_of_cell? w a h)).trans h
theorem zcells2 {W : World} {g t : Nat} {x0 x1 : Value} (h : W.heap[g]? = some (.cells #[x0, x1] t (0, 0))) : W.cell? ⟨g, 0, none⟩ = some x0 ∧ W.cell? ⟨g, 1, none⟩ = some x1 ∧ W.frozen? ⟨g, 0, none⟩ = false ∧ W.frozen? ⟨g, 1, none⟩ = false := ⟨qac h 0, qac h 1, qau h 0, qau h 1⟩
abbrev zArrF12 : Array Bool := #[false, false, false, false, false, false, false, false, false, false, false, false]
abbrev zArrT12 : Array Bool := #[true, true, true, true, true, true, true, true, true, true, true, true]
abbrev zArrF7 : Array Bool := #[false, false, false, false, false, false, false]
abbrev zArrF13 : Array Bool := #[false, false, false, false, false, false, false, false, false, false, false, false, false]
abbrev zArrT13 : Array Bool := #[true, true, true, true, true, true, true, true, true, true, true, true, true]
abbrev zArrF9 : Array Bool := #[false, false, false, false, false, false, false, false, false]
abbrev zArrF8 : Array Bool := #[false, false, false, false, false, false, false, false]
abbrev zArrT8 : Array Bool := #[true, true, true, true, true, true, true, true]
abbrev zArrF15 : Array Bool := #[false, false, false, false, false, false, false, false, false, false, false, false, false, false, false]
abbrev zArrT10 : Array Bool := #[true, true, true, true, true, true, true, true, true, true]
theorem zsteps_ {P : Program} {ops : Array Oper} {Q : Exit → Act → World → Prop} {B O : List Nat} {i : Nat} {I : (Nat → Bool) → Act → World → Prop} {rs : List Nat} {oi : Oper} (ho : ops[i]? = some oi) (h : ∀ b a w, I b a w → b i = false → (∀ j, (O.contains j && (B.getD i 0).testBit j) = true → b j = true) → (∀ d, (O.contains d && (B.getD d 0).testBit i) = true → b d = false) → ∀ K : Act → World → Prop, Shut (∀ a' w', I (up b i) a' w' → K a' w') → if Region.wanted oi (yielded ops a.tmps) = true then Oper.wp P oi a w K Q else K (a.put oi.dst undef) w) (hs : ∀ j ∈ rs, qfH P ops Q B O I j) : ∀ j ∈ i :: rs, qfH P ops Q B O I j := qcV (fun b a w h0 h1 h2 h3 => ⟨oi, ho, fun K hK => h b a w h0 h1 h2 h3 K hK⟩) hs
theorem zab {p q0 : Prop} (x0 : q0) (h : q0 → p := by intro z0; repeat (first | (with_reducible first | exact HB.o | apply qaA | apply qaG | apply qa1 | refine qcd ?_ z0) | exact HB.o)) : p := h x0
theorem zac {p q : Prop} (x : q) (h : q → p := by intro x9; (with_reducible repeat (first | refine qas ?_ _ | refine qaq ?_ | refine qam ?_ _)); exact x9) : p := h x
theorem zad {p q : Prop} (x : q) (h : q → p := by intro x9; (with_reducible repeat (first | apply Kd.qbm | apply Kd.qbE | apply Kd.qbu)); exact x9) : p := h x
theorem zae {p q : Prop} (x : q) (h : q → p := by intro x9; repeat (first | exact x9 | (with_reducible refine Kd.qeM ?_ _) | (with_reducible refine Kd.qfl ?_ _) | (with_reducible refine Kd.qeN ?_))) : p := h x
theorem zaf {p q0 q1 : Prop} (x0 : q0) (x1 : q1) (h : q0 → q1 → p := by intro z0 z1; repeat (first | (with_reducible first | exact HB.o | apply qaA | apply qaG | apply qa1 | refine qcd ?_ z0 | refine qcd ?_ z1) | exact HB.o)) : p := h x0 x1
theorem zag {p q : Prop} (x : q) (h : q → p := by intro x9; (with_reducible repeat (first | apply Kd.qcK | apply Kd.qeC | apply Kd.qd1)); exact x9) : p := h x
theorem zah {p q0 q1 q2 : Prop} (x0 : q0) (x1 : q1) (x2 : q2) (h : q0 → q1 → q2 → p := by intro z0 z1 z2; repeat (first | (with_reducible first | exact HB.o | apply qaA | apply qaG | apply qa1 | refine qcd ?_ z0 | refine qcd ?_ z1 | refine qcd ?_ z2) | exact HB.o)) : p := h x0 x1 x2
theorem zai {p q : Prop} (x : q) (h : q → p := by intro x9; (with_reducible repeat (first | apply Kd.V_alloc | apply Kd.V_drewN | apply Kd.qlo)); exact x9) : p := h x
theorem nf_ {x : Bool} {C : Prop} (h : x = false) (k : x = true) : C := by rw [h] at k; cases k
theorem nt_ {x : Bool} {C : Prop} (h : x = true) (k : x = false) : C := by rw [h] at k; cases k
theorem zdO {p : Prop} (h : p := by rfl) : p := h
theorem zdN {p : Prop} (h : p := by simp) : p := h
theorem zdM {p : Prop} (h : p := by omega) : p := h
theorem zdK {p : Prop} (h : p := by decide) : p := h
theorem zdL {p : Prop} (h : p := by go_num) : p := h
theorem zdJ {p : Prop} (h : p := by cases h) : p := h
theorem zdH {p : Prop} (h : p := by cases hk) : p := h
theorem zdI {p : Prop} (h : p := by cases hi) : p := h
theorem zdG {p : Prop} (h : p := by kernel_rfl) : p := h
theorem zdF {p : Prop} (h : p := by simp; omega) : p := h
theorem zdC {p : Prop} (h : p := by rw [h]; simp) : p := h
theorem zdD {p : Prop} (h : p := by rw [h_]; rfl) : p := h
theorem zdE {p : Prop} (h : p := by rw [e_]; rfl) : p := h
theorem zdB {p : Prop} (h : p := by simpa using h) : p := h
theorem zdv {p : Prop} (h : p := by simpa using hl) : p := h
theorem zdw {p : Prop} (h : p := by simpa using c5) : p := h
theorem zdx {p : Prop} (h : p := by simpa using hf) : p := h
theorem zdy {p : Prop} (h : p := by simpa using c6) : p := h
theorem zdz {p : Prop} (h : p := by simpa using c3) : p := h
theorem zdA {p : Prop} (h : p := by simp <;> omega) : p := h
theorem zdt {p : Prop} (h : p := by go_simp; try rfl) : p := h
theorem zdu {p : Prop} (h : p := by simp only; omega) : p := h
theorem zdr {p : Prop} (h : p := by simp at hl; omega) : p := h
theorem zds {p : Prop} (h : p := by simp [chainB, ho]) : p := h
theorem zdp {p : Prop} (h : p := by rw [h.1]; exact hj) : p := h
theorem zdq {p : Prop} (h : p := by unfold noneW; simp) : p := h
theorem zdo {p : Prop} (h : p := by rw [← e1]; exact hl) : p := h
theorem zdn {p : Prop} (h : p := by unfold wrap64; omega) : p := h
theorem zdh {p : Prop} (h : p := by exact k91_mkM _ _ _ _) : p := h
theorem zdi {p : Prop} (h : p := by have := HC.o; omega) : p := h
theorem zdj {p : Prop} (h : p := by have := HG.o; omega) : p := h
theorem zdk {p : Prop} (h : p := by simp [chainB, ho, hb]) : p := h
theorem zdl {p : Prop} (h : p := by have := HE.o; omega) : p := h
theorem zdm {p : Prop} (h : p := by have := HD.o; omega) : p := h
theorem zcY {p : Prop} (h : p := by have := I5.o; omega) : p := h
theorem zcZ {p : Prop} (h : p := by have := HL2.o; omega) : p := h
theorem zda {p : Prop} (h : p := by have := HUL.o; omega) : p := h
theorem zdb {p : Prop} (h : p := by rw [List.append_assoc]) : p := h
theorem zdc {p : Prop} (h : p := by simp at hlen <;> omega) : p := h
theorem zdd {p : Prop} (h : p := by have := HRG.o; omega) : p := h
theorem zde {p : Prop} (h : p := by have := HLS.o; omega) : p := h
theorem zdf {p : Prop} (h : p := by have := Zg.o; omega) : p := h
theorem zdg {p : Prop} (h : p := by have := OG.o; omega) : p := h
theorem zcU {p : Prop} (h : p := by rw [hbg.lenu]; exact hk) : p := h
theorem zcV {p : Prop} (h : p := by have := XQ.o; omega) : p := h
theorem zcW {p : Prop} (h : p := by unfold rootOf; rw [hq1]) : p := h
theorem zcX {p : Prop} (h : p := by have := (hq h).1; omega) : p := h
theorem zcS {p : Prop} (h : p := by have := HCC.o.2; omega) : p := h
theorem zcT {p : Prop} (h : p := by have := HLL.o.1; omega) : p := h
theorem zcP {p : Prop} (h : p := by obtain rfl := HR.o; rfl) : p := h
theorem zcQ {p : Prop} (h : p := by rw [HI.o, HZ2.o]; rfl) : p := h
theorem zcR {p : Prop} (h : p := by rw [hpg, Sa]; simp [hi]) : p := h
theorem zcO {p : Prop} (h : p := by unfold walkR; rw [HLK.o]) : p := h
theorem zcN {p : Prop} (h : p := by rw [List.length_map]; omega) : p := h
theorem zcK {p : Prop} (h : p := by rw [IntKind.wrap_i64]; omega) : p := h
theorem zcL {p : Prop} (h : p := by rw [List.length_drop]; omega) : p := h
theorem zcM {p : Prop} (h : p := by rw [List.length_take]; omega) : p := h
theorem zcJ {p : Prop} (h : p := by have := of_eq_true AR; omega) : p := h
theorem zcI {p : Prop} (h : p := by rw [List.length_append]; omega) : p := h
theorem zcG {p : Prop} (h : p := by rw [ho, hgb]; exact qbz w _) : p := h
theorem zcH {p : Prop} (h : p := by rw [List.length_set]; exact h.1) : p := h
theorem zcC {p : Prop} (h : p := by rw [hW1, hgh]; exact qbz w _) : p := h
theorem zcD {p : Prop} (h : p := by rw [hW1, hgb]; exact qbz w _) : p := h
theorem zcE {p : Prop} (h : p := by rw [hW2, hgb]; exact qbz w _) : p := h
theorem zcF {p : Prop} (h : p := by rw [← HPS.o.1, ← HHQ.o, hqq]) : p := h
theorem zcA {p : Prop} (h : p := by rw [hbg.len]; exact qcU _ _) : p := h
theorem zcB {p : Prop} (h : p := by rw [hW2, hgr]; exact qbz W1 _) : p := h
theorem zcy {p : Prop} (h : p := by simpa [Kd.int, Kd.scalar] using hq) : p := h
theorem zcz {p : Prop} (h : p := by have := qhl ht i hi; omega) : p := h
theorem zcw {p : Prop} (h : p := by simpa [Kd.bool, Kd.scalar] using hq) : p := h
theorem zcx {p : Prop} (h : p := by first | omega | exact Nat.le_refl _) : p := h
theorem zcv {p : Prop} (h : p := by simp [show ¬ l.length ≤ 60 by omega]) : p := h
theorem zct {p : Prop} (h : p := by intro w'; go_simp; with_reducible rfl) : p := h
theorem zcu {p : Prop} (h : p := by simpa [Kd.string, Kd.scalar] using hq) : p := h
theorem zcp {p : Prop} (h : p := by obtain rfl := HR.o.trans HA.o; rfl) : p := h
theorem zcq {p : Prop} (h : p := by have := HM.o; have := HL2.o; omega) : p := h
theorem zcr {p : Prop} (h : p := by rw [hgr, hW1]; exact Array.size_push _) : p := h
theorem zcs {p : Prop} (h : p := by have := HE.o; have := HI3.o; omega) : p := h
theorem zco {p : Prop} (h : p := by have := HME.o; have := HKL.o; omega) : p := h
theorem zcm {p : Prop} (h : p := by first | (go_simp; done) | (go_simp; rfl)) : p := h
theorem zcn {p : Prop} (h : p := by simp only; rw [qcU]; exact hk.symm) : p := h
theorem zci {p : Prop} (h : p := by go_simp; (try simp only [qef]); try rfl) : p := h
theorem zcj {p : Prop} (h : p := by rw [ha]; exact (qe3 rfl).trans rfl) : p := h
theorem zck {p : Prop} (h : p := by rw [← qek]; exact qft (by omega)) : p := h
theorem zcl {p : Prop} (h : p := by rw [hw]; exact qcd (HB.o) GB6.o) : p := h
theorem zcf {p : Prop} (h : p := by rw [hg]; exact (qaz (zab L5.o))) : p := h
theorem zcg {p : Prop} (h : p := by rw [hg]; exact (qaz (zab oD.o))) : p := h
theorem zch {p : Prop} (h : p := by rw [hg]; exact (qaz (zab IE.o))) : p := h
theorem zcc {p : Prop} (h : p := by first | rfl | (simp; done) | (simp [*]; done)) : p := h
theorem zcd {p : Prop} (h : p := by have := HSS.o k e; have := HKW.o.1; omega) : p := h
theorem zce {p : Prop} (h : p := by rw [← HCH.o, hpt]; exact List.getElem_mem _) : p := h
theorem zbU {p : Prop} (h : p := by rw [hW1]; exact qaA (Below.refl _ _) _) : p := h
theorem zbV {p : Prop} (h : p := by rw [hW2]; exact qaA (Below.refl _ _) _) : p := h
theorem zbW {p : Prop} (h : p := by first | simpa using c3 | (simp at c3 ⊢; omega)) : p := h
theorem zbX {p : Prop} (h : p := by rw [XK]; exact qaA (Below.refl _ _) _) : p := h
theorem zbY {p : Prop} (h : p := by rw [hU]; exact qaA (Below.refl _ _) _) : p := h
theorem zbZ {p : Prop} (h : p := by injection hk with hk; subst hk; exact .inl hok) : p := h
theorem zca {p : Prop} (h : p := by rw [AO]; exact qaA (Below.refl _ _) _) : p := h
theorem zcb {p : Prop} (h : p := by rw [hW3]; exact qaA (Below.refl _ _) _) : p := h
theorem zbJ {p : Prop} (h : p := by rw [ha.o]; exact qb6 0 hb_ rfl rfl rfl) : p := h
theorem zbK {p : Prop} (h : p := by rw [ha.o]; exact qb6 1 hb_ rfl rfl rfl) : p := h
theorem zbL {p : Prop} (h : p := by rw [ha.o]; exact qb6 2 hb_ rfl rfl rfl) : p := h
theorem zbM {p : Prop} (h : p := by rw [ha.o]; exact qb6 3 hb_ rfl rfl rfl) : p := h
theorem zbN {p : Prop} (h : p := by rw [ha.o]; exact qb6 4 hb_ rfl rfl rfl) : p := h
theorem zbO {p : Prop} (h : p := by rw [ha.o]; exact qb6 5 hb_ rfl rfl rfl) : p := h
theorem zbP {p : Prop} (h : p := by rw [ha.o]; exact qb6 6 hb_ rfl rfl rfl) : p := h
theorem zbQ {p : Prop} (h : p := by rw [ha.o]; exact qb6 7 hb_ rfl rfl rfl) : p := h
theorem zbR {p : Prop} (h : p := by rw [ha.o]; exact qjK (v := undef) rfl) : p := h
theorem zbS {p : Prop} (h : p := by rw [ha.o]; exact qb6 8 hb_ rfl rfl rfl) : p := h
theorem zbT {p : Prop} (h : p := by rw [ha.o]; exact qb6 9 hb_ rfl rfl rfl) : p := h
theorem zbB {p : Prop} (h : p := by simp only [qbH, Bool.false_eq_true, if_false]) : p := h
theorem zbC {p : Prop} (h : p := by unfold qdf; rw [if_neg (by rw [ha]; decide)]) : p := h
theorem zbD {p : Prop} (h : p := by have := HQ.o; rw [hq, Hj] at this; exact this) : p := h
theorem zbE {p : Prop} (h : p := by rw [ha.o]; exact qb6 10 hb_ rfl rfl rfl) : p := h
theorem zbF {p : Prop} (h : p := by rw [ha.o]; exact qb6 11 hb_ rfl rfl rfl) : p := h
theorem zbG {p : Prop} (h : p := by rw [ha.o]; exact qb6 12 hb_ rfl rfl rfl) : p := h
theorem zbH {p : Prop} (h : p := by rw [ha.o]; exact qb6 13 hb_ rfl rfl rfl) : p := h
theorem zbI {p : Prop} (h : p := by rw [ha.o]; exact qb6 14 hb_ rfl rfl rfl) : p := h
theorem zbz {p : Prop} (h : p := by rw [List.length_append, List.length_append]; omega) : p := h
theorem zbA {p : Prop} (h : p := by rw [Int.toNat_natCast]; exact set_mid pre u v rest) : p := h
theorem zbx {p : Prop} (h : p := by unfold lookW; rw [if_pos HL.o, if_neg (by omega)]) : p := h
theorem zby {p : Prop} (h : p := by rw [hgr, hW2, ← JQ, hgk]; exact Array.size_push _) : p := h
theorem zbv {p : Prop} (h : p := by obtain rfl := HR.o.trans (qfv _).symm; rfl) : p := h
theorem zbw {p : Prop} (h : p := by have := af.o; first | omega | exact Nat.le_refl _) : p := h
theorem zbn {p : Prop} (h : p := by rw [← qek]; exact qft (by simp at hl; omega)) : p := h
theorem zbo {p : Prop} (h : p := by rw [nK, IQ]; exact Nat.sub_le_sub_right dB _) : p := h
theorem zbp {p : Prop} (h : p := by show ((w).heap.push _).size = _; rw [Array.size_push]) : p := h
theorem zbq {p : Prop} (h : p := by have := qlB hbd q2 p1; rw [← hx] at this; omega) : p := h
theorem zbr {p : Prop} (h : p := by rw [hg]; exact (qaz (zaf X7.o L9.o))) : p := h
theorem zbs {p : Prop} (h : p := by rw [hg]; exact (qaz (zaf qH.o xS.o))) : p := h
theorem zbt {p : Prop} (h : p := by rw [hg]; exact (qaz (zaf H8.o xA.o))) : p := h
theorem zbu {p : Prop} (h : p := by rw [hg]; exact (qaz (zaf OE.o IK.o))) : p := h
theorem zbm {p : Prop} (h : p := by rw [qbT] at hk; have := Option.some.inj hk; omega) : p := h
theorem zbj {p : Prop} (h : p := by rintro w' ⟨s0, s1, s2, s3⟩; go_simp; with_reducible rfl) : p := h
theorem zbk {p : Prop} (h : p := by unfold noneW; rw [List.length_replicate]; exact hl.symm) : p := h
theorem zbl {p : Prop} (h : p := by have := HME.o; have := HKL.o; have := HC.o; omega) : p := h
theorem zbh {p : Prop} (h : p := by repeat (first | exact qcm.refl _ | apply qcm.step)) : p := h
theorem zbi {p : Prop} (h : p := by rw [hm]; exact qhb key (by have := HL2.o; omega)) : p := h
theorem zbc {p : Prop} (h : p := by have h3 := h.1; have h4 := h.2; have z := Ie.o; omega) : p := h
theorem zbd {p : Prop} (h : p := by have h3 := h.1; have h4 := h.2; have z := yg.o; omega) : p := h
theorem zbe {p : Prop} (h : p := by have h3 := h.1; have h4 := h.2; have z := Mh.o; omega) : p := h
theorem zbf {p : Prop} (h : p := by have := h.2.2.2.1; rw [← HX.o, hnb] at this; cases this) : p := h
theorem zbg {p : Prop} (h : p := by have := h.2.2.2.2; rw [← HX.o, hfb] at this; cases this) : p := h
theorem zbb {p : Prop} (h : p := by rw [← qek]; exact qlu (by simp at hlen <;> omega)) : p := h
theorem zaZ {p : Prop} (h : p := by rintro w' ⟨s0, s1, s2, s3, s4, s5⟩; go_simp; with_reducible rfl) : p := h
theorem zba {p : Prop} (h : p := by have := HM.o.2; have := HPN.o.2.2.1; have := HL2.o; omega) : p := h
theorem zaX {p : Prop} (h : p := by have := XQ.o; first | omega | (rw [XH.o] at this; omega)) : p := h
theorem zaY {p : Prop} (h : p := by have := jN.o; first | omega | (rw [XH.o] at this; omega)) : p := h
theorem zaW {p : Prop} (h : p := by rw [Int.toNat_natCast, List.length_cons, List.replicate_succ]; simp) : p := h
theorem zaV {p : Prop} (h : p := by rw [Int.tdiv_eq_ediv_of_nonneg (by omega), x2]; unfold wrap64; omega) : p := h
theorem zaU {p : Prop} (h : p := by first | (rw [AQ] at H; exact H) | (simp only [AQ] at H ⊢; exact H)) : p := h
theorem zaT {p : Prop} (h : p := by rintro w' ⟨s0, s1, s2, s3, s4, s5, s6, s7⟩; go_simp; with_reducible rfl) : p := h
theorem zaR {p : Prop} (h : p := by simp only [List.length_append, List.length_cons, List.length_nil]; omega) : p := h
theorem zaS {p : Prop} (h : p := by simp only [eq_iff_iff, iff_false]; intro e_; rw [e_] at h4; exact h4 rfl) : p := h
theorem zaQ {p : Prop} (h : p := by simp only [eq_iff_iff, iff_false]; intro e_; rw [e_] at h0; exact absurd rfl h0) : p := h
theorem zaP {p : Prop} (h : p := by have := HSK.o; unfold rdOf at this; rw [Int.toNat_natCast] at this; exact this) : p := h
theorem zaN {p : Prop} (h : p := by have h1 := hk.1; have h2 := hk.2; have h3 := h.1; have h4 := h.2; have z := Ie.o; omega) : p := h
theorem zaO {p : Prop} (h : p := by have h1 := hk.1; have h2 := hk.2; have h3 := h.1; have h4 := h.2; have z := yg.o; omega) : p := h
theorem zaM {p : Prop} (h : p := by first | rfl | (simp [qdc, qdd] <;> rfl) | (simp [*, qdc, qdd] <;> rfl)) : p := h
theorem zaL {p : Prop} (h : p := by (with_reducible repeat (first | apply qas | apply qaq | apply qam)); exact D8.o) : p := h
theorem zaK {p : Prop} (h : p := by (with_reducible repeat (first | apply Kd.qbm | apply Kd.qbE | apply Kd.qbu)); exact T7.o) : p := h
theorem zaG {p : Prop} (h : p := by (with_reducible repeat (first | apply Kd.qbm | apply Kd.qbE | apply Kd.qbu)); exact I4.o) : p := h
theorem zaH {p : Prop} (h : p := by (with_reducible repeat (first | apply Kd.qbm | apply Kd.qbE | apply Kd.qbu)); exact X4.o) : p := h
theorem zaI {p : Prop} (h : p := by (with_reducible repeat (first | apply Kd.qbm | apply Kd.qbE | apply Kd.qbu)); exact Ic.o) : p := h
theorem zaJ {p : Prop} (h : p := by (with_reducible repeat (first | apply Kd.qcK | apply Kd.qeC | apply Kd.qd1)); exact X4.o) : p := h
theorem zaF {p : Prop} (h : p := by simp only [Act.put, List.setIfInBounds_toArray, List.set_cons_zero, List.set_cons_succ, qef, qeP]; rfl) : p := h
theorem zaD {p : Prop} (h : p := by have h_ := XQ.o; simp only [eq_iff_iff, iff_false]; intro e_; rw [e_] at h_; exact absurd h_ (by decide)) : p := h
theorem zaE {p : Prop} (h : p := by have h_ := jN.o; simp only [eq_iff_iff, iff_false]; intro e_; rw [e_] at h_; exact absurd h_ (by decide)) : p := h
theorem zaB {p : Prop} (h : p := by rw [hg]; exact Nat.ne_of_lt (qbo (g := j7) (o := .cells #[.string B0, .string I2] 61 (0, 0)) (zac M9.o))) : p := h
theorem zaC {p : Prop} (h : p := by rw [hg]; exact Nat.ne_of_gt (qbo (g := j7) (o := .cells #[.string B0, .string I2] 61 (0, 0)) (zac M9.o))) : p := h
theorem zaz {p : Prop} (h : p := by rw [hg]; exact Nat.ne_of_lt (qbo (g := xB) (o := .cells #[.string B0, .string I2] 135 (0, 0)) (zac JG.o))) : p := h
theorem zaA {p : Prop} (h : p := by rw [hg]; exact Nat.ne_of_gt (qbo (g := xB) (o := .cells #[.string B0, .string I2] 135 (0, 0)) (zac JG.o))) : p := h
theorem zat {p : Prop} (h : p := by rw [hg]; exact Nat.ne_of_lt (qbo (g := N7) (o := .cells #[.slice I0 u0.length H0] 29 (0, 0)) (zac i4.o))) : p := h
theorem zau {p : Prop} (h : p := by rw [hg]; exact Nat.ne_of_gt (qbo (g := N7) (o := .cells #[.slice I0 u0.length H0] 29 (0, 0)) (zac i4.o))) : p := h
theorem zav {p : Prop} (h : p := by rw [hg]; exact Nat.ne_of_lt (qbo (g := I7) (o := .cells #[.slice I0 u0.length H0] 29 (0, 0)) (zac G8.o))) : p := h
theorem zaw {p : Prop} (h : p := by rw [hg]; exact Nat.ne_of_gt (qbo (g := I7) (o := .cells #[.slice I0 u0.length H0] 29 (0, 0)) (zac G8.o))) : p := h
theorem zax {p : Prop} (h : p := by rw [hg]; exact Nat.ne_of_lt (qbo (g := rA) (o := .cells #[.slice I0 u0.length H0] 24 (0, 0)) (zac DB.o))) : p := h
theorem zay {p : Prop} (h : p := by rw [hg]; exact Nat.ne_of_gt (qbo (g := rA) (o := .cells #[.slice I0 u0.length H0] 24 (0, 0)) (zac DB.o))) : p := h
theorem zas {p : Prop} (h : p := by repeat (first | (with_reducible first | exact HK.o | apply Kept.alloc | apply Kept.drewN | apply Kept.drew) | exact HK.o)) : p := h
theorem zar {p : Prop} (h : p := by repeat (first | (with_reducible first | exact HB.o | apply qaA | apply qaG | apply qa1) | exact HB.o)) : p := h
theorem zaq {p : Prop} (h : p := by (try simp only [List.map_toArray, List.map_cons, List.map_nil]); first | done | rfl | (simp only [List.length_drop, List.length_take]; rfl)) : p := h
theorem zap {p : Prop} (h : p := by first | exact Kd.qk9 _ _ _ _ _ | exact Kd.N_nil _ _ _ _ _ | exact Kd.V_nil _ _ _ _ _ | exact Kd.Q_nil _ _ _ _ _ | exact Kd.qdW _ _ _ _ _) : p := h
theorem zao {p : Prop} (h : p := by rw [hg]; exact (qaz (by repeat (first | (with_reducible first | exact HB.o | apply qaA | apply qaG | apply qa1) | exact HB.o)))) : p := h
theorem zan {p : Prop} (h : p := by first | rfl | (simp [qdc, qdd] <;> rfl) | (simp only [← AQ]; first | rfl | (simp [qdc, qdd] <;> rfl)) | (simp [*, qdc, qdd] <;> rfl)) : p := h
theorem zaj {p : Prop} (h : p := by rw [hg]; exact Nat.ne_of_lt (qbo (g := T2) (o := .cells #[.bool B0, .slice P0 D0.length O0, .slice R0 C0.length T0, .slice U0 E0.length Q0] 80 (0, 0)) (zac E3.o))) : p := h
theorem zak {p : Prop} (h : p := by rw [hg]; exact Nat.ne_of_gt (qbo (g := T2) (o := .cells #[.bool B0, .slice P0 D0.length O0, .slice R0 C0.length T0, .slice U0 E0.length Q0] 80 (0, 0)) (zac E3.o))) : p := h
theorem zal {p : Prop} (h : p := by rw [hg]; exact Nat.ne_of_lt (qbo (g := I9) (o := .cells #[.bool B0, .slice P0 D0.length O0, .slice R0 C0.length T0, .slice U0 E0.length Q0] 70 (0, 0)) (zac J8.o))) : p := h
theorem zam {p : Prop} (h : p := by rw [hg]; exact Nat.ne_of_gt (qbo (g := I9) (o := .cells #[.bool B0, .slice P0 D0.length O0, .slice R0 C0.length T0, .slice U0 E0.length Q0] 70 (0, 0)) (zac J8.o))) : p := h
theorem _root_.Go.Shut.o {p : Prop} (h : Go.Shut p) : p := Go.Shut.out h
theorem z_ {p : Prop} (h : p) : Aside0 p := ⟨h⟩
end Go.Proofs.YtcdokcpiahbejaaGreat.X
namespace Go.Proofs.YtcdokcpiahbejaaGreat.X
open Go.RowKit Go.Proofs.PW Go.Proofs.PL Go.Proofs.PM
attribute [local go_sem] qaj qak qal qaf qag qao qap qad qae qah qai
open Go.ChangeShapes Go.WideShapes
def Opens {α : Type} (P : Program) (t : TypeId) (d : Kd α) (wf : α → Prop) : Prop :=
 P.cellsOf t = d.sz ∧ ∀ {H : Type} {enc : TypeId × Value → H} {w : World} {base : Nat} {spare : Nat → Bool} {held : Bool} {fuel : Nat} {cs : List Value} {x : DataW H × List MemPlace},
  DataW.trod enc P w base spare held fuel t cs = some x → ∃ v : α, d.K w v cs ∧ wf v
theorem Opens.int_ {P : Program} {t : TypeId} {k : IntKind} (hu : P.underlying t = some (.int k)) (hc : P.cellsOf t = 1) : Opens P t (Kd.int k) (fun x => (Lit.int k x).wf = true) :=
 ⟨hc, fun h => by
  obtain ⟨n, rfl, _, hw⟩ := DataW.trod_int hu h;exact ⟨n, rfl, hw⟩⟩
theorem Opens.bool_ {P : Program} {t : TypeId} (hu : P.underlying t = some .bool) (hc : P.cellsOf t = 1) : Opens P t Kd.bool (fun _ => True) :=
 ⟨hc, fun h => by
  obtain ⟨b, rfl, _⟩ := DataW.trod_bool hu h;exact ⟨b, rfl, trivial⟩⟩
theorem Opens.string_ {P : Program} {t : TypeId} (hu : P.underlying t = some .string) (hc : P.cellsOf t = 1) : Opens P t Kd.string (fun x => x.size ≤ maxLen) :=
 ⟨hc, fun h => by
  obtain ⟨s, rfl, _, hs⟩ := DataW.trod_string hu h;exact ⟨s, rfl, hs⟩⟩
theorem qjM {α : Type} {n : Nat} {p : Nat → α → Prop} (h : ∀ i, i < n → ∃ x, p i x) : ∃ xs : List α, xs.length = n ∧ ∀ i x, xs[i]? = some x → p i x := by
 induction n with
 | zero => exact ⟨[], rfl, fun i x hx => by simp at hx⟩
 | succ n ih =>
  obtain ⟨xs, hl, hx⟩ := ih (fun i hi => h i zdM);obtain ⟨x, hp⟩ := h n zdM;refine ⟨xs ++ [x], by simp [hl], fun i y hy => ?_⟩
  rcases Nat.lt_or_ge i xs.length with hi | hi
  ·rw [List.getElem?_append_left hi] at hy;exact hx i y hy
  ·rw [List.getElem?_append_right hi] at hy;have hi0 : i - xs.length = 0 := by
    have := (List.getElem?_eq_some_iff.1 hy).1
    simpa using this
   rw [hi0] at hy;obtain rfl : x = y := by simpa using hy
   obtain rfl : i = n := zdM;exact hp
theorem Opens.row {α : Type} {P : Program} {t e : TypeId} {d : Kd α} {wf : α → Prop} (hu : P.underlying t = some (.slice e)) (he : Opens P e d wf)
  {H : Type} {enc : TypeId × Value → H} {w : World} {base : Nat} {spare : Nat → Bool} {held : Bool} {fuel : Nat} {cs : List Value} {x : DataW H × List MemPlace}
  (h : DataW.trod enc P w base spare held fuel t cs = some x) : ∃ (A : Option Addr) (c : Nat) (l : List α), cs = [.slice A l.length c] ∧ l.length ≤ c ∧ Kd.C d w A l.length l ∧ l.length ≤ maxLen ∧ ∀ y ∈ l, wf y := by
 rcases Go.Deep.open_slice hu h with ⟨rfl, _⟩ | ⟨a, len, cap, m, n, D, Pl, rfl, hb, hl, hm, hmm, rfl, hx⟩
 ·exact ⟨none, 0, [], rfl, Nat.le_refl _, ⟨rfl, zdN, fun hn => absurd hn zdN⟩, zdN, zdN⟩
 ·have hlm : len ≤ m := by rw [hmm]; split <;> omega
  obtain ⟨l, hlen, hp⟩ := qjM (n := len) (p := fun i v => wf v ∧ ∃ c : List Value, c.length = d.sz ∧ d.K w v c ∧ ∀ j u, c[j]? = some u → w.cell? (a.add (i * d.sz + j)) = some u) (fun i hi => by
   obtain ⟨cs', h1, h2⟩ := hx i zdM;obtain ⟨v, hv, hw⟩ := he.2 h2;obtain ⟨_, hcl, hcell⟩ := World.cells?_some h1;rw [he.1] at hcl;refine ⟨v, hw, cs', hcl, hv, fun j u hj => ?_⟩;have hj' := (List.getElem?_eq_some_iff.1 hj).1;have hc0 := hcell j (by rw [he.1]; omega);rw [he.1] at hc0;rw [← hj, ← hc0]
   congr 1
   unfold Addr.add
   by_cases h0 : i * d.sz = 0 <;> by_cases h3 : j = 0 <;> simp [h0, h3, Nat.add_assoc])
  refine ⟨some a, cap, l, by rw [hlen], zdM, ⟨rfl, by simp only [maxLen] at hm; omega, fun _ => ⟨a, rfl, fun j q hq => ?_⟩⟩, zdM, fun y hy => ?_⟩
  ·obtain ⟨_, c, h1, h2, h3⟩ := hp j q hq;exact ⟨c, h1, h2, h3⟩
  ·obtain ⟨j, hj⟩ := List.getElem?_of_mem hy;exact (hp j y hj).1
theorem Opens.qiP {α : Type} {P : Program} {t e : TypeId} {d : Kd α} {wf : α → Prop} (hu : P.underlying t = some (.slice e)) (hc : P.cellsOf t = 1) (he : Opens P e d wf) :
  Opens P t (Kd.slice e d) (fun xs => xs.length ≤ maxLen ∧ ∀ x ∈ xs, wf x) :=
 ⟨hc, fun h => by
  obtain ⟨A, c, l, rfl, hl, hC, hm, hw⟩ := Opens.row hu he h;exact ⟨l, ⟨A, c, rfl, hl, hC⟩, hm, hw⟩⟩
theorem Opens.qlt {α : Type} {P : Program} {t e : TypeId} {d : Kd α} {wf : List α → Prop} (h : Opens P t (Kd.slice e d) wf)
  {H : Type} {enc : TypeId × Value → H} {w : World} {base : Nat} {spare : Nat → Bool} {held : Bool} {A : Option Addr} {len c : Nat} {x : DataW H} {ps : List MemPlace}
  (ht : DataW.Trod enc P w base spare held t (.slice A len c) x ps) : ∃ l : List α, len = l.length ∧ l.length ≤ c ∧ Kd.C d w A l.length l ∧ wf l := by
 obtain ⟨fuel, hf⟩ := ht;obtain ⟨l, ⟨A', c', he, hl, hC⟩, hw⟩ := h.2 hf;simp [Value.cells] at he;obtain ⟨rfl, rfl, rfl⟩ := he;exact ⟨l, rfl, hl, hC, hw⟩
theorem Opens.agg_arg {α : Type} {P : Program} {t : TypeId} {fs : Array Field} {d : Kd α} {wf : α → Prop} (h : Opens P t d wf) (hu : P.underlying t = some (.struct fs))
  {H : Type} {enc : TypeId × Value → H} {w : World} {base : Nat} {spare : Nat → Bool} {held : Bool} {r : Reach} {b0 : Nat} {v : Value} {x : DataW H} {ps : List MemPlace}
  (hv : Value.okWide P w r b0 t v) (ht : DataW.Trod enc P w base spare held t v x ps) : ∃ (y : α) (cs : List Value), v = .agg cs.toArray ∧ d.K w y cs ∧ wf y := by
 obtain ⟨cs, rfl, _⟩ := okWide_struct hu hv;obtain ⟨fuel, hf⟩ := ht;obtain ⟨y, hK, hw⟩ := h.2 hf;exact ⟨y, cs.toList, zdN, by simpa [Value.cells] using hK, hw⟩
end Go.Proofs.YtcdokcpiahbejaaGreat.X
namespace Go.Proofs.YtcdokcpiahbejaaGreat.X
open Go.RowKit Go.Proofs.PW Go.Proofs.PL Go.Proofs.PM
attribute [local go_sem] qaj qak qal qaf qag qao qap qad qae qah qai
def qdf {α : Type} (p : α → Bool) (l : List α) : Int := if l.any p then (l.findIdx p : Int) else -1
theorem qgj {α : Type} {p : α → Bool} {l : List α} {k : Nat} (hk : k < l.length) (hn : ∀ j (hj : j < l.length), j < k → p l[j] = false) (h : p l[k] = true) : qdf p l = k := by
 have hi : l.findIdx p = k := (List.findIdx_eq hk).2 ⟨h, fun j hj => by simpa using hn j zdM hj⟩;have ha : l.any p = true := List.any_eq_true.2 ⟨l[k], List.getElem_mem hk, h⟩;unfold qdf;rw [if_pos ha, hi]
theorem qgk {α : Type} {p : α → Bool} {l : List α} (hn : ∀ j (hj : j < l.length), p l[j] = false) : qdf p l = -1 := by
 unfold qdf;rw [if_neg];intro h;obtain ⟨x, hx, hp⟩ := List.any_eq_true.1 h;obtain ⟨j, hj, rfl⟩ := List.getElem_of_mem hx;rw [hn j hj] at hp
 cases hp
theorem qhA (p : S61 → Bool) (g : Nat) (lb : Array Value) (eg : ∀ args w, (callFunc g args).run Tryz.prog w = .ok (.enter g args) w) (A0 : Option Addr) (c0 : Nat) (l0 : List S61) (w : World) (hr0 : Kd.C k61 w A0 l0.length l0)
  (hp : ∀ (x : S61) (W : World), x ∈ l0 → Below w.heap.size w W → Calls Tryz.prog g (#[.agg #[.string x.f0, .string x.f1]] ++ lb) W fun e W' => e = .returned (.bool (p x)) ∧ Below W.heap.size W W') :
  Calls Tryz.prog 61 #[.slice A0 l0.length c0, .func (.func g) #[] lb] w fun e w' => e = .returned (.int .i64 (qdf p l0)) ∧ Below w.heap.size w w' := by
 have hu := Tryz.underlying61;have hm : l0.length ≤ 9223372036854775807 := hr0.2.1;have Z1 := z_ hr0;have HP := z_ hp;clear hr0 hp
 go_enter Tryz.func61, Tryz.ntmps61
 go_wp2_with fail
 go_loopw [8] (fun v8 wr => ∃ k : Nat, k ≤ l0.length ∧ v8 = .int .i64 k ∧ Aside0 (∀ j (hj : j < l0.length), j < k → p l0[j] = false) ∧ Aside0 (Below w.heap.size w wr)) (fun v8 _ => l0.length - (intOf v8).toNat)
 case atStart => exact ⟨0, Nat.zero_le _, rfl, ⟨fun j hj h => absurd h zdM⟩, ⟨Below.refl _ _⟩⟩
 case round =>
  obtain ⟨k, hk, rfl, HN, HB⟩ := hrel
  by_cases hlt : k < l0.length
  ·have p1 : 0 ≤ (k : Int) := zdM;have q1 : (k : Int) < (l0.length : Int) := zdM;obtain ⟨zd, e1, hx0, hx1⟩ := qb1 Z1.o (k : Int) p1 q1;have hx : qan l0 (k : Int) = l0[k] := by unfold qan; rw [Int.toNat_natCast]; simp [List.getD_eq_getElem?_getD, hlt]
   rw [hx] at hx0 hx1
   cases e1
   replace hx0 := zmove_ HB rfl hx0;replace hx1 := zmove_ HB rfl hx1;rw [Int.toNat_natCast] at hx0 hx1;clear hx;have hb := fun W hW => HP.o l0[k] W (List.getElem_mem hlt) hW
   have HB2 := z_ hb;clear hb
   cases hpk : p l0[k] with
   | true =>
    have HK := z_ hpk;clear hpk
    go_wp2_with fail
    refine (HB2.o _ HB.o).mono ?_;rintro e w1 ⟨rfl, hb1⟩;rw [HK.o]
    go_wp2_with fail
    go_ret
    exact ⟨by rw [qgj hlt HN.o HK.o]; rfl, qaa HB.o hb1⟩
   | false =>
    have HK := z_ hpk;clear hpk
    go_wp2_with fail
    refine (HB2.o _ HB.o).mono ?_;rintro e w1 ⟨rfl, hb1⟩;rw [HK.o]
    go_wp2_with fail
    go_roundw
    case rel => exact ⟨k + 1, zdM, zdL, ⟨fun j hj h => by
     by_cases e : j = k
     ·subst e; exact HK.o
     ·exact HN.o j hj zdM⟩, ⟨qaa HB.o hb1⟩⟩
    case measure => simp [intOf]; omega
  ·go_wp2_with fail
   go_ret
   exact ⟨by rw [qgk fun j hj => HN.o j hj zdM]; rfl, HB.o⟩
theorem qf6 (p : S61 → Bool) (g : Nat) (lb : Array Value) (eg : ∀ args w, (callFunc g args).run Tryz.prog w = .ok (.enter g args) w) (A0 : Option Addr) (c0 : Nat) (l0 : List S61) (w : World) (hr0 : Kd.C k61 w A0 l0.length l0)
  (hp : ∀ (x : S61) (W : World), x ∈ l0 → Below w.heap.size w W → Calls Tryz.prog g (#[.agg #[.string x.f0, .string x.f1]] ++ lb) W fun e W' => e = .returned (.bool (p x)) ∧ Below W.heap.size W W') :
  Calls Tryz.prog 31 #[.slice A0 l0.length c0, .func (.func g) #[] lb] w fun e w' => e = .returned (.bool (l0.any p)) ∧ Below w.heap.size w w' := by
 have HC := z_ (qhA p g lb eg A0 c0 l0 w hr0 hp);clear hr0 hp
 cases ha : l0.any p with
 | true =>
  have h1 : 0 ≤ qdf p l0 := by unfold qdf; rw [if_pos ha]; omega
  have h2 : decide (0 ≤ qdf p l0) = true := decide_eq_true h1;clear ha h1;generalize qdf p l0 = r at HC h2
  go_enter Tryz.func31, Tryz.ntmps31
  go_wp2_with fail
  refine HC.o.mono ?_;rintro e w1 ⟨rfl, hb1⟩
  go_wp2_with fail
  go_ret
  exact ⟨by first | rfl | simp [h2], hb1⟩
 | false =>
  have h1 : qdf p l0 = -1 := zbC;rw [h1] at HC;clear ha h1
  go_enter Tryz.func31, Tryz.ntmps31
  go_wp2_with fail
  refine HC.o.mono ?_;rintro e w1 ⟨rfl, hb1⟩
  go_wp2_with fail
  go_ret
  exact ⟨rfl, hb1⟩
def qbj.f (l0 : List Int) : Option (List Int) := if l0.length * 8 ≤ 140737488355328 then some l0 else none
theorem qbj.calls (A0 : Option Addr) (c0 : Nat) (l0 : List Int) (r : List Int) (w : World) (hr0 : Kd.C (Kd.int .i64) w A0 l0.length l0) (hc0 : l0.length ≤ c0) (h : qbj.f l0 = some r) :
  Calls Tryz.prog 82 #[.slice A0 l0.length c0] w fun e w' => ∃ B7 : Value, e = .returned (B7) ∧ Kd.R (Kd.int .i64) 3 w' w.heap.size (fun _ => True) B7 r ∧ Below w.heap.size w w' := by
 unfold qbj.f at h
 by_cases hl : l0.length * 8 ≤ 140737488355328
 ·rw [if_pos hl] at h;obtain rfl := Option.some.inj h;clear h;have HL := z_ hl;clear hl
  cases A0 with
  | none =>
   have h0 : l0.length = 0 := by
    rcases Nat.eq_zero_or_pos l0.length with h | h
    ·exact h
    ·obtain ⟨ad, he, _⟩ := hr0.2.2 h
     cases he
   obtain rfl := List.eq_nil_of_length_eq_zero h0;clear h0 hr0;have hq : ∀ w_, (binOp .eql 25 (.slice none 0 c0) (.slice none 0 0)).run Tryz.prog w_ = .ok (.bool true) w_ := fun w_ => by
    have := Lib.run_eql_slice_nil (P := Tryz.prog) w_ 25 3 none 0 c0 0 0 Tryz.underlying25
    simpa using this
   go_enter Tryz.func82, Tryz.ntmps82
   go_wp2_with fail
   go_ret
   exact ⟨_, rfl, Kd.qdW _ _ _ _ _, Below.refl _ _⟩
  | some ad0 =>
   have Z1 := z_ hr0;clear hr0;have hq : ∀ w_, (binOp .eql 25 (.slice (some ad0) l0.length c0) (.slice none 0 0)).run Tryz.prog w_ = .ok (.bool false) w_ := fun w_ => by
    have := Lib.run_eql_slice_nil (P := Tryz.prog) w_ 25 3 (some ad0) l0.length c0 0 0 Tryz.underlying25
    simpa using this
   have HB := z_ (Below.refl w.heap.size w)
   go_enter Tryz.func82, Tryz.ntmps82
   go_wp2_with (first | ((with_reducible refine qaw (N := 5) rfl ?_); refine Kd.qdr (Kd.int .i64) _ 3 zdO (N := 5) zdO (xs := ([] : List Int)) (inner := []) (ok := fun _ => True) (okp := fun _ => True) zcm ?hp (fun _ hk => hk) trivial (Below.refl _ _) (Nat.le_refl _) zdN ?_; (case hp => exact (Reps.none _ _)); intro v1 w1 ho1 hb j3 K0; clear j3 K0; have R9 := z_ (Kd.qa3 ho1 (qaz HB.o)); replace HB := z_ (qaa HB.o hb); clear hb ho1) | ((with_reducible refine qbS (b := .append) (xs := #[.tmp 5, .tmp 6]) rfl ?_); at_builtin; refine Kd.qb8 (Kd.int .i64) (w0 := w) w.heap.size rfl (.tmp 5) (.tmp 6) 25 3 (.int .i64 0) 8 rfl Tryz.underlying25 info3 rfl zdK zdM v1 [] l0 _ _ _ (fun _ => True) (fun _ => False) rfl rfl ?aO ?aR (fun _ _ h => h) (fun _ h => h.elim) ?aF ?aB ?aS ?aL ?_; (case aR => exact (Kd.qar Z1.o HB.o)); (case aB => exact HB.o); (case aF => exact (fun _ _ => trivial)); (case aO => exact R9.o); (case aS => exact (qaz HB.o)); (case aL => have := HL.o; simpa using this); intro v2 w2 ho hb hg hat; have KH := z_ ho; replace HB := z_ hb; clear R9; clear ho hb hg hat))
   go_ret
   exact ⟨_, rfl, by simpa using KH.o, HB.o⟩
 ·rw [if_neg hl] at h
  cases h
def qcn.f (l0 : List S61) : Option (List S61) := if l0.length * 32 ≤ 140737488355328 then some l0 else none
theorem qcn.calls (A0 : Option Addr) (c0 : Nat) (l0 : List S61) (r : List S61) (w : World) (hr0 : Kd.C k61 w A0 l0.length l0) (hc0 : l0.length ≤ c0) (h : qcn.f l0 = some r) :
  Calls Tryz.prog 88 #[.slice A0 l0.length c0] w fun e w' => ∃ B7 : Value, e = .returned (B7) ∧ Kd.R k61 61 w' w.heap.size (fun _ => True) B7 r ∧ Below w.heap.size w w' := by
 unfold qcn.f at h
 by_cases hl : l0.length * 32 ≤ 140737488355328
 ·rw [if_pos hl] at h;obtain rfl := Option.some.inj h;clear h;have HL := z_ hl;clear hl
  cases A0 with
  | none =>
   have h0 : l0.length = 0 := by
    rcases Nat.eq_zero_or_pos l0.length with h | h
    ·exact h
    ·obtain ⟨ad, he, _⟩ := hr0.2.2 h
     cases he
   obtain rfl := List.eq_nil_of_length_eq_zero h0;clear h0 hr0;have hq : ∀ w_, (binOp .eql 45 (.slice none 0 c0) (.slice none 0 0)).run Tryz.prog w_ = .ok (.bool true) w_ := fun w_ => by
    have := Lib.run_eql_slice_nil (P := Tryz.prog) w_ 45 61 none 0 c0 0 0 Tryz.underlying45
    simpa using this
   go_enter Tryz.func88, Tryz.ntmps88
   go_wp2_with fail
   go_ret
   exact ⟨_, rfl, Kd.qdW _ _ _ _ _, Below.refl _ _⟩
  | some ad0 =>
   have Z1 := z_ hr0;clear hr0;have hq : ∀ w_, (binOp .eql 45 (.slice (some ad0) l0.length c0) (.slice none 0 0)).run Tryz.prog w_ = .ok (.bool false) w_ := fun w_ => by
    have := Lib.run_eql_slice_nil (P := Tryz.prog) w_ 45 61 (some ad0) l0.length c0 0 0 Tryz.underlying45
    simpa using this
   have HB := z_ (Below.refl w.heap.size w)
   go_enter Tryz.func88, Tryz.ntmps88
   go_wp2_with (first | ((with_reducible refine qaw (N := 5) rfl ?_); refine Kd.qdr k61 _ 61 zdO (N := 5) zdO (xs := ([] : List S61)) (inner := []) (ok := fun _ => True) (okp := fun _ => True) zcm ?hp (fun _ hk => hk) trivial (Below.refl _ _) (Nat.le_refl _) zdN ?_; (case hp => exact (Reps.none _ _)); intro v1 w1 ho1 hb j3 K0; clear j3 K0; have R9 := z_ (Kd.qa3 ho1 (qaz HB.o)); replace HB := z_ (qaa HB.o hb); clear hb ho1) | ((with_reducible refine qbS (b := .append) (xs := #[.tmp 5, .tmp 6]) rfl ?_); at_builtin; refine Kd.qb8 k61 (w0 := w) w.heap.size rfl (.tmp 5) (.tmp 6) 45 61 (.agg #[(.string ⟨#[]⟩), (.string ⟨#[]⟩)]) 32 rfl Tryz.underlying45 qgh rfl zdK zdM v1 [] l0 _ _ _ (fun _ => True) (fun _ => False) rfl rfl ?aO ?aR (fun _ _ h => h) (fun _ h => h.elim) ?aF ?aB ?aS ?aL ?_; (case aR => exact (Kd.qar Z1.o HB.o)); (case aB => exact HB.o); (case aF => exact (fun _ _ => trivial)); (case aO => exact R9.o); (case aS => exact (qaz HB.o)); (case aL => have := HL.o; simpa using this); intro v2 w2 ho hb hg hat; have KH := z_ ho; replace HB := z_ hb; clear R9; clear ho hb hg hat))
   go_ret
   exact ⟨_, rfl, by simpa using KH.o, HB.o⟩
 ·rw [if_neg hl] at h
  cases h
def qbh.f (l0 : List ByteArray) : Option (List ByteArray) := if l0.length * 16 ≤ 140737488355328 then some l0 else none
theorem qbh.calls (A0 : Option Addr) (c0 : Nat) (l0 : List ByteArray) (r : List ByteArray) (w : World) (hr0 : Kd.C Kd.string w A0 l0.length l0) (hc0 : l0.length ≤ c0) (h : qbh.f l0 = some r) :
  Calls Tryz.prog 89 #[.slice A0 l0.length c0] w fun e w' => ∃ B7 : Value, e = .returned (B7) ∧ Kd.R Kd.string 9 w' w.heap.size (fun _ => True) B7 r ∧ Below w.heap.size w w' := by
 unfold qbh.f at h
 by_cases hl : l0.length * 16 ≤ 140737488355328
 ·rw [if_pos hl] at h;obtain rfl := Option.some.inj h;clear h;have HL := z_ hl;clear hl
  cases A0 with
  | none =>
   have h0 : l0.length = 0 := by
    rcases Nat.eq_zero_or_pos l0.length with h | h
    ·exact h
    ·obtain ⟨ad, he, _⟩ := hr0.2.2 h
     cases he
   obtain rfl := List.eq_nil_of_length_eq_zero h0;clear h0 hr0;have hq : ∀ w_, (binOp .eql 68 (.slice none 0 c0) (.slice none 0 0)).run Tryz.prog w_ = .ok (.bool true) w_ := fun w_ => by
    have := Lib.run_eql_slice_nil (P := Tryz.prog) w_ 68 9 none 0 c0 0 0 Tryz.underlying68
    simpa using this
   go_enter Tryz.func89, Tryz.ntmps89
   go_wp2_with fail
   go_ret
   exact ⟨_, rfl, Kd.qdW _ _ _ _ _, Below.refl _ _⟩
  | some ad0 =>
   have Z1 := z_ hr0;clear hr0;have hq : ∀ w_, (binOp .eql 68 (.slice (some ad0) l0.length c0) (.slice none 0 0)).run Tryz.prog w_ = .ok (.bool false) w_ := fun w_ => by
    have := Lib.run_eql_slice_nil (P := Tryz.prog) w_ 68 9 (some ad0) l0.length c0 0 0 Tryz.underlying68
    simpa using this
   have HB := z_ (Below.refl w.heap.size w)
   go_enter Tryz.func89, Tryz.ntmps89
   go_wp2_with (first | ((with_reducible refine qaw (N := 5) rfl ?_); refine Kd.qdr Kd.string _ 9 zdO (N := 5) zdO (xs := ([] : List ByteArray)) (inner := []) (ok := fun _ => True) (okp := fun _ => True) zcm ?hp (fun _ hk => hk) trivial (Below.refl _ _) (Nat.le_refl _) zdN ?_; (case hp => exact (Reps.none _ _)); intro v1 w1 ho1 hb j3 K0; clear j3 K0; have R9 := z_ (Kd.qa3 ho1 (qaz HB.o)); replace HB := z_ (qaa HB.o hb); clear hb ho1) | ((with_reducible refine qbS (b := .append) (xs := #[.tmp 5, .tmp 6]) rfl ?_); at_builtin; refine Kd.qb8 Kd.string (w0 := w) w.heap.size rfl (.tmp 5) (.tmp 6) 68 9 (.string ⟨#[]⟩) 16 rfl Tryz.underlying68 info9 rfl zdK zdM v1 [] l0 _ _ _ (fun _ => True) (fun _ => False) rfl rfl ?aO ?aR (fun _ _ h => h) (fun _ h => h.elim) ?aF ?aB ?aS ?aL ?_; (case aR => exact (Kd.qar Z1.o HB.o)); (case aB => exact HB.o); (case aF => exact (fun _ _ => trivial)); (case aO => exact R9.o); (case aS => exact (qaz HB.o)); (case aL => have := HL.o; simpa using this); intro v2 w2 ho hb hg hat; have KH := z_ ho; replace HB := z_ hb; clear R9; clear ho hb hg hat))
   go_ret
   exact ⟨_, rfl, by simpa using KH.o, HB.o⟩
 ·rw [if_neg hl] at h
  cases h
theorem Ev.succ {α : Type} {g : Nat → Option α} {r : α} (h : Ev (fun k => g (k + 1)) r) : Ev g r := Ev.step (fun _ => rfl) h
theorem Ev.pos {α : Type} {c : Prop} [Decidable c] {g f : Nat → Option α} {r : α} (hc : c) (h : Ev g r) : Ev (fun k => if c then g k else f k) r := Ev.congr (fun _ => if_pos hc) h
theorem Ev.neg {α : Type} {c : Prop} [Decidable c] {g f : Nat → Option α} {r : α} (hc : ¬ c) (h : Ev f r) : Ev (fun k => if c then g k else f k) r := Ev.congr (fun _ => if_neg hc) h
theorem Ev.is {α : Type} {o : Option α} {r : α} (h : o = some r) : Ev (fun _ => o) r := ⟨0, fun _ _ => h⟩
theorem Ev.bindk {α β : Type} {o : Option α} {f : Nat → α → Option β} {a : α} {r : β} (h : o = some a) (k : Ev (fun n => f n a) r) : Ev (fun n => o.bind (f n)) r := Ev.bind (g := fun _ => o) (Ev.is h) k
theorem Ev.same {α : Type} {g : Nat → Option α} {r r' : α} (h : Ev g r) (e : r = r') : Ev g r' := e ▸ h
theorem qft {n : Nat} (h : n < 9223372036854775807) : wrap64 ((n : Int) + 1) = ((n + 1 : Nat) : Int) := zdn
theorem qc0 {x : Int} (h0 : -9223372036854775808 ≤ x) (h1 : x ≤ 9223372036854775807) : wrap64 x = x := zdn
theorem set_mid {α : Type} (pre : List α) (x y : α) (rest : List α) : (pre ++ x :: rest).set pre.length y = pre ++ y :: rest := zdN
theorem qek {α : Type} (pre : List α) (x : α) : pre.length + 1 = (pre ++ [x]).length := zdN
theorem qd9 : maxLen ≤ 9223372036854775807 := by unfold maxLen; decide
def qdg (f : Nat → Bool) : Nat → Nat → Bool
 | _, 0 => true
 | i, d + 1 => f i && qdg f (i + 1) d
def allB (f : Nat → Bool) (n : Nat) : Bool := qdg f 0 n
theorem qgS (f : Nat → Bool) (d : Nat) : ∀ i, qdg f i d = true ↔ ∀ j, i ≤ j → j < i + d → f j = true := by
 induction d with
 | zero => intro i; simp only [qdg, true_iff]; intro j h1 h2; omega
 | succ d ih =>
  intro i;simp only [qdg, Bool.and_eq_true, ih];refine ⟨fun h j h1 h2 => ?_, fun h => ⟨h i zdM zdM, fun j h1 h2 => h j zdM zdM⟩⟩
  rcases Nat.lt_or_ge i j with h3 | h3
  ·exact h.2 j h3 zdM
  ·rw [show j = i from zdM]; exact h.1
theorem qgz {f : Nat → Bool} {n : Nat} : allB f n = true ↔ ∀ j, j < n → f j = true := by
 unfold allB;rw [qgS];exact ⟨fun h j hj => h j zdM zdM, fun h j _ hj => h j zdM⟩
theorem Ev.qdg {g : Nat → Int → Option Bool} (f : Nat → Bool) (fin : Bool) (n : Nat) (hend : Ev (fun k => g k (n : Int)) fin) (hstep : ∀ i : Nat, i < n → ∀ r, Ev (fun k => g k ((i + 1 : Nat) : Int)) r → Ev (fun k => g k (i : Int)) (f i && r)) (d : Nat) : ∀ i : Nat, i + d = n → Ev (fun k => g k (i : Int)) (qdg f i d && fin) := by
 induction d with
 | zero => intro i hi; rw [show i = n from zdM]; simpa [X.qdg] using hend
 | succ d ih =>
  intro i hi;have := hstep i zdM _ (ih (i + 1) zdM)
  simpa [X.qdg, Bool.and_assoc] using this
theorem Ev.all {g : Nat → Int → Option Bool} (f : Nat → Bool) (fin : Bool) (n : Nat) (hend : Ev (fun k => g k (n : Int)) fin) (hstep : ∀ i : Nat, i < n → ∀ r, Ev (fun k => g k ((i + 1 : Nat) : Int)) r → Ev (fun k => g k (i : Int)) (f i && r)) : Ev (fun k => g k 0) (allB f n && fin) := Ev.qdg f fin n hend hstep n 0 zdM
theorem qlu {n : Nat} (h : n < 9223372036854775807) : wrap64 (((n + 1 : Nat) : Int) - 1) = ((n : Nat) : Int) := zdn
def qb2.f (a0 : Int) (a1 : Int) (a2 : Int) : Option (Bool) := if a0 ≥ a1 then (some (decide (a0 ≤ a2))) else (some false)
theorem qb2.calls (a0 : Int) (a1 : Int) (a2 : Int) (r : Bool) (w : World) (h : qb2.f a0 a1 a2 = some r) :
  Calls Tryz.prog 79 #[.int .i64 a0, .int .i64 a1, .int .i64 a2] w fun e w' => e = .returned (.bool r) ∧ qcm w w' := by
 have H : (if a0 ≥ a1 then (some (decide (a0 ≤ a2))) else (some false)) = some r := h;clear h
 by_cases c4 : a0 ≥ a1
 ·rw [if_pos c4] at H;have G4 : decide (a1 ≤ a0) = true := decide_eq_true c4;clear c4;obtain rfl := Option.some.inj H
  go_enter Tryz.func79, Tryz.ntmps79
  go_wp2
  go_ret
  exact ⟨zcc, zbh⟩
 ·rw [if_neg c4] at H;have G4 : decide (a1 ≤ a0) = false := decide_eq_false c4;clear c4;obtain rfl := Option.some.inj H
  go_enter Tryz.func79, Tryz.ntmps79
  go_wp2
  go_ret
  exact ⟨zcc, zbh⟩
def qaY.f (a0 : Int) (a1 : Int) (a2 : Int) : Option (Bool) := if a1 ≤ a0 then (some (decide (a0 ≤ a2))) else (some false)
theorem qaY.calls (a0 : Int) (a1 : Int) (a2 : Int) (r : Bool) (w : World) (h : qaY.f a0 a1 a2 = some r) :
  Calls Tryz.prog 38 #[.int .i64 a0, .int .i64 a1, .int .i64 a2] w fun e w' => e = .returned (.bool r) ∧ qcm w w' := by
 have H : (if a1 ≤ a0 then (some (decide (a0 ≤ a2))) else (some false)) = some r := h;clear h
 by_cases c4 : a1 ≤ a0
 ·rw [if_pos c4] at H;have G4 : decide (a1 ≤ a0) = true := decide_eq_true c4;clear c4;obtain rfl := Option.some.inj H
  go_enter Tryz.func38, Tryz.ntmps38
  go_wp2
  go_ret
  exact ⟨zcc, zbh⟩
 ·rw [if_neg c4] at H;have G4 : decide (a1 ≤ a0) = false := decide_eq_false c4;clear c4;obtain rfl := Option.some.inj H
  go_enter Tryz.func38, Tryz.ntmps38
  go_wp2
  go_ret
  exact ⟨zcc, zbh⟩
def inB (x a b : Int) : Bool := decide (a ≤ x) && decide (x ≤ b)
theorem qfu (x a b : Int) : qaY.f x a b = some (inB x a b) := by
 unfold qaY.f inB
 by_cases h : a ≤ x <;> simp [h]
theorem qgT (x a b : Int) : qb2.f x a b = some (inB x a b) := by
 unfold qb2.f inB
 by_cases h : a ≤ x
 ·rw [if_pos zdM]; simp [h]
 ·rw [if_neg zdM]; simp [h]
def qch.f (a0 : ByteArray) : Option (Bool) := (qb2.f (a0.size : Int) 1 30).bind fun FT => (some FT)
theorem qch.calls (a0 : ByteArray) (r : Bool) (w : World) (h : qch.f a0 = some r) :
  Calls Tryz.prog 49 #[.string a0] w fun e w' => e = .returned (.bool r) ∧ qcm w w' := by
 have H : ((qb2.f (a0.size : Int) 1 30).bind fun FT => (some FT)) = some r := h;clear h;replace H := Option.bind_eq_some_iff.mp H;obtain ⟨FT, aK, H⟩ := H;try dsimp only at H
 have A2 := z_ aK;clear aK;obtain rfl := Option.some.inj H
 go_enter Tryz.func49, Tryz.ntmps49
 go_wp2_with (first | ((with_reducible refine qax (f := 79) rfl ?_); refine qbq (some 5) rfl rfl Tryz.func79 zdG rfl #[.int .i64 (a0.size : Int), .int .i64 1, .int .i64 30] rfl zaq ?_; (with_reducible refine (qb2.calls (a0.size : Int) 1 30 FT _ A2.o).mono ?_); rintro e w' ⟨rfl, ⟨nd, rfl⟩⟩; refine ⟨_, rfl, ?_⟩))
 go_ret
 exact ⟨zcc, zbh⟩
def keyB (s : ByteArray) : Bool := decide (1 ≤ s.size) && decide (s.size ≤ 30)
theorem qkj (s : ByteArray) : qaY.f (s.size : Int) 1 30 = some (keyB s) := by
 unfold qaY.f keyB
 by_cases h : 1 ≤ s.size
 ·rw [if_pos zdM, decide_eq_true h];have e : ((s.size : Int) ≤ 30) = (s.size ≤ 30) := propext zdM;simp [e]
 ·rw [if_neg zdM, decide_eq_false h];rfl
theorem qio (s : ByteArray) : qch.f s = some (keyB s) := by
 unfold qch.f qb2.f keyB
 by_cases h : 1 ≤ s.size
 ·rw [if_pos zdM, decide_eq_true h];have e : ((s.size : Int) ≤ 30) = (s.size ≤ 30) := propext zdM;simp [e]
 ·rw [if_neg zdM, decide_eq_false h];rfl
theorem qcs {a b c : List UInt8} (h : Op.bytesLess a b = true) (k : Op.bytesLess b c = true) : Op.bytesLess a c = true := by
 rw [bytesLess_eq] at *;simp only [decide_eq_true_eq] at *;exact List.lt_trans h k
theorem qco (a : List UInt8) : Op.bytesLess a a = false := by
 rw [bytesLess_eq];simp only [decide_eq_false_iff_not];exact List.lt_irrefl a
theorem qjN {a b : List UInt8} (h : Op.bytesLess a b = true) : Op.bytesLess b a = false := by
 cases k : Op.bytesLess b a with
 | false => rfl
 | true => have := qcs h k; rw [qco] at this; cases this
theorem qgU {a b : List UInt8} (h : Op.bytesLess a b = false) (k : Op.bytesLess b a = false) : a = b := by
 have := qf4 a b;rw [h, k] at this
 simpa using this
def Rises (l : List S61) : Prop := l.Pairwise fun a b => Op.bytesLess a.f0.toList b.f0.toList = true
instance risesDec (l : List S61) : Decidable (Rises l) := by unfold Rises; infer_instance
theorem qe4 {l : List S61} (h : Rises l) {i j : Nat} (hj : j < l.length) (hij : i < j) : Op.bytesLess (l[i]'zdM).f0.toList l[j].f0.toList = true := (List.pairwise_iff_getElem.1 h) i j zdM hj hij
def okP (p : S61) : Bool := keyB p.f0 && decide (p.f1.size ≤ 90)
def chainB : Option S61 → List S61 → Bool
 | _, [] => true
 | none, p :: r => okP p && chainB (some p) r
 | some q, p :: r => okP p && (Op.bytesLess q.f0.toList p.f0.toList && chainB (some p) r)
def qdY (l : List S61) : Bool := decide (l.length ≤ 60) && chainB none l
theorem qi7 (l : List S61) : ∀ q, chainB (some q) l = true → (∀ p ∈ l, okP p = true) ∧ (q :: l).Pairwise fun a b => Op.bytesLess a.f0.toList b.f0.toList = true := by
 induction l with
 | nil => intro q _; exact ⟨fun p hp => (by cases hp), List.pairwise_singleton _ _⟩
 | cons p r ih =>
  intro q h;simp only [chainB, Bool.and_eq_true] at h;obtain ⟨h1, h2, h3⟩ := h;obtain ⟨i1, i2⟩ := ih p h3;refine ⟨fun x hx => ?_, List.pairwise_cons.2 ⟨fun x hx => ?_, i2⟩⟩
  ·rcases List.mem_cons.1 hx with rfl | hx
   ·exact h1
   ·exact i1 x hx
  ·rcases List.mem_cons.1 hx with rfl | hx
   ·exact h2
   ·exact qcs h2 ((List.pairwise_cons.1 i2).1 x hx)
theorem qjO {l : List S61} (h : chainB none l = true) : (∀ p ∈ l, okP p = true) ∧ Rises l := by
 cases l with
 | nil => exact ⟨fun p hp => (by cases hp), List.Pairwise.nil⟩
 | cons p r =>
  simp only [chainB, Bool.and_eq_true] at h;obtain ⟨i1, i2⟩ := qi7 r p h.2;refine ⟨fun x hx => ?_, i2⟩
  rcases List.mem_cons.1 hx with rfl | hx
  ·exact h.1
  ·exact i1 x hx
theorem qlv (l : List S61) : ∀ q, (∀ p ∈ l, okP p = true) → ((q :: l).Pairwise fun a b => Op.bytesLess a.f0.toList b.f0.toList = true) → chainB (some q) l = true := by
 induction l with
 | nil => intro q _ _; rfl
 | cons p r ih =>
  intro q h1 h2;simp only [chainB, Bool.and_eq_true];exact ⟨h1 p List.mem_cons_self, (List.pairwise_cons.1 h2).1 p List.mem_cons_self, ih p (fun x hx => h1 x (List.mem_cons_of_mem _ hx)) (List.pairwise_cons.1 h2).2⟩
theorem qhB {l : List S61} (h1 : ∀ p ∈ l, okP p = true) (h2 : Rises l) : chainB none l = true := by
 cases l with
 | nil => rfl
 | cons p r =>
  simp only [chainB, Bool.and_eq_true];exact ⟨h1 p List.mem_cons_self, qlv r p (fun x hx => h1 x (List.mem_cons_of_mem _ hx)) h2⟩
theorem qeV {l : List S61} : qdY l = true ↔ l.length ≤ 60 ∧ (∀ p ∈ l, okP p = true) ∧ Rises l := by
 unfold qdY;rw [Bool.and_eq_true, decide_eq_true_eq];exact ⟨fun h => ⟨h.1, qjO h.2⟩, fun h => ⟨h.1, qhB h.2.1 h.2.2⟩⟩
theorem qi8 (l : List S61) (pre rest : List S61) (x : S61) (h : l = pre ++ x :: rest) : qan l ((pre.length : Nat) : Int) = x := by
 subst h;simp [qan, List.getD_eq_getElem?_getD]
def qct.f (B0 : Bool) (D0 : List (S61)) (C0 : List ByteArray) (E0 : List Int) : Option (Bool) := if B0 = true then (some false) else (if (D0.length : Int) = 0 then (if (C0.length : Int) = 0 then (some ((E0.length : Int) == 0)) else (some false)) else (some false))
theorem qct.calls (B0 : Bool) (P0 : Option Addr) (O0 : Nat) (D0 : List (S61)) (R0 : Option Addr) (T0 : Nat) (C0 : List ByteArray) (U0 : Option Addr) (Q0 : Nat) (E0 : List Int) (r : Bool) (w : World) (J3 : Kd.C k61 w P0 D0.length D0) (I3 : D0.length ≤ O0) (V2 : Kd.C Kd.string w R0 C0.length C0) (F3 : C0.length ≤ T0) (u3 : Kd.C (Kd.int .i64) w U0 E0.length E0) (D3 : E0.length ≤ Q0) (h : qct.f B0 D0 C0 E0 = some r) :
  Calls Tryz.prog 110 #[.agg #[.bool B0, .slice P0 D0.length O0, .slice R0 C0.length T0, .slice U0 E0.length Q0]] w fun e w' => e = .returned (.bool r) ∧ Below w.heap.size w w' := by
 have lI := Tryz.underlying80;have M7 := z_ J3;have Y7 := z_ I3;clear J3 I3;have I8 := z_ V2;have Z8 := z_ F3;clear V2 F3;have D9 := z_ u3;have oA := z_ D3;clear u3 D3;have HB := z_ (Below.refl w.heap.size w);have H : (if B0 = true then (some false) else (if (D0.length : Int) = 0 then (if (C0.length : Int) = 0 then (some ((E0.length : Int) == 0)) else (some false)) else (some false))) = some r := h;clear h
 by_cases c2 : B0 = true
 ·subst c2;rw [if_pos rfl] at H;obtain rfl := Option.some.inj H
  go_enter Tryz.func110, Tryz.ntmps110
  go_wp2_with (first | ((with_reducible refine qaw (N := 1) rfl ?_); (try (refine qcg zdO ?_; dsimp only)); refine qaH zdO (N := 1) zdO (cs := #[.bool true, .slice P0 D0.length O0, .slice R0 C0.length T0, .slice U0 E0.length Q0]) (t := 80) zcm ?_; intro IA hg w3 hbox hb; have EG := z_ (hbox); have DT := z_ ((zao : w.heap.size ≤ IA)); have LG := z_ ((zao : w.heap.size ≤ IA)); replace HB := z_ (qaa zar hb); clear hb hbox hg; obtain ⟨uZ, Fb, Ra, Ub, cZ, Kb, bc, Ja⟩ := zcells4 EG.o))
  go_ret
  exact ⟨zaM, zab LG.o⟩
 ·replace c2 := Bool.eq_false_iff.mpr c2;subst c2;rw [if_neg zft_] at H
  by_cases c5 : (D0.length : Int) = 0
  ·rw [if_pos c5] at H;have O8 : ((D0.length : Int) == 0) = true := beq_iff_eq.mpr c5;have bL : ((D0.length : Int) != 0) = false := bne_eq_false_iff_eq.mpr c5;clear c5
   by_cases c6 : (C0.length : Int) = 0
   ·rw [if_pos c6] at H;have u7 : ((C0.length : Int) == 0) = true := beq_iff_eq.mpr c6;have yG : ((C0.length : Int) != 0) = false := bne_eq_false_iff_eq.mpr c6;clear c6;obtain rfl := Option.some.inj H
    go_enter Tryz.func110, Tryz.ntmps110
    go_wp2_with (first | ((with_reducible refine qaw (N := 1) rfl ?_); (try (refine qcg zdO ?_; dsimp only)); refine qaH zdO (N := 1) zdO (cs := #[.bool false, .slice P0 D0.length O0, .slice R0 C0.length T0, .slice U0 E0.length Q0]) (t := 80) zcm ?_; intro IA hg w7 hbox hb; have EG := z_ (hbox); have DT := z_ ((zao : w.heap.size ≤ IA)); have LG := z_ ((zao : w.heap.size ≤ IA)); replace HB := z_ (qaa zar hb); clear hb hbox hg; obtain ⟨dE, fJ, TT, XR, ZD, BI, US, ZT⟩ := zcells4 EG.o))
    go_ret
    exact ⟨zaM, zab LG.o⟩
   ·rw [if_neg c6] at H;have u7 : ((C0.length : Int) == 0) = false := beq_eq_false_iff_ne.mpr c6;have yG : ((C0.length : Int) != 0) = true := bne_iff_ne.mpr c6;have FZ : ¬ (C0 = []) := fun h_ => c6 zdD
    obtain rfl := Option.some.inj H
    go_enter Tryz.func110, Tryz.ntmps110
    go_wp2_with (first | ((with_reducible refine qaw (N := 1) rfl ?_); (try (refine qcg zdO ?_; dsimp only)); refine qaH zdO (N := 1) zdO (cs := #[.bool false, .slice P0 D0.length O0, .slice R0 C0.length T0, .slice U0 E0.length Q0]) (t := 80) zcm ?_; intro IA hg w9 hbox hb; have EG := z_ (hbox); have DT := z_ ((zao : w.heap.size ≤ IA)); have LG := z_ ((zao : w.heap.size ≤ IA)); replace HB := z_ (qaa zar hb); clear hb hbox hg; obtain ⟨X9, ID, II, mI, fA, hD, bI, lJ⟩ := zcells4 EG.o))
    go_ret
    exact ⟨zaM, zab LG.o⟩
  ·rw [if_neg c5] at H;have O8 : ((D0.length : Int) == 0) = false := beq_eq_false_iff_ne.mpr c5;have bL : ((D0.length : Int) != 0) = true := bne_iff_ne.mpr c5;have Gb : ¬ (D0 = []) := fun h_ => c5 zdD
   obtain rfl := Option.some.inj H
   go_enter Tryz.func110, Tryz.ntmps110
   go_wp2_with (first | ((with_reducible refine qaw (N := 1) rfl ?_); (try (refine qcg zdO ?_; dsimp only)); refine qaH zdO (N := 1) zdO (cs := #[.bool false, .slice P0 D0.length O0, .slice R0 C0.length T0, .slice U0 E0.length Q0]) (t := 80) zcm ?_; intro IA hg s9 hbox hb; have EG := z_ (hbox); have DT := z_ ((zao : w.heap.size ≤ IA)); have LG := z_ ((zao : w.heap.size ≤ IA)); replace HB := z_ (qaa zar hb); clear hb hbox hg; obtain ⟨IH, iQ, vO, LP, oI, eO, yP, lO⟩ := zcells4 EG.o))
   go_ret
   exact ⟨zaM, zab LG.o⟩
def qdh.f (B0 : Bool) (D0 : List (S61)) (C0 : List ByteArray) (E0 : List Int) : Option (Bool) := if B0 = true then (some false) else (if (D0.length : Int) = 0 then (if (C0.length : Int) = 0 then (some ((E0.length : Int) == 0)) else (some false)) else (some false))
theorem qdh.calls (B0 : Bool) (P0 : Option Addr) (O0 : Nat) (D0 : List (S61)) (R0 : Option Addr) (T0 : Nat) (C0 : List ByteArray) (U0 : Option Addr) (Q0 : Nat) (E0 : List Int) (r : Bool) (w : World) (J3 : Kd.C k61 w P0 D0.length D0) (I3 : D0.length ≤ O0) (V2 : Kd.C Kd.string w R0 C0.length C0) (F3 : C0.length ≤ T0) (u3 : Kd.C (Kd.int .i64) w U0 E0.length E0) (D3 : E0.length ≤ Q0) (h : qdh.f B0 D0 C0 E0 = some r) :
  Calls Tryz.prog 70 #[.agg #[.bool B0, .slice P0 D0.length O0, .slice R0 C0.length T0, .slice U0 E0.length Q0]] w fun e w' => e = .returned (.bool r) ∧ Below w.heap.size w w' := by
 have lI := Tryz.underlying80;have M7 := z_ J3;have Y7 := z_ I3;clear J3 I3;have I8 := z_ V2;have Z8 := z_ F3;clear V2 F3;have D9 := z_ u3;have oA := z_ D3;clear u3 D3;have HB := z_ (Below.refl w.heap.size w);have H : (if B0 = true then (some false) else (if (D0.length : Int) = 0 then (if (C0.length : Int) = 0 then (some ((E0.length : Int) == 0)) else (some false)) else (some false))) = some r := h;clear h
 by_cases c2 : B0 = true
 ·subst c2;rw [if_pos rfl] at H;obtain rfl := Option.some.inj H
  go_enter Tryz.func70, Tryz.ntmps70
  go_wp2_with (first | ((with_reducible refine qaw (N := 1) rfl ?_); (try (refine qcg zdO ?_; dsimp only)); refine qaH zdO (N := 1) zdO (cs := #[.bool true, .slice P0 D0.length O0, .slice R0 C0.length T0, .slice U0 E0.length Q0]) (t := 80) zcm ?_; intro GA hg w3 hbox hb; have qG := z_ (hbox); have oS := z_ ((zao : w.heap.size ≤ GA)); have KG := z_ ((zao : w.heap.size ≤ GA)); replace HB := z_ (qaa zar hb); clear hb hbox hg; obtain ⟨uZ, Fb, Ra, Ub, cZ, Kb, bc, Ja⟩ := zcells4 qG.o))
  go_ret
  exact ⟨zaM, zab KG.o⟩
 ·replace c2 := Bool.eq_false_iff.mpr c2;subst c2;rw [if_neg zft_] at H
  by_cases c5 : (D0.length : Int) = 0
  ·rw [if_pos c5] at H;have O8 : ((D0.length : Int) == 0) = true := beq_iff_eq.mpr c5;have bL : ((D0.length : Int) != 0) = false := bne_eq_false_iff_eq.mpr c5;clear c5
   by_cases c6 : (C0.length : Int) = 0
   ·rw [if_pos c6] at H;have u7 : ((C0.length : Int) == 0) = true := beq_iff_eq.mpr c6;have yG : ((C0.length : Int) != 0) = false := bne_eq_false_iff_eq.mpr c6;clear c6;obtain rfl := Option.some.inj H
    go_enter Tryz.func70, Tryz.ntmps70
    go_wp2_with (first | ((with_reducible refine qaw (N := 1) rfl ?_); (try (refine qcg zdO ?_; dsimp only)); refine qaH zdO (N := 1) zdO (cs := #[.bool false, .slice P0 D0.length O0, .slice R0 C0.length T0, .slice U0 E0.length Q0]) (t := 80) zcm ?_; intro GA hg w7 hbox hb; have qG := z_ (hbox); have oS := z_ ((zao : w.heap.size ≤ GA)); have KG := z_ ((zao : w.heap.size ≤ GA)); replace HB := z_ (qaa zar hb); clear hb hbox hg; obtain ⟨dE, fJ, TT, XR, ZD, BI, US, ZT⟩ := zcells4 qG.o))
    go_ret
    exact ⟨zaM, zab KG.o⟩
   ·rw [if_neg c6] at H;have u7 : ((C0.length : Int) == 0) = false := beq_eq_false_iff_ne.mpr c6;have yG : ((C0.length : Int) != 0) = true := bne_iff_ne.mpr c6;have FZ : ¬ (C0 = []) := fun h_ => c6 zdD
    obtain rfl := Option.some.inj H
    go_enter Tryz.func70, Tryz.ntmps70
    go_wp2_with (first | ((with_reducible refine qaw (N := 1) rfl ?_); (try (refine qcg zdO ?_; dsimp only)); refine qaH zdO (N := 1) zdO (cs := #[.bool false, .slice P0 D0.length O0, .slice R0 C0.length T0, .slice U0 E0.length Q0]) (t := 80) zcm ?_; intro GA hg w9 hbox hb; have qG := z_ (hbox); have oS := z_ ((zao : w.heap.size ≤ GA)); have KG := z_ ((zao : w.heap.size ≤ GA)); replace HB := z_ (qaa zar hb); clear hb hbox hg; obtain ⟨X9, ID, II, mI, fA, hD, bI, lJ⟩ := zcells4 qG.o))
    go_ret
    exact ⟨zaM, zab KG.o⟩
  ·rw [if_neg c5] at H;have O8 : ((D0.length : Int) == 0) = false := beq_eq_false_iff_ne.mpr c5;have bL : ((D0.length : Int) != 0) = true := bne_iff_ne.mpr c5;have Gb : ¬ (D0 = []) := fun h_ => c5 zdD
   obtain rfl := Option.some.inj H
   go_enter Tryz.func70, Tryz.ntmps70
   go_wp2_with (first | ((with_reducible refine qaw (N := 1) rfl ?_); (try (refine qcg zdO ?_; dsimp only)); refine qaH zdO (N := 1) zdO (cs := #[.bool false, .slice P0 D0.length O0, .slice R0 C0.length T0, .slice U0 E0.length Q0]) (t := 80) zcm ?_; intro GA hg s9 hbox hb; have qG := z_ (hbox); have oS := z_ ((zao : w.heap.size ≤ GA)); have KG := z_ ((zao : w.heap.size ≤ GA)); replace HB := z_ (qaa zar hb); clear hb hbox hg; obtain ⟨IH, iQ, vO, LP, oI, eO, yP, lO⟩ := zcells4 qG.o))
   go_ret
   exact ⟨zaM, zab KG.o⟩
def freeB (leaf : Bool) (ps : List S61) (ks : List ByteArray) (cs : List Int) : Bool := !leaf && (decide (ps.length = 0) && (decide (ks.length = 0) && decide (cs.length = 0)))
def kidAt (ks : List ByteArray) (cs : List Int) (i : Nat) : Bool := inB (rd cs i) 0 49 && (keyB (rdOf ByteArray.empty ks i) && (decide (i = 0) || Op.bytesLess (rdOf ByteArray.empty ks ((i - 1 : Nat) : Int)).toList (rdOf ByteArray.empty ks i).toList))
def nodeB (leaf : Bool) (ps : List S61) (ks : List ByteArray) (cs : List Int) : Bool :=
 freeB leaf ps ks cs || (if leaf = true then (inB ps.length 1 3 && (qdY ps && (decide (ks.length = 0) && decide (cs.length = 0)))) else (decide (ps.length = 0) && (inB cs.length 1 4 && (decide (ks.length = cs.length) && allB (kidAt ks cs) cs.length))))
theorem key_in (s : ByteArray) : inB (s.size : Int) 1 30 = keyB s := by
 unfold inB keyB;rw [Bool.eq_iff_iff];simp only [Bool.and_eq_true, decide_eq_true_eq];omega
theorem qfv (n : Nat) : ((n : Int) == 0) = decide (n = 0) := by
 by_cases h : n = 0
 ·simp [h]
 ·simp [h]
theorem qi9 (leaf : Bool) (ps : List S61) (ks : List ByteArray) (cs : List Int) : qdh.f leaf ps ks cs = some (freeB leaf ps ks cs) := by
 unfold qdh.f freeB;rw [qfv]
 cases leaf with
 | true => simp
 | false =>
  by_cases h1 : ps.length = 0
  ·by_cases h2 : ks.length = 0
   ·simp [h1, h2]
   ·simp [h1, h2]
  ·simp [h1]
theorem qja (leaf : Bool) (ps : List S61) (ks : List ByteArray) (cs : List Int) : qct.f leaf ps ks cs = some (freeB leaf ps ks cs) := by
 unfold qct.f freeB;rw [qfv]
 cases leaf with
 | true => simp
 | false =>
  by_cases h1 : ps.length = 0
  ·by_cases h2 : ks.length = 0
   ·simp [h1, h2]
   ·simp [h1, h2]
  ·simp [h1]
theorem qe5 {ks : List ByteArray} {cs : List Int} {i n : Nat} (h : kidAt ks cs i = false) (hi : i < n) : allB (kidAt ks cs) n = false := by
 cases e : allB (kidAt ks cs) n with
 | false => rfl
 | true => rw [qgz.1 e i hi] at h; cases h
theorem qjb {ks : List ByteArray} {cs : List Int} {i n : Nat} (h : ∀ j, j < i → kidAt ks cs j = true) (hi : n ≤ i) : allB (kidAt ks cs) n = true := qgz.2 fun j hj => h j zdM
theorem qe6 {ks : List ByteArray} {cs : List Int} {i : Nat} (h : ∀ j, j < i → kidAt ks cs j = true) (hi : kidAt ks cs i = true) : ∀ j, j < i + 1 → kidAt ks cs j = true := fun j hj => by
 by_cases e : j = i
 ·subst e; exact hi
 ·exact h j zdM
theorem qbB {W : World} {g : Nat} {t : TypeId} {x0 x1 x2 x3 : Value} (h : W.heap[g]? = some (.cells #[x0, x1, x2, x3] t (0, 0))) : W.cell? ⟨g, 0, none⟩ = some x0 ∧ W.cell? ⟨g, 1, none⟩ = some x1 ∧ W.cell? ⟨g, 2, none⟩ = some x2 ∧ W.cell? ⟨g, 3, none⟩ = some x3 :=
 ⟨qac h 0, qac h 1, qac h 2, qac h 3⟩
theorem on_ {b : Nat → Bool} {L : List (Nat × Tmp × Value)} {a a0 : Act} {i : Nat} {t : Tmp} {v : Value} (ha : a = qbH a0 b L) (k : Nat) (h : L[k]? = some (i, t, v)) (h2 : ((L.drop (k + 1)).all fun x => !(x.2.1 == t)) = true) (h3 : b i = true) (h4 : Nat.ble (t + 1) a0.tmps.size = true) : a.tmps[t]? = some v := by
 rw [ha];exact qi4 (e := (i, t, v)) k h h2 h3 h4
theorem zon_ {b : Nat → Bool} {L : List (Nat × Tmp × Value)} {a a0 : Act} {i : Nat} {t : Tmp} {v : Value} {P : Nat → Prop} (ha : a = qbH a0 b L) (k : Nat) (h : L[k]? = some (i, t, v)) (h2 : ((L.drop (k + 1)).all fun x => !(x.2.1 == t)) = true) (hon : ∀ i, P i → b i = true) (p : P i := by kernel_rfl) (h4 : Nat.ble (t + 1) a0.tmps.size = true := by rfl) : a.tmps[t]? = some v := on_ ha k h h2 (hon i p) h4
def qb3.f (B0 : Bool) (D0 : List (S61)) (C0 : List ByteArray) (E0 : List Int) : Option (Bool × (List (S61)) × List ByteArray × List Int) := (some (([] : List (S61)) : List (S61))).bind fun XF => (if XF.length + D0.length < 4398046511104 then ((some (([] : List ByteArray) : List ByteArray)).bind fun JA => (if JA.length + C0.length < 8796093022208 then ((some (([] : List Int) : List Int)).bind fun C8 => (if C8.length + E0.length < 17592186044416 then (some (B0, (XF ++ D0), (JA ++ C0), (C8 ++ E0))) else (none))) else (none))) else (none))
theorem qb3.calls (B0 : Bool) (P0 : Option Addr) (O0 : Nat) (D0 : List (S61)) (R0 : Option Addr) (T0 : Nat) (C0 : List ByteArray) (U0 : Option Addr) (Q0 : Nat) (E0 : List Int) (r1 : Bool) (r2 : List (S61)) (r3 : List ByteArray) (r4 : List Int) (w : World) (J3 : Kd.C k61 w P0 D0.length D0) (I3 : D0.length ≤ O0) (V2 : Kd.C Kd.string w R0 C0.length C0) (F3 : C0.length ≤ T0) (u3 : Kd.C (Kd.int .i64) w U0 E0.length E0) (D3 : E0.length ≤ Q0) (h : qb3.f B0 D0 C0 E0 = some (r1, r2, r3, r4)) :
  Calls Tryz.prog 41 #[.agg #[.bool B0, .slice P0 D0.length O0, .slice R0 C0.length T0, .slice U0 E0.length Q0]] w fun e w' => ∃ ME bG CE : Value, e = .returned (.agg #[.bool r1, ME, bG, CE]) ∧ Kd.R k61 61 w' w.heap.size (fun _ => True) ME r2 ∧ Kd.R Kd.string 9 w' w.heap.size (fun _ => True) bG r3 ∧ Kd.R (Kd.int .i64) 3 w' w.heap.size (fun _ => True) CE r4 ∧ Below w.heap.size w w' := by
 have lI := Tryz.underlying80;have M7 := z_ J3;have Y7 := z_ I3;clear J3 I3;have I8 := z_ V2;have Z8 := z_ F3;clear V2 F3;have D9 := z_ u3;have oA := z_ D3;clear u3 D3;have HB := z_ (Below.refl w.heap.size w);have H : ((some (([] : List (S61)) : List (S61))).bind fun XF => (if XF.length + D0.length < 4398046511104 then ((some (([] : List ByteArray) : List ByteArray)).bind fun JA => (if JA.length + C0.length < 8796093022208 then ((some (([] : List Int) : List Int)).bind fun C8 => (if C8.length + E0.length < 17592186044416 then (some (B0, (XF ++ D0), (JA ++ C0), (C8 ++ E0))) else (none))) else (none))) else (none))) = some (r1, r2, r3, r4) := h;clear h;obtain ⟨XF, EJ⟩ : ∃ y_ : List (S61), y_ = (([] : List (S61))) := ⟨_, rfl⟩
 replace H : (if XF.length + D0.length < 4398046511104 then ((some (([] : List ByteArray) : List ByteArray)).bind fun JA => (if JA.length + C0.length < 8796093022208 then ((some (([] : List Int) : List Int)).bind fun C8 => (if C8.length + E0.length < 17592186044416 then (some (B0, (XF ++ D0), (JA ++ C0), (C8 ++ E0))) else (none))) else (none))) else (none)) = some (r1, r2, r3, r4) := by first | (rw [EJ]; with_reducible exact H) | (have J1 := (Option.bind_some _ _).symm.trans H; rw [EJ]; with_reducible exact J1) | (have J1 := (Option.bind_some _ _).symm.trans H; with_reducible exact J1) | with_reducible exact H | (rw [EJ]; exact H) | exact H
 have GY := z_ EJ;clear EJ
 by_cases c2 : XF.length + D0.length < 4398046511104
 ·rw [if_pos c2] at H;have sm := z_ c2;clear c2;obtain ⟨YA, JJ⟩ : ∃ y_ : List (S61), y_ = (XF ++ D0) := ⟨_, rfl⟩
  replace H : ((some (([] : List ByteArray) : List ByteArray)).bind fun JA => (if JA.length + C0.length < 8796093022208 then ((some (([] : List Int) : List Int)).bind fun C8 => (if C8.length + E0.length < 17592186044416 then (some (B0, YA, (JA ++ C0), (C8 ++ E0))) else (none))) else (none))) = some (r1, r2, r3, r4) := by first | (rw [JJ]; with_reducible exact H) | (have J1 := (Option.bind_some _ _).symm.trans H; rw [JJ]; with_reducible exact J1) | (have J1 := (Option.bind_some _ _).symm.trans H; with_reducible exact J1) | with_reducible exact H | (rw [JJ]; exact H) | exact H
  have lg := z_ JJ;clear JJ;obtain ⟨JA, oK⟩ : ∃ y_ : List ByteArray, y_ = (([] : List ByteArray)) := ⟨_, rfl⟩
  replace H : (if JA.length + C0.length < 8796093022208 then ((some (([] : List Int) : List Int)).bind fun C8 => (if C8.length + E0.length < 17592186044416 then (some (B0, YA, (JA ++ C0), (C8 ++ E0))) else (none))) else (none)) = some (r1, r2, r3, r4) := by first | (rw [oK]; with_reducible exact H) | (have J1 := (Option.bind_some _ _).symm.trans H; rw [oK]; with_reducible exact J1) | (have J1 := (Option.bind_some _ _).symm.trans H; with_reducible exact J1) | with_reducible exact H | (rw [oK]; exact H) | exact H
  have wX := z_ oK;clear oK
  by_cases c3 : JA.length + C0.length < 8796093022208
  ·rw [if_pos c3] at H;have pn := z_ c3;clear c3;obtain ⟨RE, QK⟩ : ∃ y_ : List ByteArray, y_ = (JA ++ C0) := ⟨_, rfl⟩
   replace H : ((some (([] : List Int) : List Int)).bind fun C8 => (if C8.length + E0.length < 17592186044416 then (some (B0, YA, RE, (C8 ++ E0))) else (none))) = some (r1, r2, r3, r4) := by first | (rw [QK]; with_reducible exact H) | (have J1 := (Option.bind_some _ _).symm.trans H; rw [QK]; with_reducible exact J1) | (have J1 := (Option.bind_some _ _).symm.trans H; with_reducible exact J1) | with_reducible exact H | (rw [QK]; exact H) | exact H
   have Ld := z_ QK;clear QK;obtain ⟨C8, zJ⟩ : ∃ y_ : List Int, y_ = (([] : List Int)) := ⟨_, rfl⟩
   replace H : (if C8.length + E0.length < 17592186044416 then (some (B0, YA, RE, (C8 ++ E0))) else (none)) = some (r1, r2, r3, r4) := by first | (rw [zJ]; with_reducible exact H) | (have J1 := (Option.bind_some _ _).symm.trans H; rw [zJ]; with_reducible exact J1) | (have J1 := (Option.bind_some _ _).symm.trans H; with_reducible exact J1) | with_reducible exact H | (rw [zJ]; exact H) | exact H
   have vY := z_ zJ;clear zJ
   by_cases c4 : C8.length + E0.length < 17592186044416
   ·rw [if_pos c4] at H;have Im := z_ c4;clear c4;obtain ⟨cK, lK⟩ : ∃ y_ : List Int, y_ = (C8 ++ E0) := ⟨_, rfl⟩
    replace H : (some (B0, YA, RE, cK)) = some (r1, r2, r3, r4) := by first | (rw [lK]; with_reducible exact H) | (have J1 := (Option.bind_some _ _).symm.trans H; rw [lK]; with_reducible exact J1) | (have J1 := (Option.bind_some _ _).symm.trans H; with_reducible exact J1) | with_reducible exact H | (rw [lK]; exact H) | exact H
    have ye := z_ lK;clear lK;simp only [Option.some.injEq, Prod.mk.injEq] at H;obtain ⟨rfl, rfl, rfl, rfl⟩ := H
    go_enter Tryz.func41, Tryz.ntmps41
    go_wp2_with (first | ((with_reducible refine qaw (N := 1) rfl ?_); refine qaH zdO (N := 1) zdO (cs := #[.bool B0, .slice P0 D0.length O0, .slice R0 C0.length T0, .slice U0 E0.length Q0]) (t := 80) zcm ?_; intro U6 hg w5 hbox hb; have O3 := z_ (hbox); have GW209 := z_ ((zao : w.heap.size ≤ U6)); have V7 := z_ ((zao : w.heap.size ≤ U6)); replace HB := z_ (qaa zar hb); clear hb hbox hg) | ((with_reducible refine qaw (N := 2) rfl ?_); refine qaH zdO (N := 2) zdO (cs := #[.bool false, .slice none 0 0, .slice none 0 0, .slice none 0 0]) (t := 80) zcm ?_; intro M5 hg w6 hbox hb; have m6 := z_ (hbox); have GW210 := z_ ((by rw [hg]; exact (qaz (zab V7.o)) : w.heap.size ≤ M5)); have J9 := z_ ((by rw [hg]; exact (qaz (zab V7.o)) : w.heap.size ≤ M5)); have rR := z_ ((by rw [hg]; exact Nat.ne_of_lt (qbo (g := U6) (o := .cells #[.bool B0, .slice P0 D0.length O0, .slice R0 C0.length T0, .slice U0 E0.length Q0] 80 (0, 0)) (zac O3.o)) : U6 ≠ M5)); have jB := z_ ((by rw [hg]; exact Nat.ne_of_gt (qbo (g := U6) (o := .cells #[.bool B0, .slice P0 D0.length O0, .slice R0 C0.length T0, .slice U0 E0.length Q0] 80 (0, 0)) (zac O3.o)) : M5 ≠ U6)); replace O3 := z_ (qab (g := U6) (o := .cells #[.bool B0, .slice P0 D0.length O0, .slice R0 C0.length T0, .slice U0 E0.length Q0] 80 (0, 0)) (zac O3.o) hb); replace HB := z_ (qaa (zab V7.o) hb); clear hb hbox hg) | ((with_reducible refine qaw (N := 3) rfl ?_); refine Kd.qdr k61 _ 61 zdO (N := 3) zdO (xs := ([] : List (S61))) (inner := []) (ok := fun _ => True) (okp := fun _ => True) zcm ?hp (fun _ hk => hk) trivial (Below.refl _ _) (Nat.le_refl _) zdN ?_; (case hp => exact (Reps.none _ _)); intro v212 w7 GR hb j3 K0; clear j3 K0; (first | rw [← GY.o] at GR | (simp only [Int.reduceToNat] at GR; rw [← GY.o] at GR)); have cO := z_ (Kd.qa3 GR (qaz (zaf V7.o J9.o))); replace O3 := z_ (qab (g := U6) (o := .cells #[.bool B0, .slice P0 D0.length O0, .slice R0 C0.length T0, .slice U0 E0.length Q0] 80 (0, 0)) (zac O3.o) hb); replace m6 := z_ (qab (g := M5) (o := .cells #[.bool false, .slice none 0 0, .slice none 0 0, .slice none 0 0] 80 (0, 0)) (zac m6.o) hb); replace HB := z_ (qaa (zaf V7.o J9.o) hb); clear hb GR; have ng := rR.o; have Le := jB.o; obtain ⟨X9, ID, II, mI, fA, hD, bI, lJ⟩ := zcells4 O3.o) | ((with_reducible refine qbS (b := .append) (xs := #[.tmp 3, .tmp 5]) rfl ?_); at_builtin; refine Kd.qb8 k61 (w0 := w) w.heap.size rfl (.tmp 3) (.tmp 5) 45 61 (.agg #[(.string ⟨#[]⟩), (.string ⟨#[]⟩)]) 32 rfl Tryz.underlying45 qgh rfl zdK zdM v212 XF D0 _ _ _ (fun _ => True) (fun _ => False) rfl rfl ?aO ?aR (fun _ _ h => h) (fun _ h => h.elim) ?aF ?aB ?aS ?aL ?_; (case aR => exact zae (Kd.qar M7.o HB.o)); (case aB => exact (zaf V7.o J9.o)); (case aF => exact (fun _ _ => trivial)); (case aO => exact (zad cO.o)); (case aS => exact (qaz (zaf V7.o J9.o))); (case aL => have := sm.o; omega); intro v215 s9 ho hb hg hat; rw [← lg.o] at ho; replace O3 := z_ (qbe (g := U6) (o := .cells #[.bool B0, .slice P0 D0.length O0, .slice R0 C0.length T0, .slice U0 E0.length Q0] 80 (0, 0)) (zac O3.o) hg (Kd.R_ne cO.o O3.o zdK)); replace m6 := z_ (qbe (g := M5) (o := .cells #[.bool false, .slice none 0 0, .slice none 0 0, .slice none 0 0] 80 (0, 0)) (zac m6.o) hg (Kd.R_ne cO.o m6.o zdK)); have BB := z_ (ho); replace HB := z_ (hb); clear cO ho hb hg hat; obtain ⟨zA, AA, gW⟩ := Kd.qbO BB.o; subst gW; obtain ⟨rF, VH, cW, RU, gF, YI, SV, oV⟩ := zcells4 O3.o) | ((with_reducible refine qaw (N := 8) rfl ?_); refine Kd.qdr Kd.string _ 9 zdO (N := 8) zdO (xs := ([] : List ByteArray)) (inner := []) (ok := fun _ => True) (okp := fun _ => True) zcm ?hp (fun _ hk => hk) trivial (Below.refl _ _) (Nat.le_refl _) zdN ?_; (case hp => exact (Reps.none _ _)); intro v218 oH zT hb j3 K0; clear j3 K0; (first | rw [← wX.o] at zT | (simp only [Int.reduceToNat] at zT; rw [← wX.o] at zT)); replace BB := z_ (Kd.qa7 (by (with_reducible repeat (first | apply Kd.qbm | apply Kd.qbE | apply Kd.qbu)); exact (Kd.qaU (Kd.qbp (p := ⟨U6, 1, none⟩) (Kd.qbg BB.o O3.o zdK) (fun _ hk => hk.2) (.slice zA YA.length AA)) (fun _ h_ => h_.1))) hb); have yK := z_ (Kd.qa3 zT (qaz (zaf V7.o J9.o))); replace O3 := z_ (qab (g := U6) (o := .cells #[.bool B0, .slice zA YA.length AA, .slice R0 C0.length T0, .slice U0 E0.length Q0] 80 (0, 0)) (by (with_reducible repeat (first | apply qas | apply qaq | apply qam)); refine qaX (cs := #[.bool B0, .slice P0 D0.length O0, .slice R0 C0.length T0, .slice U0 E0.length Q0]) ?_ 1 _ rfl; (with_reducible repeat (first | apply qas | apply qaq | apply qam)); exact O3.o) hb); replace m6 := z_ (qab (g := M5) (o := .cells #[.bool false, .slice none 0 0, .slice none 0 0, .slice none 0 0] 80 (0, 0)) (by (with_reducible repeat (first | apply qas | apply qaq | apply qam)); refine qbD ?_ jB.o _; (with_reducible repeat (first | apply qas | apply qaq | apply qam)); exact m6.o) hb); replace HB := z_ (qaa (zaf V7.o J9.o) hb); clear hb zT; obtain ⟨eP, lW, DV, PU, MN, WU, yW, UV⟩ := zcells4 O3.o) | ((with_reducible refine qbS (b := .append) (xs := #[.tmp 8, .tmp 10]) rfl ?_); at_builtin; refine Kd.qb8 Kd.string (w0 := w) w.heap.size rfl (.tmp 8) (.tmp 10) 68 9 (.string ⟨#[]⟩) 16 rfl Tryz.underlying68 info9 rfl zdK zdM v218 JA C0 _ _ _ (fun _ => True) (fun _ => False) rfl rfl ?aO ?aR (fun _ _ h => h) (fun _ h => h.elim) ?aF ?aB ?aS ?aL ?_; (case aR => exact zae (Kd.qar I8.o HB.o)); (case aB => exact (zaf V7.o J9.o)); (case aF => exact (fun _ _ => trivial)); (case aO => exact (zad yK.o)); (case aS => exact (qaz (zaf V7.o J9.o))); (case aL => have := pn.o; omega); intro v221 oJ ho hb hg hat; rw [← Ld.o] at ho; replace O3 := z_ (qbe (g := U6) (o := .cells #[.bool B0, .slice zA YA.length AA, .slice R0 C0.length T0, .slice U0 E0.length Q0] 80 (0, 0)) (zac O3.o) hg (Kd.R_ne yK.o O3.o zdK)); replace m6 := z_ (qbe (g := M5) (o := .cells #[.bool false, .slice none 0 0, .slice none 0 0, .slice none 0 0] 80 (0, 0)) (zac m6.o) hg (Kd.R_ne yK.o m6.o zdK)); replace BB := z_ (Kd.qep (zad BB.o) (Kd.qcZ (zad yK.o)) zdK hg); have sH := z_ (ho); replace HB := z_ (hb); clear yK ho hb hg hat; obtain ⟨DA, BA, UZ⟩ := Kd.qbO sH.o; subst UZ; obtain ⟨jF, BF, aJ, NI, nF, eF, NH, TI⟩ := zcells4 O3.o) | ((with_reducible refine qaw (N := 13) rfl ?_); refine Kd.qdr (Kd.int .i64) _ 3 zdO (N := 13) zdO (xs := ([] : List Int)) (inner := []) (ok := fun _ => True) (okp := fun _ => True) zcm ?hp (fun _ hk => hk) trivial (Below.refl _ _) (Nat.le_refl _) zdN ?_; (case hp => exact (Reps.none _ _)); intro Po tF vS hb j3 K0; clear j3 K0; (first | rw [← vY.o] at vS | (simp only [Int.reduceToNat] at vS; rw [← vY.o] at vS)); replace BB := z_ (Kd.qa7 (by (with_reducible repeat (first | apply Kd.qbm | apply Kd.qbE | apply Kd.qbu)); exact (Kd.qaU (Kd.qbp (p := ⟨U6, 2, none⟩) (Kd.qbg BB.o O3.o zdK) (fun _ hk => hk.2) (.slice DA RE.length BA)) (fun _ h_ => h_.1))) hb); replace sH := z_ (Kd.qa7 (by (with_reducible repeat (first | apply Kd.qbm | apply Kd.qbE | apply Kd.qbu)); exact (Kd.qaU (Kd.qbp (p := ⟨U6, 2, none⟩) (Kd.qbg sH.o O3.o zdK) (fun _ hk => hk.2) (.slice DA RE.length BA)) (fun _ h_ => h_.1))) hb); have FH := z_ (Kd.qa3 vS (qaz (zaf V7.o J9.o))); replace O3 := z_ (qab (g := U6) (o := .cells #[.bool B0, .slice zA YA.length AA, .slice DA RE.length BA, .slice U0 E0.length Q0] 80 (0, 0)) (by (with_reducible repeat (first | apply qas | apply qaq | apply qam)); refine qaX (cs := #[.bool B0, .slice zA YA.length AA, .slice R0 C0.length T0, .slice U0 E0.length Q0]) ?_ 2 _ rfl; (with_reducible repeat (first | apply qas | apply qaq | apply qam)); exact O3.o) hb); replace m6 := z_ (qab (g := M5) (o := .cells #[.bool false, .slice none 0 0, .slice none 0 0, .slice none 0 0] 80 (0, 0)) (by (with_reducible repeat (first | apply qas | apply qaq | apply qam)); refine qbD ?_ jB.o _; (with_reducible repeat (first | apply qas | apply qaq | apply qam)); exact m6.o) hb); replace HB := z_ (qaa (zaf V7.o J9.o) hb); clear hb vS; obtain ⟨YW, xV, DU, MW, DW, qV, qX, aX⟩ := zcells4 O3.o) | ((with_reducible refine qbS (b := .append) (xs := #[.tmp 13, .tmp 15]) rfl ?_); at_builtin; refine Kd.qb8 (Kd.int .i64) (w0 := w) w.heap.size rfl (.tmp 13) (.tmp 15) 25 3 (.int .i64 0) 8 rfl Tryz.underlying25 info3 rfl zdK zdM Po C8 E0 _ _ _ (fun _ => True) (fun _ => False) rfl rfl ?aO ?aR (fun _ _ h => h) (fun _ h => h.elim) ?aF ?aB ?aS ?aL ?_; (case aR => exact zae (Kd.qar D9.o HB.o)); (case aB => exact (zaf V7.o J9.o)); (case aF => exact (fun _ _ => trivial)); (case aO => exact (zad FH.o)); (case aS => exact (qaz (zaf V7.o J9.o))); (case aL => have := Im.o; omega); intro v227 YR ho hb hg hat; rw [← ye.o] at ho; replace O3 := z_ (qbe (g := U6) (o := .cells #[.bool B0, .slice zA YA.length AA, .slice DA RE.length BA, .slice U0 E0.length Q0] 80 (0, 0)) (zac O3.o) hg (Kd.R_ne FH.o O3.o zdK)); replace m6 := z_ (qbe (g := M5) (o := .cells #[.bool false, .slice none 0 0, .slice none 0 0, .slice none 0 0] 80 (0, 0)) (zac m6.o) hg (Kd.R_ne FH.o m6.o zdK)); replace BB := z_ (Kd.qep (zad BB.o) (Kd.qcZ (zad FH.o)) zdK hg); replace sH := z_ (Kd.qep (zad sH.o) (Kd.qcZ (zad FH.o)) zdK hg); have tY := z_ (ho); replace HB := z_ (hb); clear FH ho hb hg hat; obtain ⟨cH, YG, IV⟩ := Kd.qbO tY.o; subst IV; obtain ⟨Gk, vk, Fj, ik, xi, Sk, Xj, Ek⟩ := zcells4 O3.o; obtain ⟨zV, CV, FW, VV, VU, bW, AV, fW⟩ := zcells4 m6.o))
    refine bodyPost_ret (results_cell_row rfl _ _ M5 80 #[.bool B0, .slice zA YA.length AA, .slice DA RE.length BA, .slice cH cK.length YG] (0, 0) _ rfl (by (with_reducible repeat (first | apply qas | apply qaq | apply qam)); refine qaX (cs := #[.bool B0, .slice zA YA.length AA, .slice DA RE.length BA, .slice none 0 0]) ?_ 3 _ rfl; (with_reducible repeat (first | apply qas | apply qaq | apply qam)); refine qaX (cs := #[.bool B0, .slice zA YA.length AA, .slice none 0 0, .slice none 0 0]) ?_ 2 _ rfl; (with_reducible repeat (first | apply qas | apply qaq | apply qam)); refine qaX (cs := #[.bool B0, .slice none 0 0, .slice none 0 0, .slice none 0 0]) ?_ 1 _ rfl; (with_reducible repeat (first | apply qas | apply qaq | apply qam)); refine qaX (cs := #[.bool false, .slice none 0 0, .slice none 0 0, .slice none 0 0]) ?_ 0 _ rfl; (with_reducible repeat (first | apply qas | apply qaq | apply qam)); refine qbD ?_ jB.o _; (with_reducible repeat (first | apply qas | apply qaq | apply qam)); exact m6.o) Tryz.underlying80 rfl zdG) rfl ?_;exact ⟨_, _, _, zaM, by (with_reducible repeat (first | apply Kd.qbm | apply Kd.qbE | apply Kd.qbu)); exact Kd.qaU (Kd.qbp (p := ⟨M5, 3, none⟩) (Kd.qbp (p := ⟨M5, 2, none⟩) (Kd.qbp (p := ⟨M5, 1, none⟩) (Kd.qbp (p := ⟨M5, 0, none⟩) (Kd.qbp (p := ⟨U6, 3, none⟩) (Kd.qbg (Kd.qbg BB.o O3.o zdK) m6.o zdK) (fun _ hk => hk.1.2) (.slice cH cK.length YG)) (fun _ hk => hk.2) (.bool B0)) (fun _ hk => hk.2) (.slice zA YA.length AA)) (fun _ hk => hk.2) (.slice DA RE.length BA)) (fun _ hk => hk.2) (.slice cH cK.length YG)) (fun _ hk => trivial), by (with_reducible repeat (first | apply Kd.qbm | apply Kd.qbE | apply Kd.qbu)); exact Kd.qaU (Kd.qbp (p := ⟨M5, 3, none⟩) (Kd.qbp (p := ⟨M5, 2, none⟩) (Kd.qbp (p := ⟨M5, 1, none⟩) (Kd.qbp (p := ⟨M5, 0, none⟩) (Kd.qbp (p := ⟨U6, 3, none⟩) (Kd.qbg (Kd.qbg sH.o O3.o zdK) m6.o zdK) (fun _ hk => hk.1.2) (.slice cH cK.length YG)) (fun _ hk => hk.2) (.bool B0)) (fun _ hk => hk.2) (.slice zA YA.length AA)) (fun _ hk => hk.2) (.slice DA RE.length BA)) (fun _ hk => hk.2) (.slice cH cK.length YG)) (fun _ hk => trivial), by (with_reducible repeat (first | apply Kd.qbm | apply Kd.qbE | apply Kd.qbu)); exact Kd.qaU (Kd.qbp (p := ⟨M5, 3, none⟩) (Kd.qbp (p := ⟨M5, 2, none⟩) (Kd.qbp (p := ⟨M5, 1, none⟩) (Kd.qbp (p := ⟨M5, 0, none⟩) (Kd.qbp (p := ⟨U6, 3, none⟩) (Kd.qbg (Kd.qbg tY.o O3.o zdK) m6.o zdK) (fun _ hk => hk.1.2) (.slice cH cK.length YG)) (fun _ hk => hk.2) (.bool B0)) (fun _ hk => hk.2) (.slice zA YA.length AA)) (fun _ hk => hk.2) (.slice DA RE.length BA)) (fun _ hk => hk.2) (.slice cH cK.length YG)) (fun _ hk => trivial), zaf V7.o J9.o⟩
   ·rw [if_neg c4] at H;exact absurd H zdN
  ·rw [if_neg c3] at H;exact absurd H zdN
 ·rw [if_neg c2] at H;exact absurd H zdN
def S3 (g gn gu : Nat) (k : Nat) : Prop := k = g ∨ k = gn ∨ k = gu
structure BsAt (w0 w : World) (g gn cn gu cu : Nat) (b : List S80 × List Bool × Bool) : Prop where
 ge : w0.heap.size ≤ g
 blk : w.heap[g]? = some (.cells #[.slice (some ⟨gn, 0, none⟩) b.1.length cn, .slice (some ⟨gu, 0, none⟩) b.2.1.length cu, .bool b.2.2] 84 (0, 0))
 nodes : Kd.S k80 80 w w0.heap.size (fun _ => True) (.slice (some ⟨gn, 0, none⟩) b.1.length cn) b.1
 used : Kd.R Kd.bool 4 w w0.heap.size (fun _ => True) (.slice (some ⟨gu, 0, none⟩) b.2.1.length cu) b.2.1
theorem BsAt.below {w0 w w1 : World} {g gn cn gu cu : Nat} {b : List S80 × List Bool × Bool} (h : BsAt w0 w g gn cn gu cu b) (hb : Below w.heap.size w w1) : BsAt w0 w1 g gn cn gu cu b := ⟨h.ge, qab h.blk hb, Kd.qaO h.nodes hb, Kd.qa7 h.used hb⟩
theorem qbT (g n c : Nat) : (Value.slice (some ⟨g, 0, none⟩) n c).ownBlock = some g := rfl
theorem BsAt.tn {w0 w : World} {g gn cn gu cu : Nat} {b : List S80 × List Bool × Bool} (h : BsAt w0 w g gn cn gu cu b) : ∃ cells, w.heap[gn]? = some (.cells cells 80 (0, 0)) := Kd.qcL h.nodes gn (qbT _ _ _)
theorem BsAt.tu {w0 w : World} {g gn cn gu cu : Nat} {b : List S80 × List Bool × Bool} (h : BsAt w0 w g gn cn gu cu b) : ∃ cells, w.heap[gu]? = some (.cells cells 4 (0, 0)) := Kd.qcZ h.used gu (qbT _ _ _)
theorem qb9 {w : World} {a b t u : Nat} {x y : Array Value} (h : w.heap[a]? = some (.cells x t (0, 0))) (k : w.heap[b]? = some (.cells y u (0, 0))) (hne : t ≠ u) : a ≠ b := fun e => by
 subst e;rw [h] at k;injection k with k
 injection k with _ e _
 exact hne e
theorem BsAt.apart {w0 w : World} {g gn cn gu cu : Nat} {b : List S80 × List Bool × Bool} (h : BsAt w0 w g gn cn gu cu b) : g ≠ gn ∧ g ≠ gu ∧ gn ≠ gu := by
 obtain ⟨x, hx⟩ := h.tn;obtain ⟨y, hy⟩ := h.tu;exact ⟨qb9 h.blk hx zdK, qb9 h.blk hy zdK, qb9 hx hy zdK⟩
theorem BsAt.other {w0 w : World} {g gn cn gu cu : Nat} {b : List S80 × List Bool × Bool} (h : BsAt w0 w g gn cn gu cu b) {k t : Nat} {x : Array Value} (hk : w.heap[k]? = some (.cells x t (0, 0))) (h1 : t ≠ 84) (h2 : t ≠ 80) (h3 : t ≠ 4) : ¬ S3 g gn gu k := by
 obtain ⟨y, hy⟩ := h.tn;obtain ⟨z, hz⟩ := h.tu;rintro (e | e | e)
 ·exact qb9 hk h.blk h1 e
 ·exact qb9 hk hy h2 e
 ·exact qb9 hk hz h3 e
theorem BsAt.lts {w0 w : World} {g gn cn gu cu : Nat} {b : List S80 × List Bool × Bool} (h : BsAt w0 w g gn cn gu cu b) : g < w.heap.size ∧ gn < w.heap.size ∧ gu < w.heap.size := by
 obtain ⟨y, hy⟩ := h.tn;obtain ⟨z, hz⟩ := h.tu;exact ⟨qbo h.blk, qbo hy, qbo hz⟩
theorem qdI {w w1 : World} {g gn gu : Nat} (h : Kept w w1 (S3 g gn gu)) {p : Addr} (hp : S3 g gn gu p.block) (u : Value) : Kept w (w1.setCell p u) (S3 g gn gu) := h.setCell (.inl hp) u
def set4 (w : World) (g o : Nat) (v0 v1 v2 v3 : Value) : World := (((w.setCell ⟨g, o, none⟩ v0).setCell ⟨g, o + 1, none⟩ v1).setCell ⟨g, o + 2, none⟩ v2).setCell ⟨g, o + 3, none⟩ v3
theorem qfI {α : Type} {d : Kd α} {e : Nat} {w : World} {base : Nat} {ok : Nat → Prop} {v : Value} {xs : List α} {g o : Nat} (h : d.R e w base ok v xs) (hg : ∀ k, ok k → k ≠ g) (v0 v1 v2 v3 : Value) : d.R e (set4 w g o v0 v1 v2 v3) base ok v xs :=
 Kd.qbp (p := ⟨g, o + 3, none⟩) (Kd.qbp (p := ⟨g, o + 2, none⟩) (Kd.qbp (p := ⟨g, o + 1, none⟩) (Kd.qbp (p := ⟨g, o, none⟩) h hg v0) hg v1) hg v2) hg v3
theorem qel {w : World} {g o k : Nat} {x : Array Value} {t : TypeId} (h : w.heap[k]? = some (.cells x t (0, 0))) (hne : k ≠ g) (v0 v1 v2 v3 : Value) : (set4 w g o v0 v1 v2 v3).heap[k]? = some (.cells x t (0, 0)) := qbD (qbD (qbD (qbD h hne v0) hne v1) hne v2) hne v3
theorem qgl {w0 w : World} {B g o : Nat} (h : Below B w0 w) (hg : B ≤ g) (v0 v1 v2 v3 : Value) : Below B w0 (set4 w g o v0 v1 v2 v3) := (((h.setCell (p := ⟨g, o, none⟩) hg v0).setCell (p := ⟨g, o + 1, none⟩) hg v1).setCell (p := ⟨g, o + 2, none⟩) hg v2).setCell (p := ⟨g, o + 3, none⟩) hg v3
theorem kept4 {w w1 : World} {g gn gu o : Nat} (h : Kept w w1 (S3 g gn gu)) (v0 v1 v2 v3 : Value) : Kept w (set4 w1 gn o v0 v1 v2 v3) (S3 g gn gu) := qdI (qdI (qdI (qdI h (p := ⟨gn, o, none⟩) (.inr (.inl rfl)) v0) (p := ⟨gn, o + 1, none⟩) (.inr (.inl rfl)) v1) (p := ⟨gn, o + 2, none⟩) (.inr (.inl rfl)) v2) (p := ⟨gn, o + 3, none⟩) (.inr (.inl rfl)) v3
theorem S_put {w : World} {base N gn n cap i : Nat} {ns : List S80} (hS : Kd.S k80 80 w base (fun k => k < N) (.slice (some ⟨gn, 0, none⟩) n cap) ns) (hi : i < n) (x : S80) {v1 v2 v3 : Value} {o1 o2 o3 : Nat → Prop} (h1 : Kd.R k61 61 w N o1 v1 x.f1) (h2 : Kd.R Kd.string 9 w N o2 v2 x.f2) (h3 : Kd.R (Kd.int .i64) 3 w N o3 v3 x.f3) (hb : base ≤ N) (hc : v1.oneCell' = true ∧ v2.oneCell' = true ∧ v3.oneCell' = true) :
  Kd.S k80 80 (set4 w gn (i * 4) (.bool x.f0) v1 v2 v3) base (fun _ => True) (.slice (some ⟨gn, 0, none⟩) n cap) (ns.set i x) := by
 have hg : gn < N := (Kd.S_R hS).1 gn (qbT _ _ _);obtain ⟨oki, c, hcl, _, _, _, hH⟩ := Kd.qlb hS z80 (i : Int) zdM zdM;have hH2 := Kd.qlc (okg := fun k => N ≤ k) (ok := fun _ => True) (Kd.H_mono hH (fun k hk => ⟨trivial, zdM⟩)) (fun _ _ => trivial);have hs := (Kd.H_seg hH2 zdM zdM (seg := [.bool x.f0, v1, v2, v3]) (j := 0) (by show 0 + 4 ≤ 4; omega) (fun q hq => by
  simp only [List.mem_cons, List.not_mem_nil, or_false] at hq
  rcases hq with rfl | rfl | rfl | rfl
  ·rfl
  ·exact hc.1
  ·exact hc.2.1
  ·exact hc.2.2)).1
 have hcs : (c.take 0 ++ [.bool x.f0, v1, v2, v3] ++ c.drop (0 + [Value.bool x.f0, v1, v2, v3].length)) = [.bool x.f0, v1, v2, v3] := by
  have : c.drop 4 = [] := List.drop_eq_nil_of_le (by rw [hcl]; exact Nat.le_refl 4)
  show [] ++ [.bool x.f0, v1, v2, v3] ++ c.drop 4 = _
  rw [this];rfl
 rw [hcs] at hs;have hW : w.setCells gn ((i : Int).toNat * k80.sz + 0) [.bool x.f0, v1, v2, v3] = set4 w gn (i * 4) (.bool x.f0) v1 v2 v3 := by
  rw [Int.toNat_natCast];rfl
 rw [hW] at hs;have hr : ∀ {α : Type} {d : Kd α} {e : Nat} {o : Nat → Prop} {v : Value} {xs : List α}, d.R e w N o v xs → d.E = [] → d.R e (set4 w gn (i * 4) (.bool x.f0) v1 v2 v3) base (fun k => N ≤ k) v xs := fun h hE => by
  have h0 := Kd.qhU hE (ok := fun k => N ≤ k) h (fun k hk => Kd.qdt h k hk);exact Kd.qa3 (qfI h0 (fun k hk => zdM) _ _ _ _) hb
 have := Kd.H_back hs (qfs _ base (fun k => N ≤ k) x (hr h1 rfl) (hr h2 rfl) (hr h3 rfl)) (fun k hk => .inr hk)
 rwa [Int.toNat_natCast] at this
theorem qe7 (x : S80) (h : x.f1.length ≤ 2000000 ∧ x.f2.length ≤ 2000000 ∧ x.f3.length ≤ 2000000) : qb3.f x.f0 x.f1 x.f2 x.f3 = some (x.f0, x.f1, x.f2, x.f3) := by
 unfold qb3.f;rw [Option.bind_some, if_pos zdF, Option.bind_some, if_pos zdF, Option.bind_some, if_pos zdF];rfl
end Go.Proofs.YtcdokcpiahbejaaGreat.X
